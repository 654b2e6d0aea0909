/-
 Kit, Bytes, BloomP, BloomP2, BloomP3a, BloomP3, BloomP4, BloomP5, BloomP6, Kit2, Kit3, Kit4, Kit12, Kit5, Kit6, Kit7, Kit8, Kit9, Kit10, Kit11, Kit13, Kit14, Kit15, Kit16, Kit17, Kit18, Kit19, Kit20, Kit21.
-/
import Derived.BigQuiet
import Derived.Deep.AppendLies
import Derived.Deep.Draws
import Derived.Deep.MidRow
import Derived.Deep.QuietTactic
import Derived.Deep.RegionHeld3
import Derived.Laws.BitsAllLaws
import Derived.Laws.CopyOwn
import Derived.Laws.IdiomStrings
import Derived.Laws.OwnMore
import Derived.Lib.Hide
import Derived.Maps.AppendAt
import Derived.Maps.OwnSet
import Derived.WalkKit
import Derived.WalkLawsBesides
import Derived.WalkSpells
namespace Go.Proofs.YtfdbcfaeiglbeaaGreatDoor
open Go.RowKit
theorem ret_int {k:IntKind} {a b:Int} (h:a=b):Ending.returned (.int k a) = .returned (.int k b):=by rw [h]
theorem ret_bool {a b:Bool} (h:a=b):Ending.returned (.bool a) = .returned (.bool b):=by rw [h]
def Reads (w:World) (B size:Nat) (A:Option Addr) (n:Nat) (xs:List Value):Prop :=
 xs.length=n * size∧(0 < n→∃ b o,A=some ⟨b,o,none⟩∧b < B∧∀ j u,xs[j]?=some u→w.cell? ⟨b,o + j,none⟩=some u)
section
variable {w w' : World} {B B' size n : Nat} {A : Option Addr} {xs : List Value}
theorem Reads.nil:Reads w B size A 0 []:=⟨by simp,fun h=>absurd h (by omega)⟩
theorem Reads.keep (h:Reads w B size A n xs) (hk:∀ p:Addr,p.block < B→w'.cell? p=w.cell? p):Reads w' B size A n xs :=
 ⟨h.1,fun hn=>by
  obtain ⟨b,o,e,hb,hc⟩:=h.2 hn
  exact ⟨b,o,e,hb,fun j u hu=>(hk _ hb).trans (hc j u hu)⟩⟩
theorem Reads.more (h:Reads w B size A n xs) (hB:B≤B'):Reads w B' size A n xs :=
 ⟨h.1,fun hn=>by
  obtain ⟨b,o,e,hb,hc⟩:=h.2 hn
  exact ⟨b,o,e,by omega,hc⟩⟩
theorem Reads.below (h:Reads w B size A n xs) (hb:Below B w w'):Reads w' B size A n xs:=h.keep fun _ hp=>hb.cell hp
theorem Reads.alloc (h:Reads w B size A n xs) (hB:B≤w.heap.size) (o:Obj):Reads (w.alloc o) B size A n xs:=h.keep fun p hp=>World.cell?_alloc_lt w o p (by omega)
theorem Reads.drew (h:Reads w B size A n xs):Reads w.drew B size A n xs:=h
theorem Reads.grown (h:Reads w B size A n xs) {row:Option Nat} (hg:w.grownBy w' row) (hB:B≤w.heap.size) (hr:∀ g,row=some g→B≤g):Reads w' B size A n xs :=
 h.keep fun p hp=>World.cell?_of_block (hg.block p.block (by omega) (fun e=>by have:=hr _ e.symm;omega))
theorem Reads.take (h:Reads w B size A n xs) {m:Nat} (hm:m≤n):Reads w B size A m (xs.take (m * size)) :=
 ⟨by rw [List.length_take,h.1,Nat.min_eq_left (Nat.mul_le_mul_right _ hm)],fun h0=>by
  obtain ⟨b,o,e,hb,hc⟩:=h.2 (by omega)
  exact ⟨b,o,e,hb,fun j u hu=>hc j u (by rw [List.getElem?_take] at hu;split at hu <;> simp_all)⟩⟩
theorem Reads.new (w:World) (c:Array Value) (t:TypeId) (size n:Nat) (h:c.size=n * size):Reads (w.alloc (.cells c t)) (w.heap.size + 1) size (some ⟨w.heap.size,0,none⟩) n c.toList :=
 ⟨by simpa using h,fun _=>⟨w.heap.size,0,rfl,by omega,fun j u hu=>by simpa using hu⟩⟩
theorem Reads.own {base:Nat} {e:TypeId} {c:Nat} (h:w.ownsRow base e size (.slice A n c) n xs):Reads w w.heap.size size A n xs:=by
 refine ⟨h.1,fun hn=>?_⟩
 rcases h.2 with ⟨hv,h0⟩ | ⟨g,cap,cur,hv,hb,hg,_⟩
 ·omega
 ·have hA:A=some ⟨g,0,none⟩:=by injection hv
  subst hA
  refine ⟨g,0,rfl,(Array.getElem?_eq_some_iff.1 hg).1,fun j u hu=>?_⟩
  have:=h.cells (g:=g) rfl j u hu
  rw [Nat.zero_add]
  unfold Addr.add at this
  split at this
  ·rename_i h0;subst h0;exact this
  ·simpa using this
end
structure SliceOf (P:Program) (t e:TypeId) (size bytes:Nat):Prop where
  slice:P.underlying t=some (.slice e)
  info:∃ i z,P.info? e=some i∧i.zero=some z∧i.size=size∧i.bytes=bytes∧z.cells.size=size
  pos:0 < size
theorem SliceOf.mk' {P:Program} {t e:TypeId} {size bytes:Nat} {z:Value} (h:P.underlying t=some (.slice e)) (hi:(P.info? e).map (fun i=>(i.zero,i.size,i.bytes))=some (some z,size,bytes)) (hz:z.cells.size=size) (hp:0 < size):SliceOf P t e size bytes:=by
 obtain ⟨i,h1,h2,h3,h4⟩:=info_parts hi
 exact ⟨h,⟨i,z,h1,h2,h3,h4,hz⟩,hp⟩
section
variable {P : Program} (w : World)
theorem run_append_of_nil (base:Nat) (t ty e:TypeId) (i:TypeInfo) (size:Nat) (ht:P.underlying t=some (.slice e)) (hi:P.info? e=some i)
  (v:Value) (n:Nat) (xs:List Value) (hown:w.ownsRow base e size v n xs) (c:Nat):(Builtin.append_ #[t,t] ty #[v,.slice none 0 c]).run P w = .ok v w:=by
 rcases hown.2 with ⟨rfl,rfl⟩ | ⟨g,cap,cur,rfl,_,_,hnc,_⟩
 ·simp [Builtin.append_,run_underlying ht,sizeOf,typeInfo,hi,Builtin.lenOf,Builtin.firstCells]
 ·simp [Builtin.append_,run_underlying ht,sizeOf,typeInfo,hi,Builtin.lenOf,Builtin.firstCells,hnc,storeCells]
theorem run_append_reads {t ty e:TypeId} {size bytes:Nat} (hs:SliceOf P t e size bytes) (base:Nat) (v:Value) (n:Nat) (xs:List Value) (hown:w.ownsRow base e size v n xs)
  (B:Nat) (A:Option Addr) (m c:Nat) (news:List Value) (hr:Reads w B size A m news) (h1:∀ u ∈ news,u.oneCell'=true)
  (h63:n + m≤maxLen) (hbytes:(n + m) * bytes≤140737488355328) (hbase:base≤w.heap.size) :
  ∃ v' w',(Builtin.append_ #[t,t] ty #[v,.slice A m c]).run P w = .ok v' w'∧w'.ownsRow base e size v' (n + m) (xs ++ news)∧w.grownBy w' v.ownBlock ∧
   (v'.ownBlock=v.ownBlock∨v'.ownBlock=some w.heap.size):=by
 obtain ⟨ht,⟨i,z,hi,hz,hsize,hby,hzs⟩,hsz⟩:=hs
 rcases A with _ | ad
 ·have hm:m=0:=by
   rcases Nat.eq_zero_or_pos m with h0 | h0
   ·exact h0
   ·obtain ⟨b,o,h,_⟩:=hr.2 h0
    cases h
  subst hm
  have hn:news=[]:=List.eq_nil_of_length_eq_zero (by simpa using hr.1)
  subst hn
  exact ⟨v,w,run_append_of_nil w base t ty e i size ht hi v n xs hown c,by simpa using hown,World.grownBy.refl w _,.inl rfl⟩
 ·have hcells:∀ j u,news[j]?=some u→w.cell? (ad.add j)=some u:=by
   intro j u hu
   rcases Nat.eq_zero_or_pos m with h0 | h0
   ·subst h0
    have hn:news=[]:=List.eq_nil_of_length_eq_zero (by simpa using hr.1)
    subst hn
    simp at hu
   ·obtain ⟨b,o,h,_,hc⟩:=hr.2 h0
    injection h with h
    subst h
    have:=hc j u hu
    unfold Addr.add
    split
    ·rename_i h0;subst h0;exact this
    ·exact this
  obtain ⟨v',w',hrun,h2,h3,_,h5⟩:=run_append_own_at (P:=P) w base t ty e i z size bytes ht hi hz hsize hby hzs hsz v n xs hown ad m c news hr.1 hcells h1 h63 hbytes hbase
  exact ⟨v',w',hrun,h2,h3,h5⟩
theorem wp_append_reads {o:Oper} {a:Act} {K:Act→World→Prop} {Q:Exit→Act→World→Prop} (s x:Operand) {t e:TypeId} {size bytes:Nat}
  (ho:o.op = .call { callee := .builtin .append,args:=#[s,x],argTypes:=#[t,t] }) (hS:SliceOf P t e size bytes)
  (base:Nat) (v:Value) (n:Nat) (xs:List Value) (hs:a.eval s=v) (hown:w.ownsRow base e size v n xs)
  (B:Nat) (A:Option Addr) (m c:Nat) (news:List Value) (hx:a.eval x = .slice A m c) (hr:Reads w B size A m news) (h1:∀ u ∈ news,u.oneCell'=true)
  (h63:n + m≤maxLen) (hbytes:(n + m) * bytes≤140737488355328) (hbase:base≤w.heap.size)
  (h:∀ v' w',w'.ownsRow base e size v' (n + m) (xs ++ news)→w.grownBy w' v.ownBlock→(v'.ownBlock=v.ownBlock∨v'.ownBlock=some w.heap.size)→K (a.put o.dst v') w'):o.wp P a w K Q:=by
 obtain ⟨v',w',hrun,h2,h3,h4⟩:=run_append_reads (P:=P) w (ty:=o.type) hS base v n xs hown B A m c news hr h1 h63 hbytes hbase
 unfold Oper.wp execOp
 simp only [ho,resolve,invoke,builtin,Sem.run_bind,Sem.run_pure,Result.andThen_ok,List.map_toArray,List.map_cons,List.map_nil,hs,hx,hrun]
 exact h v' w' h2 h3 h4
theorem wpList_append_reads {ops:Array Oper} {rest:List Oper} {o:Oper} {a:Act} {Q:Exit→Act→World→Prop} (hgd:o.guard=none) (s x:Operand) {t e:TypeId} {size bytes:Nat}
  (ho:o.op = .call { callee := .builtin .append,args:=#[s,x],argTypes:=#[t,t] }) (hS:SliceOf P t e size bytes)
  (base:Nat) (v:Value) (n:Nat) (xs:List Value) (hs:a.eval s=v) (hown:w.ownsRow base e size v n xs)
  (B:Nat) (A:Option Addr) (m c:Nat) (news:List Value) (hx:a.eval x = .slice A m c) (hr:Reads w B size A m news) (h1:∀ u ∈ news,u.oneCell'=true)
  (h63:n + m≤maxLen) (hbytes:(n + m) * bytes≤140737488355328) (hbase:base≤w.heap.size)
  (h:∀ v' w',w'.ownsRow base e size v' (n + m) (xs ++ news)→w.grownBy w' v.ownBlock→(v'.ownBlock=v.ownBlock∨v'.ownBlock=some w.heap.size)→wpList P ops Q rest (a.put o.dst v') w'):wpList P ops Q (o::rest) a w :=
 wpList_plain hgd fun _ hK=>wp_append_reads w s x ho hS base v n xs hs hown B A m c news hx hr h1 h63 hbytes hbase fun v' w' h2 h3 h4=>hK _ _ (h v' w' h2 h3 h4)
end
theorem own_form {w:World} {base e size n:Nat} {v:Value} {xs:List Value} (h:w.ownsRow base e size v n xs) (hn:0 < n) :
  ∃ g cap,v = .slice (some ⟨g,0,none⟩) n cap∧base≤g∧g < w.heap.size∧n≤cap∧cap≤maxLen:=by
 rcases h.2 with ⟨_,h0⟩ | ⟨g,cap,cur,hv,hb,hg,hc,hm,_⟩
 ·omega
 ·exact ⟨g,cap,hv,hb,(Array.getElem?_eq_some_iff.1 hg).1,hc,hm⟩
theorem below_app {B:Nat} {a w w':World} {v:Value} {e size n base:Nat} {xs:List Value} (h:Below B a w) (hown:w.ownsRow base e size v n xs) (hg:w.grownBy w' v.ownBlock) (hB:B≤w.heap.size) (hb:B≤base):Below B a w' :=
 h.grown hg hB fun k hk=>Nat.le_trans hb (hown.lt k hk).1
theorem grown_trans {a b c:World} {r:Option Nat} (h:a.grownBy b r) (k:b.grownBy c r):a.grownBy c r :=
 ⟨k.os.trans h.os,k.tape.trans h.tape,k.output.trans h.output,Nat.le_trans h.size k.size,fun i hi hr=>(k.block i (Nat.lt_of_lt_of_le hi h.size) hr).trans (h.block i hi hr)⟩
theorem below_grown {a b:World} (h:Below a.heap.size a b) (r:Option Nat):a.grownBy b r:=⟨h.os,h.tape,h.output,h.size,fun i hi _=>h.block i hi⟩
theorem own_below {w w':World} {base e size n:Nat} {v:Value} {xs:List Value} (h:w.ownsRow base e size v n xs) (hb:Below w.heap.size w w'):w'.ownsRow base e size v n xs:=by
 refine h.kept (below_grown hb none) ?_
 cases hv:v.ownBlock <;> simp
structure Later (W:World) where
  w:World
  h:Below W.heap.size W w
def Later.now (W:World):Later W:=⟨W,Below.refl _ _⟩
instance (W:World):Nonempty (Later W):=⟨Later.now W⟩
def Later.then {W:World} (L:Later W) {w':World} (h:Below L.w.heap.size L.w w'):Later W:=⟨w',L.h.trans (h.mono L.h.size)⟩
theorem Later.cell {W:World} (L:Later W) {p:Addr} (v:Value) (h:W.cell? p=some v):L.w.cell? p=some v :=
 (L.h.cell (World.block_lt_of_cell? W p h)).trans h
theorem cell_alloc_old {w:World} {p:Addr} {v:Value} {o:Obj} (h:w.cell? p=some v):(w.alloc o).cell? p=some v :=
 (World.cell?_alloc_lt w o p (World.block_lt_of_cell? w p h)).trans h
theorem cell_below {w w':World} {p:Addr} {v:Value} (hb:Below w.heap.size w w') (h:w.cell? p=some v):w'.cell? p=some v :=
 (hb.cell (World.block_lt_of_cell? w p h)).trans h
theorem bcells {W w1:World} (hb:Below W.heap.size W w1):(∀ b o,b < W.heap.size→w1.cell? ⟨b,o,none⟩=W.cell? ⟨b,o,none⟩)∧(∀ b o,b < W.heap.size→w1.frozen? ⟨b,o,none⟩=W.frozen? ⟨b,o,none⟩)∧(∀ b,b < W.heap.size→b < w1.heap.size) :=
 ⟨fun b o h=>hb.cell (p:=⟨b,o,none⟩) h,fun b o h=>hb.frozen (p:=⟨b,o,none⟩) h,fun _ h=>Nat.lt_of_lt_of_le h hb.size⟩
section
variable {P : Program}
end
def u8v (c:UInt8):Value := .int .u8 (c.toNat:Int)
def u8s (l:List UInt8):List Value:=l.map u8v
theorem u8s_length (l:List UInt8):(u8s l).length=l.length:=by simp [u8s]
theorem u8s_append (a b:List UInt8):u8s (a ++ b)=u8s a ++ u8s b:=by simp [u8s]
theorem u8s_one (l:List UInt8):∀ u ∈ u8s l,u.oneCell'=true:=by
 intro u hu
 obtain ⟨c,_,rfl⟩:=List.mem_map.1 hu
 rfl
theorem u8s_at {l:List UInt8} {k:Nat} {c:UInt8} (h:l[k]?=some c):(u8s l)[k]?=some (.int .u8 (c.toNat:Int)):=by
 simp [u8s,h,u8v]
def RB (w:World) (B:Nat) (A:Option Addr) (n:Nat) (l:List UInt8):Prop:=Reads w B 1 A n (u8s l)
section
variable {w w' : World} {B B' n : Nat} {A : Option Addr} {l : List UInt8}
theorem RB.len (h:RB w B A n l):l.length=n:=by have:=h.1;rw [u8s_length,Nat.mul_one] at this;exact this
theorem RB.mk' (hn:l.length=n) (h:0 < n→∃ b o,A=some ⟨b,o,none⟩∧b < B∧∀ j c,l[j]?=some c→w.cell? ⟨b,o + j,none⟩=some (.int .u8 (c.toNat:Int))):RB w B A n l :=
 ⟨by rw [u8s_length,Nat.mul_one];exact hn,fun h0=>by
  obtain ⟨b,o,e,hb,hc⟩:=h h0
  refine ⟨b,o,e,hb,fun j u hu=>?_⟩
  simp only [u8s,List.getElem?_map,Option.map_eq_some_iff] at hu
  obtain ⟨c,hj,rfl⟩:=hu
  exact hc j c hj⟩
theorem RB.nil:RB w B A 0 []:=Reads.nil
theorem RB.at_ (h:RB w B A n l) {k:Nat} (hk:k < n):∃ b o c,A=some ⟨b,o,none⟩∧b < B∧l[k]?=some c∧w.cell? ⟨b,o + k,none⟩=some (.int .u8 (c.toNat:Int)):=by
 obtain ⟨b,o,e,hb,hc⟩:=h.2 (by omega)
 have hl:=h.len
 have hk':l[k]?=some (l[k]'(by omega)):=List.getElem?_eq_getElem (by omega)
 exact ⟨b,o,_,e,hb,hk',hc k _ (u8s_at hk')⟩
theorem RB.cell {b o:Nat} (h:RB w B (some ⟨b,o,none⟩) n l) {k:Nat} {c:UInt8} (hc:l[k]?=some c):w.cell? ⟨b,o + k,none⟩=some (.int .u8 (c.toNat:Int)):=by
 have hk:k < l.length:=(List.getElem?_eq_some_iff.1 hc).1
 obtain ⟨b',o',e,_,h'⟩:=h.2 (by have:=h.len;omega)
 injection e with e;injection e with e1 e2
 subst e1;subst e2
 exact h' k _ (u8s_at hc)
theorem RB.more (h:RB w B A n l) (hB:B≤B'):RB w B' A n l:=Reads.more h hB
theorem RB.below (h:RB w B A n l) (hb:Below B w w'):RB w' B A n l:=Reads.below h hb
theorem RB.later (h:RB w w.heap.size A n l) (hb:Below w.heap.size w w'):RB w' w'.heap.size A n l:=(h.below hb).more hb.size
theorem RB.own {base:Nat} {e:TypeId} {c:Nat} (h:w.ownsRow base e 1 (.slice A n c) n (u8s l)):RB w w.heap.size A n l:=Reads.own h
theorem RB.take (h:RB w B A n l) {m:Nat} (hm:m≤n):RB w B A m (l.take m):=by
 have:=Reads.take h hm
 rwa [Nat.mul_one,show (u8s l).take m=u8s (l.take m) from by simp [u8s]] at this
theorem RB.drop (h:RB w B A n l) {k cap:Nat} (hk:k≤n) (hc:n≤cap):RB w B (if cap=k then A else A.map (·.add k)) (n - k) (l.drop k):=by
 refine RB.mk' (by rw [List.length_drop,h.len]) fun hn=>?_
 obtain ⟨b,o,rfl,hb,hcell⟩:=h.2 (by omega)
 rw [if_neg (by omega)]
 refine ⟨b,o + k,?_,hb,fun j c hj=>?_⟩
 ·simp only [Option.map_some]
  unfold Addr.add
  split
  ·rename_i h0;subst h0;rfl
  ·rfl
 ·rw [Nat.add_assoc]
  rw [List.getElem?_drop] at hj
  exact hcell _ _ (u8s_at hj)
end
theorem take_snoc {α:Type} {l:List α} {k:Nat} {c:α} (h:l[k]?=some c):l.take (k + 1)=l.take k ++ [c]:=by
 obtain ⟨hk,e⟩:=List.getElem?_eq_some_iff.1 h
 rw [List.take_succ_eq_append_getElem hk,e]
theorem take_all {α:Type} {l:List α} {k:Nat} (h:l.length≤k):l.take k=l:=List.take_of_length_le h
def RBs (w:World) (B:Nat) (A:Option Addr) (n:Nat) (ks:List (List UInt8)):Prop :=
 ∃ vs:List Value,Reads w B 1 A n vs∧vs.length=ks.length∧∀ (i:Nat) (k:List UInt8),ks[i]?=some k→∃ (a:Option Addr) (c:Nat),vs[i]?=some (.slice a k.length c)∧k.length≤c∧c≤9223372036854775807∧(a=none→c=0)∧RB w B a k.length k
section
variable {w w' : World} {B B' n : Nat} {A : Option Addr} {ks : List (List UInt8)}
theorem RBs.len (h:RBs w B A n ks):ks.length=n:=by obtain ⟨vs,h1,h2,_⟩:=h;have:=h1.1;omega
theorem RBs.below (h:RBs w B A n ks) (hb:Below B w w'):RBs w' B A n ks:=by
 obtain ⟨vs,h1,h2,h3⟩:=h
 exact ⟨vs,h1.below hb,h2,fun i k hk=>by obtain ⟨a,c,q1,q2,q3,q4,q5⟩:=h3 i k hk;exact ⟨a,c,q1,q2,q3,q4,q5.below hb⟩⟩
theorem RBs.more (h:RBs w B A n ks) (hB:B≤B'):RBs w B' A n ks:=by
 obtain ⟨vs,h1,h2,h3⟩:=h
 exact ⟨vs,h1.more hB,h2,fun i k hk=>by obtain ⟨a,c,q1,q2,q3,q4,q5⟩:=h3 i k hk;exact ⟨a,c,q1,q2,q3,q4,q5.more hB⟩⟩
theorem RBs.later (h:RBs w w.heap.size A n ks) (hb:Below w.heap.size w w'):RBs w' w'.heap.size A n ks:=(h.below hb).more hb.size
theorem RBs.at_ (h:RBs w B A n ks) {i:Nat} (hi:i < n):∃ b o k a c,A=some ⟨b,o,none⟩∧b < B∧ks[i]?=some k∧w.cell? ⟨b,o + i,none⟩=some (.slice a k.length c)∧k.length≤c∧c≤9223372036854775807∧(a=none→c=0)∧RB w B a k.length k:=by
 have hl:=h.len
 obtain ⟨vs,h1,h2,h3⟩:=h
 obtain ⟨b,o,e,hb,hc⟩:=h1.2 (by omega)
 have hk:ks[i]?=some (ks[i]'(by omega)):=List.getElem?_eq_getElem (by omega)
 obtain ⟨a,c,q1,q2,q3,q4,q5⟩:=h3 i _ hk
 exact ⟨b,o,_,a,c,e,hb,hk,hc i _ q1,q2,q3,q4,q5⟩
end
def hPrime:Nat:=1099511628211
def hBegin:Nat:=14695981039346656037
def two64:Nat:=18446744073709551616
def hStep (h:Nat) (c:UInt8):Nat:=((h ^^^ c.toNat) * hPrime) % two64
def hashN (l:List UInt8):Nat:=l.foldl hStep hBegin
theorem hashN_snoc (l:List UInt8) (c:UInt8):hashN (l ++ [c])=hStep (hashN l) c:=by
 unfold hashN;rw [List.foldl_append,List.foldl_cons,List.foldl_nil]
theorem hStep_lt (h:Nat) (c:UInt8):hStep h c < two64:=Nat.mod_lt _ (by unfold two64;omega)
theorem hashN_lt (l:List UInt8):hashN l < two64:=by
 rcases List.eq_nil_or_concat l with rfl | ⟨a,c,rfl⟩
 ·show hBegin < two64
  unfold hBegin two64;omega
 ·rw [List.concat_eq_append,hashN_snoc];exact hStep_lt _ _
def hHi (l:List UInt8):Nat:=hashN l / 4294967296
def hLo (l:List UInt8):Nat:=(hashN l % 4294967296) ||| 1
theorem hHi_lt (l:List UInt8):hHi l < 4294967296:=by
 have:=hashN_lt l;unfold two64 at this;unfold hHi;omega
theorem hLo_lt (l:List UInt8):hLo l < 4294967296:=Nat.or_lt_two_pow (n:=32) (by omega) (by omega)
theorem hstep_walk (H:Nat) (x:UInt8) (hH:H < two64):IntKind.u64.wrap (bits .xor .u64 (H:Int) (IntKind.u64.wrap (x.toNat:Int)) * 1099511628211)=((hStep H x:Nat):Int):=by
 have hx:=x.toNat_lt
 have e1:IntKind.u64.wrap (x.toNat:Int)=(x.toNat:Int):=by rw [IntKind.wrap_u64];omega
 rw [e1,u64_xor_nat H x.toNat (by unfold two64 at hH;exact hH) (by omega),IntKind.wrap_u64]
 unfold hStep hPrime two64
 simp only [Int.natCast_emod,Int.natCast_mul]
 rfl
theorem hHi_walk (H:Nat):(H:Int) / 4294967296 % 4294967296=((H / 4294967296 % 4294967296:Nat):Int):=by omega
theorem hLo_walk (H:Nat):bits .or .u32 ((H:Int) % 4294967296) 1=((H % 4294967296 ||| 1:Nat):Int):=by
 have h:=u32_or_nat (H % 4294967296) 1 (by omega) (by omega)
 rw [← h];simp
def placeN (l:List UInt8) (m k:Nat):Nat:=(hHi l + k * hLo l) % 4294967296 % m
def placesN (l:List UInt8) (p m:Nat):List Nat:=(List.range p).map (placeN l m)
theorem placesN_succ (l:List UInt8) (p m:Nat):placesN l (p + 1) m=placesN l p m ++ [placeN l m p]:=by
 simp [placesN,List.range_succ]
theorem placeN_lt (l:List UInt8) (m k:Nat) (hm:0 < m):placeN l m k < m:=Nat.mod_lt _ hm
def maskN (t:Nat):Nat:=128 / 2 ^ t
def bitAt (l:List UInt8) (at':Nat):Bool:=((l[6 + at' / 8]?.getD 0).toNat &&& maskN (at' % 8)) != 0
def orBit (x:UInt8) (t:Nat):UInt8:=UInt8.ofNat (x.toNat ||| maskN t)
def setBit (l:List UInt8) (at':Nat):List UInt8:=l.set (6 + at' / 8) (orBit (l[6 + at' / 8]?.getD 0) (at' % 8))
def setAll (l:List UInt8) (ps:List Nat):List UInt8:=ps.foldl setBit l
theorem setAll_snoc (l:List UInt8) (ps:List Nat) (p:Nat):setAll l (ps ++ [p])=setBit (setAll l ps) p:=by simp [setAll,List.foldl_append]
theorem maskN_lt (t:Nat):maskN t < 256:=by
 unfold maskN
 have:=Nat.div_le_self 128 (2 ^ t)
 omega
theorem maskN_walk (t:Nat):(128:Int) / 2 ^ t=((maskN t:Nat):Int):=by
 unfold maskN
 rw [Int.natCast_ediv,Int.natCast_pow];rfl
theorem bit_walk (x:UInt8) (t:Nat):(bits .and .u8 (x.toNat:Int) ((128:Int) / 2 ^ t) != 0)=((x.toNat &&& maskN t) != 0):=by
 have hx:=x.toNat_lt
 rw [maskN_walk,u8_and_nat x.toNat (maskN t) (by omega) (maskN_lt t)]
 rw [Bool.eq_iff_iff,bne_iff_ne,bne_iff_ne];omega
theorem orBit_walk (x:UInt8) (t:Nat):bits .or .u8 (x.toNat:Int) ((128:Int) / 2 ^ t)=(((orBit x t).toNat:Nat):Int):=by
 have hx:=x.toNat_lt
 have h:=Nat.or_lt_two_pow (n:=8) (x:=x.toNat) (y:=maskN t) (by omega) (maskN_lt t)
 rw [maskN_walk,u8_or_nat x.toNat (maskN t) (by omega) (maskN_lt t)]
 unfold orBit
 rw [UInt8.toNat_ofNat',Nat.mod_eq_of_lt h]
def headN (x2 x3 x4 x5:UInt8):Nat:=((x2.toNat * 256 + x3.toNat) * 256 + x4.toNat) * 256 + x5.toNat
def shapeP (l:List UInt8):Nat:=if l.length < 6∨l[0]? ≠ some 66 then 0 else (l[1]?.getD 0).toNat
def shapeM (l:List UInt8):Nat:=if l.length < 6∨l[0]? ≠ some 66 then 0 else headN (l[2]?.getD 0) (l[3]?.getD 0) (l[4]?.getD 0) (l[5]?.getD 0)
def isF (l:List UInt8):Bool:=decide (1≤shapeP l∧shapeP l≤14∧64≤shapeM l∧shapeM l≤20971520∧shapeM l % 8=0∧l.length=6 + shapeM l / 8)
theorem headN_lt (x2 x3 x4 x5:UInt8):headN x2 x3 x4 x5 < 4294967296:=by
 have:=x2.toNat_lt;have:=x3.toNat_lt;have:=x4.toNat_lt;have:=x5.toNat_lt
 unfold headN;omega
theorem shl_or (a b k:Nat) (h:b < 2 ^ k):(a * 2 ^ k) ||| b=a * 2 ^ k + b:=by
 rw [← Nat.shiftLeft_eq,Nat.shiftLeft_add_eq_or_of_lt h]
theorem head_walk (x2 x3 x4 x5:UInt8):((x2.toNat * 16777216 ||| x3.toNat * 65536) ||| x4.toNat * 256) ||| x5.toNat=headN x2 x3 x4 x5:=by
 have h2:=x2.toNat_lt;have h3:=x3.toNat_lt;have h4:=x4.toNat_lt;have h5:=x5.toNat_lt
 unfold headN
 have e1:x2.toNat * 16777216 ||| x3.toNat * 65536=(x2.toNat * 256 + x3.toNat) * 65536:=by
  have:=shl_or x2.toNat (x3.toNat * 65536) 24 (by omega)
  rw [show (2:Nat) ^ 24=16777216 from rfl] at this
  rw [this];omega
 have e2:(x2.toNat * 256 + x3.toNat) * 65536 ||| x4.toNat * 256=((x2.toNat * 256 + x3.toNat) * 256 + x4.toNat) * 256:=by
  have:=shl_or (x2.toNat * 256 + x3.toNat) (x4.toNat * 256) 16 (by omega)
  rw [show (2:Nat) ^ 16=65536 from rfl] at this
  rw [this];omega
 have e3:=shl_or ((x2.toNat * 256 + x3.toNat) * 256 + x4.toNat) x5.toNat 8 (by omega)
 rw [show (2:Nat) ^ 8=256 from rfl] at e3
 rw [e1,e2,e3]
theorem head_bits (x2 x3 x4 x5:UInt8):bits .or .u32 (bits .or .u32 (bits .or .u32 ((x2.toNat:Int) * 16777216) ((x3.toNat:Int) * 65536)) ((x4.toNat:Int) * 256)) (x5.toNat:Int)=((headN x2 x3 x4 x5:Nat):Int):=by
 have h2:=x2.toNat_lt;have h3:=x3.toNat_lt;have h4:=x4.toNat_lt;have h5:=x5.toNat_lt
 rw [show (x2.toNat:Int) * 16777216=((x2.toNat * 16777216:Nat):Int) from by omega,show (x3.toNat:Int) * 65536=((x3.toNat * 65536:Nat):Int) from by omega,show (x4.toNat:Int) * 256=((x4.toNat * 256:Nat):Int) from by omega]
 have l1:=Nat.or_lt_two_pow (n:=32) (x:=x2.toNat * 16777216) (y:=x3.toNat * 65536) (by omega) (by omega)
 have l2:=Nat.or_lt_two_pow (n:=32) (x:=x2.toNat * 16777216 ||| x3.toNat * 65536) (y:=x4.toNat * 256) l1 (by omega)
 rw [u32_or_nat _ _ (by omega) (by omega),u32_or_nat _ _ (by omega) (by omega),u32_or_nat _ _ (by omega) (by omega),head_walk]
def pack8 (b0 b1 b2 b3 b4 b5 b6 b7:Bool):Nat :=
 (if b0 then 128 else 0) + (if b1 then 64 else 0) + (if b2 then 32 else 0) + (if b3 then 16 else 0) + (if b4 then 8 else 0) + (if b5 then 4 else 0) + (if b6 then 2 else 0) + (if b7 then 1 else 0)
def bf_packB (f:Nat→Bool):UInt8:=UInt8.ofNat (pack8 (f 0) (f 1) (f 2) (f 3) (f 4) (f 5) (f 6) (f 7))
theorem pack_fin:∀ (b0 b1 b2 b3 b4 b5 b6 b7:Bool) (t:Fin 8),orBit (UInt8.ofNat (pack8 b0 b1 b2 b3 b4 b5 b6 b7)) t.val =
  UInt8.ofNat (pack8 (b0 || t.val == 0) (b1 || t.val == 1) (b2 || t.val == 2) (b3 || t.val == 3) (b4 || t.val == 4) (b5 || t.val == 5) (b6 || t.val == 6) (b7 || t.val == 7)):=by decide +kernel
theorem bit_fin:∀ (b0 b1 b2 b3 b4 b5 b6 b7:Bool) (t:Fin 8),(((UInt8.ofNat (pack8 b0 b1 b2 b3 b4 b5 b6 b7)).toNat &&& maskN t.val) != 0) =
  (match t.val with | 0=>b0 | 1=>b1 | 2=>b2 | 3=>b3 | 4=>b4 | 5=>b5 | 6=>b6 | _=>b7):=by decide +kernel
theorem packB_or (f:Nat→Bool) (t:Nat) (ht:t < 8):orBit (bf_packB f) t=bf_packB (fun i=>f i || t == i):=pack_fin _ _ _ _ _ _ _ _ ⟨t,ht⟩
theorem packB_bit (f:Nat→Bool) (t:Nat) (ht:t < 8):(((bf_packB f).toNat &&& maskN t) != 0)=f t:=by
 have h:=bit_fin (f 0) (f 1) (f 2) (f 3) (f 4) (f 5) (f 6) (f 7) ⟨t,ht⟩
 unfold bf_packB
 rw [h]
 match t,ht with
 | 0,_=>rfl
 | 1,_=>rfl
 | 2,_=>rfl
 | 3,_=>rfl
 | 4,_=>rfl
 | 5,_=>rfl
 | 6,_=>rfl
 | 7,_=>rfl
theorem packB_ext {f g:Nat→Bool} (h:∀ t,t < 8→f t=g t):bf_packB f=bf_packB g:=by
 unfold bf_packB
 rw [h 0 (by decide),h 1 (by decide),h 2 (by decide),h 3 (by decide),h 4 (by decide),h 5 (by decide),h 6 (by decide),h 7 (by decide)]
theorem packB_no:bf_packB (fun _=>false)=0:=rfl
def headB (p m:Nat):List UInt8:=[66,UInt8.ofNat p,UInt8.ofNat (m / 16777216),UInt8.ofNat (m / 65536),UInt8.ofNat (m / 256),UInt8.ofNat m]
def filterB (p m:Nat) (S:Nat→Bool):List UInt8:=headB p m ++ (List.range (m / 8)).map fun j=>bf_packB fun t=>S (8 * j + t)
theorem filterB_length (p m:Nat) (S:Nat→Bool):(filterB p m S).length=6 + m / 8:=by simp [filterB,headB];omega
theorem filterB_at (p m:Nat) (S:Nat→Bool) (j:Nat) (hj:j < m / 8):(filterB p m S)[6 + j]?=some (bf_packB fun t=>S (8 * j + t)):=by
 unfold filterB
 rw [List.getElem?_append_right (by simp [headB])]
 simp only [headB,List.length_cons,List.length_nil]
 rw [show 6 + j - (0 + 1 + 1 + 1 + 1 + 1 + 1)=j from by omega,List.getElem?_map,List.getElem?_range hj];rfl
theorem filterB_head (p m:Nat) (S:Nat→Bool) (j:Nat) (hj:j < 6):(filterB p m S)[j]?=(headB p m)[j]?:=by
 unfold filterB
 rw [List.getElem?_append_left (by simp [headB];omega)]
theorem filterB_ext (p m:Nat) {S T:Nat→Bool} (h:∀ i,i < m→S i=T i):filterB p m S=filterB p m T:=by
 unfold filterB
 congr 1
 apply List.map_congr_left
 intro j hj
 have hj:=List.mem_range.1 hj
 exact packB_ext fun t ht=>h _ (by omega)
theorem filterB_set (p m:Nat) (S:Nat→Bool) (i:Nat) (hi:i < m) (h8:m % 8=0):setBit (filterB p m S) i=filterB p m (fun k=>S k || i == k):=by
 have hj:i / 8 < m / 8:=by omega
 unfold setBit
 rw [filterB_at p m S (i / 8) hj]
 apply List.ext_getElem?
 intro k
 rw [List.getElem?_set]
 by_cases e:6 + i / 8=k
 ·rw [if_pos e,if_pos (by rw [filterB_length];omega),← e,filterB_at _ _ _ _ hj]
  simp only [Option.getD_some]
  rw [packB_or _ _ (by omega)]
  congr 1
  apply packB_ext
  intro t ht
  have:(i % 8 == t)=(i == 8 * (i / 8) + t):=by
   rw [Bool.eq_iff_iff,beq_iff_eq,beq_iff_eq];omega
  rw [this]
 ·rw [if_neg e]
  by_cases hk:k < 6
  ·rw [filterB_head _ _ _ _ hk,filterB_head _ _ _ _ hk]
  ·by_cases hk2:k < 6 + m / 8
   ·obtain ⟨j,rfl⟩:∃ j,k=6 + j:=⟨k - 6,by omega⟩
    rw [filterB_at _ _ _ _ (by omega),filterB_at _ _ _ _ (by omega)]
    congr 1
    apply packB_ext
    intro t ht
    have:(i == 8 * j + t)=false:=by rw [beq_eq_false_iff_ne];omega
    rw [this,Bool.or_false]
   ·rw [List.getElem?_eq_none (by rw [filterB_length];omega),List.getElem?_eq_none (by rw [filterB_length];omega)]
theorem filterB_setAll (p m:Nat) (h8:m % 8=0):∀ (ps:List Nat) (S:Nat→Bool),(∀ x ∈ ps,x < m)→setAll (filterB p m S) ps=filterB p m (fun k=>S k || ps.contains k)
 | [],S,_=>by simp [setAll]
 | x::ps,S,h=>by
  show setAll (setBit (filterB p m S) x) ps=_
  rw [filterB_set p m S x (h x (by simp)) h8,filterB_setAll p m h8 ps _ (fun y hy=>h y (by simp [hy]))]
  apply filterB_ext
  intro i _
  rw [List.contains_cons,Bool.or_assoc]
  congr 2
  rw [Bool.eq_iff_iff,beq_iff_eq,beq_iff_eq];exact eq_comm
theorem filterB_bit (p m:Nat) (S:Nat→Bool) (i:Nat) (hi:i < m) (h8:m % 8=0):bitAt (filterB p m S) i=S i:=by
 unfold bitAt
 rw [filterB_at p m S (i / 8) (by omega)]
 simp only [Option.getD_some]
 rw [packB_bit _ _ (by omega)]
 congr 1;omega
theorem placesN_lt (l:List UInt8) (p m:Nat) (hm:0 < m):∀ x ∈ placesN l p m,x < m:=by
 intro x hx
 obtain ⟨k,_,rfl⟩:=List.mem_map.1 hx
 exact placeN_lt l m k hm
def hdr0 (p m:Nat):List UInt8:=((List.replicate (6 + m / 8) 0).set 0 66).set 1 (UInt8.ofNat p)
def hdrTo (p m:Nat):Nat→List UInt8
 | 0=>hdr0 p m
 | k + 1=>(hdrTo p m k).set (2 + k) (UInt8.ofNat (m / 2 ^ (24 - 8 * k)))
theorem hdrTo_length (p m k:Nat):(hdrTo p m k).length=6 + m / 8:=by
 induction k with
 | zero=>simp [hdrTo,hdr0]
 | succ k ih=>simp [hdrTo,ih]
theorem hdr_done (p m:Nat):hdrTo p m 4=filterB p m (fun _=>false):=by
 have e:(List.range (m / 8)).map (fun j=>bf_packB fun t=>(fun _=>false) (8 * j + t))=List.replicate (m / 8) 0:=by
  rw [List.eq_replicate_iff]
  refine ⟨by simp,fun b hb=>?_⟩
  obtain ⟨_,_,rfl⟩:=List.mem_map.1 hb
  exact packB_no
 unfold filterB
 rw [e]
 have e2:List.replicate (6 + m / 8) (0:UInt8)=[0,0,0,0,0,0] ++ List.replicate (m / 8) 0:=by
  rw [← List.replicate_append_replicate];rfl
 simp only [hdrTo,hdr0,e2,headB]
 simp
end Go.Proofs.YtfdbcfaeiglbeaaGreatDoor
namespace Go.Proofs.YtfdbcfaeiglbeaaGreatDoor
open Go.RowKit Go.Maps
def addK (acc:List (List UInt8)) (k:List UInt8):List (List UInt8):=if acc.contains k then acc else acc ++ [k]
def unl (ks:List (List UInt8)):List (List UInt8):=ks.foldl addK []
theorem mem_addK (acc:List (List UInt8)) (k x:List UInt8):x ∈ addK acc k↔x ∈ acc∨x=k:=by
 unfold addK
 split
 ·rename_i h
  have h:=List.contains_iff_mem.1 h
  constructor
  ·exact .inl
  ·rintro (h1 | rfl)
   ·exact h1
   ·exact h
 ·simp
theorem mem_foldK (ks acc:List (List UInt8)) (x:List UInt8):x ∈ ks.foldl addK acc↔x ∈ acc∨x ∈ ks:=by
 induction ks generalizing acc with
 | nil=>simp
 | cons k ks ih=>rw [List.foldl_cons,ih,mem_addK];simp [or_assoc]
theorem mem_unl (ks:List (List UInt8)) (x:List UInt8):x ∈ unl ks↔x ∈ ks:=by unfold unl;rw [mem_foldK];simp
theorem nodup_foldK (ks acc:List (List UInt8)) (h:acc.Nodup):(ks.foldl addK acc).Nodup:=by
 induction ks generalizing acc with
 | nil=>exact h
 | cons k ks ih =>
  rw [List.foldl_cons]
  refine ih _ ?_
  unfold addK
  split
  ·exact h
  ·rename_i hk
   have hk:k ∉ acc:=fun hm=>hk (List.contains_iff_mem.2 hm)
   rw [List.nodup_append]
   exact ⟨h,by simp,fun a ha b hb=>by rw [List.mem_singleton.1 hb];intro e;exact hk (e ▸ ha)⟩
theorem nodup_unl (ks:List (List UInt8)):(unl ks).Nodup:=nodup_foldK _ _ List.nodup_nil
theorem length_le_of_nodup {α:Type} [DecidableEq α]:∀ {a b:List α},a.Nodup→(∀ x ∈ a,x ∈ b)→a.length≤b.length
 | [],_,_,_=>by simp
 | x::a,b,hn,h=>by
  have hn:=List.nodup_cons.1 hn
  have hb:x ∈ b:=h x (by simp)
  have:=length_le_of_nodup (a:=a) (b:=b.erase x) hn.2 (fun y hy=>(List.mem_erase_of_ne (fun e:y=x=>hn.1 (e ▸ hy))).2 (h y (by simp [hy])))
  rw [List.length_erase_of_mem hb] at this
  have:0 < b.length:=List.length_pos_of_mem hb
  simp only [List.length_cons];omega
theorem unl_le (ks:List (List UInt8)):(unl ks).length≤ks.length:=length_le_of_nodup (nodup_unl ks) fun x hx=>(mem_unl ks x).1 hx
theorem str_same (a b:List UInt8):(Lit.string a).sameKey (Lit.string b)=(a == b):=by
 rw [Bool.eq_iff_iff,WideAt.sameKey_iff (by trivial)]
 simp
theorem keys_lit (ks:List (List UInt8)):∀ x ∈ ks.map Lit.string,WideAt.IsKeyLit x:=by
 intro x hx
 obtain ⟨k,_,rfl⟩:=List.mem_map.1 hx
 trivial
theorem size_keys (ks:List (List UInt8)):Maps.size (setOf (H:=Unit) (.lit (.bool true)) (ks.map Lit.string))=(unl ks).length:=by
 rw [size_setOf _ _ (keys_lit ks)]
 have:∀ (ks acc:List (List UInt8)),(ks.map Lit.string).foldl addKey (acc.map Lit.string)=(ks.foldl addK acc).map Lit.string:=by
  intro ks
  induction ks with
  | nil=>intro acc;rfl
  | cons k ks ih =>
   intro acc
   rw [List.map_cons,List.foldl_cons,List.foldl_cons,← ih]
   congr 1
   unfold addKey addK
   have:(acc.map Lit.string).any (fun y=>y.sameKey (.string k))=acc.contains k:=by
    rw [List.any_map,Bool.eq_iff_iff,List.any_eq_true,List.contains_iff_mem]
    constructor
    ·rintro ⟨x,hx,h⟩
     rw [Function.comp_apply,str_same,beq_iff_eq] at h
     exact h ▸ hx
    ·intro h
     exact ⟨k,h,by rw [Function.comp_apply,str_same,beq_iff_eq]⟩
   rw [this]
   split <;> simp
 have h:=this ks []
 rw [List.map_nil] at h
 rw [h]
 simp [unl]
theorem has_keys (ks:List (List UInt8)) (k:List UInt8):Maps.has (setOf (H:=Unit) (.lit (.bool true)) (ks.map Lit.string)) (.string k)=ks.contains k:=by
 rw [has_setOf _ _ _ (keys_lit ks),List.any_map,Bool.eq_iff_iff,List.any_eq_true,List.contains_iff_mem]
 constructor
 ·rintro ⟨x,hx,h⟩
  rw [Function.comp_apply,str_same,beq_iff_eq] at h
  exact h ▸ hx
 ·intro h
  exact ⟨k,h,by rw [Function.comp_apply,str_same,beq_iff_eq]⟩
def buildP (bits:Int):Nat:=max 1 (7 * bits.toNat / 10)
def buildM (bits:Int) (ks:List (List UInt8)):Nat:=max 64 (((unl ks).length * bits.toNat + 7) / 8 * 8)
def buildS (p m:Nat) (ks:List (List UInt8)):Nat→Bool:=fun i=>ks.any fun k=>(placesN k p m).contains i
def buildB (bits:Int) (ks:List (List UInt8)):List UInt8:=filterB (buildP bits) (buildM bits ks) (buildS (buildP bits) (buildM bits ks) ks)
def buildE (bits:Int) (ks:List (List UInt8)):Nat:=if bits < 1∨20 < bits then 60 else if 1048576 < ks.length then 61 else 0
theorem buildM_mod (bits:Int) (ks:List (List UInt8)):buildM bits ks % 8=0:=by unfold buildM;omega
theorem buildM_ge (bits:Int) (ks:List (List UInt8)):64≤buildM bits ks:=by unfold buildM;omega
theorem buildE_zero {bits:Int} {ks:List (List UInt8)} (h:buildE bits ks=0):1≤bits∧bits≤20∧ks.length≤1048576:=by
 unfold buildE at h
 split at h
 ·cases h
 ·split at h
  ·cases h
  ·omega
theorem buildM_raw {bits:Int} {ks:List (List UInt8)} (h1:1≤bits) (h2:bits≤20) (h3:ks.length≤1048576):(unl ks).length * bits.toNat≤20971520:=by
 have:=unl_le ks
 exact Nat.mul_le_mul (Nat.le_trans this h3) (show bits.toNat≤20 by omega)
theorem buildM_le {bits:Int} {ks:List (List UInt8)} (h:buildE bits ks=0):buildM bits ks≤20971520:=by
 obtain ⟨h1,h2,h3⟩:=buildE_zero h
 have:=buildM_raw h1 h2 h3
 unfold buildM;omega
theorem buildP_le {bits:Int} {ks:List (List UInt8)} (h:buildE bits ks=0):1≤buildP bits∧buildP bits≤14:=by
 obtain ⟨h1,h2,h3⟩:=buildE_zero h
 unfold buildP;omega
theorem buildB_length (bits:Int) (ks:List (List UInt8)):(buildB bits ks).length=6 + buildM bits ks / 8:=filterB_length _ _ _
def doneS (p m:Nat) (ks:List (List UInt8)) (left:Lit→Bool):Nat→Bool:=fun i=>ks.any fun k=>!left (.string k) && (placesN k p m).contains i
theorem doneS_start (p m:Nat) (ks:List (List UInt8)) (left:Lit→Bool) (h:∀ k ∈ ks,left (.string k)=true):doneS p m ks left=fun _=>false:=by
 funext i
 unfold doneS
 rw [List.any_eq_false]
 intro k hk
 rw [h k hk];simp
theorem doneS_end (p m:Nat) (ks:List (List UInt8)) (left:Lit→Bool) (h:∀ k,left k=false):doneS p m ks left=buildS p m ks:=by
 funext i
 unfold doneS buildS
 simp [h]
theorem doneS_step (p m:Nat) (ks:List (List UInt8)) (left:Lit→Bool) (k:List UInt8) (hk:k ∈ ks) (i:Nat) :
  (doneS p m ks left i || (placesN k p m).contains i)=doneS p m ks (fun z=>left z && !z.sameKey (.string k)) i:=by
 unfold doneS
 rw [Bool.eq_iff_iff]
 simp only [Bool.or_eq_true,List.any_eq_true,Bool.and_eq_true,Bool.not_eq_true',str_same,Bool.and_eq_false_iff,Bool.not_eq_false',beq_iff_eq]
 constructor
 ·rintro (⟨x,hx,h1,h2⟩ | h)
  ·exact ⟨x,hx,.inl h1,h2⟩
  ·exact ⟨k,hk,.inr rfl,h⟩
 ·rintro ⟨x,hx,h1 | rfl,h2⟩
  ·exact .inl ⟨x,hx,h1,h2⟩
  ·exact .inr h2
end Go.Proofs.YtfdbcfaeiglbeaaGreatDoor
namespace Go.Proofs.YtfdbcfaeiglbeaaGreatDoor
open Go.RowKit
theorem wrap64_self {x:Int} (h1:-9223372036854775808≤x) (h2:x < 9223372036854775808):wrap64 x=x:=by unfold wrap64;omega
theorem build_nums (nb:Nat) (ks:List (List UInt8)) (U P Q M R p D L:Nat) (hU:U=(unl ks).length) (hU2:U * nb≤20971520) (hnb1:1≤nb) (hnb2:nb≤20) (hP:P=U * nb) (hQ:Q=(P + 7) / 8) (hM:M=buildM nb ks) (hR:R=7 * nb / 10) (hp:p=buildP nb) (hD:D=M / 8) (hL:L=6 + D) :
  wrap64 ((U:Int) * (nb:Int))=(P:Int)∧wrap64 ((P:Int) + 7)=(P:Int) + 7∧wrap64 (((P:Int) + 7).tdiv 8)=(Q:Int)∧wrap64 ((Q:Int) * 8)=(Q:Int) * 8∧max 64 ((Q:Int) * 8)=(M:Int)∧wrap64 (7 * (nb:Int))=7 * (nb:Int) ∧
  wrap64 ((7 * (nb:Int)).tdiv 10)=(R:Int)∧max 1 (R:Int)=(p:Int)∧(M:Int) % 4294967296=(M:Int)∧wrap64 ((M:Int).tdiv 8)=(D:Int)∧wrap64 (6 + (D:Int))=(L:Int)∧7 * (nb:Int) / 10=(R:Int)∧(M:Int) / 8=(D:Int)∧6 + (D:Int)=(L:Int)∧M≤20971520∧64≤M∧M % 8=0∧1≤p∧p≤14∧14≤L∧L≤2621446:=by
 have e1:(U:Int) * (nb:Int)=(P:Int):=by rw [← Int.natCast_mul,← hP]
 rw [← hP] at hU2
 have hMQ:M=max 64 (Q * 8):=by
  rw [hM,hQ,hP,hU]
  show max 64 (((unl ks).length * (nb:Int).toNat + 7) / 8 * 8)=_
  rw [Int.toNat_natCast]
 have hpR:p=max 1 R:=by
  rw [hp,hR]
  show max 1 (7 * (nb:Int).toNat / 10)=_
  rw [Int.toNat_natCast]
 clear hM hp hU hP
 have hM1:M≤20971520∧64≤M∧M % 8=0:=by omega
 rw [e1]
 refine ⟨wrap64_self (by omega) (by omega),wrap64_self (by omega) (by omega),?_,wrap64_self (by omega) (by omega),by omega,wrap64_self (by omega) (by omega),?_,by omega,by omega,?_,?_,by omega,by omega,by omega,hM1.1,hM1.2.1,hM1.2.2,by omega,by omega,by omega,by omega⟩
 ·rw [Int.tdiv_eq_ediv_of_nonneg (by omega),wrap64_self (by omega) (by omega)];omega
 ·rw [Int.tdiv_eq_ediv_of_nonneg (by omega),wrap64_self (by omega) (by omega)];omega
 ·rw [Int.tdiv_eq_ediv_of_nonneg (by omega),wrap64_self (by omega) (by omega)];omega
 ·rw [wrap64_self (by omega) (by omega)];omega
theorem filterB_shape (p m:Nat) (S:Nat→Bool) (hp:p < 256) (hm:m < 4294967296):shapeP (filterB p m S)=p∧shapeM (filterB p m S)=m:=by
 have e0:=filterB_head p m S 0 (by decide)
 have e1:=filterB_head p m S 1 (by decide)
 have e2:=filterB_head p m S 2 (by decide)
 have e3:=filterB_head p m S 3 (by decide)
 have e4:=filterB_head p m S 4 (by decide)
 have e5:=filterB_head p m S 5 (by decide)
 have hl:=filterB_length p m S
 unfold headB at e0 e1 e2 e3 e4 e5
 have hif:¬((filterB p m S).length < 6∨(filterB p m S)[0]? ≠ some 66):=by rw [e0,hl];simp
 unfold shapeP shapeM
 rw [if_neg hif,if_neg hif,e1,e2,e3,e4,e5]
 simp only [List.getElem?_cons_succ,List.getElem?_cons_zero,Option.getD_some]
 unfold headN
 simp only [UInt8.toNat_ofNat']
 constructor <;> omega
theorem filterB_isF (p m:Nat) (S:Nat→Bool) (hp1:1≤p) (hp2:p≤14) (hm1:64≤m) (hm2:m≤20971520) (h8:m % 8=0):isF (filterB p m S)=true:=by
 obtain ⟨e1,e2⟩:=filterB_shape p m S (by omega) (by omega)
 unfold isF
 rw [e1,e2,filterB_length]
 exact decide_eq_true ⟨hp1,hp2,hm1,hm2,h8,rfl⟩
section
variable {bits : Int} {ks js : List (List UInt8)}
theorem buildB_isF (h:buildE bits ks=0):isF (buildB bits ks)=true :=
 filterB_isF _ _ _ (buildP_le h).1 (buildP_le h).2 (buildM_ge _ _) (buildM_le h) (buildM_mod _ _)
end
section
variable {P : Program} {w : World}
theorem run_string_RB {B n:Nat} {A:Option Addr} {l:List UInt8} (c:Nat) (h:RB w B A n l) {src dst e:TypeId} (hs:P.underlying src=some (.slice e)) (he:P.underlying e=some (.int .u8)) (hd:P.underlying dst=some .string) :
  (convert src dst (.slice A n c)).run P w = .ok (.string ⟨l.toArray⟩) w:=by
 have hl:=h.len
 cases A with
 | none =>
  have hn:n=0:=by
   rcases Nat.eq_zero_or_pos n with h0 | h0
   ·exact h0
   ·obtain ⟨_,_,e,_⟩:=h.2 h0
    cases e
  have hl0:l=[]:=List.eq_nil_of_length_eq_zero (by omega)
  subst hl0
  rw [run_convert_bytes_string w src dst e none n c hs he hd]
  rfl
 | some ad =>
  subst hl
  refine run_convert_bytes_back w src dst e ad c l hs he hd fun j hj=>?_
  obtain ⟨b,o,e,_,hc⟩:=h.2 (by omega)
  injection e with e
  subst e
  have:=hc j _ (u8s_at (List.getElem?_eq_getElem hj))
  unfold Addr.add
  split
  ·rename_i h0;subst h0;exact this
  ·exact this
theorem bytes_reads (s:ByteArray) (cap:Nat) (t:TypeId) (fr:Nat×Nat):RB (w.alloc (.cells (bytesRow s cap) t fr)) (w.heap.size + 1) (some ⟨w.heap.size,0,none⟩) s.size s.data.toList:=by
 refine RB.mk' (by rw [Array.length_toList];rfl) fun _=>⟨w.heap.size,0,rfl,by omega,fun j c hj=>?_⟩
 rw [Nat.zero_add,World.cell?_alloc_mark]
 have hlt:j < s.data.size:=by
  have:=(List.getElem?_eq_some_iff.1 hj).1
  simpa using this
 rw [bytesRow_at s cap j hlt]
 rw [Array.getElem?_toList,Array.getElem?_eq_getElem hlt] at hj
 injection hj with hj
 rw [hj]
variable {ops : Array Oper} {rest : List Oper} {o : Oper} {a : Act} {Q : Exit → Act → World → Prop}
theorem wpList_string_reads (hg:o.guard=none) (x:Operand) (src dst e:TypeId) (hop:o.op=Op.convert src dst x) (hs:P.underlying src=some (.slice e)) (he:P.underlying e=some (.int .u8)) (hd:P.underlying dst=some .string)
  {B n c:Nat} {A:Option Addr} {l:List UInt8} (hx:a.eval x = .slice A n c) (h:RB w B A n l)
  (hK:wpList P ops Q rest (a.put o.dst (.string ⟨l.toArray⟩)) w):wpList P ops Q (o::rest) a w:=by
 refine wpList_plain hg fun K' hK'=>?_
 have hrun:=run_string_RB (P:=P) (w:=w) c h hs he hd
 unfold Oper.wp
 simp [execOp,hop,hx,hrun,Result.andThen]
 exact hK' _ _ hK
theorem wpList_bytes_of (hg:o.guard=none) (x:Operand) (src dst e:TypeId) (hop:o.op=Op.convert src dst x) (hs:P.underlying src=some .string) (hd:P.underlying dst=some (.slice e)) (he:P.underlying e=some (.int .u8))
  (s:ByteArray) (hx:a.eval x = .string s)
  (hK:∀ cap w',RB w' w'.heap.size (some ⟨w.heap.size,0,none⟩) s.size s.data.toList→w.grownBy w' none→w'.heap.size=w.heap.size + 1→wpList P ops Q rest (a.put o.dst (.slice (some ⟨w.heap.size,0,none⟩) s.size cap)) w') :
  wpList P ops Q (o::rest) a w:=by
 refine wpList_plain hg fun K' hK'=>?_
 have hrun:=run_bytes_of_string (P:=P) w src dst e s hs hd he
 unfold Oper.wp
 simp [execOp,hop,hx,hrun,Result.andThen]
 refine hK' _ _ (hK _ _ ?_ (by have h:=World.grownBy_alloc w.drew (.cells (bytesRow s (grownCap w s.size 0 e)) e ((bytesRow s (grownCap w s.size 0 e)).size,(bytesRow s (grownCap w s.size 0 e)).size + 1)) none;exact ⟨h.os,h.tape,h.output,h.size,h.block⟩) (by simp))
 have:=bytes_reads (w:=w.drew) s (grownCap w s.size 0 e) e ((bytesRow s (grownCap w s.size 0 e)).size,(bytesRow s (grownCap w s.size 0 e)).size + 1)
 simpa using this
end
def KV (w:World) (B:Nat) (vs:List Value) (ks:List (List UInt8)):Prop :=
 vs.length=ks.length∧∀ (i:Nat) (k:List UInt8),ks[i]?=some k→∃ (a:Option Addr) (c:Nat),vs[i]?=some (.slice a k.length c)∧k.length≤c∧c≤9223372036854775807∧(a=none→c=0)∧RB w B a k.length k
section
variable {w w' : World} {B B' n : Nat} {A : Option Addr} {vs us : List Value} {ks js : List (List UInt8)}
theorem RBs.kv (h:RBs w B A n ks):∃ vs,Reads w B 1 A n vs∧KV w B vs ks:=by
 obtain ⟨vs,h1,h2,h3⟩:=h
 exact ⟨vs,h1,h2,h3⟩
theorem KV.rbs (h:KV w B vs ks) (hr:Reads w B 1 A n vs):RBs w B A n ks:=⟨vs,hr,h.1,h.2⟩
theorem KV.nil:KV w B [] []:=⟨rfl,fun i k h=>by simp at h⟩
theorem KV.below (h:KV w B vs ks) (hb:Below B w w'):KV w' B vs ks :=
 ⟨h.1,fun i k hk=>by obtain ⟨a,c,q1,q2,q3,q4,q5⟩:=h.2 i k hk;exact ⟨a,c,q1,q2,q3,q4,q5.below hb⟩⟩
theorem KV.more (h:KV w B vs ks) (hB:B≤B'):KV w B' vs ks :=
 ⟨h.1,fun i k hk=>by obtain ⟨a,c,q1,q2,q3,q4,q5⟩:=h.2 i k hk;exact ⟨a,c,q1,q2,q3,q4,q5.more hB⟩⟩
theorem KV.later (h:KV w w.heap.size vs ks) (hb:Below w.heap.size w w'):KV w' w'.heap.size vs ks:=(h.below hb).more hb.size
theorem KV.app (h:KV w B vs ks) (h':KV w B us js):KV w B (vs ++ us) (ks ++ js):=by
 refine ⟨by rw [List.length_append,List.length_append,h.1,h'.1],fun i k hk=>?_⟩
 rw [List.getElem?_append] at hk ⊢
 rw [h.1]
 split at hk
 ·rename_i hi
  rw [if_pos hi]
  exact h.2 i k hk
 ·rename_i hi
  rw [if_neg hi]
  exact h'.2 _ k hk
theorem KV.take (h:KV w B vs ks) (m:Nat):KV w B (vs.take m) (ks.take m):=by
 refine ⟨by rw [List.length_take,List.length_take,h.1],fun i k hk=>?_⟩
 rw [List.getElem?_take] at hk ⊢
 split at hk
 ·rename_i hi
  rw [if_pos hi];exact h.2 i k hk
 ·cases hk
theorem KV.drop (h:KV w B vs ks) (m:Nat):KV w B (vs.drop m) (ks.drop m):=by
 refine ⟨by rw [List.length_drop,List.length_drop,h.1],fun i k hk=>?_⟩
 rw [List.getElem?_drop] at hk ⊢
 exact h.2 _ k hk
theorem KV.cons {v:Value} {k:List UInt8} (h:KV w B vs ks) (hv:∃ (a:Option Addr) (c:Nat),v = .slice a k.length c∧k.length≤c∧c≤9223372036854775807∧(a=none→c=0)∧RB w B a k.length k):KV w B (v::vs) (k::ks):=by
 refine ⟨by simp [h.1],fun i x hx=>?_⟩
 cases i with
 | zero =>
  injection hx with hx;subst hx
  obtain ⟨a,c,rfl,q⟩:=hv
  exact ⟨a,c,rfl,q⟩
 | succ i=>exact h.2 i x hx
theorem KV.one (h:KV w B vs ks):∀ u ∈ vs,u.oneCell'=true:=by
 intro u hu
 obtain ⟨i,hi⟩:=List.getElem?_of_mem hu
 have hlt:=(List.getElem?_eq_some_iff.1 hi).1
 obtain ⟨a,c,q,_⟩:=h.2 i _ (List.getElem?_eq_getElem (by rw [← h.1];exact hlt))
 rw [q] at hi
 injection hi with hi
 subst hi;rfl
end
theorem own_slice {w:World} {base e size n:Nat} {v:Value} {xs:List Value} (h:w.ownsRow base e size v n xs) :
  ∃ (A:Option Addr) (c:Nat),v = .slice A n c∧n≤c∧c≤maxLen∧(A=none→c=0)∧Reads w w.heap.size size A n xs:=by
 rcases h.2 with ⟨rfl,h0⟩ | ⟨g,cap,cur,hv,hb,hg,hc,hm,_⟩
 ·subst h0
  exact ⟨none,0,rfl,Nat.le_refl _,Nat.zero_le _,fun _=>rfl,Reads.own h⟩
 ·subst hv
  exact ⟨_,cap,rfl,hc,hm,(fun e=>nomatch e),Reads.own h⟩
theorem own_nil (w:World) (base e size:Nat):w.ownsRow base e size (.slice none 0 0) 0 []:=⟨by simp,.inl ⟨rfl,rfl⟩⟩
def OwnB (T:TypeId) (base:Nat) (w:World) (A:Option Addr) (c:Nat) (l:List UInt8):Prop:=w.ownsRow base T 1 (.slice A l.length c) l.length (u8s l)
section
variable {T : TypeId} {base B : Nat} {w w' : World} {A : Option Addr} {c n : Nat} {l : List UInt8}
theorem OwnB.rb (h:OwnB T base w A c l):RB w w.heap.size A l.length l:=RB.own h
theorem OwnB.later (h:OwnB T base w A c l) (hb:Below w.heap.size w w'):OwnB T base w' A c l:=own_below h hb
theorem OwnB.rebase {base':Nat} (h:OwnB T base w A c l) (hb:base'≤base):OwnB T base' w A c l:=by
 refine ⟨h.1,?_⟩
 rcases h.2 with h' | ⟨g,cap,cur,h1,h2,h3⟩
 ·exact .inl h'
 ·exact .inr ⟨g,cap,cur,h1,Nat.le_trans hb h2,h3⟩
theorem OwnB.cap (h:OwnB T base w A c l):l.length≤c∧c≤maxLen∧(A=none→c=0):=by
 obtain ⟨A',c',e,h1,h2,h3,_⟩:=own_slice h
 injection e with e1 _ e2
 subst e1;subst e2
 exact ⟨h1,h2,h3⟩
theorem own_bytes {v:Value} (h:w.ownsRow base T 1 v n (u8s l)):∃ A c,v = .slice A l.length c∧OwnB T base w A c l:=by
 have hn:l.length=n:=by have:=h.1;rw [u8s_length] at this;omega
 subst hn
 obtain ⟨A,c,rfl,_⟩:=own_slice h
 exact ⟨A,c,rfl,h⟩
theorem own_named {v:Value} (h:w.ownsRow base T 1 v n (u8s l)):∃ L A c,Hid (L=l)∧Hid (L.length=n)∧v = .slice A L.length c∧OwnB T base w A c L:=by
 obtain ⟨A,c,e,ho⟩:=own_bytes h
 exact ⟨l,A,c,Lib.hid rfl,Lib.hid (by have:=h.1;rw [u8s_length] at this;omega),e,ho⟩
def BytesPost (T:TypeId) (l:List UInt8) (w:World) (e:Ending) (w':World):Prop :=
 ∃ A c,e = .returned (.slice A l.length c)∧OwnB T w.heap.size w' A c l∧Below w.heap.size w w'
theorem bytes_post {v:Value} (h:w'.ownsRow w.heap.size T 1 v n (u8s l)) (hb:Below w.heap.size w w'):BytesPost T l w (.returned v) w':=by
 obtain ⟨A,c,rfl,ho⟩:=own_bytes h
 exact ⟨A,c,rfl,ho,hb⟩
def BytesPost2 (T:TypeId) (l:List UInt8) (k:Int) (w:World) (e:Ending) (w':World):Prop :=
 ∃ A c,e = .returned (.tuple #[.slice A l.length c,.int .i64 k])∧OwnB T w.heap.size w' A c l∧Below w.heap.size w w'
theorem bytes_post2 {v:Value} {k:Int} (h:w'.ownsRow w.heap.size T 1 v n (u8s l)) (hb:Below w.heap.size w w'):BytesPost2 T l k w (.returned (.tuple #[v,.int .i64 k])) w':=by
 obtain ⟨A,c,rfl,ho⟩:=own_bytes h
 exact ⟨A,c,rfl,ho,hb⟩
theorem bytes_none2 {k:Int} (hb:Below w.heap.size w w'):BytesPost2 T [] k w (.returned (.tuple #[.slice none 0 0,.int .i64 k])) w':=bytes_post2 (n:=0) (own_nil _ _ _ _) hb
def BytesPost3 (T:TypeId) (l:List UInt8) (p k:Int) (w:World) (e:Ending) (w':World):Prop :=
 ∃ A c,e = .returned (.tuple #[.slice A l.length c,.int .i64 p,.int .i64 k])∧OwnB T w.heap.size w' A c l∧Below w.heap.size w w'
theorem bytes_post3 {v:Value} {p k:Int} (h:w'.ownsRow w.heap.size T 1 v n (u8s l)) (hb:Below w.heap.size w w'):BytesPost3 T l p k w (.returned (.tuple #[v,.int .i64 p,.int .i64 k])) w':=by
 obtain ⟨A,c,rfl,ho⟩:=own_bytes h
 exact ⟨A,c,rfl,ho,hb⟩
theorem bytes_none3 {p k:Int} (hb:Below w.heap.size w w'):BytesPost3 T [] p k w (.returned (.tuple #[.slice none 0 0,.int .i64 p,.int .i64 k])) w':=bytes_post3 (n:=0) (own_nil _ _ _ _) hb
end
theorem below_grown_drew {w w1:World} (h:w.drew.grownBy w1 none):Below w.heap.size w w1:=((Below.refl w.heap.size w).drew).grown h (Nat.le_refl _) (by simp)
theorem below_grown_none {w w1:World} (h:w.grownBy w1 none):Below w.heap.size w w1:=(Below.refl w.heap.size w).grown h (Nat.le_refl _) (by simp)
theorem below_drewN {B n:Nat} {w w1:World} (h:Below B w w1):Below B w (w1.drewN n):=⟨h.os,h.tape,h.output,h.size,h.block⟩
theorem i64_sum {x:Int} (h1:-9223372036854775808≤x) (h2:x≤9223372036854775807):IntKind.i64.wrap x=x:=IntWalk.i64_in _ ⟨h1,h2⟩
theorem reads_lit (w:World) (C:Array Value) (l:List UInt8) (t:TypeId) (fr:Nat×Nat) (hC:C.toList=u8s l):RB (w.alloc (.cells C t fr)) (w.heap.size + 1) (some ⟨w.heap.size,0,none⟩) l.length l :=
 RB.mk' rfl fun _=>⟨_,0,rfl,by omega,fun j c hj=>by
  rw [Nat.zero_add,World.cell?_alloc_mark,← Array.getElem?_toList,hC]
  exact u8s_at hj⟩
theorem rbs_one (w:World) (A:Option Addr) (n c:Nat) (l:List UInt8) (t:TypeId) (fr:Nat×Nat) (h1:n≤c) (h2:c≤9223372036854775807) (h3:A=none→c=0) (hr:RB w w.heap.size A n l) :
  RBs (w.alloc (.cells #[.slice A n c] t fr)) (w.heap.size + 1) (some ⟨w.heap.size,0,none⟩) 1 [l]:=by
 obtain rfl:=hr.len
 have hb:Below w.heap.size w (w.alloc (.cells #[.slice A l.length c] t fr)):=(Below.refl _ _).alloc (Nat.le_refl _) _
 refine (KV.nil.cons ⟨A,c,rfl,h1,h2,h3,(hr.below hb).more (by omega)⟩).rbs ⟨rfl,fun _=>⟨_,0,rfl,by omega,fun j u hu=>?_⟩⟩
 rw [Nat.zero_add,World.cell?_alloc_mark,← Array.getElem?_toList]
 exact hu
theorem OwnB.one {T:TypeId} {base:Nat} {w:World} {A:Option Addr} {c:Nat} {l:List UInt8} (h:OwnB T base w A c l) (t:TypeId) (fr:Nat×Nat) :
  RBs (w.alloc (.cells #[.slice A l.length c] t fr)) (w.heap.size + 1) (some ⟨w.heap.size,0,none⟩) 1 [l]:=by
 obtain ⟨h1,h2,h3⟩:=h.cap
 unfold maxLen at h2
 exact rbs_one w A l.length c l t fr h1 h2 h3 h.rb
structure Sl (w:World) (A:Option Addr) (n c:Nat) (l:List UInt8):Prop where
  rb:RB w w.heap.size A n l
  cap:n≤c
  lim:c≤9223372036854775807
  nil:A=none→c=0
section
variable {T : TypeId} {base : Nat} {w w' : World} {A : Option Addr} {c n m : Nat} {l : List UInt8}
theorem Sl.later (h:Sl w A n c l) (hb:Below w.heap.size w w'):Sl w' A n c l:=⟨h.rb.later hb,h.cap,h.lim,h.nil⟩
theorem Sl.len (h:Sl w A n c l):l.length=n:=h.rb.len
theorem Sl.le (h:Sl w A n c l):n≤9223372036854775807:=Nat.le_trans h.cap h.lim
theorem Sl.one (h:Sl w A n c l) (t:TypeId) (fr:Nat×Nat):RBs (w.alloc (.cells #[.slice A n c] t fr)) (w.alloc (.cells #[.slice A n c] t fr)).heap.size (some ⟨w.heap.size,0,none⟩) 1 [l] :=
 (rbs_one w A n c l t fr h.cap h.lim h.nil h.rb).more (by simp)
theorem Sl.take (h:Sl w A n c l) (hm:m≤n):Sl w A m c (l.take m):=⟨h.rb.take hm,Nat.le_trans hm h.cap,h.lim,h.nil⟩
theorem Sl.drop {k:Nat} (h:Sl w A n c l) (hk:k≤n) (hc:k < c):Sl w (A.map (·.add k)) (n - k) (c - k) (l.drop k):=by
 have h1:=h.rb.drop (k:=k) (cap:=c) hk h.cap
 rw [if_neg (by omega)] at h1
 refine ⟨h1,by have:=h.cap;omega,by have:=h.lim;omega,fun e=>?_⟩
 cases A with
 | none=>have:=h.nil rfl;omega
 | some _=>cases e
theorem Sl.own (h:OwnB T base w A c l):Sl w A l.length c l:=by
 obtain ⟨h1,h2,h3⟩:=h.cap
 unfold maxLen at h2
 exact ⟨h.rb,h1,h2,h3⟩
theorem BytesPost.at_ {e:Ending} (h:BytesPost T l w e w') (hn:l.length=n):∃ A c,e = .returned (.slice A n c)∧Sl w' A n c l∧OwnB T w.heap.size w' A c l∧Below w.heap.size w w':=by
 subst hn
 obtain ⟨A,c,rfl,ho,hb⟩:=h
 exact ⟨A,c,rfl,Sl.own ho,ho,hb⟩
theorem BytesPost2.at_ {e:Ending} {k k':Int} (h:BytesPost2 T l k w e w') (hn:l.length=n) (hk:k=k'):∃ A c,e = .returned (.tuple #[.slice A n c,.int .i64 k'])∧Sl w' A n c l∧OwnB T w.heap.size w' A c l∧Below w.heap.size w w':=by
 subst hn;subst hk
 obtain ⟨A,c,rfl,ho,hb⟩:=h
 exact ⟨A,c,rfl,Sl.own ho,ho,hb⟩
theorem BytesPost3.at_ {e:Ending} {p p' k k':Int} (h:BytesPost3 T l p k w e w') (hn:l.length=n) (hp:p=p') (hk:k=k'):∃ A c,e = .returned (.tuple #[.slice A n c,.int .i64 p',.int .i64 k'])∧Sl w' A n c l∧OwnB T w.heap.size w' A c l∧Below w.heap.size w w':=by
 subst hn;subst hp;subst hk
 obtain ⟨A,c,rfl,ho,hb⟩:=h
 exact ⟨A,c,rfl,Sl.own ho,ho,hb⟩
theorem Sl.lit (w:World) (C:Array Value) (l:List UInt8) (t:TypeId) (fr:Nat×Nat) (hC:C.toList=u8s l) (hn:l.length=n) (hc:n≤9223372036854775807):Sl (w.alloc (.cells C t fr)) (some ⟨w.heap.size,0,none⟩) n n l:=by
 subst hn
 exact ⟨(reads_lit w C l t fr hC).more (by simp),Nat.le_refl _,hc,fun e=>nomatch e⟩
end
theorem Sl.cons {w:World} {A:Option Addr} {n c:Nat} {l:List UInt8} {vs:List Value} {ks:List (List UInt8)} (h:Sl w A n c l) (hk:KV w w.heap.size vs ks):KV w w.heap.size (.slice A n c::vs) (l::ks):=by
 obtain rfl:=h.len
 exact hk.cons ⟨A,c,rfl,h.cap,h.lim,h.nil,h.rb⟩
theorem Sl.none (w:World):Sl w none 0 0 []:=⟨RB.nil,Nat.le_refl _,by omega,fun _=>rfl⟩
theorem run_sizeOf_of {P:Program} {t:TypeId} {n:Nat} (h:(P.info? t).map (·.size)=some n) (w:World):(sizeOf t).run P w = .ok n w:=by
 cases hd:P.info? t with
 | none=>rw [hd] at h;cases h
 | some i =>
  rw [hd] at h
  injection h with h
  simp [sizeOf,typeInfo,hd,h]
theorem run_isAgg_of {P:Program} {t:TypeId} {b:Bool} (h:(P.underlying t).map (fun d=>match d with | .struct _ | .array _ _=>true | _=>false)=some b) (w:World):(isAgg t).run P w = .ok b w:=by
 cases hd:P.underlying t with
 | none=>rw [hd] at h;cases h
 | some d =>
  rw [hd] at h
  unfold isAgg
  rw [Sem.run_bind,run_underlying hd w]
  cases d <;> simp_all
theorem run_index_arr {P:Program} (w:World) (t e:TypeId) (n:Nat) (cs:Array Value) (k:Nat) (v:Value) (ht:P.underlying t=some (.array n e)) (hs:(P.info? e).map (·.size)=some 1)
  (ha:(P.underlying e).map (fun d=>match d with | .struct _ | .array _ _=>true | _=>false)=some false) (hk:k < n) (hv:cs[k]?=some v) :
  (Instr.index t (.agg cs) (.int .i64 (k:Int))).run P w = .ok v w:=by
 have hs:=run_sizeOf_of hs w
 have ha:=run_isAgg_of ha w
 unfold Instr.index
 simp [asIntOf,Sem.run_bind,run_underlying ht,hs,part,ha,hk,hv]
section
variable {w x y : World} {A : Option Addr} {n c : Nat} {l : List UInt8} {row row' : Option Nat}
theorem Reads.apart {_B size:Nat} {xs:List Value} (h:Reads w w.heap.size size A n xs) (hg:w.grownBy y row) (hne:0 < n→∀ a,A=some a→some a.block ≠ row):Reads y y.heap.size size A n xs :=
 ⟨h.1,fun hn=>by
  obtain ⟨b,o,rfl,hb,hc⟩:=h.2 hn
  refine ⟨b,o,rfl,Nat.lt_of_lt_of_le hb hg.size,fun j u hu=>?_⟩
  have e:y.cell? ⟨b,o + j,none⟩=w.cell? ⟨b,o + j,none⟩:=World.cell?_of_block (hg.block b hb (fun e=>hne hn _ rfl (e ▸ rfl)))
  exact e.trans (hc j u hu)⟩
theorem Sl.apart (h:Sl w A n c l) (hg:w.grownBy y row) (hne:0 < n→∀ a,A=some a→some a.block ≠ row):Sl y A n c l :=
 ⟨Reads.apart (_B:=0) h.rb hg hne,h.cap,h.lim,h.nil⟩
end
def Fam (w:World) (row:Option Nat) (vs:List Value) (ks:List (List UInt8)) (more:List UInt8):Prop :=
 vs.length=ks.length∧∀ (i:Nat) (k:List UInt8),ks[i]?=some k→∃ (a:Option Addr) (c:Nat),vs[i]?=some (.slice a k.length c)∧Sl w a (k.length + more.length) c (k ++ more)∧∀ x,a=some x→some x.block ≠ row
section
variable {w x y : World} {row row' : Option Nat} {vs : List Value} {ks : List (List UInt8)} {more : List UInt8}
theorem Fam.nil:Fam w row [] [] more:=⟨rfl,fun i k h=>by simp at h⟩
theorem Fam.later (h:Fam w row vs ks more) (hb:Below w.heap.size w x):Fam x row vs ks more :=
 ⟨h.1,fun i k hk=>by obtain ⟨a,c,q1,q2,q3⟩:=h.2 i k hk;exact ⟨a,c,q1,q2.later hb,q3⟩⟩
theorem Fam.snoc (h:Fam w row vs ks more) {a:Option Addr} {c:Nat} {k:List UInt8} (hs:Sl w a (k.length + more.length) c (k ++ more)) (hne:∀ x,a=some x→some x.block ≠ row):Fam w row (vs ++ [.slice a k.length c]) (ks ++ [k]) more:=by
 refine ⟨by simp [h.1],fun i q hq=>?_⟩
 rw [List.getElem?_append] at hq ⊢
 rw [h.1]
 split at hq
 ·rename_i hi
  rw [if_pos hi];exact h.2 i q hq
 ·rename_i hi
  rw [if_neg hi]
  have h0:i - ks.length=0:=by
   have:=(List.getElem?_eq_some_iff.1 hq).1
   simp at this;omega
  rw [h0] at hq ⊢
  injection hq with hq;subst hq
  exact ⟨a,c,rfl,hs,hne⟩
theorem Fam.kv (h:Fam w row vs ks more):KV w w.heap.size vs ks :=
 ⟨h.1,fun i k hk=>by
  obtain ⟨a,c,q1,q2,_⟩:=h.2 i k hk
  have:=q2.take (m:=k.length) (by omega)
  rw [List.take_left' rfl] at this
  exact ⟨a,c,q1,this.cap,this.lim,this.nil,this.rb⟩⟩
theorem Fam.at_ (h:Fam w row vs ks more) {i:Nat} {k:List UInt8} (hk:ks[i]?=some k):∃ a c,vs[i]?=some (.slice a k.length c)∧Sl w a (k.length + more.length) c (k ++ more):=by
 obtain ⟨a,c,q1,q2,_⟩:=h.2 i k hk
 exact ⟨a,c,q1,q2⟩
end
theorem own_row_lt {w:World} {base e size n:Nat} {v:Value} {xs:List Value} (h:w.ownsRow base e size v n xs):∀ g,v.ownBlock=some g→g < w.heap.size:=fun g hg=>(World.ownsRow.lt h g hg).2
structure Chg (S:Nat→Prop) (w w':World):Prop where
  os:w'.os=w.os
  tape:w'.tape=w.tape
  output:w'.output=w.output
  size:w.heap.size≤w'.heap.size
  block:∀ k,k < w.heap.size→¬ S k→w'.heap[k]?=w.heap[k]?
section
variable {S S' : Nat → Prop} {w x y : World} {B : Nat} {row : Option Nat}
theorem Chg.refl (S:Nat→Prop) (w:World):Chg S w w:=⟨rfl,rfl,rfl,Nat.le_refl _,fun _ _ _=>rfl⟩
theorem Chg.trans (h:Chg S w x) (k:Chg S x y):Chg S w y :=
 ⟨k.os.trans h.os,k.tape.trans h.tape,k.output.trans h.output,Nat.le_trans h.size k.size,fun i hi hs=>(k.block i (Nat.lt_of_lt_of_le hi h.size) hs).trans (h.block i hi hs)⟩
theorem Chg.mono (h:Chg S w x) (hs:∀ k,k < w.heap.size→S k→S' k):Chg S' w x:=⟨h.os,h.tape,h.output,h.size,fun k hk hn=>h.block k hk fun e=>hn (hs k hk e)⟩
theorem Below.chg (h:Below B w x):Chg (fun k=>B≤k) w x:=⟨h.os,h.tape,h.output,h.size,fun k _ hn=>h.block k (by omega)⟩
theorem Below.chg0 (h:Below w.heap.size w x):Chg S w x:=⟨h.os,h.tape,h.output,h.size,fun k hk _=>h.block k hk⟩
theorem grown_chg (h:w.grownBy x row):Chg (fun k=>row=some k) w x:=⟨h.os,h.tape,h.output,h.size,fun k hk hn=>h.block k hk fun e=>hn e.symm⟩
theorem Chg.below (h:Chg S w x) (hB:B≤w.heap.size) (hs:∀ k,k < w.heap.size→S k→B≤k):Below B w x :=
 ⟨h.os,h.tape,h.output,h.size,fun k hk=>h.block k (by omega) fun e=>by have:=hs k (by omega) e;omega⟩
theorem Chg.alloc (h:Chg S w x) (o:Obj):Chg S w (x.alloc o):=h.trans (Below.chg0 ((Below.refl _ _).alloc (Nat.le_refl _) o))
theorem Chg.setCell (w:World) (p:Addr) (v:Value):Chg (fun k=>k=p.block) w (w.setCell p v) :=
 ⟨rfl,rfl,rfl,by simp [World.setCell],fun k _ hn=>Below.heap_setCell _ _ _ _ hn⟩
theorem Chg.cell (h:Chg S w x) {p:Addr} {v:Value} (hc:w.cell? p=some v) (hn:¬ S p.block):x.cell? p=some v :=
 (World.cell?_of_block (h.block _ (World.block_lt_of_cell? w p hc) hn)).trans hc
theorem Reads.chg {size n:Nat} {A:Option Addr} {xs:List Value} (h:Reads w w.heap.size size A n xs) (hc:Chg S w x) (hn:0 < n→∀ a,A=some a→¬ S a.block):Reads x x.heap.size size A n xs :=
 ⟨h.1,fun h0=>by
  obtain ⟨b,o,rfl,hb,hcell⟩:=h.2 h0
  exact ⟨b,o,rfl,Nat.lt_of_lt_of_le hb hc.size,fun j u hu=>hc.cell (p:=⟨b,o + j,none⟩) (hcell j u hu) (hn h0 ⟨b,o,none⟩ rfl)⟩⟩
theorem Sl.chg {A:Option Addr} {n c:Nat} {l:List UInt8} (h:Sl w A n c l) (hc:Chg S w x) (hn:0 < n→∀ a,A=some a→¬ S a.block):Sl x A n c l:=⟨Reads.chg h.rb hc hn,h.cap,h.lim,h.nil⟩
theorem own_chg {base e size n:Nat} {v:Value} {xs:List Value} (h:w.ownsRow base e size v n xs) (hc:Chg S w x) (hn:∀ g,v.ownBlock=some g→¬ S g):x.ownsRow base e size v n xs:=by
 refine ⟨h.1,?_⟩
 rcases h.2 with h | ⟨g,cap,cur,rfl,hb,hg,hr⟩
 ·exact .inl h
 ·refine .inr ⟨g,cap,cur,rfl,hb,?_,hr⟩
  rw [hc.block g (Array.getElem?_eq_some_iff.1 hg).1 (hn g rfl)];exact hg
end
def RowsB (T:TypeId) (base:Nat) (w:World) (rs:List (Option Addr×Nat×List UInt8)):Prop :=
 (∀ (i:Nat) r,rs[i]?=some r→OwnB T base w r.1 r.2.1 r.2.2)∧∀ (i j:Nat) r s,rs[i]?=some r→rs[j]?=some s→i ≠ j→∀ a b,r.1=some a→s.1=some b→a.block ≠ b.block
section
variable {T : TypeId} {base : Nat} {w x : World} {rs : List (Option Addr × Nat × List UInt8)} {S : Nat → Prop}
theorem RowsB.nil:RowsB T base w []:=⟨fun i r h=>by simp at h,fun i j r s h=>by simp at h⟩
theorem RowsB.chg (h:RowsB T base w rs) (hc:Chg S w x) (hn:∀ (i:Nat) r,rs[i]?=some r→∀ a,r.1=some a→¬ S a.block):RowsB T base x rs :=
 ⟨fun i r hr=>own_chg (h.1 i r hr) hc fun g hg=>by
  obtain ⟨A,c,l⟩:=r
  cases A with
  | none=>cases hg
  | some a=>injection hg with hg;subst hg;exact hn i _ hr a rfl,h.2⟩
theorem RowsB.later (h:RowsB T base w rs) (hb:Below w.heap.size w x):RowsB T base x rs:=h.chg (S:=fun _=>False) (Below.chg0 hb) fun _ _ _ _ _ e=>e
theorem OwnB.lt {A:Option Addr} {c:Nat} {l:List UInt8} (h:OwnB T base w A c l) {a:Addr} (ha:A=some a):base≤a.block∧a.block < w.heap.size:=by
 subst ha;exact World.ownsRow.lt h a.block rfl
theorem OwnB.zero {A:Option Addr} {c:Nat} {l:List UInt8} (h:OwnB T base w A c l) {a:Addr} (ha:A=some a):a=⟨a.block,0,none⟩:=by
 subst ha
 rcases h.2 with ⟨e,_⟩ | ⟨g,cap,cur,e,_⟩
 ·cases e
 ·injection e with e;injection e with e;subst e;rfl
theorem RowsB.snoc (h:RowsB T base w rs) {A:Option Addr} {c:Nat} {l:List UInt8} (ho:OwnB T base w A c l) (hne:∀ (i:Nat) r,rs[i]?=some r→∀ a b,r.1=some a→A=some b→a.block ≠ b.block):RowsB T base w (rs ++ [(A,c,l)]):=by
 have hget:∀ (i:Nat) r,(rs ++ [(A,c,l)])[i]?=some r→(i < rs.length∧rs[i]?=some r)∨(i=rs.length∧r=(A,c,l)):=by
  intro i r hr
  rw [List.getElem?_append] at hr
  split at hr
  ·rename_i hi;exact .inl ⟨hi,hr⟩
  ·rename_i hi
   have h0:i - rs.length=0:=by
    have:=(List.getElem?_eq_some_iff.1 hr).1
    simp at this;omega
   rw [h0] at hr
   injection hr with hr
   exact .inr ⟨by omega,hr.symm⟩
 refine ⟨fun i r hr=>?_,fun i j r s hr hs hij a b ha hb=>?_⟩
 ·rcases hget i r hr with ⟨_,h1⟩ | ⟨_,rfl⟩
  ·exact h.1 i r h1
  ·exact ho
 ·rcases hget i r hr with ⟨h0,h1⟩ | ⟨h0,rfl⟩ <;> rcases hget j s hs with ⟨k0,k1⟩ | ⟨k0,rfl⟩
  ·exact h.2 i j r s h1 k1 hij a b ha hb
  ·exact hne i r h1 a b ha hb
  ·exact fun e=>hne j s k1 b a hb ha e.symm
  ·omega
theorem RowsB.fresh (h:RowsB T base w rs) (hb:Below w.heap.size w x) {A:Option Addr} {c:Nat} {l:List UInt8} (ho:OwnB T w.heap.size x A c l) (hle:base≤w.heap.size):RowsB T base x (rs ++ [(A,c,l)]) :=
 (h.later hb).snoc (ho.rebase hle) fun i r hr a b ha hb' e=>by
  have h1:=((h.1 i r hr).lt ha).2
  have h2:=(ho.lt hb').1
  omega
theorem u8s_set5 (l:List UInt8) (k:Nat) (x:UInt8):(u8s l).set k (u8v x)=u8s (l.set k x):=by
 unfold u8s
 rw [List.map_set]
theorem RowsB.store (h:RowsB T base w rs) {i k g c:Nat} {l:List UInt8} (hr:rs[i]?=some (some ⟨g,0,none⟩,c,l)) (u:UInt8) :
  RowsB T base (w.setCell ⟨g,k,none⟩ (u8v u)) (rs.set i (some ⟨g,0,none⟩,c,l.set k u))∧Chg (fun b=>b=g) w (w.setCell ⟨g,k,none⟩ (u8v u)):=by
 have hC:=Chg.setCell w ⟨g,k,none⟩ (u8v u)
 have ho:=h.1 i _ hr
 have hs:=World.ownsRow.stored ho k (u8v u)
 rw [u8s_set5] at hs
 have hlt:i < rs.length:=(List.getElem?_eq_some_iff.1 hr).1
 have hget:∀ (j:Nat) r,(rs.set i (some ⟨g,0,none⟩,c,l.set k u))[j]?=some r→(j=i∧r=(some ⟨g,0,none⟩,c,l.set k u))∨(j ≠ i∧rs[j]?=some r):=by
  intro j r hj
  rw [List.getElem?_set] at hj
  by_cases e:i=j
  ·subst e
   rw [if_pos rfl,if_pos hlt] at hj
   injection hj with hj
   exact .inl ⟨rfl,hj.symm⟩
  ·rw [if_neg e] at hj
   exact .inr ⟨fun h=>e h.symm,hj⟩
 refine ⟨⟨fun j r hj=>?_,fun j q r s hj hq hjq a b ha hb=>?_⟩,hC⟩
 ·rcases hget j r hj with ⟨rfl,rfl⟩ | ⟨hne,hj⟩
  ·have:=hs.1
   show World.ownsRow _ _ _ _ _ _ _
   rw [List.length_set]
   exact this
  ·refine own_chg (h.1 j r hj) hC fun b hb e=>?_
   obtain ⟨A,c',l'⟩:=r
   cases A with
   | none=>cases hb
   | some a =>
    injection hb with hb
    subst hb
    exact h.2 j i _ _ hj hr hne a ⟨g,0,none⟩ rfl rfl e
 ·rcases hget j r hj with ⟨rfl,rfl⟩ | ⟨hne,hj1⟩ <;> rcases hget q s hq with ⟨rfl,rfl⟩ | ⟨hne',hq1⟩
  ·exact absurd rfl hjq
  ·injection ha with ha;subst ha
   exact h.2 j q _ s hr hq1 hjq _ b rfl hb
  ·injection hb with hb;subst hb
   exact h.2 j q r _ hj1 hr hjq a _ ha rfl
  ·exact h.2 j q r s hj1 hq1 hjq a b ha hb
end
theorem spot_none6 {w:World} {a:Addr} {v:Value} (h:w.cell? a=some v):a.spot=none:=by
 unfold World.cell? at h
 split at h
 ·split at h
  ·cases h
  ·rename_i h';simpa using h'
 ·cases h
section
variable {P : Program} (w : World)
theorem run_append_cells {t ty e:TypeId} {bytes:Nat} (hs:SliceOf P t e 1 bytes) (base:Nat) (v:Value) (n:Nat) (xs:List Value) (hown:w.ownsRow base e 1 v n xs)
  (B:Nat) (A:Option Addr) (m c:Nat) (news:List Value) (hr:Reads w B 1 A m news) (h1:∀ u ∈ news,u.oneCell'=true)
  (h63:n + m≤maxLen) (hbytes:(n + m) * bytes≤140737488355328) (hbase:base≤w.heap.size) :
  ∃ v' w',(Builtin.append_ #[t,t] ty #[v,.slice A m c]).run P w = .ok v' w'∧w'.ownsRow base e 1 v' (n + m) (xs ++ news)∧w.grownBy w' v.ownBlock ∧
   (v'.ownBlock=v.ownBlock∨v'.ownBlock=some w.heap.size)∧w'.ownsRow base e 1 v n xs ∧
   (∀ p u,w.cell? p=some u→w'.cell? p=some u∨(some p.block=v.ownBlock∧p.spot=none∧n≤p.off∧p.off < n + m∧w'.cell? p=news[p.off - n]?)):=by
 obtain ⟨v',w',hrun,q1,q2,q3⟩:=run_append_reads (P:=P) w (ty:=ty) hs base v n xs hown B A m c news hr h1 h63 hbytes hbase
 refine ⟨v',w',hrun,q1,q2,q3,?_⟩
 -- where nothing that was there turns
 have still:(∀ k,k < w.heap.size→w'.heap[k]?=w.heap[k]?)→w'.ownsRow base e 1 v n xs∧(∀ p u,w.cell? p=some u→w'.cell? p=some u∨(some p.block=v.ownBlock∧p.spot=none∧n≤p.off∧p.off < n + m∧w'.cell? p=news[p.off - n]?)):=fun hk=>by
  have hb:Below w.heap.size w w':=⟨q2.os,q2.tape,q2.output,q2.size,hk⟩
  exact ⟨own_below hown hb,fun p u hp => .inl (cell_below hb hp)⟩
 obtain ⟨ht,⟨i,z,hi,hz,hsize,hby,hzs⟩,hsz⟩:=hs
 rcases hown.2 with ⟨rfl,rfl⟩ | ⟨g,cap,cur,rfl,hbg,hg,hnc,hcm,hcs,htake⟩
 ·exact still fun k hk=>q2.block k hk (by simp [Value.ownBlock])
 ·rcases A with _ | ad
  ·have hm:m=0:=by
    rcases Nat.eq_zero_or_pos m with h0 | h0
    ·exact h0
    ·obtain ⟨b,o,h,_⟩:=hr.2 h0
     cases h
   subst hm
   have hrun':=run_append_of_nil w base t ty e i 1 ht hi (.slice (some ⟨g,0,none⟩) n cap) n xs hown c
   rw [hrun'] at hrun
   injection hrun with hv hw
   subst hw
   exact still fun _ _=>rfl
  ·have hcells:∀ j u,news[j]?=some u→w.cell? (ad.add j)=some u:=by
    intro j u hu
    rcases Nat.eq_zero_or_pos m with h0 | h0
    ·subst h0
     have hn:news=[]:=List.eq_nil_of_length_eq_zero (by simpa using hr.1)
     subst hn
     simp at hu
    ·obtain ⟨b,o,h,_,hc⟩:=hr.2 h0
     injection h with h
     subst h
     have:=hc j u hu
     unfold Addr.add
     split
     ·rename_i h0;subst h0;exact this
     ·exact this
   have hnl:news.length=m:=by have:=hr.1;omega
   have hcl:cur.size=cap:=by rw [hcs,Nat.mul_one]
   by_cases hroom:n + m≤cap
   ·have hrun':=run_append_room (P:=P) w t ty e i ht hi g n cap cur hg ad m c news (by rw [hsize,Nat.mul_one];exact hnl) hcells h1 hroom (by rw [hsize,Nat.mul_one,hnl];omega)
    rw [hrun'] at hrun
    injection hrun with hv hw
    rw [hsize,Nat.mul_one,hnl] at hw
    obtain ⟨cs,hcsd⟩:∃ cs:List Value,cs=cur.toList.take n ++ news ++ cur.toList.drop (n + m):=⟨_,rfl⟩
    rw [← hcsd] at hw
    have hclen:cs.length=cap:=by
     rw [hcsd,List.length_append,List.length_append,List.length_take,List.length_drop,Array.length_toList,hcl,hnl];omega
    have hgw:w'.heap[g]?=some (.cells cs.toArray e (0,0)):=by rw [← hw];exact setRow_heap w g cur _ e _ hg
    have hcell:∀ j,w'.cell? ⟨g,j,none⟩=cs[j]?:=fun j=>by
     rw [cell_of_row w' g j _ e _ hgw];simp
    have hcell0:∀ j,w.cell? ⟨g,j,none⟩=cur.toList[j]?:=fun j=>by
     rw [cell_of_row w g j _ e _ hg];simp
    refine ⟨⟨hown.1,.inr ⟨g,cap,cs.toArray,rfl,hbg,hgw,hnc,hcm,by simp [hclen],?_⟩⟩,fun p u hp=>?_⟩
    ·have htl:(cur.toList.take n).length=n:=by rw [List.length_take,Array.length_toList,hcl];omega
     rw [Nat.mul_one] at htake ⊢
     show cs.take n=xs
     rw [hcsd,List.append_assoc,List.take_left' htl]
     exact htake
    ·by_cases hpg:p.block=g
     ·have hsp:=spot_none6 hp
      obtain ⟨pb,po,ps⟩:=p
      simp at hpg hsp
      subst hpg;subst hsp
      rw [hcell0] at hp
      by_cases h2:n≤po∧po < n + m
      ·refine .inr ⟨rfl,rfl,h2.1,h2.2,?_⟩
       rw [hcell,hcsd,List.getElem?_append_left (by rw [List.length_append,List.length_take,Array.length_toList,hcl,hnl];omega),List.getElem?_append_right (by rw [List.length_take,Array.length_toList,hcl];omega)]
       rw [List.length_take,Array.length_toList,hcl,Nat.min_eq_left (by omega)]
      ·refine .inl ?_
       rw [hcell,hcsd]
       by_cases h3:po < n
       ·rw [List.append_assoc,List.getElem?_append_left (by rw [List.length_take,Array.length_toList,hcl];omega),List.getElem?_take_of_lt h3]
        exact hp
       ·rw [List.getElem?_append_right (by rw [List.length_append,List.length_take,Array.length_toList,hcl,hnl];omega),List.getElem?_drop,List.length_append,List.length_take,Array.length_toList,hcl,hnl,Nat.min_eq_left (by omega)]
        rw [show n + m + (po - (n + m))=po from by omega]
        exact hp
     ·exact .inl (q2.cell hp (fun e=>hpg (by injection e)))
   ·have holds:∀ j u,xs[j]?=some u→w.cell? ((⟨g,0,none⟩:Addr).add j)=some u:=hown.cells (g:=g) rfl
    have hrun':=run_append_grow (P:=P) w t ty e i z ht hi hz ⟨g,0,none⟩ n cap xs (by rw [hsize];exact hown.1) holds ad m c news (by rw [hsize,Nat.mul_one];exact hnl) hcells (by omega) (by unfold maxLen at h63;omega) (growslice_fits (by omega) (by rw [hby];exact hbytes))
    rw [hrun'] at hrun
    injection hrun with hv hw
    refine still fun k hk=>?_
    rw [← hw]
    exact heap_alloc_old w.drew _ hk
end
def FamS (w:World) (row:Option Nat) (vs:List Value) (ks:List (List UInt8)):Prop :=
 vs.length=ks.length∧∀ (i:Nat) (k:List UInt8),ks[i]?=some k→∃ (a:Option Addr) (c:Nat),vs[i]?=some (.slice a k.length c)∧Sl w a k.length c k∧(0 < k.length→∀ x,a=some x→some x.block ≠ row)
section
variable {w x y : World} {row row' : Option Nat} {vs : List Value} {ks : List (List UInt8)} {S : Nat → Prop}
theorem FamS.nil:FamS w row [] []:=⟨rfl,fun i k h=>by simp at h⟩
theorem FamS.chg (h:FamS w row vs ks) (hc:Chg S w x) (hn:∀ (i:Nat) (k:List UInt8) (a:Addr) (n c:Nat),ks[i]?=some k→0 < k.length→vs[i]?=some (.slice (some a) n c)→¬ S a.block):FamS x row vs ks :=
 ⟨h.1,fun i k hk=>by
  obtain ⟨a,c,q1,q2,q3⟩:=h.2 i k hk
  refine ⟨a,c,q1,q2.chg hc fun h0 b hb=>?_,q3⟩
  subst hb
  exact hn i k b _ c hk h0 q1⟩
theorem FamS.later (h:FamS w row vs ks) (hb:Below w.heap.size w x):FamS x row vs ks :=
 ⟨h.1,fun i k hk=>by obtain ⟨a,c,q1,q2,q3⟩:=h.2 i k hk;exact ⟨a,c,q1,q2.later hb,q3⟩⟩
theorem FamS.snoc (h:FamS w row vs ks) {a:Option Addr} {c n:Nat} {k:List UInt8} (hs:Sl w a n c k) (hne:0 < k.length→∀ x,a=some x→some x.block ≠ row):FamS w row (vs ++ [.slice a n c]) (ks ++ [k]):=by
 obtain rfl:=hs.len
 refine ⟨by simp [h.1],fun i q hq=>?_⟩
 rw [List.getElem?_append] at hq ⊢
 rw [h.1]
 split at hq
 ·rename_i hi
  rw [if_pos hi];exact h.2 i q hq
 ·rename_i hi
  rw [if_neg hi]
  have h0:i - ks.length=0:=by
   have:=(List.getElem?_eq_some_iff.1 hq).1
   simp at this;omega
  rw [h0] at hq ⊢
  injection hq with hq;subst hq
  exact ⟨a,c,rfl,hs,hne⟩
theorem FamS.kv (h:FamS w row vs ks):KV w w.heap.size vs ks :=
 ⟨h.1,fun i k hk=>by
  obtain ⟨a,c,q1,q2,_⟩:=h.2 i k hk
  exact ⟨a,c,q1,q2.cap,q2.lim,q2.nil,q2.rb⟩⟩
theorem FamS.at_ (h:FamS w row vs ks) {i:Nat} {k:List UInt8} (hk:ks[i]?=some k):∃ a c,vs[i]?=some (.slice a k.length c)∧Sl w a k.length c k:=by
 obtain ⟨a,c,q1,q2,_⟩:=h.2 i k hk
 exact ⟨a,c,q1,q2⟩
end
def fillTo (l:List UInt8) (m:UInt8) (k:Nat):List UInt8:=List.replicate k m ++ l.drop k
theorem fillTo_set {l:List UInt8} {k:Nat} (m:UInt8) (h:k < l.length):(fillTo l m k).set k m=fillTo l m (k + 1):=by
 unfold fillTo
 rw [List.set_append_right _ _ (by simp),List.length_replicate,Nat.sub_self,List.drop_eq_getElem_cons h]
 rw [List.set_cons_zero,List.replicate_succ']
 simp
section
variable {P : Program} (w : World)
theorem wp_append_cells {o:Oper} {a:Act} {K:Act→World→Prop} {Q:Exit→Act→World→Prop} (s x:Operand) {t e:TypeId} {bytes:Nat}
  (ho:o.op = .call { callee := .builtin .append,args:=#[s,x],argTypes:=#[t,t] }) (hS:SliceOf P t e 1 bytes)
  (base:Nat) (v:Value) (n:Nat) (xs:List Value) (hs:a.eval s=v) (hown:w.ownsRow base e 1 v n xs)
  (B:Nat) (A:Option Addr) (m c:Nat) (news:List Value) (hx:a.eval x = .slice A m c) (hr:Reads w B 1 A m news) (h1:∀ u ∈ news,u.oneCell'=true)
  (h63:n + m≤maxLen) (hbytes:(n + m) * bytes≤140737488355328) (hbase:base≤w.heap.size)
  (h:∀ v' w',w'.ownsRow base e 1 v' (n + m) (xs ++ news)→w.grownBy w' v.ownBlock→(v'.ownBlock=v.ownBlock∨v'.ownBlock=some w.heap.size)→w'.ownsRow base e 1 v n xs →
   (∀ p u,w.cell? p=some u→w'.cell? p=some u∨(some p.block=v.ownBlock∧p.spot=none∧n≤p.off∧p.off < n + m∧w'.cell? p=news[p.off - n]?))→K (a.put o.dst v') w'):o.wp P a w K Q:=by
 obtain ⟨v',w',hrun,h2,h3,h4,h5,h6⟩:=run_append_cells (P:=P) w (ty:=o.type) hS base v n xs hown B A m c news hr h1 h63 hbytes hbase
 unfold Oper.wp execOp
 simp only [ho,resolve,invoke,builtin,Sem.run_bind,Sem.run_pure,Result.andThen_ok,List.map_toArray,List.map_cons,List.map_nil,hs,hx,hrun]
 exact h v' w' h2 h3 h4 h5 h6
end
abbrev RowL:=List (Option Addr×Nat×List UInt8)
def fillR (mk:Nat→UInt8) (rs:RowL) (k:Nat):RowL:=rs.mapIdx fun i r=>if i < k then (r.1,r.2.1,List.replicate r.2.2.length (mk i)) else r
theorem fillR_len (mk:Nat→UInt8) (rs:RowL) (k:Nat):(fillR mk rs k).length=rs.length:=by simp [fillR]
section
variable {T : TypeId} {base : Nat} {w x : World} {rs : RowL} {mk : Nat → UInt8}
theorem RowsB.fill {j k g c:Nat} {l:List UInt8} (h:RowsB T base w ((fillR mk rs j).set j (some ⟨g,0,none⟩,c,fillTo l (mk j) k))) (hr:rs[j]?=some (some ⟨g,0,none⟩,c,l)) (hk:k < l.length) :
  RowsB T base (w.setCell ⟨g,k,none⟩ (u8v (mk j))) ((fillR mk rs j).set j (some ⟨g,0,none⟩,c,fillTo l (mk j) (k + 1)))∧Chg (fun b=>b=g) w (w.setCell ⟨g,k,none⟩ (u8v (mk j))):=by
 have hlt:=(List.getElem?_eq_some_iff.1 hr).1
 have h2:=h.store (i:=j) (k:=k) (g:=g) (c:=c) (l:=fillTo l (mk j) k) (by rw [List.getElem?_set,if_pos rfl,if_pos (by rw [fillR_len];exact hlt)]) (mk j)
 rw [List.set_set,fillTo_set _ hk] at h2
 exact h2
theorem RowsB.cell {i g c k:Nat} {l:List UInt8} (h:RowsB T base w rs) (hr:rs[i]?=some (some ⟨g,0,none⟩,c,l)) {u:UInt8} (hk:l[k]?=some u):w.cell? ⟨g,k,none⟩=some (.int .u8 (u.toNat:Int))∧w.frozen? ⟨g,k,none⟩=false:=by
 have ho:OwnB T base w (some ⟨g,0,none⟩) c l:=h.1 i _ hr
 have hlt:=(List.getElem?_eq_some_iff.1 hk).1
 exact ⟨(World.ownsRow.cellAt ho k (by omega)).trans (u8s_at hk),World.ownsRow.frozenAt ho k⟩
theorem RowsB.form {i c:Nat} {A:Option Addr} {l:List UInt8} (h:RowsB T base w rs) (hr:rs[i]?=some (A,c,l)) (hl:0 < l.length):∃ g,A=some ⟨g,0,none⟩∧base≤g∧g < w.heap.size:=by
 have ho:=h.1 i _ hr
 cases A with
 | none =>
  obtain ⟨A',c',e,_,_,h3,_⟩:=own_slice ho
  injection e with e1 e2 e3
  subst e1;subst e3
  have:=(ho.cap).2.2 rfl
  have h4:=(ho.cap).1
  simp only at this h4
  omega
 | some a=>exact ⟨a.block,by rw [← ho.zero rfl],ho.lt rfl⟩
theorem RowsB.sl_at {i c n:Nat} {A:Option Addr} {l:List UInt8} (h:RowsB T base w rs) (hr:rs[i]?=some (A,c,l)) (hn:l.length=n):Sl w A n c l:=hn ▸ Sl.own (h.1 i _ hr)
theorem RowsB.sl {i c:Nat} {A:Option Addr} {l:List UInt8} (h:RowsB T base w rs) (hr:rs[i]?=some (A,c,l)):Sl w A l.length c l:=Sl.own (h.1 i _ hr)
theorem RowsB.grow {i c:Nat} {A:Option Addr} {l:List UInt8} (h:RowsB T base w rs) (hr:rs[i]?=some (A,c,l)) (hg:w.grownBy x (A.map (·.block))) (ho:OwnB T base x A c l):RowsB T base x rs:=by
 refine ⟨fun j r hj=>?_,h.2⟩
 by_cases e:j=i
 ·subst e
  rw [hr] at hj;injection hj with hj;subst hj
  exact ho
 ·refine own_chg (h.1 j r hj) (grown_chg hg) fun g hg' e'=>?_
  obtain ⟨B,d,l'⟩:=r
  cases B with
  | none=>cases hg'
  | some b =>
   injection hg' with hg'
   cases A with
   | none=>cases e'
   | some a =>
    injection e' with e'
    exact h.2 j i _ _ hj hr e b a rfl rfl (by rw [hg',← e'])
theorem RowsB.pick (h:RowsB T base w rs) {ss:RowL} (f:Nat→Nat) (hf:∀ i j,i < ss.length→j < ss.length→i ≠ j→f i ≠ f j) (hs:∀ (i:Nat) s,ss[i]?=some s→rs[f i]?=some s):RowsB T base w ss :=
 ⟨fun i s hi=>h.1 _ s (hs i s hi),fun i j r s hr hs' hij a b ha hb=>h.2 (f i) (f j) r s (hs i r hr) (hs j s hs') (hf i j (List.getElem?_eq_some_iff.1 hr).1 (List.getElem?_eq_some_iff.1 hs').1 hij) a b ha hb⟩
end
theorem lit_one8 (w:World) (u:Value) (t:TypeId) (H:Nat) (h:w.heap.size=H):Reads (w.alloc (.cells #[u] t)) (H + 1) 1 (some ⟨H,0,none⟩) 1 [u]:=by
 subst h;exact Reads.new w #[u] t 1 1 rfl
def Aps (rs:RowL) (k:Nat) (vs:List Value):Prop:=∀ (i j:Nat) (a b:Addr) (n c:Nat) r,vs[j]?=some (.slice (some a) n c)→0 < n→k≤i→rs[i]?=some r→r.1=some b→a.block ≠ b.block
theorem Aps.nil (rs:RowL):Aps rs 0 []:=fun i j a b n c r h=>by simp at h
section
variable {T e : TypeId} {base H3 : Nat} {wr w2 w3 : World} {rs : RowL} {v v3 : Value} {vs : List Value} {ks : List (List UInt8)} {k gk ca c' : Nat} {l l' : List UInt8} {A' : Option Addr}
end
def valR (r:Option Addr×Nat×List UInt8):Value := .slice r.1 r.2.2.length r.2.1
def Off (v:Value) (zs:RowL):Prop:=∀ g,v.ownBlock=some g→∀ (i:Nat) r a,zs[i]?=some r→r.1=some a→a.block ≠ g
structure ApSt (T e:TypeId) (B:Nat) (w:World) (lv wv:Value) (rs ws ps:RowL):Prop where
  rows:RowsB T B w (rs ++ ws ++ ps)
  ol:w.ownsRow B e 1 lv rs.length (rs.map valR)
  ow:w.ownsRow B e 1 wv ws.length (ws.map valR)
  al:Off lv (rs ++ ws ++ ps)
  aw:Off wv (rs ++ ws ++ ps)
  ne:∀ g,lv.ownBlock=some g→wv.ownBlock ≠ some g
  le:B≤w.heap.size
section
variable {T e : TypeId} {B : Nat} {w x : World} {lv wv v' : Value} {rs ws ps : RowL}
theorem ApSt.nil (h:B≤w.heap.size):ApSt T e B w (.slice none 0 0) (.slice none 0 0) [] [] [] :=
 ⟨RowsB.nil,own_nil _ _ _ _,own_nil _ _ _ _,fun g hg=>(by cases hg),fun g hg=>(by cases hg),fun g hg=>(by cases hg),h⟩
theorem ApSt.later (h:ApSt T e B w lv wv rs ws ps) (hb:Below w.heap.size w x):ApSt T e B x lv wv rs ws ps :=
 ⟨h.rows.later hb,own_below h.ol hb,own_below h.ow hb,h.al,h.aw,h.ne,Nat.le_trans h.le hb.size⟩
theorem off_snoc {v:Value} {A:Option Addr} {c:Nat} {l:List UInt8} {zs:RowL} (h:Off v zs) (hv:∀ g,v.ownBlock=some g→g < w.heap.size) (ho:OwnB T w.heap.size x A c l):Off v (zs ++ [(A,c,l)]):=fun g hg i r a hr ha=>by
 rw [List.getElem?_append] at hr
 split at hr
 ·exact h g hg i r a hr ha
 ·have h0:i - zs.length=0:=by
   have:=(List.getElem?_eq_some_iff.1 hr).1
   simp at this;omega
  rw [h0] at hr
  injection hr with hr;subst hr
  have h1:=(ho.lt ha).1
  have h2:=hv g hg
  omega
theorem ApSt.fresh (h:ApSt T e B w lv wv rs ws ps) (hb:Below w.heap.size w x) {A:Option Addr} {c:Nat} {l:List UInt8} (ho:OwnB T w.heap.size x A c l):ApSt T e B x lv wv rs ws (ps ++ [(A,c,l)]):=by
 have h':=h.later hb
 refine ⟨?_,h'.ol,h'.ow,?_,?_,h.ne,h'.le⟩
 ·rw [← List.append_assoc];exact h.rows.fresh hb ho h.le
 ·rw [← List.append_assoc];exact off_snoc h.al (own_row_lt h.ol) ho
 ·rw [← List.append_assoc];exact off_snoc h.aw (own_row_lt h.ow) ho
end
section
variable {T e : TypeId} {base H3 : Nat} {wr w2 w3 : World} {rs : RowL} {v v3 : Value} {vs : List Value} {ks : List (List UInt8)} {k ca c' : Nat} {l l' : List UInt8} {A A' : Option Addr}
end
structure LR (T e:TypeId) (B:Nat) (w:World) (A:Option Addr) (n c:Nat) (rs:RowL) (ks:List (List UInt8)):Prop where
  ol:w.ownsRow B e 1 (.slice A n c) n (rs.map valR)
  rows:RowsB T B w rs
  off:Off (.slice A n c) rs
  cont:rs.map (·.2.2)=ks
  len:rs.length=n
theorem cont_one10 {zs:RowL} {L:List (List UInt8)} (h:zs.map (·.2.2)=L) {k:Nat} {F:List UInt8} (hk:L[k]?=some F):∃ a ca,zs[k]?=some (a,ca,F):=by
 rw [← h,List.getElem?_map] at hk
 cases hz:zs[k]? with
 | none=>rw [hz] at hk;cases hk
 | some r =>
  rw [hz] at hk;injection hk with hk
  exact ⟨r.1,r.2.1,by rw [← hk]⟩
section
variable {T e : TypeId} {B n c : Nat} {w x : World} {lv wv : Value} {A : Option Addr} {rs : RowL} {ks : List (List UInt8)} {S : Nat → Prop}
theorem ApSt.lr (h:ApSt T e B w lv wv rs [] []) (hk:rs.map (·.2.2)=ks) (hn:rs.length=n):∃ A c,lv = .slice A n c∧LR T e B w A n c rs ks:=by
 obtain ⟨h1,h2,_,h3,_⟩:=h
 rw [List.append_nil,List.append_nil] at h1 h3
 rw [hn] at h2
 obtain ⟨A,c,rfl,_⟩:=own_slice h2
 exact ⟨A,c,rfl,h2,h1,h3,hk,hn⟩
theorem LR.len_ks (h:LR T e B w A n c rs ks):ks.length=n:=by rw [← h.cont,List.length_map,h.len]
theorem LR.chg (h:LR T e B w A n c rs ks) (hc:Chg S w x) (h1:∀ a,A=some a→¬ S a.block) (h2:∀ (i:Nat) r a,rs[i]?=some r→r.1=some a→¬ S a.block):LR T e B x A n c rs ks :=
 ⟨own_chg h.ol hc fun g hg=>by
  cases A with
  | none=>cases hg
  | some a=>injection hg with hg;subst hg;exact h1 a rfl,h.rows.chg hc fun i r hr a ha=>h2 i r a hr ha,h.off,h.cont,h.len⟩
theorem LR.later (h:LR T e B w A n c rs ks) (hb:Below w.heap.size w x):LR T e B x A n c rs ks:=h.chg (S:=fun _=>False) (Below.chg0 hb) (fun _ _ e=>e) fun _ _ _ _ _ e=>e
theorem LR.cell (h:LR T e B w A n c rs ks) {i:Nat} {a:Option Addr} {ca:Nat} {l:List UInt8} (hr:rs[i]?=some (a,ca,l)):∃ g,A=some ⟨g,0,none⟩∧B≤g∧g < w.heap.size∧w.cell? ⟨g,i,none⟩=some (.slice a l.length ca):=by
 have hlt:=(List.getElem?_eq_some_iff.1 hr).1
 have hn:=h.len
 obtain ⟨g,cap,hv,h1,h2,_⟩:=own_form h.ol (by omega)
 injection hv with hv _ _
 subst hv
 exact ⟨g,rfl,h1,h2,(World.ownsRow.cellAt h.ol i (by omega)).trans (by rw [List.getElem?_map,hr];rfl)⟩
theorem LR.at_ (h:LR T e B w A n c rs ks) {i:Nat} {l:List UInt8} (hk:ks[i]?=some l):∃ a ca,rs[i]?=some (a,ca,l)∧Sl w a l.length ca l:=by
 obtain ⟨a,ca,hr⟩:=cont_one10 h.cont hk
 exact ⟨a,ca,hr,h.rows.sl hr⟩
theorem LR.kv (h:LR T e B w A n c rs ks):KV w w.heap.size (rs.map valR) ks :=
 ⟨by rw [List.length_map,h.len,h.len_ks],fun i k hk=>by
  obtain ⟨a,ca,hr,hs⟩:=h.at_ hk
  exact ⟨a,ca,by rw [List.getElem?_map,hr];rfl,hs.cap,hs.lim,hs.nil,hs.rb⟩⟩
theorem LR.rbs (h:LR T e B w A n c rs ks):RBs w w.heap.size A n ks:=h.kv.rbs (Reads.own h.ol)
end
section
variable {T e : TypeId} {base H3 : Nat} {wr w2 w3 : World} {rs : RowL} {v v3 : Value} {vs : List Value} {ks : List (List UInt8)} {k m ca : Nat} {l : List UInt8} {A : Option Addr}
end
section
variable {P : Program} (w : World)
theorem step_append_cells {ops:Array Oper} {o:Oper} {a:Act} {K:Act→World→Prop} {Q:Exit→Act→World→Prop} {E:Prop} (hgd:o.guard=none) (s x:Operand) {t e:TypeId} {bytes:Nat}
  (ho:o.op = .call { callee := .builtin .append,args:=#[s,x],argTypes:=#[t,t] }) (hS:SliceOf P t e 1 bytes)
  (base:Nat) (v:Value) (n:Nat) (xs:List Value) (hs:a.eval s=v) (hown:w.ownsRow base e 1 v n xs)
  (B:Nat) (A:Option Addr) (m c:Nat) (news:List Value) (hx:a.eval x = .slice A m c) (hr:Reads w B 1 A m news) (h1:∀ u ∈ news,u.oneCell'=true)
  (h63:n + m≤maxLen) (hbytes:(n + m) * bytes≤140737488355328) (hbase:base≤w.heap.size)
  (h:∀ v' w',w'.ownsRow base e 1 v' (n + m) (xs ++ news)→w.grownBy w' v.ownBlock→(v'.ownBlock=v.ownBlock∨v'.ownBlock=some w.heap.size)→w'.ownsRow base e 1 v n xs →
   (∀ p u,w.cell? p=some u→w'.cell? p=some u∨(some p.block=v.ownBlock∧p.spot=none∧n≤p.off∧p.off < n + m∧w'.cell? p=news[p.off - n]?))→K (a.put o.dst v') w') :
  if Region.wanted o (yielded ops a.tmps)=true then Oper.wp P o a w K Q else E:=by
 have hw:Region.wanted o (yielded ops a.tmps)=true:=by simp [Region.wanted,hgd]
 rw [if_pos hw]
 exact wp_append_cells w s x ho hS base v n xs hs hown B A m c news hx hr h1 h63 hbytes hbase h
end
structure GC (T:TypeId) (base:Nat) (w:World) (p:Addr) (u:Value) (A:Option Addr) (c:Nat) (l:List UInt8) (x:World):Prop where
  cell:x.cell? p=some u
  own:OwnB T base x A c l
  grown:w.grownBy x (A.map (·.block))
section
variable {T : TypeId} {base c n : Nat} {w x y : World} {p : Addr} {u : Value} {A : Option Addr} {l : List UInt8}
theorem GC.call (h:GC T base w p u A c l x) (hb:Below x.heap.size x y):GC T base w p u A c l y:=⟨cell_below hb h.cell,h.own.later hb,grown_trans h.grown (below_grown hb _)⟩
theorem own_block (A:Option Addr) (n c:Nat):(Value.slice A n c).ownBlock=A.map (·.block):=by cases A <;> rfl
theorem GC.app (h:GC T base w p u A c l x) (hne:A.map (·.block) ≠ some p.block) (hg:x.grownBy y (Value.slice A n c).ownBlock) (ho:OwnB T base y A c l):GC T base w p u A c l y:=by
 rw [own_block] at hg
 exact ⟨(hg.cell h.cell fun e=>hne e.symm),ho,grown_trans h.grown hg⟩
end
def Blk (w:World) (A A':Option Addr):Prop:=∀ x,A'=some x→A.map (·.block)=some x.block∨w.heap.size≤x.block
structure BkC (w:World) (g:Nat) (lv wv:Value):Prop where
  c0:w.cell? ⟨g,0,none⟩=some lv
  c1:w.cell? ⟨g,1,none⟩=some wv
  f0:w.frozen? ⟨g,0,none⟩=false
  f1:w.frozen? ⟨g,1,none⟩=false
def pickR (zs:RowL) (is:List Nat):RowL:=is.map fun i=>zs[i]?.getD (none,0,[])
structure BkH (T e:TypeId) (B g:Nat) (w:World) (lv wv:Value) (zs:RowL) (is js:List Nat):Prop where
  box:BkC w g lv wv
  gB:g < B
  le:B≤w.heap.size
  rows:RowsB T B w zs
  ol:w.ownsRow B e 1 lv is.length ((pickR zs is).map valR)
  ow:w.ownsRow B e 1 wv js.length ((pickR zs js).map valR)
  al:Off lv zs
  aw:Off wv zs
  ne:∀ g,lv.ownBlock=some g→wv.ownBlock ≠ some g
  nd:(is ++ js).Nodup
  lt:∀ i,i ∈ is ++ js→i < zs.length
def SameC (zs:RowL) (is js:List Nat):Prop:=is.length=js.length∧∀ (k i j:Nat),is[k]?=some i→js[k]?=some j→∀ a c l,zs[i]?=some (a,c,l)→∃ a' c',zs[j]?=some (a',c',l)
section
variable {T e : TypeId} {B g : Nat} {w x : World} {lv wv v' : Value} {zs rs : RowL} {is js : List Nat} {S : Nat → Prop}
theorem BkC.chg (h:BkC w g lv wv) (hc:Chg S w x) (hn:¬ S g):BkC x g lv wv:=by
 have hlt:g < w.heap.size:=World.block_lt_of_cell? w ⟨g,0,none⟩ h.c0
 have hb:=hc.block g hlt hn
 exact ⟨hc.cell h.c0 hn,hc.cell h.c1 hn,(World.frozen?_of_block (w:=w) hb).trans h.f0,(World.frozen?_of_block (w:=w) hb).trans h.f1⟩
theorem pickR_app {zs rs:RowL} {is:List Nat} (h:∀ i,i ∈ is→i < zs.length):pickR (zs ++ rs) is=pickR zs is:=by
 unfold pickR
 apply List.map_congr_left
 intro i hi
 rw [List.getElem?_append_left (h i hi)]
theorem RowsB.app (h:RowsB T B w zs) (hb:Below w.heap.size w x) (hr:RowsB T w.heap.size x rs) (hle:B≤w.heap.size):RowsB T B x (zs ++ rs):=by
 have hz:=h.later hb
 refine ⟨fun i r hi=>?_,fun i j r s hi hj hij a b ha hb'=>?_⟩
 ·rw [List.getElem?_append] at hi
  split at hi
  ·exact hz.1 i r hi
  ·exact (hr.1 _ r hi).rebase hle
 ·rw [List.getElem?_append] at hi hj
  split at hi <;> split at hj
  ·exact hz.2 i j r s hi hj hij a b ha hb'
  ·have h1:=((h.1 i r hi).lt ha).2
   have h2:=((hr.1 _ s hj).lt hb').1
   omega
  ·have h1:=((hr.1 _ r hi).lt ha).1
   have h2:=((h.1 j s hj).lt hb').2
   omega
  ·exact hr.2 _ _ r s hi hj (by omega) a b ha hb'
theorem off_app {v:Value} (h:Off v zs) (hv:∀ g,v.ownBlock=some g→g < w.heap.size) (hr:RowsB T w.heap.size x rs):Off v (zs ++ rs):=fun g hg i r a hi ha=>by
 rw [List.getElem?_append] at hi
 split at hi
 ·exact h g hg i r a hi ha
 ·have h1:=((hr.1 _ r hi).lt ha).1
  have h2:=hv g hg
  omega
theorem BkH.add (h:BkH T e B g w lv wv zs is js) (hb:Below w.heap.size w x) (hr:RowsB T w.heap.size x rs):BkH T e B g x lv wv (zs ++ rs) is js:=by
 have hlt:g < w.heap.size:=Nat.lt_of_lt_of_le h.gB h.le
 refine ⟨h.box.chg (S:=fun _=>False) (Below.chg0 hb) (fun e=>e),h.gB,Nat.le_trans h.le hb.size,h.rows.app hb hr h.le,?_,?_,off_app h.al (own_row_lt h.ol) hr,off_app h.aw (own_row_lt h.ow) hr,h.ne,h.nd,fun i hi=>?_⟩
 ·rw [pickR_app fun i hi=>h.lt i (List.mem_append_left _ hi)];exact own_below h.ol hb
 ·rw [pickR_app fun i hi=>h.lt i (List.mem_append_right _ hi)];exact own_below h.ow hb
 ·have:=h.lt i hi
  rw [List.length_append];omega
theorem BkH.later (h:BkH T e B g w lv wv zs is js) (hb:Below w.heap.size w x):BkH T e B g x lv wv zs is js:=by
 have h1:=h.add hb (rs:=[]) RowsB.nil
 rw [List.append_nil] at h1
 exact h1
theorem rows_set (h:RowsB T B w zs) (hg:g < B) (k:Nat) (u:Value):RowsB T B (w.setCell ⟨g,k,none⟩ u) zs :=
 h.chg (Chg.setCell w ⟨g,k,none⟩ u) fun i r hr a ha e'=>by have:=((h.1 i r hr).lt ha).1;simp only at e';omega
theorem SameC.keep {i:Nat} {a a':Option Addr} {c c':Nat} {l:List UInt8} (h:SameC zs is js) (hl:∀ i,i ∈ is ++ js→i < zs.length) (hi:zs[i]?=some (a,c,l)):SameC (zs ++ [(a',c',l)]) (is ++ [i]) (js ++ [zs.length]):=by
 refine ⟨by rw [List.length_append,List.length_append,h.1];rfl,fun k p q hp hq b d m hz=>?_⟩
 rw [List.getElem?_append] at hp hq
 split at hp
 ·rename_i hk
  rw [if_pos (by rw [← h.1];exact hk)] at hq
  have hpm:=hl p (List.mem_append_left _ (List.mem_of_getElem? hp))
  have hqm:=hl q (List.mem_append_right _ (List.mem_of_getElem? hq))
  rw [List.getElem?_append_left hpm] at hz
  obtain ⟨b',d',hz'⟩:=h.2 k p q hp hq b d m hz
  exact ⟨b',d',by rw [List.getElem?_append_left hqm];exact hz'⟩
 ·rename_i hk
  rw [if_neg (by rw [← h.1];exact hk)] at hq
  have h0:k - is.length=0:=by
   have:=(List.getElem?_eq_some_iff.1 hp).1
   simp at this;omega
  rw [h0] at hp
  rw [← h.1,h0] at hq
  injection hp with hp
  injection hq with hq
  subst hp;subst hq
  rw [List.getElem?_append_left (List.getElem?_eq_some_iff.1 hi).1,hi] at hz
  injection hz with hz
  injection hz with _ hz
  injection hz with _ hz
  subst hz
  exact ⟨a',c',by rw [List.getElem?_append_right (Nat.le_refl _),Nat.sub_self];rfl⟩
theorem SameC.app (h:SameC zs is js) (hl:∀ i,i ∈ is ++ js→i < zs.length) (rs:RowL):SameC (zs ++ rs) is js :=
 ⟨h.1,fun k p q hp hq b d m hz=>by
  have hpm:=hl p (List.mem_append_left _ (List.mem_of_getElem? hp))
  have hqm:=hl q (List.mem_append_right _ (List.mem_of_getElem? hq))
  rw [List.getElem?_append_left hpm] at hz
  obtain ⟨b',d',hz'⟩:=h.2 k p q hp hq b d m hz
  exact ⟨b',d',by rw [List.getElem?_append_left hqm];exact hz'⟩⟩
end
section
variable {w x y : World} {cs : Array Value}
theorem own_low {base base':Nat} {e:TypeId} {s n:Nat} {v:Value} {xs:List Value} (h:w.ownsRow base e s v n xs) (hb:base'≤base):w.ownsRow base' e s v n xs:=by
 refine ⟨h.1,?_⟩
 rcases h.2 with h' | ⟨g,cap,cur,h1,h2,h3⟩
 ·exact .inl h'
 ·exact .inr ⟨g,cap,cur,h1,Nat.le_trans hb h2,h3⟩
structure Bx (w:World) (cs:Array Value) (x:World):Prop where
  up:Below w.heap.size w x
  at_:∀ i v,cs[i]?=some v→x.cell? ⟨w.heap.size,i,none⟩=some v
  size:w.heap.size + 1≤x.heap.size
theorem Bx.new (w:World) (cs:Array Value) (T:TypeId):Bx w cs (w.alloc (.cells cs T)) :=
 ⟨(Below.refl _ w).alloc (Nat.le_refl _) _,fun i v h=>by simpa using h,by show _≤(w.heap.push _).size;simp⟩
theorem Bx.later (h:Bx w cs x) (k:Below x.heap.size x y):Bx w cs y :=
 ⟨h.up.trans (k.mono h.up.size),fun i v e=>(k.cell (p:=⟨w.heap.size,i,none⟩) h.size).trans (h.at_ i v e),Nat.le_trans h.size k.size⟩
theorem Bx.alloc (h:Bx w cs x) (o:Obj):Bx w cs (x.alloc o):=h.later ((Below.refl _ x).alloc (Nat.le_refl _) o)
theorem Bx.grow {e:TypeId} {s n:Nat} {v:Value} {xs:List Value} (h:Bx w cs x) (hown:x.ownsRow (w.heap.size + 1) e s v n xs) (hg:x.grownBy y v.ownBlock):Bx w cs y :=
 ⟨below_app h.up hown hg h.up.size (by omega),fun i u hu=>hg.cell (h.at_ i u hu) (fun e=>Nat.lt_irrefl _ (Nat.lt_of_lt_of_le (Nat.lt_succ_self _) (hown.lt _ e.symm).1)),Nat.le_trans h.size hg.size⟩
theorem Bx.cell (h:Bx w cs x) {i:Nat} {v:Value} (e:cs[i]?=some v):x.cell? ⟨w.heap.size,i,none⟩=some v:=h.at_ i v e
theorem keepB3 {p q r:Addr} {a b c:Value} (h:x.cell? p=some a∧x.cell? q=some b∧x.cell? r=some c∧Bx w cs x) (k:Below x.heap.size x y):y.cell? p=some a∧y.cell? q=some b∧y.cell? r=some c∧Bx w cs y :=
 ⟨cell_below k h.1,cell_below k h.2.1,cell_below k h.2.2.1,h.2.2.2.later k⟩
theorem keepA3 {p q r:Addr} {a b c:Value} {o:Obj} (h:x.cell? p=some a∧x.cell? q=some b∧x.cell? r=some c∧Bx w cs x):(x.alloc o).cell? p=some a∧(x.alloc o).cell? q=some b∧(x.alloc o).cell? r=some c∧Bx w cs (x.alloc o) :=
 keepB3 h ((Below.refl _ x).alloc (Nat.le_refl _) o)
theorem keepG3 {i j k:Nat} {a b c:Value} {e:TypeId} {s n:Nat} {v:Value} {xs:List Value} (h:x.cell? ⟨w.heap.size,i,none⟩=some a∧x.cell? ⟨w.heap.size,j,none⟩=some b∧x.cell? ⟨w.heap.size,k,none⟩=some c∧Bx w cs x) (hown:x.ownsRow (w.heap.size + 1) e s v n xs) (hg:x.grownBy y v.ownBlock) :
  y.cell? ⟨w.heap.size,i,none⟩=some a∧y.cell? ⟨w.heap.size,j,none⟩=some b∧y.cell? ⟨w.heap.size,k,none⟩=some c∧Bx w cs y:=by
 have hne:some w.heap.size ≠ v.ownBlock:=fun e=>Nat.lt_irrefl _ (Nat.lt_of_lt_of_le (Nat.lt_succ_self _) (hown.lt _ e.symm).1)
 exact ⟨hg.cell h.1 hne,hg.cell h.2.1 hne,hg.cell h.2.2.1 hne,h.2.2.2.grow hown hg⟩
end
section
variable {w x y : World} {cs : List (Array Value)}
structure Bxs (w:World) (cs:List (Array Value)) (x:World):Prop where
  up:Below w.heap.size w x
  size:w.heap.size + cs.length≤x.heap.size
  cell:∀ (j:Nat) c (i:Nat) v,cs[j]?=some c→c[i]?=some v→x.cell? ⟨w.heap.size + j,i,none⟩=some v
  fz:∀ (j:Nat) c (i:Nat),cs[j]?=some c→x.frozen? ⟨w.heap.size + j,i,none⟩=false
theorem Bxs.nil (w:World):Bxs w [] w:=⟨Below.refl _ _,Nat.le_refl _,fun j c i v h=>(by simp at h),fun j c i h=>(by simp at h)⟩
theorem Bxs.later (h:Bxs w cs x) (k:Below x.heap.size x y):Bxs w cs y:=by
 have hlt:∀ (j:Nat) c,cs[j]?=some c→w.heap.size + j < x.heap.size:=fun j c hj=>by
  have:=(List.getElem?_eq_some_iff.1 hj).1
  have:=h.size
  omega
 exact ⟨h.up.trans (k.mono h.up.size),Nat.le_trans h.size k.size,fun j c i v hj hi=>(k.cell (p:=⟨w.heap.size + j,i,none⟩) (hlt j c hj)).trans (h.cell j c i v hj hi),
  fun j c i hj=>(k.frozen (p:=⟨w.heap.size + j,i,none⟩) (hlt j c hj)).trans (h.fz j c i hj)⟩
theorem Bxs.push {T:TypeId} {c:Array Value} (h:Bxs w cs x) (hs:x.heap.size=w.heap.size + cs.length):Bxs w (cs ++ [c]) (x.alloc (.cells c T)):=by
 have k:=h.later ((Below.refl _ x).alloc (Nat.le_refl _) (.cells c T))
 refine ⟨k.up,?_,fun j d i v hj hi=>?_,fun j d i hj=>?_⟩
 ·show _≤(x.heap.push _).size
  simp only [Array.size_push,List.length_append,List.length_cons,List.length_nil];omega
 ·rcases Nat.lt_or_ge j cs.length with hlt | hge
  ·rw [List.getElem?_append_left hlt] at hj;exact k.cell j d i v hj hi
  ·rw [List.getElem?_append_right hge] at hj
   have:j=cs.length:=by have:=(List.getElem?_eq_some_iff.1 hj).1;simp at this;omega
   subst this
   simp at hj
   subst hj
   rw [← hs]
   simpa using hi
 ·rcases Nat.lt_or_ge j cs.length with hlt | hge
  ·rw [List.getElem?_append_left hlt] at hj;exact k.fz j d i hj
  ·rw [List.getElem?_append_right hge] at hj
   have:j=cs.length:=by have:=(List.getElem?_eq_some_iff.1 hj).1;simp at this;omega
   subst this
   rw [← hs]
   simp
theorem Bxs.one (w:World) (T:TypeId) (c:Array Value):Bxs w [c] (w.alloc (.cells c T)):=(Bxs.nil w).push (by simp)
theorem Bxs.two (w:World) (T:TypeId) (c c':Array Value):Bxs w [c,c'] ((w.alloc (.cells c T)).alloc (.cells c' T)):=(Bxs.one w T c).push (by show (w.heap.push _).size=_;simp)
theorem Bxs.set (h:Bxs w cs x) {j:Nat} {c:Array Value} (i:Nat) (v:Value) (hj:cs[j]?=some c) (hi:i < c.size):Bxs w (cs.set j (c.set! i v)) (x.setCell ⟨w.heap.size + j,i,none⟩ v):=by
 have hjl:=(List.getElem?_eq_some_iff.1 hj).1
 have hget:∀ (k:Nat) d,(cs.set j (c.set! i v))[k]?=some d→(k=j∧d=c.set! i v)∨(k ≠ j∧cs[k]?=some d):=fun k d hk=>by
  rw [List.getElem?_set] at hk
  by_cases e:j=k
  ·subst e;rw [if_pos rfl,if_pos hjl] at hk;injection hk with hk;exact .inl ⟨rfl,hk.symm⟩
  ·rw [if_neg e] at hk;exact .inr ⟨fun h=>e h.symm,hk⟩
 refine ⟨h.up.setCell (Nat.le_add_right _ _) v,by rw [List.length_set];exact Nat.le_trans h.size (by simp),fun k d n u hk hn=>?_,fun k d n hk=>?_⟩
 ·rcases hget k d hk with ⟨rfl,rfl⟩ | ⟨hne,hk⟩
  ·by_cases e:n=i
   ·subst e
    have:u=v:=by simp [hi] at hn;exact hn.symm
    subst this
    exact World.cell?_setCell_same _ _ _ (h.cell k c n c[n] hj (by simp [hi]))
   ·have:c[n]?=some u:=by
     rw [Array.set!_eq_setIfInBounds,Array.getElem?_setIfInBounds_ne (fun h=>e h.symm)] at hn;exact hn
    rw [World.cell?_setCell_other _ _ _ _ (fun e'=>by injection e' with _ e';exact e e'.symm)]
    exact h.cell k c n u hj this
  ·rw [World.cell?_setCell_other _ _ _ _ (fun e'=>by injection e' with e' _;omega)]
   exact h.cell k d n u hk hn
 ·rw [World.frozen?_setCell]
  rcases hget k d hk with ⟨rfl,rfl⟩ | ⟨hne,hk⟩
  ·exact h.fz k c n hj
  ·exact h.fz k d n hk
theorem Bxs.c0 (h:Bxs w cs x) {c:Array Value} {i:Nat} {v:Value} (hj:cs[0]?=some c) (hi:c[i]?=some v):x.cell? ⟨w.heap.size,i,none⟩=some v:=h.cell 0 c i v hj hi
theorem Bxs.c1 (h:Bxs w cs x) {c:Array Value} {i:Nat} {v:Value} (hj:cs[1]?=some c) (hi:c[i]?=some v):x.cell? ⟨w.heap.size + 1,i,none⟩=some v:=h.cell 1 c i v hj hi
theorem Bxs.c2 (h:Bxs w cs x) {c:Array Value} {i:Nat} {v:Value} (hj:cs[2]?=some c) (hi:c[i]?=some v):x.cell? ⟨w.heap.size + 1 + 1,i,none⟩=some v:=h.cell 2 c i v hj hi
theorem Bxs.f0 (h:Bxs w cs x) {c:Array Value} (hj:cs[0]?=some c):∀ i,x.frozen? ⟨w.heap.size,i,none⟩=false:=fun i=>h.fz 0 c i hj
theorem Bxs.f1 (h:Bxs w cs x) {c:Array Value} (hj:cs[1]?=some c):∀ i,x.frozen? ⟨w.heap.size + 1,i,none⟩=false:=fun i=>h.fz 1 c i hj
theorem Bxs.f2 (h:Bxs w cs x) {c:Array Value} (hj:cs[2]?=some c):∀ i,x.frozen? ⟨w.heap.size + 1 + 1,i,none⟩=false:=fun i=>h.fz 2 c i hj
theorem Bxs.cells0 (h:Bxs w cs x) {c:Array Value} (hj:cs[0]?=some c):∀ j v,c[j]?=some v→x.cell? ⟨w.heap.size,j,none⟩=some v:=fun j v hv=>h.cell 0 c j v hj hv
structure Bt (T:TypeId) (w:World) (cs:List (Array Value)) (rs:RowL) (x:World):Prop where
  box:Bxs w cs x
  rows:RowsB T (w.heap.size + cs.length) x rs
variable {T : TypeId} {rs : RowL}
theorem Bt.of (h:Bxs w cs x):Bt T w cs [] x:=⟨h,RowsB.nil⟩
theorem Bt.later (h:Bt T w cs rs x) (k:Below x.heap.size x y):Bt T w cs rs y:=⟨h.box.later k,h.rows.later k⟩
theorem Bt.drew (h:Bt T w cs rs x):Bt T w cs rs x.drew:=h.later (Below.refl _ _).drew
theorem Bt.fresh (h:Bt T w cs rs x) (k:Below x.heap.size x y) {A:Option Addr} {c:Nat} {l:List UInt8} (ho:OwnB T x.heap.size y A c l):Bt T w cs (rs ++ [(A,c,l)]) y:=⟨h.box.later k,h.rows.fresh k ho h.box.size⟩
theorem Bt.freshR (h:Bt T w cs rs x) (k:Below x.heap.size x y) {rs':RowL} (hr:RowsB T x.heap.size y rs'):Bt T w cs (rs ++ rs') y:=⟨h.box.later k,h.rows.app k hr h.box.size⟩
theorem Bt.alloc (h:Bt T w cs rs x) (o:Obj):Bt T w cs rs (x.alloc o):=h.later ((Below.refl _ x).alloc (Nat.le_refl _) o)
theorem rows_pre {B:Nat} {us vs:RowL} (h:RowsB T B x (us ++ vs)):RowsB T B x us :=
 ⟨fun i r hr=>h.1 i r (by rw [List.getElem?_append_left (List.getElem?_eq_some_iff.1 hr).1];exact hr),fun i j r s hr hs=>h.2 i j r s (by rw [List.getElem?_append_left (List.getElem?_eq_some_iff.1 hr).1];exact hr) (by rw [List.getElem?_append_left (List.getElem?_eq_some_iff.1 hs).1];exact hs)⟩
theorem Bt.set (h:Bt T w cs rs x) {j:Nat} {c:Array Value} (i:Nat) (v:Value) (hj:cs[j]?=some c) (hi:i < c.size):Bt T w (cs.set j (c.set! i v)) rs (x.setCell ⟨w.heap.size + j,i,none⟩ v):=by
 have hlt:=(List.getElem?_eq_some_iff.1 hj).1
 refine ⟨h.box.set i v hj hi,?_⟩
 rw [List.length_set]
 exact rows_set h.rows (by omega) i v
theorem Bt.s1_0 {a0 a1 a2 a3 a4 a5 a6:Value} {c0:Array Value} {r:List (Array Value)} (u:Value) (h:Bt T w (c0::#[a0,a1,a2,a3,a4,a5,a6]::r) rs x):Bt T w (c0::#[u,a1,a2,a3,a4,a5,a6]::r) rs (x.setCell ⟨w.heap.size + 1,0,none⟩ u):=h.set (j:=1) 0 u rfl (show 0 < 7 by decide)
theorem Bt.s1_1 {a0 a1 a2 a3 a4 a5 a6:Value} {c0:Array Value} {r:List (Array Value)} (u:Value) (h:Bt T w (c0::#[a0,a1,a2,a3,a4,a5,a6]::r) rs x):Bt T w (c0::#[a0,u,a2,a3,a4,a5,a6]::r) rs (x.setCell ⟨w.heap.size + 1,1,none⟩ u):=h.set (j:=1) 1 u rfl (show 1 < 7 by decide)
theorem Bt.s1_2 {a0 a1 a2 a3 a4 a5 a6:Value} {c0:Array Value} {r:List (Array Value)} (u:Value) (h:Bt T w (c0::#[a0,a1,a2,a3,a4,a5,a6]::r) rs x):Bt T w (c0::#[a0,a1,u,a3,a4,a5,a6]::r) rs (x.setCell ⟨w.heap.size + 1,2,none⟩ u):=h.set (j:=1) 2 u rfl (show 2 < 7 by decide)
theorem Bt.s1_3 {a0 a1 a2 a3 a4 a5 a6:Value} {c0:Array Value} {r:List (Array Value)} (u:Value) (h:Bt T w (c0::#[a0,a1,a2,a3,a4,a5,a6]::r) rs x):Bt T w (c0::#[a0,a1,a2,u,a4,a5,a6]::r) rs (x.setCell ⟨w.heap.size + 1,3,none⟩ u):=h.set (j:=1) 3 u rfl (show 3 < 7 by decide)
theorem Bt.s1_4 {a0 a1 a2 a3 a4 a5 a6:Value} {c0:Array Value} {r:List (Array Value)} (u:Value) (h:Bt T w (c0::#[a0,a1,a2,a3,a4,a5,a6]::r) rs x):Bt T w (c0::#[a0,a1,a2,a3,u,a5,a6]::r) rs (x.setCell ⟨w.heap.size + 1,4,none⟩ u):=h.set (j:=1) 4 u rfl (show 4 < 7 by decide)
theorem Bt.s1_5 {a0 a1 a2 a3 a4 a5 a6:Value} {c0:Array Value} {r:List (Array Value)} (u:Value) (h:Bt T w (c0::#[a0,a1,a2,a3,a4,a5,a6]::r) rs x):Bt T w (c0::#[a0,a1,a2,a3,a4,u,a6]::r) rs (x.setCell ⟨w.heap.size + 1,5,none⟩ u):=h.set (j:=1) 5 u rfl (show 5 < 7 by decide)
theorem Bt.s0_0 {a0 a1 a2 a3 a4 a5 a6:Value} {r:List (Array Value)} (u:Value) (h:Bt T w (#[a0,a1,a2,a3,a4,a5,a6]::r) rs x):Bt T w (#[u,a1,a2,a3,a4,a5,a6]::r) rs (x.setCell ⟨w.heap.size,0,none⟩ u):=h.set (j:=0) 0 u rfl (show 0 < 7 by decide)
theorem Bt.s0_1 {a0 a1 a2 a3 a4 a5 a6:Value} {r:List (Array Value)} (u:Value) (h:Bt T w (#[a0,a1,a2,a3,a4,a5,a6]::r) rs x):Bt T w (#[a0,u,a2,a3,a4,a5,a6]::r) rs (x.setCell ⟨w.heap.size,1,none⟩ u):=h.set (j:=0) 1 u rfl (show 1 < 7 by decide)
theorem Bt.s0_2 {a0 a1 a2 a3 a4 a5 a6:Value} {r:List (Array Value)} (u:Value) (h:Bt T w (#[a0,a1,a2,a3,a4,a5,a6]::r) rs x):Bt T w (#[a0,a1,u,a3,a4,a5,a6]::r) rs (x.setCell ⟨w.heap.size,2,none⟩ u):=h.set (j:=0) 2 u rfl (show 2 < 7 by decide)
theorem Bt.s0_3 {a0 a1 a2 a3 a4 a5 a6:Value} {r:List (Array Value)} (u:Value) (h:Bt T w (#[a0,a1,a2,a3,a4,a5,a6]::r) rs x):Bt T w (#[a0,a1,a2,u,a4,a5,a6]::r) rs (x.setCell ⟨w.heap.size,3,none⟩ u):=h.set (j:=0) 3 u rfl (show 3 < 7 by decide)
theorem Bt.s0_4 {a0 a1 a2 a3 a4 a5 a6:Value} {r:List (Array Value)} (u:Value) (h:Bt T w (#[a0,a1,a2,a3,a4,a5,a6]::r) rs x):Bt T w (#[a0,a1,a2,a3,u,a5,a6]::r) rs (x.setCell ⟨w.heap.size,4,none⟩ u):=h.set (j:=0) 4 u rfl (show 4 < 7 by decide)
theorem Bt.s0_5 {a0 a1 a2 a3 a4 a5 a6:Value} {r:List (Array Value)} (u:Value) (h:Bt T w (#[a0,a1,a2,a3,a4,a5,a6]::r) rs x):Bt T w (#[a0,a1,a2,a3,a4,u,a6]::r) rs (x.setCell ⟨w.heap.size,5,none⟩ u):=h.set (j:=0) 5 u rfl (show 5 < 7 by decide)
theorem Bt.s0_6 {a0 a1 a2 a3 a4 a5 a6:Value} {r:List (Array Value)} (u:Value) (h:Bt T w (#[a0,a1,a2,a3,a4,a5,a6]::r) rs x):Bt T w (#[a0,a1,a2,a3,a4,a5,u]::r) rs (x.setCell ⟨w.heap.size,6,none⟩ u):=h.set (j:=0) 6 u rfl (show 6 < 7 by decide)
theorem Bt.fill7 {c:Array Value} {r:List (Array Value)} (h:Bt T w (c::r) rs x) (hc:c.size=7) (v0 v1 v2 v3 v4 v5 v6:Value):Bt T w (#[v0,v1,v2,v3,v4,v5,v6]::r) rs
  (((((((x.setCell ⟨w.heap.size,0,none⟩ v0).setCell ⟨w.heap.size,1,none⟩ v1).setCell ⟨w.heap.size,2,none⟩ v2).setCell ⟨w.heap.size,3,none⟩ v3).setCell ⟨w.heap.size,4,none⟩ v4).setCell ⟨w.heap.size,5,none⟩ v5).setCell ⟨w.heap.size,6,none⟩ v6):=by
 obtain ⟨l⟩:=c
 match l,hc with
 | [b0,b1,b2,b3,b4,b5,b6],_ =>
  exact Bt.s0_6 v6 (Bt.s0_5 v5 (Bt.s0_4 v4 (Bt.s0_3 v3 (Bt.s0_2 v2 (Bt.s0_1 v1 (Bt.s0_0 v0 h))))))
end
section
variable {P : Program}
theorem run_loadVar_at {w:World} {g:Nat} {ty:TypeId} {cs:Array Value} (hc:∀ j v,cs[j]?=some v→w.cell? ⟨g,j,none⟩=some v)
  (ha:(P.underlying ty).map (fun d=>match d with | .struct _ | .array _ _=>true | _=>false)=some true) (hi:(P.info? ty).map (·.size)=some cs.size) :
  (loadVar ty ⟨g,0,none⟩).run P w = .ok (.agg cs) w:=by
 have hl:(loadCells ⟨g,0,none⟩ cs.toList.length).run P w = .ok cs.toList.toArray w :=
  run_loadCells_list (P:=P) w ⟨g,0,none⟩ cs.toList (fun j v hv=>by
   have hadd:(⟨g,0,none⟩:Addr).add j=⟨g,j,none⟩:=by unfold Addr.add;split <;> simp_all
   rw [hadd]
   exact hc j v (by simpa using hv))
 simp only [Array.length_toList,Array.toArray_toList] at hl
 have h1:=run_isAgg_of ha w
 have h2:=run_sizeOf_of hi w
 simp [loadVar,Sem.run_bind,h1,h2,hl]
theorem results_box1 {fn:Func} {p t:Tmp} {ty:TypeId} (h:fn.results=#[.cell p ty,.tmp t]) (tmps:Array Value) (w:World) (g:Nat) (cs:Array Value)
  (hp:tmps.getD p undef = .pointer (some ⟨g,0,none⟩)) (hc:∀ j v,cs[j]?=some v→w.cell? ⟨g,j,none⟩=some v)
  (ha:(P.underlying ty).map (fun d=>match d with | .struct _ | .array _ _=>true | _=>false)=some true) (hi:(P.info? ty).map (·.size)=some cs.size) :
  (results fn tmps).run P w = .ok (.tuple #[.agg cs,tmps.getD t undef]) w:=by
 have hp':tmps[p]?.getD undef = .pointer (some ⟨g,0,none⟩):=by simpa using hp
 simp [results,h,hp',asAddr,run_loadVar_at hc ha hi]
end
section
variable {w x y : World} {T : TypeId} {rs : RowL}
theorem results_box0 {P:Program} {fn:Func} {p:Tmp} {ty:TypeId} (h:fn.results=#[.cell p ty]) (tmps:Array Value) (w:World) (g:Nat) (cs:Array Value)
  (hp:tmps.getD p undef = .pointer (some ⟨g,0,none⟩)) (hc:∀ j v,cs[j]?=some v→w.cell? ⟨g,j,none⟩=some v)
  (ha:(P.underlying ty).map (fun d=>match d with | .struct _ | .array _ _=>true | _=>false)=some true) (hi:(P.info? ty).map (·.size)=some cs.size) :
  (results fn tmps).run P w = .ok (.agg cs) w:=by
 have hp':tmps[p]?.getD undef = .pointer (some ⟨g,0,none⟩):=by simpa using hp
 simp [results,h,hp',asAddr,run_loadVar_at hc ha hi]
end
section
variable {w x y : World} {T : TypeId}
def Over (m:UInt8) (w x:World):Prop:=w.heap.size≤x.heap.size∧∀ p u,w.cell? p=some u→x.cell? p=some u∨x.cell? p=some (u8v m)
theorem Over.refl (m:UInt8) (w:World):Over m w w:=⟨Nat.le_refl _,fun _p _u h => .inl h⟩
theorem Over.trans {m:UInt8} (h:Over m w x) (k:Over m x y):Over m w y:=⟨Nat.le_trans h.1 k.1,fun p u e=>by
 rcases h.2 p u e with e | e
 ·exact k.2 p u e
 ·rcases k.2 p _ e with e | e <;> exact .inr e⟩
theorem Over.alloc {m:UInt8} (w:World) (o:Obj):Over m w (w.alloc o):=⟨((Below.refl _ w).alloc (Nat.le_refl _) o).size,fun _p _u e => .inl (cell_alloc_old e)⟩
structure Lng (w:World) (A:Option Addr) (n:Nat) (m:UInt8) (g:Nat) (x:World):Prop where
  ge:w.heap.size≤g
  lt:g < x.heap.size
  all:∃ c A1 c1 A2 c2 A3 c3,(x.cell? ⟨g,0,none⟩=some (.slice A n c)∧x.cell? ⟨g,1,none⟩=some (.slice A1 (n + 1) c1)∧x.cell? ⟨g,2,none⟩=some (.slice A2 (n + 2) c2)∧x.cell? ⟨g,3,none⟩=some (.slice A3 (n + 101) c3)) ∧
    (Sl x A n c (List.replicate n m)∧Sl x A1 (n + 1) c1 (List.replicate (n + 1) m)∧Sl x A2 (n + 2) c2 (List.replicate (n + 2) m)∧Sl x A3 (n + 101) c3 (List.replicate (n + 101) m))∧Blk w A A1∧Blk w A A2∧Blk w A A3
theorem Lng.chg {A:Option Addr} {n:Nat} {m:UInt8} {g:Nat} {S:Nat→Prop} (h:Lng w A n m g x) (hc:Chg S x y) (hS:∀ b,S b→b < w.heap.size∧A.map (·.block) ≠ some b):Lng w A n m g y:=by
 obtain ⟨c,A1,c1,A2,c2,A3,c3,⟨q0,q1,q2,q3⟩,⟨s0,s1,s2,s3⟩,b1,b2,b3⟩:=h.all
 have hg:¬ S g:=fun e=>by have:=(hS g e).1;have:=h.ge;omega
 have hA:∀ a,A=some a→¬ S a.block:=fun a ha e=>(hS _ e).2 (by rw [ha];rfl)
 have hB:∀ {A':Option Addr},Blk w A A'→∀ a,A'=some a→¬ S a.block:=fun hb a ha e=>by
  rcases hb a ha with h' | h'
  ·exact (hS _ e).2 h'
  ·have:=(hS _ e).1;omega
 exact ⟨h.ge,Nat.lt_of_lt_of_le h.lt hc.size,c,A1,c1,A2,c2,A3,c3,⟨hc.cell q0 hg,hc.cell q1 hg,hc.cell q2 hg,hc.cell q3 hg⟩,
  ⟨s0.chg hc fun _=>hA,s1.chg hc fun _=>hB b1,s2.chg hc fun _=>hB b2,s3.chg hc fun _=>hB b3⟩,b1,b2,b3⟩
theorem Lng.later {A:Option Addr} {n:Nat} {m:UInt8} {g:Nat} (h:Lng w A n m g x) (hb:Below x.heap.size x y):Lng w A n m g y:=h.chg (S:=fun _=>False) (Below.chg0 hb) fun _b e=>e.elim
end
section
variable {P : Program} {ops : Array Oper} {Q : Exit → Act → World → Prop}
structure Same (S:List Nat) (b a:Act):Prop where
  size:a.tmps.size=b.tmps.size
  rest:a.defers=b.defers
  at_:∀ k,k ∉ S→a.tmps[k]?=b.tmps[k]?
theorem Same.refl (S:List Nat) (a:Act):Same S a a:=⟨rfl,rfl,fun _ _=>rfl⟩
theorem Same.put {S:List Nat} {b a:Act} (h:Same S b a) {d:Nat} (hd:d ∈ S) (x:Value):Same S b (a.put (some d) x) :=
 ⟨by simp [Act.put,h.size],h.rest,fun k hk=>by
  have:d ≠ k:=fun e=>hk (e ▸ hd)
  simp only [Act.put,Array.getElem?_setIfInBounds_ne this]
  exact h.at_ k hk⟩
theorem eval_tmp (a:Act) (k:Nat):a.eval (.tmp k)=a.tmps.getD k undef:=rfl
theorem Same.eval {S:List Nat} {b a:Act} (h:Same S b a) {k:Nat} (hk:k ∉ S):a.eval (.tmp k)=b.eval (.tmp k):=by
 simp only [eval_tmp,Array.getD_eq_getD_getElem?,h.at_ k hk]
def AllOps (C:Nat→Oper→Prop):Nat→List Oper→Prop
 | _,[]=>True
 | k,o::l=>C k o∧AllOps C (k + 1) l
theorem AllOps.at_ {C:Nat→Oper→Prop}:∀ {l:List Oper} {k:Nat},AllOps C k l→∀ (i:Nat) o,l[i]?=some o→C (k + i) o
 | [],_,_,i,o,h=>by simp at h
 | x::l,k,h,i,o,hi=>by
  cases i with
  | zero=>injection hi with hi;subst hi;exact h.1
  | succ i =>
   have:=AllOps.at_ h.2 i o hi
   rwa [show k + 1 + i=k + (i + 1) from by omega] at this
def GoFn (P : Program) (f : FuncId) : Prop := ∃ fn, P.funcs[f]? = some fn ∧ (fn.name == "runtime.NumGoroutine") = false ∧ fn.body.isNone = false
theorem run_callFunc_go {f:FuncId} (h:GoFn P f) (args:Array Value) (w:World):(callFunc f args).run P w = .ok (.enter f args) w:=by
 obtain ⟨fn,h1,h2,h3⟩:=h
 have e2 : (fn.name == "runtime.NumGoroutine") = false := h2
 have e3:fn.body.isNone=false:=h3
 unfold callFunc
 have hp:program.run P w = .ok P w:=rfl
 simp only [Sem.run_bind,hp,Result.andThen_ok,h1,e2,e3,Bool.false_eq_true,if_false,Sem.run_pure]
theorem wp_call_go {o:Oper} {a:Act} {w:World} {K:Act→World→Prop} {f:FuncId} {xs:Array Operand} {ats:Array TypeId} (ho:o.op = .call { callee := .value (.func f),args:=xs,argTypes:=ats }) (hf:GoFn P f)
  (vals:Array Value) (hv:xs.map a.eval=vals) (hc:Calls P f vals w fun e w'=>∃ v,e = .returned v∧K (a.put o.dst v) w'):o.wp P a w K Q:=by
 subst hv
 have hrun:(execOp a.eval o).run P w = .ok (.enter f (xs.map a.eval)) w:=by
  obtain ⟨dst,op,type,pos,after,guard⟩:=o
  simp only at ho
  subst ho
  rw [execOp_call_go]
  have e:#[] ++ xs.map a.eval ++ #[]=xs.map a.eval:=by simp
  rw [e]
  exact run_callFunc_go hf _ w
 unfold Oper.wp
 rw [hrun,Oper.upon_enter]
 refine hc.mono fun e w' ⟨v,he,hK⟩=>?_
 subst he
 exact hK
structure RowTy (P:Program) (ty:TypeId) (n:Nat):Prop where
  desc:∃ d,P.underlying ty=some d∧d.isRow=true
  size:(P.info? ty).map (·.size)=some n
theorem wp_load_row7 {o:Oper} {a:Act} {w:World} {K:Act→World→Prop} {ty:TypeId} {x:Operand} (ho:o.op = .load ty x) {g:Nat} {cs:List Value} (hx:a.eval x = .pointer (some ⟨g,0,none⟩)) (hr:w.rangeAt g 0 cs) (ht:RowTy P ty cs.length)
  (hK:K (a.put o.dst (.agg cs.toArray)) w):o.wp P a w K Q:=by
 obtain ⟨⟨d,hu,hd⟩,hi⟩:=ht
 exact wp_load_mid ty x ho g 0 hx cs d hr hu hd hi hK
theorem wpList_load_row7 {rest:List Oper} {o:Oper} {a:Act} {w:World} (hgd:Region.wanted o (yielded ops a.tmps)=true) (ty:TypeId) (x:Operand) (ho:o.op = .load ty x) {g:Nat} {cs:List Value} (hx:a.eval x = .pointer (some ⟨g,0,none⟩)) (hr:w.rangeAt g 0 cs) (ht:RowTy P ty cs.length)
  (hK:wpList P ops Q rest (a.put o.dst (.agg cs.toArray)) w):wpList P ops Q (o::rest) a w :=
 BigFrame.wpList_want hgd fun _ h=>wp_load_row7 ho hx hr ht (h _ _ hK)
end
abbrev Bx1:=Option (Nat×List Value)
structure St (T:TypeId) (w:World) (bs:List Bx1) (rs:RowL) (x:World):Prop where
  up:Below w.heap.size w x
  box:∀ (i:Nat) g cs,bs[i]?=some (some (g,cs))→w.heap.size≤g∧g < x.heap.size∧x.rangeAt g 0 cs∧∀ j,x.frozen? ⟨g,j,none⟩=false
  ne:∀ (i j:Nat) g cs h ds,bs[i]?=some (some (g,cs))→bs[j]?=some (some (h,ds))→i ≠ j→g ≠ h
  rows:RowsB T w.heap.size x rs
  off:∀ (i j:Nat) g cs r a,bs[i]?=some (some (g,cs))→rs[j]?=some r→r.1=some a→a.block ≠ g
section
variable {T : TypeId} {w x y : World} {bs : List Bx1} {rs : RowL} {i g : Nat} {cs vs : List Value}
theorem St.nil (T:TypeId) (w:World):St T w [] [] w:=⟨Below.refl _ _,fun i g cs h=>by simp at h,fun i j g cs h ds h1=>by simp at h1,RowsB.nil,fun i j g cs r a h=>by simp at h⟩
theorem range_below {g:Nat} (h:x.rangeAt g 0 cs) (k:Below x.heap.size x y):y.rangeAt g 0 cs:=fun j v hv=>cell_below k (h j v hv)
theorem St.later (h:St T w bs rs x) (k:Below x.heap.size x y):St T w bs rs y :=
 ⟨h.up.trans (k.mono h.up.size),fun i g cs hb=>by
  obtain ⟨h1,h2,h3,h4⟩:=h.box i g cs hb
  exact ⟨h1,Nat.lt_of_lt_of_le h2 k.size,range_below h3 k,fun j=>(k.frozen (p:=⟨g,j,none⟩) h2).trans (h4 j)⟩,h.ne,h.rows.later k,h.off⟩
theorem St.drew (h:St T w bs rs x):St T w bs rs x.drew:=h.later (Below.refl _ _).drew
theorem St.range (h:St T w bs rs x) (hb:bs[i]?=some (some (g,cs))):x.rangeAt g 0 cs:=(h.box i g cs hb).2.2.1
theorem St.cell (h:St T w bs rs x) (hb:bs[i]?=some (some (g,cs))) {j:Nat} {v:Value} (hv:cs[j]?=some v):x.cell? ⟨g,j,none⟩=some v:=by have:=h.range hb j v hv;rwa [Nat.zero_add] at this
theorem St.fz (h:St T w bs rs x) (hb:bs[i]?=some (some (g,cs))) (j:Nat):x.frozen? ⟨g,j,none⟩=false:=(h.box i g cs hb).2.2.2 j
theorem St.more (h:St T w bs rs x):St T w (bs ++ [none]) rs x:=by
 have hg:∀ (i:Nat) b,(bs ++ [none])[i]?=some (some b)→bs[i]?=some (some b):=fun i b hi=>by
  rw [List.getElem?_append] at hi
  split at hi
  ·exact hi
  ·rw [List.getElem?_singleton] at hi;split at hi <;> simp at hi
 exact ⟨h.up,fun i g cs hb=>h.box i g cs (hg i _ hb),fun i j g cs g' ds h1 h2=>h.ne i j g cs g' ds (hg i _ h1) (hg j _ h2),h.rows,fun i j g cs r a h1=>h.off i j g cs r a (hg i _ h1)⟩
theorem set_get {b:Bx1} {c:Nat×List Value} {j:Nat} (hj:(bs.set i b)[j]?=some (some c)):(j=i∧b=some c)∨(j ≠ i∧bs[j]?=some (some c)):=by
 rw [List.getElem?_set] at hj
 by_cases e:i=j
 ·subst e
  rw [if_pos rfl] at hj
  split at hj
  ·injection hj with hj;exact .inl ⟨rfl,hj⟩
  ·cases hj
 ·rw [if_neg e] at hj
  exact .inr ⟨fun h=>e h.symm,hj⟩
theorem range_new (w:World) (cs:List Value) (t:TypeId):(w.alloc (.cells cs.toArray t)).rangeAt w.heap.size 0 cs:=fun j v hv=>by
 rw [Nat.zero_add];simpa using hv
theorem St.fill {t:TypeId} (h:St T w bs rs x) (i:Nat) (cs:List Value) (hn:bs[i]?=some none):St T w (bs.set i (some (x.heap.size,cs))) rs (x.alloc (.cells cs.toArray t)):=by
 have hb:Below x.heap.size x (x.alloc (.cells cs.toArray t)):=(Below.refl _ x).alloc (Nat.le_refl _) _
 have k:=h.later hb
 have hsz:x.heap.size < (x.alloc (.cells cs.toArray t)).heap.size:=by show _ < (x.heap.push _).size;simp
 refine ⟨k.up,fun j g ds hj=>?_,fun j q g ds g' ds' hj hq hne=>?_,k.rows,fun j q g ds r a hj hq ha=>?_⟩
 ·rcases set_get hj with ⟨rfl,e⟩ | ⟨_,hj⟩
  ·injection e with e;injection e with e1 e2;subst e1;subst e2
   exact ⟨h.up.size,hsz,range_new _ _ _,fun j=>by simp⟩
  ·exact k.box j g ds hj
 ·rcases set_get hj with ⟨rfl,e⟩ | ⟨h1,hj1⟩ <;> rcases set_get hq with ⟨rfl,e'⟩ | ⟨h2,hq1⟩
  ·exact absurd rfl hne
  ·injection e with e;injection e with e1 _;subst e1
   exact Nat.ne_of_gt (h.box q g' ds' hq1).2.1
  ·injection e' with e';injection e' with e1 _;subst e1
   exact Nat.ne_of_lt (h.box j g ds hj1).2.1
  ·exact h.ne j q g ds g' ds' hj1 hq1 hne
 ·rcases set_get hj with ⟨rfl,e⟩ | ⟨h1,hj⟩
  ·injection e with e;injection e with e1 _;subst e1
   exact Nat.ne_of_lt (((h.rows.1 q r hq).lt ha).2)
  ·exact h.off j q g ds r a hj hq ha
theorem St.push {t:TypeId} (h:St T w bs rs x) (cs:List Value):St T w (bs ++ [some (x.heap.size,cs)]) rs (x.alloc (.cells cs.toArray t)):=by
 have:=(h.more).fill (t:=t) bs.length cs (by simp)
 simpa using this
theorem St.chg {S:Nat→Prop} (h:St T w bs rs x) (hc:Chg S x y) (hS:∀ b,S b→w.heap.size≤b) (hb:∀ (i:Nat) g cs,bs[i]?=some (some (g,cs))→¬ S g) (hr:∀ (i:Nat) r,rs[i]?=some r→∀ a,r.1=some a→¬ S a.block):St T w bs rs y :=
 ⟨h.up.trans (hc.below h.up.size fun k _ hk=>hS k hk),fun i g cs hi=>by
  obtain ⟨h1,h2,h3,h4⟩:=h.box i g cs hi
  refine ⟨h1,Nat.lt_of_lt_of_le h2 hc.size,fun j v hv=>hc.cell (h3 j v hv) (hb i g cs hi),fun j=>?_⟩
  have:=hc.block g h2 (hb i g cs hi)
  have h5:=h4 j
  unfold World.frozen? at h5 ⊢
  rw [this];exact h5,h.ne,h.rows.chg hc hr,h.off⟩
theorem setCells_chg (g:Nat):∀ (vs:List Value) (o:Nat) (x:World),Chg (fun b=>b=g) x (x.setCells g o vs)
 | [],_,x=>Chg.refl _ x
 | v::vs,o,x=>(Chg.setCell x ⟨g,o,none⟩ v).trans (setCells_chg g vs (o + 1) _)
theorem St.put (h:St T w bs rs x) (hb:bs[i]?=some (some (g,cs))) (hl:vs.length=cs.length):St T w (bs.set i (some (g,vs))) rs (x.setCells g 0 vs)∧Chg (fun b=>b=g) x (x.setCells g 0 vs):=by
 have hc:=setCells_chg g vs 0 x
 obtain ⟨hw,hx,hr,hf⟩:=h.box i g cs hb
 have ht:x.there g 0 vs.length:=fun j hj=>⟨hr.isSome j (by omega),by rw [Nat.zero_add];exact hf j⟩
 have hfz:∀ q,(x.setCells g 0 vs).frozen? q=x.frozen? q:=fun q=>World.frozen?_setCells _ _ _ _ _
 refine ⟨⟨h.up.trans (hc.below h.up.size fun k _ hk=>by rw [hk];exact hw),fun j g' ds hj=>?_,fun j q g' ds g'' ds' hj hq hne=>?_,h.rows.chg hc fun q r hq a ha=>h.off i q g cs r a hb hq ha,fun j q g' ds r a hj hq ha=>?_⟩,hc⟩
 ·rcases set_get hj with ⟨rfl,e⟩ | ⟨h1,hj⟩
  ·injection e with e;injection e with e1 e2;subst e1;subst e2
   exact ⟨hw,Nat.lt_of_lt_of_le hx hc.size,World.rangeAt_setCells_same x g 0 vs ht,fun j=>(hfz _).trans (hf j)⟩
  ·obtain ⟨a1,a2,a3,a4⟩:=h.box j g' ds hj
   exact ⟨a1,Nat.lt_of_lt_of_le a2 hc.size,World.rangeAt_setCells_apart a3 g 0 vs (.inl (h.ne j i g' ds g cs hj hb h1)),fun j=>(hfz _).trans (a4 j)⟩
 ·rcases set_get hj with ⟨rfl,e⟩ | ⟨h1,hj1⟩ <;> rcases set_get hq with ⟨rfl,e'⟩ | ⟨h2,hq1⟩
  ·exact absurd rfl hne
  ·injection e with e;injection e with e1 _;subst e1
   exact h.ne j q g cs g'' ds' hb hq1 hne
  ·injection e' with e';injection e' with e1 _;subst e1
   exact h.ne j q g' ds g cs hj1 hb hne
  ·exact h.ne j q g' ds g'' ds' hj1 hq1 hne
 ·rcases set_get hj with ⟨rfl,e⟩ | ⟨h1,hj⟩
  ·injection e with e;injection e with e1 _;subst e1
   exact h.off j q g cs r a hb hq ha
  ·exact h.off j q g' ds r a hj hq ha
theorem St.app (h:St T w bs rs x) (k:Below x.heap.size x y) {rs':RowL} (hr:RowsB T x.heap.size y rs'):St T w bs (rs ++ rs') y :=
 ⟨(h.later k).up,(h.later k).box,h.ne,h.rows.app k hr h.up.size,fun i j g cs r a hb hj ha=>by
  rw [List.getElem?_append] at hj
  split at hj
  ·exact h.off i j g cs r a hb hj ha
  ·have h1:=((hr.1 _ r hj).lt ha).1
   have h2:=(h.box i g cs hb).2.1
   omega⟩
theorem St.fresh (h:St T w bs rs x) (k:Below x.heap.size x y) {A:Option Addr} {c:Nat} {l:List UInt8} (ho:OwnB T x.heap.size y A c l):St T w bs (rs ++ [(A,c,l)]) y :=
 h.app k (RowsB.nil.snoc ho fun i r hr=>by simp at hr)
theorem St.sl {c n:Nat} {A:Option Addr} {l:List UInt8} (h:St T w bs rs x) (hr:rs[i]?=some (A,c,l)) (hn:l.length=n):Sl x A n c l:=h.rows.sl_at hr hn
theorem St.own {c:Nat} {A:Option Addr} {l:List UInt8} (h:St T w bs rs x) (hr:rs[i]?=some (A,c,l)):OwnB T w.heap.size x A c l:=h.rows.1 i _ hr
theorem RowsB.erase {B:Nat} (h:RowsB T B x rs) (i:Nat):RowsB T B x (rs.eraseIdx i) :=
 h.pick (fun j=>if j < i then j else j + 1) (fun a b _ _ hne=>by split <;> split <;> omega) fun j s hs=>by
  rw [List.getElem?_eraseIdx] at hs
  split at hs
  ·rename_i hj;rw [if_pos hj];exact hs
  ·rename_i hj;rw [if_neg hj];exact hs
theorem erase_from {j:Nat} {r:Option Addr×Nat×List UInt8} (h:(rs.eraseIdx i)[j]?=some r):∃ k,k ≠ i∧rs[k]?=some r:=by
 rw [List.getElem?_eraseIdx] at h
 split at h
 ·exact ⟨j,by omega,h⟩
 ·exact ⟨j + 1,by omega,h⟩
theorem St.erase (h:St T w bs rs x) (i:Nat):St T w bs (rs.eraseIdx i) x:=⟨h.up,h.box,h.ne,h.rows.erase i,fun q j g cs r a hb hr ha=>by
 obtain ⟨k,_,hk⟩:=erase_from hr
 exact h.off q k g cs r a hb hk ha⟩
theorem Lng.box {x0:World} {A:Option Addr} {c n g k i g1:Nat} {m:UInt8} {l:List UInt8} {cs:List Value} (L:Lng x0 A n m g x) (h:St T w bs rs x0) (hb:bs[k]?=some (some (g1,cs))) (hi:rs[i]?=some (A,c,l)) (hc:Chg (fun b=>b=g1) x y):Lng x0 A n m g y:=by
 refine L.chg hc fun b e=>?_
 subst e
 refine ⟨(h.box k _ cs hb).2.1,fun e=>?_⟩
 cases A with
 | none=>cases e
 | some a =>
  injection e with e
  exact h.off k i _ cs _ a hb hi rfl e
end
section
variable {P : Program} {ops : Array Oper} {Q : Exit → Act → World → Prop}
theorem wp_alloc_row {o:Oper} {a:Act} {w:World} {K:Act→World→Prop} {ty:TypeId} (ho:o.op = .alloc ty) {z:Value} (hz:(P.info? ty).bind (·.zero)=some z)
  (hK:K (a.put o.dst (.pointer (some ⟨w.heap.size,0,none⟩))) (w.alloc (.cells z.cells ty))):o.wp P a w K Q:=by
 cases hi:P.info? ty with
 | none=>rw [hi] at hz;cases hz
 | some i =>
  rw [hi] at hz
  have hz:i.zero=some z:=hz
  unfold Oper.wp execOp
  simp [ho,Instr.alloc,zeroValue,typeInfo,hi,hz,newVar,newRow,Sem.run_bind,Oper.upon]
  exact hK
theorem wp_store_row {o:Oper} {a:Act} {w:World} {K:Act→World→Prop} {ty:TypeId} {x y:Operand} (ho:o.op = .store ty x y) {g:Nat} {cs vs:List Value} (hx:a.eval x = .pointer (some ⟨g,0,none⟩)) (hy:a.eval y = .agg vs.toArray)
  (hr:w.rangeAt g 0 cs) (hf:∀ j,w.frozen? ⟨g,j,none⟩=false) (hl:vs.length=cs.length) (ht:(P.info? ty).map (·.size)=some vs.length) (h1:∀ u ∈ vs,u.oneCell'=true)
  (hK:K (a.put o.dst undef) (w.setCells g 0 vs)):o.wp P a w K Q :=
 wp_store_mid ty x y ho g 0 vs.toArray hx hy (fun j hj=>⟨hr.isSome j (by simpa [hl] using hj),by rw [Nat.zero_add];exact hf j⟩) (by simpa using ht) (all_oneCell_toArray h1) hK
end
structure Parts where
  k:Nat
  s:Nat→Nat
  u:Nat→Nat
  t:Nat→Nat
  L:Nat→Nat
  C:Nat→Nat
  A:Nat→Nat
  X:Nat→Nat
def Parts.sl (p:Parts) (j:Nat):List Nat:=[p.s j,p.u j,p.t j]
def Parts.op (p:Parts) (j:Nat):List Nat:=[p.L j,p.C j,p.A j,p.X j]
def Parts.ok (p:Parts) (n:Nat):Bool:=(List.range p.k).all fun j=>decide ((p.sl j).Nodup) && decide ((p.op j).Nodup) && (p.sl j).all (fun d=>decide (d < n)) &&
 (List.range p.k).all fun i=>i == j || ((p.sl i).all fun x=>!(p.sl j).contains x) && (p.op i).all fun x=>!(p.op j).contains x
section
variable {P : Program} {Q : Exit → Act → World → Prop} {T : TypeId} {w : World} {bs : List Bx1} {rs : RowL}
variable {p : Parts} {n m : Nat} {arg : Nat → List Value} {Pst : Nat → Value → RowL → Prop} {l : List Oper} {f0 : Act} {o : Oper} {j : Nat}
def upd {α:Type} (f:Nat→α) (j:Nat) (x:α):Nat→α:=fun i=>if i=j then x else f i
end
section
variable {P : Program} {Q : Exit → Act → World → Prop} {S : World → Prop} {l : List Oper} {fuel : Nat} {listed : Array Bool} {a : Act} {w : World} {i : Nat} {o : Oper} {v : Value}
theorem lx_at (hi:l[i]?=some o):l.toArray[i]?=some o:=by simpa using hi
theorem yi_row {ty:TypeId} {x:Operand} (hw:Region.wanted o (yielded l.toArray a.tmps)=true) (ho:o.op = .load ty x) {g:Nat} {cs:List Value} (hx:a.eval x = .pointer (some ⟨g,0,none⟩)) (hr:∀ w,S w→w.rangeAt g 0 cs) (ht:RowTy P ty cs.length) :
  YieldsIf P l.toArray S o (.agg cs.toArray) a:=by
 obtain ⟨⟨d,hu,hd⟩,hi⟩:=ht
 refine .inl ⟨hw,fun w hS=>?_⟩
 unfold execOp
 simp only [ho,hx,Instr.loadAt,Instr.sureAddr,Sem.run_bind,Sem.run_pure,Result.andThen_ok,run_loadVar_mid w g 0 ty cs d (hr w hS) hu hd hi]
theorem yi_cell {ty:TypeId} {x:Operand} (hw:Region.wanted o (yielded l.toArray a.tmps)=true) (ho:o.op = .load ty x) {g k:Nat} (hx:a.eval x = .pointer (some ⟨g,k,none⟩)) (hr:∀ w,S w→w.cell? ⟨g,k,none⟩=some v) (ha:∀ w,(isAgg ty).run P w = .ok false w) :
  YieldsIf P l.toArray S o v a:=by
 refine .inl ⟨hw,fun w hS=>?_⟩
 have h:=hr w hS
 unfold execOp
 simp only [ho,hx,Instr.loadAt,Instr.sureAddr,loadVar,Sem.run_bind,Sem.run_pure,Result.andThen_ok,ha w,Bool.false_eq_true,if_false]
 simp [go_sem,h]
theorem yi_run (hw:Region.wanted o (yielded l.toArray a.tmps)=true) (h:∀ w,(execOp a.eval o).run P w = .ok (.value v) w):YieldsIf P l.toArray S o v a := .inl ⟨hw,fun w _=>h w⟩
end
section
variable {T : TypeId} {w x y : World} {bs : List Bx1} {rs : RowL} {i g : Nat} {cs vs : List Value}
theorem St.write (h:St T w bs rs x) (hb:bs[i]?=some (some (g,cs))) (hc:Chg (fun b=>b=g) x y) (hr':y.rangeAt g 0 vs) (hfz:∀ q,y.frozen? q=x.frozen? q):St T w (bs.set i (some (g,vs))) rs y:=by
 obtain ⟨hw,hx,hr,hf⟩:=h.box i g cs hb
 refine ⟨h.up.trans (hc.below h.up.size fun k _ hk=>by rw [hk];exact hw),fun j g' ds hj=>?_,fun j q g' ds g'' ds' hj hq hne=>?_,h.rows.chg hc fun q r hq a ha=>h.off i q g cs r a hb hq ha,fun j q g' ds r a hj hq ha=>?_⟩
 ·rcases set_get hj with ⟨rfl,e⟩ | ⟨h1,hj⟩
  ·injection e with e;injection e with e1 e2;subst e1;subst e2
   exact ⟨hw,Nat.lt_of_lt_of_le hx hc.size,hr',fun j=>(hfz _).trans (hf j)⟩
  ·obtain ⟨a1,a2,a3,a4⟩:=h.box j g' ds hj
   exact ⟨a1,Nat.lt_of_lt_of_le a2 hc.size,fun k v hk=>hc.cell (a3 k v hk) (h.ne j i g' ds g cs hj hb h1),fun j=>(hfz _).trans (a4 j)⟩
 ·rcases set_get hj with ⟨rfl,e⟩ | ⟨h1,hj1⟩ <;> rcases set_get hq with ⟨rfl,e'⟩ | ⟨h2,hq1⟩
  ·exact absurd rfl hne
  ·injection e with e;injection e with e1 _;subst e1
   exact h.ne j q g cs g'' ds' hb hq1 hne
  ·injection e' with e';injection e' with e1 _;subst e1
   exact h.ne j q g' ds g cs hj1 hb hne
  ·exact h.ne j q g' ds g'' ds' hj1 hq1 hne
 ·rcases set_get hj with ⟨rfl,e⟩ | ⟨h1,hj⟩
  ·injection e with e;injection e with e1 _;subst e1
   exact h.off _ q g cs r a hb hq ha
  ·exact h.off j q g' ds r a hj hq ha
theorem St.put1 (h:St T w bs rs x) (hb:bs[i]?=some (some (g,cs))) (j:Nat) (v:Value):St T w (bs.set i (some (g,cs.set j v))) rs (x.setCells g j [v])∧Chg (fun b=>b=g) x (x.setCells g j [v]):=by
 have hc:=setCells_chg g [v] j x
 obtain ⟨hw,hx,hr,hf⟩:=h.box i g cs hb
 refine ⟨h.write hb hc (fun k u hk=>?_) fun q=>World.frozen?_setCells _ _ _ _ _,hc⟩
 show (x.setCell ⟨g,j,none⟩ v).cell? ⟨g,0 + k,none⟩=some u
 rw [Nat.zero_add]
 rw [List.getElem?_set] at hk
 by_cases e:j=k
 ·subst e
  rw [if_pos rfl] at hk
  split at hk
  ·rename_i hlt
   injection hk with hk;subst hk
   have:=hr j _ (List.getElem?_eq_getElem hlt)
   rw [Nat.zero_add] at this
   exact World.cell?_setCell_same _ _ _ this
  ·cases hk
 ·rw [if_neg e] at hk
  rw [World.cell?_setCell_other _ _ _ _ (fun e'=>by injection e' with _ e' _;exact e e')]
  have:=hr k u hk
  rwa [Nat.zero_add] at this
end
section
variable {P : Program} {ops : Array Oper} {Q : Exit → Act → World → Prop}
theorem one_cells {v:Value} (h:v.oneCell'=true):v.cells=#[v]:=by cases v <;> first | rfl | simp_all [Value.oneCell']
theorem run_storeVar_one (w:World) (b o:Nat) (ty:TypeId) (v:Value) (hs:(w.cell? ⟨b,o,none⟩).isSome=true) (hf:w.frozen? ⟨b,o,none⟩=false) (h1:v.oneCell'=true) (hi:(P.info? ty).map (·.size)=some 1) :
  (storeVar ty ⟨b,o,none⟩ v).run P w = .ok () (w.setCells b o [v]):=by
 have:=run_storeCells_cells (P:=P) b o [v] 0 w (fun j hj=>by
  obtain rfl:j=0:=(by simpa using hj)
  simpa using hs) (fun j hj=>by
  obtain rfl:j=0:=(by simpa using hj)
  simpa using hf) (fun u hu=>by
  obtain rfl:u=v:=(by simpa using hu)
  exact h1)
 cases hq:P.info? ty with
 | none=>simp [hq] at hi
 | some i =>
  have hs:i.size=1:=by simpa [hq] using hi
  simp only [Nat.add_zero] at this
  simp [storeVar,sizeOf,typeInfo,hq,one_cells h1,hs,this]
end
end Go.Proofs.YtfdbcfaeiglbeaaGreatDoor
