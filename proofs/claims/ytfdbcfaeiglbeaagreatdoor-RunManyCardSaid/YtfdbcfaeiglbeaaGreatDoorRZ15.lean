/-
 CellR7.
-/
import Derived.Test.YtfdbcfaeiglbeaaGreatDoorRZ5
import Derived.Test.YtfdbcfaeiglbeaaGreatDoorRZ9
import Derived.BigRegion
import Derived.Lib.MinMax
import Derived.Maps.RangeWalk
import Derived.Sort.MapsRangeIn
import Derived.StillTailTactics
namespace Go.Proofs.YtfdbcfaeiglbeaaGreatDoor
open Go.RowKit
set_option maxRecDepth 100000 in
theorem rnumber_any (x y:Int) (w:World):Calls Tryz.prog 98 #[.int .i64 x,.int .i64 y] w fun e w'=>e = .returned (.int .i64 (cmpI x y))∧w=w':=by
 go_enter Tryz.func98,Tryz.ntmps98
 go_wp2
 all_goals (go_ret;refine ⟨ret_int ?_,rfl⟩;unfold cmpI;(repeat' split) <;> first | rfl | (exfalso;omega))
set_option maxRecDepth 100000 in
theorem rfirst_any (x y:Bool) (w:World):Calls Tryz.prog 99 #[.bool x,.bool y] w fun e w'=>e = .returned (.int .i64 (firstI x y))∧w=w':=by
 cases x <;> cases y <;> (go_enter Tryz.func99,Tryz.ntmps99;go_wp2;go_ret;exact ⟨rfl,rfl⟩)
set_option maxRecDepth 100000 in
set_option maxHeartbeats 1000000 in
theorem rBcmp_any (a b:List UInt8) (A B:Option Addr) (n c m d:Nat) (w:World) (hn:n≤9223372036854775807) (_hm:m≤9223372036854775807) (ha:RB w w.heap.size A n a) (hb:RB w w.heap.size B m b) :
  Calls Tryz.prog 97 #[.slice A n c,.slice B m d] w fun e w'=>e = .returned (.int .i64 (cmpB a b))∧Below w.heap.size w w':=by
 have HLA:=Lib.hid ha.len
 have HLB:=Lib.hid hb.len
 have HA:Hid (∀ w',Below w.heap.size w w'→RB w' w'.heap.size A n a):=Lib.hid fun w' h=>ha.later h
 have HB:Hid (∀ w',Below w.heap.size w w'→RB w' w'.heap.size B m b):=Lib.hid fun w' h=>hb.later h
 clear ha hb
 go_enter Tryz.func97,Tryz.ntmps97
 go_wp2
 go_loopw [5] (fun i wr=>∃ k:Nat,k≤n∧k≤m∧i = .int .i64 k∧Hid (a.take k=b.take k)∧Hid (Below w.heap.size w wr)) (fun i _=>n - (intOf i).toNat)
 case atStart=>exact ⟨0,Nat.zero_le _,Nat.zero_le _,rfl,Lib.hid rfl,Lib.hid (Below.refl _ _)⟩
 case round =>
  obtain ⟨k,hkn,hkm,rfl,HT,HW⟩:=hrel
  by_cases hlt:k < n
  case neg =>
   have HE:=Lib.hid (cmp_end HT.out HLA.out HLB.out (by omega) hkm)
   have hd1:decide ((k:Int) < (n:Int))=false:=decide_eq_false (by omega)
   have hd2:decide (k < n)=false:=decide_eq_false hlt
   have HE2:Hid (cmpB a b=cmpI n m):=Lib.hid (by rw [HE.out];unfold cmpI;(repeat' split) <;> first | rfl | omega)
   clear HE
   go_wp2_with (go_at_call 98;go_must (refine (rnumber_any _ _ _).mono ?_);rintro e w1 ⟨rfl,rfl⟩)
   go_ret
   exact ⟨by rw [HE2.out];rfl,HW.out⟩
  have hd1:decide ((k:Int) < (n:Int))=true:=decide_eq_true (by omega)
  have hd2:decide (k < n)=true:=decide_eq_true hlt
  by_cases hmt:k < m
  case neg =>
   have HE:=Lib.hid (cmp_end2 HT.out HLA.out HLB.out (by omega) hlt)
   have hd3:decide ((k:Int) < (m:Int))=false:=decide_eq_false (by omega)
   have hd4:decide (k < m)=false:=decide_eq_false hmt
   have HE2:Hid (cmpB a b=cmpI n m):=Lib.hid (by rw [HE.out];unfold cmpI;(repeat' split) <;> first | rfl | omega)
   clear HE
   go_wp2_with (go_at_call 98;go_must (refine (rnumber_any _ _ _).mono ?_);rintro e w1 ⟨rfl,rfl⟩)
   go_ret
   exact ⟨by rw [HE2.out];rfl,HW.out⟩
  have hd3:decide ((k:Int) < (m:Int))=true:=decide_eq_true (by omega)
  have hd4:decide (k < m)=true:=decide_eq_true hmt
  have hk1:(k:Int) < (n:Int):=by omega
  have hk2:(k:Int) < (m:Int):=by omega
  obtain ⟨b1,o1,x,rfl,_,hx,_⟩:=(HA.out _ HW.out).at_ hlt
  obtain ⟨b2,o2,y,rfl,_,hy,_⟩:=(HB.out _ HW.out).at_ hmt
  have HX:=Lib.hid hx
  have HY:=Lib.hid hy
  have HCX:Hid (∀ w',Below w.heap.size w w'→w'.cell? ⟨b1,o1 + k,none⟩=some (.int .u8 (x.toNat:Int))):=Lib.hid fun w' h=>(HA.out w' h).cell HX.out
  have HCY:Hid (∀ w',Below w.heap.size w w'→w'.cell? ⟨b2,o2 + k,none⟩=some (.int .u8 (y.toNat:Int))):=Lib.hid fun w' h=>(HB.out w' h).cell HY.out
  clear hx hy
  by_cases h1:x.toNat < y.toNat
  ·have HE:=Lib.hid (cmp_lt_at HT.out HX.out HY.out h1)
   have c1:=HCX.out _ HW.out
   have c2:=HCY.out _ HW.out
   have e1:decide ((x.toNat:Int) < (y.toNat:Int))=true:=decide_eq_true (by omega)
   have e2:decide (x.toNat < y.toNat)=true:=decide_eq_true h1
   go_wp2_with fail
   go_quiet (fail)
   have HW2:=Lib.hid (below_drewN (n:=nq) HW.out)
   clear c1 c2
   generalize wr.drewN nq=w3 at *
   go_wp2
   go_ret
   exact ⟨by rw [HE.out];rfl,HW2.out⟩
  have c1:=HCX.out _ HW.out
  have c2:=HCY.out _ HW.out
  have e1:decide ((x.toNat:Int) < (y.toNat:Int))=false:=decide_eq_false (by omega)
  have e2:decide (x.toNat < y.toNat)=false:=decide_eq_false h1
  go_wp2_with fail
  go_quiet (fail)
  have HW2:=Lib.hid (below_drewN (n:=nq) HW.out)
  clear c1 c2
  generalize wr.drewN nq=w3 at *
  have c1:=HCX.out _ HW2.out
  have c2:=HCY.out _ HW2.out
  by_cases h2:y.toNat < x.toNat
  ·have HE:=Lib.hid (cmp_gt_at HT.out HX.out HY.out h2)
   have e3:decide ((y.toNat:Int) < (x.toNat:Int))=true:=decide_eq_true (by omega)
   have e4:decide (y.toNat < x.toNat)=true:=decide_eq_true h2
   go_wp2_with fail
   go_quiet (fail)
   have HW3:=Lib.hid (below_drewN (n:=nq) HW2.out)
   clear c1 c2
   generalize w3.drewN nq=w4 at *
   go_wp2
   go_ret
   exact ⟨by rw [HE.out];rfl,HW3.out⟩
  obtain rfl:=UInt8.toNat_inj.1 (show x.toNat=y.toNat by omega)
  have HE:=Lib.hid (cmp_eq_at HT.out HX.out HY.out)
  have e3:decide ((x.toNat:Int) < (x.toNat:Int))=false:=decide_eq_false (by omega)
  have e4:decide (x.toNat < x.toNat)=false:=decide_eq_false h2
  go_wp2_with fail
  go_quiet (fail)
  have HW3:=Lib.hid (below_drewN (n:=nq) HW2.out)
  clear c1 c2
  generalize w3.drewN nq=w4 at *
  go_wp2
  go_roundw
  case rel=>exact ⟨k + 1,by omega,by omega,by go_num,HE,HW3⟩
  case measure=>simp [intOf];omega
theorem two_facts {w x:World} {A:Option Addr} {n c:Nat} {B:Option Addr} {m d:Nat} {D:Option Addr} {v q:Nat} {A':Option Addr} {n' c':Nat} {B':Option Addr} {m' d':Nat} {D':Option Addr} {v' q':Nat} {a b:Ent} (h:Two w 60 #[.slice A n c,.int .i64 a.fam,.slice B m d,.int .i64 a.ts,.int .i64 a.seq,.int .i64 a.kind,.slice D v q] #[.slice A' n' c',.int .i64 b.fam,.slice B' m' d',.int .i64 b.ts,.int .i64 b.seq,.int .i64 b.kind,.slice D' v' q'] x):x.cell? ⟨w.heap.size,0,none⟩=some (.slice A n c)∧x.cell? ⟨w.heap.size,1,none⟩=some (.int .i64 a.fam)∧x.cell? ⟨w.heap.size,2,none⟩=some (.slice B m d)∧x.cell? ⟨w.heap.size,3,none⟩=some (.int .i64 a.ts)∧x.cell? ⟨w.heap.size,4,none⟩=some (.int .i64 a.seq)∧x.cell? ⟨w.heap.size,5,none⟩=some (.int .i64 a.kind)∧x.cell? ⟨w.heap.size + 1,0,none⟩=some (.slice A' n' c')∧x.cell? ⟨w.heap.size + 1,1,none⟩=some (.int .i64 b.fam)∧x.cell? ⟨w.heap.size + 1,2,none⟩=some (.slice B' m' d')∧x.cell? ⟨w.heap.size + 1,3,none⟩=some (.int .i64 b.ts)∧x.cell? ⟨w.heap.size + 1,4,none⟩=some (.int .i64 b.seq)∧x.cell? ⟨w.heap.size + 1,5,none⟩=some (.int .i64 b.kind)∧Two w 60 #[.slice A n c,.int .i64 a.fam,.slice B m d,.int .i64 a.ts,.int .i64 a.seq,.int .i64 a.kind,.slice D v q] #[.slice A' n' c',.int .i64 b.fam,.slice B' m' d',.int .i64 b.ts,.int .i64 b.seq,.int .i64 b.kind,.slice D' v' q'] x :=
 ⟨boxed1 h (i:=0) (v := .slice A n c) rfl,boxed1 h (i:=1) (v := .int .i64 a.fam) rfl,boxed1 h (i:=2) (v := .slice B m d) rfl,boxed1 h (i:=3) (v := .int .i64 a.ts) rfl,boxed1 h (i:=4) (v := .int .i64 a.seq) rfl,boxed1 h (i:=5) (v := .int .i64 a.kind) rfl,boxed2 h (i:=0) (v := .slice A' n' c') rfl,boxed2 h (i:=1) (v := .int .i64 b.fam) rfl,boxed2 h (i:=2) (v := .slice B' m' d') rfl,boxed2 h (i:=3) (v := .int .i64 b.ts) rfl,boxed2 h (i:=4) (v := .int .i64 b.seq) rfl,boxed2 h (i:=5) (v := .int .i64 b.kind) rfl,h⟩
set_option maxRecDepth 100000 in
set_option maxHeartbeats 4000000 in
theorem rcompare_any (a b:Ent) (A:Option Addr) (n c:Nat) (B:Option Addr) (m d:Nat) (D:Option Addr) (v q:Nat) (A':Option Addr) (n' c':Nat) (B':Option Addr) (m' d':Nat) (D':Option Addr) (v' q':Nat) (w:World) (ha:En w A n c B m d D v q a) (hb:En w A' n' c' B' m' d' D' v' q' b) :
  Calls Tryz.prog 40 #[entV A n c B m d D v q a,entV A' n' c' B' m' d' D' v' q' b] w fun e w1=>e = .returned (.int .i64 (cmpE a b))∧Below w.heap.size w w1:=by
 have HA:Hid (∀ w1,Below w.heap.size w w1→En w1 A n c B m d D v q a):=Lib.hid fun _ h=>ha.later h
 have HC:Hid (∀ w1,Below w.heap.size w w1→En w1 A' n' c' B' m' d' D' v' q' b):=Lib.hid fun _ h=>hb.later h
 have HT:=Lib.hid (Two.new w 60 #[.slice A n c,.int .i64 a.fam,.slice B m d,.int .i64 a.ts,.int .i64 a.seq,.int .i64 a.kind,.slice D v q] #[.slice A' n' c',.int .i64 b.fam,.slice B' m' d',.int .i64 b.ts,.int .i64 b.seq,.int .i64 b.kind,.slice D' v' q'])
 have l1:=ha.row.le
 have l2:=ha.qual.le
 have l3:=hb.row.le
 have l4:=hb.qual.le
 have HL:Hid (n≤9223372036854775807∧m≤9223372036854775807∧n'≤9223372036854775807∧m'≤9223372036854775807):=Lib.hid ⟨l1,l2,l3,l4⟩
 unfold entV
 clear ha hb l1 l2 l3 l4
 have tok1:True:=trivial
 go_enter Tryz.func40,Tryz.ntmps40
 go_wp2_with fail
 go_region_held3 (fun x=>x.cell? ⟨w.heap.size,0,none⟩=some (.slice A n c)∧x.cell? ⟨w.heap.size,1,none⟩=some (.int .i64 a.fam)∧x.cell? ⟨w.heap.size,2,none⟩=some (.slice B m d)∧x.cell? ⟨w.heap.size,3,none⟩=some (.int .i64 a.ts)∧x.cell? ⟨w.heap.size,4,none⟩=some (.int .i64 a.seq)∧x.cell? ⟨w.heap.size,5,none⟩=some (.int .i64 a.kind)∧x.cell? ⟨w.heap.size + 1,0,none⟩=some (.slice A' n' c')∧x.cell? ⟨w.heap.size + 1,1,none⟩=some (.int .i64 b.fam)∧x.cell? ⟨w.heap.size + 1,2,none⟩=some (.slice B' m' d')∧x.cell? ⟨w.heap.size + 1,3,none⟩=some (.int .i64 b.ts)∧x.cell? ⟨w.heap.size + 1,4,none⟩=some (.int .i64 b.seq)∧x.cell? ⟨w.heap.size + 1,5,none⟩=some (.int .i64 b.kind)∧Two w 60 #[.slice A n c,.int .i64 a.fam,.slice B m d,.int .i64 a.ts,.int .i64 a.seq,.int .i64 a.kind,.slice D v q] #[.slice A' n' c',.int .i64 b.fam,.slice B' m' d',.int .i64 b.ts,.int .i64 b.seq,.int .i64 b.kind,.slice D' v' q'] x) (first | assumption | exact two_facts (HT.out.later (Below.refl _ _).drew) | exact two_facts (Two.later (‹_∧_∧_∧_∧_∧_∧_∧_∧_∧_∧_∧_∧Two _ _ _ _ _›).2.2.2.2.2.2.2.2.2.2.2.2 hb1) | exact two_facts (Two.later (‹_∧_∧_∧_∧_∧_∧_∧_∧_∧_∧_∧_∧Two _ _ _ _ _›).2.2.2.2.2.2.2.2.2.2.2.2 hb2) | exact two_facts (Two.later (‹_∧_∧_∧_∧_∧_∧_∧_∧_∧_∧_∧_∧Two _ _ _ _ _›).2.2.2.2.2.2.2.2.2.2.2.2 ((Below.refl _ _).alloc (Nat.le_refl _) _))) (first
  | (go_at_call 97;have _t:=tok1;refine (rBcmp_any a.row b.row _ _ _ _ _ _ _ HL.out.1 HL.out.2.2.1 (HA.out _ (‹_∧_∧_∧_∧_∧_∧_∧_∧_∧_∧_∧_∧Two _ _ _ _ _›).2.2.2.2.2.2.2.2.2.2.2.2.up).row.rb (HC.out _ (‹_∧_∧_∧_∧_∧_∧_∧_∧_∧_∧_∧_∧Two _ _ _ _ _›).2.2.2.2.2.2.2.2.2.2.2.2.up).row.rb).mono ?_;rintro e x1 ⟨rfl,hb1⟩;clear tok1)
  | (go_at_call 97;refine (rBcmp_any a.qual b.qual _ _ _ _ _ _ _ HL.out.2.1 HL.out.2.2.2 (HA.out _ (‹_∧_∧_∧_∧_∧_∧_∧_∧_∧_∧_∧_∧Two _ _ _ _ _›).2.2.2.2.2.2.2.2.2.2.2.2.up).qual.rb (HC.out _ (‹_∧_∧_∧_∧_∧_∧_∧_∧_∧_∧_∧_∧Two _ _ _ _ _›).2.2.2.2.2.2.2.2.2.2.2.2.up).qual.rb).mono ?_;rintro e x2 ⟨rfl,hb2⟩)
  | (go_at_call 98;refine (rnumber_any _ _ _).mono ?_;rintro e xn ⟨rfl,rfl⟩)
  | (go_at_call 99;refine (rfirst_any _ _ _).mono ?_;rintro e xn ⟨rfl,rfl⟩))
 all_goals
  have HW:=Lib.hid (‹_∧_∧_∧_∧_∧_∧_∧_∧_∧_∧_∧_∧Two _ _ _ _ _›).2.2.2.2.2.2.2.2.2.2.2.2.up
  clear HA HC HT HL
  generalize hs0:cmpB a.row b.row=s0 at HW ⊢
  have Q0:Hid (stepC a b 0=s0):=Lib.hid hs0
  generalize hs1:cmpI a.fam b.fam=s1 at HW ⊢
  have Q1:Hid (stepC a b 1=s1):=Lib.hid hs1
  generalize hs2:firstI (a.kind == 5) (b.kind == 5)=s2 at HW ⊢
  have Q2:Hid (stepC a b 2=s2):=Lib.hid hs2
  generalize hs3:cmpB a.qual b.qual=s3 at HW ⊢
  have Q3:Hid (stepC a b 3=s3):=Lib.hid hs3
  generalize hs4:firstI (a.kind == 4) (b.kind == 4)=s4 at HW ⊢
  have Q4:Hid (stepC a b 4=s4):=Lib.hid hs4
  generalize hs5:cmpI b.ts a.ts=s5 at HW ⊢
  have Q5:Hid (stepC a b 5=s5):=Lib.hid hs5
  generalize hs6:cmpI b.seq a.seq=s6 at HW ⊢
  have Q6:Hid (stepC a b 6=s6):=Lib.hid hs6
  generalize hs7:cmpI a.kind b.kind=s7 at HW ⊢
  have Q7:Hid (stepC a b 7=s7):=Lib.hid hs7
  clear hs0 hs1 hs2 hs3 hs4 hs5 hs6 hs7
  obtain ⟨X,hX⟩:∃ X,X=x2.alloc (.cells #[.int .i64 s0,.int .i64 s1,.int .i64 s2,.int .i64 s3,.int .i64 s4,.int .i64 s5,.int .i64 s6,.int .i64 s7] 3):=⟨_,rfl⟩
  rw [← hX] at HW ⊢
  have p0:X.cell? ⟨x2.heap.size,0,none⟩=some (.int .i64 s0):=by rw [hX];simp
  have p1:X.cell? ⟨x2.heap.size,1,none⟩=some (.int .i64 s1):=by rw [hX];simp
  have p2:X.cell? ⟨x2.heap.size,2,none⟩=some (.int .i64 s2):=by rw [hX];simp
  have p3:X.cell? ⟨x2.heap.size,3,none⟩=some (.int .i64 s3):=by rw [hX];simp
  have p4:X.cell? ⟨x2.heap.size,4,none⟩=some (.int .i64 s4):=by rw [hX];simp
  have p5:X.cell? ⟨x2.heap.size,5,none⟩=some (.int .i64 s5):=by rw [hX];simp
  have p6:X.cell? ⟨x2.heap.size,6,none⟩=some (.int .i64 s6):=by rw [hX];simp
  have p7:X.cell? ⟨x2.heap.size,7,none⟩=some (.int .i64 s7):=by rw [hX];simp
  clear hX
  generalize x2.heap.size=g at p0 p1 p2 p3 p4 p5 p6 p7 ⊢
  go_wp2_with fail
  go_loop [6] (fun i=>∃ k:Nat,k≤8∧i = .int .i64 k∧Hid (∀ i,i < k→stepC a b i=0)) (fun i=>8 - (intOf i).toNat)
  case atStart=>exact ⟨0,by decide,rfl,Lib.hid fun i hi=>absurd hi (Nat.not_lt_zero _)⟩
  case round =>
   obtain ⟨k,hk,hi,HF⟩:=hrel
   have hk':k=0∨k=1∨k=2∨k=3∨k=4∨k=5∨k=6∨k=7∨k=8:=by omega
   clear hk
   rcases hk' with rfl | rfl | rfl | rfl | rfl | rfl | rfl | rfl | rfl
   case inr.inr.inr.inr.inr.inr.inr.inr =>
    replace hi:_=Value.int .i64 8:=hi
    subst hi
    have HZ:=Lib.hid (cmpE_none a b HF.out)
    clear HF
    go_wp2
    go_ret
    exact ⟨by rw [HZ.out];rfl,HW.out⟩
   case inl =>
    replace hi:_=Value.int .i64 0:=hi
    subst hi
    by_cases hz:s0=0
    ·have HZ:Hid (∀ i,i < 1→stepC a b i=0):=Lib.hid fun i hi=>if h:i=0 then h ▸ (Q0.out.trans hz) else HF.out i (by omega)
     have t2:(s0 != 0)=false:=by simpa using hz
     clear hz HF
     go_wp2
     go_round
     case measure=>decide
     case rel=>exact ⟨1,by omega,rfl,HZ⟩
    ·have HZ:Hid (s0=cmpE a b):=Lib.hid (Q0.out ▸ cmpE_first a b 0 (by decide) HF.out (by rw [Q0.out];exact hz))
     have t2:(s0 != 0)=true:=by simpa using hz
     clear HF hz
     go_wp2
     go_ret
     exact ⟨by rw [← HZ.out];rfl,HW.out⟩
   case inr.inl =>
    replace hi:_=Value.int .i64 1:=hi
    subst hi
    by_cases hz:s1=0
    ·have HZ:Hid (∀ i,i < 2→stepC a b i=0):=Lib.hid fun i hi=>if h:i=1 then h ▸ (Q1.out.trans hz) else HF.out i (by omega)
     have t2:(s1 != 0)=false:=by simpa using hz
     clear hz HF
     go_wp2
     go_round
     case measure=>decide
     case rel=>exact ⟨2,by omega,rfl,HZ⟩
    ·have HZ:Hid (s1=cmpE a b):=Lib.hid (Q1.out ▸ cmpE_first a b 1 (by decide) HF.out (by rw [Q1.out];exact hz))
     have t2:(s1 != 0)=true:=by simpa using hz
     clear HF hz
     go_wp2
     go_ret
     exact ⟨by rw [← HZ.out];rfl,HW.out⟩
   case inr.inr.inl =>
    replace hi:_=Value.int .i64 2:=hi
    subst hi
    by_cases hz:s2=0
    ·have HZ:Hid (∀ i,i < 3→stepC a b i=0):=Lib.hid fun i hi=>if h:i=2 then h ▸ (Q2.out.trans hz) else HF.out i (by omega)
     have t2:(s2 != 0)=false:=by simpa using hz
     clear hz HF
     go_wp2
     go_round
     case measure=>decide
     case rel=>exact ⟨3,by omega,rfl,HZ⟩
    ·have HZ:Hid (s2=cmpE a b):=Lib.hid (Q2.out ▸ cmpE_first a b 2 (by decide) HF.out (by rw [Q2.out];exact hz))
     have t2:(s2 != 0)=true:=by simpa using hz
     clear HF hz
     go_wp2
     go_ret
     exact ⟨by rw [← HZ.out];rfl,HW.out⟩
   case inr.inr.inr.inl =>
    replace hi:_=Value.int .i64 3:=hi
    subst hi
    by_cases hz:s3=0
    ·have HZ:Hid (∀ i,i < 4→stepC a b i=0):=Lib.hid fun i hi=>if h:i=3 then h ▸ (Q3.out.trans hz) else HF.out i (by omega)
     have t2:(s3 != 0)=false:=by simpa using hz
     clear hz HF
     go_wp2
     go_round
     case measure=>decide
     case rel=>exact ⟨4,by omega,rfl,HZ⟩
    ·have HZ:Hid (s3=cmpE a b):=Lib.hid (Q3.out ▸ cmpE_first a b 3 (by decide) HF.out (by rw [Q3.out];exact hz))
     have t2:(s3 != 0)=true:=by simpa using hz
     clear HF hz
     go_wp2
     go_ret
     exact ⟨by rw [← HZ.out];rfl,HW.out⟩
   case inr.inr.inr.inr.inl =>
    replace hi:_=Value.int .i64 4:=hi
    subst hi
    by_cases hz:s4=0
    ·have HZ:Hid (∀ i,i < 5→stepC a b i=0):=Lib.hid fun i hi=>if h:i=4 then h ▸ (Q4.out.trans hz) else HF.out i (by omega)
     have t2:(s4 != 0)=false:=by simpa using hz
     clear hz HF
     go_wp2
     go_round
     case measure=>decide
     case rel=>exact ⟨5,by omega,rfl,HZ⟩
    ·have HZ:Hid (s4=cmpE a b):=Lib.hid (Q4.out ▸ cmpE_first a b 4 (by decide) HF.out (by rw [Q4.out];exact hz))
     have t2:(s4 != 0)=true:=by simpa using hz
     clear HF hz
     go_wp2
     go_ret
     exact ⟨by rw [← HZ.out];rfl,HW.out⟩
   case inr.inr.inr.inr.inr.inl =>
    replace hi:_=Value.int .i64 5:=hi
    subst hi
    by_cases hz:s5=0
    ·have HZ:Hid (∀ i,i < 6→stepC a b i=0):=Lib.hid fun i hi=>if h:i=5 then h ▸ (Q5.out.trans hz) else HF.out i (by omega)
     have t2:(s5 != 0)=false:=by simpa using hz
     clear hz HF
     go_wp2
     go_round
     case measure=>decide
     case rel=>exact ⟨6,by omega,rfl,HZ⟩
    ·have HZ:Hid (s5=cmpE a b):=Lib.hid (Q5.out ▸ cmpE_first a b 5 (by decide) HF.out (by rw [Q5.out];exact hz))
     have t2:(s5 != 0)=true:=by simpa using hz
     clear HF hz
     go_wp2
     go_ret
     exact ⟨by rw [← HZ.out];rfl,HW.out⟩
   case inr.inr.inr.inr.inr.inr.inl =>
    replace hi:_=Value.int .i64 6:=hi
    subst hi
    by_cases hz:s6=0
    ·have HZ:Hid (∀ i,i < 7→stepC a b i=0):=Lib.hid fun i hi=>if h:i=6 then h ▸ (Q6.out.trans hz) else HF.out i (by omega)
     have t2:(s6 != 0)=false:=by simpa using hz
     clear hz HF
     go_wp2
     go_round
     case measure=>decide
     case rel=>exact ⟨7,by omega,rfl,HZ⟩
    ·have HZ:Hid (s6=cmpE a b):=Lib.hid (Q6.out ▸ cmpE_first a b 6 (by decide) HF.out (by rw [Q6.out];exact hz))
     have t2:(s6 != 0)=true:=by simpa using hz
     clear HF hz
     go_wp2
     go_ret
     exact ⟨by rw [← HZ.out];rfl,HW.out⟩
   case inr.inr.inr.inr.inr.inr.inr.inl =>
    replace hi:_=Value.int .i64 7:=hi
    subst hi
    by_cases hz:s7=0
    ·have HZ:Hid (∀ i,i < 8→stepC a b i=0):=Lib.hid fun i hi=>if h:i=7 then h ▸ (Q7.out.trans hz) else HF.out i (by omega)
     have t2:(s7 != 0)=false:=by simpa using hz
     clear hz HF
     go_wp2
     go_round
     case measure=>decide
     case rel=>exact ⟨8,by omega,rfl,HZ⟩
    ·have HZ:Hid (s7=cmpE a b):=Lib.hid (Q7.out ▸ cmpE_first a b 7 (by decide) HF.out (by rw [Q7.out];exact hz))
     have t2:(s7 != 0)=true:=by simpa using hz
     clear HF hz
     go_wp2
     go_ret
     exact ⟨by rw [← HZ.out];rfl,HW.out⟩
end Go.Proofs.YtfdbcfaeiglbeaaGreatDoor
