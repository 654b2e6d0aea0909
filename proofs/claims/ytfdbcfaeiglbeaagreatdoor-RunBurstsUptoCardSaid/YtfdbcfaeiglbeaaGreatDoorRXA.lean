/-
 What these laws need beside: Crc, Kit, WireP, WireP9, BlockP6, Kit5, Kit7, Kit10, Kit14, WireW13, Kit34, Kit40, Kit41, FullK, FullK2, BlockA1, BlockS4, RunW1, RunP11, RunB2, WireP3, WireP4, WireP5, RunP13, BlockQ2, RunL1, WireLaw.
-/
import Derived.Test.YtfdbcfaeiglbeaaGreatDoorRZ1
import Derived.Test.YtfdbcfaeiglbeaaGreatDoorRZ2
import Derived.Test.YtfdbcfaeiglbeaaGreatDoorRZ3
import Derived.Test.YtfdbcfaeiglbeaaGreatDoorRZ4
import Derived.Test.YtfdbcfaeiglbeaaGreatDoorRZ5
import Derived.Test.YtfdbcfaeiglbeaaGreatDoorRZ6
import Derived.Test.YtfdbcfaeiglbeaaGreatDoorRZ7
import Derived.Test.YtfdbcfaeiglbeaaGreatDoorRZ8
import Derived.Test.YtfdbcfaeiglbeaaGreatDoorRZ9
import Derived.Test.YtfdbcfaeiglbeaaGreatDoorRZ10
import Derived.Test.YtfdbcfaeiglbeaaGreatDoorRZ11
import Derived.Test.YtfdbcfaeiglbeaaGreatDoorRZ12
import Derived.Test.YtfdbcfaeiglbeaaGreatDoorRZ13
import Derived.Test.YtfdbcfaeiglbeaaGreatDoorRZ15
import Derived.Test.YtfdbcfaeiglbeaaGreatDoorRZ16
import Derived.Test.YtfdbcfaeiglbeaaGreatDoorRZ18
import Derived.Test.YtfdbcfaeiglbeaaGreatDoorRZ19
import Derived.Test.YtfdbcfaeiglbeaaGreatDoorRZ20
import Derived.Test.YtfdbcfaeiglbeaaGreatDoorRZ21
import Derived.Test.YtfdbcfaeiglbeaaGreatDoorRZ22
import Derived.Test.YtfdbcfaeiglbeaaGreatDoorRZ23
import Derived.Test.YtfdbcfaeiglbeaaGreatDoorRZ24
import Derived.Test.YtfdbcfaeiglbeaaGreatDoorRZ25
import Derived.Test.YtfdbcfaeiglbeaaGreatDoorRZ26
import Derived.Test.YtfdbcfaeiglbeaaGreatDoorRZ27
import Derived.Test.YtfdbcfaeiglbeaaGreatDoorRZ28
import Derived.Test.YtfdbcfaeiglbeaaGreatDoorRZ29
import Derived.Test.YtfdbcfaeiglbeaaGreatDoorRZ30
import Derived.Test.YtfdbcfaeiglbeaaGreatDoorRZ31
import Derived.Test.YtfdbcfaeiglbeaaGreatDoorRZ32
import Derived.Test.YtfdbcfaeiglbeaaGreatDoorRZ33
import Derived.Test.YtfdbcfaeiglbeaaGreatDoorRZ34
import Derived.Test.YtfdbcfaeiglbeaaGreatDoorRZ35
import Derived.WalkKit
import Derived.WalkSpells
import Derived.WalkLawsBesides
import Derived.Deep.AppendLies
import Derived.Deep.Draws
import Derived.Maps.AppendAt
import Derived.Lib.Hide
import Derived.Deep.QuietTactic
import Derived.BigQuiet
import Derived.Laws.CopyOwn
import Derived.Laws.BitsAllLaws
import Derived.Maps.OwnSet
import Derived.Laws.IdiomStrings
import Derived.Deep.RegionWith
import Derived.Deep.RegionLaw
import Derived.Lib.BytesEntry
import Derived.Lib.Bytealg
import Derived.Laws.Externs
import Derived.Laws.EntriesVeiled
import Derived.Laws.OwnMore
import Derived.Deep.DeepCutAuto
import Derived.Deep.RegionHeld3
import Derived.Deep.CutRange
import Derived.Lib.SlBytesConst
import Derived.Deep.MidRow
import Derived.Great.BuildSlice
import Derived.RangeFuncNested
import Derived.RangeFuncBound
import Derived.RangeFuncCalls
import Derived.RangeFuncLeaves
import Derived.OwnWalkIn
import Derived.TacticsInMore
import Derived.LoopIn
import Derived.Shelf.Abstract
import Derived.StillTailTactics
import Derived.Lib.Walk
import Derived.Lib.SliceRun
import Derived.Lib.AppendZerosOnto
import Derived.BigRegion
import Derived.Maps.RangeWalk
import Derived.Sort.MapsRangeIn
import Derived.Lib.MinMax
import Derived.Deep.CutBlock
import Derived.Defers
import Derived.ProofKit
import Derived.SizedLaws
import Derived.Lib.SmallJoins
import Derived.Deep.Slices
import Derived.Deep.Fields
import Derived.OpenShut
import Derived.Deep.DeepHandedRow
import Derived.Lib.LaidTab
namespace Go.Proofs.YtfdbcfaeiglbeaaGreatDoor
theorem rIter_succ (n c:Nat):rIter (n + 1) c=rStep (rIter n c):=rIter_add n 1 c
theorem rIter_zero (n:Nat):rIter n 0=0:=by
 induction n with
 | zero=>rfl
 | succ n ih=>exact ih
theorem rStep_eq_zero {c:Nat} (h:c < 4294967296) (h0:rStep c=0):c=0:=by
 unfold rStep at h0
 have h1:c >>> 1 < 2147483648:=by rw [Nat.shiftRight_eq_div_pow];omega
 cases hb:c.testBit 0
 ·rw [hb] at h0
  simp at h0
  rw [Nat.shiftRight_eq_div_pow] at h0
  rw [Nat.testBit_zero] at hb
  simp at hb
  omega
 ·rw [hb] at h0
  have h2:(c >>> 1 ^^^ 2197175160).testBit 31=true:=by
   rw [Nat.testBit_xor,Nat.testBit_lt_two_pow (i:=31) (by simpa using h1)];decide
  simp only [if_true] at h0
  rw [h0] at h2
  simp at h2
theorem rIter_eq_zero (n:Nat):∀ {c:Nat},c < 4294967296→rIter n c=0→c=0:=by
 induction n with
 | zero=>exact fun _ h=>h
 | succ n ih=>exact fun h h0=>rStep_eq_zero h (ih (rStep_lt h) h0)
def par (c:Nat):Bool:=(List.range 32).foldl (fun b i=>b ^^ c.testBit i) false
theorem foldl_xor_start (l:List Nat) (f:Nat→Bool) (b:Bool):l.foldl (fun b i=>b ^^ f i) b=(b ^^ l.foldl (fun b i=>b ^^ f i) false):=by
 induction l generalizing b with
 | nil=>simp
 | cons x l ih=>rw [List.foldl_cons,ih,List.foldl_cons,ih (false ^^ f x)];simp
theorem foldl_xor_two (l:List Nat) (f g:Nat→Bool):l.foldl (fun b i=>b ^^ (f i ^^ g i)) false=(l.foldl (fun b i=>b ^^ f i) false ^^ l.foldl (fun b i=>b ^^ g i) false):=by
 induction l with
 | nil=>rfl
 | cons x l ih =>
  rw [List.foldl_cons,List.foldl_cons,List.foldl_cons,foldl_xor_start,ih,foldl_xor_start l f (false ^^ f x),foldl_xor_start l g (false ^^ g x)]
  generalize l.foldl (fun b i=>b ^^ f i) false=p
  generalize l.foldl (fun b i=>b ^^ g i) false=q
  cases f x <;> cases g x <;> cases p <;> cases q <;> rfl
theorem par_xor (a b:Nat):par (a ^^^ b)=(par a ^^ par b):=by
 unfold par
 simp only [Nat.testBit_xor]
 exact foldl_xor_two _ _ _
theorem par_shift (c:Nat) (h:c < 4294967296):par (c >>> 1)=(par c ^^ c.testBit 0):=by
 have h32:c.testBit 32=false:=Nat.testBit_lt_two_pow (by omega)
 unfold par
 simp only [Nat.testBit_shiftRight]
 have e:List.range 32=[0,1,2,3,4,5,6,7,8,9,10,11,12,13,14,15,16,17,18,19,20,21,22,23,24,25,26,27,28,29,30,31]:=rfl
 rw [e]
 simp only [List.foldl_cons,List.foldl_nil,Nat.reduceAdd,h32]
 generalize c.testBit 0=b0
 cases b0 <;> simp
theorem par_step {c:Nat} (h:c < 4294967296):par (rStep c)=par c:=by
 unfold rStep
 rw [par_xor,par_shift c h]
 cases c.testBit 0
 ·simp [show par 0=false from by decide]
 ·simp [show par 2197175160=true from by decide +kernel]
theorem par_iter (n:Nat):∀ {c:Nat},c < 4294967296→par (rIter n c)=par c:=by
 induction n with
 | zero=>exact fun _=>rfl
 | succ n ih=>exact fun h=>(ih (rStep_lt h)).trans (par_step h)
theorem par_one (n:Nat):par (rIter n 1)=true:=(par_iter n (by omega)).trans (by decide)
def colsAt (M:List Nat) (v:Nat):Nat:=(List.range 32).foldl (fun s i=>s ^^^ (if v.testBit i then M[i]?.getD 0 else 0)) 0
def sqr (M:List Nat):List Nat:=M.map (colsAt M)
def cols0:List Nat:=(List.range 32).map fun i=>rStep (2 ^ i)
def colsN:Nat→List Nat
 | 0=>cols0
 | k + 1=>sqr (colsN k)
theorem bits_sum (v:Nat) (h:v < 4294967296):(List.range 32).foldl (fun s i=>s ^^^ (if v.testBit i then 2 ^ i else 0)) 0=v:=by
 have key:∀ n,(List.range n).foldl (fun s i=>s ^^^ (if v.testBit i then 2 ^ i else 0)) 0=v % 2 ^ n:=by
  intro n
  induction n with
  | zero=>simp [Nat.mod_one]
  | succ n ih =>
   rw [List.range_succ,List.foldl_append,ih,List.foldl_cons,List.foldl_nil]
   apply Nat.eq_of_testBit_eq
   intro j
   rw [Nat.testBit_xor,Nat.testBit_mod_two_pow,Nat.testBit_mod_two_pow]
   by_cases hj:j=n
   ·subst hj
    cases hv:v.testBit j <;> simp
   ·have:(if v.testBit n=true then 2 ^ n else 0).testBit j=false:=by
     split
     ·rw [Nat.testBit_two_pow];simp;omega
     ·simp
    rw [this,Bool.xor_false]
    by_cases h1:j < n
    ·simp [h1,Nat.lt_succ_of_lt h1]
    ·have:¬ j < n + 1:=by omega
     simp [h1,this]
 rw [key 32,Nat.mod_eq_of_lt (by omega)]
theorem foldl_lin (f:Nat→Nat) (hx:∀ a b,f (a ^^^ b)=f a ^^^ f b) (l:List Nat) (g:Nat→Nat) (s:Nat):f (l.foldl (fun s i=>s ^^^ g i) s)=l.foldl (fun s i=>s ^^^ f (g i)) (f s):=by
 induction l generalizing s with
 | nil=>rfl
 | cons x l ih=>rw [List.foldl_cons,List.foldl_cons,ih,hx]
theorem colsAt_lin (M:List Nat) (f:Nat→Nat) (h0:f 0=0) (hx:∀ a b,f (a ^^^ b)=f a ^^^ f b) (hM:∀ i,i < 32→M[i]?=some (f (2 ^ i))) (v:Nat) (hv:v < 4294967296):colsAt M v=f v:=by
 have e:=congrArg f (bits_sum v hv)
 rw [foldl_lin f hx,h0] at e
 rw [← e]
 unfold colsAt
 have:∀ (l:List Nat) (s:Nat),(∀ i ∈ l,i < 32)→l.foldl (fun s i=>s ^^^ (if v.testBit i then M[i]?.getD 0 else 0)) s=l.foldl (fun s i=>s ^^^ f (if v.testBit i then 2 ^ i else 0)) s:=by
  intro l
  induction l with
  | nil=>intro s _;rfl
  | cons x l ih =>
   intro s hl
   rw [List.foldl_cons,List.foldl_cons,ih _ (fun i hi=>hl i (by simp [hi]))]
   congr 2
   split
   ·rw [hM x (hl x (by simp))];rfl
   ·exact h0.symm
 exact this _ 0 fun i hi=>by simpa using hi
theorem colsN_at (k:Nat):∀ i,i < 32→(colsN k)[i]?=some (rIter (2 ^ k) (2 ^ i)):=by
 induction k with
 | zero =>
  intro i hi
  show cols0[i]?=_
  unfold cols0
  rw [List.getElem?_map,List.getElem?_range hi];rfl
 | succ k ih =>
  intro i hi
  show (sqr (colsN k))[i]?=_
  unfold sqr
  rw [List.getElem?_map,ih i hi,Option.map_some]
  congr 1
  rw [colsAt_lin (colsN k) (rIter (2 ^ k)) (rIter_zero _) (rIter_xor _) ih _ (rIter_lt _ (by
   have:2 ^ i < 2 ^ 32:=Nat.pow_lt_pow_right (by decide) hi
   simpa using this)),← rIter_add]
  congr 1
  rw [Nat.pow_succ];omega
theorem cols31:(colsN 31)[0]?=some (rStep 1):=by decide +kernel
theorem rStep_inj {a b:Nat} (ha:a < 4294967296) (hb:b < 4294967296) (h:rStep a=rStep b):a=b:=by
 have h1:rStep (a ^^^ b)=0:=by rw [rStep_xor,h,Nat.xor_self]
 have h2:=rStep_eq_zero (Nat.xor_lt_two_pow (n:=32) ha hb) h1
 exact Nat.eq_of_testBit_eq fun i=>by
  have:=congrArg (fun z=>z.testBit i) h2
  simpa [Nat.testBit_xor] using this
theorem rIter_inj (n:Nat):∀ {a b:Nat},a < 4294967296→b < 4294967296→rIter n a=rIter n b→a=b:=by
 induction n with
 | zero=>exact fun _ _ h=>h
 | succ n ih=>exact fun ha hb h=>rStep_inj ha hb (ih (rStep_lt ha) (rStep_lt hb) h)
theorem ord_big (n:Nat) (hn:2 ^ 31=n + 1):rIter n 1=1:=by
 have h:=colsN_at 31 0 (by decide)
 rw [cols31,hn,rIter_succ] at h
 exact (rStep_inj (by decide) (rIter_lt _ (by decide)) (Option.some.inj h)).symm
def tries (n:Nat):Nat→Bool
 | 0=>true
 | k + 1=>(k < 2 || n % k != 0) && tries n k
theorem tries_no {n m:Nat} (h:tries n m=true):∀ k,k < m→2≤k→n % k ≠ 0:=by
 induction m with
 | zero=>intro k hk;omega
 | succ m ih =>
  intro k hk h2
  simp only [tries,Bool.and_eq_true,Bool.or_eq_true,decide_eq_true_eq,bne_iff_ne] at h
  rcases Nat.lt_succ_iff_lt_or_eq.1 hk with h1 | rfl
  ·exact ih h.2 k h1 h2
  ·rcases h.1 with h3 | h3
   ·omega
   ·exact h3
theorem tried:tries 2147483647 46342=true:=by decide +kernel
theorem prime31 {g:Nat} (h:g ∣ 2147483647) (h2:2≤g) (h3:g < 2147483647):False:=by
 obtain ⟨q,hq⟩:=h
 by_cases hg:g < 46342
 ·exact tries_no tried g hg h2 (by rw [hq];exact Nat.mul_mod_right g q)
 ·have hq2:2≤q:=by
   rcases (show q=0∨q=1∨2≤q by omega) with rfl | rfl | h
   ·omega
   ·omega
   ·exact h
  have hq3:q < 46342:=by
   rcases Nat.lt_or_ge q 46342 with h | h
   ·exact h
   ·have:=Nat.mul_le_mul (show 46342≤g by omega) h
    omega
  exact tries_no tried q hq3 hq2 (by rw [hq];exact Nat.mul_mod_left g q)
theorem rIter_mul (d k:Nat) (h:rIter d 1=1):rIter (d * k) 1=1:=by
 induction k with
 | zero=>rfl
 | succ k ih=>rw [Nat.mul_succ,rIter_add,ih,h]
theorem ord_gcd (fuel:Nat):∀ a b:Nat,a + b≤fuel→rIter a 1=1→rIter b 1=1→rIter (Nat.gcd a b) 1=1:=by
  induction fuel with
  | zero => intro a b h _ _; obtain rfl : a = 0 := by omega
            obtain rfl:b=0:=by omega
            rfl
  | succ f ih =>
    intro a b h ha hb
    rcases Nat.eq_zero_or_pos a with rfl | h0
    · rw [Nat.gcd_zero_left];exact hb
    · rw [Nat.gcd_rec]
      have hm:rIter (b % a) 1=1:=by
        have e:=Nat.div_add_mod b a
        rw [← e,rIter_add,rIter_mul a _ ha] at hb
        exact hb
      by_cases hba:b < a
      · rw [Nat.mod_eq_of_lt hba]
        rcases Nat.eq_zero_or_pos b with rfl | hb0
        · rw [Nat.gcd_zero_left];exact ha
        · rw [Nat.gcd_rec]
          have hm2:rIter (a % b) 1=1:=by
            have e:=Nat.div_add_mod a b
            rw [← e,rIter_add,rIter_mul b _ hb] at ha
            exact ha
          have:=Nat.mod_lt a hb0
          exact ih _ _ (by omega) hm2 hb
      · have:=Nat.mod_lt b h0
        exact ih _ _ (by omega) hm ha
theorem ord_no {d:Nat} (h1:1≤d) (h2:d < 2147483647):rIter d 1 ≠ 1:=by
 intro h
 have hg:=ord_gcd _ d 2147483647 (Nat.le_refl _) h (ord_big _ (by decide))
 have hd:Nat.gcd d 2147483647 ∣ 2147483647:=Nat.gcd_dvd_right _ _
 have hle:Nat.gcd d 2147483647≤d:=Nat.gcd_le_left _ h1
 have hpos:0 < Nat.gcd d 2147483647:=Nat.gcd_pos_of_pos_left _ h1
 rcases (show Nat.gcd d 2147483647=1∨2≤Nat.gcd d 2147483647 by omega) with e | e
 ·rw [e] at hg
  exact absurd hg (by decide)
 ·exact prime31 hd e (by omega)
theorem two_no {a b:Nat} (h:a < b) (hb:b < 2147483647):rIter a 1 ^^^ rIter b 1 ≠ 0:=by
 intro h0
 have e:rIter a 1=rIter b 1:=Nat.eq_of_testBit_eq fun i=>by
  have:=congrArg (fun z=>z.testBit i) h0
  simpa [Nat.testBit_xor] using this
 rw [show b=(b - a) + a from by omega,rIter_add] at e
 exact ord_no (d:=b - a) (by omega) (by omega) (rIter_inj a (by decide) (rIter_lt _ (by decide)) e).symm
theorem three_no (a b c:Nat):rIter a 1 ^^^ rIter b 1 ^^^ rIter c 1 ≠ 0:=by
 intro h0
 have:=congrArg par h0
 rw [par_xor,par_xor,par_one,par_one,par_one] at this
 revert this
 decide
theorem one_no (a:Nat):rIter a 1 ≠ 0:=fun h=>absurd (rIter_eq_zero a (by decide) h) (by decide)
end Go.Proofs.YtfdbcfaeiglbeaaGreatDoor
namespace Go.Proofs.YtfdbcfaeiglbeaaGreatDoor
open Go.RowKit
section
variable {w w' : World} {B B' size n : Nat} {A : Option Addr} {xs : List Value}
end
section
variable {P : Program} (w : World)
end
instance (W:World):Nonempty (Later W):=⟨Later.now W⟩
theorem Later.calls {P:Program} {f:FuncId} {args:Array Value} {W:World} {L:Later W} {v:Value}
  (h:Calls P f args L.w fun e w'=>e = .returned v∧Below L.w.heap.size L.w w'):Calls P f args L.w fun e w''=>e = .returned v∧∃ L':Later W,w''=L'.w :=
 h.mono fun _ _ ⟨he,hb⟩=>⟨he,L.then hb,rfl⟩
section
variable {P : Program}
end
end Go.Proofs.YtfdbcfaeiglbeaaGreatDoor
namespace Go.Proofs.YtfdbcfaeiglbeaaGreatDoor
open Go.RowKit
theorem crcL_lt (l:List UInt8):∀ {c:Nat},c < 4294967296→crcL c l < 4294967296:=by
 induction l with
 | nil=>exact fun h=>h
 | cons b l ih=>exact fun h=>ih (crcB_lt h b)
end Go.Proofs.YtfdbcfaeiglbeaaGreatDoor
namespace Go.Proofs.YtfdbcfaeiglbeaaGreatDoor
open Go.RowKit
theorem be4_num (x2 x3 x4 x5:UInt8):be4 (numB x2 x3 x4 x5)=[x2,x3,x4,x5]:=by
 have h2:=x2.toNat_lt;have h3:=x3.toNat_lt;have h4:=x4.toNat_lt;have h5:=x5.toNat_lt
 unfold be4 numB
 have q:∀ (x:UInt8) (v:Nat),v % 256=x.toNat→UInt8.ofNat v=x:=fun x v hv=>UInt8.toNat_inj.1 (by rw [UInt8.toNat_ofNat'];exact hv)
 rw [q x2 _ (by omega),q x3 _ (by omega),q x4 _ (by omega),q x5 _ (by omega)]
theorem cut_four (l:List UInt8) (k:Nat) (h:k + 4≤l.length):cutS l k 4=[l[k]?.getD 0,l[k + 1]?.getD 0,l[k + 2]?.getD 0,l[k + 3]?.getD 0]:=by
 unfold cutS
 apply List.ext_getElem?
 intro i
 match i with
 | 0=>rw [List.getElem?_take_of_lt (by omega),List.getElem?_drop,Nat.add_zero,List.getElem?_eq_getElem (by omega)];rfl
 | 1=>rw [List.getElem?_take_of_lt (by omega),List.getElem?_drop,List.getElem?_eq_getElem (by omega)];rfl
 | 2=>rw [List.getElem?_take_of_lt (by omega),List.getElem?_drop,List.getElem?_eq_getElem (by omega)];rfl
 | 3=>rw [List.getElem?_take_of_lt (by omega),List.getElem?_drop,List.getElem?_eq_getElem (by omega)];rfl
 | i + 4=>rw [List.getElem?_eq_none (by rw [List.length_take];omega)];rfl
theorem be4_cut (l:List UInt8) (k:Nat) (h:k + 4≤l.length):be4 (numF l k)=cutS l k 4:=by
 rw [cut_four l k h];exact be4_num _ _ _ _
theorem isB_cut {l:List UInt8} {k s:Nat} (h:¬ isB l k s=false):lowB s=cutS l k 4:=by
 unfold isB at h
 rw [Bool.not_eq_false,beq_iff_eq] at h
 exact h.symm
theorem readF_end (l:List UInt8) (k:Nat) (h:(readF l k).2.2=0):frameB (readF l k).1=cutS l k ((readF l k).2.1 - k)∧(readF l k).2.1≤l.length∧k < (readF l k).2.1∧(readF l k).1.length≤1048576:=by
 unfold readF at h ⊢
 by_cases h1:l.length < k + 8
 ·rw [if_pos h1] at h;exact absurd h (by decide)
 rw [if_neg h1] at h ⊢
 by_cases h2:isB l (k + 4) (sumL (cutF l k 4))=false
 ·rw [if_pos h2] at h;exact absurd h (by decide)
 rw [if_neg h2] at h ⊢
 by_cases h3:1048576 < numF l k
 ·rw [if_pos h3] at h;exact absurd h (by decide)
 rw [if_neg h3] at h ⊢
 by_cases h4:l.length < k + 8 + numF l k + 4
 ·rw [if_pos h4] at h;exact absurd h (by decide)
 rw [if_neg h4] at h ⊢
 by_cases h5:isB l (k + 8 + numF l k) (sumL (cutF l (k + 8) (numF l k)))=false
 ·rw [if_pos h5] at h;exact absurd h (by decide)
 rw [if_neg h5]
 have b1:=be4_cut l k (by omega)
 have b2:=isB_cut h2
 have b3:=isB_cut h5
 generalize numF l k=m at *
 have hl:(cutF l (k + 8) m).length=m:=cutS_len l (by omega)
 refine ⟨?_,by show k + 8 + m + 4≤_;omega,by show k < k + 8 + m + 4;omega,by show (cutF l (k + 8) m).length≤_;omega⟩
 show frameB (cutF l (k + 8) m)=cutS l k (k + 8 + m + 4 - k)
 unfold frameB headF
 rw [hl,b1,b3,show lowB (sumL (cutS l k 4))=cutS l (k + 4) 4 from b2]
 show cutS l k 4 ++ cutS l (k + 4) 4 ++ cutS l (k + 8) m ++ cutS l (k + 8 + m) 4=_
 have a1:=cutS_app l (a:=k) (q:=k + 4) (p:=k + 8) (by omega) (by omega)
 have a2:=cutS_app l (a:=k) (q:=k + 8) (p:=k + 8 + m) (by omega) (by omega)
 have a3:=cutS_app l (a:=k) (q:=k + 8 + m) (p:=k + 8 + m + 4) (by omega) (by omega)
 rw [show k + 4 - k=4 from by omega,show k + 8 - (k + 4)=4 from by omega] at a1
 rw [show k + 8 + m - (k + 8)=m from by omega] at a2
 rw [show k + 8 + m + 4 - (k + 8 + m)=4 from by omega] at a3
 rw [a1,a2,a3]
theorem readFA_end (l:List UInt8) (a:Int) (h:(readFA l a).2.2=0):frameB (readFA l a).1=cutS l a.toNat ((readFA l a).2.1 - a.toNat)∧(readFA l a).2.1≤l.length∧0≤a∧a.toNat < (readFA l a).2.1∧(readFA l a).1.length≤1048576:=by
 unfold readFA at h ⊢
 by_cases h1:a < 0∨(l.length:Int) < a
 ·rw [if_pos h1] at h;exact absurd h (by decide)
 rw [if_neg h1] at h ⊢
 obtain ⟨e1,e2,e3,e4⟩:=readF_end l a.toNat h
 exact ⟨e1,e2,by omega,e3,e4⟩
end Go.Proofs.YtfdbcfaeiglbeaaGreatDoor
namespace Go.Proofs.YtfdbcfaeiglbeaaGreatDoor
theorem ins_len (m:List Ent) (e:Ent):(insE m e).length≤m.length + 1:=by
 unfold insE
 split
 ·omega
 ·rw [List.length_append,List.length_cons,List.length_take,List.length_drop];omega
end Go.Proofs.YtfdbcfaeiglbeaaGreatDoor
namespace Go.Proofs.YtfdbcfaeiglbeaaGreatDoor
open Go.RowKit
section
variable {w x y : World} {A : Option Addr} {n c : Nat} {l : List UInt8} {row row' : Option Nat}
theorem Sl.block_lt (h:Sl w A n c l) (hn:0 < n):∀ a,A=some a→a.block < w.heap.size:=by
 intro a ha
 obtain ⟨b,o,e,hb,_⟩:=h.rb.2 hn
 rw [ha] at e;injection e with e;subst e;exact hb
end
section
variable {w x y : World} {row row' : Option Nat} {vs : List Value} {ks : List (List UInt8)} {more : List UInt8}
theorem Fam.step (h:Fam w row vs ks more) (hm:0 < more.length) (hg:w.grownBy x row) (hr:row'=row∨row'=some w.heap.size):Fam x row' vs ks more :=
 ⟨h.1,fun i k hk=>by
  obtain ⟨a,c,q1,q2,q3⟩:=h.2 i k hk
  refine ⟨a,c,q1,q2.apart hg (fun _=>q3),fun z hz=>?_⟩
  rcases hr with rfl | rfl
  ·exact q3 z hz
  ·have:=q2.block_lt (by omega) z hz
   intro e;injection e with e;omega⟩
end
end Go.Proofs.YtfdbcfaeiglbeaaGreatDoor
namespace Go.Proofs.YtfdbcfaeiglbeaaGreatDoor
open Go.RowKit
section
variable {w x y : World} {row row' : Option Nat} {vs : List Value} {ks : List (List UInt8)} {S : Nat → Prop}
theorem FamS.step (h:FamS w row vs ks) (hg:w.grownBy x row) (hr:row'=row∨row'=some w.heap.size):FamS x row' vs ks :=
 ⟨h.1,fun i k hk=>by
  obtain ⟨a,c,q1,q2,q3⟩:=h.2 i k hk
  refine ⟨a,c,q1,q2.apart hg q3,fun h0 z hz=>?_⟩
  rcases hr with rfl | rfl
  ·exact q3 h0 z hz
  ·have:=q2.block_lt h0 z hz
   intro e;injection e with e;omega⟩
end
section
variable {P : Program} (w : World)
end
end Go.Proofs.YtfdbcfaeiglbeaaGreatDoor
namespace Go.Proofs.YtfdbcfaeiglbeaaGreatDoor
open Go.RowKit
section
variable {T e : TypeId} {B n c : Nat} {w x : World} {lv wv : Value} {A : Option Addr} {rs : RowL} {ks : List (List UInt8)} {S : Nat → Prop}
end
section
variable {T e : TypeId} {base H3 : Nat} {wr w2 w3 : World} {rs : RowL} {v v3 : Value} {vs : List Value} {ks : List (List UInt8)} {k m ca : Nat} {l : List UInt8} {A : Option Addr}
theorem Aps.three {vs us:List Value} (h:Aps rs k vs) (hu:∀ (j:Nat) (a:Addr) (n c:Nat),us[j]?=some (.slice (some a) n c)→0 < n→∀ (i:Nat) (b:Addr) r,k + 1≤i→rs[i]?=some r→r.1=some b→a.block ≠ b.block):Aps rs (k + 1) (vs ++ us):=by
 intro i j a b n c r hj hn hi hr hb
 rw [List.getElem?_append] at hj
 split at hj
 ·exact h i j a b n c r hj hn (by omega) hr hb
 ·exact hu _ a n c hj hn i b r hi hr hb
end
section
variable {P : Program} (w : World)
end
section
variable {T : TypeId} {base c n : Nat} {w x y : World} {p : Addr} {u : Value} {A : Option Addr} {l : List UInt8}
end
end Go.Proofs.YtfdbcfaeiglbeaaGreatDoor
namespace Go.Proofs.YtfdbcfaeiglbeaaGreatDoor
open Go.RowKit
section
variable {w x y : World} {cs : List (Array Value)}
theorem Bxs.three (w:World) (T:TypeId) (c c' c'':Array Value):Bxs w [c,c',c''] (((w.alloc (.cells c T)).alloc (.cells c' T)).alloc (.cells c'' T)):=(Bxs.two w T c c').push (by show ((w.heap.push _).push _).size=_;simp)
variable {T : TypeId} {rs : RowL}
end
section
variable {P : Program}
end
end Go.Proofs.YtfdbcfaeiglbeaaGreatDoor
namespace Go.Proofs.YtfdbcfaeiglbeaaGreatDoor
open Go.RowKit
theorem Sl.over {w x y:World} {A:Option Addr} {n c g:Nat} {l:List UInt8} (h:Sl w A n c l) (hb:Below w.heap.size w x) (hg:x.grownBy y (some g)) (hle:w.heap.size≤g):Sl y A n c l :=
 ⟨Reads.more (Reads.grown (h.rb.below hb) hg hb.size (fun _ e=>by injection e with e;omega)) (Nat.le_trans hb.size hg.size),h.cap,h.lim,h.nil⟩
end Go.Proofs.YtfdbcfaeiglbeaaGreatDoor
namespace Go.Proofs.YtfdbcfaeiglbeaaGreatDoor
open Go.RowKit
section
variable {w x : World} {os : List Ob} {i c n : Nat} {T : TypeId} {A : Option Addr} {l : List UInt8}
theorem OW.clipSlm (h:OW w os x) (hc:CAt A l) (hi:clipO A l ∈ os) (hn:l.length=n) (hm:n≤9223372036854775807):Sl x A n n l:=by
 obtain ⟨i,hi⟩:=List.getElem?_of_mem hi
 exact h.clipSl hc hi hn hm
end
end Go.Proofs.YtfdbcfaeiglbeaaGreatDoor
namespace Go.Proofs.YtfdbcfaeiglbeaaGreatDoor
open Go.RowKit
abbrev FW (ro:Option Nat):Fence:={ Fence.wide with round:=ro }
theorem rowsIn_wide {n:Nat} {P:Program} {row:String} {args:Array Value} {w:World} {R:Value→World→Prop} (h:Rows P row args w R):RowsIn Fence.wide n P row args w R :=
 fun c cs _=>let ⟨v,w',r,s⟩:=h c cs;⟨v,w',r,stepsIn_wide.2 s⟩
theorem callsIn_fw {ro:Option Nat} {n:Nat} {P:Program} {f:FuncId} {args:Array Value} {w:World} {R:Ending→World→Prop} (h:Calls P f args w R):CallsIn (FW ro) n P f args w R :=
 (callsIn_wide (n:=n)).2 h
section
variable {P : Program} {ro : Option Nat} {n : Nat} {o : Oper} {a : Act} {w : World} {K K' : Act → World → Prop} {Q : Exit → Act → World → Prop}
theorem upon_in {r:Result Next} (hK:∀ a w,K a w→K' a w) (h:o.upon P a K Q r):o.uponIn (FW ro) n P a K' Q r:=by
 unfold Oper.upon at h
 split at h
 ·exact hK _ _ h
 ·exact hK _ _ h
 ·exact hK _ _ h
 ·refine ⟨(fun e=>nomatch e),(callsIn_fw h).mono fun e w' h=>?_⟩
  cases e with
  | returned v=>exact hK _ _ h
  | panicked chain=>exact h
  | outgrown=>exact h
 ·exact ⟨(fun e=>nomatch e),RowsIn.mono (rowsIn_wide h) fun v w' h=>hK _ _ h⟩
 ·exact h
 ·exact h.elim
theorem wp_in (hd:∀ c,o.op ≠ .defer c) (hK:∀ a w,K a w→K' a w) (h:o.wp P a w K Q):o.wpIn (FW ro) n P a w K' Q :=
 ⟨fun _ _=>trivial,by rw [Oper.semAt_plain _ _ _ hd];exact upon_in hK h⟩
def noDef (l:List Oper):Bool:=l.all fun o=>match o.op with
 | .defer _=>false
 | _=>true
theorem noDef_at {l:List Oper} (h:noDef l=true) (ho:o ∈ l) (c:Call):o.op ≠ .defer c:=fun e=>by
 have h1:=List.all_eq_true.1 h o ho
 rw [e] at h1;cases h1
def qIn (F:Fence) (n:Nat) (P:Program) (ops:Array Oper) (Q:Exit→Act→World→Prop) (rest:List Oper):Exit→Act→World→Prop
 | .normal,a,w=>wpListIn F n P ops Q rest a w
 | .outgrown,_,_=>False
 | .exit id,a,w=>Q (.exit id) a w
 | .goto l,a,w=>Q (.goto l) a w
 | .ret,a,w=>Q .ret a w
 | .panic c,a,w=>Q (.panic c) a w
theorem upon_q {F:Fence} {ops:Array Oper} {rest:List Oper} {r:Result Next} (h:o.upon P a K (qIn F n P ops Q rest) r):o.upon P a K Q r:=by
 unfold Oper.upon at h ⊢
 split at h
 ·exact h
 ·exact h
 ·exact h
 ·refine Calls.mono h fun e w' h=>?_
  cases e with
  | returned v=>exact h
  | panicked chain=>exact h
  | outgrown=>obtain ⟨_,_,h⟩:=h;exact h.elim
 ·exact h
 ·exact h
 ·exact h.elim
theorem wlIn_one {ops:Array Oper} {rest:List Oper} (hd:noDef [o]=true) (h:wpList P ops (qIn (FW ro) n P ops Q rest) [o] a w):wpListIn (FW ro) n P ops Q (o::rest) a w:=by
 unfold wpList at h
 unfold wpListIn
 split
 ·rename_i hw
  rw [if_pos hw] at h
  rcases h with h | ⟨_,a',w',h⟩
  ·exact wp_in (noDef_at hd (List.mem_cons_self ..)) (fun a w h=>h) (upon_q h)
  ·exact h.elim
 ·rename_i hw
  rw [if_neg hw] at h
  exact ⟨(fun _ _=>trivial),h⟩
theorem wlIn_back {F:Fence} {ops:Array Oper} {rest:List Oper} (h:wpListIn F n P ops Q rest a w):wpList P ops (qIn F n P ops Q rest) [] a w:=h
theorem wpOpsIn_of {ops:Array Oper} (hQ:∀ a w,¬ Q .outgrown a w) (hd:noDef ops.toList=true):∀ (l:List Nat) (a:Act) (w:World),wpOps P ops Q l a w→wpOpsIn (FW ro) n P ops Q l a w
 | [],_,_,h=>h
 | i::l,a,w,h=>by
  unfold wpOps at h
  unfold wpOpsIn
  cases ho:ops[i]? with
  | none=>rw [ho] at h;exact wpOpsIn_of hQ hd l a w h
  | some o =>
   rw [ho] at h
   simp only [] at h ⊢
   split
   ·rename_i hw
    rw [if_pos hw] at h
    rcases h with h | ⟨_,a',w',h⟩
    ·exact wp_in (noDef_at hd (Array.mem_toList_iff.2 (Array.mem_of_getElem? ho))) (fun a w=>wpOpsIn_of hQ hd l a w) h
    ·exact (hQ _ _ h).elim
   ·rename_i hw
    rw [if_neg hw] at h
    exact ⟨(fun _ _=>trivial),wpOpsIn_of hQ hd l _ _ h⟩
theorem lt_startIn {id:Nat} {l:List Oper} (F:List Nat) (hm:P.follows .mixedOrders=true) (hd:noDef l=true) (hQ:∀ a w,¬ Q .outgrown a w) (h:∀ z,Below w.heap.size w z→∃ S,wpAnyT P l.toArray Q F S l.length (Array.replicate l.length false) a z):(Code.region id l.toArray true).wpIn (FW ro) n P Q a w:=by
 obtain ⟨S,h⟩:=h w.drew (Below.refl _ _).drew
 refine wpIn_region_draw fun t=>wpOpsIn_of hQ (by simpa using hd) _ _ _ ?_
 simp only [Region.schedule,hm,Bool.true_or,if_true]
 exact wpAny_sound _ t _ a _ (wpAny_of_T _ _ _ _ (by simpa using h))
end
section
variable {w x y : World} {os : List Ob} {i k : Nat} {r : Obj}
theorem chg_putObj (x:World) (k:Nat) (o:Obj):Chg (fun b=>b=k) x (x.putObj k o) :=
 ⟨rfl,rfl,rfl,by rw [World.putObj_size];exact Nat.le_refl _,fun j _ hne=>World.putObj_heap_other hne⟩
theorem OW.putRaw (h:OW w os x) (hi:os[i]?=some (rawO k r)) (r':Obj):OW w (os.set i (rawO k r')) (x.putObj k r'):=by
 obtain ⟨h1,h2⟩:=h.rawh hi
 exact h.upd hi (chg_putObj x k r') (fun b _ e=>by subst e;rfl) (Ob.at_mkr rfl ⟨k,r',rfl,h1,World.putObj_heap_same (Array.getElem?_eq_some_iff.1 h2).1,rfl⟩) fun b hb => .inl hb
theorem getE_app {α:Type} (os:List α) (a:α) (ds:List α):(os ++ a::ds)[os.length]?=some a:=by
 rw [List.getElem?_append_right (Nat.le_refl _),Nat.sub_self];rfl
theorem setE_app {α:Type} (os:List α) (a b:α) (ds:List α):(os ++ a::ds).set os.length b=os ++ b::ds:=by
 rw [List.set_append_right _ _ (Nat.le_refl _),Nat.sub_self];rfl
theorem OW.putRawE {ds:List Ob} (h:OW w (os ++ rawO k r::ds) x) (r':Obj):OW w (os ++ rawO k r'::ds) (x.putObj k r'):=by
 have:=h.putRaw (getE_app os _ ds) r'
 rwa [setE_app] at this
theorem OW.rawE {ds:List Ob} (h:OW w (os ++ rawO k r::ds) x):x.heap[k]?=some r:=(h.rawh (getE_app os _ ds)).2
theorem OW.dropE {ds:List Ob} {o:Ob} (h:OW w (os ++ o::ds) x):OW w (os ++ ds) x :=
 h.sub (List.Sublist.append (List.Sublist.refl _) (List.sublist_cons_self _ _))
end
section
variable {α : Type} {P : Program}
def IterOK (P:Program) (g:Nat) (lb:Array Value) (L:List α) (Itr:World→Prop) (Hand:α→Array Value→World→World→Prop):Prop :=
 ∀ (l:Nat) (J Jx:List α→World→Prop) (W:World),
  (∀ pre z,J pre z→Itr z)→(∀ pre y z,J pre y→Below y.heap.size y z→J pre z)→(∀ pre y z,Jx pre y→Below y.heap.size y z→Jx pre z) →
  (∀ pre x W0 vs W1,pre ++ [x] <+: L→J pre W0→Hand x vs W0 W1→YieldAt Fence.wide 9 P l vs W1 fun e z =>
   (e = .returned (.bool true)∧J (pre ++ [x]) z)∨(e = .returned (.bool false)∧Jx (pre ++ [x]) z)) →
  J [] W→Calls P g (#[.func (.yield l) #[] #[]] ++ lb) W fun e z=>(∃ v,e = .returned v)∧(J L z∨∃ pre,pre <+: L∧Jx pre z)
def mkRec (fn:FuncId) (tmps:Array Value) (ps:Array Tmp) (assign body:Code) (D:Nat) (st:LoopState) (pe:Option Code):Loop :=
 { state:=st,pending:=pe,fn,tmps,params:=ps,assign,body,defers:=D }
def rPost (w:World) (p:List Ob) (I:List α→List Ob→Prop) (Ix:Code→List α→List Ob→Prop) (xs:List α):Exit→Act→World→Prop
 | .normal,_,z=>∃ os,I xs os∧OW w (os ++ p) z
 | .ret,_,z=>∃ os,Ix .ret xs os∧OW w (os ++ p) z
 | .exit id,_,z=>∃ os,Ix (.exit id) xs os∧OW w (os ++ p) z
 | .goto t,_,z=>∃ os,Ix (.goto t) xs os∧OW w (os ++ p) z
 | .panic _,_,_=>False
 | .outgrown,_,_=>False
def setP (tmps:Array Value) (ps:Array Tmp) (vs:Array Value):Array Value:=(ps.zip vs).foldl (fun t (p,v)=>t.setIfInBounds p v) tmps
theorem setP1 (tmps:Array Value) (p:Tmp) (v:Value):setP tmps #[p] #[v]=tmps.setIfInBounds p v:=by simp [setP]
def RoundOK (P:Program) (w:World) (l:Nat) (assign body:Code) (I:List α→List Ob→Prop) (Ix:Code→List α→List Ob→Prop) (tmps:Array Value) (p1 p2:List Ob) (pre:List α) (x:α) (W1:World) (vs:Array Value) (ps:Array Tmp):Prop :=
 assign.wpIn (FW (some l)) 9 P (Exit.then (fun a1 z=>∃ os2,OW w (os2 ++ p1) z∧∀ z2,OW w (os2 ++ p2) z2→body.wpIn (FW (some l)) 9 P (rPost w p2 I Ix (pre ++ [x])) a1 z2) fun _ _ _=>False)
  { tmps:=setP tmps ps vs,defers:=[] } W1
theorem range_core {F:Fence} {n:Nat} {w W1:World} {g l:Nat} {lb:Array Value} {L:List α} {Itr:World→Prop} {Hand:α→Array Value→World→World→Prop} {ps:Array Tmp} {assign body:Code} {Q:Exit→Act→World→Prop} {a':Act} {fn:FuncId} {tmps:Array Value} {D:Nat} {ds:List Ob}
  (hit:IterOK P g lb L Itr Hand) (hps:∀ x vs y z,Hand x vs y z→vs.size=ps.size∧Below y.heap.size y z) (I:List α→List Ob→Prop) (Ix:Code→List α→List Ob→Prop)
  (hI:∀ pre os es z,I pre os→OW w (os ++ es) z→Itr z) {os0:List Ob} (h0:I [] os0) (hx:OW w (os0 ++ rawO l (.loop (mkRec fn tmps ps assign body D .ready none))::ds) W1)
  (hround:∀ pre x vs W0 W1 os,pre ++ [x] <+: L→I pre os→OW w (os ++ rawO l (.loop (mkRec fn tmps ps assign body D .ready none))::ds) W0→Hand x vs W0 W1 →
   RoundOK P w l assign body I Ix tmps (rawO l (.loop (mkRec fn tmps ps assign body D .ready none))::ds) (rawO l (.loop (mkRec fn tmps ps assign body D .busy none))::ds) pre x W1 vs ps)
  (hdone:∀ os z,I L os→OW w (os ++ ds) z→Q .normal a' z) (hstop:∀ c pre os z,pre <+: L→Ix c pre os→OW w (os ++ ds) z→c.wpIn F n P Q a' z) :
  Calls P g (#[.func (.yield l) #[] #[]] ++ lb) W1 (rangePost F n P l Q a'):=by
 refine (hit l (fun pre z=>∃ os,I pre os∧OW w (os ++ rawO l (.loop (mkRec fn tmps ps assign body D .ready none))::ds) z)
  (fun pre z=>∃ c os,Ix c pre os∧OW w (os ++ rawO l (.loop (mkRec fn tmps ps assign body D .done (some c)))::ds) z) W1
  (fun pre z ⟨os,h1,h2⟩=>hI pre os _ z h1 h2) (fun pre y z ⟨os,h1,h2⟩ hb=>⟨os,h1,h2.later hb⟩) (fun pre y z ⟨c,os,h1,h2⟩ hb=>⟨c,os,h1,h2.later hb⟩) ?_ ⟨os0,h0,hx⟩).mono ?_
 ·rintro pre x W0 vs Wb hpre ⟨os,hi,ho⟩ hh
  have hr:=hround pre x vs W0 Wb os hpre hi ho hh
  have hrec:Wb.heap[l]?=some (.loop (mkRec fn tmps ps assign body D .ready none)):=(ho.later (hps x vs _ _ hh).2).rawE
  exact ⟨fn,_,assign,body,run_yield hrec (by rw [(hps x vs _ _ hh).1];rfl),roundIn_of_wpIn (F:=Fence.wide) trivial (wpIn_mono hr fun e a1 z hz=>by
   cases e with
   | normal =>
    obtain ⟨os2,h1,h2⟩:=hz
    refine ⟨_,run_beginRound h1.rawE rfl,?_⟩
    refine wpIn_mono (h2 _ (h1.putRawE _)) fun e a3 z3 h3=>?_
    cases e with
    | normal =>
     obtain ⟨os3,h4,h5⟩:=h3
     exact ⟨_,_,run_endRound none h5.rawE,.inl ⟨rfl,os3,h4,h5.putRawE _⟩⟩
    | ret =>
     obtain ⟨os3,h4,h5⟩:=h3
     exact ⟨_,_,run_endRound (some .ret) h5.rawE,.inr ⟨rfl,.ret,os3,h4,h5.putRawE _⟩⟩
    | exit id =>
     obtain ⟨os3,h4,h5⟩:=h3
     exact ⟨_,_,run_endRound (some (.exit id)) h5.rawE,.inr ⟨rfl,.exit id,os3,h4,h5.putRawE _⟩⟩
    | goto t =>
     obtain ⟨os3,h4,h5⟩:=h3
     exact ⟨_,_,run_endRound (some (.goto t)) h5.rawE,.inr ⟨rfl,.goto t,os3,h4,h5.putRawE _⟩⟩
    | panic ch=>exact h3.elim
    | outgrown=>exact h3.elim
   | ret=>exact hz.elim
   | exit id=>exact hz.elim
   | goto t=>exact hz.elim
   | panic ch=>exact hz.elim
   | outgrown=>exact hz.elim)⟩
 ·rintro e z ⟨⟨v,rfl⟩,⟨os,h1,h2⟩ | ⟨pre,hp,c,os,h1,h2⟩⟩
  ·exact ⟨none,_,run_endLoop h2.rawE (fun e=>nomatch e),hdone os _ h1 (h2.putRawE _).dropE⟩
  ·exact ⟨some c,_,run_endLoop h2.rawE (fun e=>nomatch e),hstop c pre os _ hp h1 (h2.putRawE _).dropE⟩
def markD (D:Nat):Deferred:={ target := .collected D,args:=#[] }
def dfrO (D:Nat):Ob:=rawO D (.deferred (some []))
theorem wp_range {w x:World} {g:Operand} {gf:Nat} {lb:Array Value} {L:List α} {Itr:World→Prop} {Hand:α→Array Value→World→World→Prop} {ps:Array Tmp} {assign body:Code} {Q:Exit→Act→World→Prop} {a:Act}
  (hg:a.eval g = .func (.func gf) #[] lb) (eg:∀ args w,(callFunc gf args).run P w = .ok (.enter gf args) w)
  (hit:IterOK P gf lb L Itr Hand) (hps:∀ x vs y z,Hand x vs y z→vs.size=ps.size∧Below y.heap.size y z) (I:List α→List Ob→Prop) (Ix:Code→List α→List Ob→Prop)
  (hI:∀ pre os es z,I pre os→OW w (os ++ es) z→Itr z) {os0:List Ob} (h0:I [] os0) (hx:OW w os0 x)
  (hround:∀ (l:Nat) (p1 p2:List Ob) pre xx vs W0 W1 os,(∃ r ds,p2=rawO l (.loop r)::ds)→pre ++ [xx] <+: L→I pre os→OW w (os ++ p1) W0→Hand xx vs W0 W1→RoundOK P w l assign body I Ix a.tmps p1 p2 pre xx W1 vs ps)
  (hdone:∀ D os z,I L os→OW w (os ++ [dfrO D]) z→Q .normal { a with defers:=markD D::a.defers } z)
  (hstop:∀ D c pre os z,pre <+: L→Ix c pre os→OW w (os ++ [dfrO D]) z→c.wp P Q { a with defers:=markD D::a.defers } z):(Code.rangeFunc g ps assign body).wp P Q a x:=by
 refine (wpIn_wide (n:=0)).1 (wpIn_rangeFunc fun fn _=>?_)
 obtain ⟨W1,hW1⟩:∃ z,z=(x.alloc (.deferred (some []))).alloc (.loop (mkRec fn a.tmps ps assign body x.heap.size .ready none)):=⟨_,rfl⟩
 have h2:OW w (os0 ++ rawO (x.heap.size + 1) (.loop (mkRec fn a.tmps ps assign body x.heap.size .ready none))::[dfrO x.heap.size]) W1:=by
  rw [hW1]
  have h3:=(hx.app (OW.raw1 x (.deferred (some [])))).app (OW.raw1 _ (.loop (mkRec fn a.tmps ps assign body x.heap.size .ready none)))
  rw [World.size_alloc] at h3
  refine h3.perm ?_
  rw [List.append_assoc]
  exact List.Perm.append_left _ (List.Perm.swap _ _ _)
 refine ⟨x.heap.size + 1,[markD x.heap.size],W1,{ target := .fn (.func gf) lb,args:=#[.func (.yield (x.heap.size + 1)) #[] #[]] },W1,gf,#[.func (.yield (x.heap.size + 1)) #[] #[]] ++ lb,W1,by rw [hW1];exact run_enterLoop_outer _ _ _ _ _,?_,fun _ _=>trivial,?_,(fun e=>nomatch e),callsIn_wide.2 ?_⟩
 ·simp only [resolve,hg]
  simp [go_sem]
 ·simp [invoke,go_sem,eg]
 ·exact range_core hit hps I Ix hI h0 h2 (fun pre xx vs W0 W1 os h4 h5 h6 h7=>hround _ _ _ pre xx vs W0 W1 os ⟨_,_,rfl⟩ h4 h5 h6 h7) (fun os z h4 h5=>hdone _ os z h4 h5) fun c pre os z h4 h5 h6=>wpIn_wide.2 (hstop _ c pre os z h4 h5 h6)
def bodyQ (P:Program) (fn:Func) (R:Ending→World→Prop):Exit→Act→World→Prop
 | .normal,a,w | .ret,a,w=>LeavesInM Fence.wide 0 P fn a.tmps R a.defers .returning w
 | _,_,_=>False
theorem calls_marks {f:FuncId} {fn:Func} {c:Code} {args:Array Value} {w:World} {R:Ending→World→Prop} (hf:P.funcs[f]?=some fn) (hb:fn.body=some c)
  (h:c.wp P (bodyQ P fn R) { tmps:=args ++ Array.replicate (fn.ntmps - args.size) undef,defers:=[] } w):Calls P f args w R :=
 (callsIn_wide (n:=0)).1 (callsIn_of_wp_marks hf hb trivial (wpIn_wide.2 (wp_mono h fun e a w hq=>by
  cases e with
  | normal=>exact hq
  | ret=>exact hq
  | exit id=>exact hq.elim
  | goto l=>exact hq.elim
  | panic ch=>exact hq.elim
  | outgrown=>exact hq.elim)) rfl)
theorem leaves_mark {fn:Func} {tmps:Array Value} {R:Ending→World→Prop} {D:Nat} {ds:List Deferred} {z:World} {w:World} {os es:List Ob} (h:OW w (os ++ dfrO D::es) z)
  (hk:∀ z',OW w (os ++ es) z'→LeavesInM Fence.wide 0 P fn tmps R ds .returning z'):LeavesInM Fence.wide 0 P fn tmps R (markD D::ds) .returning z :=
 ⟨(fun e=>nomatch e),.inl ⟨D,_,rfl,run_takeDeferred h.rawE,hk _ (h.putRawE _).dropE⟩⟩
theorem results_cell1 {fn:Func} {p:Tmp} {ty:TypeId} (h:fn.results=#[.cell p ty]) (tmps:Array Value) (w:World) (g:Nat) (v:Value) (hp:tmps.getD p undef = .pointer (some ⟨g,0,none⟩)) (hc:w.cell? ⟨g,0,none⟩=some v) (ha:∀ w,(isAgg ty).run P w = .ok false w):(results fn tmps).run P w = .ok v w:=by
 have hp':tmps[p]?.getD undef = .pointer (some ⟨g,0,none⟩):=by simpa using hp
 simp [results,h,hp',asAddr,loadVar,Sem.run_bind,ha w]
 simp [go_sem,hc]
theorem leaves0 {fn:Func} {tmps:Array Value} {R:Ending→World→Prop} {v:Value} {z:World} (h:(results fn tmps).run P z = .ok v z) (hR:R (.returned v) z):LeavesInM Fence.wide 0 P fn tmps R [] .returning z:=⟨v,h,hR⟩
theorem RBox.cell' {w x1 z:World} {g:Nat} {u:Value} (h:RBox w x1 g u) (hz:Below x1.heap.size x1 z):z.cell? ⟨g,0,none⟩=some u:=(hz.cell (p:=⟨g,0,none⟩) h.hi).trans h.cell
theorem RBox.up' {w x1 z:World} {g:Nat} {u:Value} (h:RBox w x1 g u) (hz:Below x1.heap.size x1 z) (v:Value):Below w.heap.size w (z.setCell ⟨g,0,none⟩ v) :=
 (h.up.trans (hz.mono h.up.size)).setCell (p:=⟨g,0,none⟩) h.lo v
theorem RBox.got {w x1 z:World} {g:Nat} {u:Value} (h:RBox w x1 g u) (hz:Below x1.heap.size x1 z) (v:Value):(z.setCell ⟨g,0,none⟩ v).cell? ⟨g,0,none⟩=some v:=World.cell?_setCell_same _ _ _ (h.cell' hz)
theorem RBox.mark {w x1 z:World} {g D:Nat} {u:Value} {os es:List Ob} (h:RBox w x1 g u) (hz:OW x1 (os ++ dfrO D::es) z) (v:Value) {fn:Func} {tmps:Array Value} {R:Ending→World→Prop} {p:Tmp} {ty:TypeId} (hr:fn.results=#[.cell p ty]) (hp:tmps.getD p undef = .pointer (some ⟨g,0,none⟩)) (ha:∀ w,(isAgg ty).run P w = .ok false w)
  (hR:∀ z',Below w.heap.size w z'→R (.returned v) z'):LeavesInM Fence.wide 0 P fn tmps R [markD D] .returning (z.setCell ⟨g,0,none⟩ v):=by
 obtain ⟨hD,hd⟩:=hz.rawh (getE_app os _ es)
 have hne:g ≠ D:=by have:=h.hi;omega
 have hd':(z.setCell ⟨g,0,none⟩ v).heap[D]?=some (.deferred (some [])):=(Below.heap_setCell _ _ _ _ (fun e=>hne e.symm)).trans hd
 refine ⟨(fun e=>nomatch e),.inl ⟨D,_,rfl,run_takeDeferred hd',leaves0 (results_cell1 hr _ _ g v hp ?_ ha) (hR _ ?_)⟩⟩
 ·exact (World.cell?_of_block (World.putObj_heap_other hne)).trans (h.got hz.up v)
 ·exact (h.up' hz.up v).trans ((chg_putObj _ D _).below (h.up' hz.up v).size fun k _ e=>by
   subst e;have:=h.lo;have:=h.hi;omega)
end
end Go.Proofs.YtfdbcfaeiglbeaaGreatDoor
namespace Go.Proofs.YtfdbcfaeiglbeaaGreatDoor
open Go.RowKit
section
variable {w x : World} {os ks : List Ob} {g c N i : Nat} {m : UInt8}
theorem OW.marked {A:Option Addr} {n cap:Nat} (h:OW w os x) (hm:Marked os A n cap m):Sl x A n cap (List.replicate n m):=by
 rcases hm with ⟨rfl,rfl,rfl⟩ | ⟨g,c,N,rfl,h1,h2,h3,h4⟩
 ·exact Sl.none _
 ·obtain ⟨r,h5,h6,h7⟩:=h.fill h4
  have hc:c≤maxLen:=by obtain ⟨_,_,_,_,_,h8,_⟩:=h7;exact h8
  unfold maxLen at hc
  refine ⟨RB.mk' List.length_replicate fun _=>⟨g,0,rfl,(Array.getElem?_eq_some_iff.1 h6).1,fun j b hj=>?_⟩,h2,by omega,fun e=>nomatch e⟩
  obtain ⟨hjl,rfl⟩:=List.getElem?_eq_some_iff.1 hj
  rw [List.length_replicate] at hjl
  rw [Nat.zero_add,List.getElem_replicate]
  exact h7.cell h6 (by omega)
end
section
variable {P : Program} {Q : Exit → Act → World → Prop} {K : Act → World → Prop} {o : Oper} {a : Act} {w x : World} {os ks : List Ob} {m : UInt8}
end
section
variable {P : Program} {Q : Exit → Act → World → Prop} {F : List Nat} {S : World → Prop} {l : List Oper} {listed : Array Bool} {fuel : Nat} {a : Act} {w : World}
end
end Go.Proofs.YtfdbcfaeiglbeaaGreatDoor
namespace Go.Proofs.YtfdbcfaeiglbeaaGreatDoor
open Go.RowKit
theorem Tryz.kssF:SliceOf Tryz.prog 88 34 1 24:=SliceOf.mk' (z := .slice none 0 0) Tryz.underlying88 (by kernel_rfl) rfl (by decide)
end Go.Proofs.YtfdbcfaeiglbeaaGreatDoor
namespace Go.Proofs.YtfdbcfaeiglbeaaGreatDoor
open Go.RowKit
theorem Fl.read {w x:World} {g:Nat} {osF rest:List Ob} (hF:Fl g osF) (h:OW w (osF ++ rest) x):∃ (LA MA:Option Addr) (q lc mc:Nat),q≤100000000∧x.cell? ⟨g,0,none⟩=some (.slice LA q lc)∧x.cell? ⟨g,1,none⟩=some (.slice MA q mc) ∧
  ∀ i,i < q→∃ (lg mg:Nat) (A:Option Addr) (n cap mm:Nat),LA=some ⟨lg,0,none⟩∧MA=some ⟨mg,0,none⟩∧n≤1000000101∧x.cell? ⟨lg,i,none⟩=some (.slice A n cap)∧x.cell? ⟨mg,i,none⟩=some (.int .u8 (mm:Int))∧∀ k,k < n→∃ b,A=some ⟨b,0,none⟩∧x.cell? ⟨b,k,none⟩=some (.int .u8 (mm:Int)):=by
 obtain ⟨⟨lv,mA,mc,N,vals,ms,ks⟩,rfl,hd⟩:=hF
 obtain ⟨LA,lc,hlv,_⟩:=own_slice (h.row (i:=1) rfl)
 have hlv:lv = .slice LA vals.length lc:=hlv
 subst hlv
 have hl:vals.length=ms.length:=hd.len
 have hq1:50 * vals.length≤N:=hd.few
 have hq2:N≤5000000000:=hd.lim
 have hr:=h.row (i:=1) rfl
 have hm:=h.byt (i:=2) rfl
 refine ⟨LA,mA,vals.length,lc,mc,by omega,h.cell (i:=0) (j:=0) rfl rfl,by have h1:=h.cell (i:=0) (j:=1) rfl rfl;rw [h1,hl],fun i hi=>?_⟩
 obtain ⟨lg,lcap,hv,_⟩:=own_form hr (show 0 < vals.length by omega)
 injection hv with hv _ _
 obtain ⟨mg,mcap,hv2,_⟩:=own_form hm (show 0 < ms.length by omega)
 injection hv2 with hv2 _ _
 obtain ⟨v,hvi⟩:∃ v,vals[i]?=some v:=⟨_,List.getElem?_eq_getElem hi⟩
 obtain ⟨m,hmi⟩:∃ v,ms[i]?=some v:=⟨_,List.getElem?_eq_getElem (by omega)⟩
 obtain ⟨A,n,cap,rfl,hn,hmk⟩:=hd.keep i v m hvi hmi
 subst hv;subst hv2
 have hS:=OW.marked h (A:=A) (n:=n) (cap:=cap) (m:=m) (by
  rcases hmk with hk | ⟨g',c',N',k1,k2,k3,k4,k5⟩
  ·exact .inl hk
  ·exact .inr ⟨g',c',N',k1,k2,k3,k4,List.mem_append_left _ (.tail _ (.tail _ (.tail _ k5)))⟩)
 refine ⟨lg,mg,A,n,cap,m.toNat,rfl,rfl,hn,(World.ownsRow.cellAt hr i (by show i < vals.length * 1;omega)).trans hvi,(World.ownsRow.cellAt hm i (by show i < ms.length * 1;omega)).trans (u8s_at hmi),fun k hk=>?_⟩
 obtain ⟨b,o,rfl,_,hc⟩:=hS.rb.2 (by omega)
 have ho:o=0:=by
  rcases hmk with ⟨h1,_⟩ | ⟨_,_,_,h1,_⟩
  ·cases h1
  ·injection h1 with h1;injection h1
 subst ho
 have:=hc k _ (u8s_at (show (List.replicate n m)[k]?=some m by simp [hk]))
 rw [Nat.zero_add] at this
 exact ⟨b,rfl,this⟩
end Go.Proofs.YtfdbcfaeiglbeaaGreatDoor
namespace Go.Proofs.YtfdbcfaeiglbeaaGreatDoor
open Go.RowKit
def ItrB (g gb:Nat) (A:Option Addr) (c:Nat) (L:List Ent) (z:World):Prop:=z.cell? ⟨gb,0,none⟩=some (.pointer (some ⟨g,0,none⟩))∧z.cell? ⟨g,1,none⟩=some (.slice A L.length c)∧Ens z A L.length L
theorem pre_take {L:List Ent} {k:Nat} {e:Ent} (h:L[k]?=some e):L.take k ++ [e] <+: L:=by
 rw [← take_snoc h];exact List.take_prefix _ _
set_option maxRecDepth 100000 in
set_option maxHeartbeats 4000000 in
theorem all1_iter (g gb:Nat) (A:Option Addr) (c:Nat) (L:List Ent) (hLn:L.length≤1000000000) (hL:∀ e,e ∈ L→e.row.length≤140737488355000∧e.qual.length≤140737488355000∧e.val.length≤140737488355000) :
  IterOK Tryz.prog 152 #[.pointer (some ⟨gb,0,none⟩)] L (ItrB g gb A c L) HandE:=by
 intro l J Jx W hit hJ hJx hY h0
 have HIT:=Lib.hid hit
 have HJ:=Lib.hid hJ
 have HJX:=Lib.hid hJx
 have HY:=Lib.hid hY
 have HL:=Lib.hid hL
 obtain ⟨hb,c1,_⟩:=hit [] W h0
 obtain ⟨n,hn⟩:∃ z,z=L.length:=⟨_,rfl⟩
 rw [← hn] at c1 hLn
 have HN:=Lib.hid hn.symm
 have H0:=Lib.hid h0
 clear hit hJ hJx hY hL hn h0
 refine (callsIn_wide (n:=10)).1 (callsIn_of_wp Tryz.func152 rfl trivial ?_ rfl)
 simp only [Tryz.ntmps152,List.size_toArray,List.length_cons,List.length_nil,Nat.reduceAdd,Nat.reduceSub,Array.replicate_succ,Array.replicate_zero,List.push_toArray,List.append_toArray,List.nil_append,List.cons_append]
 gi_wp2
 gi_loopw [4,10] (fun _ iv wr=>∃ k:Nat,k≤n∧iv = .int .i64 k∧Hid (J (L.take k) wr)) (fun _ iv _=>n - (intOf iv).toNat)
 case atStart=>exact ⟨0,Nat.zero_le _,rfl,H0⟩
 case round =>
  clear H0 hb c1
  obtain ⟨k,hk,rfl,HJK⟩:=hrel
  by_cases hlt:k < n
  case neg =>
   have hdk:decide ((k:Int) < (n:Int))=false:=decide_eq_false (by omega)
   have HE:Hid (J L wr):=Lib.hid (by have h:=HJK.out;rwa [take_all (by rw [HN.out];omega)] at h)
   gi_wp2
   go_end0
   exact ⟨⟨_,rfl⟩,.inl HE.out⟩
  have hdk:decide ((k:Int) < (n:Int))=true:=decide_eq_true (by omega)
  have i0:(0:Int)≤(k:Int):=by omega
  have i1:(k:Int) < (n:Int):=by omega
  obtain ⟨_,_,hens⟩:=HIT.out _ _ HJK.out
  rw [HN.out] at hens
  obtain ⟨b,o,Ar,rc,B,d,D,q,e,rfl,hbl,hke,hrg,hen⟩:=hens.at_ hlt
  have HR:=Lib.hid hrg
  have HKE:=Lib.hid hke
  have HEN:Hid (∀ z,Below wr.heap.size wr z→En z Ar e.row.length rc B e.qual.length d D e.val.length q e):=Lib.hid fun z hz=>hen.later hz
  have HX:=Lib.hid (OW.nil wr)
  have HLE:=Lib.hid (HL.out e (List.mem_of_getElem? hke))
  clear hens hbl hke hrg hen
  gi_wp2_with (first
   | (refine wlIn_one (ro:=none) rfl ?_;refine wpList_load_at rfl 60 (.tmp 12) rfl rfl HR.out ent_row5 ?_;refine wlIn_back ?_)
   | (refine wlIn_one (ro:=none) rfl ?_;refine wl_alloc rfl rfl [.slice none 0 0,.int .i64 0,.slice none 0 0,.int .i64 0,.int .i64 0,.int .i64 0,.slice none 0 0] (.inl (by kernel_rfl)) HX.out ?_;intro ge x1 hz _;have HX1:=Lib.hid hz;clear hz HX;refine wlIn_back ?_)
   | (refine wlIn_one (ro:=none) rfl ?_;refine wl_put rfl (.tmp 4) (.tmp 13) rfl HX1.out 0 rfl rfl [.slice Ar e.row.length rc,.int .i64 e.fam,.slice B e.qual.length d,.int .i64 e.ts,.int .i64 e.seq,.int .i64 e.kind,.slice D e.val.length q] rfl rfl (by kernel_rfl) (by simp [Value.oneCell']) ?_;intro x2 hz _;have HX2:Hid (OW wr [boxO ge [.slice Ar e.row.length rc,.int .i64 e.fam,.slice B e.qual.length d,.int .i64 e.ts,.int .i64 e.seq,.int .i64 e.kind,.slice D e.val.length q]] x2):=Lib.hid hz;clear hz HX1;refine wlIn_back ?_)
   | (refine wlIn_one (ro:=none) rfl ?_;refine wpList_load_row7 rfl 60 (.tmp 4) rfl rfl (HX2.out.range (i:=0) rfl) ent_row5 ?_;refine wlIn_back ?_)
   | (refine ⟨trivial,?_⟩;gi_at_call 153;go_must (refine CallsIn.mono (callsIn_fw (ro:=none) (own_any e Ar _ rc B _ d D _ q _ (HEN.out _ HX2.out.up) HLE.out)) ?_);rintro r x3 hp;obtain ⟨A3,B3,D3,rfl,ca,cb,cd,ho⟩:=hp.own;have hy0:=HY.out (L.take k) e wr _ x3 (pre_take HKE.out) HJK.out ⟨A3,B3,D3,rfl,ca,cb,cd,(HX2.out.app ho).erase 0⟩;obtain ⟨fn,tmps,assign,body,hy,hR⟩:=hy0;clear hp ca cb cd ho HX2))
  have HT:=Lib.hid (take_snoc HKE.out)
  refine hR.mono ?_
  rintro e' W' (⟨rfl,hJ'⟩ | ⟨rfl,hJx'⟩)
  ·rw [← HT.out] at hJ'
   have HJ':=Lib.hid hJ'
   clear hJ' hR hy
   gi_wp2
   go_roundw
   case rel=>exact ⟨k + 1,by omega,by go_num,HJ'⟩
   case measure=>simp [intOf];omega
  ·have HJ':Hid (Jx (L.take k ++ [e]) W'∧L.take k ++ [e] <+: L):=Lib.hid ⟨hJx',pre_take HKE.out⟩
   clear hJx' hR hy
   gi_wp2
   refine bodyPost_ret (results_none rfl _ _ _) rfl ?_
   exact ⟨⟨_,rfl⟩,.inr ⟨_,HJ'.out.2,HJ'.out.1⟩⟩
end Go.Proofs.YtfdbcfaeiglbeaaGreatDoor
namespace Go.Proofs.YtfdbcfaeiglbeaaGreatDoor
open Go.RowKit
theorem Bk5.itr {R g:Nat} {L:List Ent} {os:List Ob} (h:Bk5 R L g os) {w0 z0:World} {r0:List Ob} (h0:OW w0 (os ++ r0) z0):∃ A c,∀ w z rest,OW w (os ++ rest) z→z.cell? ⟨g,1,none⟩=some (.slice A L.length c)∧Ens z A L.length L:=by
 obtain ⟨lv,kv,zs,rfl,rfl,hz⟩:=h
 obtain ⟨A,c,rfl,_⟩:=blk_ens h0
 have hl:(entsZ zs).length=zs.length:=by unfold entsZ;rw [List.length_map]
 refine ⟨A,c,fun w z rest hw=>?_⟩
 obtain ⟨A',c',hv,he⟩:=blk_ens hw
 injection hv with hA _ hc
 subst hA;subst hc
 rw [hl]
 exact ⟨hw.cell (i:=0) (j:=1) rfl rfl,he⟩
theorem all_new (g:Nat) (x:World):Calls Tryz.prog 86 #[.pointer (some ⟨g,0,none⟩)] x fun r z=>∃ b,r = .returned (.func (.func 152) #[] #[.pointer (some ⟨b,0,none⟩)])∧OW x [boxO b [.pointer (some ⟨g,0,none⟩)]] z:=by
 have HX:=Lib.hid (OW.nil x)
 go_enter Tryz.func86,Tryz.ntmps86
 go_wp2_with (refine wl_box rfl (.tmp 0) rfl [.pointer (some ⟨g,0,none⟩)] rfl HX.out ?_;intro b x1 hz _;have HX1:Hid (OW x [boxO b [.pointer (some ⟨g,0,none⟩)]] x1):=Lib.hid hz;clear hz HX)
 go_ret
 exact ⟨b,rfl,HX1.out⟩
theorem pre_at {α:Type} {L pre:List α} {e:α} (h:pre ++ [e] <+: L):L[pre.length]?=some e:=by
 obtain ⟨t,rfl⟩:=h
 rw [List.append_assoc,List.getElem?_append_right (Nat.le_refl _),Nat.sub_self];rfl
end Go.Proofs.YtfdbcfaeiglbeaaGreatDoor
namespace Go.Proofs.YtfdbcfaeiglbeaaGreatDoor
open Go.RowKit
theorem wl_skipR {P:Program} {ops:Array Oper} {Q:Exit→Act→World→Prop} {a:Act} {w:World} {rest:List Oper} {o:Oper} (hw:Region.wanted o (yielded ops a.tmps)=false) (h:wpList P ops Q rest (a.put o.dst undef) w):wpList P ops Q (o::rest) a w :=
 wpList_step fun K hK=>by rw [if_neg (by rw [hw];exact Bool.noConfusion)];exact hK _ _ h
end Go.Proofs.YtfdbcfaeiglbeaaGreatDoor
namespace Go.Proofs.YtfdbcfaeiglbeaaGreatDoor
open Go.RowKit
theorem ord_len (index:Int) (es:List Ent):(ordL index es).length≤es.length:=by
 have h:∀ (es m:List Ent),(es.foldl (ordStep index) m).length≤m.length + es.length:=by
  intro es
  induction es with
  | nil=>intro m;exact Nat.le_refl _
  | cons e es ih =>
   intro m
   have h1:=ih (ordStep index m e)
   have h2:(ordStep index m e).length≤m.length + 1:=by
    unfold ordStep
    split
    ·omega
    ·exact ins_len m e
   simp only [List.foldl_cons,List.length_cons]
   omega
 have h1:=h es []
 rw [List.length_nil,Nat.zero_add] at h1
 exact h1
def optX (o:OptR):OptR:={ optF o with index:=1099511627776 }
theorem optX_ok (o:OptR):optOk (optX o)=true:=by
 have h1:=optF_ok o
 unfold optOk sealI at h1 ⊢
 simp only [Bool.and_eq_true,decide_eq_true_eq] at h1 ⊢
 show _∧_
 refine ⟨h1.1,⟨⟨⟨⟨?_,?_⟩,h1.2.1.1.1.2⟩,h1.2.1.1.2⟩,h1.2.1.2⟩,h1.2.2⟩
 ·show (0:Int)≤1099511627776;decide
 ·show (1099511627776:Int)≤1099511627776;decide
end Go.Proofs.YtfdbcfaeiglbeaaGreatDoor
namespace Go.Proofs.YtfdbcfaeiglbeaaGreatDoor
open Go.RowKit
def rightK (fl:List UInt8) (rows:List (List UInt8)) (k:Nat):Bool:=decide (buildE ((k + 1:Nat):Int) rows=0∧buildB ((k + 1:Nat):Int) rows=fl)
theorem right_eq (r:RunR) (rows:List (List UInt8)):rightR r rows=(decide (r.filt=[]) || (List.range 20).any (rightK r.filt rows)):=rfl
theorem rightK_no {fl:List UInt8} {rows:List (List UInt8)} {k:Nat} (h:(List.range k).any (rightK fl rows)=false) (h2:rightK fl rows k=false):(List.range (k + 1)).any (rightK fl rows)=false:=by
 rw [List.range_succ,List.any_append,h];simp [h2]
theorem rightK_yes {fl:List UInt8} {rows:List (List UInt8)} {k:Nat} (hk:k < 20) (h2:rightK fl rows k=true):(List.range 20).any (rightK fl rows)=true :=
 List.any_eq_true.2 ⟨k,List.mem_range.2 hk,h2⟩
theorem BuildPost.yes {bits:Int} {ks:List (List UInt8)} {w z:World} {e:Ending} (h:BuildPost bits ks w e z) (h0:buildE bits ks=0):∃ g,e = .returned (.tuple #[.slice (some ⟨g,0,none⟩) (buildB bits ks).length (buildB bits ks).length,.int .i64 0])∧z.ownsRow w.heap.size 5 1 (.slice (some ⟨g,0,none⟩) (buildB bits ks).length (buildB bits ks).length) (buildB bits ks).length (u8s (buildB bits ks))∧Below w.heap.size w z:=by
 rcases h with ⟨_,h⟩ | ⟨h,_⟩
 ·exact h
 ·exact absurd h0 h
theorem BuildPost.no {bits:Int} {ks:List (List UInt8)} {w z:World} {e:Ending} (h:BuildPost bits ks w e z) (h0:buildE bits ks ≠ 0):e = .returned (.tuple #[.slice none 0 0,.int .i64 (buildE bits ks)])∧Below w.heap.size w z:=by
 rcases h with ⟨h,_⟩ | ⟨_,h⟩
 ·exact absurd h h0
 ·exact h
set_option maxRecDepth 1000000 in
set_option maxHeartbeats 4000000 in
theorem right_any (q:RunRec) (w:World) (h:RunAt q w) (rows:List (List UInt8)) (A:Option Addr) (n c:Nat) (hr:RBs w w.heap.size A n rows) (hn:n≤9223372036854775807) :
  Calls Tryz.prog 88 #[.pointer (some ⟨q.g,0,none⟩),.slice A n c] w fun e z=>e = .returned (.bool (rightR q.r rows))∧Below w.heap.size w z:=by
 have HC10:Hid (∀ z,Below w.heap.size w z→z.cell? ⟨q.g,10,none⟩=some (.slice (some ⟨q.gb,q.ff,none⟩) q.r.filt.length (q.cb - q.ff))):=Lib.hid fun z hz=>(h.later hz).cell rfl
 have HSF:Hid (∀ z,Below w.heap.size w z→Sl z (some ⟨q.gb,q.ff,none⟩) q.r.filt.length (q.cb - q.ff) q.r.filt):=Lib.hid fun z hz=>(h.later hz).filtS
 have HR:Hid (∀ z,Below w.heap.size w z→RBs z z.heap.size A n rows):=Lib.hid fun z hz=>hr.later hz
 have HRR:=Lib.hid (right_eq q.r rows)
 obtain ⟨fl,hfl⟩:∃ x,x=q.r.filt:=⟨_,rfl⟩
 rw [← hfl] at HC10 HSF HRR
 clear h hr hfl
 go_enter Tryz.func88,Tryz.ntmps88
 by_cases h0:fl=[]
 case pos =>
  have d1:((fl.length:Int) == 0)=true:=by rw [h0];rfl
  have d2:(fl.length == 0)=true:=by rw [h0];rfl
  have HT:Hid (rightR q.r rows=true):=Lib.hid (by rw [HRR.out,h0];rfl)
  clear h0
  go_wp2_with (refine wpList_load_cell rfl 34 (.tmp 10) rfl rfl (HC10.out _ (Below.refl _ _)) Tryz.isAgg34 ?_)
  go_ret
  exact ⟨congrArg (fun b:Bool=>Ending.returned (.bool b)) HT.out.symm,Below.refl _ _⟩
 have hl0:fl.length ≠ 0:=fun hh=>h0 (List.eq_nil_of_length_eq_zero hh)
 have d1:((fl.length:Int) == 0)=false:=beq_eq_false_iff_ne.2 (by omega)
 have d2:(fl.length == 0)=false:=beq_eq_false_iff_ne.2 hl0
 have HRA:Hid (rightR q.r rows=(List.range 20).any (rightK fl rows)):=Lib.hid (by rw [HRR.out,decide_eq_false h0];rfl)
 clear h0 hl0
 go_wp2_with (refine wpList_load_cell rfl 34 (.tmp 10) rfl rfl (HC10.out _ (Below.refl _ _)) Tryz.isAgg34 ?_)
 go_loopw [5,6,7] (fun bv _ _ wr=>∃ k:Nat,k≤20∧bv = .int .i64 ((k:Int) + 1)∧Hid ((List.range k).any (rightK fl rows)=false)∧Hid (Below w.heap.size w wr)) (fun bv _ _ _=>21 - (intOf bv).toNat)
 case atStart=>exact ⟨0,by omega,rfl,Lib.hid rfl,Lib.hid (Below.refl _ _)⟩
 case round =>
  obtain ⟨k,hk,rfl,HNO,HUP⟩:=hrel
  by_cases hlt:k < 20
  case neg =>
   have hd:decide ((k:Int) + 1≤20)=false:=decide_eq_false (by omega)
   have hd2:decide (k + 1≤20)=false:=decide_eq_false (by omega)
   have HF:Hid (rightR q.r rows=false):=Lib.hid (by rw [HRA.out,← show k=20 by omega];exact HNO.out)
   go_wp2_with fail
   go_ret
   exact ⟨congrArg (fun b:Bool=>Ending.returned (.bool b)) HF.out.symm,HUP.out⟩
  have hd:decide ((k:Int) + 1≤20)=true:=decide_eq_true (by omega)
  obtain ⟨ev,hev⟩:∃ x,buildE ((k:Int) + 1) rows=x:=⟨_,rfl⟩
  have HEV:=Lib.hid hev
  by_cases hE:ev=0
  case neg =>
   have HE0:Hid (buildE ((k:Int) + 1) rows ≠ 0):=Lib.hid (by rw [hev];exact hE)
   have e1:((ev:Int) == 0)=false:=beq_eq_false_iff_ne.2 (by omega)
   have HKN:Hid (rightK fl rows k=false):=Lib.hid (decide_eq_false fun hh=>HE0.out hh.1)
   have e2:decide (ev=0)=false:=decide_eq_false hE
   clear hev
   go_wp2_with (first
    | (go_at_call 114;go_must (refine (bf_build_any ((k:Int) + 1) rows A n c _ hn (HR.out _ HUP.out)).mono ?_);rintro e x1 hp;obtain ⟨rfl,hb⟩:=hp.no HE0.out;rw [HEV.out];have HU1:Hid (Below w.heap.size w x1):=Lib.hid (HUP.out.trans (hb.mono HUP.out.size));clear hp hb)
    | ((guard_target =~ wpList _ _ _ ({ dst:=_,op:=_,type:=_,pos:=_,after:=_,guard:=some _ }::_) _ _);(with_reducible refine wl_skipR ?hw ?_);(case hw=>kernel_rfl)))
   go_roundw
   case rel=>exact ⟨k + 1,by omega,by go_num,Lib.hid (rightK_no HNO.out HKN.out),HU1⟩
   case measure=>simp [intOf];omega
  subst hE
  have HE0:Hid (buildE ((k:Int) + 1) rows=0):=Lib.hid hev
  obtain ⟨B,hB⟩:∃ x,buildB ((k:Int) + 1) rows=x:=⟨_,rfl⟩
  have HB:=Lib.hid hB
  obtain ⟨bq,hbq⟩:∃ x,(B == fl)=x:=⟨_,rfl⟩
  have HBQ:=Lib.hid hbq
  have HKB:Hid (rightK fl rows k=bq):=Lib.hid (by
   have h1:buildE ((k + 1:Nat):Int) rows=0:=HE0.out
   have h2:buildB ((k + 1:Nat):Int) rows=B:=hB
   unfold rightK
   rw [h1,h2,← hbq]
   by_cases hh:B=fl <;> simp [hh])
  clear hev hB hbq
  go_upto_region 7 with (first
   | (go_at_call 114;go_must (refine (bf_build_any ((k:Int) + 1) rows A n c _ hn (HR.out _ HUP.out)).mono ?_);rintro e x1 hp;obtain ⟨gf,rfl,ho,hb⟩:=hp.yes HE0.out;rw [HB.out] at ho ⊢;have HX1:Hid (OW wr [bytO 5 (some ⟨gf,0,none⟩,B.length,B)] x1):=Lib.hid (OW.byt1 hb ho);have HU1:Hid (Below w.heap.size w x1):=Lib.hid (HUP.out.trans (hb.mono HUP.out.size));clear hp ho hb))
  cases bq with
  | true =>
   have HT:Hid (rightR q.r rows=true):=Lib.hid (by rw [HRA.out];exact rightK_yes hlt HKB.out)
   go_wp2_with (first
    | (refine wpList_load_cell rfl 34 (.tmp 30) rfl rfl (HC10.out _ HU1.out) Tryz.isAgg34 ?_)
    | (go_at_call 87;go_must (refine (equal_any B fl (some ⟨gf,0,none⟩) (some ⟨q.gb,q.ff,none⟩) B.length B.length fl.length (q.cb - q.ff) _ (HX1.out.sl (i:=0) rfl rfl).rb (HSF.out _ HU1.out).rb).mono ?_);rw [HBQ.out];rintro e y2 ⟨rfl,rfl⟩))
   go_ret
   exact ⟨congrArg (fun b:Bool=>Ending.returned (.bool b)) HT.out.symm,HU1.out⟩
  | false =>
   go_wp2_with (first
    | (refine wpList_load_cell rfl 34 (.tmp 30) rfl rfl (HC10.out _ HU1.out) Tryz.isAgg34 ?_)
    | (go_at_call 87;go_must (refine (equal_any B fl (some ⟨gf,0,none⟩) (some ⟨q.gb,q.ff,none⟩) B.length B.length fl.length (q.cb - q.ff) _ (HX1.out.sl (i:=0) rfl rfl).rb (HSF.out _ HU1.out).rb).mono ?_);rw [HBQ.out];rintro e y2 ⟨rfl,rfl⟩))
   go_roundw
   case rel=>exact ⟨k + 1,by omega,by go_num,Lib.hid (rightK_no HNO.out HKB.out),HU1⟩
   case measure=>simp [intOf];omega
end Go.Proofs.YtfdbcfaeiglbeaaGreatDoor
namespace Go.Proofs.YtfdbcfaeiglbeaaGreatDoor
open Go.RowKit
def flipU (x:UInt8) (t:Nat):UInt8:=UInt8.ofNat (x.toNat ^^^ 2 ^ t)
def flipB (l:List UInt8) (z:Int):List UInt8:=if 0≤z∧z < 8 * (l.length:Int) then l.set (z.toNat / 8) (flipU (l[z.toNat / 8]?.getD 0) (z.toNat % 8)) else l
def flipsB (l:List UInt8) (zs:List Int):List UInt8:=zs.foldl flipB l
theorem flipB_length (l:List UInt8) (z:Int):(flipB l z).length=l.length:=by unfold flipB;split <;> simp
theorem flipsB_length (zs:List Int):∀ l:List UInt8,(flipsB l zs).length=l.length:=by
 induction zs with
 | nil=>intro l;rfl
 | cons z zs ih=>intro l;exact (ih (flipB l z)).trans (flipB_length l z)
theorem flipsB_snoc (l:List UInt8) (zs:List Int) (z:Int):flipsB l (zs ++ [z])=flipB (flipsB l zs) z:=by simp [flipsB,List.foldl_append]
theorem pow8_lt {t:Nat} (h:t < 8):2 ^ t < 256:=by
 have:2 ^ t≤2 ^ 7:=Nat.pow_le_pow_right (by decide) (by omega)
 omega
theorem mod256_small (q:Nat) (h:q < 256):(q:Int) % 256=(q:Int):=by omega
theorem flip_walk (x:UInt8) (t:Nat) (ht:t < 8):bits .xor .u8 (x.toNat:Int) ((2:Int) ^ t % 256)=(((flipU x t).toNat:Nat):Int):=by
 have hx:=x.toNat_lt
 have h2:=pow8_lt ht
 have e:(2:Int) ^ t % 256=((2 ^ t:Nat):Int):=by
  rw [show (2:Int) ^ t=((2 ^ t:Nat):Int) from by rw [Int.natCast_pow];rfl]
  exact mod256_small _ h2
 have hb:x.toNat ^^^ 2 ^ t < 256:=Nat.xor_lt_two_pow (n:=8) (by omega) (by omega)
 rw [e,u8_xor_nat _ _ (by omega) h2]
 unfold flipU
 rw [UInt8.toNat_ofNat',Nat.mod_eq_of_lt hb]
end Go.Proofs.YtfdbcfaeiglbeaaGreatDoor
namespace Go.Proofs.YtfdbcfaeiglbeaaGreatDoor
open Go.RowKit
theorem crcL_xor (q:List UInt8):∀ u v:Nat,crcL (u ^^^ v) q=crcL u q ^^^ rIter (8 * q.length) v:=by
 induction q with
 | nil=>intro u v;rfl
 | cons x q ih =>
  intro u v
  show crcL (crcB (u ^^^ v) x) q=crcL (crcB u x) q ^^^ _
  have e:crcB (u ^^^ v) x=crcB u x ^^^ rIter 8 v:=by
   unfold crcB
   rw [← rIter_xor]
   congr 1
   ac_rfl
  rw [e,ih,List.length_cons,show 8 * (q.length + 1)=8 + 8 * q.length from by omega,rIter_add]
theorem rIter_pow (t:Nat):∀ k,rIter t (2 ^ (t + k))=2 ^ k:=by
 induction t with
 | zero=>intro k;rw [Nat.zero_add];rfl
 | succ t ih =>
  intro k
  show rIter t (rStep (2 ^ (t + 1 + k)))=_
  rw [show t + 1 + k=(t + k) + 1 from by omega,Nat.pow_succ,Nat.mul_comm,rStep_even,ih]
theorem flipU_nat (x:UInt8) (t:Nat) (ht:t < 8):(flipU x t).toNat=x.toNat ^^^ 2 ^ t:=by
 unfold flipU
 have hb:x.toNat ^^^ 2 ^ t < 256:=Nat.xor_lt_two_pow (n:=8) x.toNat_lt (pow8_lt ht)
 rw [UInt8.toNat_ofNat',Nat.mod_eq_of_lt hb]
theorem crcB_flip (c:Nat) (x:UInt8) (t:Nat) (ht:t < 8):crcB c (flipU x t)=crcB c x ^^^ rIter (8 - t) 1:=by
 unfold crcB
 rw [flipU_nat x t ht,← Nat.xor_assoc,rIter_xor]
 congr 1
 have h:=rIter_pow t 0
 rw [Nat.add_zero,Nat.pow_zero] at h
 rw [show (8:Nat)=t + (8 - t) from by omega,rIter_add,h]
 rw [show t + (8 - t) - t=8 - t from by omega]
def dl (n:Nat) (z:Int):Nat:=if 0≤z∧z < 8 * (n:Int) then rIter (8 * n - z.toNat) 1 else 0
theorem crcL_flip (c:Nat) (l:List UInt8) (z:Int):crcL c (flipB l z)=crcL c l ^^^ dl l.length z:=by
 unfold flipB dl
 by_cases h:0≤z∧z < 8 * (l.length:Int)
 ·rw [if_pos h,if_pos h]
  obtain ⟨Z,rfl⟩:∃ Z:Nat,z=(Z:Int):=⟨z.toNat,by omega⟩
  rw [Int.toNat_natCast]
  have hD:Z / 8 < l.length:=by omega
  have e1:l=l.take (Z / 8) ++ (l[Z / 8]'hD::l.drop (Z / 8 + 1)):=by
   rw [← List.drop_eq_getElem_cons hD,List.take_append_drop]
  have e2:l.set (Z / 8) (flipU (l[Z / 8]?.getD 0) (Z % 8))=l.take (Z / 8) ++ (flipU (l[Z / 8]'hD) (Z % 8)::l.drop (Z / 8 + 1)):=by
   rw [List.getElem?_eq_getElem hD,List.set_eq_take_append_cons_drop,if_pos hD];rfl
  rw [e2]
  conv=>rhs;arg 1;rw [e1]
  rw [crcL_app,crcL_app]
  show crcL (crcB _ (flipU _ _)) _=crcL (crcB _ _) _ ^^^ _
  rw [crcB_flip _ _ _ (by omega),crcL_xor,← rIter_add,List.length_drop]
  congr 2
  omega
 ·rw [if_neg h,if_neg h,Nat.xor_zero]
def dls (n:Nat) (zs:List Int):Nat:=zs.foldl (fun a z=>a ^^^ dl n z) 0
theorem foldl_xor_from (zs:List Int) (f:Int→Nat):∀ a:Nat,zs.foldl (fun a z=>a ^^^ f z) a=a ^^^ zs.foldl (fun a z=>a ^^^ f z) 0:=by
 induction zs with
 | nil=>intro a;simp
 | cons z zs ih=>intro a;rw [List.foldl_cons,List.foldl_cons,ih,ih (0 ^^^ f z),Nat.zero_xor,Nat.xor_assoc]
theorem crcL_flips (zs:List Int):∀ (c:Nat) (l:List UInt8),crcL c (flipsB l zs)=crcL c l ^^^ dls l.length zs:=by
 induction zs with
 | nil=>intro c l;show crcL c l=_ ^^^ 0;rw [Nat.xor_zero]
 | cons z zs ih =>
  intro c l
  show crcL c (flipsB (flipB l z) zs)=_
  rw [ih,crcL_flip,flipB_length]
  show _=crcL c l ^^^ (z::zs).foldl (fun a z=>a ^^^ dl l.length z) 0
  rw [List.foldl_cons,foldl_xor_from,Nat.zero_xor,← Nat.xor_assoc];rfl
theorem rIter_256 (s:Nat):rIter 8 (s * 256)=s:=by
 show rStep (rStep (rStep (rStep (rStep (rStep (rStep (rStep (s * 256))))))))=s
 rw [show s * 256=2 * (2 * (2 * (2 * (2 * (2 * (2 * (2 * s))))))) from by omega,rStep_even,rStep_even,rStep_even,rStep_even,rStep_even,rStep_even,rStep_even,rStep_even]
theorem crcB_low (v s:Nat):rIter 8 (v ^^^ s)=crcB v (UInt8.ofNat s) ^^^ (s / 256):=by
 have e:s=(s % 256) ^^^ (s / 256 * 256):=by
  have h:=Nat.shiftLeft_add_eq_or_of_lt (a:=s / 256) (b:=s % 256) (i:=8) (by omega)
  apply Nat.eq_of_testBit_eq
  intro j
  rw [Nat.testBit_xor,show s / 256 * 256=(s / 256) <<< 8 from by rw [Nat.shiftLeft_eq],Nat.testBit_shiftLeft,show (256:Nat)=2 ^ 8 from rfl,Nat.testBit_mod_two_pow,Nat.testBit_div_two_pow]
  by_cases hj:8≤j
  ·have h1:¬ j < 8:=by omega
   simp [hj,h1]
  ·have:j < 8:=by omega
   simp [hj,this]
 conv=>lhs;rw [e]
 rw [← Nat.xor_assoc,rIter_xor,rIter_256]
 unfold crcB
 rw [UInt8.toNat_ofNat']
theorem crcL_lowB (v s:Nat) (hs:s < 4294967296):crcL v (lowB s)=rIter 32 (v ^^^ s):=by
 have h1:=crcB_low v s
 have h2:=crcB_low (crcB v (UInt8.ofNat s)) (s / 256)
 have h3:=crcB_low (crcB (crcB v (UInt8.ofNat s)) (UInt8.ofNat (s / 256))) (s / 65536)
 have h4:=crcB_low (crcB (crcB (crcB v (UInt8.ofNat s)) (UInt8.ofNat (s / 256))) (UInt8.ofNat (s / 65536))) (s / 16777216)
 rw [show s / 256 / 256=s / 65536 from by omega] at h2
 rw [show s / 65536 / 256=s / 16777216 from by omega] at h3
 rw [show s / 16777216 / 256=0 from by omega,Nat.xor_zero] at h4
 show crcB (crcB (crcB (crcB v (UInt8.ofNat s)) (UInt8.ofNat (s / 256))) (UInt8.ofNat (s / 65536))) (UInt8.ofNat (s / 16777216))=_
 rw [show (32:Nat)=8 + (8 + (8 + 8)) from rfl,rIter_add,h1,rIter_add,h2,rIter_add,h3,h4]
theorem sum_xor (l:List UInt8):crcL 4294967295 l ^^^ sumL l=4294967295:=by
 have hc:=crcL_lt l (c:=4294967295) (by omega)
 have e:sumL l=4294967295 ^^^ crcL 4294967295 l:=by
  have h:=not_u32 hc
  have h2:bits .xor .u32 IntKind.u32.max (crcL 4294967295 l:Int)=((4294967295 ^^^ crcL 4294967295 l:Nat):Int):=u32_xor_nat 4294967295 _ (by omega) hc
  rw [h2] at h
  unfold sumL
  omega
 rw [e,← Nat.xor_assoc,Nat.xor_comm (crcL 4294967295 l),Nat.xor_assoc,Nat.xor_self,Nat.xor_zero]
theorem seg_rest (D:List UInt8):crcL 4294967295 (D ++ lowB (sumL D))=rIter 32 4294967295:=by
 rw [crcL_app,crcL_lowB _ _ (sumL_lt D),sum_xor]
theorem seg_told (D:List UInt8) (X:List UInt8) (zs:List Int) (hX:X=flipsB (D ++ lowB (sumL D)) zs) (h:dls (D.length + 4) zs ≠ 0):X.drop D.length ≠ lowB (sumL (X.take D.length)):=by
 intro e
 have h1:X=X.take D.length ++ lowB (sumL (X.take D.length)):=by rw [← e,List.take_append_drop]
 have h2:=seg_rest (X.take D.length)
 rw [← h1,hX,crcL_flips,seg_rest] at h2
 have hl:(D ++ lowB (sumL D)).length=D.length + 4:=by rw [List.length_append];rfl
 rw [hl] at h2
 apply h
 apply Nat.eq_of_testBit_eq
 intro i
 have h3:=congrArg (fun z=>z.testBit i) h2
 simp only [Nat.testBit_xor] at h3
 rw [Nat.zero_testBit]
 revert h3
 cases (rIter 32 4294967295).testBit i <;> cases (dls (D.length + 4) zs).testBit i <;> simp
theorem flipU_two (x:UInt8) (t:Nat) (ht:t < 8):flipU (flipU x t) t=x:=by
 apply UInt8.toNat_inj.1
 rw [flipU_nat _ t ht,flipU_nat _ t ht,Nat.xor_assoc,Nat.xor_self,Nat.xor_zero]
theorem flipB_two (l:List UInt8) (z:Int):flipB (flipB l z) z=l:=by
 unfold flipB
 by_cases h:0≤z∧z < 8 * (l.length:Int)
 ·rw [if_pos h,List.length_set,if_pos h]
  have hD:z.toNat / 8 < l.length:=by omega
  rw [List.getElem?_set_self hD,List.set_set]
  simp only [Option.getD_some]
  rw [flipU_two _ _ (by omega),List.getElem?_eq_getElem hD]
  simp
 ·rw [if_neg h,if_neg h]
theorem flipB_out {l:List UInt8} {z:Int} (h:¬(0≤z∧z < 8 * (l.length:Int))):flipB l z=l:=by unfold flipB;rw [if_neg h]
theorem three_told (l:List UInt8) (i j k:Int) (hn:l.length≤268435455) (h:flipsB l [i,j,k] ≠ l):dls l.length [i,j,k] ≠ 0:=by
 have e:dls l.length [i,j,k]=dl l.length i ^^^ dl l.length j ^^^ dl l.length k:=by
  show ((0 ^^^ dl l.length i) ^^^ dl l.length j) ^^^ dl l.length k=_
  rw [Nat.zero_xor]
 rw [e]
 have hf:flipsB l [i,j,k]=flipB (flipB (flipB l i) j) k:=rfl
 rw [hf] at h
 have two:∀ a b:Int,0≤a∧a < 8 * (l.length:Int)→0≤b∧b < 8 * (l.length:Int)→a ≠ b→rIter (8 * l.length - a.toNat) 1 ^^^ rIter (8 * l.length - b.toNat) 1 ≠ 0:=by
  intro a b ha hb hab
  rcases Nat.lt_or_ge (8 * l.length - a.toNat) (8 * l.length - b.toNat) with hlt | hge
  ·exact two_no hlt (by omega)
  ·rw [Nat.xor_comm]
   exact two_no (by omega) (by omega)
 unfold dl
 by_cases hi:0≤i∧i < 8 * (l.length:Int)
 ·by_cases hj:0≤j∧j < 8 * (l.length:Int)
  ·by_cases hk:0≤k∧k < 8 * (l.length:Int)
   ·rw [if_pos hi,if_pos hj,if_pos hk]
    exact three_no _ _ _
   ·rw [if_pos hi,if_pos hj,if_neg hk,Nat.xor_zero]
    refine two i j hi hj fun hij=>h ?_
    subst hij
    rw [flipB_two,flipB_out hk]
  ·by_cases hk:0≤k∧k < 8 * (l.length:Int)
   ·rw [if_pos hi,if_neg hj,if_pos hk,Nat.xor_zero]
    refine two i k hi hk fun hik=>h ?_
    subst hik
    rw [flipB_out (l:=flipB l i) (z:=j) (by rw [flipB_length];exact hj),flipB_two]
   ·rw [if_pos hi,if_neg hj,if_neg hk,Nat.xor_zero,Nat.xor_zero]
    exact one_no _
 ·by_cases hj:0≤j∧j < 8 * (l.length:Int)
  ·by_cases hk:0≤k∧k < 8 * (l.length:Int)
   ·rw [if_neg hi,if_pos hj,if_pos hk,Nat.zero_xor]
    refine two j k hj hk fun hjk=>h ?_
    subst hjk
    rw [flipB_out hi,flipB_two]
   ·rw [if_neg hi,if_pos hj,if_neg hk,Nat.zero_xor,Nat.xor_zero]
    exact one_no _
  ·by_cases hk:0≤k∧k < 8 * (l.length:Int)
   ·rw [if_neg hi,if_neg hj,if_pos hk,Nat.zero_xor,Nat.zero_xor]
    exact one_no _
   ·exact absurd (by rw [flipB_out hi,flipB_out hj,flipB_out hk]) h
theorem flipB_take (l:List UInt8) (z:Int) (m:Nat) (hm:m≤l.length):(flipB l z).take m=flipB (l.take m) z:=by
 unfold flipB
 rw [List.length_take,Nat.min_eq_left hm]
 by_cases h:0≤z∧z < 8 * (l.length:Int)
 ·rw [if_pos h]
  by_cases h2:0≤z∧z < 8 * (m:Int)
  ·rw [if_pos h2,List.take_set,List.getElem?_take,if_pos (by omega)]
  ·rw [if_neg h2,List.take_set,List.set_eq_of_length_le (by rw [List.length_take];omega)]
 ·rw [if_neg h,if_neg (by omega)]
theorem flipB_drop (l:List UInt8) (z:Int) (m:Nat) (hm:m≤l.length):(flipB l z).drop m=flipB (l.drop m) (z - 8 * m):=by
 unfold flipB
 rw [List.length_drop]
 by_cases h:0≤z∧z < 8 * (l.length:Int)
 ·rw [if_pos h]
  by_cases h2:0≤z - 8 * m∧z - 8 * m < 8 * ((l.length - m:Nat):Int)
  ·have e1:(z - 8 * m).toNat / 8=z.toNat / 8 - m:=by omega
   have e2:(z - 8 * m).toNat % 8=z.toNat % 8:=by omega
   rw [if_pos h2,List.drop_set,if_neg (by omega),e1,e2,List.getElem?_drop,show m + (z.toNat / 8 - m)=z.toNat / 8 from by omega]
  ·rw [if_neg h2,List.drop_set,if_pos (by omega)]
 ·rw [if_neg h,if_neg (by omega)]
theorem flipsB_take (zs:List Int) (m:Nat):∀ l:List UInt8,m≤l.length→(flipsB l zs).take m=flipsB (l.take m) zs:=by
 induction zs with
 | nil=>intro l _;rfl
 | cons z zs ih =>
  intro l hm
  show (flipsB (flipB l z) zs).take m=flipsB (flipB (l.take m) z) zs
  rw [ih _ (by rw [flipB_length];exact hm),flipB_take l z m hm]
theorem flipsB_drop (zs:List Int) (m:Nat):∀ l:List UInt8,m≤l.length→(flipsB l zs).drop m=flipsB (l.drop m) (zs.map fun z:Int=>z - 8 * (m:Int)):=by
 induction zs with
 | nil=>intro l _;rfl
 | cons z zs ih =>
  intro l hm
  show (flipsB (flipB l z) zs).drop m=flipsB (flipB (l.drop m) (z - 8 * m)) (zs.map fun z:Int=>z - 8 * (m:Int))
  rw [ih _ (by rw [flipB_length];exact hm),flipB_drop l z m hm]
theorem be4_numF (n:Nat) (h:n < 4294967296) (r:List UInt8):numF (be4 n ++ r) 0=n:=by
 unfold numF be4 numB
 simp only [List.cons_append,List.nil_append,List.getElem?_cons_succ,List.getElem?_cons_zero,Option.getD_some,UInt8.toNat_ofNat',Nat.zero_add]
 omega
theorem cutF_app (l r:List UInt8) (k m:Nat) (h:k + m≤l.length):cutF (l ++ r) k m=cutF l k m:=by
 unfold cutF
 rw [List.drop_append_of_le_length (by omega),List.take_append_of_le_length (by rw [List.length_drop];omega)]
theorem isB_cut4 (l:List UInt8) (k s:Nat):isB l k s=(cutF l k 4 == lowB s):=rfl
theorem numF_app (l r:List UInt8) (k:Nat) (h:k + 4≤l.length):numF (l ++ r) k=numF l k:=by
 unfold numF
 rw [List.getElem?_append_left (by omega),List.getElem?_append_left (by omega),List.getElem?_append_left (by omega),List.getElem?_append_left (by omega)]
theorem numF_take (l:List UInt8):numF (l.take 8) 0=numF l 0:=by
 unfold numF
 rw [List.getElem?_take,List.getElem?_take,List.getElem?_take,List.getElem?_take,if_pos (by decide),if_pos (by decide),if_pos (by decide),if_pos (by decide)]
theorem frameB_take8 (l:List UInt8):(frameB l).take 8=headF l.length:=by
 unfold frameB
 rw [List.append_assoc,List.take_append_of_le_length (by simp [headF,be4,lowB])]
 exact List.take_of_length_le (by simp [headF,be4,lowB])
theorem frameB_drop8 (l:List UInt8):(frameB l).drop 8=l ++ lowB (sumL l):=by
 unfold frameB
 rw [List.append_assoc]
 exact List.drop_left' (by simp [headF,be4,lowB])
theorem frame_told (l:List UInt8) (zs:List Int) (r:List UInt8) (hl:l.length≤1048576) (hne:flipsB (frameB l) zs ≠ frameB l)
  (hh:∀ (D:List UInt8) (ys:List Int),D.length≤1048580→(ys=zs∨ys=zs.map fun z:Int=>z - 8 * ((8:Nat):Int))→flipsB D ys ≠ D→dls D.length ys ≠ 0) :
  readFA (flipsB (frameB l) zs ++ r) 0=([],0,12):=by
 obtain ⟨X,hX⟩:∃ X,X=flipsB (frameB l) zs:=⟨_,rfl⟩
 have hXl:X.length=l.length + 12:=by rw [hX,flipsB_length,frameB_length]
 have h8:X.take 8=flipsB (headF l.length) zs:=by rw [hX,flipsB_take _ 8 _ (by rw [frameB_length];omega),frameB_take8]
 have h9:X.drop 8=flipsB (l ++ lowB (sumL l)) (zs.map fun z:Int=>z - 8 * ((8:Nat):Int)):=by rw [hX,flipsB_drop _ 8 _ (by rw [frameB_length];omega),frameB_drop8]
 rw [← hX] at hne ⊢
 unfold readFA
 rw [if_neg (by omega)]
 show readF (X ++ r) 0=_
 unfold readF
 rw [if_neg (by rw [List.length_append];omega),cutF_app X r 0 4 (by omega),isB_cut4,cutF_app X r (0 + 4) 4 (by omega)]
 have hc4:cutF X 0 4=(X.take 8).take 4:=by unfold cutF;rw [List.drop_zero,List.take_take];rfl
 have hc8:cutF X (0 + 4) 4=(X.take 8).drop 4:=by unfold cutF;rw [List.drop_take]
 rw [hc4,hc8]
 by_cases hA:X.take 8=headF l.length
 ·have hok:((X.take 8).drop 4 == lowB (sumL ((X.take 8).take 4)))=true:=by
   rw [hA]
   unfold headF
   rw [List.drop_left' (by simp [be4]),List.take_left' (by simp [be4])]
   simp
  rw [if_neg (by rw [hok];decide)]
  have hnum:numF (X ++ r) 0=l.length:=by
   rw [numF_app X r 0 (by omega),← numF_take,hA]
   exact be4_numF _ (by omega) _
  rw [hnum,if_neg (by omega),if_neg (by rw [List.length_append];omega),isB_cut4,cutF_app X r (0 + 8) l.length (by omega),cutF_app X r (0 + 8 + l.length) 4 (by omega)]
  have hne2:X.drop 8 ≠ l ++ lowB (sumL l):=by
   intro e
   apply hne
   rw [← List.take_append_drop 8 X,hA,e,← frameB_take8,← frameB_drop8,List.take_append_drop]
  have hd:dls (l.length + 4) (zs.map fun z:Int=>z - 8 * ((8:Nat):Int)) ≠ 0:=by
   have e:(l ++ lowB (sumL l)).length=l.length + 4:=by rw [List.length_append];rfl
   rw [← e]
   exact hh _ _ (by rw [e];omega) (.inr rfl) (by rw [← h9];exact hne2)
  have ht:=seg_told l (X.drop 8) _ h9 hd
  have c1:cutF X (0 + 8 + l.length) 4=(X.drop 8).drop l.length:=by
   unfold cutF
   rw [List.drop_drop,Nat.zero_add]
   exact List.take_of_length_le (by rw [List.length_drop];omega)
  have c2:cutF X (0 + 8) l.length=(X.drop 8).take l.length:=rfl
  rw [c1,c2,if_pos (by simpa using ht)]
 ·have hd:dls (4 + 4) zs ≠ 0:=by
   have e:(headF l.length).length=4 + 4:=rfl
   rw [← e]
   exact hh _ _ (by rw [e];omega) (.inl rfl) (by rw [← h8];exact hA)
  have ht:=seg_told (be4 l.length) (X.take 8) zs h8 hd
  have e4:(be4 l.length).length=4:=rfl
  rw [e4] at ht
  rw [if_pos (by simpa using ht)]
end Go.Proofs.YtfdbcfaeiglbeaaGreatDoor
namespace Go.Proofs.YtfdbcfaeiglbeaaGreatDoor
open Go.RowKit
theorem dls_cons (n:Nat) (z:Int) (zs:List Int):dls n (z::zs)=dl n z ^^^ dls n zs:=by
 show (z::zs).foldl (fun a z=>a ^^^ dl n z) 0=_
 rw [List.foldl_cons,foldl_xor_from,Nat.zero_xor];rfl
theorem flipsB_out (zs:List Int):∀ l:List UInt8,(∀ z ∈ zs,¬(0≤z∧z < 8 * (l.length:Int)))→flipsB l zs=l:=by
 induction zs with
 | nil=>intro l _;rfl
 | cons z zs ih =>
  intro l h
  show flipsB (flipB l z) zs=l
  rw [flipB_out (h z (by simp))]
  exact ih l fun y hy=>h y (by simp [hy])
theorem burst_sum (n b:Nat) (hb:b≤8 * n):∀ ys:List Int,ys.Nodup→(∀ z ∈ ys,0≤z∧z < 8 * (n:Int)→(b:Int)≤z∧z < (b:Int) + 32) →
  ∃ Q:Nat,Q < 4294967296∧dls n ys=rIter (8 * n - b) Q∧∀ t:Nat,Q.testBit t=true↔(((b:Int) + (t:Int)) ∈ ys∧b + t < 8 * n):=by
 intro ys
 induction ys with
 | nil=>intro _ _;exact ⟨0,by decide,(rIter_zero _).symm,fun t=>by simp⟩
 | cons z ys ih =>
  intro hnd hw
  have hnd:=List.nodup_cons.1 hnd
  obtain ⟨Q,hQ,hd,hbit⟩:=ih hnd.2 fun y hy=>hw y (by simp [hy])
  rw [dls_cons,hd]
  by_cases hin:0≤z∧z < 8 * (n:Int)
  ·obtain ⟨h1,h2⟩:=hw z (by simp) hin
   obtain ⟨s,rfl⟩:∃ s:Nat,z=(b:Int) + (s:Int):=⟨(z - b).toNat,by omega⟩
   have hs:s < 32:=by omega
   have e:dl n ((b:Int) + (s:Int))=rIter (8 * n - b) (2 ^ s):=by
    unfold dl
    rw [if_pos hin,show ((b:Int) + (s:Int)).toNat=b + s from by omega]
    have h3:=rIter_pow s 0
    rw [Nat.add_zero,Nat.pow_zero] at h3
    rw [show 8 * n - b=s + (8 * n - (b + s)) from by omega,rIter_add,h3]
   have hp:2 ^ s < 4294967296:=by
    have:2 ^ s < 2 ^ 32:=Nat.pow_lt_pow_right (by decide) hs
    omega
   refine ⟨2 ^ s ^^^ Q,Nat.xor_lt_two_pow (n:=32) hp hQ,by rw [e,rIter_xor],fun t=>?_⟩
   rw [Nat.testBit_xor,Nat.testBit_two_pow]
   by_cases hst:s=t
   ·subst hst
    have hq:Q.testBit s=false:=by
     cases hq:Q.testBit s
     ·rfl
     ·exact absurd ((hbit s).1 hq).1 hnd.1
    rw [hq]
    simp;omega
   ·have hne:((b:Int) + (t:Int)) ≠ (b:Int) + (s:Int):=by omega
    rw [show decide (s=t)=false from decide_eq_false hst,Bool.false_xor,hbit t]
    simp [hne]
  ·have e:dl n z=0:=by unfold dl;rw [if_neg hin]
   refine ⟨Q,hQ,by rw [e,Nat.zero_xor],fun t=>?_⟩
   rw [hbit t]
   constructor
   ·exact fun ⟨h1,h2⟩=>⟨by simp [h1],h2⟩
   ·rintro ⟨h1,h2⟩
    rcases List.mem_cons.1 h1 with h3 | h3
    ·exact absurd (by rw [← h3];omega) hin
    ·exact ⟨h3,h2⟩
theorem burst_told (l:List UInt8) (b:Nat) (ys:List Int) (hnd:ys.Nodup) (hw:∀ z ∈ ys,0≤z∧z < 8 * (l.length:Int)→(b:Int)≤z∧z < (b:Int) + 32) (h:flipsB l ys ≠ l):dls l.length ys ≠ 0:=by
 obtain ⟨z,hz,hin⟩:∃ z ∈ ys,0≤z∧z < 8 * (l.length:Int):=by
  rcases Classical.em (∃ z ∈ ys,0≤z∧z < 8 * (l.length:Int)) with h' | h'
  ·exact h'
  ·exact absurd (flipsB_out ys l fun z hz hc=>h' ⟨z,hz,hc⟩) h
 obtain ⟨h1,h2⟩:=hw z hz hin
 obtain ⟨Q,hQ,hd,hbit⟩:=burst_sum l.length b (by omega) ys hnd hw
 obtain ⟨s,rfl⟩:∃ s:Nat,z=(b:Int) + (s:Int):=⟨(z - b).toNat,by omega⟩
 rw [hd]
 intro h0
 have h3:=rIter_eq_zero _ hQ h0
 have h4:=(hbit s).2 ⟨hz,by omega⟩
 rw [h3] at h4
 simp at h4
def bz (a hi P k:Nat):List Int:=((List.range k).filter fun i=>decide (a + i < hi) && P.testBit i).map fun i=>((a + i:Nat):Int)
theorem bz_succ (a hi P k:Nat):bz a hi P (k + 1)=bz a hi P k ++ if a + k < hi∧P.testBit k=true then [((a + k:Nat):Int)] else []:=by
 unfold bz
 rw [List.range_succ,List.filter_append,List.map_append]
 congr 1
 by_cases h:a + k < hi∧P.testBit k=true
 ·rw [if_pos h]
  simp [h.1,h.2]
 ·rw [if_neg h]
  have:(decide (a + k < hi) && P.testBit k)=false:=by
   cases hc:(decide (a + k < hi) && P.testBit k)
   ·rfl
   ·simp at hc;exact absurd hc h
  simp [this]
theorem bz_nodup (a hi P k:Nat):(bz a hi P k).Nodup:=by
 unfold bz
 refine List.Pairwise.map _ (fun i j h=>?_) (List.Pairwise.filter _ List.nodup_range)
 intro e
 apply h
 omega
theorem bz_mem {a hi P k:Nat} {z:Int} (h:z ∈ bz a hi P k):(a:Int)≤z∧z < (a:Int) + k:=by
 unfold bz at h
 obtain ⟨i,hi,rfl⟩:=List.mem_map.1 h
 have:=List.mem_range.1 (List.mem_filter.1 hi).1
 omega
theorem pat_walk (P j:Nat) (hP:P < 4294967296):(bits .and .u32 ((P:Int) / 2 ^ j) 1 == 1)=P.testBit j:=by
 have hp:1≤2 ^ j:=Nat.one_le_two_pow
 have h1:P / 2 ^ j≤P:=Nat.div_le_self _ _
 rw [show (P:Int) / 2 ^ j=((P / 2 ^ j:Nat):Int) from by rw [Int.natCast_ediv,Int.natCast_pow];rfl,show (1:Int)=((1:Nat):Int) from rfl,u32_and_nat _ _ (by omega) (by omega),Nat.and_one_is_mod]
 rw [Nat.testBit_eq_decide_div_mod_eq,Bool.eq_iff_iff,beq_iff_eq,decide_eq_true_iff]
 omega
end Go.Proofs.YtfdbcfaeiglbeaaGreatDoor
namespace Go.Proofs.YtfdbcfaeiglbeaaGreatDoor
open Go.RowKit
def shZ (s:Nat) (zs:List Int):List Int:=zs.map fun z=>z - 8 * (s:Int)
def Told (zs:List Int):Prop:=∀ (s:Nat) (D:List UInt8),D.length≤268435455→flipsB D (shZ s zs) ≠ D→dls D.length (shZ s zs) ≠ 0
theorem shZ_add (s t:Nat) (zs:List Int):shZ t (shZ s zs)=shZ (s + t) zs:=by
 unfold shZ
 rw [List.map_map]
 refine List.map_congr_left fun z _=>?_
 show z - 8 * (s:Int) - 8 * (t:Int)=z - 8 * ((s + t:Nat):Int)
 omega
theorem told_three (i j k:Int):Told [i,j,k]:=fun _ D hD h=>three_told D _ _ _ hD h
theorem told_burst (a hi P:Nat):Told (bz a hi P 32):=fun s D hD h=>by
 refine burst_told D (a - 8 * s) _ (List.Pairwise.map _ (fun i j h=>by omega) (bz_nodup a hi P 32)) (fun z hz hin=>?_) h
 obtain ⟨y,hy,rfl⟩:=List.mem_map.1 hz
 have:=bz_mem hy
 omega
theorem cut_flips {b:List UInt8} {zs:List Int} {k n:Nat} (h:k + n≤b.length):cutS (flipsB b zs) k n=flipsB (cutS b k n) (shZ k zs):=by
 unfold cutS
 rw [flipsB_drop zs k b (by omega),flipsB_take _ n _ (by rw [List.length_drop];omega)]
 rfl
theorem seal_told {zs:List Int} (h:Told zs) (s:Nat) (D:List UInt8) (hD:D.length≤200000000):flipsB (D ++ lowB (sumL D)) (shZ s zs)=D ++ lowB (sumL D) ∨
  (flipsB (D ++ lowB (sumL D)) (shZ s zs)).drop D.length ≠ lowB (sumL ((flipsB (D ++ lowB (sumL D)) (shZ s zs)).take D.length)):=by
 by_cases he:flipsB (D ++ lowB (sumL D)) (shZ s zs)=D ++ lowB (sumL D)
 ·exact .inl he
 ·refine .inr (seg_told D _ _ rfl ?_)
  have hl:(D ++ lowB (sumL D)).length=D.length + 4:=by rw [List.length_append,lowB_len]
  rw [← hl]
  exact h s _ (by omega) he
theorem uns_told {zs:List Int} (h:Told zs) (s:Nat) (D:List UInt8) (hD:D.length≤200000000) (hu:unsB (flipsB (sumdB D) (shZ s zs))=true):flipsB (sumdB D) (shZ s zs)=sumdB D:=by
 rcases seal_told h s D hD with h1 | h1
 ·exact h1
 ·have hl:(flipsB (sumdB D) (shZ s zs)).length - 4=D.length:=by rw [flipsB_length,sumdB_len];omega
  unfold unsB at hu
  rw [hl] at hu
  exact absurd (beq_iff_eq.1 hu) h1
theorem block_told {zs:List Int} (h:Told zs) (s:Nat) {c:List Ent} (hc:ChOk c):flipsB (layB 16 c) (shZ s zs)=layB 16 c∨(openE (flipsB (layB 16 c) (shZ s zs))).1=none:=by
 have hlen:=build_len hc.bld hc.ne
 have hpos:=lay_pos hc.ne
 have e:layB 16 c=headB5 16 (runB 16 c) ++ lowB (sumL (headB5 16 (runB 16 c))):=by unfold layB;rw [if_neg hc.ne];rfl
 have hl:(layB 16 c).length=(headB5 16 (runB 16 c)).length + 4:=by rw [e,List.length_append,lowB_len]
 rcases seal_told h s (headB5 16 (runB 16 c)) (by omega) with h1 | h1
 ·rw [← e] at h1;exact .inl h1
 ·right
  rw [← e] at h1
  have hs:sumOkB (flipsB (layB 16 c) (shZ s zs))=false:=by
   unfold sumOkB
   rw [flipsB_length,hl,Nat.add_sub_cancel,beq_eq_false_iff_ne]
   exact fun e=>h1 e.symm
  unfold openE
  rw [flipsB_length,if_neg (by omega),if_neg (by omega),if_pos hs]
def SegOk (X:List UInt8):Nat→List (List Ent)→Prop
 | _,[]=>True
 | at',c::cs=>(cutS X at' (layB 16 c).length=layB 16 c∨(openE (cutS X at' (layB 16 c).length)).1=none)∧SegOk X (at' + (layB 16 c).length) cs
theorem seg_all {b:List UInt8} {zs:List Int} (h:Told zs):∀ (cs:List (List Ent)) (pre post:List UInt8) (at':Nat),(∀ c,c ∈ cs→ChOk c)→b=pre ++ (blocksR cs ++ post)→pre.length=at'→SegOk (flipsB b zs) at' cs
 | [],_,_,_,_,_,_=>trivial
 | c::cs,pre,post,at',hc,hb,hp=>by
  rw [blocksR_cons,List.append_assoc] at hb
  refine ⟨?_,seg_all h cs (pre ++ layB 16 c) post _ (fun d hd=>hc d (.tail _ hd)) (by rw [hb,List.append_assoc]) (by rw [List.length_append,hp])⟩
  have hlen:at' + (layB 16 c).length≤b.length:=by rw [hb,List.length_append,List.length_append];omega
  have h1:cutS b at' (layB 16 c).length=layB 16 c:=by rw [hb];exact cutS_mid _ _ _ hp.symm rfl
  rw [cut_flips hlen,h1]
  exact block_told h at' (hc c (.head _))
theorem cutS_two (X:List UInt8) (a n m:Nat):cutS X a (n + m)=cutS X a n ++ cutS X (a + n) m:=by
 have:=cutS_app X (a:=a) (q:=a + n) (p:=a + n + m) (by omega) (by omega)
 rw [show a + n - a=n from by omega,show a + n + m - (a + n)=m from by omega,show a + n + m - a=n + m from by omega] at this
 exact this.symm
theorem spoilt_all {r:RunR}:∀ (cs:List (List Ent)) (at' i:Nat),(∀ c,c ∈ cs→ChOk c)→SegOk r.bytes at' cs →
  cutS r.bytes at' (blocksR cs).length=blocksR cs∨∃ K T j,T ≠ []∧cs.flatten=K ++ T∧allF r (pcsOf at' cs)=(K,false)∧brokenN r (pcsOf at' cs) i=some j
 | [],at',i,_,_ => .inl (by unfold cutS;exact List.take_zero)
 | c::cs,at',i,hc,⟨h1,h2⟩=>by
  have hcc:=hc c (.head _)
  have hhi:at' + (layB 16 c).length - at'=(layB 16 c).length:=by omega
  rcases h1 with h1 | h1
  ·have hb:blkR r ⟨firstK c,lastK c,at',at' + (layB 16 c).length⟩=some c:=by
    unfold blkR
    dsimp only
    rw [hhi,h1,(openE_lay (R:=16) hcc.bld).1]
    simp
   rcases spoilt_all (r:=r) cs (at' + (layB 16 c).length) (i + 1) (fun d hd=>hc d (.tail _ hd)) h2 with h3 | ⟨K,T,j,hT,h3,h4,h5⟩
   ·left
    rw [blocksR_cons,List.length_append,cutS_two,h1,h3]
   ·refine .inr ⟨c ++ K,T,j,hT,by rw [List.flatten_cons,h3,List.append_assoc],?_,?_⟩
    ·show (match blkR r ⟨firstK c,lastK c,at',at' + (layB 16 c).length⟩ with
      | none=>([],false)
      | some L=>(L ++ (allF r (pcsOf (at' + (layB 16 c).length) cs)).1,(allF r (pcsOf (at' + (layB 16 c).length) cs)).2))=_
     rw [hb,h4]
    ·show (if (blkR r ⟨firstK c,lastK c,at',at' + (layB 16 c).length⟩).isNone then some i else brokenN r (pcsOf (at' + (layB 16 c).length) cs) (i + 1))=_
     rw [hb];exact h5
  ·have hb:blkR r ⟨firstK c,lastK c,at',at' + (layB 16 c).length⟩=none:=by
    unfold blkR
    dsimp only
    rw [hhi]
    cases ho:openE (cutS r.bytes at' (layB 16 c).length) with
    | mk o k =>
     rw [ho] at h1
     have h1:o=none:=h1
     subst h1
     rfl
   refine .inr ⟨[],(c::cs).flatten,i,?_,rfl,?_,?_⟩
   ·rw [List.flatten_cons]
    exact fun h=>hcc.ne (List.append_eq_nil_iff.1 h).1
   ·show (match blkR r ⟨firstK c,lastK c,at',at' + (layB 16 c).length⟩ with
     | none=>([],false)
     | some L=>(L ++ (allF r (pcsOf (at' + (layB 16 c).length) cs)).1,(allF r (pcsOf (at' + (layB 16 c).length) cs)).2))=_
    rw [hb]
   ·show (if (blkR r ⟨firstK c,lastK c,at',at' + (layB 16 c).length⟩).isNone then some i else brokenN r (pcsOf (at' + (layB 16 c).length) cs) (i + 1))=_
    rw [hb];rfl
theorem foot_told {zs:List Int} (h:Told zs) (s:Nat) {p f:List UInt8} (hp:s=p.length) (hf:f.length=56) {g:List UInt8} (hg:footO (flipsB (p ++ frameB f) zs)=some g):cutS (flipsB (p ++ frameB f) zs) s 68=frameB f∧g=f:=by
 obtain ⟨X,hX⟩:∃ X,X=flipsB (p ++ frameB f) zs:=⟨_,rfl⟩
 have hfl:(frameB f).length=68:=by rw [frameB_length,hf]
 have hXl:X.length=s + 68:=by rw [hX,flipsB_length,List.length_append,hfl,hp]
 have hc:cutS X s 68=flipsB (frameB f) (shZ s zs):=by
  rw [hX,cut_flips (by rw [List.length_append,hfl,hp];omega)]
  congr 1
  have:=cutS_mid p (frameB f) [] (k:=s) (n:=68) hp hfl.symm
  rw [List.append_nil] at this;exact this
 rw [← hX] at hg ⊢
 unfold footO at hg
 split at hg
 ·cases hg
 split at hg
 ·cases hg
 rename_i _ hh
 injection hg with hg
 have hz:(readFA X ((X.length - 68:Nat):Int)).2.2=0:=Decidable.byContradiction fun e=>hh (.inl e)
 have hend:(readFA X ((X.length - 68:Nat):Int)).2.1=X.length:=Decidable.byContradiction fun e=>hh (.inr (.inl e))
 have h56:(readFA X ((X.length - 68:Nat):Int)).1.length=56:=Decidable.byContradiction fun e=>hh (.inr (.inr e))
 obtain ⟨e1,_,_,_,e5⟩:=readFA_end X _ hz
 rw [hend,hg,Int.toNat_natCast,show X.length - (X.length - 68)=68 from by omega,show X.length - 68=s from by omega,hc] at e1
 rw [hg] at e5 h56
 by_cases hne:flipsB (frameB f) (shZ s zs)=frameB f
 ·refine ⟨by rw [hc,hne],?_⟩
  rw [hne] at e1
  have h2:=congrArg (fun l=>(l.drop 8).take 56) e1
  simp only [frameB_drop8] at h2
  rwa [List.take_left' h56,List.take_left' hf] at h2
 ·have ht:=frame_told f (shZ s zs) [] (by omega) hne fun D ys hD hys hd=>by
   rcases hys with rfl | rfl
   ·exact h s D (by omega) hd
   ·have e:((shZ s zs).map fun z:Int=>z - 8 * ((8:Nat):Int))=shZ (s + 8) zs:=shZ_add s 8 zs
    rw [e] at hd ⊢
    exact h (s + 8) D (by omega) hd
  rw [← e1,List.append_nil] at ht
  have hb:=readFA_back [] g [] e5
  rw [List.append_nil,List.nil_append] at hb
  have hb:readFA (frameB g) 0=_:=hb
  rw [ht] at hb
  injection hb with _ hb
  injection hb with _ hb
  cases hb
theorem run_told {o:OptR} {L:List Ent} {zs:List Int} (hz:Told zs) (h:refuseR o L=0) (hn:L.length≤1000000) (hl:(runBy o L).length≤16777216) (hne:flipsB (runBy o L) zs ≠ runBy o L) {r:RunR} (ho:openR7 (flipsB (runBy o L) zs)=(some r,0)) :
  (r.count=L.length∧r.index=o.index.toNat)∧∃ K T j,T ≠ []∧L=K ++ T∧allR r=(K,false)∧verR r=(((j:Nat):Int),73):=by
 obtain ⟨h1,h2,h3⟩:=refuse_ok h
 obtain ⟨⟨b1,b2,b3,b4⟩,hse⟩:=optOk.iff h1
 obtain ⟨hch,_⟩:=cut_ch (t:=o.block.toNat) (by omega) h3
 have hfl:(cutR o.block.toNat [] L).flatten=L:=by rw [cutR_flat];rfl
 have hopen:=open_back h hn hl
 obtain ⟨X,hX⟩:∃ X,X=flipsB (runBy o L) zs:=⟨_,rfl⟩
 have hXl:X.length=(runBy o L).length:=by rw [hX,flipsB_length]
 unfold runBy at hX hXl hl hne ho
 unfold runBy at hopen
 obtain ⟨cs,hcs⟩:∃ z,z=cutR o.block.toNat [] L:=⟨_,rfl⟩
 rw [← hcs] at hch hfl hX hXl hl hne ho hopen
 have hns7:(risBs (numsR o L cs)).length=56:=by rw [risBs_len];rfl
 have hfr:(frameB (risBs (numsR o L cs))).length=68:=by rw [frameB_length,hns7]
 have e0:runC o L cs=(headR cs ++ sumdB (filtR o L) ++ sumdB (indexR cs)) ++ frameB (risBs (numsR o L cs)):=rfl
 have e1:runC o L cs=headR cs ++ (sumdB (filtR o L) ++ (sumdB (indexR cs) ++ frameB (risBs (numsR o L cs)))):=by unfold runC;simp only [List.append_assoc]
 have e2:runC o L cs=(headR cs ++ sumdB (filtR o L)) ++ (sumdB (indexR cs) ++ frameB (risBs (numsR o L cs))):=by unfold runC;simp only [List.append_assoc]
 have e3:runC o L cs=magR ++ (blocksR cs ++ (sumdB (filtR o L) ++ (sumdB (indexR cs) ++ frameB (risBs (numsR o L cs))))):=by rw [e1];unfold headR;rw [List.append_assoc]
 have hL1:(headR cs).length=8 + (blocksR cs).length:=by unfold headR;rw [List.length_append];rfl
 have hL2:(headR cs ++ sumdB (filtR o L)).length=(headR cs).length + (filtR o L).length + 4:=by rw [List.length_append,sumdB_len];omega
 have hL3:(runC o L cs).length=(headR cs).length + (filtR o L).length + 4 + (indexR cs).length + 72:=by
  rw [e2,List.length_append,hL2,List.length_append,sumdB_len,hfr];omega
 rw [← hX] at ho hne
 -- the bytes are opened
 unfold openR7 at ho
 rw [if_neg (by omega)] at ho
 cases hoX:openP X with
 | none=>rw [hoX] at ho;cases ho
 | some r' =>
  rw [hoX] at ho
  injection ho with ho _
  injection ho with ho
  subst ho
  unfold openP at hoX hopen
  split at hoX
  ·cases hoX
  rename_i hmag
  have hmag:X.take 8=magR:=Decidable.byContradiction hmag
  split at hopen
  ·cases hopen
  -- the foot
  cases hfo:footO X with
  | none=>unfold numsO at hoX;rw [hfo] at hoX;cases hoX
  | some g =>
   obtain ⟨f1,f2⟩:=foot_told hz (headR cs ++ sumdB (filtR o L) ++ sumdB (indexR cs)).length (p:=headR cs ++ sumdB (filtR o L) ++ sumdB (indexR cs)) rfl hns7 (g:=g) (by rw [← e0,← hX];exact hfo)
   rw [← e0,← hX] at f1
   have hN:numsO X=numsO (runC o L cs):=by
    unfold numsO
    rw [hfo,f2,e0,footO_back _ _ hns7]
   rw [hN] at hoX
   cases hns:numsO (runC o L cs) with
   | none=>rw [hns] at hoX;cases hoX
   | some ns =>
    rw [hns] at hoX hopen
    dsimp only at hoX hopen
    have hnn:ns=numsR o L cs:=by
     have hns':∀ v,v ∈ numsR o L cs→v < 9223372036854775808:=by
      obtain ⟨s1,s2,s3,s4,s5,s6⟩:=sealI.iff hse
      have hct:=cut_count (t:=o.block.toNat) (L:=L) fun c hc=>(hch c (by rw [hcs];exact hc)).ne
      rw [← hcs] at hct
      intro v hv
      unfold numsR at hv
      simp only [List.mem_cons,List.not_mem_nil,or_false] at hv
      rcases hv with rfl | rfl | rfl | rfl | rfl | rfl | rfl <;> omega
     have:=numsO_back (headR cs ++ sumdB (filtR o L) ++ sumdB (indexR cs)) (ns:=numsR o L cs) rfl hns'
     rw [← e0,hns] at this
     injection this
    subst hnn
    have hoX:openN X [L.length,o.index.toNat,o.low.toNat,o.clock.toNat,cs.length,(headR cs).length,(headR cs ++ sumdB (filtR o L)).length]=some r':=hoX
    have hopen:openN (runC o L cs) [L.length,o.index.toNat,o.low.toNat,o.clock.toNat,cs.length,(headR cs).length,(headR cs ++ sumdB (filtR o L)).length]=_:=hopen
    unfold openN at hoX hopen
    dsimp only at hoX hopen
    split at hoX
    ·cases hoX
    split at hoX
    ·cases hoX
    split at hoX
    ·cases hoX
    rename_i _ _ huns
    have u1:unsB (cutS X (headR cs).length ((headR cs ++ sumdB (filtR o L)).length - (headR cs).length))=true:=by
     cases hu:unsB (cutS X (headR cs).length ((headR cs ++ sumdB (filtR o L)).length - (headR cs).length)) with
     | true=>rfl
     | false=>exact absurd (.inl hu) huns
    have u2:unsB (cutS X (headR cs ++ sumdB (filtR o L)).length (X.length - 68 - (headR cs ++ sumdB (filtR o L)).length))=true:=by
     cases hu:unsB (cutS X (headR cs ++ sumdB (filtR o L)).length (X.length - 68 - (headR cs ++ sumdB (filtR o L)).length)) with
     | true=>rfl
     | false=>exact absurd (.inr hu) huns
    have n1:(headR cs ++ sumdB (filtR o L)).length - (headR cs).length=(sumdB (filtR o L)).length:=by rw [sumdB_len];omega
    have n2:X.length - 68 - (headR cs ++ sumdB (filtR o L)).length=(sumdB (indexR cs)).length:=by rw [sumdB_len];omega
    have s1:=sumdB_len (filtR o L)
    have s2:=sumdB_len (indexR cs)
    rw [n1,hX,cut_flips (by omega)] at u1
    rw [n2,hX,cut_flips (by omega)] at u2
    have c1:cutS (runC o L cs) (headR cs).length (sumdB (filtR o L)).length=sumdB (filtR o L):=by rw [e1];exact cutS_mid _ _ _ rfl rfl
    have c2:cutS (runC o L cs) (headR cs ++ sumdB (filtR o L)).length (sumdB (indexR cs)).length=sumdB (indexR cs):=by rw [e2];exact cutS_mid _ _ _ rfl rfl
    rw [c1] at u1
    rw [c2] at u2
    have k1:=uns_told hz _ _ (by omega) u1
    have k2:=uns_told hz _ _ (by omega) u2
    have x1:cutS X (headR cs).length (sumdB (filtR o L)).length=sumdB (filtR o L):=by rw [hX,cut_flips (by omega),c1,k1]
    have x2:cutS X (headR cs ++ sumdB (filtR o L)).length (sumdB (indexR cs)).length=sumdB (indexR cs):=by rw [hX,cut_flips (by omega),c2,k2]
    -- the filter and the index are as they were
    have y1:cutS X (headR cs).length ((headR cs ++ sumdB (filtR o L)).length - (headR cs).length - 4)=filtR o L:=by
     have h6:(sumdB (filtR o L)).length=(headR cs ++ sumdB (filtR o L)).length - (headR cs).length - 4 + 4:=by omega
     have h7:=congrArg (fun l=>l.take ((headR cs ++ sumdB (filtR o L)).length - (headR cs).length - 4)) x1
     have h8:(headR cs ++ sumdB (filtR o L)).length - (headR cs).length - 4=(filtR o L).length:=by omega
     rw [h8] at h7 ⊢
     simp only [cutS] at h7 ⊢
     rw [List.take_take,Nat.min_eq_left (by omega)] at h7
     rw [h7]
     unfold sumdB
     exact List.take_left' rfl
    have y2:cutS X (headR cs ++ sumdB (filtR o L)).length (X.length - 72 - (headR cs ++ sumdB (filtR o L)).length)=indexR cs:=by
     have h7:=congrArg (fun l=>l.take (indexR cs).length) x2
     have h8:X.length - 72 - (headR cs ++ sumdB (filtR o L)).length=(indexR cs).length:=by omega
     rw [h8]
     simp only [cutS] at h7 ⊢
     rw [List.take_take,Nat.min_eq_left (by omega)] at h7
     rw [h7]
     unfold sumdB
     exact List.take_left' rfl
    rw [y2] at hoX
    split at hoX
    ·cases hoX
    split at hoX
    ·cases hoX
    rename_i l hpl
    injection hoX with hoX
    have hps:l=pcsOf 8 cs:=by
     have hchs:ChsOk none cs:=by rw [hcs];exact (cut_ch (t:=o.block.toNat) (by omega) h3).2
     have hct:=cut_count (t:=o.block.toNat) (L:=L) fun c hc=>(hch c (by rw [hcs];exact hc)).ne
     rw [← hcs] at hct
     have:=pcsO_back cs hchs (by omega) hL1.symm
     rw [hpl] at this
     injection this
    refine ⟨⟨by rw [← hoX],by rw [← hoX]⟩,?_⟩
    have hrb:r'.bytes=X:=by rw [← hoX]
    have hrp:r'.ps=pcsOf 8 cs:=by rw [← hoX];exact hps
    have hseg:SegOk r'.bytes 8 cs:=by
     rw [hrb,hX]
     exact seg_all hz cs magR _ 8 hch e3 rfl
    rcases spoilt_all (r:=r') cs 8 0 hch hseg with hsame | ⟨K,T,j,hT,q1,q2,q3⟩
    ·-- nothing is other
     refine absurd ?_ hne
     rw [hrb] at hsame
     have z0:X=cutS X 0 X.length:=by unfold cutS;rw [List.drop_zero,List.take_of_length_le (Nat.le_refl _)]
     have z1:X.length=8 + ((blocksR cs).length + ((sumdB (filtR o L)).length + ((sumdB (indexR cs)).length + 68))):=by omega
     have p1:(headR cs ++ sumdB (filtR o L) ++ sumdB (indexR cs)).length=8 + (blocksR cs).length + (sumdB (filtR o L)).length + (sumdB (indexR cs)).length:=by
      rw [List.length_append,List.length_append,hL1]
     have p2:(headR cs ++ sumdB (filtR o L)).length=8 + (blocksR cs).length + (sumdB (filtR o L)).length:=by omega
     rw [p1] at f1
     rw [p2] at x2
     rw [hL1] at x1
     have z2:cutS X 0 8=magR:=by unfold cutS;rw [List.drop_zero];exact hmag
     rw [z0,z1,cutS_two,cutS_two,cutS_two,cutS_two,z2,Nat.zero_add,hsame,x1,x2,f1,e3]
    ·refine ⟨K,T,j,hT,by rw [← hfl,q1],?_,?_⟩
     ·unfold allR;rw [hrp];exact q2
     ·unfold verR;rw [hrp,q3]
end Go.Proofs.YtfdbcfaeiglbeaaGreatDoor
namespace Go.Proofs.YtfdbcfaeiglbeaaGreatDoor
open Go.RowKit
theorem REntP.yes {b key k:List UInt8} {a p:Nat} {e:Ent} {w z:World} {r:Ending} (h:REntP b a key w r z) (hq:rq1 b a key=some (e,k,p)):∃ A c B d D q KA kc,r = .returned (.tuple #[entV A e.row.length c B e.qual.length d D e.val.length q e,.slice KA k.length kc,.int .i64 (p:Nat),.bool true]) ∧
  OW w [bytO 5 (KA,kc,k),bytO 5 (A,c,e.row),bytO 5 (B,d,e.qual),bytO 5 (D,q,e.val)] z:=by
 rcases h with ⟨h,_⟩ | ⟨e',k',p',A,c,B,d,D,q,KA,kc,h,h1,h2⟩
 ·rw [hq] at h;cases h
 ·rw [hq] at h;injection h with h;injection h with h3 h;injection h with h4 h5
  subst h3;subst h4;subst h5
  exact ⟨A,c,B,d,D,q,KA,kc,h1,h2⟩
end Go.Proofs.YtfdbcfaeiglbeaaGreatDoor
namespace Go.Proofs.YtfdbcfaeiglbeaaGreatDoor
open Go.RowKit
theorem open_no7 {b:List UInt8} {k:Int} (ho:openR7 b=(none,k)) {A:Option Addr} {n c:Nat} {w:World} (hs:Sl w A n c b) (ht:TabAt 0 w) :
  Calls Tryz.prog 17 #[.slice A n c] w fun e z=>k ≠ 0∧e = .returned (.tuple #[.pointer none,.int .i64 k])∧Below w.heap.size w z :=
 (open_any7 b A n c w hs ht).mono fun e z h=>by
  rcases h with ⟨q,h1,h2,h3,h4,h5⟩ | ⟨k',hk,h1,h2,h3⟩
  ·rw [ho] at h1;cases h1
  ·rw [ho] at h1
   injection h1 with _ h1
   subst h1
   exact ⟨hk,h2,h3⟩
end Go.Proofs.YtfdbcfaeiglbeaaGreatDoor
namespace Go.Proofs.YtfdbcfaeiglbeaaGreatDoor
open Go.ChangeShapes Go.WideShapes Go.ChangeAt Go.RowKit Go.Joins Go.Deep
theorem u32_wf {n:Int} (h:(Lit.int .u32 n).wf=true):0≤n∧n < 4294967296:=by
 simp [Lit.wf,IntKind.min,IntKind.max,IntKind.signed,IntKind.bits] at h
 omega
end Go.Proofs.YtfdbcfaeiglbeaaGreatDoor
