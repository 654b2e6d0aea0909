/-
 WireP, WireP2, WireP6, WireP7, WireP8, WireP9, CellP, CellP2, BlockP, BlockP2, BlockP3, BlockP4, BlockP5, BlockP6, BlockP9, RunP, RunP2, WireP10, RunP3, WireW1, WireW2, WireW5, WireW10, WireW11, WireW12, CellP3, WireW3, WireW6, WireR1, WireW13.
-/
import Derived.Test.YtfdbcfaeiglbeaaGreatDoorRZ1
import Derived.Test.YtfdbcfaeiglbeaaGreatDoorRZ2
import Derived.Deep.CutRange
import Derived.Deep.DeepCutAuto
import Derived.Deep.RegionLaw
import Derived.Deep.RegionWith
import Derived.Test.YtfdbcfaeiglbeaaGreatDoorRows
namespace Go.Proofs.YtfdbcfaeiglbeaaGreatDoor
open Go.RowKit
def tabL:List Nat:=[0,274646895,549293790,820201905,1098587580,1361435347,1640403810,1905808397,2197175160,2460548119,2722870694,2987750089,3280807620,3553878443,3811616794,4084100981]
def tabN (i:Nat):Nat:=tabL[i]?.getD 0
theorem tab_iter:∀ i:Fin 16,rIter 4 i.val=tabN i.val:=by decide +kernel
theorem tabN_lt:∀ i:Fin 16,tabN i.val < 4294967296:=by decide +kernel
theorem rStep_even (c:Nat):rStep (2 * c)=c:=by
 unfold rStep
 have:(2 * c).testBit 0=false:=by simp [Nat.testBit_zero]
 rw [this,Nat.shiftRight_eq_div_pow];simp
theorem rIter_four (c:Nat):rIter 4 c=(c / 16) ^^^ tabN (c % 16):=by
  have e:c=(16 * (c / 16)) ^^^ (c % 16):=by
    have h:=Nat.shiftLeft_add_eq_or_of_lt (a:=c / 16) (b:=c % 16) (i:=4) (by omega)
    apply Nat.eq_of_testBit_eq
    intro j
    rw [Nat.testBit_xor,show 16 * (c / 16)=(c / 16) <<< 4 from by rw [Nat.shiftLeft_eq];omega,Nat.testBit_shiftLeft,show (16:Nat)=2 ^ 4 from rfl,Nat.testBit_mod_two_pow,Nat.testBit_div_two_pow]
    by_cases hj:4≤j
    · have:¬ j < 4:=by omega
      simp [hj,this]
    · have:j < 4:=by omega
      simp [hj,this]
  have e2:rIter 4 (16 * (c / 16))=c / 16:=by
    show rStep (rStep (rStep (rStep _)))=_
    rw [show 16 * (c / 16)=2 * (2 * (2 * (2 * (c / 16)))) from by omega,rStep_even,rStep_even,rStep_even,rStep_even]
  have e3:rIter 4 (c % 16)=tabN (c % 16):=tab_iter ⟨c % 16,by omega⟩
  calc rIter 4 c=rIter 4 ((16 * (c / 16)) ^^^ (c % 16)):=by rw [← e]
    _=_:=by rw [rIter_xor,e2,e3]
def crcB (c:Nat) (b:UInt8):Nat:=rIter 8 (c ^^^ b.toNat)
def crcL (c:Nat) (l:List UInt8):Nat:=l.foldl crcB c
theorem crcL_snoc (c:Nat) (l:List UInt8) (b:UInt8):crcL c (l ++ [b])=crcB (crcL c l) b:=by simp [crcL,List.foldl_append]
theorem crcL_app (c:Nat) (l m:List UInt8):crcL c (l ++ m)=crcL (crcL c l) m:=by simp [crcL,List.foldl_append]
theorem crcB_lt {c:Nat} (h:c < 4294967296) (b:UInt8):crcB c b < 4294967296 :=
 rIter_lt 8 (Nat.xor_lt_two_pow (n:=32) h (by have:=b.toNat_lt;omega))
def sumL (l:List UInt8):Nat:=4294967295 - crcL 4294967295 l
theorem sumL_lt (l:List UInt8):sumL l < 4294967296:=by unfold sumL;omega
def nib1 (c:Nat) (b:UInt8):Nat:=(c ^^^ b.toNat) % 16
def mid (c:Nat) (b:UInt8):Nat:=(c / 16) ^^^ tabN (nib1 c b)
def nib2 (c:Nat) (b:UInt8):Nat:=(mid c b ^^^ b.toNat / 16) % 16
theorem nib1_lt (c:Nat) (b:UInt8):nib1 c b < 16:=Nat.mod_lt _ (by decide)
theorem nib2_lt (c:Nat) (b:UInt8):nib2 c b < 16:=Nat.mod_lt _ (by decide)
theorem mid_lt {c:Nat} (h:c < 4294967296) (b:UInt8):mid c b < 4294967296 :=
 Nat.xor_lt_two_pow (n:=32) (by omega) (tabN_lt ⟨_,nib1_lt c b⟩)
theorem xor_mod16 (a b:Nat):(a ^^^ b) % 16=(a % 16) ^^^ (b % 16):=by
 rw [show (16:Nat)=2 ^ 4 from rfl]
 apply Nat.eq_of_testBit_eq
 intro j
 simp only [Nat.testBit_mod_two_pow,Nat.testBit_xor]
 cases decide (j < 4) <;> simp
theorem xor_div16 (a b:Nat):(a ^^^ b) / 16=(a / 16) ^^^ (b / 16):=by
 rw [show (16:Nat)=2 ^ 4 from rfl]
 apply Nat.eq_of_testBit_eq
 intro j
 simp only [Nat.testBit_div_two_pow,Nat.testBit_xor]
theorem crcB_mid (c:Nat) (b:UInt8):crcB c b=(mid c b / 16) ^^^ tabN (nib2 c b):=by
 have hb:=b.toNat_lt
 have e1:rIter 4 (c ^^^ b.toNat)=mid c b ^^^ b.toNat / 16:=by
  rw [rIter_four,xor_div16]
  unfold mid nib1
  ac_rfl
 have:crcB c b=rIter 4 (rIter 4 (c ^^^ b.toNat)):=rIter_add 4 4 _
 rw [this,e1,rIter_four,xor_div16,show b.toNat / 16 / 16=0 from by omega,Nat.xor_zero]
 rfl
theorem and15_walk (a:Nat) (h:a < 256):bits .and .u8 (a:Int) 15=((a % 16:Nat):Int):=by
 rw [show (15:Int)=((15:Nat):Int) from rfl,u8_and_nat _ _ h (by omega),show (15:Nat)=2 ^ 4 - 1 from rfl,Nat.and_two_pow_sub_one_eq_mod]
theorem nib1_walk (c:Nat) (b:UInt8):bits .and .u8 (bits .xor .u8 ((c:Int) % 256) (b.toNat:Int)) 15=((nib1 c b:Nat):Int):=by
 have hb:=b.toNat_lt
 have e:(c:Int) % 256=((c % 256:Nat):Int):=by omega
 have hx:(c % 256) ^^^ b.toNat < 256:=Nat.xor_lt_two_pow (n:=8) (by omega) (by omega)
 rw [e,u8_xor_nat _ _ (by omega) (by omega),and15_walk _ hx]
 unfold nib1
 rw [xor_mod16,xor_mod16 c,show c % 256 % 16=c % 16 from by omega]
theorem nib2_walk (c:Nat) (b:UInt8):bits .and .u8 (bits .xor .u8 ((mid c b:Int) % 256) ((b.toNat:Int) / 16)) 15=((nib2 c b:Nat):Int):=by
 have hb:=b.toNat_lt
 have e:(mid c b:Int) % 256=((mid c b % 256:Nat):Int):=by omega
 have e2:(b.toNat:Int) / 16=((b.toNat / 16:Nat):Int):=by omega
 have hx:(mid c b % 256) ^^^ (b.toNat / 16) < 256:=Nat.xor_lt_two_pow (n:=8) (by omega) (by omega)
 rw [e,e2,u8_xor_nat _ _ (by omega) (by omega),and15_walk _ hx]
 unfold nib2
 rw [xor_mod16,xor_mod16 (mid c b),show mid c b % 256 % 16=mid c b % 16 from by omega]
theorem mid_walk (c:Nat) (b:UInt8) (h:c < 4294967296):bits .xor .u32 ((c:Int) / 16) ((tabN (nib1 c b):Nat):Int)=((mid c b:Nat):Int):=by
 rw [show (c:Int) / 16=((c / 16:Nat):Int) from by omega,u32_xor_nat _ _ (by omega) (tabN_lt ⟨_,nib1_lt c b⟩)];rfl
theorem crcB_walk (c:Nat) (b:UInt8) (h:c < 4294967296):bits .xor .u32 ((mid c b:Int) / 16) ((tabN (nib2 c b):Nat):Int)=((crcB c b:Nat):Int):=by
 have:=mid_lt h b
 rw [show (mid c b:Int) / 16=((mid c b / 16:Nat):Int) from by omega,u32_xor_nat _ _ (by omega) (tabN_lt ⟨_,nib2_lt c b⟩),crcB_mid]
theorem not_u32 {C:Nat} (h:C < 4294967296):bits .xor .u32 IntKind.u32.max (C:Int)=((4294967295 - C:Nat):Int):=by
 show bits .xor .u32 ((4294967295:Nat):Int) (C:Int)=_
 rw [u32_xor_nat _ _ (by omega) h]
 congr 1
 apply Nat.eq_of_testBit_eq
 intro j
 have h1:=Nat.testBit_two_pow_sub_succ (x:=0) (n:=32) (by omega) j
 have h2:=Nat.testBit_two_pow_sub_succ (x:=C) (n:=32) (by omega) j
 rw [show (2:Nat) ^ 32 - (0 + 1)=4294967295 from rfl] at h1
 rw [show (2:Nat) ^ 32 - (C + 1)=4294967295 - C from by omega] at h2
 rw [Nat.testBit_xor,h1,h2]
 by_cases hj:j < 32
 ·simp [hj]
 ·have:C.testBit j=false:=Nat.testBit_lt_two_pow (Nat.lt_of_lt_of_le h (by
   have:2 ^ 32≤2 ^ j:=Nat.pow_le_pow_right (by decide) (by omega)
   simpa using this))
  simp [hj,this]
def lowB (s:Nat):List UInt8:=[UInt8.ofNat s,UInt8.ofNat (s / 256),UInt8.ofNat (s / 65536),UInt8.ofNat (s / 16777216)]
theorem u8v_mod (s:Nat):u8v (UInt8.ofNat s) = .int .u8 ((s:Int) % 256):=by
 unfold u8v
 rw [UInt8.toNat_ofNat',Int.natCast_emod];rfl
def TabAt (b:Nat) (w:World):Prop:=b < w.heap.size∧∀ i,i < 16→w.cell? ⟨b,i,none⟩=some (.int .u32 (tabN i))
theorem TabAt.later {b:Nat} {w w':World} (h:TabAt b w) (hb:Below w.heap.size w w'):TabAt b w' :=
 ⟨Nat.lt_of_lt_of_le h.1 hb.size,fun i hi=>(hb.cell (p:=⟨b,i,none⟩) h.1).trans (h.2 i hi)⟩
theorem TabAt.below {b B:Nat} {w w':World} (h:TabAt b w) (hB:b < B) (hb:Below B w w'):TabAt b w' :=
 ⟨Nat.lt_of_lt_of_le h.1 hb.size,fun i hi=>(hb.cell (p:=⟨b,i,none⟩) hB).trans (h.2 i hi)⟩
def be4 (n:Nat):List UInt8:=[UInt8.ofNat (n / 16777216),UInt8.ofNat (n / 65536),UInt8.ofNat (n / 256),UInt8.ofNat n]
def headF (n:Nat):List UInt8:=be4 n ++ lowB (sumL (be4 n))
def frameB (l:List UInt8):List UInt8:=headF l.length ++ l ++ lowB (sumL l)
theorem frameB_length (l:List UInt8):(frameB l).length=l.length + 12:=by
 simp [frameB,headF,be4,lowB]
def frameE (l:List UInt8):Int:=if l.length≤1048576 then 0 else 2
def frameR (l:List UInt8):List UInt8:=if l.length≤1048576 then frameB l else []
theorem i64_or_nat (a b:Nat) (ha:a < 9223372036854775808) (hb:b < 9223372036854775808):bits .or .i64 (a:Int) (b:Int)=((a ||| b:Nat):Int):=by
 have hx:a ||| b < 2 ^ 63:=Nat.or_lt_two_pow (by omega) (by omega)
 show IntKind.i64.wrap ((BitVec.ofInt 64 (a:Int) ||| BitVec.ofInt 64 (b:Int)).toNat:Int)=_
 rw [BitVec.toNat_or,ofInt_u64 a (by omega),ofInt_u64 b (by omega),IntKind.wrap_i64]
 omega
def numB (x2 x3 x4 x5:UInt8):Nat:=((x2.toNat * 256 + x3.toNat) * 256 + x4.toNat) * 256 + x5.toNat
theorem numB_lt (x2 x3 x4 x5:UInt8):numB x2 x3 x4 x5 < 4294967296:=by
 have:=x2.toNat_lt;have:=x3.toNat_lt;have:=x4.toNat_lt;have:=x5.toNat_lt
 unfold numB;omega
theorem shl_or4 (a b k:Nat) (h:b < 2 ^ k):(a * 2 ^ k) ||| b=a * 2 ^ k + b:=by
 rw [← Nat.shiftLeft_eq,Nat.shiftLeft_add_eq_or_of_lt h]
theorem numB_or (x2 x3 x4 x5:UInt8):((x2.toNat * 16777216 ||| x3.toNat * 65536) ||| x4.toNat * 256) ||| x5.toNat=numB x2 x3 x4 x5:=by
 have h2:=x2.toNat_lt;have h3:=x3.toNat_lt;have h4:=x4.toNat_lt;have h5:=x5.toNat_lt
 unfold numB
 have e1:x2.toNat * 16777216 ||| x3.toNat * 65536=(x2.toNat * 256 + x3.toNat) * 65536:=by
  have:=shl_or4 x2.toNat (x3.toNat * 65536) 24 (by omega)
  rw [show (2:Nat) ^ 24=16777216 from rfl] at this
  rw [this];omega
 have e2:(x2.toNat * 256 + x3.toNat) * 65536 ||| x4.toNat * 256=((x2.toNat * 256 + x3.toNat) * 256 + x4.toNat) * 256:=by
  have:=shl_or4 (x2.toNat * 256 + x3.toNat) (x4.toNat * 256) 16 (by omega)
  rw [show (2:Nat) ^ 16=65536 from rfl] at this
  rw [this];omega
 have e3:=shl_or4 ((x2.toNat * 256 + x3.toNat) * 256 + x4.toNat) x5.toNat 8 (by omega)
 rw [show (2:Nat) ^ 8=256 from rfl] at e3
 rw [e1,e2,e3]
theorem numB_bits (x2 x3 x4 x5:UInt8):bits .or .i64 (bits .or .i64 (bits .or .i64 ((x2.toNat:Int) * 16777216) ((x3.toNat:Int) * 65536)) ((x4.toNat:Int) * 256)) (x5.toNat:Int)=((numB x2 x3 x4 x5:Nat):Int):=by
 have h2:=x2.toNat_lt;have h3:=x3.toNat_lt;have h4:=x4.toNat_lt;have h5:=x5.toNat_lt
 rw [show (x2.toNat:Int) * 16777216=((x2.toNat * 16777216:Nat):Int) from by omega,show (x3.toNat:Int) * 65536=((x3.toNat * 65536:Nat):Int) from by omega,show (x4.toNat:Int) * 256=((x4.toNat * 256:Nat):Int) from by omega]
 have l1:=Nat.or_lt_two_pow (n:=32) (x:=x2.toNat * 16777216) (y:=x3.toNat * 65536) (by omega) (by omega)
 have l2:=Nat.or_lt_two_pow (n:=32) (x:=x2.toNat * 16777216 ||| x3.toNat * 65536) (y:=x4.toNat * 256) l1 (by omega)
 rw [i64_or_nat _ _ (by omega) (by omega),i64_or_nat _ _ (by omega) (by omega),i64_or_nat _ _ (by omega) (by omega),numB_or]
theorem wrap64_id {x:Int} (h1:-9223372036854775808≤x) (h2:x < 9223372036854775808):wrap64 x=x:=by unfold wrap64;omega
theorem numB_walk (x2 x3 x4 x5:UInt8):bits .or .i64 (bits .or .i64 (bits .or .i64 (wrap64 (wrap64 (x2.toNat:Int) * 16777216)) (wrap64 (wrap64 (x3.toNat:Int) * 65536))) (wrap64 (wrap64 (x4.toNat:Int) * 256))) (wrap64 (x5.toNat:Int))=((numB x2 x3 x4 x5:Nat):Int):=by
 have h2:=x2.toNat_lt;have h3:=x3.toNat_lt;have h4:=x4.toNat_lt;have h5:=x5.toNat_lt
 rw [wrap64_id (x:=(x2.toNat:Int)) (by omega) (by omega),wrap64_id (x:=(x3.toNat:Int)) (by omega) (by omega),wrap64_id (x:=(x4.toNat:Int)) (by omega) (by omega),wrap64_id (x:=(x5.toNat:Int)) (by omega) (by omega),
  wrap64_id (by omega) (by omega),wrap64_id (by omega) (by omega),wrap64_id (by omega) (by omega),numB_bits]
def isB (l:List UInt8) (k s:Nat):Bool:=(l.drop k).take 4 == lowB s
def numF (l:List UInt8) (k:Nat):Nat:=numB (l[k]?.getD 0) (l[k + 1]?.getD 0) (l[k + 2]?.getD 0) (l[k + 3]?.getD 0)
theorem numF_lt (l:List UInt8) (k:Nat):numF l k < 4294967296:=numB_lt _ _ _ _
def cutF (l:List UInt8) (k m:Nat):List UInt8:=(l.drop k).take m
def readF (l:List UInt8) (k:Nat):List UInt8×Nat×Nat :=
 if l.length < k + 8 then ([],0,10)
 else if isB l (k + 4) (sumL (cutF l k 4))=false then ([],0,12)
 else if 1048576 < numF l k then ([],0,13)
 else if l.length < k + 8 + numF l k + 4 then ([],0,10)
 else if isB l (k + 8 + numF l k) (sumL (cutF l (k + 8) (numF l k)))=false then ([],0,12)
 else (cutF l (k + 8) (numF l k),k + 8 + numF l k + 4,0)
def readFA (l:List UInt8) (a:Int):List UInt8×Nat×Nat:=if a < 0∨(l.length:Int) < a then ([],0,1) else readF l a.toNat
def uintF:Nat→Nat→List UInt8
 | 0,v=>[UInt8.ofNat v]
 | k + 1,v=>if v < 128 then [UInt8.ofNat v] else UInt8.ofNat (v % 128 + 128)::uintF k (v / 128)
def uintB (v:Nat):List UInt8:=uintF v v
theorem uintF_same:∀ (f g v:Nat),v≤f→v≤g→uintF f v=uintF g v:=by
 intro f
 induction f with
 | zero =>
  intro g v h1 h2
  obtain rfl:v=0:=by omega
  cases g <;> rfl
 | succ f ih =>
  intro g v h1 h2
  cases g with
  | zero =>
   obtain rfl:v=0:=by omega
   rfl
  | succ g =>
   simp only [uintF]
   split
   ·rfl
   ·rw [ih g (v / 128) (by omega) (by omega)]
theorem uintB_lt {v:Nat} (h:v < 128):uintB v=[UInt8.ofNat v]:=by
 unfold uintB
 cases v with
 | zero=>rfl
 | succ v=>simp only [uintF];rw [if_pos h]
theorem uintB_ge {v:Nat} (h:128≤v):uintB v=UInt8.ofNat (v % 128 + 128)::uintB (v / 128):=by
 unfold uintB
 cases v with
 | zero=>omega
 | succ v =>
  simp only [uintF]
  rw [if_neg (by omega),uintF_same v ((v + 1) / 128) _ (by omega) (Nat.le_refl _)]
theorem uintB_len:∀ (k v:Nat),v < 128 ^ (k + 1)→(uintB v).length≤k + 1:=by
 intro k
 induction k with
 | zero=>intro v h;rw [uintB_lt (by simpa using h)];simp
 | succ k ih =>
  intro v h
  by_cases hv:v < 128
  ·rw [uintB_lt hv];simp
  ·rw [uintB_ge (by omega),List.length_cons]
   have:=ih (v / 128) (Nat.div_lt_of_lt_mul (by rw [Nat.pow_succ] at h;omega))
   omega
theorem uintB_ten {v:Nat} (h:v < 18446744073709551616):(uintB v).length≤10:=uintB_len 9 v (Nat.lt_trans h (by decide))
theorem uintB_pos (v:Nat):0 < (uintB v).length:=by
 by_cases h:v < 128
 ·rw [uintB_lt h];simp
 ·rw [uintB_ge (by omega)];simp
theorem or128_fin:∀ x:Fin 256,x.val ||| 128=x.val % 128 + 128:=by decide +kernel
theorem or128_walk (V:Nat):bits .or .u8 ((V:Int) % 256) 128=(V:Int) % 128 + 128:=by
 rw [show (V:Int) % 256=((V % 256:Nat):Int) from by omega,show (128:Int)=((128:Nat):Int) from rfl,u8_or_nat _ _ (by omega) (by omega),or128_fin ⟨V % 256,by omega⟩]
 show ((V % 256 % 128 + 128:Nat):Int)=_
 omega
theorem u8v_or (V:Nat):u8v (UInt8.ofNat (V % 128 + 128)) = .int .u8 ((V:Int) % 128 + 128):=by
 unfold u8v
 rw [UInt8.toNat_ofNat',Nat.mod_eq_of_lt (by omega)];congr 1
def rdU:List UInt8→Nat→Nat→Nat×Nat×Nat
 | [],_,_=>(0,0,10)
 | c::r,i,v =>
  if i=9∧1 < c.toNat then (0,0,13)
  else if c.toNat < 128 then (if c.toNat=0∧0 < i then (0,0,11) else (v + c.toNat % 128 * 2 ^ (7 * i),i + 1,0))
  else rdU r (i + 1) (v + c.toNat % 128 * 2 ^ (7 * i))
def readU (l:List UInt8) (a:Int):Nat×Nat×Nat :=
 if a < 0∨(l.length:Int) < a then (0,0,1)
 else if (rdU (l.drop a.toNat) 0 0).2.2=0 then ((rdU (l.drop a.toNat) 0 0).1,a.toNat + (rdU (l.drop a.toNat) 0 0).2.1,0) else (0,0,(rdU (l.drop a.toNat) 0 0).2.2)
theorem and127_walk (x:UInt8):bits .and .u8 (x.toNat:Int) 127=((x.toNat % 128:Nat):Int):=by
 have:=x.toNat_lt
 rw [show (127:Int)=((127:Nat):Int) from rfl,u8_and_nat _ _ (by omega) (by omega),show (127:Nat)=2 ^ 7 - 1 from rfl,Nat.and_two_pow_sub_one_eq_mod]
theorem pow7_le {j:Nat} (h:j≤8):2 ^ (7 * j)≤72057594037927936:=by
 have:2 ^ (7 * j)≤2 ^ 56:=Nat.pow_le_pow_right (by decide) (by omega)
 simpa using this
theorem rd_core (V y m:Nat) (hm:m≤63) (hV:V < 2 ^ m) (hy:y * 2 ^ m < 18446744073709551616):bits .or .u64 (V:Int) (IntKind.u64.wrap (IntKind.u64.wrap (y:Int) * 2 ^ m))=((V + y * 2 ^ m:Nat):Int):=by
 have hp:1≤2 ^ m:=Nat.one_le_two_pow
 have hy1:y < 18446744073709551616:=Nat.lt_of_le_of_lt (Nat.le_mul_of_pos_right y (by omega)) hy
 have e1:IntKind.u64.wrap (y:Int)=(y:Int):=by rw [IntKind.wrap_u64];omega
 have e2:(y:Int) * 2 ^ m=((y * 2 ^ m:Nat):Int):=by rw [Int.natCast_mul,Int.natCast_pow];rfl
 rw [e1,e2]
 have e3:IntKind.u64.wrap ((y * 2 ^ m:Nat):Int)=((y * 2 ^ m:Nat):Int):=by rw [IntKind.wrap_u64];omega
 have hV2:V < 18446744073709551616:=by
  have:2 ^ m≤2 ^ 63:=Nat.pow_le_pow_right (by decide) hm
  omega
 rw [e3,u64_or_nat V _ hV2 hy,Nat.or_comm,shl_or4 y V m hV,Nat.add_comm]
theorem rd_step (V j:Nat) (x:UInt8) (hj:j≤8) (hV:V < 2 ^ (7 * j)):bits .or .u64 (V:Int) (IntKind.u64.wrap (IntKind.u64.wrap (bits .and .u8 (x.toNat:Int) 127) * 2 ^ (7 * j)))=((V + x.toNat % 128 * 2 ^ (7 * j):Nat):Int):=by
 rw [and127_walk]
 refine rd_core V _ _ (by omega) hV ?_
 have h1:=pow7_le hj
 have h2:x.toNat % 128≤127:=by omega
 have:=Nat.mul_le_mul h2 h1
 omega
theorem rd_next (V j x:Nat) (hV:V < 2 ^ (7 * j)):V + x % 128 * 2 ^ (7 * j) < 2 ^ (7 * (j + 1)):=by
 have h2:x % 128≤127:=by omega
 have:=Nat.mul_le_mul_right (2 ^ (7 * j)) h2
 rw [show 7 * (j + 1)=7 * j + 7 from by omega,Nat.pow_add]
 omega
theorem rd_last (V:Nat) (x:UInt8) (hx:x.toNat≤1) (hV:V < 2 ^ 63):bits .or .u64 (V:Int) (IntKind.u64.wrap (IntKind.u64.wrap (bits .and .u8 (x.toNat:Int) 127) * 9223372036854775808))=((V + x.toNat % 128 * 2 ^ (7 * 9):Nat):Int):=by
 rw [and127_walk,show (9223372036854775808:Int)=2 ^ 63 from by decide]
 refine rd_core V _ 63 (by omega) hV ?_
 have h2:x.toNat % 128≤1:=by omega
 have:=Nat.mul_le_mul_right (2 ^ 63) h2
 omega
theorem readU_at {l:List UInt8} {k j V:Nat} {r:Nat×Nat×Nat} (hk:k≤l.length) (hI:rdU (l.drop (k + j)) j V=rdU (l.drop k) 0 0) (hr:rdU (l.drop (k + j)) j V=r):readU l (k:Int)=if r.2.2=0 then (r.1,k + r.2.1,0) else (0,0,r.2.2):=by
 unfold readU
 rw [if_neg (by omega),Int.toNat_natCast,← hI,hr]
theorem pow7_step (i:Nat):2 ^ (7 * (i + 1))=128 * 2 ^ (7 * i):=by
 rw [show 7 * (i + 1)=7 * i + 7 from by omega,Nat.pow_add];omega
theorem rdU_uintB (r:List UInt8):∀ (f i V a:Nat),i + f=9→V * 2 ^ (7 * i) < 18446744073709551616→(V ≠ 0∨i=0)→rdU (uintB V ++ r) i a=(a + V * 2 ^ (7 * i),i + (uintB V).length,0):=by
 intro f
 induction f with
 | zero =>
  intro i V a hi hV h0
  obtain rfl:i=9:=by omega
  have hV1:V≤1:=by
   have:(2:Nat) ^ (7 * 9)=9223372036854775808:=by decide
   rw [this] at hV
   omega
  rw [uintB_lt (by omega)]
  show rdU (UInt8.ofNat V::r) 9 a=_
  unfold rdU
  have e:(UInt8.ofNat V).toNat=V:=by rw [UInt8.toNat_ofNat',Nat.mod_eq_of_lt (by omega)]
  rw [e,if_neg (by omega),if_pos (by omega),if_neg (by omega),Nat.mod_eq_of_lt (by omega)];rfl
 | succ f ih =>
  intro i V a hi hV h0
  by_cases h:V < 128
  ·rw [uintB_lt h]
   show rdU (UInt8.ofNat V::r) i a=_
   unfold rdU
   have e:(UInt8.ofNat V).toNat=V:=by rw [UInt8.toNat_ofNat',Nat.mod_eq_of_lt (by omega)]
   rw [e,if_neg (by omega),if_pos h,if_neg (by omega),Nat.mod_eq_of_lt h];rfl
  ·rw [uintB_ge (by omega)]
   show rdU (UInt8.ofNat (V % 128 + 128)::(uintB (V / 128) ++ r)) i a=_
   have e:(UInt8.ofNat (V % 128 + 128)).toNat=V % 128 + 128:=by rw [UInt8.toNat_ofNat',Nat.mod_eq_of_lt (by omega)]
   have e2:V / 128 * 2 ^ (7 * (i + 1)) + V % 128 * 2 ^ (7 * i)=V * 2 ^ (7 * i):=by
    rw [pow7_step,← Nat.mul_assoc,← Nat.add_mul,Nat.div_add_mod']
   rw [rdU,e,if_neg (by omega),if_neg (by omega),ih (i + 1) (V / 128) _ (by omega) (by omega) (by omega),List.length_cons]
   rw [show (V % 128 + 128) % 128=V % 128 from by omega]
   simp only [Prod.mk.injEq]
   exact ⟨by omega,by omega,trivial⟩
theorem readU_back (p r:List UInt8) (v:Nat) (hv:v < 18446744073709551616):readU (p ++ uintB v ++ r) (p.length:Int)=(v,p.length + (uintB v).length,0):=by
 unfold readU
 have hl:¬((p.length:Int) < 0∨((p ++ uintB v ++ r).length:Int) < (p.length:Int)):=by
  simp only [List.length_append];omega
 rw [if_neg hl,Int.toNat_natCast,List.append_assoc,List.drop_left' rfl,rdU_uintB r 9 0 v 0 rfl (by simpa using hv) (.inr rfl)]
 simp
def cutS (l:List UInt8) (k m:Nat):List UInt8:=(l.drop k).take m
def readBy (l:List UInt8) (a most:Int):List UInt8×Nat×Nat :=
 if a < 0∨(l.length:Int) < a∨most < 0 then ([],0,1)
 else if (readU l a).2.2 ≠ 0 then ([],0,(readU l a).2.2)
 else if most < ((readU l a).1:Int) then ([],0,13)
 else if l.length - (readU l a).2.1 < (readU l a).1 then ([],0,10)
 else (cutS l (readU l a).2.1 (readU l a).1,(readU l a).2.1 + (readU l a).1,0)
theorem rdU_end:∀ (l:List UInt8) (i v:Nat),(rdU l i v).2.2=0→(rdU l i v).2.1≤i + l.length∧i + 1≤(rdU l i v).2.1:=by
 intro l
 induction l with
 | nil=>intro i v h;cases h
 | cons c r ih =>
  intro i v h
  unfold rdU at h ⊢
  split at h
  ·cases h
  ·rename_i h1
   rw [if_neg h1]
   split at h
   ·rename_i h2
    rw [if_pos h2]
    split at h
    ·cases h
    ·rename_i h3
     rw [if_neg h3]
     simp
   ·rename_i h2
    rw [if_neg h2]
    have:=ih _ _ h
    rw [List.length_cons]
    omega
theorem readU_end (l:List UInt8) (a:Int) (h:(readU l a).2.2=0):(readU l a).2.1≤l.length∧0≤a∧a.toNat < (readU l a).2.1:=by
 unfold readU at h ⊢
 split at h
 ·cases h
 ·rename_i h1
  rw [if_neg h1]
  split at h
  ·rename_i h2
   rw [if_pos h2]
   have:=rdU_end _ _ _ h2
   rw [List.length_drop] at this
   simp only
   omega
  ·rename_i h2
   exact absurd h h2
theorem rdU_val:∀ (l:List UInt8) (i v:Nat),i≤9→v < 2 ^ (7 * i)→(rdU l i v).1 < 18446744073709551616:=by
 intro l
 induction l with
 | nil=>intro i v _ _;show 0 < _;omega
 | cons c r ih =>
  intro i v hi hv
  have hc:=c.toNat_lt
  unfold rdU
  split
  ·show 0 < _;omega
  ·rename_i h1
   split
   ·rename_i h2
    split
    ·show 0 < _;omega
    ·simp only
     by_cases h9:i=9
     ·subst h9
      have:(2:Nat) ^ (7 * 9)=9223372036854775808:=by decide
      rw [this] at hv ⊢
      have:c.toNat % 128≤1:=by omega
      omega
     ·have h3:=rd_next v i c.toNat hv
      have h4:2 ^ (7 * (i + 1))≤2 ^ 63:=Nat.pow_le_pow_right (by decide) (by omega)
      omega
   ·rename_i h2
    refine ih (i + 1) _ ?_ (rd_next v i c.toNat hv)
    by_cases h9:i=9
    ·omega
    ·omega
theorem readU_val (l:List UInt8) (a:Int):(readU l a).1 < 18446744073709551616:=by
 unfold readU
 split
 ·show 0 < _;omega
 ·split
  ·exact rdU_val _ 0 0 (by omega) (by decide)
  ·show 0 < _;omega
theorem readBy_back (p r b:List UInt8) (most:Int) (hb:b.length < 18446744073709551616) (hm:(b.length:Int)≤most):readBy (p ++ (uintB b.length ++ b) ++ r) (p.length:Int) most=(b,p.length + (uintB b.length ++ b).length,0):=by
 have h:=readU_back p (b ++ r) b.length hb
 have e:p ++ uintB b.length ++ (b ++ r)=p ++ (uintB b.length ++ b) ++ r:=by simp
 rw [e] at h
 unfold readBy
 rw [h]
 have h1:¬((p.length:Int) < 0∨((p ++ (uintB b.length ++ b) ++ r).length:Int) < (p.length:Int)∨most < 0):=by
  simp only [List.length_append];omega
 rw [if_neg h1,if_neg (by simp),if_neg (by omega),if_neg (by simp only [List.length_append];omega)]
 have c:cutS (p ++ (uintB b.length ++ b) ++ r) (p.length + (uintB b.length).length) b.length=b:=by
  unfold cutS
  rw [show p ++ (uintB b.length ++ b) ++ r=(p ++ uintB b.length) ++ (b ++ r) from by simp,List.drop_left' (by simp),List.take_left' rfl]
 simp only
 rw [c,List.length_append]
 simp;omega
def cmpB:List UInt8→List UInt8→Int
 | [],[]=>0
 | [],_::_=>-1
 | _::_,[]=>1
 | x::a,y::b=>if x.toNat < y.toNat then -1 else if y.toNat < x.toNat then 1 else cmpB a b
theorem cmpB_self (a:List UInt8):cmpB a a=0:=by
 induction a with
 | nil=>rfl
 | cons x a ih=>unfold cmpB;rw [if_neg (by omega),if_neg (by omega)];exact ih
theorem cmpB_drop (a b:List UInt8):∀ k,a.take k=b.take k→cmpB (a.drop k) (b.drop k)=cmpB a b:=by
 intro k
 induction k generalizing a b with
 | zero=>intro _;rfl
 | succ k ih =>
  intro h
  cases a with
  | nil =>
   cases b with
   | nil=>rfl
   | cons y b=>simp at h
  | cons x a =>
   cases b with
   | nil=>simp at h
   | cons y b =>
    simp only [List.take_succ_cons,List.cons.injEq] at h
    obtain ⟨rfl,h⟩:=h
    rw [List.drop_succ_cons,List.drop_succ_cons,ih a b h]
    conv=>rhs;unfold cmpB
    rw [if_neg (by omega),if_neg (by omega)]
def ordC (c:UInt8):List UInt8:=if c.toNat=0 then [0,255] else [c]
def ordB (l:List UInt8):List UInt8:=l.flatMap ordC ++ [0,1]
theorem ordC_len (c:UInt8):(ordC c).length≤2∧1≤(ordC c).length:=by unfold ordC;split <;> simp
theorem ordF_len (l:List UInt8):(l.flatMap ordC).length≤2 * l.length:=by
 induction l with
 | nil=>simp
 | cons c l ih=>rw [List.flatMap_cons,List.length_append,List.length_cons];have:=ordC_len c;omega
theorem ordB_len (l:List UInt8):(ordB l).length≤2 * l.length + 2:=by unfold ordB;rw [List.length_append,show ([0,1]:List UInt8).length=2 from rfl];have:=ordF_len l;omega
theorem cmpB_skip (x:UInt8) (a b:List UInt8):cmpB (x::a) (x::b)=cmpB a b:=by
 conv=>lhs;unfold cmpB
 rw [if_neg (by omega),if_neg (by omega)]
theorem cmpB_lt {x y:UInt8} (h:x.toNat < y.toNat) (a b:List UInt8):cmpB (x::a) (y::b)=-1:=by
 unfold cmpB;rw [if_pos h]
theorem cmpB_gt {x y:UInt8} (h:y.toNat < x.toNat) (a b:List UInt8):cmpB (x::a) (y::b)=1:=by
 unfold cmpB;rw [if_neg (by omega),if_pos h]
theorem ord_sorts (a:List UInt8):∀ b x y:List UInt8,cmpB (ordB a ++ x) (ordB b ++ y)=if cmpB a b=0 then cmpB x y else cmpB a b:=by
 induction a with
 | nil =>
  intro b x y
  cases b with
  | nil =>
   show cmpB (0::1::x) (0::1::y)=_
   rw [cmpB_skip,cmpB_skip];rfl
  | cons d b =>
   show cmpB (0::1::x) ((ordC d ++ b.flatMap ordC) ++ [0,1] ++ y)=-1
   unfold ordC
   split
   ·show cmpB (0::1::x) (0::255::_)=-1
    rw [cmpB_skip,cmpB_lt (by decide)]
   ·exact cmpB_lt (by show 0 < d.toNat;omega) _ _
 | cons c a ih =>
  intro b x y
  cases b with
  | nil =>
   show cmpB ((ordC c ++ a.flatMap ordC) ++ [0,1] ++ x) (0::1::y)=1
   unfold ordC
   split
   ·show cmpB (0::255::_) (0::1::y)=1
    rw [cmpB_skip,cmpB_gt (by decide)]
   ·exact cmpB_gt (by show 0 < c.toNat;omega) _ _
  | cons d b =>
   have e1:ordB (c::a) ++ x=ordC c ++ (ordB a ++ x):=by unfold ordB;simp
   have e2:ordB (d::b) ++ y=ordC d ++ (ordB b ++ y):=by unfold ordB;simp
   rw [e1,e2]
   rcases Nat.lt_trichotomy c.toNat d.toNat with h | h | h
   ·rw [cmpB_lt h,if_neg (by decide)]
    unfold ordC
    rw [if_neg (show ¬ d.toNat=0 by omega)]
    split
    ·exact cmpB_lt (by show 0 < d.toNat;omega) _ _
    ·exact cmpB_lt h _ _
   ·obtain rfl:=UInt8.toNat_inj.1 h
    rw [cmpB_skip]
    unfold ordC
    split
    ·show cmpB (0::255::(ordB a ++ x)) (0::255::(ordB b ++ y))=_
     rw [cmpB_skip,cmpB_skip,ih]
    ·show cmpB (c::(ordB a ++ x)) (c::(ordB b ++ y))=_
     rw [cmpB_skip,ih]
   ·rw [cmpB_gt h,if_neg (by decide)]
    unfold ordC
    rw [if_neg (show ¬ c.toNat=0 by omega)]
    split
    ·exact cmpB_gt (by show 0 < c.toNat;omega) _ _
    ·exact cmpB_gt h _ _
theorem cmpB_swap (a:List UInt8):∀ b,cmpB b a=- cmpB a b:=by
 induction a with
 | nil=>intro b;cases b <;> rfl
 | cons x a ih =>
  intro b
  cases b with
  | nil=>rfl
  | cons y b =>
   rcases Nat.lt_trichotomy x.toNat y.toNat with h | h | h
   ·rw [cmpB_lt h,cmpB_gt h];rfl
   ·obtain rfl:=UInt8.toNat_inj.1 h
    rw [cmpB_skip,cmpB_skip,ih]
   ·rw [cmpB_gt h,cmpB_lt h]
def rTo (v j:Nat):List UInt8:=(List.range 8).map fun t=>if 8 - j≤t then UInt8.ofNat (v / 256 ^ (7 - t)) else 0
def risB (v:Nat):List UInt8:=rTo v 8
theorem rTo_len (v j:Nat):(rTo v j).length=8:=by simp [rTo]
theorem rTo_succ (v j:Nat) (hj:j < 8):rTo v (j + 1)=(rTo v j).set (7 - j) (UInt8.ofNat (v / 256 ^ j)):=by
 apply List.ext_getElem?
 intro t
 rw [List.getElem?_set]
 unfold rTo
 by_cases ht:t < 8
 ·rw [List.getElem?_map,List.getElem?_range ht,List.getElem?_map,List.getElem?_range ht]
  simp only [Option.map_some,List.length_map,List.length_range]
  by_cases e:7 - j=t
  ·rw [if_pos e,if_pos (by omega),if_pos (by omega),show 7 - t=j from by omega]
  ·rw [if_neg e]
   by_cases h:8 - j≤t
   ·rw [if_pos h,if_pos (by omega)]
   ·rw [if_neg h,if_neg (by omega)]
 ·rw [List.getElem?_eq_none (by simp;omega),if_neg (by omega),List.getElem?_eq_none (by simp;omega)]
def big (l:List UInt8):Nat:=l.foldl (fun a c=>a * 256 + c.toNat) 0
theorem big_from (l:List UInt8):∀ a,l.foldl (fun a c=>a * 256 + c.toNat) a=a * 256 ^ l.length + big l:=by
 induction l with
 | nil=>intro a;simp [big]
 | cons c l ih =>
  intro a
  rw [List.foldl_cons,ih]
  unfold big
  rw [List.foldl_cons,ih (0 * 256 + c.toNat),List.length_cons,Nat.pow_succ,Nat.add_mul,Nat.add_mul]
  simp only [Nat.zero_mul,Nat.zero_add]
  rw [Nat.mul_assoc,Nat.mul_comm 256]
  unfold big
  omega
theorem big_cons (c:UInt8) (l:List UInt8):big (c::l)=c.toNat * 256 ^ l.length + big l:=by
 show (c::l).foldl (fun a c=>a * 256 + c.toNat) 0=_
 rw [List.foldl_cons,big_from];simp
theorem big_lt (l:List UInt8):big l < 256 ^ l.length:=by
 induction l with
 | nil=>simp [big]
 | cons c l ih =>
  rw [big_cons,List.length_cons,Nat.pow_succ]
  have hc:=c.toNat_lt
  have h1:c.toNat≤255:=by omega
  have:=Nat.mul_le_mul_right (256 ^ l.length) h1
  omega
theorem cmp_big:∀ (a b:List UInt8),a.length=b.length→cmpB a b=if big a < big b then -1 else if big b < big a then 1 else 0:=by
 intro a
 induction a with
 | nil =>
  intro b h
  cases b with
  | nil=>rfl
  | cons _ _=>cases h
 | cons x a ih =>
  intro b h
  cases b with
  | nil=>cases h
  | cons y b =>
   have hl:a.length=b.length:=by simpa using h
   have ha:=big_lt a
   have hb:=big_lt b
   rw [hl] at ha
   rw [big_cons,big_cons,hl]
   rcases Nat.lt_trichotomy x.toNat y.toNat with h1 | h1 | h1
   ·have h2:=Nat.mul_le_mul_right (256 ^ b.length) (show x.toNat + 1≤y.toNat from h1)
    rw [Nat.add_mul,Nat.one_mul] at h2
    rw [cmpB_lt h1,if_pos (by omega)]
   ·obtain rfl:=UInt8.toNat_inj.1 h1
    rw [cmpB_skip,ih b hl]
    by_cases h3:big a < big b
    ·rw [if_pos h3,if_pos (by omega)]
    ·by_cases h4:big b < big a
     ·rw [if_neg h3,if_pos h4,if_neg (by omega),if_pos (by omega)]
     ·rw [if_neg h3,if_neg h4,if_neg (by omega),if_neg (by omega)]
   ·have h2:=Nat.mul_le_mul_right (256 ^ b.length) (show y.toNat + 1≤x.toNat from h1)
    rw [Nat.add_mul,Nat.one_mul] at h2
    rw [cmpB_gt h1,if_neg (by omega),if_pos (by omega)]
theorem risB_big (v:Nat) (h:v < 18446744073709551616):big (risB v)=v:=by
 have e:risB v=[UInt8.ofNat (v / 72057594037927936),UInt8.ofNat (v / 281474976710656),UInt8.ofNat (v / 1099511627776),UInt8.ofNat (v / 4294967296),UInt8.ofNat (v / 16777216),UInt8.ofNat (v / 65536),UInt8.ofNat (v / 256),UInt8.ofNat v]:=by
  simp [risB,rTo,List.range_succ]
 rw [e]
 unfold big
 simp only [List.foldl_cons,List.foldl_nil,UInt8.toNat_ofNat']
 omega
theorem ris_sorts (m n:Nat) (hm:m < 18446744073709551616) (hn:n < 18446744073709551616):cmpB (risB m) (risB n)=if m < n then -1 else if n < m then 1 else 0:=by
 rw [cmp_big _ _ (by unfold risB;rw [rTo_len,rTo_len]),risB_big m hm,risB_big n hn]
def addO (x:UInt8) (j:Nat) (r:List UInt8×Nat×Nat):List UInt8×Nat×Nat:=if r.2.2=0 then (x::r.1,r.2.1 + j,0) else ([],0,r.2.2)
def rdO:List UInt8→List UInt8×Nat×Nat
 | []=>([],0,10)
 | [_]=>([],0,10)
 | c::d::t=>if c.toNat=0 then (if d.toNat=1 then ([],2,0) else if d.toNat=255 then addO 0 2 (rdO t) else ([],0,11)) else addO c 1 (rdO (d::t))
theorem rdO_ne {c:UInt8} (h:c.toNat ≠ 0) (t:List UInt8):rdO (c::t)=addO c 1 (rdO t):=by
  cases t with
  | nil=>rfl
  | cons d t => conv => lhs; unfold rdO
                rw [if_neg h]
theorem rdO_one {c d:UInt8} (h:c.toNat=0) (h1:d.toNat=1) (t:List UInt8):rdO (c::d::t)=([],2,0):=by
 conv=>lhs;unfold rdO
 rw [if_pos h,if_pos h1]
theorem rdO_zero {c d:UInt8} (h:c.toNat=0) (h1:d.toNat=255) (t:List UInt8):rdO (c::d::t)=addO 0 2 (rdO t):=by
 conv=>lhs;unfold rdO
 rw [if_pos h,if_neg (by omega),if_pos h1]
theorem rdO_form {c d:UInt8} (h:c.toNat=0) (h1:d.toNat ≠ 1) (h2:d.toNat ≠ 255) (t:List UInt8):rdO (c::d::t)=([],0,11):=by
 conv=>lhs;unfold rdO
 rw [if_pos h,if_neg h1,if_neg h2]
theorem ordB_cons (c:UInt8) (s:List UInt8):ordB (c::s)=ordC c ++ ordB s:=by unfold ordB;simp
theorem ordC_zero:ordC 0=[0,255]:=rfl
theorem ordC_ne {c:UInt8} (h:c.toNat ≠ 0):ordC c=[c]:=by unfold ordC;rw [if_neg h]
theorem rdO_ord:∀ (n:Nat) (l:List UInt8),l.length≤n→(rdO l).2.2=0→ordB (rdO l).1=l.take (rdO l).2.1∧(rdO l).2.1≤l.length∧2≤(rdO l).2.1∧(rdO l).1.length≤l.length:=by
 intro n
 induction n with
 | zero =>
  intro l hl h
  obtain rfl:=List.eq_nil_of_length_eq_zero (show l.length=0 by omega)
  exact absurd h (by decide)
 | succ n ih =>
  intro l hl h
  match l,hl,h with
  | [],_,h=>exact absurd h (by decide)
  | [c],_,h=>exact absurd h (by show ¬ (10=0);decide)
  | c::d::t,hl,h =>
   simp only [List.length_cons] at hl
   by_cases hc:c.toNat=0
   ·by_cases h1:d.toNat=1
    ·rw [rdO_one hc h1]
     obtain rfl:=UInt8.toNat_inj.1 (show c.toNat=(0:UInt8).toNat from hc)
     obtain rfl:=UInt8.toNat_inj.1 (show d.toNat=(1:UInt8).toNat from h1)
     exact ⟨rfl,by simp,by simp,by simp⟩
    ·by_cases h2:d.toNat=255
     ·rw [rdO_zero hc h2] at h ⊢
      have h0:(rdO t).2.2=0:=by unfold addO at h;split at h <;> assumption
      obtain ⟨e1,e2,e3,e4⟩:=ih t (by omega) h0
      obtain rfl:=UInt8.toNat_inj.1 (show c.toNat=(0:UInt8).toNat from hc)
      obtain rfl:=UInt8.toNat_inj.1 (show d.toNat=(255:UInt8).toNat from h2)
      unfold addO
      rw [if_pos h0]
      refine ⟨?_,by simp <;> omega,by simp <;> omega,by simp <;> omega⟩
      show ordB (0::(rdO t).1)=_
      rw [ordB_cons,ordC_zero,e1]
      simp
     ·rw [rdO_form hc h1 h2] at h
      exact absurd h (by show ¬ (11=0);decide)
   ·rw [rdO_ne hc] at h ⊢
    have h0:(rdO (d::t)).2.2=0:=by unfold addO at h;split at h <;> assumption
    obtain ⟨e1,e2,e3,e4⟩:=ih (d::t) (by simp;omega) h0
    unfold addO
    rw [if_pos h0]
    refine ⟨?_,by simp only [List.length_cons] at e2 ⊢;omega,by show 2≤_ + 1;omega,by simp only [List.length_cons] at e4 ⊢;omega⟩
    show ordB (c::(rdO (d::t)).1)=_
    rw [ordB_cons,ordC_ne hc,e1]
    simp
theorem rdO_back (s:List UInt8):∀ r,rdO (ordB s ++ r)=(s,(ordB s).length,0):=by
 induction s with
 | nil=>intro r;exact rdO_one rfl rfl r
 | cons c s ih =>
  intro r
  rw [ordB_cons]
  by_cases hc:c.toNat=0
  ·obtain rfl:=UInt8.toNat_inj.1 (show c.toNat=(0:UInt8).toNat from hc)
   rw [ordC_zero]
   show rdO (0::255::(ordB s ++ r))=_
   rw [rdO_zero rfl rfl,ih]
   rfl
  ·rw [ordC_ne hc]
   show rdO (c::(ordB s ++ r))=_
   rw [rdO_ne hc,ih]
   rfl
def glO (out:List UInt8) (k:Nat) (r:List UInt8×Nat×Nat):List UInt8×Nat×Nat:=if r.2.2=0 then (out ++ r.1,k + r.2.1,0) else ([],0,r.2.2)
theorem glO_add (out:List UInt8) (k:Nat) (x:UInt8) (j:Nat) (r:List UInt8×Nat×Nat):glO out k (addO x j r)=glO (out ++ [x]) (k + j) r:=by
 unfold glO addO
 by_cases h:r.2.2=0
 ·simp [h];omega
 ·simp [h]
def readO (l:List UInt8) (a:Int):List UInt8×Nat×Nat:=if a < 0∨(l.length:Int) < a then ([],0,1) else glO [] a.toNat (rdO (l.drop a.toNat))
theorem readO_in {l:List UInt8} {k:Nat} (h:k≤l.length):readO l (k:Int)=glO [] k (rdO (l.drop k)):=by
 unfold readO;rw [if_neg (by omega)];rfl
theorem readO_end (l:List UInt8) (a:Int) (h:(readO l a).2.2=0):ordB (readO l a).1=cutS l a.toNat ((readO l a).2.1 - a.toNat)∧(readO l a).2.1≤l.length∧0≤a∧a.toNat < (readO l a).2.1∧(readO l a).1.length≤l.length:=by
 unfold readO at h ⊢
 by_cases ha:a < 0∨(l.length:Int) < a
 ·rw [if_pos ha] at h;exact absurd h (by decide)
 ·rw [if_neg ha] at h ⊢
  have h0:(rdO (l.drop a.toNat)).2.2=0:=by unfold glO at h;split at h <;> assumption
  obtain ⟨e1,e2,e3,e4⟩:=rdO_ord _ (l.drop a.toNat) (Nat.le_refl _) h0
  unfold glO
  rw [if_pos h0]
  rw [List.length_drop] at e2 e4
  refine ⟨?_,by simp;omega,by omega,by simp;omega,by simp;omega⟩
  show ordB ([] ++ (rdO (l.drop a.toNat)).1)=cutS l a.toNat (a.toNat + (rdO (l.drop a.toNat)).2.1 - a.toNat)
  rw [List.nil_append,e1,Nat.add_sub_cancel_left]
  rfl
theorem readO_back (p s r:List UInt8):readO (p ++ ordB s ++ r) (p.length:Int)=(s,p.length + (ordB s).length,0):=by
 rw [readO_in (by simp <;> omega),List.append_assoc,List.drop_left,rdO_back]
 unfold glO
 rw [if_pos rfl,List.nil_append]
theorem big_snoc (l:List UInt8) (c:UInt8):big (l ++ [c])=big l * 256 + c.toNat:=by simp [big,List.foldl_append]
theorem big_top {c:UInt8} {t:List UInt8} (hc:c.toNat≤127) (ht:t.length≤6):big (c::t) < 36028797018963968:=by
 have h1:=big_lt t
 rw [big_cons]
 have h2:=Nat.pow_le_pow_right (show 0 < 256 by decide) ht
 have h3:c.toNat * 256 ^ t.length≤127 * 256 ^ t.length:=Nat.mul_le_mul_right _ hc
 have h4:(256:Nat) ^ 6=281474976710656:=by decide
 omega
theorem big_take {l:List UInt8} (h0:(l[0]?.getD 0).toNat≤127) {j:Nat} (hj:j≤7):big (l.take j) < 36028797018963968:=by
 cases j with
 | zero=>simp [big]
 | succ j =>
  cases l with
  | nil=>simp [big]
  | cons c t =>
   rw [List.take_succ_cons]
   exact big_top h0 (by rw [List.length_take];omega)
theorem or_step (N:Nat) (c:UInt8) (h:N < 36028797018963968):bits .or .i64 ((N:Int) * 256) (c.toNat:Int)=((N * 256 + c.toNat:Nat):Int):=by
 have hc:=c.toNat_lt
 rw [show (N:Int) * 256=((N * 256:Nat):Int) from by omega,i64_or_nat _ _ (by omega) (by omega),shl_or4 N c.toNat 8 hc]
theorem big_risB {l:List UInt8} (h:l.length=8):risB (big l)=l:=by
 have e:∀ v,risB v=[UInt8.ofNat (v / 72057594037927936),UInt8.ofNat (v / 281474976710656),UInt8.ofNat (v / 1099511627776),UInt8.ofNat (v / 4294967296),UInt8.ofNat (v / 16777216),UInt8.ofNat (v / 65536),UInt8.ofNat (v / 256),UInt8.ofNat v]:=by
  intro v;simp [risB,rTo,List.range_succ]
 match l,h with
 | [x1,x2,x3,x4,x5,x6,x7,x8],_ =>
  rw [e]
  have h1:=x1.toNat_lt;have h2:=x2.toNat_lt;have h3:=x3.toNat_lt;have h4:=x4.toNat_lt;have h5:=x5.toNat_lt;have h6:=x6.toNat_lt;have h7:=x7.toNat_lt;have h8:=x8.toNat_lt
  have hb:big [x1,x2,x3,x4,x5,x6,x7,x8]=((((((x1.toNat * 256 + x2.toNat) * 256 + x3.toNat) * 256 + x4.toNat) * 256 + x5.toNat) * 256 + x6.toNat) * 256 + x7.toNat) * 256 + x8.toNat:=by
   simp [big]
  have q:∀ (x:UInt8) (v:Nat),v % 256=x.toNat→UInt8.ofNat v=x:=fun x v hv=>UInt8.toNat_inj.1 (by rw [UInt8.toNat_ofNat'];exact hv)
  rw [q x1 _ (by rw [hb];omega),q x2 _ (by rw [hb];omega),q x3 _ (by rw [hb];omega),q x4 _ (by rw [hb];omega),q x5 _ (by rw [hb];omega),q x6 _ (by rw [hb];omega),q x7 _ (by rw [hb];omega),q x8 _ (by rw [hb];omega)]
def readR (l:List UInt8) (a:Int):Nat×Nat×Nat :=
 if a < 0∨(l.length:Int) < a then (0,0,1) else if l.length < a.toNat + 8 then (0,0,10) else if 127 < (l[a.toNat]?.getD 0).toNat then (0,0,13) else (big (cutS l a.toNat 8),a.toNat + 8,0)
theorem big_half {l:List UInt8} (h:l.length=8) (h0:(l[0]?.getD 0).toNat≤127):big l < 9223372036854775808:=by
 match l,h with
 | c::t,h =>
  have h1:=big_lt t
  have h2:t.length=7:=by simpa using h
  have h3:c.toNat≤127:=h0
  rw [big_cons,h2]
  rw [h2] at h1
  have h4:(256:Nat) ^ 7=72057594037927936:=by decide
  omega
theorem readR_end (l:List UInt8) (a:Int) (h:(readR l a).2.2=0):risB (readR l a).1=cutS l a.toNat ((readR l a).2.1 - a.toNat)∧(readR l a).2.1≤l.length∧0≤a∧a.toNat < (readR l a).2.1∧(readR l a).1 < 9223372036854775808:=by
 unfold readR at h ⊢
 by_cases ha:a < 0∨(l.length:Int) < a
 ·rw [if_pos ha] at h;exact absurd h (by decide)
 rw [if_neg ha] at h ⊢
 by_cases hb:l.length < a.toNat + 8
 ·rw [if_pos hb] at h;exact absurd h (by decide)
 rw [if_neg hb] at h ⊢
 by_cases hc:127 < (l[a.toNat]?.getD 0).toNat
 ·rw [if_pos hc] at h;exact absurd h (by decide)
 rw [if_neg hc]
 have hl:(cutS l a.toNat 8).length=8:=by unfold cutS;rw [List.length_take,List.length_drop];omega
 refine ⟨?_,by show a.toNat + 8≤_;omega,by omega,by show _ < a.toNat + 8;omega,?_⟩
 ·show risB (big (cutS l a.toNat 8))=cutS l a.toNat (a.toNat + 8 - a.toNat)
  rw [Nat.add_sub_cancel_left,big_risB hl]
 ·refine big_half hl ?_
  have e:(cutS l a.toNat 8)[0]?=l[a.toNat]?:=by unfold cutS;rw [List.getElem?_take_of_lt (by omega),List.getElem?_drop,Nat.add_zero]
  rw [e];omega
theorem risB_head (v:Nat) (hv:v < 9223372036854775808) (r:List UInt8):(((risB v) ++ r)[0]?.getD 0).toNat≤127:=by
 have e:risB v ++ r=UInt8.ofNat (v / 72057594037927936)::([UInt8.ofNat (v / 281474976710656),UInt8.ofNat (v / 1099511627776),UInt8.ofNat (v / 4294967296),UInt8.ofNat (v / 16777216),UInt8.ofNat (v / 65536),UInt8.ofNat (v / 256),UInt8.ofNat v] ++ r):=by
  simp [risB,rTo,List.range_succ]
 rw [e]
 show (UInt8.ofNat (v / 72057594037927936)).toNat≤127
 rw [UInt8.toNat_ofNat'];omega
theorem readR_back (p r:List UInt8) (v:Nat) (hv:v < 9223372036854775808):readR (p ++ risB v ++ r) (p.length:Int)=(v,p.length + 8,0):=by
 have hl:(risB v).length=8:=rTo_len v 8
 unfold readR
 rw [if_neg (by simp;omega),Int.toNat_natCast,if_neg (by simp only [List.length_append,hl];omega)]
 have e:(p ++ risB v ++ r)[p.length]?=(risB v ++ r)[0]?:=by rw [List.append_assoc,List.getElem?_append_right (Nat.le_refl _),Nat.sub_self]
 rw [e,if_neg (by have:=risB_head v hv r;omega)]
 have c:cutS (p ++ risB v ++ r) p.length 8=risB v:=by unfold cutS;rw [List.append_assoc,List.drop_left,← hl,List.take_left]
 rw [c,risB_big v (by omega)]
def readFl (l:List UInt8) (a:Int):Nat×Nat×Nat:=if (readR l a).2.2=0 then (9223372036854775807 - (readR l a).1,(readR l a).2.1,0) else (0,0,(readR l a).2.2)
theorem readFl_end (l:List UInt8) (a:Int) (h:(readFl l a).2.2=0):risB (9223372036854775807 - (readFl l a).1)=cutS l a.toNat ((readFl l a).2.1 - a.toNat)∧(readFl l a).2.1≤l.length∧0≤a∧a.toNat < (readFl l a).2.1∧(readFl l a).1 < 9223372036854775808:=by
 unfold readFl at h ⊢
 by_cases h0:(readR l a).2.2=0
 ·rw [if_pos h0]
  obtain ⟨e1,e2,e3,e4,e5⟩:=readR_end l a h0
  refine ⟨?_,e2,e3,e4,by show 9223372036854775807 - (readR l a).1 < _;omega⟩
  show risB (9223372036854775807 - (9223372036854775807 - (readR l a).1))=_
  rw [show 9223372036854775807 - (9223372036854775807 - (readR l a).1)=(readR l a).1 from by omega,e1]
 ·rw [if_neg h0] at h;exact absurd h h0
theorem readFl_back (p r:List UInt8) (v:Nat) (hv:v < 9223372036854775808):readFl (p ++ risB (9223372036854775807 - v) ++ r) (p.length:Int)=(v,p.length + 8,0):=by
 unfold readFl
 rw [readR_back p r _ (by omega),if_pos rfl]
 show (9223372036854775807 - (9223372036854775807 - v),_,_)=_
 rw [show 9223372036854775807 - (9223372036854775807 - v)=v from by omega]
theorem cutS_app (l:List UInt8) {a q p:Nat} (h1:a≤q) (h2:q≤p):cutS l a (q - a) ++ cutS l q (p - q)=cutS l a (p - a):=by
 unfold cutS
 have e:l.drop q=(l.drop a).drop (q - a):=by rw [List.drop_drop];congr 1;omega
 rw [e,show p - a=(q - a) + (p - q) from by omega,List.take_add]
theorem rdU_canon:∀ (l:List UInt8) (i v:Nat),(rdU l i v).2.2=0→∃ V,(rdU l i v).1=v + V * 2 ^ (7 * i)∧uintB V=l.take ((rdU l i v).2.1 - i)∧(V ≠ 0∨i=0)∧i < (rdU l i v).2.1:=by
 intro l
 induction l with
 | nil=>intro i v h;cases h
 | cons c r ih =>
  intro i v h
  unfold rdU at h ⊢
  split at h
  ·cases h
  ·rename_i h1
   rw [if_neg h1]
   split at h
   ·rename_i h2
    rw [if_pos h2]
    split at h
    ·cases h
    ·rename_i h3
     rw [if_neg h3]
     refine ⟨c.toNat,?_,?_,by omega,by simp⟩
     ·show v + c.toNat % 128 * 2 ^ (7 * i)=_
      rw [Nat.mod_eq_of_lt h2]
     ·show uintB c.toNat=(c::r).take (i + 1 - i)
      rw [Nat.add_sub_cancel_left,uintB_lt h2]
      simp
   ·rename_i h2
    rw [if_neg h2]
    obtain ⟨V,e1,e2,e3,e4⟩:=ih _ _ h
    have hc:=c.toNat_lt
    refine ⟨c.toNat % 128 + 128 * V,?_,?_,by omega,by omega⟩
    ·rw [e1,pow7_step,Nat.add_mul,Nat.mul_comm 128 V,Nat.mul_assoc,Nat.add_assoc]
    ·rw [uintB_ge (by omega),show (c.toNat % 128 + 128 * V) % 128 + 128=c.toNat from by omega,show (c.toNat % 128 + 128 * V) / 128=V from by omega,e2]
     generalize (rdU r (i + 1) (v + c.toNat % 128 * 2 ^ (7 * i))).2.1=q at e4 ⊢
     rw [show q - i=(q - (i + 1)) + 1 from by omega,List.take_succ_cons]
     congr 1
     exact UInt8.toNat_inj.1 (by rw [UInt8.toNat_ofNat'];omega)
theorem readU_canon (l:List UInt8) (a:Int) (h:(readU l a).2.2=0):uintB (readU l a).1=cutS l a.toNat ((readU l a).2.1 - a.toNat):=by
 unfold readU at h ⊢
 split at h
 ·cases h
 ·rename_i h1
  rw [if_neg h1]
  split at h
  ·rename_i h2
   rw [if_pos h2]
   obtain ⟨V,e1,e2,_,_⟩:=rdU_canon _ _ _ h2
   show uintB (rdU (l.drop a.toNat) 0 0).1=cutS l a.toNat (a.toNat + (rdU (l.drop a.toNat) 0 0).2.1 - a.toNat)
   rw [e1,Nat.add_sub_cancel_left]
   simp only [Nat.mul_zero,Nat.pow_zero,Nat.mul_one,Nat.zero_add]
   rw [e2,Nat.sub_zero]
   rfl
  ·rename_i h2
   exact absurd h h2
theorem cutS_len (l:List UInt8) {k m:Nat} (h:k + m≤l.length):(cutS l k m).length=m:=by unfold cutS;rw [List.length_take,List.length_drop];omega
theorem readBy_end (l:List UInt8) (a most:Int) (h:(readBy l a most).2.2=0):uintB (readBy l a most).1.length ++ (readBy l a most).1=cutS l a.toNat ((readBy l a most).2.1 - a.toNat)∧(readBy l a most).2.1≤l.length∧0≤a∧a.toNat < (readBy l a most).2.1∧(readBy l a most).1.length≤l.length:=by
 unfold readBy at h ⊢
 split at h
 ·cases h
 ·rename_i h1
  rw [if_neg h1]
  split at h
  ·rename_i h2;exact absurd h h2
  ·rename_i h2
   rw [if_neg h2]
   split at h
   ·cases h
   ·rename_i h3
    rw [if_neg h3]
    split at h
    ·cases h
    ·rename_i h4
     rw [if_neg h4]
     have hu:(readU l a).2.2=0:=by omega
     obtain ⟨e1,e2,e3⟩:=readU_end l a hu
     have e4:=readU_canon l a hu
     generalize readU l a=r at *
     have hl:=cutS_len l (k:=r.2.1) (m:=r.1) (by omega)
     refine ⟨?_,by show r.2.1 + r.1≤_;omega,e2,by show _ < r.2.1 + r.1;omega,by show (cutS l r.2.1 r.1).length≤_;omega⟩
     show uintB (cutS l r.2.1 r.1).length ++ cutS l r.2.1 r.1=cutS l a.toNat (r.2.1 + r.1 - a.toNat)
     rw [hl,e4,← cutS_app l (a:=a.toNat) (q:=r.2.1) (p:=r.2.1 + r.1) (by omega) (by omega),Nat.add_sub_cancel_left]
structure Ent where
  row:List UInt8
  fam:Int
  qual:List UInt8
  ts:Int
  seq:Int
  kind:Int
  val:List UInt8
def checkN (r:Nat) (f:Int) (q:Nat) (t s k:Int) (v:Nat):Int :=
 if r < 1∨256 < r then 20 else if f < 0∨7 < f then 21 else if 256 < q∨(k=5∧0 < q) then 22 else if t < 1∨1099511627776 < t then 23
 else if s < 0∨17592186044431 < s then 24 else if k < 1∨5 < k then 25 else if 4096 < v∨(k ≠ 1∧0 < v) then 26 else 0
def checkE (e:Ent):Int:=checkN e.row.length e.fam e.qual.length e.ts e.seq e.kind e.val.length
structure OkE (e:Ent):Prop where
  row:1≤e.row.length∧e.row.length≤256
  fam:0≤e.fam∧e.fam≤7
  qual:e.qual.length≤256∧(e.kind=5→e.qual=[])
  ts:1≤e.ts∧e.ts≤1099511627776
  seq:0≤e.seq∧e.seq≤17592186044431
  kind:1≤e.kind∧e.kind≤5
  val:e.val.length≤4096∧(e.kind ≠ 1→e.val=[])
theorem checkN_ok {r:Nat} {f:Int} {q:Nat} {t s k:Int} {v:Nat} (h:checkN r f q t s k v=0) :
  ¬ (r < 1∨256 < r)∧¬ (f < 0∨7 < f)∧¬ (256 < q∨(k=5∧0 < q))∧¬ (t < 1∨1099511627776 < t)∧¬ (s < 0∨17592186044431 < s)∧¬ (k < 1∨5 < k)∧¬ (4096 < v∨(k ≠ 1∧0 < v)):=by
 unfold checkN at h
 repeat' split at h
 all_goals first | exact absurd h (by decide) | exact ⟨by assumption,by assumption,by assumption,by assumption,by assumption,by assumption,by assumption⟩
theorem ok_of {e:Ent} (h:checkE e=0):OkE e:=by
 obtain ⟨h1,h2,h3,h4,h5,h6,h7⟩:=checkN_ok h
 refine ⟨by omega,by omega,⟨by omega,fun hk=>List.eq_nil_of_length_eq_zero ?_⟩,by omega,by omega,by omega,⟨by omega,fun hk=>List.eq_nil_of_length_eq_zero ?_⟩⟩
 ·have:=fun hp=>h3 (.inr ⟨hk,hp⟩);omega
 ·have:=fun hp=>h7 (.inr ⟨hk,hp⟩);omega
theorem of_ok {e:Ent} (h:OkE e):checkE e=0:=by
 obtain ⟨h1,h2,⟨h3,h3'⟩,h4,h5,h6,h7,h7'⟩:=h
 unfold checkE checkN
 rw [if_neg (by omega),if_neg (by omega),if_neg,if_neg (by omega),if_neg (by omega),if_neg (by omega),if_neg]
 ·rintro (h | ⟨h,h'⟩)
  ·omega
  ·rw [h7' h] at h';simp at h'
 ·rintro (h | ⟨h,h'⟩)
  ·omega
  ·rw [h3' h] at h';simp at h'
def seqC (a b:Int):Int:=if a=0 then b else a
def cmpI (a b:Int):Int:=if a < b then -1 else if b < a then 1 else 0
def firstI (x y:Bool):Int:=if x=y then 0 else if x then -1 else 1
def cmpE (a b:Ent):Int :=
 seqC (cmpB a.row b.row) (seqC (cmpI a.fam b.fam) (seqC (firstI (a.kind == 5) (b.kind == 5)) (seqC (cmpB a.qual b.qual) (seqC (firstI (a.kind == 4) (b.kind == 4))
  (seqC (cmpI b.ts a.ts) (seqC (cmpI b.seq a.seq) (cmpI a.kind b.kind)))))))
structure Ord3 (c:Ent→Ent→Int):Prop where
  swap:∀ a b,c b a=- c a b
  trans:∀ a b d,c a b≤0→c b d≤0→c a d≤0
  eq:∀ a b d,c a b=0→c a d=c b d
theorem Ord3.seq {c1 c2:Ent→Ent→Int} (h1:Ord3 c1) (h2:Ord3 c2):Ord3 fun a b=>seqC (c1 a b) (c2 a b):=by
 refine ⟨fun a b=>?_,fun a b d hab hbd=>?_,fun a b d hab=>?_⟩
 ·have e1:=h1.swap a b;have e2:=h2.swap a b
  simp only [seqC,e1,e2]
  split <;> split <;> omega
 ·simp only [seqC] at hab hbd ⊢
  have q1:c1 a b≤0:=by split at hab <;> omega
  have q2:c1 b d≤0:=by split at hbd <;> omega
  have q3:=h1.trans a b d q1 q2
  by_cases h0:c1 a d=0
  ·have e1:=h1.eq a d b h0
   have e2:=h1.swap b d
   have z1:c1 a b=0:=by omega
   have z2:c1 b d=0:=by omega
   rw [if_pos z1] at hab
   rw [if_pos z2] at hbd
   rw [if_pos h0]
   exact h2.trans a b d hab hbd
  ·rw [if_neg h0];exact q3
 ·simp only [seqC] at hab ⊢
  have z1:c1 a b=0:=by split at hab <;> omega
  rw [if_pos z1] at hab
  rw [h1.eq a b d z1,h2.eq a b d hab]
theorem cmpB_zero:∀ a b:List UInt8,cmpB a b=0→a=b:=by
 intro a
 induction a with
 | nil=>intro b h;cases b with
  | nil=>rfl
  | cons y b=>simp [cmpB] at h
 | cons x a ih =>
  intro b h
  cases b with
  | nil=>simp [cmpB] at h
  | cons y b =>
   unfold cmpB at h
   split at h
   ·exact absurd h (by decide)
   ·split at h
    ·exact absurd h (by decide)
    ·rw [ih b h,show x=y from UInt8.toNat_inj.1 (by omega)]
theorem cmpB_trans:∀ a b d:List UInt8,cmpB a b≤0→cmpB b d≤0→cmpB a d≤0:=by
 intro a
 induction a with
 | nil=>intro b d _ _;cases d <;> simp [cmpB]
 | cons x a ih =>
  intro b d h1 h2
  cases b with
  | nil=>simp [cmpB] at h1
  | cons y b =>
   cases d with
   | nil=>simp [cmpB] at h2
   | cons z d =>
    unfold cmpB at h1 h2 ⊢
    split at h1
    ·split at h2
     ·rw [if_pos (by omega)];decide
     ·split at h2
      ·exact absurd h2 (by decide)
      ·rw [if_pos (by omega)];decide
    ·split at h1
     ·exact absurd h1 (by decide)
     ·split at h2
      ·rw [if_pos (by omega)];decide
      ·split at h2
       ·exact absurd h2 (by decide)
       ·rw [if_neg (by omega),if_neg (by omega)];exact ih b d h1 h2
theorem ord_bytes (f:Ent→List UInt8):Ord3 fun a b=>cmpB (f a) (f b) :=
 ⟨fun a b=>cmpB_swap _ _,fun a b d h1 h2=>cmpB_trans _ _ _ h1 h2,fun a b d h=>by show cmpB (f a) (f d)=cmpB (f b) (f d);rw [cmpB_zero _ _ h]⟩
theorem ord_int (f:Ent→Int):Ord3 fun a b=>cmpI (f a) (f b) :=
 ⟨fun a b=>by simp only [cmpI];(repeat' split) <;> omega,fun a b d h1 h2=>by simp only [cmpI] at *;(repeat' split) <;> (repeat' split at h1) <;> (repeat' split at h2) <;> omega,
  fun a b d h=>by simp only [cmpI] at *;(repeat' split) <;> (repeat' split at h) <;> omega⟩
theorem ord_tni (f:Ent→Int):Ord3 fun a b=>cmpI (f b) (f a) :=
 ⟨fun a b=>by simp only [cmpI];(repeat' split) <;> omega,fun a b d h1 h2=>by simp only [cmpI] at *;(repeat' split) <;> (repeat' split at h1) <;> (repeat' split at h2) <;> omega,
  fun a b d h=>by simp only [cmpI] at *;(repeat' split) <;> (repeat' split at h) <;> omega⟩
theorem ord_first (f:Ent→Bool):Ord3 fun a b=>firstI (f a) (f b) :=
 ⟨fun a b=>by cases f a <;> cases f b <;> decide,fun a b d=>by cases f a <;> cases f b <;> cases f d <;> decide,fun a b d=>by cases f a <;> cases f b <;> cases f d <;> decide⟩
theorem ord_E:Ord3 cmpE :=
 (ord_bytes Ent.row).seq ((ord_int Ent.fam).seq ((ord_first fun e=>e.kind == 5).seq ((ord_bytes Ent.qual).seq ((ord_first fun e=>e.kind == 4).seq
  ((ord_tni Ent.ts).seq ((ord_tni Ent.seq).seq (ord_int Ent.kind)))))))
def flg (b:Bool):UInt8:=if b then 0 else 1
def numK (t:Int):List UInt8:=risB (9223372036854775807 - t.toNat)
def qualK (e:Ent):List UInt8:=if e.kind=5 then [] else ordB e.qual ++ [flg (e.kind == 4)]
def tailK (e:Ent):List UInt8:=numK e.ts ++ (numK e.seq ++ [UInt8.ofNat e.kind.toNat])
def keyE (e:Ent):List UInt8:=ordB e.row ++ (UInt8.ofNat e.fam.toNat::flg (e.kind == 5)::(qualK e ++ tailK e))
theorem risB_len (v:Nat):(risB v).length=8:=rTo_len v 8
theorem cmpB_cc (c d:UInt8) (x y:List UInt8):cmpB (c::x) (d::y)=if c.toNat < d.toNat then -1 else if d.toNat < c.toNat then 1 else cmpB x y:=by rw [cmpB]
theorem cmp_app:∀ (a b:List UInt8),a.length=b.length→∀ x y,cmpB (a ++ x) (b ++ y)=seqC (cmpB a b) (cmpB x y)
 | [],[],_,x,y=>by simp [seqC,cmpB]
 | [],_::_,h,_,_=>by simp at h
 | _::_,[],h,_,_=>by simp at h
 | c::a,d::b,h,x,y=>by
  have ih:=cmp_app a b (by simpa using h) x y
  rw [List.cons_append,List.cons_append,cmpB_cc,cmpB_cc]
  split
  ·rfl
  ·split
   ·rfl
   ·exact ih
theorem cmp_ord (a b x y:List UInt8):cmpB (ordB a ++ x) (ordB b ++ y)=seqC (cmpB a b) (cmpB x y):=ord_sorts a b x y
theorem cmp_one (c d:UInt8) (x y:List UInt8):cmpB (c::x) (d::y)=seqC (cmpI c.toNat d.toNat) (cmpB x y):=by
 rw [cmpB_cc]
 unfold cmpI seqC
 by_cases h1:c.toNat < d.toNat
 ·have h1':(c.toNat:Int) < d.toNat:=by omega
  simp only [if_pos h1,if_pos h1'];rfl
 ·have h1':¬ (c.toNat:Int) < d.toNat:=by omega
  simp only [if_neg h1,if_neg h1']
  by_cases h2:d.toNat < c.toNat
  ·have h2':(d.toNat:Int) < c.toNat:=by omega
   simp only [if_pos h2,if_pos h2'];rfl
  ·have h2':¬ (d.toNat:Int) < c.toNat:=by omega
   simp only [if_neg h2,if_neg h2'];rfl
theorem byte_val {t:Int} (h0:0≤t) (h1:t≤255):((UInt8.ofNat t.toNat).toNat:Int)=t:=by
 rw [UInt8.toNat_ofNat'];omega
theorem cmp_num {a b:Int} (ha:0≤a) (hb:0≤b) (ha':a≤17592186044431) (hb':b≤17592186044431):cmpB (numK a) (numK b)=cmpI b a:=by
 unfold numK cmpI
 rw [ris_sorts _ _ (by omega) (by omega)]
 by_cases h1:b < a
 ·rw [if_pos h1,if_pos (by omega)]
 ·rw [if_neg h1,if_neg (by omega)]
  by_cases h2:a < b
  ·rw [if_pos h2,if_pos (by omega)]
  ·rw [if_neg h2,if_neg (by omega)]
theorem cmp_flg (x y:Bool):cmpI (flg x).toNat (flg y).toNat=firstI x y:=by cases x <;> cases y <;> decide
theorem seqC_zero (a:Int):seqC a 0=a:=by unfold seqC;split <;> omega
theorem tail_sorts {a b:Ent} (ha:OkE a) (hb:OkE b):cmpB (tailK a) (tailK b)=seqC (cmpI b.ts a.ts) (seqC (cmpI b.seq a.seq) (cmpI a.kind b.kind)):=by
 have t1:=ha.ts;have t2:=hb.ts;have s1:=ha.seq;have s2:=hb.seq;have k1:=ha.kind;have k2:=hb.kind
 unfold tailK
 rw [cmp_app _ _ (by unfold numK;rw [risB_len,risB_len]),cmp_app _ _ (by unfold numK;rw [risB_len,risB_len]),cmp_num (by omega) (by omega) (by omega) (by omega),cmp_num (by omega) (by omega) (by omega) (by omega),
  cmp_one,byte_val (by omega) (by omega),byte_val (by omega) (by omega),show cmpB ([]:List UInt8) []=0 from rfl,seqC_zero]
theorem key_sorts {a b:Ent} (ha:OkE a) (hb:OkE b):cmpB (keyE a) (keyE b)=cmpE a b:=by
 have f1:=ha.fam;have f2:=hb.fam
 have hq:seqC (firstI (a.kind == 5) (b.kind == 5)) (cmpB (qualK a ++ tailK a) (qualK b ++ tailK b)) =
   seqC (firstI (a.kind == 5) (b.kind == 5)) (seqC (cmpB a.qual b.qual) (seqC (firstI (a.kind == 4) (b.kind == 4)) (cmpB (tailK a) (tailK b)))):=by
  unfold qualK
  by_cases h1:a.kind=5
  ·by_cases h2:b.kind=5
   ·rw [if_pos h1,if_pos h2,ha.qual.2 h1,hb.qual.2 h2,h1,h2]
    simp [seqC,firstI,cmpB]
   ·rw [show (a.kind == 5)=true from by simpa using h1,show (b.kind == 5)=false from by simpa using h2]
    simp [seqC,firstI]
  ·by_cases h2:b.kind=5
   ·rw [show (a.kind == 5)=false from by simpa using h1,show (b.kind == 5)=true from by simpa using h2]
    simp [seqC,firstI]
   ·rw [if_neg h1,if_neg h2,List.append_assoc,List.append_assoc,cmp_ord,List.singleton_append,List.singleton_append,cmp_one,cmp_flg]
 unfold keyE cmpE
 rw [cmp_ord,cmp_one,cmp_one,cmp_flg,byte_val (by omega) (by omega),byte_val (by omega) (by omega),hq,tail_sorts ha hb]
theorem numK_len (t:Int):(numK t).length=8:=risB_len _
theorem tailK_len (e:Ent):(tailK e).length=17:=by unfold tailK;simp [numK_len]
theorem qualK_len (e:Ent):(qualK e).length≤2 * e.qual.length + 3:=by
 unfold qualK
 split
 ·simp
 ·have:=ordB_len e.qual;simp;omega
theorem keyE_len {e:Ent} (h:OkE e):(keyE e).length≤1048:=by
 have h1:=ordB_len e.row;have h2:=qualK_len e;have h3:=tailK_len e;have h4:=h.row;have h5:=h.qual.1
 unfold keyE
 simp only [List.length_append,List.length_cons]
 omega
def KeyE (e:Ent):List UInt8×Int:=if checkE e=0 then (keyE e,0) else ([],checkE e)
def noEnt:Ent:=⟨[],0,[],0,0,0,[]⟩
def atB (b:List UInt8) (k:Nat):Nat:=(b[k]?.getD 0).toNat
def parseN (b row:List UInt8) (fam:Nat) (qual:List UInt8) (a:Nat):Option (Ent×Nat) :=
 if (readFl b (a:Nat)).2.2 ≠ 0 then none
 else if (readFl b ((readFl b (a:Nat)).2.1:Nat)).2.2 ≠ 0∨b.length≤(readFl b ((readFl b (a:Nat)).2.1:Nat)).2.1 then none
 else some (⟨row,fam,qual,((readFl b (a:Nat)).1:Nat),((readFl b ((readFl b (a:Nat)).2.1:Nat)).1:Nat),atB b (readFl b ((readFl b (a:Nat)).2.1:Nat)).2.1,[]⟩,(readFl b ((readFl b (a:Nat)).2.1:Nat)).2.1 + 1)
def parseQ (b row:List UInt8) (fam:Nat) (a:Nat):Option (Ent×Nat) :=
 if (readO b (a:Nat)).2.2 ≠ 0∨b.length≤(readO b (a:Nat)).2.1 then none else parseN b row fam (readO b (a:Nat)).1 ((readO b (a:Nat)).2.1 + 1)
def parseE (b:List UInt8):Option (Ent×Nat) :=
 if (readO b 0).2.2 ≠ 0∨b.length < (readO b 0).2.1 + 2 then none
 else if atB b ((readO b 0).2.1 + 1) ≠ 0 then parseQ b (readO b 0).1 (atB b (readO b 0).2.1) ((readO b 0).2.1 + 2)
 else parseN b (readO b 0).1 (atB b (readO b 0).2.1) [] ((readO b 0).2.1 + 2)
def ParseKeyO (b:List UInt8) (o:Option (Ent×Nat)):Ent×Int:=match o with
 | none=>(noEnt,27)
 | some (e,_)=>if checkE e=0∧keyE e=b then (e,0) else (noEnt,27)
def ParseKeyE (b:List UInt8):Ent×Int:=ParseKeyO b (parseE b)
theorem atB_mid (p:List UInt8) (c:UInt8) (r:List UInt8) {k:Nat} (hk:k=p.length):atB (p ++ c::r) k=c.toNat:=by
 subst hk
 unfold atB
 rw [List.getElem?_append_right (Nat.le_refl _)]
 simp
theorem numK_back (p r:List UInt8) {t:Int} (h0:0≤t) (h1:t≤17592186044431) {k:Nat} (hk:k=p.length):readFl (p ++ (numK t ++ r)) (k:Nat)=(t.toNat,k + 8,0):=by
 subst hk
 have:=readFl_back p r t.toNat (by omega)
 rw [List.append_assoc] at this
 exact this
theorem readO_back' (p s r:List UInt8) {k:Nat} (hk:k=p.length):readO (p ++ (ordB s ++ r)) (k:Nat)=(s,k + (ordB s).length,0):=by
 subst hk
 have:=readO_back p s r
 rw [List.append_assoc] at this
 exact this
theorem parseN_back {e:Ent} (h:OkE e) (p r:List UInt8) (row:List UInt8) (fam:Nat) (qual:List UInt8) {k:Nat} (hk:k=p.length):parseN (p ++ (tailK e ++ r)) row fam qual k=some (⟨row,fam,qual,e.ts,e.seq,e.kind,[]⟩,k + 17):=by
 have ht:=h.ts;have hs:=h.seq;have hd:=h.kind
 have h1:readFl (p ++ (tailK e ++ r)) (k:Nat)=(e.ts.toNat,k + 8,0):=by
  have:=numK_back p (numK e.seq ++ [UInt8.ofNat e.kind.toNat] ++ r) (t:=e.ts) (by omega) (by omega) hk
  unfold tailK
  simp only [List.append_assoc] at *
  exact this
 have h2:readFl (p ++ (tailK e ++ r)) ((k + 8:Nat):Nat)=(e.seq.toNat,k + 8 + 8,0):=by
  have:=numK_back (p ++ numK e.ts) ([UInt8.ofNat e.kind.toNat] ++ r) (t:=e.seq) (by omega) (by omega) (k:=k + 8) (by rw [List.length_append,numK_len];omega)
  unfold tailK
  simp only [List.append_assoc] at *
  exact this
 have h3:atB (p ++ (tailK e ++ r)) (k + 8 + 8)=e.kind.toNat:=by
  have:=atB_mid (p ++ (numK e.ts ++ numK e.seq)) (UInt8.ofNat e.kind.toNat) r (k:=k + 8 + 8) (by simp only [List.length_append,numK_len];omega)
  have e1:(UInt8.ofNat e.kind.toNat).toNat=e.kind.toNat:=by have:=byte_val (t:=e.kind) (by omega) (by omega);omega
  rw [e1] at this
  rw [← this]
  unfold tailK
  simp only [List.append_assoc,List.singleton_append]
 unfold parseN
 rw [h1]
 simp only
 rw [if_neg (by simp),h2]
 simp only
 rw [if_neg,h3]
 ·have a1:((e.ts.toNat:Nat):Int)=e.ts:=by omega
  have a2:((e.seq.toNat:Nat):Int)=e.seq:=by omega
  have a3:((e.kind.toNat:Nat):Int)=e.kind:=by omega
  rw [a1,a2,a3]
 ·rintro (h | h)
  ·exact h rfl
  ·simp only [List.length_append,tailK_len] at h
   omega
theorem ofN {t:Int} (h0:0≤t) (h1:t≤255):(UInt8.ofNat t.toNat).toNat=t.toNat:=by have:=byte_val h0 h1;omega
theorem parse_back {e:Ent} (h:OkE e) (r:List UInt8):parseE (keyE e ++ r)=some ({ e with val:=[] },(keyE e).length):=by
 have hf:=h.fam
 have hk:keyE e ++ r=ordB e.row ++ (UInt8.ofNat e.fam.toNat::flg (e.kind == 5)::(qualK e ++ tailK e ++ r)):=by unfold keyE;simp
 have h0:readO (keyE e ++ r) 0=(e.row,(ordB e.row).length,0):=by
  rw [hk]
  have:=readO_back' [] e.row (UInt8.ofNat e.fam.toNat::flg (e.kind == 5)::(qualK e ++ tailK e ++ r)) (k:=0) rfl
  simpa using this
 have h1:atB (keyE e ++ r) (ordB e.row).length=e.fam.toNat:=by
  rw [hk,atB_mid _ _ _ rfl,ofN (by omega) (by omega)]
 have h2:atB (keyE e ++ r) ((ordB e.row).length + 1)=(flg (e.kind == 5)).toNat:=by
  have:=atB_mid (ordB e.row ++ [UInt8.ofNat e.fam.toNat]) (flg (e.kind == 5)) (qualK e ++ tailK e ++ r) (k:=(ordB e.row).length + 1) (by simp)
  rw [hk,← this]
  simp
 have hlen:¬ ((keyE e ++ r).length < (ordB e.row).length + 2):=by rw [hk];simp only [List.length_append,List.length_cons];omega
 have e1:((e.fam.toNat:Nat):Int)=e.fam:=by omega
 unfold parseE
 rw [h0]
 simp only
 rw [if_neg (by rintro (h | h);exact h rfl;exact hlen h),h1,h2]
 by_cases h5:e.kind=5
 ·have hb:(e.kind == 5)=true:=by simpa using h5
  rw [hb,if_neg (by simp [flg])]
  have hq:=h.qual.2 h5
  have hs:keyE e ++ r=(ordB e.row ++ [UInt8.ofNat e.fam.toNat,flg true]) ++ (tailK e ++ r):=by rw [hk,hb];unfold qualK;rw [if_pos h5];simp
  rw [hs,parseN_back h _ _ _ _ _ (by simp)]
  have hl:(keyE e).length=(ordB e.row).length + 2 + 17:=by
   unfold keyE qualK
   rw [if_pos h5]
   simp only [List.length_append,List.length_cons,tailK_len,List.length_nil]
  rw [hl,e1,hq]
 ·have hb:(e.kind == 5)=false:=by simpa using h5
  rw [hb,if_pos (by simp [flg])]
  have hs:keyE e ++ r=(ordB e.row ++ [UInt8.ofNat e.fam.toNat,flg false]) ++ (ordB e.qual ++ (flg (e.kind == 4)::(tailK e ++ r))):=by rw [hk,hb];unfold qualK;rw [if_neg h5];simp
  have hs2:keyE e ++ r=(ordB e.row ++ [UInt8.ofNat e.fam.toNat,flg false] ++ ordB e.qual ++ [flg (e.kind == 4)]) ++ (tailK e ++ r):=by rw [hs];simp
  have h3:readO (keyE e ++ r) (((ordB e.row).length + 2:Nat):Nat)=(e.qual,(ordB e.row).length + 2 + (ordB e.qual).length,0):=by
   rw [hs];exact readO_back' _ _ _ (by simp)
  unfold parseQ
  rw [h3]
  simp only
  have hlen2:¬ ((keyE e ++ r).length≤(ordB e.row).length + 2 + (ordB e.qual).length):=by rw [hs2];simp only [List.length_append,List.length_cons,List.length_nil];omega
  rw [if_neg (by rintro (h | h);exact h rfl;exact hlen2 h),hs2,parseN_back h _ _ _ _ _ (by simp only [List.length_append,List.length_cons,List.length_nil]),e1]
  have hl:(keyE e).length=(ordB e.row).length + 2 + (ordB e.qual).length + 1 + 17:=by
   unfold keyE qualK
   rw [if_neg h5]
   simp only [List.length_append,List.length_cons,tailK_len,List.length_nil]
   omega
  rw [hl]
theorem parse_key {e:Ent} (h:OkE e):parseE (keyE e)=some ({ e with val:=[] },(keyE e).length):=by
 have:=parse_back h []
 rwa [List.append_nil] at this
theorem OkE.bare {e:Ent} (h:OkE e):OkE { e with val:=[] }:=⟨h.row,h.fam,h.qual,h.ts,h.seq,h.kind,by simp,fun _=>rfl⟩
theorem ParseKey_back {e:Ent} (h:OkE e):ParseKeyE (keyE e)=({ e with val:=[] },0):=by
 unfold ParseKeyE
 rw [parse_key h]
 exact if_pos ⟨of_ok h.bare,rfl⟩
theorem ParseKey_is {b:List UInt8} (h:(ParseKeyE b).2=0):OkE (ParseKeyE b).1∧keyE (ParseKeyE b).1=b∧(ParseKeyE b).1.val=[]:=by
 unfold ParseKeyE at h ⊢
 cases hp:parseE b with
 | none=>rw [hp] at h;exact absurd (show (27:Int)=0 from h) (by decide)
 | some x =>
  obtain ⟨e,p⟩:=x
  rw [hp] at h
  simp only [ParseKeyO] at h ⊢
  split at h
  ·rename_i hh
   rw [if_pos hh]
   have h1:=parse_key (ok_of hh.1)
   rw [hh.2,hp] at h1
   injection h1 with h1
   injection h1 with h1 _
   refine ⟨ok_of hh.1,hh.2,?_⟩
   show e.val=[]
   rw [h1]
  ·exact absurd h (by decide)
theorem prefix_free {a b:Ent} (ha:OkE a) (hb:OkE b) (n:Nat) (hp:(keyE a).take n=(keyE b).take n) (hn:n=(keyE a).length):keyE a=keyE b:=by
 subst hn
 rw [List.take_length] at hp
 have h3:keyE b=keyE a ++ (keyE b).drop (keyE a).length:=by conv=>lhs;rw [← List.take_append_drop (keyE a).length (keyE b),← hp]
 have h4:=parse_back ha ((keyE b).drop (keyE a).length)
 rw [← h3,parse_key hb] at h4
 injection h4 with h4
 injection h4 with h4 h5
 rw [hp]
 exact List.take_of_length_le (by omega)
end Go.Proofs.YtfdbcfaeiglbeaaGreatDoor
namespace Go.Proofs.YtfdbcfaeiglbeaaGreatDoor
def shareN:List UInt8→List UInt8→Nat
 | a::az,b::bs=>if a=b then shareN az bs + 1 else 0
 | _,_=>0
theorem shareN_le:∀ a b:List UInt8,shareN a b≤a.length∧shareN a b≤b.length
 | [],b=>⟨Nat.zero_le _,Nat.zero_le _⟩
 | a::az,[]=>⟨Nat.zero_le _,Nat.zero_le _⟩
 | a::az,b::bs=>by
  unfold shareN
  split
  ·have:=shareN_le az bs;exact ⟨Nat.succ_le_succ this.1,Nat.succ_le_succ this.2⟩
  ·exact ⟨Nat.zero_le _,Nat.zero_le _⟩
theorem shareN_take:∀ a b:List UInt8,a.take (shareN a b)=b.take (shareN a b)
 | [],b=>by simp [shareN]
 | a::az,[]=>by simp [shareN]
 | a::az,b::bs=>by
  unfold shareN
  split
  ·rename_i h;subst h;simp [shareN_take az bs]
  ·simp
theorem shareN_test:∀ (a b:List UInt8) (k:Nat),k≤shareN a b→(k < shareN a b↔k < a.length∧k < b.length∧a[k]?=b[k]?)
 | [],b,k,h=>by simp [shareN] at h ⊢
 | a::az,[],k,h=>by simp [shareN] at h ⊢
 | a::az,b::bs,k,h=>by
  unfold shareN at h ⊢
  split at h
  ·rename_i e
   rw [if_pos e]
   subst e
   cases k with
   | zero=>simp
   | succ k =>
    have:=shareN_test az bs k (by omega)
    simp only [List.length_cons,Nat.add_lt_add_iff_right,List.getElem?_cons_succ]
    omega
  ·rename_i e
   rw [if_neg e]
   obtain rfl:k=0:=by omega
   simp
   intro h;exact absurd h e
def rowK (n:Nat) (k v:List UInt8):List UInt8:=uintB n ++ (uintB (k.drop n).length ++ k.drop n) ++ (uintB v.length ++ v)
structure BSt where
  body:List UInt8
  places:List Nat
  key:List UInt8
  n:Nat
def bst0:BSt:=⟨[],[],[],0⟩
def alikeB (R:Nat) (s:BSt) (k:List UInt8):Nat:=if s.n % R=0 then 0 else shareN s.key k
def placesB (R:Nat) (s:BSt):List Nat:=if s.n % R=0 then s.places ++ [s.body.length] else s.places
def stepB (R:Nat) (s:BSt) (k v:List UInt8):BSt:=⟨s.body ++ rowK (alikeB R s k) k v,placesB R s,k,s.n + 1⟩
def runE (R:Nat) (s:BSt) (l:List Ent):BSt:=l.foldl (fun s e=>stepB R s (keyE e) e.val) s
def runB (R:Nat) (l:List Ent):BSt:=runE R bst0 l
theorem runB_snoc (R:Nat) (l:List Ent) (e:Ent):runB R (l ++ [e])=stepB R (runB R l) (keyE e) e.val:=by simp [runB,runE]
theorem runB_n (R:Nat):∀ l:List Ent,(runB R l).n=l.length:=by
 have:∀ (l:List Ent) (s:BSt),(runE R s l).n=s.n + l.length:=by
  intro l
  induction l with
  | nil=>intro s;rfl
  | cons e l ih=>intro s;show (runE R (stepB R s (keyE e) e.val) l).n=_;rw [ih];simp only [stepB,List.length_cons];omega
 intro l
 have:=this l bst0
 simpa [runB,bst0] using this
def four4 (n:Nat):List UInt8:=[UInt8.ofNat (n / 16777216),UInt8.ofNat (n / 65536),UInt8.ofNat (n / 256),UInt8.ofNat n]
theorem four4_len (n:Nat):(four4 n).length=4:=rfl
def headB5 (R:Nat) (s:BSt):List UInt8:=s.body ++ s.places.flatMap four4 ++ four4 s.n ++ [UInt8.ofNat R]
def layS (R:Nat) (s:BSt):List UInt8:=headB5 R s ++ lowB (sumL (headB5 R s))
def layB (R:Nat) (l:List Ent):List UInt8:=if l=[] then [] else layS R (runB R l)
def sizeS (s:BSt):Nat:=s.body.length + 4 * s.places.length + 9
theorem places_len (l:List Nat):(l.flatMap four4).length=4 * l.length:=by
 induction l with
 | nil=>rfl
 | cons a l ih=>rw [List.flatMap_cons,List.length_append,ih,four4_len,List.length_cons];omega
theorem lowB_len (s:Nat):(lowB s).length=4:=rfl
theorem layS_len (R:Nat) (s:BSt):(layS R s).length=sizeS s:=by
 unfold layS headB5 sizeS
 simp only [List.length_append,places_len,four4_len,lowB_len,List.length_singleton]
theorem layB_len (R:Nat) {l:List Ent} (h:l ≠ []):(layB R l).length=sizeS (runB R l):=by
 unfold layB;rw [if_neg h,layS_len]
theorem row_u (p r:List UInt8) (al:Nat) (k v:List UInt8) (ha:al < 18446744073709551616):readU (p ++ (rowK al k v ++ r)) (p.length:Int)=(al,p.length + (uintB al).length,0):=by
 have:=readU_back p ((uintB (k.drop al).length ++ k.drop al) ++ (uintB v.length ++ v) ++ r) al ha
 unfold rowK
 simp only [List.append_assoc] at *
 exact this
theorem row_k (p r:List UInt8) (al:Nat) (k v:List UInt8) (most:Int) (hk:(k.drop al).length < 18446744073709551616) (hm:((k.drop al).length:Int)≤most) :
  readBy (p ++ (rowK al k v ++ r)) ((p.length + (uintB al).length:Nat):Int) most=(k.drop al,p.length + (uintB al).length + (uintB (k.drop al).length ++ k.drop al).length,0):=by
 have:=readBy_back (p ++ uintB al) ((uintB v.length ++ v) ++ r) (k.drop al) most hk hm
 rw [List.length_append] at this
 unfold rowK
 simp only [List.append_assoc] at *
 exact this
theorem row_v (p r:List UInt8) (al:Nat) (k v:List UInt8) (most:Int) (hv:v.length < 18446744073709551616) (hm:(v.length:Int)≤most) :
  readBy (p ++ (rowK al k v ++ r)) ((p.length + (uintB al).length + (uintB (k.drop al).length ++ k.drop al).length:Nat):Int) most=(v,p.length + (rowK al k v).length,0):=by
 have:=readBy_back (p ++ uintB al ++ (uintB (k.drop al).length ++ k.drop al)) r v most hv hm
 rw [List.length_append,List.length_append] at this
 have e:p.length + (rowK al k v).length=p.length + (uintB al).length + (uintB (k.drop al).length ++ k.drop al).length + (uintB v.length ++ v).length:=by
  unfold rowK;rw [List.length_append,List.length_append];omega
 rw [e,← this]
 unfold rowK
 simp only [List.append_assoc]
theorem runB_take (R:Nat) (L:List Ent) {i:Nat} {e:Ent} (h:L[i]?=some e):runB R (L.take (i + 1))=stepB R (runB R (L.take i)) (keyE e) e.val:=by
 rw [take_snoc h,runB_snoc]
theorem runE_body (R:Nat):∀ (l:List Ent) (s:BSt),∃ t,(runE R s l).body=s.body ++ t
 | [],s=>⟨[],by simp [runE]⟩
 | e::l,s=>by
  obtain ⟨t,h⟩:=runE_body R l (stepB R s (keyE e) e.val)
  exact ⟨rowK (alikeB R s (keyE e)) (keyE e) e.val ++ t,by show (runE R (stepB R s (keyE e) e.val) l).body=_;rw [h];simp [stepB]⟩
theorem runB_app (R:Nat) (l m:List Ent):runB R (l ++ m)=runE R (runB R l) m:=by simp [runB,runE]
theorem runB_body (R:Nat) (L:List Ent) {i:Nat} {e:Ent} (h:L[i]?=some e):∃ t,(runB R L).body=(runB R (L.take i)).body ++ (rowK (alikeB R (runB R (L.take i)) (keyE e)) (keyE e) e.val ++ t):=by
 have e1:L=L.take (i + 1) ++ L.drop (i + 1):=(List.take_append_drop _ _).symm
 obtain ⟨t,ht⟩:=runE_body R (L.drop (i + 1)) (runB R (L.take (i + 1)))
 refine ⟨t,?_⟩
 rw [congrArg (runB R) e1,runB_app,ht,runB_take R L h]
 simp [stepB]
theorem runB_key (R:Nat):∀ (L:List Ent) {e:Ent},L.getLast?=some e→(runB R L).key=keyE e:=fun L e h=>by
 obtain ⟨l,rfl⟩:∃ l,L=l ++ [e]:=by
  rcases List.eq_nil_or_concat L with rfl | ⟨l,a,rfl⟩
  ·cases h
  ·rw [List.concat_eq_append,List.getLast?_append] at h
   simp at h
   exact ⟨l,by rw [List.concat_eq_append,h]⟩
 rw [runB_snoc];rfl
theorem alike_le (R:Nat) (s:BSt) (k:List UInt8):alikeB R s k≤s.key.length∧alikeB R s k≤k.length:=by
 unfold alikeB
 split
 ·exact ⟨Nat.zero_le _,Nat.zero_le _⟩
 ·exact shareN_le _ _
theorem alike_key (R:Nat) (s:BSt) (k:List UInt8):s.key.take (alikeB R s k) ++ k.drop (alikeB R s k)=k:=by
 have h:s.key.take (alikeB R s k)=k.take (alikeB R s k):=by
  unfold alikeB
  split
  ·simp
  ·exact shareN_take _ _
 rw [h,List.take_append_drop]
def lastOk (L:List Ent) (e:Ent):Bool:=match L.getLast? with
 | none=>true
 | some l=>decide (cmpE l e < 0)
def addC (R:Nat) (L:List Ent) (e:Ent):Int:=if checkE e ≠ 0 then checkE e else if lastOk L e=false then 30 else if 131072 < sizeS (stepB R (runB R L) (keyE e) e.val) then 53 else 0
def addL (R:Nat) (L:List Ent) (e:Ent):List Ent:=if addC R L e=0 then L ++ [e] else L
def buildK (R:Nat):List Ent→List Ent→Int×List Ent
 | acc,[]=>(0,acc)
 | acc,e::r=>if addC R acc e=0 then buildK R (acc ++ [e]) r else (addC R acc e,acc)
def finE (R:Nat) (L:List Ent):List UInt8×Int:=if L=[] then ([],54) else (layB R L,0)
def buildE5 (R:Int) (es:List Ent):List UInt8×Int:=if R < 1∨16 < R then ([],1) else if (buildK R.toNat [] es).1=0 then finE R.toNat es else ([],(buildK R.toNat [] es).1)
theorem buildK_app (R:Nat):∀ (es:List Ent) (acc:List Ent) (r:List Ent),buildK R acc (es ++ r)=if (buildK R acc es).1=0 then buildK R (acc ++ es) r else buildK R acc es
 | [],acc,r=>by simp [buildK]
 | e::es,acc,r=>by
  show (if addC R acc e=0 then buildK R (acc ++ [e]) (es ++ r) else (addC R acc e,acc))=if (if addC R acc e=0 then buildK R (acc ++ [e]) es else (addC R acc e,acc)).1=0 then buildK R (acc ++ e::es) r else (if addC R acc e=0 then buildK R (acc ++ [e]) es else (addC R acc e,acc))
  by_cases h0:addC R acc e=0
  ·simp only [h0,↓reduceIte]
   rw [buildK_app R es (acc ++ [e]) r]
   simp
  ·simp only [h0,↓reduceIte]
theorem rowK_len (al:Nat) (k v:List UInt8):3≤(rowK al k v).length:=by
 unfold rowK
 simp only [List.length_append]
 have:=uintB_pos al
 have:=uintB_pos (k.drop al).length
 have:=uintB_pos v.length
 omega
theorem runE_many (R:Nat):∀ (l:List Ent) (s:BSt),3 * s.n≤s.body.length→3 * (runE R s l).n≤(runE R s l).body.length
 | [],_,h=>h
 | e::l,s,h=>runE_many R l (stepB R s (keyE e) e.val) (by
  have:=rowK_len (alikeB R s (keyE e)) (keyE e) e.val
  simp only [stepB,List.length_append];omega)
theorem runB_many (R:Nat) (l:List Ent):3 * (runB R l).n≤(runB R l).body.length:=runE_many R l bst0 (Nat.le_refl 0)
theorem n_le_size (s:BSt) (h:3 * s.n≤s.body.length):3 * s.n≤sizeS s:=by unfold sizeS;omega
theorem keyE_pos (e:Ent):0 < (keyE e).length:=by unfold keyE;simp only [List.length_append,List.length_cons];omega
theorem cmpB_same (l:List UInt8):cmpB l l=0:=by
 induction l with
 | nil=>simp [cmpB]
 | cons c l ih=>rw [cmpB_cc,if_neg (by omega),if_neg (by omega),ih]
theorem alike_lt {R:Nat} {L:List Ent} {e:Ent} (hL:∀ l,l ∈ L→checkE l=0) (he:checkE e=0) (hl:¬ lastOk L e=false):alikeB R (runB R L) (keyE e) < (keyE e).length:=by
 have hpos:=keyE_pos e
 have hle:=(alike_le R (runB R L) (keyE e)).2
 rcases Nat.lt_or_ge (alikeB R (runB R L) (keyE e)) (keyE e).length with h | h
 ·exact h
 have heq:alikeB R (runB R L) (keyE e)=(keyE e).length:=by omega
 exfalso
 unfold alikeB at heq
 split at heq
 ·omega
 ·cases hg:L.getLast? with
  | none =>
   obtain rfl:=List.getLast?_eq_none_iff.1 hg
   rename_i hn
   exact hn (by show 0 % R=0;exact Nat.zero_mod R)
  | some l =>
   have hk:=runB_key R L hg
   rw [hk] at heq
   have hoe:=ok_of he
   have hol:=ok_of (hL l (List.mem_of_getLast? hg))
   have ht:=shareN_take (keyE l) (keyE e)
   rw [heq] at ht
   have hkk:=prefix_free hoe hol _ ht.symm rfl
   have h0:cmpE l e=0:=by rw [← key_sorts hol hoe,hkk];exact cmpB_same _
   apply hl
   unfold lastOk
   rw [hg]
   simp [h0]
def rd1 (b:List UInt8) (a:Nat) (key:List UInt8):Option (Ent×List UInt8×Nat) :=
 if (readU b (a:Nat)).2.2 ≠ 0∨key.length < (readU b (a:Nat)).1 then none
 else if (readBy b (readU b (a:Nat)).2.1 (b.length:Nat)).2.2 ≠ 0 then none
 else if (readBy b (readBy b (readU b (a:Nat)).2.1 (b.length:Nat)).2.1 4096).2.2 ≠ 0 then none
 else if (ParseKeyE (key.take (readU b (a:Nat)).1 ++ (readBy b (readU b (a:Nat)).2.1 (b.length:Nat)).1)).2 ≠ 0 then none
 else some ({ (ParseKeyE (key.take (readU b (a:Nat)).1 ++ (readBy b (readU b (a:Nat)).2.1 (b.length:Nat)).1)).1 with val:=(readBy b (readBy b (readU b (a:Nat)).2.1 (b.length:Nat)).2.1 4096).1 },
  key.take (readU b (a:Nat)).1 ++ (readBy b (readU b (a:Nat)).2.1 (b.length:Nat)).1,(readBy b (readBy b (readU b (a:Nat)).2.1 (b.length:Nat)).2.1 4096).2.1)
section
variable {b key k2 v : List UInt8} {a u p1 e1 p2 e2 p3 e3 : Nat} {e : Ent} {f : Int}
theorem rd1_a (h1:readU b (a:Nat)=(u,p1,e1)) (h:e1 ≠ 0):rd1 b a key=none:=by unfold rd1;rw [h1,if_pos (.inl h)]
theorem rd1_b (h1:readU b (a:Nat)=(u,p1,e1)) (h:key.length < u):rd1 b a key=none:=by unfold rd1;rw [h1,if_pos (.inr h)]
theorem rd1_go (h1:readU b (a:Nat)=(u,p1,0)) (h:u≤key.length) (h2:readBy b p1 (b.length:Nat)=(k2,p2,e2)):rd1 b a key=if e2 ≠ 0 then none
 else if (readBy b p2 4096).2.2 ≠ 0 then none
 else if (ParseKeyE (key.take u ++ k2)).2 ≠ 0 then none
 else some ({ (ParseKeyE (key.take u ++ k2)).1 with val:=(readBy b p2 4096).1 },key.take u ++ k2,(readBy b p2 4096).2.1):=by
 unfold rd1
 rw [h1]
 simp only [h2]
 rw [if_neg (by omega)]
theorem rd1_c (h1:readU b (a:Nat)=(u,p1,0)) (h:u≤key.length) (h2:readBy b p1 (b.length:Nat)=(k2,p2,e2)) (h0:e2 ≠ 0):rd1 b a key=none:=by rw [rd1_go h1 h h2,if_pos h0]
theorem rd1_d (h1:readU b (a:Nat)=(u,p1,0)) (h:u≤key.length) (h2:readBy b p1 (b.length:Nat)=(k2,p2,0)) (h3:readBy b p2 4096=(v,p3,e3)) (h0:e3 ≠ 0):rd1 b a key=none:=by
 rw [rd1_go h1 h h2,h3,if_neg (by simp),if_pos h0]
theorem rd1_e (h1:readU b (a:Nat)=(u,p1,0)) (h:u≤key.length) (h2:readBy b p1 (b.length:Nat)=(k2,p2,0)) (h3:readBy b p2 4096=(v,p3,0)) (h4:ParseKeyE (key.take u ++ k2)=(e,f)) (h0:f ≠ 0):rd1 b a key=none:=by
 rw [rd1_go h1 h h2,h3,h4,if_neg (by simp),if_neg (by simp),if_pos h0]
theorem rd1_ok (h1:readU b (a:Nat)=(u,p1,0)) (h:u≤key.length) (h2:readBy b p1 (b.length:Nat)=(k2,p2,0)) (h3:readBy b p2 4096=(v,p3,0)) (h4:ParseKeyE (key.take u ++ k2)=(e,0)):rd1 b a key=some ({ e with val:=v },key.take u ++ k2,p3):=by
 rw [rd1_go h1 h h2,h3,h4,if_neg (by simp),if_neg (by simp),if_neg (by simp)]
end
def rdF (b:List UInt8):Nat→Option (List Ent×List UInt8×Nat)
 | 0=>some ([],[],0)
 | n + 1=>match rdF b n with
  | none=>none
  | some (L,key,a)=>match rd1 b a key with
   | none=>none
   | some (e,key',a')=>some (L ++ [e],key',a')
theorem rdF_none {b:List UInt8} {n m:Nat} (h:rdF b n=none) (hm:n≤m):rdF b m=none:=by
  induction m with
  | zero => obtain rfl : n = 0 := by omega
            exact h
  | succ m ih =>
    rcases Nat.lt_or_ge n (m + 1) with h1 | h1
    · show (match rdF b m with | none=>none | some (L,key,a)=>_)=none
      rw [ih (by omega)]
    · obtain rfl:n=m + 1:=by omega
      exact h
theorem rdF_step {b:List UInt8} {n:Nat} {L:List Ent} {key:List UInt8} {a:Nat} (h:rdF b n=some (L,key,a)):rdF b (n + 1)=match rd1 b a key with
      | none=>none
      | some (e,key',a')=>some (L ++ [e],key',a'):=by
  show (match rdF b n with | none=>none | some (L,key,a)=>_)=_
  rw [h]
theorem rdF_stop {b:List UInt8} {n m:Nat} {L:List Ent} {key:List UInt8} {a:Nat} (h:rdF b n=some (L,key,a)) (h1:rd1 b a key=none) (hm:n < m):rdF b m=none :=
 rdF_none (n:=n + 1) (by rw [rdF_step h,h1]) hm
theorem rdF_go {b:List UInt8} {n:Nat} {L:List Ent} {key:List UInt8} {a:Nat} {e:Ent} {key':List UInt8} {a':Nat} (h:rdF b n=some (L,key,a)) (h1:rd1 b a key=some (e,key',a')):rdF b (n + 1)=some (L ++ [e],key',a'):=by
 rw [rdF_step h,h1]
theorem rdF_len {b:List UInt8}:∀ {n:Nat} {L:List Ent} {key:List UInt8} {a:Nat},rdF b n=some (L,key,a)→L.length=n
 | 0,L,key,a,h=>by injection h with h;injection h with h1 h;subst h1;rfl
 | n + 1,L,key,a,h=>by
  cases h0:rdF b n with
  | none=>rw [rdF_none h0 (by omega)] at h;cases h
  | some r =>
   obtain ⟨L',k',a'⟩:=r
   rw [rdF_step h0] at h
   cases h1:rd1 b a' k' with
   | none=>rw [h1] at h;cases h
   | some r =>
    obtain ⟨e,k'',a''⟩:=r
    rw [h1] at h
    injection h with h;injection h with h2 h
    rw [← h2,List.length_append,rdF_len h0];rfl
theorem uintB_lt64 {n:Nat} (h:n≤1000000):n < 18446744073709551616:=by omega
theorem rd1_back {b0:List UInt8} (R:Nat) (L:List Ent) (t:List UInt8) (i:Nat) (e:Ent) (h:L[i]?=some e) (hok:∀ l,l ∈ L→checkE l=0) (hb:b0=(runB R L).body ++ t) :
  rd1 b0 (runB R (L.take i)).body.length (runB R (L.take i)).key=some (e,keyE e,(runB R (L.take (i + 1))).body.length):=by
 obtain ⟨t',ht⟩:=runB_body R L h
 have he:=ok_of (hok e (List.mem_of_getElem? h))
 obtain ⟨s,hs⟩:∃ s,s=runB R (L.take i):=⟨_,rfl⟩
 rw [← hs] at ht ⊢
 have hal:=alike_le R s (keyE e)
 have hak:=alike_key R s (keyE e)
 obtain ⟨al,hale⟩:∃ z,z=alikeB R s (keyE e):=⟨_,rfl⟩
 rw [← hale] at ht hal hak
 have hkl:=keyE_len he
 have hvl:=he.val.1
 have hb1:b0=s.body ++ (rowK al (keyE e) e.val ++ (t' ++ t)):=by rw [hb,ht];simp [List.append_assoc]
 have hlen:(((keyE e).drop al).length:Int)≤(b0.length:Nat):=by
  rw [hb1];unfold rowK
  simp only [List.length_append];omega
 have h1:=row_u s.body (t' ++ t) al (keyE e) e.val (uintB_lt64 (by omega))
 have h2:=row_k s.body (t' ++ t) al (keyE e) e.val (b0.length:Nat) (uintB_lt64 (by rw [List.length_drop];omega)) hlen
 have h3:=row_v s.body (t' ++ t) al (keyE e) e.val 4096 (uintB_lt64 (by omega)) (by omega)
 rw [← hb1] at h1 h2 h3
 have hP:ParseKeyE (s.key.take al ++ (keyE e).drop al)=({ e with val:=[] },0):=by rw [hak];exact ParseKey_back he
 rw [rd1_ok h1 hal.1 h2 h3 hP,hak]
 have e2:(runB R (L.take (i + 1))).body.length=s.body.length + (rowK al (keyE e) e.val).length:=by
  rw [runB_take R L h,← hs,hale];show (s.body ++ _).length=_;rw [List.length_append]
 rw [e2]
theorem rdF_back (R:Nat) (L:List Ent) (t:List UInt8) (hok:∀ l,l ∈ L→checkE l=0) {b0:List UInt8} (hb:b0=(runB R L).body ++ t):∀ i,i≤L.length→rdF b0 i=some (L.take i,(runB R (L.take i)).key,(runB R (L.take i)).body.length)
 | 0,_=>rfl
 | i + 1,hi=>by
  have h0:=rdF_back R L t hok hb i (by omega)
  have hk:L[i]?=some (L[i]'(by omega)):=List.getElem?_eq_getElem _
  have h1:=rd1_back R L t i _ hk hok hb
  rw [rdF_go h0 h1,take_snoc hk]
  rw [runB_snoc];rfl
theorem buildK_checked (R:Nat):∀ (es acc:List Ent),(∀ l,l ∈ acc→checkE l=0)→(buildK R acc es).1=0→∀ l,l ∈ acc ++ es→checkE l=0
 | [],acc,ha,_=>by simpa using ha
 | e::r,acc,ha,h=>by
  unfold buildK at h
  split at h
  ·rename_i h0
   have hc:checkE e=0:=by
    unfold addC at h0
    split at h0
    ·rename_i h1;exact absurd h0 h1
    ·rename_i h1;exact Decidable.not_not.1 h1
   have:=buildK_checked R r (acc ++ [e]) (fun l hl=>by
    rcases List.mem_append.1 hl with h1 | h1
    ·exact ha l h1
    ·rw [List.mem_singleton.1 h1];exact hc) h
   rw [List.append_assoc] at this
   exact this
  ·rename_i h0;exact absurd h h0
theorem build_parts {R:Nat} {L:List Ent} {b:List UInt8} (h:buildE5 (R:Int) L=(b,0)):1≤R∧R≤16∧(buildK R [] L).1=0∧L ≠ []∧b=layS R (runB R L)∧∀ l,l ∈ L→checkE l=0:=by
 unfold buildE5 at h
 split at h
 ·injection h with _ h;cases h
 ·rename_i hR
  rw [Int.toNat_natCast] at h
  split at h
  ·rename_i h0
   unfold finE at h
   split at h
   ·injection h with _ h;cases h
   ·rename_i hL
    injection h with h _
    refine ⟨by omega,by omega,h0,hL,?_,?_⟩
    ·rw [← h];unfold layB;rw [if_neg hL]
    ·have:=buildK_checked R L [] (fun l h=>by cases h) h0
     simpa using this
  ·rename_i h0;injection h with _ h;exact absurd h h0
theorem layS_foot (R:Nat) (s:BSt):layS R s=s.body ++ (s.places.flatMap four4 ++ (four4 s.n ++ (UInt8.ofNat R::lowB (sumL (headB5 R s))))):=by
 unfold layS headB5;simp [List.append_assoc]
def resB (b:List UInt8):Nat:=(b[b.length - 5]?.getD 0).toNat
def cntB (b:List UInt8):Nat:=numF b (b.length - 9)
def sumOkB (b:List UInt8):Bool:=lowB (sumL (b.take (b.length - 4))) == b.drop (b.length - 4)
def openR (b:List UInt8):Option (List Ent×List UInt8×Nat)→Option (List Ent)×Int
 | none=>(none,51)
 | some r=>if buildE5 (resB b:Int) r.1=(b,0) then (some r.1,0) else (none,51)
def openE (b:List UInt8):Option (List Ent)×Int :=
 if 131072 < b.length then (none,2) else if b.length < 9 then (none,51) else if sumOkB b=false then (none,52) else openR b (rdF (b.take (b.length - 9)) (cntB b))
theorem buildK_size (R:Nat):∀ (es acc:List Ent),sizeS (runB R acc)≤131072→(buildK R acc es).1=0→sizeS (runB R (acc ++ es))≤131072
 | [],acc,ha,_=>by simpa using ha
 | e::r,acc,ha,h=>by
  unfold buildK at h
  split at h
  ·rename_i h0
   have:=buildK_size R r (acc ++ [e]) (by
    rw [runB_snoc]
    unfold addC at h0
    split at h0
    ·rename_i h1;exact absurd h0 h1
    ·split at h0
     ·cases h0
     ·split at h0
      ·cases h0
      ·rename_i h1;exact Nat.le_of_not_lt h1) h
   rwa [List.append_assoc] at this
  ·rename_i h0;exact absurd h h0
theorem numF_four (p r:List UInt8) {n k:Nat} (h:n < 4294967296) (hk:k=p.length):numF (p ++ (four4 n ++ r)) k=n:=by
 subst hk
 have e:∀ j,(p ++ (four4 n ++ r))[p.length + j]?=(four4 n ++ r)[j]?:=fun j=>by rw [List.getElem?_append_right (by omega),Nat.add_sub_cancel_left]
 unfold numF
 have e0:=e 0
 rw [Nat.add_zero] at e0
 rw [e0,e 1,e 2,e 3]
 unfold four4 numB
 simp only [List.cons_append,List.nil_append,List.getElem?_cons_succ,List.getElem?_cons_zero,Option.getD_some,UInt8.toNat_ofNat']
 omega
theorem layS_len9 (R:Nat) (s:BSt):(layS R s).length=s.body.length + (s.places.flatMap four4).length + 9:=by rw [layS_len];unfold sizeS;rw [places_len]
theorem res_lay (R:Nat) (s:BSt) (h:R < 256):resB (layS R s)=R:=by
 unfold resB
 rw [layS_len9,layS_foot,← List.append_assoc,← List.append_assoc,List.getElem?_append_right (by simp only [List.length_append,four4_len];omega)]
 rw [show s.body.length + (s.places.flatMap four4).length + 9 - 5 - (s.body ++ s.places.flatMap four4 ++ four4 s.n).length=0 from by simp only [List.length_append,four4_len];omega]
 show (UInt8.ofNat R).toNat=R
 rw [UInt8.toNat_ofNat'];omega
theorem cnt_lay (R:Nat) (s:BSt) (h:s.n < 4294967296):cntB (layS R s)=s.n:=by
 unfold cntB
 rw [layS_len9,layS_foot,← List.append_assoc]
 exact numF_four _ _ h (by rw [List.length_append];omega)
theorem sum_lay (R:Nat) (s:BSt):sumOkB (layS R s)=true:=by
 have hl:(layS R s).length - 4=(headB5 R s).length:=by unfold layS;rw [List.length_append,lowB_len];omega
 unfold sumOkB
 rw [hl]
 unfold layS
 rw [List.take_left' rfl,List.drop_left' rfl]
 simp
theorem body_lay (R:Nat) (s:BSt):(layS R s).take ((layS R s).length - 9)=s.body ++ s.places.flatMap four4:=by
 rw [layS_len9,layS_foot,← List.append_assoc]
 exact List.take_left' (by rw [List.length_append];omega)
theorem openE_lay {R:Nat} {L:List Ent} {b:List UInt8} (h:buildE5 (R:Int) L=(b,0)):openE b=(some L,0)∧resB b=R:=by
 obtain ⟨h1,h2,h3,h4,h5,h6⟩:=build_parts h
 have hsz:sizeS (runB R L)≤131072:=by
  have:=buildK_size R L [] (by show 9≤131072;decide) h3
  simpa using this
 have hn:=runB_n R L
 have hm:=n_le_size _ (runB_many R L)
 have hR:resB b=R:=by rw [h5];exact res_lay R _ (by omega)
 refine ⟨?_,hR⟩
 have hlen:b.length=sizeS (runB R L):=by rw [h5,layS_len]
 have h9:9≤sizeS (runB R L):=by unfold sizeS;omega
 unfold openE
 rw [if_neg (by omega),if_neg (by omega),if_neg (by rw [h5,sum_lay];decide)]
 have hc:cntB b=L.length:=by rw [h5,cnt_lay R _ (by omega),hn]
 have hb:b.take (b.length - 9)=(runB R L).body ++ (runB R L).places.flatMap four4:=by rw [h5];exact body_lay R _
 rw [hc,rdF_back R L _ h6 hb L.length (Nat.le_refl _),List.take_length]
 unfold openR
 simp only []
 rw [hR,if_pos h]
theorem openE_ok {b:List UInt8} {L:List Ent} (h:(openE b).1=some L):buildE5 (resB b:Int) L=(b,0)∧(openE b).2=0:=by
 unfold openE at h ⊢
 split at h
 ·cases h
 ·split at h
  ·cases h
  ·split at h
   ·cases h
   ·rename_i h1 h2 h3
    rw [if_neg h1,if_neg h2,if_neg h3]
    cases hr:rdF (b.take (b.length - 9)) (cntB b) with
    | none=>rw [hr] at h;cases h
    | some r =>
     rw [hr] at h
     unfold openR at h ⊢
     simp only [] at h ⊢
     split at h
     ·rename_i h4
      injection h with h
      subst h
      rw [if_pos h4]
      exact ⟨h4,rfl⟩
     ·cases h
theorem openE_no {b:List UInt8} (h:(openE b).1=none):(openE b).2 ≠ 0:=by
 unfold openE at h ⊢
 by_cases h1:131072 < b.length
 ·rw [if_pos h1];show (2:Int) ≠ 0;decide
 rw [if_neg h1] at h ⊢
 by_cases h2:b.length < 9
 ·rw [if_pos h2];show (51:Int) ≠ 0;decide
 rw [if_neg h2] at h ⊢
 by_cases h3:sumOkB b=false
 ·rw [if_pos h3];show (52:Int) ≠ 0;decide
 rw [if_neg h3] at h ⊢
 cases hr:rdF (b.take (b.length - 9)) (cntB b) with
 | none=>show ((51:Int)) ≠ 0;decide
 | some r =>
  rw [hr] at h
  unfold openR at h ⊢
  simp only [] at h ⊢
  split at h
  ·cases h
  ·rename_i h4
   rw [if_neg h4];show (51:Int) ≠ 0;decide
def Asc (ks:List (List UInt8)):Prop:=ks.Pairwise fun a b=>cmpB a b < 0
theorem cmpB_lt_trans {a b c:List UInt8} (h1:cmpB a b < 0) (h2:cmpB b c < 0):cmpB a c < 0:=by
 have h3:=cmpB_trans a b c (by omega) (by omega)
 rcases Int.lt_or_eq_of_le h3 with h | h
 ·exact h
 ·have e:=cmpB_zero _ _ h
  subst e
  have:=cmpB_swap a b
  omega
theorem buildK_asc (R:Nat):∀ (es acc:List Ent),(∀ l,l ∈ acc→checkE l=0)→Asc (acc.map keyE)→(buildK R acc es).1=0→Asc ((acc ++ es).map keyE)
 | [],acc,_,ha,_=>by simpa using ha
 | e::r,acc,hc,ha,h=>by
  unfold buildK at h
  split at h
  ·rename_i h0
   have h1:checkE e=0:=by
    unfold addC at h0
    split at h0
    ·rename_i h1;exact absurd h0 h1
    ·rename_i h1;exact Decidable.not_not.1 h1
   have h2:lastOk acc e=true:=by
    unfold addC at h0
    rw [if_neg (by rw [h1];decide)] at h0
    split at h0
    ·cases h0
    ·rename_i h3;simpa using h3
   have hall:∀ l,l ∈ acc ++ [e]→checkE l=0:=fun l hl=>by
    rcases List.mem_append.1 hl with h3 | h3
    ·exact hc l h3
    ·rw [List.mem_singleton.1 h3];exact h1
   have h3:Asc ((acc ++ [e]).map keyE):=by
    unfold Asc
    rw [List.map_append]
    refine List.pairwise_append.2 ⟨ha,List.pairwise_singleton _ _,fun a ha' b hb=>?_⟩
    obtain rfl:=List.mem_singleton.1 hb
    rcases List.eq_nil_or_concat acc with h4 | ⟨l,z,h4⟩
    ·subst h4;cases ha'
    ·rw [List.concat_eq_append] at h4
     subst h4
     have h5:cmpE z e < 0:=by
      unfold lastOk at h2
      rw [List.getLast?_append] at h2
      simpa using h2
     have h6:cmpB (keyE z) (keyE e) < 0:=by rw [key_sorts (ok_of (hc z (by simp))) (ok_of h1)];exact h5
     rw [List.map_append] at ha ha'
     rcases List.mem_append.1 ha' with h7 | h7
     ·exact cmpB_lt_trans ((List.pairwise_append.1 ha).2.2 a h7 (keyE z) (by simp)) h6
     ·have h7:a ∈ [keyE z]:=h7
      rw [List.mem_singleton.1 h7];exact h6
   have:=buildK_asc R r (acc ++ [e]) hall h3 h
   rwa [List.append_assoc] at this
  ·rename_i h0;exact absurd h h0
theorem build_asc {R:Nat} {L:List Ent} {b:List UInt8} (h:buildE5 (R:Int) L=(b,0)):Asc (L.map keyE):=by
 obtain ⟨_,_,h3,_⟩:=build_parts h
 have:=buildK_asc R L [] (fun l h=>by cases h) List.Pairwise.nil h3
 simpa using this
def twN {α:Type} (p:α→Bool) (l:List α):Nat:=(l.takeWhile p).length
theorem twN_le {α:Type} (p:α→Bool) (l:List α):twN p l≤l.length:=(List.takeWhile_sublist _).length_le
theorem tw_iff {α:Type} {p:α→Bool}:∀ {l:List α} {j:Nat} {x:α},l[j]?=some x→j≤twN p l→(p x=true↔j < twN p l)
 | [],_,_,h,_=>by cases h
 | a::l,j,x,h,hj=>by
  unfold twN at hj ⊢
  rw [List.takeWhile_cons] at hj ⊢
  by_cases ha:p a=true
  ·rw [if_pos ha] at hj ⊢
   cases j with
   | zero=>injection h with h;subst h;simp [ha]
   | succ j =>
    have:=tw_iff (p:=p) (l:=l) (j:=j) (x:=x) h (by unfold twN;simpa using hj)
    unfold twN at this
    rw [this,List.length_cons];omega
  ·rw [if_neg ha] at hj ⊢
   have hj:j≤0:=hj
   obtain rfl:j=0:=by omega
   injection h with h;subst h
   simp [ha]
def insN (m:List Ent) (e:Ent):Nat:=twN (fun x=>decide (cmpE x e < 0)) m
def hitB (m:List Ent) (e:Ent):Bool:=match m[insN m e]? with
 | none=>false
 | some x=>cmpE x e == 0
def insE (m:List Ent) (e:Ent):List Ent:=if hitB m e=true then m else m.take (insN m e) ++ e::m.drop (insN m e)
def AscE (m:List Ent):Prop:=m.Pairwise fun a b=>cmpE a b < 0
theorem cmpE_lt_trans {a b c:Ent} (h1:cmpE a b < 0) (h2:cmpE b c < 0):cmpE a c < 0:=by
 have h3:=ord_E.trans a b c (by omega) (by omega)
 rcases Int.lt_or_eq_of_le h3 with h | h
 ·exact h
 ·have h4:=ord_E.swap a c
  have h5:=ord_E.trans b c a (by omega) (by omega)
  have h6:=ord_E.swap b a
  omega
theorem ins_asc {m:List Ent} (hm:AscE m) (e:Ent):AscE (insE m e):=by
 unfold insE
 split
 ·exact hm
 ·rename_i hh
  have e1:m=m.take (insN m e) ++ m.drop (insN m e):=(List.take_append_drop _ _).symm
  have hp:(m.take (insN m e) ++ m.drop (insN m e)).Pairwise fun a b=>cmpE a b < 0:=by rw [← e1];exact hm
  obtain ⟨p1,p2,p3⟩:=List.pairwise_append.1 hp
  have hlow:∀ x,x ∈ m.take (insN m e)→cmpE x e < 0:=fun x hx=>by
   obtain ⟨j,hj⟩:=List.getElem?_of_mem hx
   have hlt:j < insN m e:=by
    have:=(List.getElem?_eq_some_iff.1 hj).1
    rw [List.length_take] at this;omega
   rw [List.getElem?_take_of_lt hlt] at hj
   have:=(tw_iff (p:=fun x=>decide (cmpE x e < 0)) hj (Nat.le_of_lt hlt)).2 hlt
   simpa using this
  have hhigh:∀ x,x ∈ m.drop (insN m e)→cmpE e x < 0:=fun x hx=>by
   have hfirst:∀ y,m[insN m e]?=some y→cmpE e y < 0:=fun y hy=>by
    have h1:=tw_iff (p:=fun x=>decide (cmpE x e < 0)) hy (Nat.le_refl (insN m e))
    have h2:¬ cmpE y e < 0:=fun h=>Nat.lt_irrefl _ (h1.1 (by simpa using h))
    have h3:cmpE y e ≠ 0:=fun h=>hh (by unfold hitB;rw [hy];simp [h])
    have:=ord_E.swap y e
    omega
   obtain ⟨j,hj⟩:=List.getElem?_of_mem hx
   rw [List.getElem?_drop] at hj
   obtain ⟨y,hy⟩:∃ y,m[insN m e]?=some y:=⟨_,List.getElem?_eq_getElem (by have:=(List.getElem?_eq_some_iff.1 hj).1;omega)⟩
   rcases Nat.eq_zero_or_pos j with h0 | h0
   ·subst h0
    rw [Nat.add_zero,hy] at hj
    injection hj with hj;subst hj
    exact hfirst _ hy
   ·obtain ⟨h1,g1⟩:=List.getElem?_eq_some_iff.1 hy
    obtain ⟨h2,g2⟩:=List.getElem?_eq_some_iff.1 hj
    have h3:cmpE y x < 0:=by
     have:=List.pairwise_iff_getElem.1 hm (insN m e) (insN m e + j) h1 h2 (by omega)
     rw [g1,g2] at this
     exact this
    exact cmpE_lt_trans (hfirst y hy) h3
  refine List.pairwise_append.2 ⟨p1,List.pairwise_cons.2 ⟨hhigh,p2⟩,fun a ha b hb=>?_⟩
  rcases List.mem_cons.1 hb with rfl | hb
  ·exact hlow a ha
  ·exact p3 a ha b hb
end Go.Proofs.YtfdbcfaeiglbeaaGreatDoor
namespace Go.Proofs.YtfdbcfaeiglbeaaGreatDoor
open Go.RowKit
structure OptR where
  block:Int
  bits:Int
  index:Int
  low:Int
  clock:Int
def magR:List UInt8:=[83,84,82,65,84,65,45,82]
def sealI (index low clock:Int):Bool:=decide (0≤index) && decide (index≤1099511627776) && decide (1≤clock) && decide (clock≤1099511627776) && decide (0≤low) && decide (low < clock)
def optOk (o:OptR):Bool:=decide (64≤o.block) && decide (o.block≤65536) && decide (0≤o.bits) && decide (o.bits≤20) && sealI o.index o.low o.clock
theorem optOk.iff {o:OptR} (h:optOk o=true):(64≤o.block∧o.block≤65536∧0≤o.bits∧o.bits≤20)∧sealI o.index o.low o.clock=true:=by
 unfold optOk at h
 simp only [Bool.and_eq_true,decide_eq_true_eq] at h
 exact ⟨⟨h.1.1.1.1,h.1.1.1.2,h.1.1.2,h.1.2⟩,h.2⟩
theorem sealI.iff {i l c:Int} (h:sealI i l c=true):0≤i∧i≤1099511627776∧1≤c∧c≤1099511627776∧0≤l∧l < c:=by
 unfold sealI at h
 simp only [Bool.and_eq_true,decide_eq_true_eq] at h
 exact ⟨h.1.1.1.1.1,h.1.1.1.1.2,h.1.1.1.2,h.1.1.2,h.1.2,h.2⟩
def outP (p:Option Ent) (e:Ent):Bool:=match p with
 | none=>false
 | some q=>decide (0≤cmpE q e)
def lookE (index:Int):Option Ent→List Ent→Int
 | _,[]=>0
 | p,e::r=>if checkE e ≠ 0 then checkE e else if 16 * index + 15 < e.seq then 24 else if outP p e=true then 30 else lookE index (some e) r
def prevE (L:List Ent) (i:Nat):Option Ent:=if i=0 then none else L[i - 1]?
def lookD (index:Int) (L:List Ent) (i:Nat):Int:=lookE index (prevE L i) (L.drop i)
theorem lookD_end (index:Int) (L:List Ent) {i:Nat} (h:L.length≤i):lookD index L i=0:=by
 unfold lookD;rw [List.drop_eq_nil_of_le h];cases prevE L i <;> rfl
theorem lookD_step (index:Int) (L:List Ent) {i:Nat} {e:Ent} (h:L[i]?=some e):lookD index L i=if checkE e ≠ 0 then checkE e else if 16 * index + 15 < e.seq then 24 else if outP (prevE L i) e=true then 30 else lookD index L (i + 1):=by
 obtain ⟨hi,he⟩:=List.getElem?_eq_some_iff.1 h
 have h1:L.drop i=e::L.drop (i + 1):=by rw [← he];exact (List.drop_eq_getElem_cons hi)
 have h2:prevE L (i + 1)=some e:=by unfold prevE;rw [if_neg (by omega),Nat.add_sub_cancel];exact h
 unfold lookD
 rw [h1,h2]
 rfl
structure LookOk (index:Int) (L:List Ent):Prop where
  chk:∀ e,e ∈ L→checkE e=0
  seq:∀ e,e ∈ L→e.seq≤16 * index + 15
  asc:∀ i a b,L[i]?=some a→L[i + 1]?=some b→cmpE a b < 0
theorem lookE_ok {index:Int}:∀ {L:List Ent} {p:Option Ent},lookE index p L=0→(∀ e,e ∈ L→checkE e=0∧e.seq≤16 * index + 15)∧(∀ q e,p=some q→L[0]?=some e→cmpE q e < 0)∧∀ i a b,L[i]?=some a→L[i + 1]?=some b→cmpE a b < 0
 | [],p,_=>⟨fun e h=>(by cases h),fun q e _ h=>(by cases h),fun i a b h=>(by cases i <;> cases h)⟩
 | e::r,p,h=>by
  unfold lookE at h
  split at h
  ·rename_i h0;exact absurd h h0
  rename_i h0
  split at h
  ·cases h
  rename_i h1
  split at h
  ·cases h
  rename_i h2
  obtain ⟨a1,a2,a3⟩:=lookE_ok h
  refine ⟨fun x hx=>?_,fun q x hp hx=>?_,fun i a b ha hb=>?_⟩
  ·rcases List.mem_cons.1 hx with rfl | hx
   ·exact ⟨Decidable.byContradiction h0,by omega⟩
   ·exact a1 x hx
  ·subst hp
   cases hx
   unfold outP at h2
   simp only [decide_eq_true_eq] at h2
   omega
  ·cases i with
   | zero=>cases ha;exact a2 _ _ rfl hb
   | succ i=>exact a3 i a b ha hb
theorem look_ok {index:Int} {L:List Ent} (h:lookE index none L=0):LookOk index L:=by
 obtain ⟨a1,_,a3⟩:=lookE_ok h
 exact ⟨fun e he=>(a1 e he).1,fun e he=>(a1 e he).2,a3⟩
theorem asc_of_next:∀ {L:List Ent},(∀ i a b,L[i]?=some a→L[i + 1]?=some b→cmpE a b < 0)→AscE L
 | [],_=>List.Pairwise.nil
 | [a],_=>List.Pairwise.cons (fun _ h=>by cases h) List.Pairwise.nil
 | a::b::r,h=>by
  have h1:AscE (b::r):=asc_of_next fun i x y hx hy=>h (i + 1) x y hx hy
  have hab:cmpE a b < 0:=h 0 a b rfl rfl
  refine List.Pairwise.cons (fun x hx=>?_) h1
  rcases List.mem_cons.1 hx with rfl | hx
  ·exact hab
  ·exact cmpE_lt_trans hab ((List.pairwise_cons.1 h1).1 x hx)
theorem LookOk.ascE {index:Int} {L:List Ent} (h:LookOk index L):AscE L:=asc_of_next h.asc
def cutR (t:Nat):List Ent→List Ent→List (List Ent)
 | now,[]=>if now=[] then [] else [now]
 | now,e::r=>if now ≠ []∧t≤sizeS (runB 16 now) then now::cutR t [e] r else cutR t (now ++ [e]) r
def fullR (t:Nat) (now:List Ent):Prop:=now ≠ []∧t≤sizeS (runB 16 now)
theorem cutR_add {t:Nat} {now r:List Ent} {e:Ent} (h:¬ fullR t now):cutR t now (e::r)=cutR t (now ++ [e]) r:=by
 show (if now ≠ []∧t≤sizeS (runB 16 now) then now::cutR t [e] r else cutR t (now ++ [e]) r)=_
 rw [if_neg (show ¬ (now ≠ []∧t≤sizeS (runB 16 now)) from h)]
theorem cutR_full {t:Nat} {now r:List Ent} (h:fullR t now):cutR t now r=now::cutR t [] r:=by
 cases r with
 | nil=>show (if now=[] then [] else [now])=_;rw [if_neg h.1];rfl
 | cons e r =>
  show (if now ≠ []∧t≤sizeS (runB 16 now) then now::cutR t [e] r else cutR t (now ++ [e]) r)=_
  rw [if_pos (show now ≠ []∧t≤sizeS (runB 16 now) from h),cutR_add (now:=[]) (fun h=>h.1 rfl)];rfl
theorem cutR_last {t:Nat} {now:List Ent} (h:now ≠ []):cutR t now []=[now]:=by
 show (if now=[] then [] else [now])=_;rw [if_neg h]
theorem cutR_flat (t:Nat):∀ (r now:List Ent),(cutR t now r).flatten=now ++ r
 | [],now=>by
  show (if now=[] then [] else [now]:List (List Ent)).flatten=_
  split
  ·rename_i h;rw [h];rfl
  ·simp
 | e::r,now=>by
  show (if now ≠ []∧t≤sizeS (runB 16 now) then now::cutR t [e] r else cutR t (now ++ [e]) r).flatten=_
  split
  ·rw [List.flatten_cons,cutR_flat t r];rfl
  ·rw [cutR_flat t r,List.append_assoc];rfl
theorem cutR_all (t:Nat) {E:Ent→Prop} {P:List Ent→Prop} (hP:∀ now e,E e→now=[]∨sizeS (runB 16 now) < t→P now→P (now ++ [e])):∀ (r now:List Ent),(∀ e,e ∈ r→E e)→(now ≠ []→P now)→P []→∀ c,c ∈ cutR t now r→c ≠ []∧P c
 | [],now,_,h,_,c,hc=>by
  unfold cutR at hc
  split at hc
  ·cases hc
  ·rename_i h0
   cases List.mem_singleton.1 hc
   exact ⟨h0,h h0⟩
 | e::r,now,hE,h,h0,c,hc=>by
  unfold cutR at hc
  split at hc
  ·rename_i hf
   rcases List.mem_cons.1 hc with rfl | hc
   ·exact ⟨hf.1,h hf.1⟩
   ·exact cutR_all t hP r [e] (fun x hx=>hE x (.tail _ hx)) (fun _=>hP [] e (hE e (.head _)) (.inl rfl) h0) h0 c hc
  ·rename_i hf
   refine cutR_all t hP r (now ++ [e]) (fun x hx=>hE x (.tail _ hx)) (fun _=>hP now e (hE e (.head _)) ?_ ?_) h0 c hc
   ·by_cases hn:now=[]
    ·exact .inl hn
    ·exact .inr (Nat.lt_of_not_le fun hs=>hf ⟨hn,hs⟩)
   ·by_cases hn:now=[]
    ·rw [hn];exact h0
    ·exact h hn
def rowStep (acc:List (List UInt8)) (e:Ent):List (List UInt8):=if acc.getLast?=some e.row then acc else acc ++ [e.row]
def rowsE (L:List Ent):List (List UInt8):=L.foldl rowStep []
theorem rowsE_snoc (L:List Ent) (e:Ent):rowsE (L ++ [e])=rowStep (rowsE L) e:=by unfold rowsE;rw [List.foldl_append];rfl
theorem rowStep_last (acc:List (List UInt8)) (e:Ent):(rowStep acc e).getLast?=some e.row:=by
 unfold rowStep
 split
 ·assumption
 ·simp
theorem rowsE_last {L:List Ent} {i:Nat} {e:Ent} (h:L[i]?=some e):(rowsE (L.take (i + 1))).getLast?=some e.row:=by
 rw [take_snoc h,rowsE_snoc];exact rowStep_last _ _
theorem rowsE_le:∀ (L:List Ent),(rowsE L).length≤L.length:=by
 intro L
 suffices h:∀ (L:List Ent) (acc:List (List UInt8)),(L.foldl rowStep acc).length≤acc.length + L.length by have:=h L [];simpa [rowsE] using this
 intro L
 induction L with
 | nil=>intro acc;simp
 | cons e r ih =>
  intro acc
  have:=ih (rowStep acc e)
  have h2:(rowStep acc e).length≤acc.length + 1:=by unfold rowStep;split <;> simp
  simp only [List.foldl_cons,List.length_cons]
  omega
theorem rowsE_in {L:List Ent} {e:Ent} (h:e ∈ L):e.row ∈ rowsE L:=by
 have hk:∀ (r:List Ent) (acc:List (List UInt8)) x,x ∈ acc→x ∈ r.foldl rowStep acc:=by
  intro r
  induction r with
  | nil=>intro acc x hx;exact hx
  | cons a r ih=>intro acc x hx;exact ih _ x (by unfold rowStep;split;exact hx;exact List.mem_append_left _ hx)
 suffices hs:∀ (L:List Ent) (acc:List (List UInt8)),e ∈ L→e.row ∈ L.foldl rowStep acc from hs L [] h
 intro L
 induction L with
 | nil=>intro acc h;cases h
 | cons a r ih =>
  intro acc h
  rcases List.mem_cons.1 h with rfl | h
  ·refine hk r _ _ ?_
   have:=rowStep_last acc e
   exact List.mem_of_getLast? this
  ·exact ih _ h
def keyB (k:List UInt8):List UInt8:=uintB k.length ++ k
def firstK (c:List Ent):List UInt8:=(c.head?.map keyE).getD []
def lastK (c:List Ent):List UInt8:=(c.getLast?.map keyE).getD []
def blocksR (cs:List (List Ent)):List UInt8:=cs.flatMap (layB 16)
def partR (c:List Ent):List UInt8:=keyB (firstK c) ++ keyB (lastK c) ++ uintB (layB 16 c).length
def partsR (cs:List (List Ent)):List UInt8:=cs.flatMap partR
def indexR (cs:List (List Ent)):List UInt8:=uintB cs.length ++ partsR cs
def sumdB (b:List UInt8):List UInt8:=b ++ lowB (sumL b)
def filtR (o:OptR) (L:List Ent):List UInt8:=if 0 < o.bits then buildB o.bits (rowsE L) else []
def headR (cs:List (List Ent)):List UInt8:=magR ++ blocksR cs
def numsR (o:OptR) (L:List Ent) (cs:List (List Ent)):List Nat:=[L.length,o.index.toNat,o.low.toNat,o.clock.toNat,cs.length,(headR cs).length,(headR cs ++ sumdB (filtR o L)).length]
def risBs (ns:List Nat):List UInt8:=ns.flatMap risB
def runC (o:OptR) (L:List Ent) (cs:List (List Ent)):List UInt8:=headR cs ++ sumdB (filtR o L) ++ sumdB (indexR cs) ++ frameB (risBs (numsR o L cs))
def runBy (o:OptR) (L:List Ent):List UInt8:=runC o L (cutR o.block.toNat [] L)
def refuseR (o:OptR) (L:List Ent):Int:=if optOk o=false then 74 else if L=[] then 71 else lookE o.index none L
def writeR (o:OptR) (L:List Ent):List UInt8×Int:=if refuseR o L ≠ 0 then ([],refuseR o L) else if 16777216 < (runBy o L).length then ([],2) else (runBy o L,0)
theorem partsR_snoc (cs:List (List Ent)) (c:List Ent):partsR (cs ++ [c])=partsR cs ++ keyB (firstK c) ++ keyB (lastK c) ++ uintB (layB 16 c).length:=by
 unfold partsR;rw [List.flatMap_append];simp [partR,List.append_assoc]
theorem firstK_at {c:List Ent} {e:Ent} (h:c[0]?=some e):firstK c=keyE e:=by
 cases c with
 | nil=>cases h
 | cons a r=>cases h;rfl
theorem lastK_at {c:List Ent} {e:Ent} (h:c[c.length - 1]?=some e):lastK c=keyE e:=by
 unfold lastK;rw [List.getLast?_eq_getElem?,h];rfl
def numAt (f:List UInt8) (i:Nat):Nat:=(readR f ((8 * i:Nat):Int)).1
def numOk (f:List UInt8) (i:Nat):Bool:=decide ((readR f ((8 * i:Nat):Int)).2.2=0)
def footO (b:List UInt8):Option (List UInt8) :=
 if b.length < 68 then none else if (readFA b ((b.length - 68:Nat):Int)).2.2 ≠ 0∨(readFA b ((b.length - 68:Nat):Int)).2.1 ≠ b.length∨(readFA b ((b.length - 68:Nat):Int)).1.length ≠ 56 then none else some (readFA b ((b.length - 68:Nat):Int)).1
def allOk (f:List UInt8):Bool:=(List.range 7).all (numOk f)
def numsO (b:List UInt8):Option (List Nat):=match footO b with
 | none=>none
 | some f=>if allOk f=true then some ((List.range 7).map (numAt f)) else none
structure PcR where
  a:List UInt8
  b:List UInt8
  lo:Nat
  hi:Nat
def behR (p:Option (List UInt8)) (a:List UInt8):Bool:=match p with
 | none=>false
 | some q=>decide (0≤cmpB q a)
def pc1 (x:List UInt8) (p at' end':Nat) (prev:Option (List UInt8)):Option (PcR×Nat) :=
 if (readBy x (p:Int) (x.length:Int)).2.2 ≠ 0 then none
 else if (readBy x ((readBy x (p:Int) (x.length:Int)).2.1:Int) (x.length:Int)).2.2 ≠ 0 then none
 else if (readU x ((readBy x ((readBy x (p:Int) (x.length:Int)).2.1:Int) (x.length:Int)).2.1:Int)).2.2 ≠ 0 then none
 else if (readU x ((readBy x ((readBy x (p:Int) (x.length:Int)).2.1:Int) (x.length:Int)).2.1:Int)).1=0∨end' - at' < (readU x ((readBy x ((readBy x (p:Int) (x.length:Int)).2.1:Int) (x.length:Int)).2.1:Int)).1 then none
 else if (ParseKeyE (readBy x (p:Int) (x.length:Int)).1).2 ≠ 0∨(ParseKeyE (readBy x ((readBy x (p:Int) (x.length:Int)).2.1:Int) (x.length:Int)).1).2 ≠ 0∨0 < cmpB (readBy x (p:Int) (x.length:Int)).1 (readBy x ((readBy x (p:Int) (x.length:Int)).2.1:Int) (x.length:Int)).1 then none
 else if behR prev (readBy x (p:Int) (x.length:Int)).1=true then none
 else some (⟨(readBy x (p:Int) (x.length:Int)).1,(readBy x ((readBy x (p:Int) (x.length:Int)).2.1:Int) (x.length:Int)).1,at',at' + (readU x ((readBy x ((readBy x (p:Int) (x.length:Int)).2.1:Int) (x.length:Int)).2.1:Int)).1⟩,(readU x ((readBy x ((readBy x (p:Int) (x.length:Int)).2.1:Int) (x.length:Int)).2.1:Int)).2.1)
def pcsF (x:List UInt8) (end':Nat):Nat→Nat→Nat→Option (List UInt8)→Option (List PcR×Nat×Nat)
 | 0,p,at',_=>some ([],p,at')
 | n + 1,p,at',prev=>match pc1 x p at' end' prev with
  | none=>none
  | some (c,q)=>match pcsF x end' n q c.hi (some c.b) with
   | none=>none
   | some (l,r)=>some (c::l,r)
def pcsO (x:List UInt8) (n end':Nat):Option (List PcR) :=
 if (readU x 0).2.2 ≠ 0∨(readU x 0).1 ≠ n then none else match pcsF x end' n (readU x 0).2.1 8 none with
 | none=>none
 | some (l,p,at')=>if p=x.length∧at'=end' then some l else none
def unsB (b:List UInt8):Bool:=b.drop (b.length - 4) == lowB (sumL (b.take (b.length - 4)))
structure RunR where
  bytes:List UInt8
  count:Nat
  index:Nat
  low:Nat
  clock:Nat
  filt:List UInt8
  ps:List PcR
def openN (b:List UInt8) (ns:List Nat):Option RunR :=
 match ns with
 | [count,index,low,clock,blocks,fAt,iAt] =>
  if sealI index low clock=false∨blocks < 1∨count < blocks then none
  else if fAt < 8∨iAt < fAt + 4∨b.length < iAt + 72 then none
  else if unsB (cutS b fAt (iAt - fAt))=false∨unsB (cutS b iAt (b.length - 68 - iAt))=false then none
  else if cutS b fAt (iAt - fAt - 4) ≠ []∧isF (cutS b fAt (iAt - fAt - 4))=false then none
  else match pcsO (cutS b iAt (b.length - 72 - iAt)) blocks fAt with
   | none=>none
   | some l=>some ⟨b,count,index,low,clock,cutS b fAt (iAt - fAt - 4),l⟩
 | _=>none
def openP (b:List UInt8):Option RunR:=if b.take 8 ≠ magR then none else match numsO b with
 | none=>none
 | some ns=>openN b ns
def openR7 (b:List UInt8):Option RunR×Int:=if 16777216 < b.length then (none,2) else match openP b with
 | none=>(none,72)
 | some r=>(some r,0)
def blkR (r:RunR) (p:PcR):Option (List Ent):=match openE (cutS r.bytes p.lo (p.hi - p.lo)) with
 | (some L,_)=>if firstK L=p.a∧lastK L=p.b then some L else none
 | (none,_)=>none
def allF (r:RunR):List PcR→List Ent×Bool
 | []=>([],true)
 | p::l=>match blkR r p with
  | none=>([],false)
  | some L=>(L ++ (allF r l).1,(allF r l).2)
def allR (r:RunR):List Ent×Bool:=allF r r.ps
def keyP (k:List UInt8):Ent:=(ParseKeyE k).1
def seekF (r:RunR) (e:Ent):List PcR→List Ent×Bool
 | []=>([],true)
 | p::l=>if cmpE (keyP p.b) e < 0 then seekF r e l else match blkR r p with
  | none=>([],false)
  | some L=>(L.filter (fun x=>decide (0≤cmpE x e)) ++ (seekF r e l).1,(seekF r e l).2)
theorem cutF_mid (a b c:List UInt8) {k m:Nat} (hk:k=a.length) (hm:m=b.length):cutF (a ++ b ++ c) k m=b:=by
 subst hk;subst hm
 unfold cutF
 rw [List.append_assoc,List.drop_left' rfl,List.take_left' rfl]
theorem numF_cut (X:List UInt8) (k:Nat):numF X k=numF (cutF X k 4) 0:=by
 unfold numF cutF
 simp [List.getElem?_drop]
theorem numF_be4 (n:Nat) (h:n < 4294967296):numF (be4 n) 0=n:=by
 unfold numF be4 numB
 simp
 omega
theorem frame_parts (p s r:List UInt8):(p ++ frameB s ++ r=p ++ be4 s.length ++ (lowB (sumL (be4 s.length)) ++ s ++ lowB (sumL s) ++ r))
  ∧ (p ++ frameB s ++ r=(p ++ be4 s.length) ++ lowB (sumL (be4 s.length)) ++ (s ++ lowB (sumL s) ++ r))
  ∧ (p ++ frameB s ++ r=(p ++ be4 s.length ++ lowB (sumL (be4 s.length))) ++ s ++ (lowB (sumL s) ++ r))
  ∧ (p ++ frameB s ++ r=(p ++ be4 s.length ++ lowB (sumL (be4 s.length)) ++ s) ++ lowB (sumL s) ++ r):=by
 unfold frameB headF
 refine ⟨?_,?_,?_,?_⟩ <;> simp
theorem readF_back (p s r:List UInt8) (hs:s.length≤1048576):readF (p ++ frameB s ++ r) p.length=(s,p.length + (s.length + 12),0):=by
 obtain ⟨q1,q2,q3,q4⟩:=frame_parts p s r
 have c1:cutF (p ++ frameB s ++ r) p.length 4=be4 s.length:=by rw [q1];exact cutF_mid _ _ _ rfl rfl
 have c2:cutF (p ++ frameB s ++ r) (p.length + 4) 4=lowB (sumL (be4 s.length)):=by rw [q2];exact cutF_mid _ _ _ (by rw [List.length_append];rfl) rfl
 have c3:cutF (p ++ frameB s ++ r) (p.length + 8) s.length=s:=by rw [q3];exact cutF_mid _ _ _ (by rw [List.length_append,List.length_append];rfl) rfl
 have c4:cutF (p ++ frameB s ++ r) (p.length + 8 + s.length) 4=lowB (sumL s):=by rw [q4];exact cutF_mid _ _ _ (by rw [List.length_append,List.length_append,List.length_append];rfl) rfl
 have hn:numF (p ++ frameB s ++ r) p.length=s.length:=by rw [numF_cut,c1,numF_be4 _ (by omega)]
 have hl:(p ++ frameB s ++ r).length=p.length + (s.length + 12) + r.length:=by rw [List.length_append,List.length_append,frameB_length]
 have b2:∀ k u,isB (p ++ frameB s ++ r) k u=(cutF (p ++ frameB s ++ r) k 4 == lowB u):=fun _ _=>rfl
 unfold readF
 rw [b2,b2,hn,c1,c2,c3,c4,hl,if_neg (by omega),if_neg (by simp),if_neg (by omega),if_neg (by omega),if_neg (by simp)]
 simp only [Prod.mk.injEq,true_and,and_true]
 omega
theorem readFA_back (p s r:List UInt8) (hs:s.length≤1048576):readFA (p ++ frameB s ++ r) (p.length:Int)=(s,p.length + (frameB s).length,0):=by
 unfold readFA
 rw [if_neg (by simp only [List.length_append];omega),Int.toNat_natCast,readF_back p s r hs,frameB_length]
theorem risBs_cons (v:Nat) (ns:List Nat):risBs (v::ns)=risB v ++ risBs ns:=rfl
theorem risBs_app (a b:List Nat):risBs (a ++ b)=risBs a ++ risBs b:=by unfold risBs;rw [List.flatMap_append]
theorem risBs_len:∀ ns:List Nat,(risBs ns).length=8 * ns.length
 | []=>rfl
 | v::ns=>by rw [risBs_cons,List.length_append,risB_len,risBs_len ns,List.length_cons];omega
theorem readR_ris {ns:List Nat} {i v:Nat} (h:ns[i]?=some v) (hv:v < 9223372036854775808):readR (risBs ns) ((8 * i:Nat):Int)=(v,8 * i + 8,0):=by
 obtain ⟨hi,he⟩:=List.getElem?_eq_some_iff.1 h
 have h1:ns=ns.take i ++ v::ns.drop (i + 1):=by rw [← he];rw [← List.drop_eq_getElem_cons hi,List.take_append_drop]
 have h2:risBs ns=risBs (ns.take i) ++ risB v ++ risBs (ns.drop (i + 1)):=by
  have:=congrArg risBs h1
  rw [risBs_app,risBs_cons] at this
  rw [List.append_assoc];exact this
 have h3:(risBs (ns.take i)).length=8 * i:=by rw [risBs_len,List.length_take];omega
 have h4:=readR_back (risBs (ns.take i)) (risBs (ns.drop (i + 1))) v hv
 rw [← h2,h3] at h4
 exact h4
theorem numAt_ris {ns:List Nat} {i v:Nat} (h:ns[i]?=some v) (hv:v < 9223372036854775808):numAt (risBs ns) i=v∧numOk (risBs ns) i=true:=by
 unfold numAt numOk
 rw [readR_ris h hv]
 exact ⟨rfl,rfl⟩
theorem nums_back {ns:List Nat} (h7:ns.length=7) (hv:∀ v,v ∈ ns→v < 9223372036854775808):allOk (risBs ns)=true∧(List.range 7).map (numAt (risBs ns))=ns:=by
 have hb:∀ i,i < 7→∃ v,ns[i]?=some v∧numAt (risBs ns) i=v∧numOk (risBs ns) i=true:=fun i hi=>by
  have he:ns[i]?=some (ns[i]'(by omega)):=List.getElem?_eq_getElem (by omega)
  exact ⟨_,he,numAt_ris he (hv _ (List.mem_of_getElem? he))⟩
 constructor
 ·unfold allOk
  rw [List.all_eq_true]
  intro i hi
  obtain ⟨v,_,_,h⟩:=hb i (List.mem_range.1 hi)
  exact h
 ·apply List.ext_getElem?
  intro i
  by_cases hi:i < 7
  ·obtain ⟨v,h1,h2,_⟩:=hb i hi
   rw [List.getElem?_map,List.getElem?_range hi,h1]
   exact congrArg some h2
  ·rw [List.getElem?_eq_none (by rw [List.length_map,List.length_range];omega),List.getElem?_eq_none (by omega)]
theorem footO_back (p f:List UInt8) (hf:f.length=56):footO (p ++ frameB f)=some f:=by
 have hl:(p ++ frameB f).length=p.length + 68:=by rw [List.length_append,frameB_length,hf]
 have h1:=readFA_back p f [] (by omega)
 rw [List.append_nil,frameB_length,hf] at h1
 unfold footO
 rw [hl,if_neg (by omega),Nat.add_sub_cancel,h1]
 rw [if_neg]
 rintro (h | h | h)
 ·exact h rfl
 ·exact h rfl
 ·exact h hf
theorem numsO_back (p:List UInt8) {ns:List Nat} (h7:ns.length=7) (hv:∀ v,v ∈ ns→v < 9223372036854775808):numsO (p ++ frameB (risBs ns))=some ns:=by
 unfold numsO
 rw [footO_back p _ (by rw [risBs_len,h7])]
 obtain ⟨h1,h2⟩:=nums_back h7 hv
 simp only [h1,↓reduceIte,h2]
theorem unsB_back (b:List UInt8):unsB (sumdB b)=true:=by
 have hl:(sumdB b).length - 4=b.length:=by unfold sumdB;rw [List.length_append,lowB_len];omega
 unfold unsB
 rw [hl]
 unfold sumdB
 rw [List.take_left' rfl,List.drop_left' rfl]
 exact beq_self_eq_true _
structure ChOk (c:List Ent):Prop where
  ne:c ≠ []
  chk:∀ e,e ∈ c→checkE e=0
  asc:AscE c
  bld:buildE5 16 c=(layB 16 c,0)
theorem keyP_key {e:Ent} (h:checkE e=0):ParseKeyE (keyE e)=({ e with val:=[] },0):=by
 have ho:=ok_of h
 unfold ParseKeyE
 rw [parse_key ho]
 have h1:checkE { e with val:=[] }=0:=of_ok ⟨ho.row,ho.fam,ho.qual,ho.ts,ho.seq,ho.kind,⟨Nat.zero_le _,fun _=>rfl⟩⟩
 show (if checkE { e with val:=[] }=0∧keyE { e with val:=[] }=keyE e then ({ e with val:=[] },(0:Int)) else (noEnt,27))=_
 rw [if_pos ⟨h1,rfl⟩]
theorem ChOk.first {c:List Ent} (h:ChOk c):∃ e,c[0]?=some e∧e ∈ c∧firstK c=keyE e:=by
 match c,h.ne with
 | e::r,_=>exact ⟨e,rfl,.head _,rfl⟩
theorem ChOk.last {c:List Ent} (h:ChOk c):∃ e,c[c.length - 1]?=some e∧e ∈ c∧lastK c=keyE e:=by
 have hl:c.length - 1 < c.length:=by have:=List.length_pos_iff.2 h.ne;omega
 exact ⟨c[c.length - 1],List.getElem?_eq_getElem hl,List.getElem_mem _,lastK_at (List.getElem?_eq_getElem hl)⟩
theorem ChOk.first_le {c:List Ent} (h:ChOk c):¬ 0 < cmpB (firstK c) (lastK c):=by
 obtain ⟨a,ha,ma,e1⟩:=h.first
 obtain ⟨b,hb,mb,e2⟩:=h.last
 rw [e1,e2,key_sorts (ok_of (h.chk a ma)) (ok_of (h.chk b mb))]
 by_cases hl:c.length - 1=0
 ·rw [hl] at hb
  rw [ha] at hb
  cases hb
  rw [← key_sorts (ok_of (h.chk a ma)) (ok_of (h.chk a ma)),cmpB_self]
  decide
 ·have hp:=List.pairwise_iff_getElem.1 h.asc
  obtain ⟨h0,e0⟩:=List.getElem?_eq_some_iff.1 ha
  obtain ⟨h9,e9⟩:=List.getElem?_eq_some_iff.1 hb
  have:=hp 0 (c.length - 1) h0 h9 (by omega)
  rw [e0,e9] at this
  omega
theorem keyB_len {k:List UInt8}:(keyB k).length=(uintB k.length).length + k.length:=by unfold keyB;rw [List.length_append]
theorem pc1_back {x pre post:List UInt8} {c:List Ent} {end' at':Nat} {prev:Option (List UInt8)} (hc:ChOk c) (hfit:at' + (layB 16 c).length≤end') (hl:0 < (layB 16 c).length∧(layB 16 c).length < 18446744073709551616) (hprev:behR prev (firstK c)=false) (hx:x=pre ++ partR c ++ post) :
  pc1 x pre.length at' end' prev=some (⟨firstK c,lastK c,at',at' + (layB 16 c).length⟩,(pre ++ partR c).length):=by
 obtain ⟨a,ha,ma,e1⟩:=hc.first
 obtain ⟨b,hb,mb,e2⟩:=hc.last
 have oa:=ok_of (hc.chk a ma)
 have ob:=ok_of (hc.chk b mb)
 have ka:=keyE_len oa
 have kb:=keyE_len ob
 have hxl:x.length=pre.length + ((keyB (firstK c)).length + (keyB (lastK c)).length + (uintB (layB 16 c).length).length) + post.length:=by
  rw [hx];unfold partR;simp only [List.length_append]
 have x1:x=pre ++ (uintB (firstK c).length ++ firstK c) ++ (keyB (lastK c) ++ uintB (layB 16 c).length ++ post):=by rw [hx];unfold partR keyB;simp only [List.append_assoc]
 have x2:x=(pre ++ keyB (firstK c)) ++ (uintB (lastK c).length ++ lastK c) ++ (uintB (layB 16 c).length ++ post):=by rw [hx];unfold partR keyB;simp only [List.append_assoc]
 have x3:x=(pre ++ keyB (firstK c) ++ keyB (lastK c)) ++ uintB (layB 16 c).length ++ post:=by rw [hx];unfold partR;simp only [List.append_assoc]
 have kf:(firstK c).length≤x.length:=by rw [hxl,keyB_len];omega
 have kl:(lastK c).length≤x.length:=by rw [hxl,keyB_len,keyB_len];omega
 have r1:readBy x (pre.length:Int) (x.length:Int)=(firstK c,(pre ++ keyB (firstK c)).length,0):=by
  have:=readBy_back pre (keyB (lastK c) ++ uintB (layB 16 c).length ++ post) (firstK c) (x.length:Int) (by rw [e1];omega) (by omega)
  rw [← x1] at this
  rw [this];simp only [keyB,List.length_append]
 have r2:readBy x (((pre ++ keyB (firstK c)).length:Nat):Int) (x.length:Int)=(lastK c,(pre ++ keyB (firstK c) ++ keyB (lastK c)).length,0):=by
  have:=readBy_back (pre ++ keyB (firstK c)) (uintB (layB 16 c).length ++ post) (lastK c) (x.length:Int) (by rw [e2];omega) (by omega)
  rw [← x2] at this
  rw [this];simp only [keyB,List.length_append]
 have r3:readU x (((pre ++ keyB (firstK c) ++ keyB (lastK c)).length:Nat):Int)=((layB 16 c).length,(pre ++ partR c).length,0):=by
  have:=readU_back (pre ++ keyB (firstK c) ++ keyB (lastK c)) post (layB 16 c).length hl.2
  rw [← x3] at this
  rw [this]
  unfold partR
  simp only [List.length_append,Nat.add_assoc]
 unfold pc1
 rw [r1]
 dsimp only
 rw [r2]
 dsimp only
 rw [r3]
 dsimp only
 rw [if_neg (by simp),if_neg (by simp),if_neg (by simp),if_neg (by omega),e1,e2,keyP_key (hc.chk a ma),keyP_key (hc.chk b mb),← e1,← e2,if_neg (by rintro (h | h | h);exact h rfl;exact h rfl;exact hc.first_le h),hprev,if_neg (by decide)]
def pcsOf:Nat→List (List Ent)→List PcR
 | _,[]=>[]
 | at',c::cs=>⟨firstK c,lastK c,at',at' + (layB 16 c).length⟩::pcsOf (at' + (layB 16 c).length) cs
theorem blocksR_cons (c:List Ent) (cs:List (List Ent)):blocksR (c::cs)=layB 16 c ++ blocksR cs:=rfl
theorem partsR_cons (c:List Ent) (cs:List (List Ent)):partsR (c::cs)=partR c ++ partsR cs:=rfl
def ChsOk:Option (List UInt8)→List (List Ent)→Prop
 | _,[]=>True
 | p,c::cs=>ChOk c∧behR p (firstK c)=false∧0 < (layB 16 c).length∧(layB 16 c).length < 18446744073709551616∧ChsOk (some (lastK c)) cs
theorem pcsF_back {x:List UInt8} {end':Nat}:∀ (cs:List (List Ent)) (pre:List UInt8) (at':Nat) (prev:Option (List UInt8)),ChsOk prev cs→x=pre ++ partsR cs→at' + (blocksR cs).length=end' →
  pcsF x end' cs.length pre.length at' prev=some (pcsOf at' cs,x.length,end')
 | [],pre,at',prev,_,hx,he=>by
  have hx':x=pre:=by rw [hx];exact List.append_nil _
  subst hx'
  have:at'=end':=he
  subst this
  rfl
 | c::cs,pre,at',prev,⟨h1,h2,h3,h4,h5⟩,hx,he=>by
  rw [blocksR_cons,List.length_append] at he
  rw [partsR_cons] at hx
  have hp:=pc1_back (x:=x) (pre:=pre) (post:=partsR cs) (end':=end') (at':=at') (prev:=prev) h1 (by omega) ⟨h3,h4⟩ h2 (by rw [hx,List.append_assoc])
  have ih:=pcsF_back (x:=x) (end':=end') cs (pre ++ partR c) (at' + (layB 16 c).length) (some (lastK c)) h5 (by rw [hx,List.append_assoc]) (by omega)
  rw [List.length_cons]
  unfold pcsF
  rw [hp]
  dsimp only
  rw [ih]
  rfl
theorem pcsO_back (cs:List (List Ent)) {end':Nat} (h:ChsOk none cs) (hn:cs.length < 18446744073709551616) (he:8 + (blocksR cs).length=end'):pcsO (indexR cs) cs.length end'=some (pcsOf 8 cs):=by
 have h0:readU (indexR cs) 0=(cs.length,(uintB cs.length).length,0):=by
  have:=readU_back [] (partsR cs) cs.length hn
  simpa [indexR] using this
 have h1:=pcsF_back (x:=indexR cs) (end':=end') cs (uintB cs.length) 8 none h rfl he
 unfold pcsO
 rw [h0]
 dsimp only
 rw [if_neg (by simp),h1]
 simp
set_option maxRecDepth 100000 in
set_option maxHeartbeats 1000000 in
theorem sum_any (ks:List (List UInt8)) (A:Option Addr) (n c:Nat) (w:World) (hn:n≤9223372036854775807) (hr:RBs w w.heap.size A n ks) (ht:TabAt 0 w) :
  Calls Tryz.prog 135 #[.slice A n c] w fun e w'=>e = .returned (.int .u32 (sumL ks.flatten))∧w=w':=by
 have hlen:=hr.len
 have HT:=Lib.hid ht
 have HR:=Lib.hid hr
 have hsg:IntKind.u32.signed=false:=rfl
 clear hr ht
 go_enter Tryz.func135,Tryz.ntmps135
 go_wp2
 go_loop [3,10] (fun s i=>∃ k:Nat,k≤n∧i = .int .i64 k∧∃ C:Nat,C < 4294967296∧s = .int .u32 C∧Hid (C=crcL 4294967295 (ks.take k).flatten)) (fun _ i=>n - (intOf i).toNat)
 case atStart=>exact ⟨0,Nat.zero_le _,rfl,4294967295,by omega,rfl,Lib.hid rfl⟩
 case round =>
  obtain ⟨k,hk,rfl,C,hC,rfl,HC⟩:=hrel
  by_cases hlt:k < n
  case neg =>
   have E:Hid (bits .xor .u32 IntKind.u32.max (C:Int)=(sumL ks.flatten:Int)):=Lib.hid (by
    rw [not_u32 hC,HC.out,take_all (by omega)];rfl)
   go_wp2
   go_ret
   exact ⟨by rw [← E.out];rfl,rfl⟩
  obtain ⟨b,o,x,a,ck,rfl,hb,hx,hcell,hxc,hck,_,hrb⟩:=HR.out.at_ hlt
  go_wp2
  go_loop [3,16] (fun s i=>∃ j:Nat,j≤x.length∧i = .int .i64 j∧∃ D:Nat,D < 4294967296∧s = .int .u32 D∧Hid (D=crcL C (x.take j))) (fun _ i=>x.length - (intOf i).toNat)
  case atStart=>exact ⟨0,Nat.zero_le _,rfl,C,hC,rfl,Lib.hid rfl⟩
  case round =>
   obtain ⟨j,hj,rfl,D,hD,rfl,HD⟩:=hrel
   by_cases hjl:j < x.length
   case neg =>
    have HN:Hid (D=crcL 4294967295 (ks.take (k + 1)).flatten):=Lib.hid (by
     rw [HD.out,take_all (by omega),HC.out,take_snoc hx,List.flatten_append,crcL_app];simp)
    go_wp2
    go_round
    case rel=>exact ⟨k + 1,by omega,by go_num,D,hD,rfl,HN⟩
    case measure=>simp [intOf];omega
   obtain ⟨b2,o2,y,rfl,hb2,hy,hcy⟩:=hrb.at_ hjl
   have e1:=nib1_walk D y
   have e2:=mid_walk D y hD
   have e3:=nib2_walk D y
   have e4:=crcB_walk D y hD
   have t1:=HT.out.2 _ (nib1_lt D y)
   have t2:=HT.out.2 _ (nib2_lt D y)
   have l1:=nib1_lt D y
   have l2:=nib2_lt D y
   go_wp2
   go_round
   case rel=>exact ⟨j + 1,by omega,by go_num,crcB D y,crcB_lt hD y,rfl,Lib.hid (by rw [take_snoc hy,crcL_snoc,← HD.out])⟩
   case measure=>simp [intOf];omega
theorem Tryz.u8s':SliceOf Tryz.prog 34 5 1 1:=SliceOf.mk' (z := .int .u8 0) Tryz.underlying34 (by kernel_rfl) rfl (by decide)
def outB (n:Nat) (a:Int):Bool:=decide (a < 0) || decide ((n:Int) < a)
theorem outB_no {n:Nat} {a:Int} (h1:0≤a) (h2:a≤n):outB n a=false:=by
 unfold outB;simp;omega
theorem outB_neg {n:Nat} {a:Int} (h:a < 0):outB n a=true:=by unfold outB;simp [h]
set_option maxRecDepth 100000 in
theorem outside_any (A:Option Addr) (n c:Nat) (a:Int) (w:World):Calls Tryz.prog 184 #[.slice A n c,.int .i64 a] w fun e w'=>e = .returned (.bool (outB n a))∧w=w':=by
 by_cases h:a < 0
 ·have H:=Lib.hid (outB_neg (n:=n) h)
  have hd:decide (a < 0)=true:=decide_eq_true h
  go_enter Tryz.func184,Tryz.ntmps184
  go_wp2
  go_ret
  exact ⟨by rw [H.out];rfl,rfl⟩
 ·have hd:decide (a < 0)=false:=decide_eq_false h
  have H:Hid (outB n a=decide ((n:Int) < a)):=Lib.hid (by unfold outB;rw [hd];rfl)
  go_enter Tryz.func184,Tryz.ntmps184
  go_wp2
  go_ret
  exact ⟨by rw [H.out];rfl,rfl⟩
set_option maxRecDepth 100000 in
theorem equal_any (a b:List UInt8) (A B:Option Addr) (n c m d:Nat) (w:World) (ha:RB w w.heap.size A n a) (hb:RB w w.heap.size B m b) :
  Calls Tryz.prog 87 #[.slice A n c,.slice B m d] w fun e w'=>e = .returned (.bool (a == b))∧w=w':=by
 have tok1:True:=trivial
 go_enter Tryz.func87,Tryz.ntmps87
 go_wp2_with (first
  | (have _t:=tok1;refine wpList_string_reads rfl _ 34 9 5 rfl Tryz.underlying34 Tryz.underlying5 Tryz.underlying9 rfl ha ?_;clear tok1)
  | (refine wpList_string_reads rfl _ 34 9 5 rfl Tryz.underlying34 Tryz.underlying5 Tryz.underlying9 rfl hb ?_))
 go_ret
 exact ⟨rfl,rfl⟩
set_option maxRecDepth 100000 in
set_option maxHeartbeats 400000 in
theorem clone_any (l:List UInt8) (A:Option Addr) (n c:Nat) (w:World) (hn:n≤140737488355328) (hA:A=none→c=0) (hr:RB w w.heap.size A n l) :
  Calls Tryz.prog 69 #[.slice A n c] w (BytesPost 5 l w):=by
 have hl:=hr.len
 have hnil:=fun (w':World)=>Lib.run_eql_slice_nil (P:=Tryz.prog) w' 34 5 A n c 0 0 Tryz.underlying34
 cases A with
 | none =>
  obtain rfl:=hA rfl
  have hn0:n=0:=by
   rcases Nat.eq_zero_or_pos n with h0 | h0
   ·exact h0
   ·obtain ⟨_,_,e,_⟩:=hr.2 h0
    cases e
  subst hn0
  have H:Hid (BytesPost 5 l w (.returned (.slice none 0 0)) w):=Lib.hid (by
   have hl0:l=[]:=List.eq_nil_of_length_eq_zero hl
   subst hl0
   exact bytes_post (n:=0) (own_nil _ _ _ _) (Below.refl _ _))
  clear hr hl
  go_enter Tryz.func69,Tryz.ntmps69
  go_wp2
  go_ret
  exact H.out
 | some ad =>
  have O1:=Lib.hid (u8s_one l)
  have HO:Hid ((w.alloc (.cells #[] 5)).ownsRow w.heap.size 5 1 (.slice (some ⟨w.heap.size,0,none⟩) 0 0) 0 []):=Lib.hid (World.ownsRow_made w #[] 0 (Nat.le_refl _) (by decide) rfl)
  have HR:Hid (RB (w.alloc (.cells #[] 5)) w.heap.size (some ad) n l):=Lib.hid (Reads.alloc hr (Nat.le_refl _) _)
  clear hr hA
  go_enter Tryz.func69,Tryz.ntmps69
  go_wp2_with (at_builtin;refine wpList_append_reads _ rfl (.tmp 5) (.tmp 6) rfl Tryz.u8s' w.heap.size (.slice (some ⟨w.heap.size,0,none⟩) 0 0) 0 [] rfl HO.out w.heap.size (some ad) n c (u8s l) rfl HR.out O1.out (by unfold maxLen;omega) (by omega) (by simp) ?_;intro v1 w1 hown1 hg1 hat1)
  go_ret
  rw [List.nil_append] at hown1
  exact bytes_post hown1 (below_app ((Below.refl _ _).alloc (Nat.le_refl _) _) HO.out hg1 (by simp) (Nat.le_refl _))
set_option maxRecDepth 100000 in
set_option maxHeartbeats 400000 in
theorem low_any (base n s:Nat) (v:Value) (xs:List Value) (w:World) (hn:n≤140737488355324) (hown:w.ownsRow base 5 1 v n xs) (hbase:base≤w.heap.size) (hs:s < 4294967296) :
  Calls Tryz.prog 170 #[v,.int .u32 s] w fun e w'=>∃ v',e = .returned v'∧w'.ownsRow base 5 1 v' (n + 4) (xs ++ u8s (lowB s))∧w.grownBy w' v.ownBlock:=by
 have e0:=Lib.hid (u8v_mod s)
 have e1:=Lib.hid (u8v_mod (s / 256))
 have e2:=Lib.hid (u8v_mod (s / 65536))
 have e3:=Lib.hid (u8v_mod (s / 16777216))
 have hL:Hid (u8s (lowB s)=[.int .u8 ((s:Int) % 256),.int .u8 ((s:Int) / 256 % 256),.int .u8 ((s:Int) / 65536 % 256),.int .u8 ((s:Int) / 16777216)]):=Lib.hid (by
  show [u8v _,u8v _,u8v _,u8v _]=_
  rw [e0.out,e1.out,e2.out,e3.out];simp only [Int.natCast_ediv];rw [show ((s:Int) / ((16777216:Nat):Int) % 256)=(s:Int) / 16777216 from by omega];rfl)
 have HO:=Lib.hid hown
 clear hown
 go_enter Tryz.func170,Tryz.ntmps170
 go_wp2_with (at_builtin;refine wpList_append_reads _ rfl (.tmp 5) (.tmp 17) rfl Tryz.u8s' base v n xs rfl (HO.out.alloc _) (w.heap.size + 1) (some ⟨w.heap.size,0,none⟩) 4 4 (u8s (lowB s)) rfl (by exact reads_lit w _ (lowB s) _ _ (by rw [hL.out])) (u8s_one _) (by unfold maxLen;omega) (by omega) (by simp;omega) ?_;intro v1 w1 hown1 hg1 hat1)
 go_ret
 exact ⟨v1,rfl,hown1,grown_trans (World.grownBy_alloc w _ _) hg1⟩
set_option maxRecDepth 100000 in
set_option maxHeartbeats 400000 in
theorem is_any (l:List UInt8) (A:Option Addr) (n c k s:Nat) (w:World) (hn:n≤9223372036854775807) (hnc:n≤c) (hr:RB w w.heap.size A n l) (hk:k + 4≤n) (hs:s < 4294967296) :
  Calls Tryz.prog 185 #[.slice A n c,.int .i64 k,.int .u32 s] w fun e w'=>e = .returned (.bool (isB l k s))∧Below w.heap.size w w':=by
 have HR:Hid (∀ w',Below w.heap.size w w'→RB w' w'.heap.size A n l):=Lib.hid fun w' h=>hr.later h
 clear hr
 have hS:Hid (∀ w',Below w.heap.size w w'→RB w' w'.heap.size (A.map (·.add k)) 4 ((l.drop k).take 4)):=Lib.hid fun w' h=>by
  have:=((HR.out w' h).drop (k:=k) (cap:=c) (by omega) hnc).take (m:=4) (by omega)
  rwa [if_neg (by omega)] at this
 have k0:IntKind.i64.wrap ((k:Int) + 4)=(k:Int) + 4:=IntWalk.i64_in _ (by omega)
 have k1:(0:Int)≤(k:Int) + 4:=by omega
 have k2:(k:Int) + 4≤(c:Int):=by omega
 have k3:((k:Int) + 4).toNat=k + 4:=by omega
 have k4:k≤k + 4:=by omega
 have k5:k + 4 - k=4:=by omega
 have k6:c ≠ k:=by omega
 clear hn hnc hk
 go_enter Tryz.func185,Tryz.ntmps185
 go_wp2
 go_region_with (first
  | (go_at_call 170;refine (low_any w.heap.size 0 s (.slice none 0 0) [] _ (by omega) (own_nil _ _ _ _) (by simp) hs).mono ?_;rintro e w1 ⟨v1,rfl,hown1,hg1⟩;rw [List.nil_append] at hown1;obtain ⟨A1,c1,rfl,hO1⟩:=own_bytes hown1;clear hown1)
  | (go_at_call 87;have HB:=Lib.hid (below_grown_drew hg1);clear hg1;refine (equal_any ((l.drop k).take 4) (lowB s) _ _ 4 _ _ _ _ (hS.out _ HB.out) hO1.rb).mono ?_;rintro e w2 ⟨rfl,rfl⟩))
 go_wp2
 go_ret
 exact ⟨rfl,HB.out⟩
theorem is_at (l:List UInt8) (A:Option Addr) (n c k s:Nat) (w:World) (a:Int) (ha:a=(k:Int)) (hn:n≤9223372036854775807) (hnc:n≤c) (hr:RB w w.heap.size A n l) (hk:k + 4≤n) (hs:s < 4294967296) :
  Calls Tryz.prog 185 #[.slice A n c,.int .i64 a,.int .u32 s] w fun e w'=>e = .returned (.bool (isB l k s))∧Below w.heap.size w w':=by
 subst ha
 exact is_any l A n c k s w hn hnc hr hk hs
set_option maxRecDepth 100000 in
set_option maxHeartbeats 1000000 in
theorem uint_any (v:Nat) (w:World) (hv:v < 18446744073709551616):Calls Tryz.prog 113 #[.int .u64 v] w (BytesPost 5 (uintB v) w):=by
 have HL:=Lib.hid (uintB_ten hv)
 have HV:=Lib.hid hv
 clear hv
 go_enter Tryz.func113,Tryz.ntmps113
 go_wp2
 go_loopw [0,3] (fun x b wr=>∃ (V:Nat) (pre:List UInt8),Hid (V < 18446744073709551616)∧x = .int .u64 V∧Hid (pre ++ uintB V=uintB v)∧Hid (pre.length≤10)∧wr.ownsRow w.heap.size 5 1 b pre.length (u8s pre)∧Hid (Below w.heap.size w wr)) (fun x _ _=>(intOf x).toNat)
 case atStart=>exact ⟨v,[],HV,rfl,Lib.hid rfl,Lib.hid (by simp),own_nil _ _ _ _,Lib.hid (Below.refl _ _)⟩
 case round =>
  obtain ⟨V,pre,HV2,rfl,HP,HPL,hown,HB⟩:=hrel
  by_cases h:128≤V
  ·have hd:decide ((128:Int)≤(V:Int))=true:=decide_eq_true (by omega)
   have ho:=or128_walk V
   have H8:=Lib.hid (u8v_or V)
   have HN:Hid ((pre ++ [UInt8.ofNat (V % 128 + 128)]) ++ uintB (V / 128)=uintB v):=Lib.hid (by rw [← HP.out,uintB_ge h];simp)
   have HNL:Hid ((pre ++ [UInt8.ofNat (V % 128 + 128)]).length≤10):=Lib.hid (by
    have:=congrArg List.length HN.out
    rw [List.length_append] at this
    have:=HL.out
    omega)
   obtain ⟨bv,hb⟩:∃ bv,bv=u3:=⟨_,rfl⟩
   rw [← hb] at hown ⊢
   clear hb
   go_wp2_with (at_builtin;go_must (refine wpList_append_reads _ rfl (.tmp 6) (.tmp 10) rfl Tryz.u8s' w.heap.size bv pre.length (u8s pre) rfl (hown.alloc _) (wr.heap.size + 1) (some ⟨wr.heap.size,0,none⟩) 1 1 (u8s [UInt8.ofNat (V % 128 + 128)]) rfl (by exact reads_lit wr _ [UInt8.ofNat (V % 128 + 128)] _ _ (by show _=[u8v _];rw [H8.out])) (u8s_one _) (by have:=HPL.out;unfold maxLen;omega) (by have:=HPL.out;omega) (by have:=HB.out.size;simp;omega) ?_);intro v1 w1 hown1 hg1 hat1)
   have HV3:Hid (V / 128 < 18446744073709551616):=Lib.hid (by have:=HV2.out;omega)
   have hB:w.heap.size≤(wr.alloc (.cells #[.int .u8 ((V:Int) % 128 + 128)] 5)).heap.size:=by have:=HB.out.size;simp;omega
   have HB1:=Lib.hid (below_app (HB.out.alloc HB.out.size _) (hown.alloc _) hg1 hB (Nat.le_refl _))
   rw [← u8s_append] at hown1
   have hO1:w1.ownsRow w.heap.size 5 1 v1 (pre ++ [UInt8.ofNat (V % 128 + 128)]).length (u8s (pre ++ [UInt8.ofNat (V % 128 + 128)])):=by
    rw [List.length_append];exact hown1
   clear hown hown1 hg1 hat1 hB
   go_roundw
   case rel=>exact ⟨V / 128,_,HV3,by rw [Int.natCast_ediv];rfl,HN,HNL,hO1,HB1⟩
   case measure=>simp [intOf];omega
  ·have hd:decide ((128:Int)≤(V:Int))=false:=decide_eq_false (by omega)
   have hm:(V:Int) % 256=(V:Int):=by omega
   have H8:Hid (u8v (UInt8.ofNat V) = .int .u8 (V:Int)):=Lib.hid (by
    unfold u8v
    rw [UInt8.toNat_ofNat',Nat.mod_eq_of_lt (by omega)])
   have HN:Hid (pre ++ [UInt8.ofNat V]=uintB v):=Lib.hid (by rw [← HP.out,uintB_lt (by omega)])
   obtain ⟨bv,hb⟩:∃ bv,bv=u3:=⟨_,rfl⟩
   rw [← hb] at hown ⊢
   clear hb
   go_wp2_with (at_builtin;go_must (refine wpList_append_reads _ rfl (.tmp 14) (.tmp 17) rfl Tryz.u8s' w.heap.size bv pre.length (u8s pre) rfl (hown.alloc _) (wr.heap.size + 1) (some ⟨wr.heap.size,0,none⟩) 1 1 (u8s [UInt8.ofNat V]) rfl (by exact reads_lit wr _ [UInt8.ofNat V] _ _ (by show _=[u8v _];rw [H8.out])) (u8s_one _) (by have:=HPL.out;unfold maxLen;omega) (by have:=HPL.out;omega) (by have:=HB.out.size;simp;omega) ?_);intro v1 w1 hown1 hg1 hat1)
   go_ret
   have hB:w.heap.size≤(wr.alloc (.cells #[.int .u8 (V:Int)] 5)).heap.size:=by have:=HB.out.size;simp;omega
   have HB1:=below_app (HB.out.alloc HB.out.size _) (hown.alloc _) hg1 hB (Nat.le_refl _)
   rw [← u8s_append,HN.out] at hown1
   exact bytes_post hown1 HB1
theorem uint_of (v:Nat) (a:Int) (ha:a=(v:Int)) (w:World) (hv:v < 18446744073709551616):Calls Tryz.prog 113 #[.int .u64 a] w (BytesPost 5 (uintB v) w):=by
 subst ha
 exact uint_any v w hv
set_option maxRecDepth 100000 in
set_option maxHeartbeats 400000 in
theorem bytes_any (l:List UInt8) (A:Option Addr) (n c:Nat) (w:World) (hn:n≤140737488355318) (hr:RB w w.heap.size A n l) :
  Calls Tryz.prog 112 #[.slice A n c] w (BytesPost 5 (uintB l.length ++ l) w):=by
 have HR:Hid (∀ w',Below w.heap.size w w'→RB w' w'.heap.size A n l):=Lib.hid fun w' h=>hr.later h
 have HL:=Lib.hid hr.len
 have HU:=Lib.hid (uintB_ten (v:=n) (by omega))
 clear hr
 go_enter Tryz.func112,Tryz.ntmps112
 go_wp2_with (first
  | (go_at_call 113;go_must (refine (uint_of n _ (by omega) _ (by omega)).mono ?_);rintro e w1 ⟨A1,c1,rfl,hO1,hb1⟩;have HB1:=Lib.hid hb1;have HO1:=Lib.hid hO1;clear hb1 hO1)
  | (at_builtin;go_must (refine wpList_append_reads _ rfl (.tmp 6) (.tmp 7) rfl Tryz.u8s' w.heap.size (.slice A1 (uintB n).length c1) (uintB n).length (u8s (uintB n)) rfl HO1.out _ A n c (u8s l) rfl (HR.out _ HB1.out) (u8s_one _) (by have:=HU.out;unfold maxLen;omega) (by have:=HU.out;omega) HB1.out.size ?_);intro v2 w2 hown2 hg2 hat2))
 go_ret
 rw [← u8s_append] at hown2
 rw [HL.out]
 exact bytes_post hown2 (below_app HB1.out HO1.out hg2 HB1.out.size (Nat.le_refl _))
theorem cmp_lt_at {a b:List UInt8} {k:Nat} {x y:UInt8} (h:a.take k=b.take k) (ha:a[k]?=some x) (hb:b[k]?=some y) (hxy:x.toNat < y.toNat):cmpB a b=-1:=by
 obtain ⟨h1,rfl⟩:=List.getElem?_eq_some_iff.1 ha
 obtain ⟨h2,rfl⟩:=List.getElem?_eq_some_iff.1 hb
 rw [← cmpB_drop a b k h,List.drop_eq_getElem_cons h1,List.drop_eq_getElem_cons h2,cmpB_lt hxy]
theorem cmp_gt_at {a b:List UInt8} {k:Nat} {x y:UInt8} (h:a.take k=b.take k) (ha:a[k]?=some x) (hb:b[k]?=some y) (hxy:y.toNat < x.toNat):cmpB a b=1:=by
 obtain ⟨h1,rfl⟩:=List.getElem?_eq_some_iff.1 ha
 obtain ⟨h2,rfl⟩:=List.getElem?_eq_some_iff.1 hb
 rw [← cmpB_drop a b k h,List.drop_eq_getElem_cons h1,List.drop_eq_getElem_cons h2,cmpB_gt hxy]
theorem cmp_eq_at {a b:List UInt8} {k:Nat} {x:UInt8} (h:a.take k=b.take k) (ha:a[k]?=some x) (hb:b[k]?=some x):a.take (k + 1)=b.take (k + 1):=by
 rw [take_snoc ha,take_snoc hb,h]
theorem cmp_end {a b:List UInt8} {k n m:Nat} (h:a.take k=b.take k) (ha:a.length=n) (hb:b.length=m) (hk:k=n) (hm:k≤m):cmpB a b=if n < m then -1 else 0:=by
 subst hk
 rw [← cmpB_drop a b k h,List.drop_eq_nil_of_le (by omega)]
 split
 ·rw [List.drop_eq_getElem_cons (by omega)];rfl
 ·rw [List.drop_eq_nil_of_le (by omega)];rfl
theorem cmp_end2 {a b:List UInt8} {k n m:Nat} (h:a.take k=b.take k) (ha:a.length=n) (hb:b.length=m) (hk:k=m) (hm:k < n):cmpB a b=1:=by
 subst hk
 rw [← cmpB_drop a b k h,show b.drop k=[] from List.drop_eq_nil_of_le (by omega),List.drop_eq_getElem_cons (by omega)];rfl
theorem ordB_take {l:List UInt8} {k:Nat} {y:UInt8} (h:l[k]?=some y):(l.take (k + 1)).flatMap ordC=(l.take k).flatMap ordC ++ ordC y:=by
 rw [take_snoc h,List.flatMap_append];simp
set_option maxRecDepth 100000 in
set_option maxHeartbeats 1000000 in
theorem ordered_any (l:List UInt8) (A:Option Addr) (n c:Nat) (w:World) (hn:n≤70368744177000) (hr:RB w w.heap.size A n l) :
  Calls Tryz.prog 166 #[.slice A n c] w (BytesPost 5 (ordB l) w):=by
 have HL:=Lib.hid hr.len
 have HR:Hid (∀ w',Below w.heap.size w w'→RB w' w'.heap.size A n l):=Lib.hid fun w' h=>hr.later h
 have HF:Hid (∀ k,((l.take k).flatMap ordC).length≤140737488354000):=Lib.hid fun k=>by
  have:=ordF_len (l.take k)
  have h2:(l.take k).length≤l.length:=by rw [List.length_take];omega
  have h3:=HL.out
  omega
 clear hr
 go_enter Tryz.func166,Tryz.ntmps166
 go_wp2_with (at_make;go_must (refine wpList_make_own _ rfl (.const (.int .i64 0)) (.tmp 8) 34 rfl w.heap.size 5 Tryz.t5 (.int .u8 0) 1 Tryz.underlying34 (by kernel_rfl) rfl rfl .i64 .i64 _ (n + 2) rfl rfl (by omega) (by show 1 * _≤_;omega) (by unfold maxLen;omega) (Nat.le_refl _) ?_);intro w1 hown1 hg1)
 have HB1:=Lib.hid (below_grown_none hg1)
 have HO1:=Lib.hid hown1
 clear hown1 hg1
 go_loopw [3,12] (fun v i wr=>∃ (k:Nat) (P:List UInt8),k≤n∧i = .int .i64 k∧Hid (P=(l.take k).flatMap ordC)∧wr.ownsRow w.heap.size 5 1 v P.length (u8s P)∧Hid (Below w.heap.size w wr)) (fun _ i _=>n - (intOf i).toNat)
 case atStart=>exact ⟨0,[],Nat.zero_le _,rfl,Lib.hid rfl,HO1.out,HB1⟩
 case round =>
  clear HO1 HB1
  obtain ⟨k,P,hk,rfl,HP,hown,HB⟩:=hrel
  obtain ⟨v,hv⟩:∃ v,v=u3:=⟨_,rfl⟩
  rw [← hv] at hown ⊢
  clear hv
  have HPL:Hid (P.length≤140737488354000):=Lib.hid (by rw [HP.out];exact HF.out k)
  by_cases hlt:k < n
  case neg =>
   have HE:Hid (P ++ [0,1]=ordB l):=Lib.hid (by rw [HP.out,take_all (by have:=HL.out;omega)];rfl)
   go_wp2_with (at_builtin;go_must (refine wpList_append_reads _ rfl (.tmp 26) (.tmp 27) rfl Tryz.u8s' w.heap.size v P.length (u8s P) rfl (hown.alloc _) (wr.heap.size + 1) (some ⟨wr.heap.size,0,none⟩) 2 2 (u8s [0,1]) rfl (by exact reads_lit wr _ [0,1] _ _ rfl) (u8s_one _) (by have:=HPL.out;unfold maxLen;omega) (by have:=HPL.out;omega) (by have:=HB.out.size;simp;omega) ?_);intro v1 w1 hown1 hg1 hat1)
   go_ret
   have hB:w.heap.size≤(wr.alloc (.cells #[.int .u8 0,.int .u8 1] 5)).heap.size:=by have:=HB.out.size;simp;omega
   have HB1:=below_app (HB.out.alloc HB.out.size _) (hown.alloc _) hg1 hB (Nat.le_refl _)
   rw [← u8s_append,HE.out] at hown1
   exact bytes_post hown1 HB1
  obtain ⟨b,o,y,rfl,_,hy,hcy⟩:=(HR.out _ HB.out).at_ hlt
  have HY:=Lib.hid (ordB_take hy)
  clear hy
  by_cases h0:y.toNat=0
  ·have HN:Hid ((P ++ [y]) ++ [255]=(l.take (k + 1)).flatMap ordC):=Lib.hid (by
    rw [HY.out,HP.out]
    unfold ordC
    rw [if_pos h0,UInt8.toNat_inj.1 (show y.toNat=(0:UInt8).toNat from h0)];simp)
   have hd:((y.toNat:Int) == 0)=true:=by rw [beq_iff_eq];omega
   have tok1:True:=trivial
   clear HY h0
   go_wp2_with (first
    | (at_builtin;have _t:=tok1;go_must (refine wpList_append_reads _ rfl (.tmp 16) (.tmp 18) rfl Tryz.u8s' w.heap.size v P.length (u8s P) rfl (hown.alloc _) (wr.heap.size + 1) (some ⟨wr.heap.size,0,none⟩) 1 1 (u8s [y]) rfl (by exact reads_lit wr _ [y] _ _ rfl) (u8s_one _) (by have:=HPL.out;unfold maxLen;omega) (by have:=HPL.out;omega) (by have:=HB.out.size;simp;omega) ?_);intro v1 w1 hown1 hg1 hat1;clear tok1;have HB1:=Lib.hid (below_app (HB.out.alloc HB.out.size (.cells #[.int .u8 (y.toNat:Int)] 5)) (hown.alloc _) hg1 (by have:=HB.out.size;simp;omega) (Nat.le_refl _));rw [← u8s_append] at hown1;have HO1:=Lib.hid hown1;clear hown1 hg1 hat1)
    | (at_builtin;go_must (refine wpList_append_reads _ rfl (.tmp 22) (.tmp 23) rfl Tryz.u8s' w.heap.size v1 (P.length + 1) (u8s (P ++ [y])) rfl (HO1.out.alloc _) (w1.heap.size + 1) (some ⟨w1.heap.size,0,none⟩) 1 1 (u8s [255]) rfl (by exact reads_lit w1 _ [255] _ _ rfl) (u8s_one _) (by have:=HPL.out;unfold maxLen;omega) (by have:=HPL.out;omega) (by have:=HB1.out.size;simp;omega) ?_);intro v2 w2 hown2 hg2 hat2;have HB2:=Lib.hid (below_app (HB1.out.alloc HB1.out.size (.cells #[.int .u8 255] 5)) (HO1.out.alloc _) hg2 (by have:=HB1.out.size;simp;omega) (Nat.le_refl _));rw [← u8s_append] at hown2;have HO2:=Lib.hid hown2;clear hown2 hg2 hat2))
   have hO2:w2.ownsRow w.heap.size 5 1 v2 ((P ++ [y]) ++ [255]).length (u8s ((P ++ [y]) ++ [255])):=by
    have:=HO2.out
    have e:((P ++ [y]) ++ [(255:UInt8)]).length=P.length + 1 + 1:=by simp
    rw [e];exact this
   clear HO2 HO1
   go_roundw
   case rel=>exact ⟨k + 1,(P ++ [y]) ++ [255],by omega,by go_num,HN,hO2,HB2⟩
   case measure=>simp [intOf];omega
  ·have HN:Hid (P ++ [y]=(l.take (k + 1)).flatMap ordC):=Lib.hid (by
    rw [HY.out,HP.out]
    unfold ordC
    rw [if_neg h0])
   have hd:((y.toNat:Int) == 0)=false:=by rw [beq_eq_false_iff_ne];omega
   clear HY h0
   go_wp2_with (at_builtin;go_must (refine wpList_append_reads _ rfl (.tmp 16) (.tmp 18) rfl Tryz.u8s' w.heap.size v P.length (u8s P) rfl (hown.alloc _) (wr.heap.size + 1) (some ⟨wr.heap.size,0,none⟩) 1 1 (u8s [y]) rfl (by exact reads_lit wr _ [y] _ _ rfl) (u8s_one _) (by have:=HPL.out;unfold maxLen;omega) (by have:=HPL.out;omega) (by have:=HB.out.size;simp;omega) ?_);intro v1 w1 hown1 hg1 hat1;have HB1:=Lib.hid (below_app (HB.out.alloc HB.out.size (.cells #[.int .u8 (y.toNat:Int)] 5)) (hown.alloc _) hg1 (by have:=HB.out.size;simp;omega) (Nat.le_refl _));rw [← u8s_append] at hown1;have HO1:=Lib.hid hown1;clear hown1 hg1 hat1)
   have hO1:w1.ownsRow w.heap.size 5 1 v1 (P ++ [y]).length (u8s (P ++ [y])):=by
    have:=HO1.out
    rw [show (P ++ [y]).length=P.length + 1 from by simp];exact this
   clear HO1
   go_roundw
   case rel=>exact ⟨k + 1,P ++ [y],by omega,by go_num,HN,hO1,HB1⟩
   case measure=>simp [intOf];omega
theorem made_zeros (L:Nat):(madeCells (Value.int IntKind.u8 0).cells L).toList=u8s (List.replicate L 0):=by
 have e:(Value.int IntKind.u8 0).cells=#[.int .u8 0]:=rfl
 rw [e]
 apply List.ext_getElem?
 intro i
 simp only [madeCells,u8s,u8v,List.map_replicate,List.getElem?_replicate,Array.toList_map,Array.toList_range,List.getElem?_map,List.size_toArray,List.length_cons,List.length_nil,Nat.zero_add,Nat.mod_one]
 by_cases h:i < L
 ·rw [if_pos h,List.getElem?_range h];rfl
 ·rw [if_neg h,List.getElem?_eq_none (by simpa using h)];rfl
theorem rTo_zero (v:Nat):rTo v 0=List.replicate 8 0:=by simp [rTo,List.range_succ]
theorem u8s_set' (l:List UInt8) (k:Nat) (x:UInt8):(u8s l).set k (u8v x)=u8s (l.set k x):=by
 unfold u8s
 rw [List.map_set]
set_option maxRecDepth 100000 in
set_option maxHeartbeats 1000000 in
theorem rising_any (v:Nat) (w:World) (hv:v < 9223372036854775808):Calls Tryz.prog 117 #[.int .i64 v] w (BytesPost2 5 (risB v) 0 w):=by
 have hd:decide ((v:Int) < 0)=false:=decide_eq_false (by omega)
 go_enter Tryz.func117,Tryz.ntmps117
 go_wp2_with (at_make;go_must (refine wpList_make_full _ rfl (.const (.int .i64 8)) (.const (.int .i64 8)) 34 rfl w.heap.size 5 Tryz.t5 (.int .u8 0) 1 Tryz.underlying34 (by kernel_rfl) rfl rfl .i64 .i64 _ _ 8 rfl rfl rfl rfl (by decide) (by decide) (Nat.le_refl _) ?_);intro w1 hown1 hg1)
 have HB1:=Lib.hid (below_grown_none hg1)
 have HO1:Hid (OwnB 5 w.heap.size w1 (some ⟨w.heap.size,0,none⟩) 8 (rTo v 0)):=Lib.hid (by
  unfold OwnB
  rw [rTo_len,rTo_zero,← made_zeros 8]
  exact hown1)
 clear hown1 hg1
 obtain ⟨g,hg⟩:∃ g,g=w.heap.size:=⟨_,rfl⟩
 have HG:=Lib.hid hg
 rw [← hg] at HO1 ⊢
 clear hg
 go_loopw [0,5] (fun x i wr=>∃ (j:Nat) (X:Nat) (I:Int),j≤8∧Hid (X=v / 256 ^ j)∧X < 9223372036854775808∧x = .int .i64 X∧I=7 - (j:Int)∧i = .int .i64 I∧Hid (OwnB 5 g wr (some ⟨g,0,none⟩) 8 (rTo v j))∧Hid (Below w.heap.size w wr)) (fun _ i _=>(intOf i + 1).toNat)
 case atStart=>exact ⟨0,v,7,by omega,Lib.hid (by simp),hv,rfl,rfl,rfl,HO1,HB1⟩
 case round =>
  clear HO1 HB1
  obtain ⟨j,X,I,hj,HX,hXl,rfl,hI,rfl,HO,HB⟩:=hrel
  by_cases hlt:j < 8
  case neg =>
   obtain rfl:j=8:=by omega
   have hd2:decide ((0:Int)≤I)=false:=decide_eq_false (by omega)
   clear hI
   have HP:Hid (BytesPost2 5 (risB v) 0 w (.returned (.tuple #[.slice (some ⟨g,0,none⟩) 8 8,.int .i64 0])) wr):=Lib.hid (by
    have h:=HO.out
    unfold OwnB at h
    rw [rTo_len] at h
    rw [HG.out] at h ⊢
    exact bytes_post2 (n:=8) h HB.out)
   go_wp2
   go_ret2
   exact HP.out
  obtain ⟨D,rfl⟩:∃ D:Nat,I=(D:Int):=⟨I.toNat,by omega⟩
  have hD:D=7 - j:=by omega
  have hDl:D < 8:=by omega
  have HD:=Lib.hid hD
  clear hI hD
  obtain ⟨x,hx⟩:∃ x,(rTo v j)[D]?=some x:=⟨_,List.getElem?_eq_getElem (by rw [rTo_len];exact hDl)⟩
  have hcx:wr.cell? ⟨g,D,none⟩=some (.int .u8 (x.toNat:Int)):=(World.ownsRow.cellAt HO.out D (by rw [rTo_len];omega)).trans (u8s_at hx)
  have hfr:wr.frozen? ⟨g,D,none⟩=false:=World.ownsRow.frozenAt HO.out _
  have hst:=World.ownsRow.stored HO.out D (u8v (UInt8.ofNat X))
  rw [u8s_set',HX.out,HD.out,← rTo_succ v j hlt,← HX.out,← HD.out,u8v_mod] at hst
  have HST:=Lib.hid hst
  clear hst hx
  go_wp2
  have HB2:=Lib.hid (HB.out.grown HST.out.2 HB.out.size (fun b e=>by injection e with e;rw [← e,HG.out];exact Nat.le_refl _))
  have HO2:=Lib.hid (show OwnB 5 g _ (some ⟨g,0,none⟩) 8 (rTo v (j + 1)) from by
   have:=HST.out.1
   unfold OwnB
   rw [rTo_len] at this ⊢
   exact this)
  have HX2:Hid (X / 256=v / 256 ^ (j + 1)):=Lib.hid (by rw [HX.out,Nat.pow_succ,Nat.div_div_eq_div_mul])
  go_roundw
  case rel=>exact ⟨j + 1,X / 256,(D:Int) - 1,by omega,HX2,by omega,rfl,by have:=HD.out;omega,rfl,HO2,HB2⟩
  case measure=>simp [intOf]
set_option maxRecDepth 100000 in
theorem falling_any (v:Nat) (w:World) (hv:v < 9223372036854775808):Calls Tryz.prog 168 #[.int .i64 v] w (BytesPost2 5 (risB (9223372036854775807 - v)) 0 w):=by
 have hd:decide ((v:Int) < 0)=false:=decide_eq_false (by omega)
 have HC:Hid (∀ z:Int,z=9223372036854775807 - (v:Int)→∀ w,Calls Tryz.prog 117 #[.int .i64 z] w (BytesPost2 5 (risB (9223372036854775807 - v)) 0 w)):=Lib.hid fun z hz w=>by
  rw [show z=((9223372036854775807 - v:Nat):Int) from by omega]
  exact rising_any _ w (by omega)
 have k1:IntKind.i64.wrap (9223372036854775807 - (v:Int))=9223372036854775807 - (v:Int):=i64_sum (by omega) (by omega)
 go_enter Tryz.func168,Tryz.ntmps168
 go_wp2_with (go_at_call 117;go_must (refine (HC.out _ (by omega) _).mono ?_);rintro e w1 ⟨A1,c1,rfl,hO1,hb1⟩)
 go_ret2
 exact ⟨A1,c1,rfl,hO1,hb1⟩
theorem drop_of_get {l:List UInt8} {k:Nat} {c:UInt8} (h:l[k]?=some c):l.drop k=c::l.drop (k + 1):=by
 obtain ⟨h1,rfl⟩:=List.getElem?_eq_some_iff.1 h
 exact List.drop_eq_getElem_cons h1
set_option maxRecDepth 100000 in
set_option maxHeartbeats 2000000 in
theorem ro_any (l:List UInt8) (A:Option Addr) (n c:Nat) (a:Int) (w:World) (hs:Sl w A n c l) (hn:n≤140737488355000) :
  Calls Tryz.prog 196 #[.slice A n c,.int .i64 a] w (BytesPost3 5 (readO l a).1 ((readO l a).2.1:Nat) ((readO l a).2.2:Nat) w):=by
 have hl:=hs.len
 have HR:Hid (∀ w',Below w.heap.size w w'→RB w' w'.heap.size A n l):=Lib.hid fun w' h=>hs.rb.later h
 by_cases ho:outB n a=true
 ·have HO:=Lib.hid ho
  have H:Hid (BytesPost3 5 (readO l a).1 ((readO l a).2.1:Nat) ((readO l a).2.2:Nat) w (.returned (.tuple #[.slice none 0 0,.int .i64 0,.int .i64 1])) w):=Lib.hid (by
   unfold outB at ho
   simp at ho
   unfold readO
   rw [if_pos (by omega)]
   exact bytes_none3 (Below.refl _ _))
  clear hs ho hl
  go_enter Tryz.func196,Tryz.ntmps196
  go_wp2_with (go_at_call 184;go_must (refine (outside_any A n c a _).mono ?_);rintro e w0 ⟨rfl,rfl⟩;rw [HO.out])
  go_ret3
  exact H.out
 have ho:outB n a=false:=by simpa using ho
 have HO:=Lib.hid ho
 have ha:0≤a∧a≤n:=by unfold outB at ho;simp at ho;omega
 obtain ⟨K,rfl⟩:∃ K:Nat,a=(K:Int):=⟨a.toNat,by omega⟩
 have HL:=Lib.hid hl
 obtain ⟨R,hR⟩:∃ R,R=readO l (K:Int):=⟨_,rfl⟩
 rw [← hR]
 have HS:Hid (glO [] K (rdO (l.drop K))=R):=Lib.hid (by rw [hR,readO_in (by omega)])
 have hK:K≤n:=by omega
 clear hs ho hl ha hR
 go_enter Tryz.func196,Tryz.ntmps196
 go_wp2_with (go_at_call 184;go_must (refine (outside_any A n c (K:Int) _).mono ?_);rintro e w0 ⟨rfl,rfl⟩;rw [HO.out])
 go_loopw [1,7] (fun i v wr=>∃ (k:Nat) (P:List UInt8),k≤n∧i = .int .i64 k∧Hid (P.length≤k)∧Hid (glO P k (rdO (l.drop k))=R)∧wr.ownsRow w.heap.size 5 1 v P.length (u8s P)∧Hid (Below w.heap.size w wr)) (fun i _ _=>n - (intOf i).toNat)
 case atStart=>exact ⟨K,[],hK,rfl,Lib.hid (by simp),HS,own_nil _ _ _ _,Lib.hid (Below.refl _ _)⟩
 case round =>
  clear HS
  obtain ⟨k,P,hk,rfl,HPL,HG,hown,HB⟩:=hrel
  obtain ⟨v,hv⟩:∃ v,v=u7:=⟨_,rfl⟩
  rw [← hv] at hown ⊢
  clear hv
  have HT:Hid (rdO []=([],0,10)∧∀ x,rdO [x]=([],0,10)):=Lib.hid ⟨rfl,fun _=>rfl⟩
  have HE:Hid (∀ e,e ≠ 0→R=([],0,e)→BytesPost3 5 R.1 (R.2.1:Nat) (R.2.2:Nat) w (.returned (.tuple #[.slice none 0 0,.int .i64 0,.int .i64 e])) wr):=Lib.hid fun e _ h=>by
   rw [h];exact bytes_none3 HB.out
  by_cases hlt:k < n
  case neg =>
   have hd:decide ((k:Int) < (n:Int))=false:=decide_eq_false (by omega)
   have H:=Lib.hid (HE.out 10 (by decide) (by rw [← HG.out,List.drop_eq_nil_of_le (by have:=HL.out;omega),HT.out.1];rfl))
   clear HE
   go_wp2
   go_ret3
   exact H.out
  have hd:decide ((k:Int) < (n:Int))=true:=decide_eq_true (by omega)
  obtain ⟨b,o,x,rfl,_,hx,hcx⟩:=(HR.out _ HB.out).at_ hlt
  have HX:=Lib.hid (drop_of_get hx)
  clear hx
  by_cases hx0:x.toNat=0
  case neg =>
   have hd2:((x.toNat:Int) != 0)=true:=by rw [bne_iff_ne];omega
   have HN:Hid (glO (P ++ [x]) (k + 1) (rdO (l.drop (k + 1)))=R):=Lib.hid (by rw [← HG.out,HX.out,rdO_ne hx0,glO_add])
   have HPL2:Hid ((P ++ [x]).length≤k + 1):=Lib.hid (by rw [List.length_append];have:=HPL.out;simp;omega)
   clear HE hx0
   go_wp2_with (at_builtin;go_must (refine wpList_append_reads _ rfl (.tmp 24) (.tmp 26) rfl Tryz.u8s' w.heap.size v P.length (u8s P) rfl (hown.alloc _) (wr.heap.size + 1) (some ⟨wr.heap.size,0,none⟩) 1 1 (u8s [x]) rfl (by exact reads_lit wr _ [x] _ _ rfl) (u8s_one _) (by have:=HPL.out;unfold maxLen;omega) (by have:=HPL.out;omega) (by have:=HB.out.size;simp;omega) ?_);intro v1 w1 hown1 hg1 hat1;have HB1:=Lib.hid (below_app (HB.out.alloc HB.out.size (.cells #[.int .u8 (x.toNat:Int)] 5)) (hown.alloc _) hg1 (by have:=HB.out.size;simp;omega) (Nat.le_refl _));rw [← u8s_append] at hown1;have HO1:=Lib.hid hown1;clear hown1 hg1 hat1)
   have hO1:w1.ownsRow w.heap.size 5 1 v1 (P ++ [x]).length (u8s (P ++ [x])):=by
    have:=HO1.out
    rw [show (P ++ [x]).length=P.length + 1 from by simp];exact this
   clear HO1
   go_roundw
   case rel=>exact ⟨k + 1,P ++ [x],by omega,by go_num,HPL2,HN,hO1,HB1⟩
   case measure=>simp [intOf];omega
  have hd2:((x.toNat:Int) != 0)=false:=by rw [bne_eq_false_iff_eq];omega
  have hq1:IntKind.i64.wrap ((k:Int) + 1)=(k:Int) + 1:=i64_sum (by omega) (by omega)
  by_cases hlt2:k + 1 < n
  case neg =>
   have hd3:((k:Int) + 1 == (n:Int))=true:=by rw [beq_iff_eq];omega
   have H:=Lib.hid (HE.out 10 (by decide) (by rw [← HG.out,HX.out,List.drop_eq_nil_of_le (by have:=HL.out;omega),HT.out.2];rfl))
   clear HE hx0
   go_wp2
   go_ret3
   exact H.out
  have hd3:((k:Int) + 1 == (n:Int))=false:=by rw [beq_eq_false_iff_ne];omega
  have hq2:(0:Int)≤(k:Int) + 1:=by omega
  have hq3:(k:Int) + 1 < (n:Int):=by omega
  have hq4:((k:Int) + 1).toNat=k + 1:=by omega
  have hq5:IntKind.i64.wrap ((k:Int) + 1 + 1)=(k:Int) + 2:=by rw [i64_sum (by omega) (by omega)];omega
  obtain ⟨b',o',y,e',_,hy,hcy⟩:=(HR.out _ HB.out).at_ hlt2
  injection e' with e'
  injection e' with e1 e2
  subst e1;subst e2
  have HY:=Lib.hid (drop_of_get hy)
  clear hy
  by_cases hy1:y.toNat=1
  ·have hd4:((y.toNat:Int) == 1)=true:=by rw [beq_iff_eq];omega
   have H:Hid (BytesPost3 5 R.1 (R.2.1:Nat) (R.2.2:Nat) w (.returned (.tuple #[v,.int .i64 ((k:Int) + 2),.int .i64 0])) wr):=Lib.hid (by
    rw [← HG.out,HX.out,HY.out,rdO_one hx0 hy1]
    unfold glO
    rw [if_pos rfl]
    show BytesPost3 5 (P ++ []) ((k + 2:Nat):Int) 0 w _ wr
    rw [List.append_nil]
    exact bytes_post3 hown HB.out)
   clear HE hx0
   go_wp2
   go_ret3
   exact H.out
  have hd4:((y.toNat:Int) == 1)=false:=by rw [beq_eq_false_iff_ne];omega
  by_cases hy2:y.toNat=255
  ·have hd5:((y.toNat:Int) == 255)=true:=by rw [beq_iff_eq];omega
   have HN:Hid (glO (P ++ [0]) (k + 2) (rdO (l.drop (k + 2)))=R):=Lib.hid (by rw [← HG.out,HX.out,HY.out,rdO_zero hx0 hy2,glO_add])
   have HPL2:Hid ((P ++ [(0:UInt8)]).length≤k + 2):=Lib.hid (by rw [List.length_append];have:=HPL.out;simp;omega)
   clear HE hx0
   go_wp2_with (at_builtin;go_must (refine wpList_append_reads _ rfl (.tmp 43) (.tmp 44) rfl Tryz.u8s' w.heap.size v P.length (u8s P) rfl (hown.alloc _) (wr.heap.size + 1) (some ⟨wr.heap.size,0,none⟩) 1 1 (u8s [0]) rfl (by exact reads_lit wr _ [0] _ _ rfl) (u8s_one _) (by have:=HPL.out;unfold maxLen;omega) (by have:=HPL.out;omega) (by have:=HB.out.size;simp;omega) ?_);intro v1 w1 hown1 hg1 hat1;have HB1:=Lib.hid (below_app (HB.out.alloc HB.out.size (.cells #[.int .u8 0] 5)) (hown.alloc _) hg1 (by have:=HB.out.size;simp;omega) (Nat.le_refl _));rw [← u8s_append] at hown1;have HO1:=Lib.hid hown1;clear hown1 hg1 hat1)
   have hO1:w1.ownsRow w.heap.size 5 1 v1 (P ++ [(0:UInt8)]).length (u8s (P ++ [(0:UInt8)])):=by
    have:=HO1.out
    rw [show (P ++ [(0:UInt8)]).length=P.length + 1 from by simp];exact this
   clear HO1
   go_roundw
   case rel=>exact ⟨k + 2,P ++ [0],by omega,by go_num,HPL2,HN,hO1,HB1⟩
   case measure=>simp [intOf];omega
  ·have hd5:((y.toNat:Int) == 255)=false:=by rw [beq_eq_false_iff_ne];omega
   have H:=Lib.hid (HE.out 11 (by decide) (by rw [← HG.out,HX.out,HY.out,rdO_form hx0 hy1 hy2];rfl))
   clear HE hx0
   go_wp2
   go_ret3
   exact H.out
def RRPost (r:Nat×Nat×Nat) (w:World) (e:Ending) (w':World):Prop:=e = .returned (.tuple #[.int .i64 r.1,.int .i64 r.2.1,.int .i64 r.2.2])∧w=w'
set_option maxRecDepth 100000 in
set_option maxHeartbeats 2000000 in
theorem rr_any (l:List UInt8) (A:Option Addr) (n c:Nat) (a:Int) (w:World) (hs:Sl w A n c l) (_hn:n≤140737488355000) :
  Calls Tryz.prog 133 #[.slice A n c,.int .i64 a] w (RRPost (readR l a) w):=by
 have hl:=hs.len
 by_cases ho:outB n a=true
 ·have HO:=Lib.hid ho
  have H:Hid (readR l a=(0,0,1)):=Lib.hid (by
   unfold outB at ho
   simp at ho
   unfold readR
   rw [if_pos (by omega)])
  clear hs ho hl
  go_enter Tryz.func133,Tryz.ntmps133
  go_wp2_with (go_at_call 184;go_must (refine (outside_any A n c a _).mono ?_);rintro e w0 ⟨rfl,rfl⟩;rw [HO.out])
  go_ret3
  rw [H.out]
  exact ⟨rfl,rfl⟩
 have ho:outB n a=false:=by simpa using ho
 have HO:=Lib.hid ho
 have ha:0≤a∧a≤n:=by unfold outB at ho;simp at ho;omega
 obtain ⟨k,rfl⟩:∃ k:Nat,a=(k:Int):=⟨a.toNat,by omega⟩
 have hk:k≤n:=by omega
 have hbase:readR l (k:Int)=if n < k + 8 then (0,0,10) else if 127 < (l[k]?.getD 0).toNat then (0,0,13) else (big (cutS l k 8),k + 8,0):=by
  unfold readR;rw [if_neg (by omega),Int.toNat_natCast,hl]
 have hcap:=hs.cap
 have hlim:=hs.lim
 by_cases h8:n < k + 8
 ·have H:Hid (readR l (k:Int)=(0,0,10)):=Lib.hid (by rw [hbase,if_pos h8])
  have hd:decide ((n:Int) - (k:Int) < 8)=true:=decide_eq_true (by omega)
  clear hs ho hl ha hbase
  go_enter Tryz.func133,Tryz.ntmps133
  go_wp2_with (go_at_call 184;go_must (refine (outside_any A n c (k:Int) _).mono ?_);rintro e w0 ⟨rfl,rfl⟩;rw [HO.out])
  go_ret3
  rw [H.out]
  exact ⟨rfl,rfl⟩
 rw [if_neg h8] at hbase
 have hd:decide ((n:Int) - (k:Int) < 8)=false:=decide_eq_false (by omega)
 have hkn:k < n:=by omega
 obtain ⟨b,o,x,rfl,_,hx,hcx⟩:=hs.rb.at_ hkn
 rw [hx] at hbase
 by_cases hbig:127 < x.toNat
 ·have H:Hid (readR l (k:Int)=(0,0,13)):=Lib.hid (by rw [hbase,Option.getD_some,if_pos hbig])
  have hd2:decide ((127:Int) < (x.toNat:Int))=true:=decide_eq_true (by omega)
  have hd3:decide (127 < x.toNat)=true:=decide_eq_true hbig
  clear hs ho hl ha hbase hx
  go_enter Tryz.func133,Tryz.ntmps133
  go_wp2_with (go_at_call 184;go_must (refine (outside_any _ n c (k:Int) _).mono ?_);rintro e w0 ⟨rfl,rfl⟩;rw [HO.out])
  go_ret3
  rw [H.out]
  exact ⟨rfl,rfl⟩
 have HBS:Hid (readR l (k:Int)=(big (cutS l k 8),k + 8,0)):=Lib.hid (by rw [hbase,Option.getD_some,if_neg hbig])
 have hd2:decide ((127:Int) < (x.toNat:Int))=false:=decide_eq_false (by omega)
 have hd3:decide (127 < x.toNat)=false:=decide_eq_false hbig
 obtain ⟨L,hL⟩:∃ L,L=cutS l k 8:=⟨_,rfl⟩
 rw [← hL] at HBS
 have HLL:Hid (L.length=8):=Lib.hid (by rw [hL];unfold cutS;rw [List.length_take,List.length_drop];omega)
 have H0:Hid ((L[0]?.getD 0).toNat≤127):=Lib.hid (by
  have e:L[0]?=l[k]?:=by rw [hL];unfold cutS;rw [List.getElem?_take_of_lt (by omega),List.getElem?_drop,Nat.add_zero]
  rw [e,hx,Option.getD_some];omega)
 have HC:Hid (∀ (j:Nat) (y:UInt8),L[j]?=some y→w.cell? ⟨b,o + k + j,none⟩=some (.int .u8 (y.toNat:Int))):=Lib.hid fun j y hy=>by
  have hj:j < 8:=by have:=(List.getElem?_eq_some_iff.1 hy).1;rw [HLL.out] at this;exact this
  have e:L[j]?=l[k + j]?:=by rw [hL];unfold cutS;rw [List.getElem?_take_of_lt hj,List.getElem?_drop]
  rw [e] at hy
  rw [Nat.add_assoc]
  exact hs.rb.cell hy
 have k0:IntKind.i64.wrap ((k:Int) + 8)=(k:Int) + 8:=i64_sum (by omega) (by omega)
 have k1:(0:Int)≤(k:Int) + 8:=by omega
 have k2:(k:Int) + 8≤(c:Int):=by omega
 have k3:((k:Int) + 8).toNat=k + 8:=by omega
 have k4:k≤k + 8:=by omega
 have k5:k + 8 - k=8:=by omega
 have k6:c ≠ k:=by omega
 clear hs ho hl ha hbase hx hL hbig
 go_enter Tryz.func133,Tryz.ntmps133
 go_wp2_with (go_at_call 184;go_must (refine (outside_any _ n c (k:Int) _).mono ?_);rintro e w0 ⟨rfl,rfl⟩;rw [HO.out])
 go_loop [7,32] (fun s i=>∃ j:Nat,j≤8∧i = .int .i64 j∧∃ N:Nat,Hid (N=big (L.take j))∧N < 9223372036854775808∧s = .int .i64 N) (fun _ i=>8 - (intOf i).toNat)
 case atStart=>exact ⟨0,by omega,rfl,0,Lib.hid (by simp [big]),by omega,rfl⟩
 case round =>
  obtain ⟨j,hj,rfl,N,HN,hN,rfl⟩:=hrel
  by_cases hlt:j < 8
  case neg =>
   have hdj:decide ((j:Int) < 8)=false:=decide_eq_false (by omega)
   have HE:Hid (readR l (k:Int)=(N,k + 8,0)):=Lib.hid (by rw [HBS.out,HN.out,take_all (by rw [HLL.out];omega)])
   go_wp2
   go_ret3
   rw [HE.out]
   exact ⟨rfl,rfl⟩
  have hdj:decide ((j:Int) < 8)=true:=decide_eq_true (by omega)
  obtain ⟨y,hy⟩:∃ y,L[j]?=some y:=⟨_,List.getElem?_eq_getElem (by rw [HLL.out];exact hlt)⟩
  have hcy:=HC.out j y hy
  have HB7:=Lib.hid (big_take H0.out (j:=j) (by omega))
  have hNb:N < 36028797018963968:=by have:=HB7.out;rw [← HN.out] at this;exact this
  have e1:=or_step N y hNb
  have e2:wrap64 ((N:Int) * 256)=(N:Int) * 256:=wrap64_id (by omega) (by omega)
  have e3:IntKind.i64.wrap ((N:Int) * 256)=(N:Int) * 256:=i64_sum (by omega) (by omega)
  have HN2:Hid (N * 256 + y.toNat=big (L.take (j + 1))):=Lib.hid (by rw [take_snoc hy,big_snoc,HN.out])
  have hy8:=y.toNat_lt
  clear hy
  go_wp2
  go_round
  case rel=>exact ⟨j + 1,by omega,by go_num,N * 256 + y.toNat,HN2,by omega,rfl⟩
  case measure=>simp [intOf];omega
set_option maxRecDepth 100000 in
set_option maxHeartbeats 2000000 in
theorem rfl_any (l:List UInt8) (A:Option Addr) (n c:Nat) (a:Int) (w:World) (hs:Sl w A n c l) (hn:n≤140737488355000) :
  Calls Tryz.prog 197 #[.slice A n c,.int .i64 a] w (RRPost (readFl l a) w):=by
 have hend:=readR_end l a
 have HC:=Lib.hid (rr_any l A n c a w hs hn)
 obtain ⟨v,hv⟩:∃ v,v=(readR l a).1:=⟨_,rfl⟩
 obtain ⟨p,hp⟩:∃ p,p=(readR l a).2.1:=⟨_,rfl⟩
 obtain ⟨k,hk⟩:∃ k,k=(readR l a).2.2:=⟨_,rfl⟩
 have hbase:readFl l a=if k=0 then (9223372036854775807 - v,p,0) else (0,0,k):=by unfold readFl;rw [hv,hp,hk]
 have HU:Hid (RRPost (readR l a) w=RRPost (v,p,k) w):=Lib.hid (by rw [hv,hp,hk])
 rw [← hv,← hk] at hend
 clear hv hp hk hs
 by_cases hk0:k=0
 ·have H:Hid (readFl l a=(9223372036854775807 - v,p,0)):=Lib.hid (by rw [hbase,if_pos hk0])
  obtain ⟨_,_,_,_,hv⟩:=hend hk0
  subst hk0
  have q1:IntKind.i64.wrap (9223372036854775807 - (v:Int))=((9223372036854775807 - v:Nat):Int):=by rw [i64_sum (by omega) (by omega)];omega
  have q2:(9223372036854775807 - (v:Int))=((9223372036854775807 - v:Nat):Int):=by omega
  have HQ:=Lib.hid q2
  clear hbase hend q2
  go_enter Tryz.func197,Tryz.ntmps197
  go_wp2_with (go_at_call 133;go_must (refine HC.out.mono ?_);rw [HU.out];rintro e w1 ⟨rfl,rfl⟩)
  go_ret3
  rw [H.out]
  refine ⟨?_,rfl⟩
  first
   | rfl
   | (rw [← HQ.out];rfl)
 ·have H:Hid (readFl l a=(0,0,k)):=Lib.hid (by rw [hbase,if_neg hk0])
  have hd:((k:Int) != 0)=true:=by rw [bne_iff_ne];omega
  clear hbase hend
  go_enter Tryz.func197,Tryz.ntmps197
  go_wp2_with (go_at_call 133;go_must (refine HC.out.mono ?_);rw [HU.out];rintro e w1 ⟨rfl,rfl⟩)
  go_ret3
  rw [H.out]
  exact ⟨rfl,rfl⟩
theorem atB_of {b:List UInt8} {k:Nat} {u:UInt8} (h:b[k]?=some u):atB b k=u.toNat:=by unfold atB;rw [h];rfl
theorem get_of {b:List UInt8} {k:Nat} (h:k < b.length):∃ u,b[k]?=some u:=⟨b[k],List.getElem?_eq_getElem h⟩
theorem parseN_cases (b row:List UInt8) (fam:Nat) (qual:List UInt8) (a:Nat) {C:Option (Ent×Nat)→Prop}
  (f3:∀ t p3 er,readFl b (a:Nat)=(t,p3,er)→er ≠ 0→C none)
  (f4a:∀ t p3 s p4 er,readFl b (a:Nat)=(t,p3,0)→readFl b (p3:Int)=(s,p4,er)→er ≠ 0→C none)
  (f4b:∀ t p3 s p4,readFl b (a:Nat)=(t,p3,0)→readFl b (p3:Int)=(s,p4,0)→p4≤b.length→b.length≤p4→C none)
  (ok:∀ t p3 s p4 k,readFl b (a:Nat)=(t,p3,0)→readFl b (p3:Int)=(s,p4,0)→p4 < b.length→b[p4]?=some k→C (some (⟨row,fam,qual,(t:Int),(s:Int),(k.toNat:Int),[]⟩,p4 + 1))) :
  C (parseN b row fam qual a):=by
 unfold parseN
 obtain ⟨t,p3,er,h3⟩:∃ t p3 er,readFl b (a:Nat)=(t,p3,er):=⟨_,_,_,rfl⟩
 rw [h3]
 simp only
 by_cases he:er=0
 ·subst he
  rw [if_neg (by simp)]
  obtain ⟨s,p4,er,h4⟩:∃ s p4 er,readFl b (p3:Int)=(s,p4,er):=⟨_,_,_,rfl⟩
  rw [h4]
  simp only
  by_cases he:er=0
  ·subst he
   have hend:=(readFl_end b p3 (by rw [h4])).2.1
   rw [h4] at hend
   by_cases hl:b.length≤p4
   ·rw [if_pos (.inr hl)]
    exact f4b t p3 s p4 h3 h4 hend hl
   ·rw [if_neg (by rintro (h | h);exact h rfl;exact hl h)]
    obtain ⟨k,hk⟩:=get_of (b:=b) (k:=p4) (by omega)
    rw [atB_of hk]
    exact ok t p3 s p4 k h3 h4 (by omega) hk
  ·rw [if_pos (.inl he)]
   exact f4a t p3 s p4 er h3 h4 he
 ·rw [if_pos he]
  exact f3 t p3 er h3 he
theorem parse_cases (b:List UInt8) {C:Option (Ent×Nat)→Prop}
  (f1a:∀ rw0 p1 er,readO b 0=(rw0,p1,er)→er ≠ 0→C none)
  (f1b:∀ row p1,readO b 0=(row,p1,0)→p1≤b.length→b.length < p1 + 2→C none)
  (f2a:∀ row p1 (f g:UInt8) ql0 p2 er,readO b 0=(row,p1,0)→p1 + 2≤b.length→b[p1]?=some f→b[p1 + 1]?=some g→g.toNat ≠ 0→readO b ((p1 + 2:Nat):Int)=(ql0,p2,er)→er ≠ 0→C none)
  (f2b:∀ row p1 (f g:UInt8) qual p2,readO b 0=(row,p1,0)→p1 + 2≤b.length→b[p1]?=some f→b[p1 + 1]?=some g→g.toNat ≠ 0→readO b ((p1 + 2:Nat):Int)=(qual,p2,0)→p2≤b.length→b.length≤p2→C none)
  (fP:∀ row p1 (f g:UInt8) qual p2,readO b 0=(row,p1,0)→p1 + 2≤b.length→b[p1]?=some f→b[p1 + 1]?=some g→g.toNat ≠ 0→readO b ((p1 + 2:Nat):Int)=(qual,p2,0)→p2 < b.length→C (parseN b row f.toNat qual (p2 + 1)))
  (fN:∀ row p1 (f g:UInt8),readO b 0=(row,p1,0)→p1 + 2≤b.length→b[p1]?=some f→b[p1 + 1]?=some g→g.toNat=0→C (parseN b row f.toNat [] (p1 + 2))) :
  C (parseE b):=by
 unfold parseE
 obtain ⟨row,p1,er,h0⟩:∃ row p1 er,readO b 0=(row,p1,er):=⟨_,_,_,rfl⟩
 rw [h0]
 simp only
 by_cases he:er=0
 ·subst he
  have hend:=(readO_end b 0 (by rw [h0])).2.1
  rw [h0] at hend
  by_cases hl:b.length < p1 + 2
  ·rw [if_pos (.inr hl)]
   exact f1b row p1 h0 hend hl
  ·rw [if_neg (by rintro (h | h);exact h rfl;exact hl h)]
   obtain ⟨f,hf⟩:=get_of (b:=b) (k:=p1) (by omega)
   obtain ⟨g,hg⟩:=get_of (b:=b) (k:=p1 + 1) (by omega)
   rw [atB_of hf,atB_of hg]
   by_cases hg0:g.toNat=0
   ·rw [if_neg (by simpa using hg0)]
    exact fN row p1 f g h0 (by omega) hf hg hg0
   ·rw [if_pos hg0]
    unfold parseQ
    obtain ⟨qual,p2,er,h2⟩:∃ qual p2 er,readO b ((p1 + 2:Nat):Int)=(qual,p2,er):=⟨_,_,_,rfl⟩
    rw [h2]
    simp only
    by_cases he:er=0
    ·subst he
     have hend2:=(readO_end b ((p1 + 2:Nat):Int) (by rw [h2])).2.1
     rw [h2] at hend2
     by_cases hl2:b.length≤p2
     ·rw [if_pos (.inr hl2)]
      exact f2b row p1 f g qual p2 h0 (by omega) hf hg hg0 h2 hend2 hl2
     ·rw [if_neg (by rintro (h | h);exact h rfl;exact hl2 h)]
      exact fP row p1 f g qual p2 h0 (by omega) hf hg hg0 h2 (by omega)
    ·rw [if_pos (.inl he)]
     exact f2a row p1 f g qual p2 er h0 (by omega) hf hg hg0 h2 he
 ·rw [if_pos (.inl he)]
  exact f1a row p1 er h0 he
set_option maxRecDepth 100000 in
set_option maxHeartbeats 2000000 in
theorem frame_any (l:List UInt8) (A:Option Addr) (n c:Nat) (w:World) (hn:n≤9223372036854775807) (hnc:n≤c) (hc:c≤9223372036854775807) (hA:A=none→c=0) (hr:RB w w.heap.size A n l) (ht:TabAt 0 w) :
  Calls Tryz.prog 118 #[.slice A n c] w (BytesPost2 5 (frameR l) (frameE l) w):=by
 have hl:=hr.len
 by_cases hbig:1048576 < n
 ·have H:Hid (BytesPost2 5 (frameR l) (frameE l) w (.returned (.tuple #[.slice none 0 0,.int .i64 2])) w):=Lib.hid (by
   unfold frameR frameE
   rw [if_neg (by omega),if_neg (by omega)]
   exact bytes_none2 (Below.refl _ _))
  clear hr ht hl
  go_enter Tryz.func118,Tryz.ntmps118
  go_wp2
  go_ret2
  exact H.out
 have hR:Hid (frameR l=frameB l∧frameE l=0):=Lib.hid (by unfold frameR frameE;rw [if_pos (by omega),if_pos (by omega)];exact ⟨rfl,rfl⟩)
 have HR:Hid (∀ w',Below w.heap.size w w'→RB w' w'.heap.size A n l):=Lib.hid fun w' h=>hr.later h
 have HT:Hid (∀ w',Below w.heap.size w w'→TabAt 0 w'):=Lib.hid fun w' h=>ht.later h
 have hL:Hid (u8s (be4 n)=[.int .u8 ((n:Int) / 16777216),.int .u8 ((n:Int) / 65536),.int .u8 ((n:Int) / 256 % 256),.int .u8 ((n:Int) % 256)]):=Lib.hid (by
  show [u8v _,u8v _,u8v _,u8v _]=_
  rw [u8v_mod,u8v_mod,u8v_mod,u8v_mod];simp only [Int.natCast_ediv]
  rw [show ((n:Int) / ((16777216:Nat):Int) % 256)=(n:Int) / 16777216 from by omega,show ((n:Int) / ((65536:Nat):Int) % 256)=(n:Int) / 65536 from by omega];rfl)
 have HL:=Lib.hid hl
 have f1:Hid (∀ x:List UInt8,[x].flatten=x):=Lib.hid fun x=>by simp
 have tok1:True:=trivial
 have tok2:True:=trivial
 have tok3:True:=trivial
 have hc':=hc
 have HA':=Lib.hid hA
 have hn':n≤1048576:=by omega
 clear hr ht hl hA hbig
 go_enter Tryz.func118,Tryz.ntmps118
 go_wp2_with (first
  | (at_make;refine wpList_make_own _ rfl (.const (.int .i64 0)) (.tmp 11) 34 rfl w.heap.size 5 Tryz.t5 (.int .u8 0) 1 Tryz.underlying34 (by kernel_rfl) rfl rfl .i64 .i64 _ (n + 12) rfl rfl (by omega) (by show 1 * _≤_;omega) (by unfold maxLen;omega) (Nat.le_refl _) ?_;intro w1 hown1 hg1)
  | (at_builtin;have _t:=tok1;refine wpList_append_reads _ rfl (.tmp 12) (.tmp 24) rfl Tryz.u8s' w.heap.size (.slice (some ⟨w.heap.size,0,none⟩) 0 (n + 12)) 0 [] rfl (hown1.alloc _) (w1.heap.size + 1) (some ⟨w1.heap.size,0,none⟩) 4 4 (u8s (be4 n)) rfl (by exact reads_lit w1 _ (be4 n) _ _ (by rw [hL.out])) (u8s_one _) (by decide) (by decide) (by have:=hg1.size;simp;omega) ?_;intro v2 w2 hown2 hg2 hat2;clear tok1;rw [List.nil_append] at hown2;have HB2:=Lib.hid (below_app ((below_grown_none hg1).alloc hg1.size _) (hown1.alloc _) hg2 (by have:=hg1.size;simp;omega) (Nat.le_refl _));obtain ⟨A2,c2,rfl,hO2⟩:=own_bytes hown2;have HO2:=Lib.hid hO2;clear hown2 hg2 hat2 hO2 hown1 hg1)
  | (go_at_call 135;have _t:=tok2;go_must (refine (sum_any [be4 n] _ 1 1 _ (by omega) (by exact (HO2.out.one _ _).more (by simp)) (HT.out _ (HB2.out.alloc HB2.out.size _))).mono ?_);rintro e w3 ⟨rfl,rfl⟩;rw [f1.out];clear tok2)
  | (go_at_call 170;have _t:=tok3;go_must (refine (low_any w.heap.size (be4 n).length (sumL (be4 n)) (.slice A2 (be4 n).length c2) (u8s (be4 n)) _ (by show 4≤_;omega) (HO2.out.alloc _) (by have:=HB2.out.size;simp;omega) (sumL_lt _)).mono ?_);rintro e w3 ⟨v3,rfl,hown3,hg3⟩;clear tok3;have HB3:=Lib.hid (below_app (HB2.out.alloc HB2.out.size _) (HO2.out.alloc _) hg3 (by have:=HB2.out.size;simp;omega) (Nat.le_refl _));rw [← u8s_append] at hown3;obtain ⟨L3,A3,c3,E3,N3,rfl,hO3⟩:=own_named hown3;have HO3:=Lib.hid hO3;clear hown3 hg3 hO3)
  | (at_builtin;go_must (refine wpList_append_reads _ rfl (.tmp 30) (.tmp 31) rfl Tryz.u8s' w.heap.size (.slice A3 L3.length c3) L3.length (u8s L3) rfl HO3.out _ A n c (u8s l) rfl (HR.out _ HB3.out) (u8s_one _) (by rw [N3.out];show 4 + 4 + n≤_;unfold maxLen;omega) (by rw [N3.out];show (4 + 4 + n) * 1≤_;omega) HB3.out.size ?_);intro v4 w4 hown4 hg4 hat4;have HB4:=Lib.hid (below_app HB3.out HO3.out hg4 HB3.out.size (Nat.le_refl _));rw [← u8s_append] at hown4;obtain ⟨L4,A4,c4,E4,N4,rfl,hO4⟩:=own_named hown4;have HO4:=Lib.hid hO4;clear hown4 hg4 hat4 hO4)
  | (go_at_call 135;go_must (refine (sum_any [l] _ 1 1 _ (by omega) (by exact (rbs_one _ A n c l _ _ hnc hc' HA'.out (HR.out _ HB4.out)).more (by simp)) (HT.out _ (HB4.out.alloc HB4.out.size _))).mono ?_);rintro e w5 ⟨rfl,rfl⟩;rw [f1.out])
  | (go_at_call 170;have HB5:=Lib.hid (HB4.out.alloc HB4.out.size (.cells #[.slice A n c] 34));go_must (refine (low_any w.heap.size L4.length (sumL l) (.slice A4 L4.length c4) (u8s L4) _ (by rw [N4.out,N3.out];show 4 + 4 + n≤_;omega) (HO4.out.alloc _) HB5.out.size (sumL_lt _)).mono ?_);rintro e w6 ⟨v6,rfl,hown6,hg6⟩;rw [← u8s_append] at hown6;have HO6:=Lib.hid hown6;have HB6:=Lib.hid (below_app HB5.out (HO4.out.alloc _) hg6 HB5.out.size (Nat.le_refl _));clear hown6 hg6))
 go_ret2
 rw [hR.out.1,hR.out.2]
 have hE:L4 ++ lowB (sumL l)=frameB l:=by unfold frameB headF;rw [HL.out,E4.out,E3.out]
 exact bytes_post2 (hE ▸ HO6.out) HB6.out
def RUPost (r:Nat×Nat×Nat) (w:World) (e:Ending) (w':World):Prop:=e = .returned (.tuple #[.int .u64 r.1,.int .i64 r.2.1,.int .i64 r.2.2])∧w=w'
set_option maxRecDepth 100000 in
set_option maxHeartbeats 400000 in
theorem ru_out (l:List UInt8) (A:Option Addr) (n c:Nat) (w:World) (a:Int) (hl:l.length=n) (h:a < 0∨(n:Int) < a) :
  Calls Tryz.prog 137 #[.slice A n c,.int .i64 a] w (RUPost (readU l a) w):=by
 have HO:Hid (outB n a=true):=Lib.hid (by rcases h with h | h <;> simp [outB,h])
 have H:Hid (readU l a=(0,0,1)):=Lib.hid (by unfold readU;rw [if_pos (by omega)])
 clear h hl
 go_enter Tryz.func137,Tryz.ntmps137
 go_wp2_with (go_at_call 184;go_must (refine (outside_any A n c a _).mono ?_);rintro e w0 ⟨rfl,rfl⟩;rw [HO.out])
 go_ret3
 rw [H.out]
 exact ⟨rfl,rfl⟩
set_option maxRecDepth 100000 in
set_option maxHeartbeats 1000000 in
theorem ru_in (l:List UInt8) (A:Option Addr) (n c k:Nat) (w:World) (hn:n≤9223372036854775797) (hr:RB w w.heap.size A n l) (hk:k≤n) :
  Calls Tryz.prog 137 #[.slice A n c,.int .i64 k] w (RUPost (readU l k) w):=by
 have HO:Hid (outB n (k:Int)=false):=Lib.hid (outB_no (by omega) (by omega))
 have hl:=hr.len
 have HR:=Lib.hid hr
 have HL:=Lib.hid hl
 clear hr hl
 go_enter Tryz.func137,Tryz.ntmps137
 go_wp2_with (go_at_call 184;go_must (refine (outside_any A n c k _).mono ?_);rintro e w0 ⟨rfl,rfl⟩;rw [HO.out])
 go_loop [7,8] (fun x i=>∃ (V j:Nat),Hid (V < 2 ^ (7 * j))∧x = .int .u64 V∧i = .int .i64 j∧j≤9∧k + j≤n∧Hid (rdU (l.drop (k + j)) j V=rdU (l.drop k) 0 0)) (fun _ i=>n + 1 - (intOf i).toNat)
 case atStart=>exact ⟨0,0,Lib.hid (by decide),rfl,rfl,by omega,by omega,Lib.hid rfl⟩
 case round =>
  obtain ⟨V,j,HV,rfl,rfl,hj9,hjn,HI⟩:=hrel
  by_cases hkj:k + j < n
  case neg =>
   have H:Hid (readU l k=(0,0,10)):=Lib.hid (readU_at (r:=(0,0,10)) (by rw [HL.out];exact hk) HI.out (by rw [List.drop_eq_nil_of_le (by rw [HL.out];omega)];rfl))
   go_wp2
   go_ret3
   rw [H.out]
   exact ⟨rfl,rfl⟩
  obtain ⟨b,o,x,eA,hb,hx,hcx⟩:=HR.out.at_ hkj
  subst eA
  have HC:Hid (l.drop (k + j)=x::l.drop (k + (j + 1))):=Lib.hid (by
   obtain ⟨h1,h2⟩:=List.getElem?_eq_some_iff.1 hx
   rw [List.drop_eq_getElem_cons h1,h2];rfl)
  have hx8:=x.toNat_lt
  clear hx
  have HK:Hid (k≤l.length):=Lib.hid (by rw [HL.out];exact hk)
  have tail:Hid (∀ r,rdU (l.drop (k + j)) j V=r→readU l (k:Int)=if r.2.2=0 then (r.1,k + r.2.1,0) else (0,0,r.2.2)):=Lib.hid fun r h=>readU_at HK.out HI.out h
  have HU:Hid (rdU (l.drop (k + j)) j V=if j=9∧1 < x.toNat then (0,0,13) else if x.toNat < 128 then (if x.toNat=0∧0 < j then (0,0,11) else (V + x.toNat % 128 * 2 ^ (7 * j),j + 1,0)) else rdU (l.drop (k + (j + 1))) (j + 1) (V + x.toNat % 128 * 2 ^ (7 * j))):=Lib.hid (by rw [HC.out];rfl)
  by_cases h9:j=9
  ·subst h9
   have HV63:Hid (V < 2 ^ 63):=Lib.hid HV.out
   by_cases h1:1 < x.toNat
   ·have H:Hid (readU l k=(0,0,13)):=Lib.hid ((tail.out (0,0,13) (by rw [HU.out,if_pos ⟨rfl,h1⟩])).trans rfl)
    go_wp2
    go_ret3
    rw [H.out]
    exact ⟨rfl,rfl⟩
   by_cases h0:x.toNat=0
   ·have H:Hid (readU l k=(0,0,11)):=Lib.hid ((tail.out (0,0,11) (by rw [HU.out,if_neg (by omega),if_pos (by omega),if_pos (by omega)])).trans rfl)
    go_wp2
    go_ret3
    rw [H.out]
    exact ⟨rfl,rfl⟩
   ·have H:Hid (readU l k=(V + x.toNat % 128 * 2 ^ (7 * 9),k + 10,0)):=Lib.hid ((tail.out (V + x.toNat % 128 * 2 ^ (7 * 9),10,0) (by rw [HU.out,if_neg (by omega),if_pos (by omega),if_neg (by omega)])).trans (by rw [if_pos rfl]))
    have HE:=Lib.hid (rd_last V x (by omega) HV63.out)
    have hd0:((x.toNat:Int) == 0)=false:=by rw [beq_eq_false_iff_ne];omega
    go_wp2
    go_ret3
    rw [H.out]
    refine ⟨?_,rfl⟩
    rw [← HE.out]
    rw [show ((k + 10:Nat):Int)=(k:Int) + 9 + 1 from by omega];rfl
  ·have hj8:j≤8:=by omega
   have hd9:((j:Int) == 9)=false:=by rw [beq_eq_false_iff_ne];omega
   have HE:=Lib.hid (rd_step V j x hj8 HV.out)
   by_cases hx7:x.toNat < 128
   ·by_cases h0:x.toNat=0
    ·by_cases hj0:j=0
     ·have H:Hid (readU l k=(V + x.toNat % 128 * 2 ^ (7 * j),k + (j + 1),0)):=Lib.hid ((tail.out (V + x.toNat % 128 * 2 ^ (7 * j),j + 1,0) (by rw [HU.out,if_neg (by omega),if_pos (by omega),if_neg (by omega)])).trans (by rw [if_pos rfl]))
      have hd0:((x.toNat:Int) == 0)=true:=by rw [beq_iff_eq];omega
      have hd1:decide (0 < j)=false:=decide_eq_false (by omega)
      clear h0 hj0
      go_wp2
      go_ret3
      rw [H.out]
      refine ⟨?_,rfl⟩
      rw [← HE.out]
      rw [show ((k + (j + 1):Nat):Int)=(k:Int) + j + 1 from by omega];rfl
     ·have H:Hid (readU l k=(0,0,11)):=Lib.hid ((tail.out (0,0,11) (by rw [HU.out,if_neg (by omega),if_pos (by omega),if_pos (by omega)])).trans rfl)
      have hj1:0 < j:=by omega
      go_wp2
      go_ret3
      rw [H.out]
      exact ⟨rfl,rfl⟩
    ·have H:Hid (readU l k=(V + x.toNat % 128 * 2 ^ (7 * j),k + (j + 1),0)):=Lib.hid ((tail.out (V + x.toNat % 128 * 2 ^ (7 * j),j + 1,0) (by rw [HU.out,if_neg (by omega),if_pos (by omega),if_neg (by omega)])).trans (by rw [if_pos rfl]))
     have hd0:((x.toNat:Int) == 0)=false:=by rw [beq_eq_false_iff_ne];omega
     go_wp2
     go_ret3
     rw [H.out]
     refine ⟨?_,rfl⟩
     rw [← HE.out]
     rw [show ((k + (j + 1):Nat):Int)=(k:Int) + j + 1 from by omega];rfl
   ·have HN:Hid (rdU (l.drop (k + (j + 1))) (j + 1) (V + x.toNat % 128 * 2 ^ (7 * j))=rdU (l.drop k) 0 0):=Lib.hid (by
     rw [← HI.out,HU.out,if_neg (by omega),if_neg (by omega)])
    go_wp2
    go_round
    case rel=>exact ⟨_,j + 1,Lib.hid (rd_next V j x.toNat HV.out),by rw [HE.out],by go_num,by omega,by omega,HN⟩
    case measure=>simp [intOf];omega
theorem ru_any (l:List UInt8) (A:Option Addr) (n c:Nat) (a:Int) (w:World) (hn:n≤9223372036854775797) (hr:RB w w.heap.size A n l) :
  Calls Tryz.prog 137 #[.slice A n c,.int .i64 a] w (RUPost (readU l a) w):=by
 by_cases h:a < 0∨(n:Int) < a
 ·exact ru_out l A n c w a hr.len h
 ·obtain ⟨k,rfl⟩:∃ k:Nat,a=(k:Int):=⟨a.toNat,by omega⟩
  exact ru_in l A n c k w hn hr (by omega)
set_option maxRecDepth 100000 in
theorem rSame_any (a b:List UInt8) (A B:Option Addr) (n c m d:Nat) (w:World) (ha:RB w w.heap.size A n a) (hb:RB w w.heap.size B m b) :
  Calls Tryz.prog 43 #[.slice A n c,.slice B m d] w fun e w'=>e = .returned (.bool (a == b))∧w=w':=by
 have tok1:True:=trivial
 go_enter Tryz.func43,Tryz.ntmps43
 go_wp2_with (first
  | (have _t:=tok1;refine wpList_string_reads rfl _ 34 9 5 rfl Tryz.underlying34 Tryz.underlying5 Tryz.underlying9 rfl ha ?_;clear tok1)
  | (refine wpList_string_reads rfl _ 34 9 5 rfl Tryz.underlying34 Tryz.underlying5 Tryz.underlying9 rfl hb ?_))
 go_ret
 exact ⟨rfl,rfl⟩
theorem Sl.cut {w:World} {A:Option Addr} {n c lo hi:Nat} {l:List UInt8} (h:Sl w A n c l) (h1:lo≤hi) (h2:hi≤n) (hc:lo < c):Sl w (A.map (·.add lo)) (hi - lo) (c - lo) (cutS l lo (hi - lo)):=by
 have h3:=(h.drop (k:=lo) (by omega) hc).take (m:=hi - lo) (by omega)
 exact h3
set_option maxRecDepth 100000 in
set_option maxHeartbeats 400000 in
theorem part_any (l:List UInt8) (A:Option Addr) (n c lo hi:Nat) (a z:Int) (ha:a=(lo:Int)) (hz:z=(hi:Int)) (w:World) (hs:Sl w A n c l) (h1:lo≤hi) (h2:hi≤n) (hn:n≤140737488355328) :
  Calls Tryz.prog 51 #[.slice A n c,.int .i64 a,.int .i64 z] w (BytesPost 5 (cutS l lo (hi - lo)) w):=by
 subst ha;subst hz
 have hcap:=hs.cap
 have hlim:=hs.lim
 by_cases hc:c=lo
 ·obtain rfl:hi=lo:=by omega
  have HE:Hid (RB w w.heap.size A 0 []):=Lib.hid RB.nil
  have H:Hid (BytesPost 5 (cutS l hi (hi - hi)) w=BytesPost 5 [] w):=Lib.hid (by rw [Nat.sub_self];unfold cutS;rw [List.take_zero])
  have k2:hi - hi=0:=by omega
  have k3:(hi:Int)≤(c:Int):=by omega
  have HC:=Lib.hid hc
  have k4:c=hi:=hc
  have HO:=Lib.hid (own_nil w w.heap.size 5 1)
  rw [H.out]
  subst k4
  clear hs hc hlim h1
  go_enter Tryz.func51,Tryz.ntmps51
  go_wp2_with (at_builtin;go_must (refine wpList_append_reads _ rfl (.tmp 8) (.tmp 12) rfl Tryz.u8s' w.heap.size (.slice none 0 0) 0 [] rfl (own_nil _ _ _ _) _ A 0 0 (u8s []) rfl HE.out (u8s_one _) (by decide) (by decide) (Nat.le_refl _) ?_);intro v1 w1 hown1 hg1 hat1)
  go_ret
  exact bytes_post hown1 (below_app (Below.refl _ _) HO.out hg1 (Nat.le_refl _) (Nat.le_refl _))
 ·have HE:=Lib.hid (hs.cut h1 h2 (by omega))
  have HL:Hid ((cutS l lo (hi - lo)).length=hi - lo):=Lib.hid HE.out.len
  have k3:(hi:Int)≤(c:Int):=by omega
  have k4:(lo:Int)≤(hi:Int):=by omega
  have k5:c ≠ lo:=hc
  have HO:=Lib.hid (own_nil w w.heap.size 5 1)
  obtain ⟨C,hC⟩:∃ C,C=cutS l lo (hi - lo):=⟨_,rfl⟩
  rw [← hC] at HE HL ⊢
  clear hs hlim hC hc
  go_enter Tryz.func51,Tryz.ntmps51
  go_wp2_with (at_builtin;go_must (refine wpList_append_reads _ rfl (.tmp 8) (.tmp 12) rfl Tryz.u8s' w.heap.size (.slice none 0 0) 0 [] rfl (own_nil _ _ _ _) _ (A.map (·.add lo)) (hi - lo) (c - lo) (u8s C) rfl HE.out.rb (u8s_one _) (by unfold maxLen;omega) (by omega) (Nat.le_refl _) ?_);intro v1 w1 hown1 hg1 hat1)
  go_ret
  rw [List.nil_append] at hown1
  exact bytes_post hown1 (below_app (Below.refl _ _) HO.out hg1 (Nat.le_refl _) (Nat.le_refl _))
theorem own_lit (w:World) (C:Array Value) (e:TypeId) (base n size:Nat) (hb:base≤w.heap.size) (hm:n≤maxLen) (hs:C.size=n * size):(w.alloc (.cells C e)).ownsRow base e size (.slice (some ⟨w.heap.size,0,none⟩) n n) n C.toList :=
 ⟨by rw [Array.length_toList];exact hs,.inr ⟨w.heap.size,n,C,rfl,hb,heap_alloc_new w _,Nat.le_refl _,hm,hs,by rw [← hs,← Array.length_toList,List.take_length]⟩⟩
end Go.Proofs.YtfdbcfaeiglbeaaGreatDoor
