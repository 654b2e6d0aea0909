/-
 Layer 7: RunMany's entries. No program in sight.
-/
import Derived.Test.YtfdbcfaeiglbeaaGreatDoorRunV1
import Derived.Test.YtfdbcfaeiglbeaaGreatDoorRXS
import Derived.Test.YtfdbcfaeiglbeaaGreatDoorRXD
import Derived.Test.YtfdbcfaeiglbeaaGreatDoorRZ36
import Derived.Test.YtfdbcfaeiglbeaaGreatDoorRZ37
namespace Go.Proofs.YtfdbcfaeiglbeaaGreatDoor
open Go.RowKit
theorem keyE_len2 (e:Ent):(keyE e).length≤2 * e.row.length + 2 * e.qual.length + 24:=by
 have h1:=ordB_len e.row;have h2:=qualK_len e;have h3:=tailK_len e
 unfold keyE
 simp only [List.length_append,List.length_cons]
 omega
def kN (t:Ent):List Ent→Nat
 | []=>0
 | a::L=>if cmpE a t < 0 then kN t L + 1 else 0
theorem kN_le (t:Ent):∀ L:List Ent,kN t L≤L.length
 | []=>Nat.le_refl _
 | a::L=>by
  have h:=kN_le t L
  show (if cmpE a t < 0 then kN t L + 1 else 0)≤L.length + 1
  split <;> omega
theorem kN_lt {t:Ent}:∀ {L:List Ent} {j:Nat} {x:Ent},L[j]?=some x→j < kN t L→cmpE x t < 0
 | [],_,_,h,_=>by cases h
 | a::L,j,x,h,hj=>by
  have hj:j < (if cmpE a t < 0 then kN t L + 1 else 0):=hj
  by_cases ha:cmpE a t < 0
  ·rw [if_pos ha] at hj
   cases j with
   | zero=>injection h with h;subst h;exact ha
   | succ j=>exact kN_lt (L:=L) h (by omega)
  ·rw [if_neg ha] at hj;omega
theorem kN_at {t:Ent}:∀ {L:List Ent} {x:Ent},L[kN t L]?=some x→¬ cmpE x t < 0
 | [],_,h=>by cases h
 | a::L,x,h=>by
  have h:(a::L)[if cmpE a t < 0 then kN t L + 1 else 0]?=some x:=h
  by_cases ha:cmpE a t < 0
  ·rw [if_pos ha] at h
   exact kN_at (L:=L) h
  ·rw [if_neg ha] at h
   injection h with h
   subst h;exact ha
theorem kN_drop (t:Ent):∀ L:List Ent,skipE t L=L.drop (kN t L)
 | []=>rfl
 | a::L=>by
  show (a::L).dropWhile (fun x=>decide (cmpE x t < 0))=(a::L).drop (if cmpE a t < 0 then kN t L + 1 else 0)
  rw [List.dropWhile_cons]
  by_cases ha:cmpE a t < 0
  ·rw [if_pos (decide_eq_true ha),if_pos ha]
   exact kN_drop t L
  ·rw [if_neg (by simpa using ha),if_neg ha];rfl
def entM (sz i:Nat):Ent:=⟨[UInt8.ofNat (i / 256),UInt8.ofNat i,1],0,[113],7,33,1,List.replicate sz 0⟩
def manyL (sz n:Nat):List Ent:=(List.range n).map (entM sz)
theorem manyL_len (sz n:Nat):(manyL sz n).length=n:=by unfold manyL;rw [List.length_map,List.length_range]
theorem manyL_succ (sz n:Nat):manyL sz (n + 1)=manyL sz n ++ [entM sz n]:=by unfold manyL;rw [List.range_succ,List.map_append];rfl
theorem manyL_at {sz n i:Nat} (h:i < n):(manyL sz n)[i]?=some (entM sz i):=by
 unfold manyL
 rw [List.getElem?_map,List.getElem?_range h];rfl
theorem entM_chk {sz:Nat} (hs:sz≤4096) (i:Nat):checkE (entM sz i)=0:=by
 show checkN 3 0 1 7 33 1 (List.replicate sz (0:UInt8)).length=0
 rw [List.length_replicate]
 unfold checkN
 rw [if_neg (by omega),if_neg (by omega),if_neg (by omega),if_neg (by omega),if_neg (by omega),if_neg (by omega),if_neg (by omega)]
theorem seqC_neg {a b:Int} (h:a < 0):seqC a b < 0:=by
 unfold seqC
 rw [if_neg (by omega)];exact h
theorem entM_lt {sz i j:Nat} (h:i < j) (hj:j < 65536):cmpE (entM sz i) (entM sz j) < 0:=by
 unfold cmpE
 refine seqC_neg ?_
 show cmpB [UInt8.ofNat (i / 256),UInt8.ofNat i,1] [UInt8.ofNat (j / 256),UInt8.ofNat j,1] < 0
 have e1:(UInt8.ofNat (i / 256)).toNat=i / 256 % 256:=UInt8.toNat_ofNat'
 have e2:(UInt8.ofNat (j / 256)).toNat=j / 256 % 256:=UInt8.toNat_ofNat'
 have e3:(UInt8.ofNat i).toNat=i % 256:=UInt8.toNat_ofNat'
 have e4:(UInt8.ofNat j).toNat=j % 256:=UInt8.toNat_ofNat'
 rw [cmpB]
 by_cases h1:i / 256 < j / 256
 ·rw [if_pos (by rw [e1,e2];omega)];decide
 ·rw [if_neg (by rw [e1,e2];omega),if_neg (by rw [e1,e2];omega),cmpB,if_pos (by rw [e3,e4];omega)];decide
theorem many_ord {sz n:Nat} {ix:Int} (hs:sz≤4096) (hn:n≤65536) (hi:33≤16 * ix + 15):OrdOk ix (manyL sz n):=by
 refine ⟨?_,fun e he=>?_,fun e he=>?_⟩
 ·unfold AscE manyL
  rw [List.pairwise_map]
  refine List.Pairwise.imp_of_mem ?_ List.pairwise_lt_range
  intro a b ha hb h
  exact entM_lt h (by have:=List.mem_range.1 hb;omega)
 ·obtain ⟨i,_,rfl⟩:=List.mem_map.1 he
  exact entM_chk hs i
 ·obtain ⟨i,_,rfl⟩:=List.mem_map.1 he
  exact hi
theorem many_small {o:OptR} {sz n:Nat} (h:refuseR o (manyL sz n)=0) (hn:n≤20000) (hb:n * (sz + 20)≤12000000):(runBy o (manyL sz n)).length≤16777216:=by
 have h1:=run_le h (n:=32) (by decide) (fun e he=>by
  obtain ⟨i,_,rfl⟩:=List.mem_map.1 he
  have h2:=keyE_len2 (entM sz i)
  have h3:(entM sz i).row.length=3:=rfl
  have h4:(entM sz i).qual.length=1:=rfl
  omega) (by rw [manyL_len];omega)
 have h2:=valS_le (n:=sz) (L:=manyL sz n) (fun e he=>by
  obtain ⟨i,_,rfl⟩:=List.mem_map.1 he
  show (List.replicate sz (0:UInt8)).length≤sz
  rw [List.length_replicate];exact Nat.le_refl _)
 rw [manyL_len] at h1 h2
 rw [Nat.mul_add] at hb
 omega
end Go.Proofs.YtfdbcfaeiglbeaaGreatDoor
