/-
 WireR3, WireR4, CellP4, FullK, BloomW4, BloomW5, BloomW6, BloomW7, BlockQP.
-/
import Derived.Test.YtfdbcfaeiglbeaaGreatDoorRZ3
import Derived.Test.YtfdbcfaeiglbeaaGreatDoorRZ10
import Derived.Test.YtfdbcfaeiglbeaaGreatDoorRZ11
import Derived.Lib.MinMax
import Derived.Maps.RangeWalk
import Derived.Sort.MapsRangeIn
namespace Go.Proofs.YtfdbcfaeiglbeaaGreatDoor
open Go.RowKit
def FlK (vals:List Value) (ms:List UInt8) (ks:List Ob):Prop:=∀ (i:Nat) (v:Value) (m:UInt8),vals[i]?=some v→ms[i]?=some m→∃ A n cap,v=Value.slice A n cap∧n≤1000000101∧Marked ks A n cap m
structure FlD where
  lv:Value
  mA:Option Addr
  mc:Nat
  N:Nat
  vals:List Value
  ms:List UInt8
  ks:List Ob
def flO (g:Nat) (d:FlD) (rest:List Ob):List Ob:=boxO g [d.lv,.slice d.mA d.ms.length d.mc,.int .i64 (d.N:Nat)]::rowO 34 1 d.lv d.vals.length d.vals::bytO 5 (d.mA,d.mc,d.ms)::rest
structure FlOk (d:FlD):Prop where
  len:d.vals.length=d.ms.length
  few:50 * d.vals.length≤d.N
  lim:d.N≤5000000000
  keep:FlK d.vals d.ms d.ks
def Fl (g:Nat) (os:List Ob):Prop:=∃ d,os=flO g d d.ks∧FlOk d
theorem Fl.new {w x:World} {g:Nat} {os:List Ob} (h:OW w (os ++ [boxO g [.slice none 0 0,.slice none 0 0,.int .i64 0]]) x):∃ of,Fl g of∧OW w (os ++ of) x:=by
 have h1:=(h.nilRow 34 1).nilB 5
 refine ⟨_,⟨⟨.slice none 0 0,none,0,0,[],[],[]⟩,rfl,rfl,Nat.le_refl _,by decide,fun i v m hv=>by cases hv⟩,?_⟩
 rw [List.append_assoc,List.append_assoc] at h1
 exact h1
theorem FlK.le {vals:List Value} {ms:List UInt8} {ks ks':List Ob} (h:FlK vals ms ks) (hk:LeM ks ks'):FlK vals ms ks':=fun i v m hv hm=>by
 obtain ⟨A,n,cap,h1,h2,h3⟩:=h i v m hv hm
 exact ⟨A,n,cap,h1,h2,hk _ _ _ _ h3⟩
theorem FlK.add {vals:List Value} {ms:List UInt8} {ks:List Ob} (h:FlK vals ms ks) (hl:vals.length=ms.length) {us:List Value} {m:UInt8} {k:Nat} (_hu:us.length=k) (hus:∀ v,v ∈ us→∃ A n cap,v=Value.slice A n cap∧n≤1000000101∧Marked ks A n cap m):FlK (vals ++ us) (ms ++ List.replicate k m) ks:=fun i v m' hv hm=>by
 by_cases hi:i < vals.length
 ·rw [List.getElem?_append_left hi] at hv
  rw [List.getElem?_append_left (by omega)] at hm
  exact h i v m' hv hm
 ·rw [List.getElem?_append_right (by omega)] at hv
  rw [List.getElem?_append_right (by omega),List.getElem?_replicate] at hm
  split at hm
  ·injection hm with hm;subst hm
   exact hus v (List.mem_of_getElem? hv)
  ·cases hm
def bf_checkE (l:List UInt8):Int:=if isF l then 0 else 62
set_option maxRecDepth 100000 in
set_option maxHeartbeats 400000 in
theorem bf_check_any (l:List UInt8) (A:Option Addr) (n c:Nat) (w:World) (hm:n≤9223372036854775807) (hr:RB w w.heap.size A n l) :
  Calls Tryz.prog 71 #[.slice A n c] w fun e w'=>e = .returned (.int .i64 (bf_checkE l))∧Below w.heap.size w w':=by
 cases hf:isF l
 all_goals
  have HF:=Lib.hid hf
  clear hf
  have HE:Hid (bf_checkE l=if isF l then 0 else 62):=Lib.hid rfl
  go_enter Tryz.func71,Tryz.ntmps71
  go_wp2_with (go_at_call 136;refine (bf_read_any l A n c _ hm hr).mono ?_;rintro e w1 ⟨rfl,hb1⟩;rw [HF.out])
  go_ret
  exact ⟨ret_int (by rw [HE.out,HF.out];rfl),hb1.alloc hb1.size _⟩
def hasB (l key:List UInt8):Bool:=isF l && (placesN key (shapeP l) (shapeM l)).all (bitAt l)
set_option maxRecDepth 100000 in
set_option maxHeartbeats 400000 in
theorem has_any (l key:List UInt8) (A Ak:Option Addr) (n c nk ck:Nat) (w:World) (hm:n≤9223372036854775807) (hr:RB w w.heap.size A n l) (hmk:nk≤9223372036854775807) (hk:RB w w.heap.size Ak nk key) :
  Calls Tryz.prog 95 #[.slice A n c,.slice Ak nk ck] w fun e w'=>e = .returned (.tuple #[.bool (hasB l key),.int .i64 (bf_checkE l)])∧Below w.heap.size w w':=by
 have HR:Hid (∀ w',Below w.heap.size w w'→RB w' w'.heap.size A n l):=Lib.hid fun w' h=>hr.later h
 have HK:Hid (∀ w',Below w.heap.size w w'→RB w' w'.heap.size Ak nk key):=Lib.hid fun w' h=>hk.later h
 have hl:=hr.len
 cases hf:isF l
 ·have HF:=Lib.hid hf
  have HE:Hid (bf_checkE l=62):=Lib.hid (by unfold bf_checkE;rw [hf];rfl)
  have HB:Hid (hasB l key=false):=Lib.hid (by unfold hasB;rw [hf];rfl)
  clear hf hr hk hl
  go_enter Tryz.func95,Tryz.ntmps95
  go_wp2_with (go_at_call 136;refine (bf_read_any l A n c _ hm (HR.out _ ((Below.refl _ _).alloc (Nat.le_refl _) _))).mono ?_;rintro e w1 ⟨rfl,hb1⟩;rw [HF.out])
  go_ret2
  exact ⟨by rw [HB.out,HE.out];rfl,(((Below.refl _ _).alloc (Nat.le_refl _) _).trans (hb1.mono (by simp))).alloc (by have:=hb1.size;simp at this;omega) _⟩
 ·have HF:=Lib.hid hf
  have HE:Hid (bf_checkE l=0):=Lib.hid (by unfold bf_checkE;rw [hf];rfl)
  have HB:Hid (hasB l key=(placesN key (shapeP l) (shapeM l)).all (bitAt l)):=Lib.hid (by unfold hasB;rw [hf];rfl)
  have hq:=of_decide_eq_true hf
  rw [hl] at hq
  obtain ⟨q1,q2,q3,q4,q5,q6⟩:=hq
  have Q5:=Lib.hid q5
  have Q6:=Lib.hid q6
  clear hf hr hk hl q5 q6
  go_enter Tryz.func95,Tryz.ntmps95
  go_wp2_with (first
   | (go_at_call 136;refine (bf_read_any l A n c _ hm (HR.out _ ((Below.refl _ _).alloc (Nat.le_refl _) _))).mono ?_;rintro e w1 ⟨rfl,hb1⟩;rw [HF.out];have HB1:=Lib.hid ((((Below.refl _ _).alloc (Nat.le_refl _) _).trans (hb1.mono (by simp))).alloc (by have:=hb1.size;simp at this;omega) (.cells #[.int .i64 (shapeP l),.int .u32 (shapeM l)] 219));have HC1:=Lib.hid (cell_alloc_old (o := .cells #[.int .i64 (shapeP l),.int .u32 (shapeM l)] 219) (cell_below hb1 (p:=⟨w.heap.size,0,none⟩) (v := .slice A n c) (by simp))))
   | (go_at_call 158;refine (each_has l key A Ak n c nk ck w.heap.size (shapeP l) (shapeM l) _ hm (HR.out _ HB1.out) HC1.out hmk (HK.out _ HB1.out) q2 (by omega) q4 Q6.out.symm Q5.out).mono ?_;rintro e w2 ⟨rfl,hb2⟩))
  go_ret2
  exact ⟨by rw [HB.out,HE.out];rfl,HB1.out.trans (hb2.mono HB1.out.size)⟩
end Go.Proofs.YtfdbcfaeiglbeaaGreatDoor
namespace Go.Proofs.YtfdbcfaeiglbeaaGreatDoor
open Go.RowKit Go.Maps Go.WideMaps
theorem law_str:Keyed Tryz.prog 9:=string_keyed Tryz.underlying9
def KS (ks:List (List UInt8)) (k:Nat):DataW Unit:=setOf (.lit (.bool true)) ((ks.take k).map Lit.string)
theorem KS_zero (ks:List (List UInt8)):KS ks 0 = .map []:=by simp [KS,setOf]
theorem KS_succ (ks:List (List UInt8)) (k:Nat) (x:List UInt8) (h:ks[k]?=some x):KS ks (k + 1)=(KS ks k).put (.string x) (.lit (.bool true)):=by
 unfold KS
 rw [take_snoc h,List.map_append,List.map_cons,List.map_nil,setOf_snoc]
theorem bf_made_zeros (L:Nat):(madeCells (Value.int IntKind.u8 0).cells L).toList=u8s (List.replicate L 0):=by
 have e:(Value.int IntKind.u8 0).cells=#[.int .u8 0]:=rfl
 rw [e]
 apply List.ext_getElem?
 intro i
 simp only [madeCells,u8s,u8v,List.map_replicate,List.getElem?_replicate,Array.toList_map,Array.toList_range,List.getElem?_map,List.size_toArray,List.length_cons,List.length_nil,Nat.zero_add,Nat.mod_one]
 by_cases h:i < L
 ·rw [if_pos h,List.getElem?_range h];rfl
 ·rw [if_neg h,List.getElem?_eq_none (by simpa using h)];rfl
theorem zeros_at {L k:Nat} (h:k < L):(u8s (List.replicate L 0))[k]?=some (.int .u8 0):=by
 simp [u8s,u8v,h]
theorem u8s_getElem {l:List UInt8} {k:Nat} (h:k < l.length):(u8s l)[k]?=some (.int .u8 ((l[k]'h).toNat:Int)):=u8s_at (List.getElem?_eq_getElem h)
theorem grown_drew {a b:World} {r:Option Nat} (h:a.grownBy b r):a.grownBy b.drew r:=⟨h.os,h.tape,h.output,h.size,h.block⟩
theorem own_drew {w:World} {base e size n:Nat} {v:Value} {xs:List Value} (h:w.ownsRow base e size v n xs):w.drew.ownsRow base e size v n xs:=h
theorem keyOf_string_inv' {P:Program} {k:TypeId} (hk:P.underlying k=some .string) {s:ByteArray} {kl:Lit} (h:keyOf P k (.string s)=some kl):kl = .string s.data.toList:=by
 simp [keyOf,hk,mapKey] at h
 exact h.2.symm
def BuildPost (bits:Int) (ks:List (List UInt8)) (w:World) (e:Ending) (w':World):Prop :=
 (buildE bits ks=0∧∃ g,e = .returned (.tuple #[.slice (some ⟨g,0,none⟩) (buildB bits ks).length (buildB bits ks).length,.int .i64 0])∧w'.ownsRow w.heap.size 5 1 (.slice (some ⟨g,0,none⟩) (buildB bits ks).length (buildB bits ks).length) (buildB bits ks).length (u8s (buildB bits ks))∧Below w.heap.size w w') ∨
 (buildE bits ks ≠ 0∧e = .returned (.tuple #[.slice none 0 0,.int .i64 (buildE bits ks)])∧Below w.heap.size w w')
set_option maxRecDepth 100000 in
set_option maxHeartbeats 2000000 in
theorem bf_build_any (bits:Int) (ks:List (List UInt8)) (A:Option Addr) (n c:Nat) (w:World) (hn:n≤9223372036854775807) (hr:RBs w w.heap.size A n ks) :
  Calls Tryz.prog 114 #[.int .i64 bits,.slice A n c] w (BuildPost bits ks w):=by
 have HR:Hid (∀ w',Below w.heap.size w w'→RBs w' w'.heap.size A n ks):=Lib.hid fun w' h=>hr.later h
 have hlen:=hr.len
 by_cases hb:bits < 1∨20 < bits
 case pos =>
  have HP:Hid (BuildPost bits ks w (.returned (.tuple #[.slice none 0 0,.int .i64 60])) w):=Lib.hid (by
   have e:buildE bits ks=60:=by unfold buildE;rw [if_pos hb]
   exact .inr ⟨by rw [e];decide,by rw [e];rfl,Below.refl _ _⟩)
  clear hr HR
  by_cases h1:bits < 1
  ·have d1:decide (bits < 1)=true:=decide_eq_true h1
   clear hb h1
   go_enter Tryz.func114,Tryz.ntmps114
   go_wp2
   go_ret2
   exact HP.out
  ·have d1:decide (bits < 1)=false:=decide_eq_false h1
   have d2:decide (20 < bits)=true:=decide_eq_true (by omega)
   clear hb h1
   go_enter Tryz.func114,Tryz.ntmps114
   go_wp2
   go_ret2
   exact HP.out
 have d1:decide (bits < 1)=false:=decide_eq_false (by omega)
 have d2:decide (20 < bits)=false:=decide_eq_false (by omega)
 by_cases hk:1048576 < n
 case pos =>
  have HP:Hid (BuildPost bits ks w (.returned (.tuple #[.slice none 0 0,.int .i64 61])) w):=Lib.hid (by
   have e:buildE bits ks=61:=by unfold buildE;rw [if_neg hb,if_pos (by omega)]
   exact .inr ⟨by rw [e];decide,by rw [e];rfl,Below.refl _ _⟩)
  clear hb hr HR
  go_enter Tryz.func114,Tryz.ntmps114
  go_wp2
  go_ret2
  exact HP.out
 have HHas:Hid (∀ x,Maps.has (KS ks n) (.string x)=ks.contains x):=Lib.hid fun x=>by unfold KS;rw [take_all (by omega),has_keys]
 have HKL:Hid (∀ x ∈ ks,x.length≤9223372036854775807):=Lib.hid fun x hx=>by
  obtain ⟨i,hi,e⟩:=List.getElem_of_mem hx
  obtain ⟨b,o,key,a,ck,_,_,hki,_,h1,h2,_,_⟩:=hr.at_ (i:=i) (by omega)
  rw [List.getElem?_eq_getElem hi] at hki
  injection hki with hki
  rw [← e,hki];omega
 have h0:buildE bits ks=0:=by unfold buildE;rw [if_neg hb,if_neg (by omega)]
 have hmm:=@run_makeMap Tryz.prog
 clear hb
 go_enter Tryz.func114,Tryz.ntmps114
 go_wp2
 go_loopw [26] (fun i wr=>∃ k:Nat,k≤n∧i = .int .i64 k∧wr.ownsMap Tryz.prog 9 (plainElem Tryz.prog 4) w.heap.size k (KS ks k)∧Hid (Below w.heap.size w wr))
  (fun i _=>n - (intOf i).toNat)
 case atStart=>exact ⟨0,Nat.zero_le _,rfl,by rw [KS_zero];exact World.ownsMap_made _ _ _ _,Lib.hid ((Below.refl _ _).alloc (Nat.le_refl _) _)⟩
 case round =>
  obtain ⟨k,hkn,rfl,hown,HB⟩:=hrel
  by_cases hlt:k < n
  case pos =>
   obtain ⟨b,o,key,a,ck,rfl,hbw,hki,hcell,hkc,hck,_,hrb⟩:=(HR.out _ HB.out).at_ hlt
   have hkey:keyOf Tryz.prog 9 (.string ⟨key.toArray⟩)=some (.string key):=keyOf_string_mk Tryz.underlying9 (by show key.toArray.size≤maxLen;unfold maxLen;rw [List.size_toArray];omega)
   have HS:=Lib.hid (KS_succ ks k key hki)
   have hd:decide ((k:Int) < n)=true:=decide_eq_true (by omega)
   clear hki
   go_wp2_with (first
    | (refine wpList_string_reads rfl _ 34 9 5 rfl Tryz.underlying34 Tryz.underlying5 Tryz.underlying9 rfl hrb ?_)
    | (at_mapUpdate;refine wpList_mapUpdate_own _ rfl _ _ _ 257 rfl 9 4 law_str Tryz.underlying257 (plainElem (H:=Unit) Tryz.prog 4) w.heap.size k _ rfl hown (by unfold maxLen;omega) _ _ _ rfl rfl hkey _ [] (plainElem_bool Tryz.underlying4 true) ?_;intro w1 hown1 hgrow1))
   go_roundw
   case rel=>exact ⟨k + 1,by omega,by go_num,by rw [HS.out];exact hown1,Lib.hid (HB.out.grown hgrow1 HB.out.size (fun j hj=>by cases hj;exact Nat.le_refl _))⟩
   case measure=>simp [intOf];omega
  have e:k=n:=by omega
  subst e
  have HU:Hid (Maps.size (KS ks k)=(unl ks).length):=Lib.hid (by unfold KS;rw [take_all (by omega),size_keys])
  have hU2:=buildM_raw (bits:=bits) (ks:=ks) (by have:=of_decide_eq_false d1;omega) (by have:=of_decide_eq_false d2;omega) (by omega)
  obtain ⟨nb,rfl⟩:∃ nb:Nat,bits=(nb:Int):=⟨bits.toNat,by have:=of_decide_eq_false d1;omega⟩
  obtain ⟨U,hU⟩:∃ U:Nat,U=(unl ks).length:=⟨_,rfl⟩
  rw [← hU,Int.toNat_natCast] at hU2
  have hd:decide ((k:Int) < k)=false:=decide_eq_false (by omega)
  have hnb1:1≤nb:=by have:=of_decide_eq_false d1;omega
  have hnb2:nb≤20:=by have:=of_decide_eq_false d2;omega
  obtain ⟨P,hP⟩:∃ P:Nat,P=U * nb:=⟨_,rfl⟩
  obtain ⟨Q,hQ⟩:∃ Q:Nat,Q=(P + 7) / 8:=⟨_,rfl⟩
  obtain ⟨M,hM⟩:∃ M:Nat,M=buildM nb ks:=⟨_,rfl⟩
  obtain ⟨R,hR⟩:∃ R:Nat,R=7 * nb / 10:=⟨_,rfl⟩
  obtain ⟨p,hp⟩:∃ p:Nat,p=buildP nb:=⟨_,rfl⟩
  obtain ⟨D,hD⟩:∃ D:Nat,D=M / 8:=⟨_,rfl⟩
  obtain ⟨L,hL⟩:∃ L:Nat,L=6 + D:=⟨_,rfl⟩
  obtain ⟨q1,q2,q3,q4,q5,q6,q7,q8,q9,q10,q11,q12,q13,q14,hM1,hM2,hM3,hp1,hp2,hLa,hLb⟩:=build_nums nb ks U P Q M R p D L hU hU2 hnb1 hnb2 hP hQ hM hR hp hD hL
  have HL:=Lib.hid hL
  have HD:=Lib.hid hD
  have HM:=Lib.hid hM
  have Hp:=Lib.hid hp
  have HUU:=Lib.hid hU
  have HN1:Hid (1 * L≤281474976710656):=Lib.hid (by rw [Nat.one_mul];exact Nat.le_trans hLb (by decide))
  have HN2:Hid (L≤maxLen):=Lib.hid (Nat.le_trans hLb (by unfold maxLen;decide))
  have HN3:Hid (w.heap.size≤(wr.alloc (.cells #[.int .i64 p,.int .u32 M] 219)).heap.size):=Lib.hid (Nat.le_trans HB.out.size (by simp))
  clear hU2 hP hQ hR hM hp hD hL hU
  go_wp2_with (first
   | (at_len;refine wpList_len_own _ rfl _ 257 rfl 9 4 Tryz.underlying257 _ w.heap.size k _ rfl hown ?_;rw [HU.out,← HUU.out])
   | (at_make;refine wpList_make_full _ rfl (.tmp 51) (.tmp 51) 34 rfl w.heap.size 5 Tryz.t5 (.int .u8 0) 1 Tryz.underlying34 (by kernel_rfl) rfl rfl .i64 .i64 _ _ L rfl rfl (by simp) (by simp) HN1.out HN2.out HN3.out ?_;intro w3 hown3 hg3))
  clear q1 q2 q3 q4 q5 q6 q7 q8 q9 q10 q11 q12 q13 q14
  have HB3:=Lib.hid ((HB.out.alloc HB.out.size (.cells #[.int .i64 p,.int .u32 M] 219)).grown hg3 (by have:=HB.out.size;simp;omega) (by simp))
  simp only [World.size_alloc,Nat.mul_one] at hown3
  have hw3:wr.heap.size + 1 < w3.heap.size:=(hown3.lt _ rfl).2
  have s0:w3.cell? ⟨wr.heap.size,0,none⟩=some (.int .i64 p):=by rw [World.cell?_of_block (hg3.block wr.heap.size (by simp) (by simp))];simp
  have s1:w3.cell? ⟨wr.heap.size,1,none⟩=some (.int .u32 M):=by rw [World.cell?_of_block (hg3.block wr.heap.size (by simp) (by simp))];simp
  have hwr:w.heap.size < wr.heap.size:=hown.lt
  have hown4:=(hown.kept (World.grownBy_alloc wr (.cells #[.int .i64 p,.int .u32 M] 219) none) (by simp)).kept hg3 (by simp)
  rw [bf_made_zeros] at hown3
  obtain ⟨g,hg⟩:∃ g,g=wr.heap.size + 1:=⟨_,rfl⟩
  obtain ⟨sb,hsb⟩:∃ sb,sb=wr.heap.size:=⟨_,rfl⟩
  obtain ⟨fb,hfb⟩:∃ fb,fb=w3.heap.size:=⟨_,rfl⟩
  rw [← hg] at hown3 hw3 ⊢
  rw [← hsb] at s0 s1 hwr hg ⊢
  rw [← hfb] at hw3 ⊢
  have c0:(w3.alloc (.cells #[.slice (some ⟨g,0,none⟩) L L] 34)).cell? ⟨fb,0,none⟩=some (.slice (some ⟨g,0,none⟩) L L):=by rw [hfb];simp
  have s2:=cell_alloc_old (o := .cells #[.slice (some ⟨g,0,none⟩) L L] 34) s0
  have s3:=cell_alloc_old (o := .cells #[.slice (some ⟨g,0,none⟩) L L] 34) s1
  have hO:=own_below hown3 ((Below.refl _ _).alloc (Nat.le_refl _) (.cells #[.slice (some ⟨g,0,none⟩) L L] 34))
  have hO4:=hown4.kept (World.grownBy_alloc w3 (.cells #[.slice (some ⟨g,0,none⟩) L L] 34) none) (by simp)
  have HB4:=Lib.hid (HB3.out.alloc HB3.out.size (.cells #[.slice (some ⟨g,0,none⟩) L L] 34))
  have hz4:fb < (w3.alloc (.cells #[.slice (some ⟨g,0,none⟩) L L] 34)).heap.size:=by rw [hfb];simp
  generalize w3.alloc (.cells #[.slice (some ⟨g,0,none⟩) L L] 34)=w4 at *
  clear s0 s1 hown3 hown4 HB3 HN3 hg3 hmm HB hown hfb hsb
  have z0:=(hO.cellAt 0 (by omega)).trans (zeros_at (k:=0) (by omega))
  have z1:=(hO.cellAt 1 (by omega)).trans (zeros_at (k:=1) (by omega))
  have hst1:=hO.stored 0 (.int .u8 66)
  have hst2:=hst1.1.stored 1 (.int .u8 p)
  have hst:=hst1.2
  have f0:=hO.frozenAt 0
  have f1:=hO.frozenAt 1
  have hgs:sb ≠ g:=by omega
  have hgf:fb ≠ g:=by omega
  have hpm:(p:Int) % 256=(p:Int):=by omega
  have HO1:=Lib.hid hst1
  have HO2:=Lib.hid hst2
  have hsg:w.heap.size < g:=by omega
  have hsbf:sb < fb:=by omega
  have hG:=grown_drew (grown_trans hst1.2 hst2.2)
  have e0:((u8s (List.replicate L 0)).set 0 (.int .u8 66)).set 1 (.int .u8 p)=u8s (hdrTo p M 0):=by
   show _=u8s (hdr0 p M)
   unfold hdr0 u8s
   rw [List.map_set,List.map_set,HL.out,HD.out]
   unfold u8v
   rw [UInt8.toNat_ofNat',Nat.mod_eq_of_lt (by omega)];rfl
  have g0:=own_drew hst2.1
  rw [e0] at g0
  have g1:=hO4.kept hG (by intro e;injection e with e;omega)
  have g2:=hG.cell c0 (by simpa using hgf)
  have g3:=hG.cell s2 (by simpa using hgs)
  have g4:=hG.cell s3 (by simpa using hgs)
  have g5:=Lib.hid (HB4.out.grown hG HB4.out.size (by intro j hj;injection hj with hj;omega))
  have g6:=Nat.lt_of_lt_of_le hz4 hG.size
  have HG0:=Lib.hid (And.intro g0 (And.intro g1 (And.intro g2 (And.intro g3 (And.intro g4 (And.intro g5 g6))))))
  clear g0 g1 g2 g3 g4 g5 g6 hG e0 hst hst1 hst2 hO hg hO4
  go_wp2
  go_region
  go_wp2
  clear z0 z1 f0 f1 c0 s2 s3 HB4 hz4
  go_loopw [60] (fun i wr2=>∃ j:Nat,j≤4∧i = .int .i64 j∧wr2.ownsRow w.heap.size 5 1 (.slice (some ⟨g,0,none⟩) L L) L (u8s (hdrTo p M j))∧wr2.ownsMap Tryz.prog 9 (plainElem Tryz.prog 4) w.heap.size k (KS ks k) ∧
    wr2.cell? ⟨fb,0,none⟩=some (.slice (some ⟨g,0,none⟩) L L)∧wr2.cell? ⟨sb,0,none⟩=some (.int .i64 p)∧wr2.cell? ⟨sb,1,none⟩=some (.int .u32 M)∧Hid (Below w.heap.size w wr2)∧fb < wr2.heap.size)
   (fun i _=>4 - (intOf i).toNat)
  case atStart=>exact ⟨0,by omega,rfl,HG0.out⟩
  case round =>
   obtain ⟨j,hj4,rfl,hO,hO4,c0,s2,s3,HB4,hz4⟩:=hrel
   clear HG0 HO1 HO2
   by_cases hj:j < 4
   case pos =>
    have hdj:decide ((j:Int) < 4)=true:=decide_eq_true (by omega)
    have z0:=(hO.cellAt (2 + j) (by omega))
    rw [u8s_getElem (hdrTo_length p M j ▸ (by rw [← HD.out,← HL.out];omega):2 + j < (hdrTo p M j).length)] at z0
    have f0:=hO.frozenAt (2 + j)
    have hst:=hO.stored (2 + j) (.int .u8 ((M:Int) / 2 ^ (24 - 8 * j) % 256))
    have e0:(u8s (hdrTo p M j)).set (2 + j) (.int .u8 ((M:Int) / 2 ^ (24 - 8 * j) % 256))=u8s (hdrTo p M (j + 1)):=by
     show _=u8s ((hdrTo p M j).set (2 + j) _)
     unfold u8s
     rw [List.map_set]
     unfold u8v
     rw [UInt8.toNat_ofNat',Int.natCast_emod,Int.natCast_ediv,Int.natCast_pow];rfl
    rw [e0] at hst
    have hG:=grown_drew hst.2
    have HO1:=Lib.hid (own_drew hst.1)
    have g1:=Lib.hid (hO4.kept hG (by intro e;injection e with e;omega))
    have g2:=Lib.hid (hG.cell c0 (by simpa using hgf))
    have g3:=Lib.hid (hG.cell s2 (by simpa using hgs))
    have g4:=Lib.hid (hG.cell s3 (by simpa using hgs))
    have g5:=Lib.hid (HB4.out.grown hG HB4.out.size (by intro j hj;injection hj with hj;omega))
    have g6:=Lib.hid (Nat.lt_of_lt_of_le hz4 hG.size)
    clear hO hst hG e0 hO4
    go_wp2
    go_region
    go_wp2
    go_roundw
    case rel=>exact ⟨j + 1,by omega,by go_num,HO1.out,g1.out,g2.out,g3.out,g4.out,g5,g6.out⟩
    case measure=>simp [intOf];omega
   have e4:j=4:=by omega
   subst e4
   rw [hdr_done] at hO
   have hrb:w.heap.size < wr.heap.size:=by omega
   clear hj hj4
   go_wp2_with (at_range;refine wpList_range_own _ rfl _ 257 rfl 9 4 law_str Tryz.underlying257 _ w.heap.size k _ rfl hO4 ?_;intro w5 hrg5 hg5 hs5)
   go_frame
   obtain ⟨rb,hrbe⟩:∃ rb,rb=wr.heap.size:=⟨_,rfl⟩
   rw [← hrbe] at hrg5 hs5 hz4 hrb ⊢
   have a0:=hO.kept hg5 (Classical.em _)
   have a1:=hg5.cell c0 (by simp)
   have a2:=hg5.cell s2 (by simp)
   have a3:=hg5.cell s3 (by simp)
   have a4:=Lib.hid (HB4.out.grown hg5 HB4.out.size (by simp))
   have a5:fb < w5.heap.size:=by omega
   have hgr:g ≠ rb:=by omega
   have hfr:fb ≠ rb:=by omega
   have hsr:sb ≠ rb:=by omega
   clear hO hO4 c0 s2 s3 HB4 hz4 hrbe hg5
   go_loopw [13] (fun _ wr2=>∃ (left:Lit→Bool) (cnt:Nat),wr2.ranges Tryz.prog 9 (plainElem Tryz.prog 4) w.heap.size rb k (KS ks k) left cnt∧wr2.ownsRow w.heap.size 5 1 (.slice (some ⟨g,0,none⟩) L L) L (u8s (filterB p M (doneS p M ks left))) ∧
     wr2.cell? ⟨fb,0,none⟩=some (.slice (some ⟨g,0,none⟩) L L)∧wr2.cell? ⟨sb,0,none⟩=some (.int .i64 p)∧wr2.cell? ⟨sb,1,none⟩=some (.int .u32 M)∧Hid (Below w.heap.size w wr2)∧fb < wr2.heap.size∧Hid (∀ x,left (.string x)=true→x ∈ ks))
    (fun _ wr2=>wr2.rangeLeft w.heap.size rb)
   case atStart=>exact ⟨_,_,hrg5,by rw [doneS_start];exact a0;intro x hx;exact HHas.out x ▸ List.contains_iff_mem.2 hx,a1,a2,a3,a4,a5,Lib.hid fun x hx=>List.contains_iff_mem.1 (HHas.out x ▸ hx)⟩
   case round =>
    obtain ⟨left,cnt,hrg,hO,c0,s2,s3,HB4,hz4,HL4⟩:=hrel
    clear hrg5 a0 a1 a2 a3 a4 a5
    go_wp2_with (at_next;refine wpList_next_ranges _ rfl _ rfl 9 law_str _ Value.string (fun v:Value=>v) (fun key kl hkey=>keyOf_string_inv Tryz.underlying9 hkey) (fun v _ _=>⟨v,rfl⟩) w.heap.size rb k _ _ _ rfl hrg ?_ ?_)
    ·intro _ hl0
     rw [doneS_end _ _ _ _ hl0] at hO
     have HP:Hid (BuildPost nb ks w (.returned (.tuple #[.slice (some ⟨g,0,none⟩) L L,.int .i64 0])) wr):=Lib.hid (by
      have e:L=(buildB nb ks).length:=by rw [buildB_length,← HM.out,← HD.out,← HL.out]
      refine .inl ⟨h0,g,by rw [← e],?_,HB4.out⟩
      rw [← e]
      unfold buildB
      rw [← HM.out,← Hp.out]
      exact hO)
     clear hO
     go_wp2
     go_ret2
     exact HP.out
    ·intro x y kl za zb w6 cnt6 hkl hlk _ _ hrg6 hlt6 hg6 hs6 hen
     have hx:=keyOf_string_inv' Tryz.underlying9 hkl
     subst hx
     have HX:=HL4.out _ hlk
     have Hxl:=Lib.hid (HKL.out _ HX)
     have b0:=hO.kept hg6 (.inr (by intro e;injection e with e;exact hgr e))
     have b1:=hg6.cell c0 (by simpa using hfr)
     have b2:=hg6.cell s2 (by simpa using hsr)
     have b3:=hg6.cell s3 (by simpa using hsr)
     have b4:=Lib.hid (HB4.out.grown hg6 HB4.out.size (by intro j hj;injection hj with hj;omega))
     have b5:fb < w6.heap.size:=by omega
     clear hO c0 s2 s3 HB4 hz4 hg6 hkl hs6
     have HST:Hid (setAll (filterB p M (doneS p M ks left)) (placesN x.data.toList p M)=filterB p M (doneS p M ks (fun z=>left z && !z.sameKey (.string x.data.toList)))):=Lib.hid (by
      rw [filterB_setAll p M hM3 _ _ (placesN_lt _ _ _ (by omega))]
      exact filterB_ext _ _ fun i _=>doneS_step _ _ _ _ _ HX i)
     have HL6:Hid (∀ y,(fun z=>left z && !z.sameKey (.string x.data.toList)) (Lit.string y)=true→y ∈ ks):=Lib.hid fun y hy=>HL4.out y (by
      have:=(Bool.and_eq_true _ _ ▸ hy:left (Lit.string y)=true∧_)
      exact this.1)
     have HW1:Hid (0 < M):=Lib.hid (by omega)
     have HW2:Hid (6 + M / 8=L):=Lib.hid (by rw [HL.out,HD.out])
     have HW3:Hid (x.size≤9223372036854775807):=Lib.hid Hxl.out
     clear HX HL4 hlk
     go_wp2_with (first
      | (refine wpList_bytes_of rfl _ 9 34 5 rfl Tryz.underlying9 Tryz.underlying34 Tryz.underlying5 _ rfl ?_;intro cap w7 hk7 hg7 hs7;have d0:=b0.kept hg7 (Classical.em _);have d1:=hg7.cell b1 (by simp);have d2:=hg7.cell b2 (by simp);have d3:=hg7.cell b3 (by simp);have d4:=Lib.hid (b4.out.grown hg7 b4.out.size (by simp));have d5:fb < w7.heap.size:=(by omega);have d6:=hrg6.kept hg7 (by simp) (by simp);have HK7:=Lib.hid hk7;have HO7:=Lib.hid d0;clear hk7 d0 hg7 hs7 b1 b2 b3 b4 b5 hrg6)
      | (go_at_call 158;refine (each_set _ x.data.toList _ w.heap.size g L L x.size cap fb p M w7 d1 hgf HO7.out HW3.out HK7.out hp2 HW1.out hM1 HW2.out hM3).mono ?_;rintro e w8 ⟨rfl,hO8,hG8⟩;rw [HST.out] at hO8))
     have e1:=hG8.cell d1 (by simpa using hgf)
     have e2:=hG8.cell d2 (by simpa using hgs)
     have e3:=hG8.cell d3 (by simpa using hgs)
     have e4:=Lib.hid (d4.out.grown hG8 d4.out.size (by intro j hj;injection hj with hj;omega))
     have e5:=Nat.lt_of_lt_of_le d5 hG8.size
     have e6:=d6.kept hG8 (by intro e;injection e with e;omega) (by intro e;injection e with e;omega)
     clear hG8
     go_roundw
     case rel=>exact ⟨_,_,_,_,_,_,_,_,_,_,⟨_,cnt6,e6,hO8,e1,e2,e3,e4,e5,HL6⟩,rfl⟩
     case measure=>rw [e6.left_eq,hrg.left_eq];exact hlt6
end Go.Proofs.YtfdbcfaeiglbeaaGreatDoor
namespace Go.Proofs.YtfdbcfaeiglbeaaGreatDoor
def rq1 (b:List UInt8) (a:Nat) (key:List UInt8):Option (Ent×List UInt8×Nat) :=
 if (readU b (a:Nat)).2.2 ≠ 0∨key.length < (readU b (a:Nat)).1 then none
 else if (readBy b (readU b (a:Nat)).2.1 (b.length:Nat)).2.2 ≠ 0 then none
 else if (readBy b (readBy b (readU b (a:Nat)).2.1 (b.length:Nat)).2.1 (b.length:Nat)).2.2 ≠ 0 then none
 else if (ParseKeyE (key.take (readU b (a:Nat)).1 ++ (readBy b (readU b (a:Nat)).2.1 (b.length:Nat)).1)).2 ≠ 0 then none
 else some ({ (ParseKeyE (key.take (readU b (a:Nat)).1 ++ (readBy b (readU b (a:Nat)).2.1 (b.length:Nat)).1)).1 with val:=(readBy b (readBy b (readU b (a:Nat)).2.1 (b.length:Nat)).2.1 (b.length:Nat)).1 },
  key.take (readU b (a:Nat)).1 ++ (readBy b (readU b (a:Nat)).2.1 (b.length:Nat)).1,(readBy b (readBy b (readU b (a:Nat)).2.1 (b.length:Nat)).2.1 (b.length:Nat)).2.1)
section
variable {b key k2 v : List UInt8} {a u p1 e1 p2 e2 p3 e3 : Nat} {e : Ent} {f : Int}
end
theorem openE_ne {b:List UInt8} {L:List Ent} (h:(openE b).1=some L):L ≠ []∧b.length≤131072:=by
 obtain ⟨h1,_⟩:=openE_ok h
 obtain ⟨_,_,_,h4,h5,_⟩:=build_parts h1
 refine ⟨h4,?_⟩
 unfold openE at h
 split at h
 ·cases h
 ·omega
end Go.Proofs.YtfdbcfaeiglbeaaGreatDoor
