/-
 CellW2.
-/
import Derived.Test.YtfdbcfaeiglbeaaGreatDoorRZ3
import Derived.Laws.EntriesVeiled
import Derived.Laws.Externs
import Derived.Lib.Bytealg
import Derived.Lib.BytesEntry
namespace Go.Proofs.YtfdbcfaeiglbeaaGreatDoor
open Go.RowKit
section
variable {P : Program} {w : World}
theorem ints_back (l:List UInt8):Lib.bytesOf (l.map fun c=>(c.toNat:Int))=l:=by
 unfold Lib.bytesOf
 rw [List.map_map]
 conv=>rhs;rw [← List.map_id l]
 exact List.map_congr_left fun x _=>by simp
theorem run_bytesOf_RB {B n:Nat} {A:Option Addr} {l:List UInt8} (c:Nat) (h:RB w B A n l):(Extern.Bytes.bytesOf (.slice A n c)).run P w = .ok ⟨l.toArray⟩ w:=by
 have hl:=h.len
 cases A with
 | none =>
  have hn:n=0:=by
   rcases Nat.eq_zero_or_pos n with h0 | h0
   ·exact h0
   ·obtain ⟨_,_,e,_⟩:=h.2 h0
    cases e
  have hl0:l=[]:=List.eq_nil_of_length_eq_zero (by omega)
  subst hl0
  rfl
 | some ad =>
  have h1:=Lib.run_loadBytesX (P:=P) (w:=w) (l.map fun c=>(c.toNat:Int)) ad .empty (fun j x hj=>by
   rw [List.getElem?_map] at hj
   cases hx:l[j]? with
   | none=>rw [hx] at hj;cases hj
   | some y =>
    rw [hx] at hj
    injection hj with hj
    subst hj
    have hjl:j < l.length:=(List.getElem?_eq_some_iff.1 hx).1
    obtain ⟨b,o,e,_,hc⟩:=h.2 (by omega)
    injection e with e
    subst e
    have:=hc j _ (u8s_at hx)
    unfold Addr.add
    split
    ·rename_i h0;subst h0;exact this
    ·exact this)
  rw [List.length_map,hl,ints_back] at h1
  have he:(⟨ByteArray.empty.data ++ l.toArray⟩:ByteArray)=⟨l.toArray⟩:=by
   apply ByteArray.ext
   show (#[]:Array UInt8) ++ l.toArray=l.toArray
   simp
  rw [he] at h1
  exact h1
theorem compareBytes_eq:∀ a b:List UInt8,Lib.compareBytes a b=cmpB a b
 | [],[]=>rfl
 | [],_::_=>rfl
 | _::_,[]=>rfl
 | x::a,y::b=>by
  rw [cmpB_cc,Lib.compareBytes,compareBytes_eq a b]
  by_cases h:x < y
  ·rw [if_pos h,if_pos (UInt8.lt_iff_toNat_lt.1 h)]
  ·rw [if_neg h,if_neg (fun h'=>h (UInt8.lt_iff_toNat_lt.2 h'))]
   by_cases h2:y < x
   ·rw [if_pos h2,if_pos (UInt8.lt_iff_toNat_lt.1 h2)]
   ·rw [if_neg h2,if_neg (fun h'=>h2 (UInt8.lt_iff_toNat_lt.2 h'))]
theorem run_compare_RB {B B' n m:Nat} {A A':Option Addr} {a b:List UInt8} (c d:Nat) (ha:RB w B A n a) (hb:RB w B' A' m b) :
  (Extern.BytealgCompare.compare #[.slice A n c,.slice A' m d]).run P w = .ok (.int .i64 (cmpB a b)) w:=by
 change Sem.run P (do pure (goInt (Extern.BytealgCompare.cmp (← Extern.Bytes.bytesOf (.slice A n c)) (← Extern.Bytes.bytesOf (.slice A' m d))))) w=_
 simp only [Sem.run_bind,Sem.run_pure,run_bytesOf_RB c ha,run_bytesOf_RB d hb,Result.andThen]
 rw [Lib.cmp_eq,compareBytes_eq]
 rfl
end
set_option maxRecDepth 100000 in
set_option maxHeartbeats 1000000 in
theorem bcmp_any (a b:List UInt8) (A B:Option Addr) (n c m d:Nat) (w:World) (ha:RB w w.heap.size A n a) (hb:RB w w.heap.size B m b) :
  Calls Tryz.prog 94 #[.slice A n c,.slice B m d] w fun e w'=>e = .returned (.int .i64 (cmpB a b))∧w=w':=by
 go_enter Tryz.func94,Tryz.ntmps94
 go_wp2
 rw [run_callFunc_extern Tryz.func157 (by kernel_rfl) (by kernel_rfl) (by kernel_rfl) (e:=Extern.BytealgCompare.compare) (by kernel_rfl),run_compare_RB c d ha hb]
 simp only [Result.andThen]
 rw [Oper.upon_value]
 go_wp2
 go_ret
 exact ⟨rfl,rfl⟩
set_option maxRecDepth 100000 in
theorem isNaN_any (x:Int) (w:World):Calls Tryz.prog 217 #[.int .i64 x] w fun e w'=>e = .returned (.bool false)∧w=w':=by
 go_enter Tryz.func217,Tryz.ntmps217
 go_wp2
 go_ret
 exact ⟨by simp,rfl⟩
set_option maxRecDepth 100000 in
set_option maxHeartbeats 1000000 in
theorem icmp_any (x y:Int) (w:World):Calls Tryz.prog 200 #[.int .i64 x,.int .i64 y] w fun e w'=>e = .returned (.int .i64 (cmpI x y))∧w=w':=by
 go_enter Tryz.func200,Tryz.ntmps200
 go_wp2_with (go_at_call 217;refine (isNaN_any _ _).mono ?_;rintro e w' ⟨rfl,rfl⟩)
 all_goals (go_ret;refine ⟨ret_int ?_,rfl⟩;unfold cmpI;(repeat' split) <;> first | rfl | (exfalso;omega))
set_option maxRecDepth 100000 in
set_option maxHeartbeats 1000000 in
theorem cFirst_any (z:Int) (A:Option Addr) (n c:Nat) (f:Int) (B:Option Addr) (m d:Nat) (t s k:Int) (D:Option Addr) (v q:Nat) (A':Option Addr) (n' c':Nat) (f':Int) (B':Option Addr) (m' d':Nat) (t' s' k':Int) (D':Option Addr) (v' q':Nat) (w:World) :
  Calls Tryz.prog 202 #[.int .i64 z,.agg #[.slice A n c,.int .i64 f,.slice B m d,.int .i64 t,.int .i64 s,.int .i64 k,.slice D v q],.agg #[.slice A' n' c',.int .i64 f',.slice B' m' d',.int .i64 t',.int .i64 s',.int .i64 k',.slice D' v' q']] w fun e w'=>e = .returned (.int .i64 (firstI (k == z) (k' == z)))∧Below w.heap.size w w':=by
 have HB:Hid (∀ o o',Below w.heap.size w ((w.alloc o).alloc o')):=Lib.hid fun o o'=>((Below.refl _ w).alloc (Nat.le_refl _) o).alloc (by simp) o'
 unfold firstI
 generalize h1:(k == z)=x
 generalize h2:(k' == z)=y
 cases x <;> cases y <;> (
  go_enter Tryz.func202,Tryz.ntmps202
  go_wp2_with (go_quiet (fail))
  go_ret
  exact ⟨rfl,below_drewN (HB.out _ _)⟩)
abbrev entV (A:Option Addr) (n c:Nat) (B:Option Addr) (m d:Nat) (D:Option Addr) (v q:Nat) (e:Ent):Value := .agg #[.slice A n c,.int .i64 e.fam,.slice B m d,.int .i64 e.ts,.int .i64 e.seq,.int .i64 e.kind,.slice D v q]
structure En (w:World) (A:Option Addr) (n c:Nat) (B:Option Addr) (m d:Nat) (D:Option Addr) (v q:Nat) (e:Ent):Prop where
  row:Sl w A n c e.row
  qual:Sl w B m d e.qual
  val:Sl w D v q e.val
theorem En.later {w w':World} {A:Option Addr} {n c:Nat} {B:Option Addr} {m d:Nat} {D:Option Addr} {v q:Nat} {e:Ent} (h:En w A n c B m d D v q e) (hb:Below w.heap.size w w'):En w' A n c B m d D v q e:=⟨h.row.later hb,h.qual.later hb,h.val.later hb⟩
def stepC (a b:Ent):Nat→Int
 | 0=>cmpB a.row b.row
 | 1=>cmpI a.fam b.fam
 | 2=>firstI (a.kind == 5) (b.kind == 5)
 | 3=>cmpB a.qual b.qual
 | 4=>firstI (a.kind == 4) (b.kind == 4)
 | 5=>cmpI b.ts a.ts
 | 6=>cmpI b.seq a.seq
 | _=>cmpI a.kind b.kind
theorem below_up {a b c:World} (h:Below a.heap.size a b) (k:Below b.heap.size b c):Below a.heap.size a c:=h.trans (k.mono h.size)
theorem two_boxes (w:World):∀ o o',Below w.heap.size w ((w.alloc o).alloc o'):=fun o o'=>((Below.refl _ w).alloc (Nat.le_refl _) o).alloc (by simp) o'
set_option maxRecDepth 100000 in
set_option maxHeartbeats 1000000 in
theorem step1_any (a b:Ent) (A:Option Addr) (n c:Nat) (B:Option Addr) (m d:Nat) (D:Option Addr) (v q:Nat) (A':Option Addr) (n' c':Nat) (B':Option Addr) (m' d':Nat) (D':Option Addr) (v' q':Nat) (w:World) (ha:En w A n c B m d D v q a) (hb:En w A' n' c' B' m' d' D' v' q' b) :
  Calls Tryz.prog 198 #[entV A n c B m d D v q a,entV A' n' c' B' m' d' D' v' q' b] w fun e w1=>e = .returned (.int .i64 (stepC a b 0))∧Below w.heap.size w w1:=by
 unfold entV
 have HB:=Lib.hid (two_boxes w)
 have H1:Hid (∀ w1,Below w.heap.size w w1→Sl w1 A n c a.row):=Lib.hid fun w1 h=>(ha.later h).row
 have H2:Hid (∀ w1,Below w.heap.size w w1→Sl w1 A' n' c' b.row):=Lib.hid fun w1 h=>(hb.later h).row
 clear ha hb
 go_enter Tryz.func198,Tryz.ntmps198
 go_wp2_with (go_at_call 94;go_must (refine (bcmp_any a.row b.row _ _ _ _ _ _ _ (H1.out _ (HB.out _ _)).rb (H2.out _ (HB.out _ _)).rb).mono ?_;rintro e w1 ⟨rfl,rfl⟩))
 go_ret
 exact ⟨rfl,HB.out _ _⟩
set_option maxRecDepth 100000 in
set_option maxHeartbeats 1000000 in
theorem step2_any (a b:Ent) (A:Option Addr) (n c:Nat) (B:Option Addr) (m d:Nat) (D:Option Addr) (v q:Nat) (A':Option Addr) (n' c':Nat) (B':Option Addr) (m' d':Nat) (D':Option Addr) (v' q':Nat) (w:World) (_ha:En w A n c B m d D v q a) (_hb:En w A' n' c' B' m' d' D' v' q' b) :
  Calls Tryz.prog 199 #[entV A n c B m d D v q a,entV A' n' c' B' m' d' D' v' q' b] w fun e w1=>e = .returned (.int .i64 (stepC a b 1))∧Below w.heap.size w w1:=by
 unfold entV
 have HB:=Lib.hid (two_boxes w)
 clear _ha _hb
 go_enter Tryz.func199,Tryz.ntmps199
 go_wp2_with (go_at_call 200;go_must (refine (icmp_any _ _ _).mono ?_;rintro e w1 ⟨rfl,rfl⟩))
 go_ret
 exact ⟨rfl,HB.out _ _⟩
set_option maxRecDepth 100000 in
set_option maxHeartbeats 1000000 in
theorem step3_any (a b:Ent) (A:Option Addr) (n c:Nat) (B:Option Addr) (m d:Nat) (D:Option Addr) (v q:Nat) (A':Option Addr) (n' c':Nat) (B':Option Addr) (m' d':Nat) (D':Option Addr) (v' q':Nat) (w:World) (_ha:En w A n c B m d D v q a) (_hb:En w A' n' c' B' m' d' D' v' q' b) :
  Calls Tryz.prog 201 #[entV A n c B m d D v q a,entV A' n' c' B' m' d' D' v' q' b] w fun e w1=>e = .returned (.int .i64 (stepC a b 2))∧Below w.heap.size w w1:=by
 unfold entV
 have HB:=Lib.hid (two_boxes w)
 clear _ha _hb
 go_enter Tryz.func201,Tryz.ntmps201
 go_wp2_with (go_at_call 202;go_must (refine (cFirst_any _ _ _ _ _ _ _ _ _ _ _ _ _ _ _ _ _ _ _ _ _ _ _ _ _ _ _ _).mono ?_;rintro e w1 ⟨rfl,hb1⟩;have HB1:=Lib.hid (below_up (HB.out _ _) hb1);clear hb1))
 go_ret
 exact ⟨rfl,HB1.out⟩
set_option maxRecDepth 100000 in
set_option maxHeartbeats 1000000 in
theorem step4_any (a b:Ent) (A:Option Addr) (n c:Nat) (B:Option Addr) (m d:Nat) (D:Option Addr) (v q:Nat) (A':Option Addr) (n' c':Nat) (B':Option Addr) (m' d':Nat) (D':Option Addr) (v' q':Nat) (w:World) (ha:En w A n c B m d D v q a) (hb:En w A' n' c' B' m' d' D' v' q' b) :
  Calls Tryz.prog 203 #[entV A n c B m d D v q a,entV A' n' c' B' m' d' D' v' q' b] w fun e w1=>e = .returned (.int .i64 (stepC a b 3))∧Below w.heap.size w w1:=by
 unfold entV
 have HB:=Lib.hid (two_boxes w)
 have H1:Hid (∀ w1,Below w.heap.size w w1→Sl w1 B m d a.qual):=Lib.hid fun w1 h=>(ha.later h).qual
 have H2:Hid (∀ w1,Below w.heap.size w w1→Sl w1 B' m' d' b.qual):=Lib.hid fun w1 h=>(hb.later h).qual
 clear ha hb
 go_enter Tryz.func203,Tryz.ntmps203
 go_wp2_with (go_at_call 94;go_must (refine (bcmp_any a.qual b.qual _ _ _ _ _ _ _ (H1.out _ (HB.out _ _)).rb (H2.out _ (HB.out _ _)).rb).mono ?_;rintro e w1 ⟨rfl,rfl⟩))
 go_ret
 exact ⟨rfl,HB.out _ _⟩
set_option maxRecDepth 100000 in
set_option maxHeartbeats 1000000 in
theorem step5_any (a b:Ent) (A:Option Addr) (n c:Nat) (B:Option Addr) (m d:Nat) (D:Option Addr) (v q:Nat) (A':Option Addr) (n' c':Nat) (B':Option Addr) (m' d':Nat) (D':Option Addr) (v' q':Nat) (w:World) (_ha:En w A n c B m d D v q a) (_hb:En w A' n' c' B' m' d' D' v' q' b) :
  Calls Tryz.prog 204 #[entV A n c B m d D v q a,entV A' n' c' B' m' d' D' v' q' b] w fun e w1=>e = .returned (.int .i64 (stepC a b 4))∧Below w.heap.size w w1:=by
 unfold entV
 have HB:=Lib.hid (two_boxes w)
 clear _ha _hb
 go_enter Tryz.func204,Tryz.ntmps204
 go_wp2_with (go_at_call 202;go_must (refine (cFirst_any _ _ _ _ _ _ _ _ _ _ _ _ _ _ _ _ _ _ _ _ _ _ _ _ _ _ _ _).mono ?_;rintro e w1 ⟨rfl,hb1⟩;have HB1:=Lib.hid (below_up (HB.out _ _) hb1);clear hb1))
 go_ret
 exact ⟨rfl,HB1.out⟩
set_option maxRecDepth 100000 in
set_option maxHeartbeats 1000000 in
theorem step6_any (a b:Ent) (A:Option Addr) (n c:Nat) (B:Option Addr) (m d:Nat) (D:Option Addr) (v q:Nat) (A':Option Addr) (n' c':Nat) (B':Option Addr) (m' d':Nat) (D':Option Addr) (v' q':Nat) (w:World) (_ha:En w A n c B m d D v q a) (_hb:En w A' n' c' B' m' d' D' v' q' b) :
  Calls Tryz.prog 205 #[entV A n c B m d D v q a,entV A' n' c' B' m' d' D' v' q' b] w fun e w1=>e = .returned (.int .i64 (stepC a b 5))∧Below w.heap.size w w1:=by
 unfold entV
 have HB:=Lib.hid (two_boxes w)
 clear _ha _hb
 go_enter Tryz.func205,Tryz.ntmps205
 go_wp2_with (go_at_call 200;go_must (refine (icmp_any _ _ _).mono ?_;rintro e w1 ⟨rfl,rfl⟩))
 go_ret
 exact ⟨rfl,HB.out _ _⟩
set_option maxRecDepth 100000 in
set_option maxHeartbeats 1000000 in
theorem step7_any (a b:Ent) (A:Option Addr) (n c:Nat) (B:Option Addr) (m d:Nat) (D:Option Addr) (v q:Nat) (A':Option Addr) (n' c':Nat) (B':Option Addr) (m' d':Nat) (D':Option Addr) (v' q':Nat) (w:World) (_ha:En w A n c B m d D v q a) (_hb:En w A' n' c' B' m' d' D' v' q' b) :
  Calls Tryz.prog 206 #[entV A n c B m d D v q a,entV A' n' c' B' m' d' D' v' q' b] w fun e w1=>e = .returned (.int .i64 (stepC a b 6))∧Below w.heap.size w w1:=by
 unfold entV
 have HB:=Lib.hid (two_boxes w)
 clear _ha _hb
 go_enter Tryz.func206,Tryz.ntmps206
 go_wp2_with (go_at_call 200;go_must (refine (icmp_any _ _ _).mono ?_;rintro e w1 ⟨rfl,rfl⟩))
 go_ret
 exact ⟨rfl,HB.out _ _⟩
set_option maxRecDepth 100000 in
set_option maxHeartbeats 1000000 in
theorem step8_any (a b:Ent) (A:Option Addr) (n c:Nat) (B:Option Addr) (m d:Nat) (D:Option Addr) (v q:Nat) (A':Option Addr) (n' c':Nat) (B':Option Addr) (m' d':Nat) (D':Option Addr) (v' q':Nat) (w:World) (_ha:En w A n c B m d D v q a) (_hb:En w A' n' c' B' m' d' D' v' q' b) :
  Calls Tryz.prog 207 #[entV A n c B m d D v q a,entV A' n' c' B' m' d' D' v' q' b] w fun e w1=>e = .returned (.int .i64 (stepC a b 7))∧Below w.heap.size w w1:=by
 unfold entV
 have HB:=Lib.hid (two_boxes w)
 clear _ha _hb
 go_enter Tryz.func207,Tryz.ntmps207
 go_wp2_with (go_at_call 200;go_must (refine (icmp_any _ _ _).mono ?_;rintro e w1 ⟨rfl,rfl⟩))
 go_ret
 exact ⟨rfl,HB.out _ _⟩
set_option maxRecDepth 100000 in
set_option maxHeartbeats 1000000 in
theorem steps_any (w:World):Calls Tryz.prog 156 #[] w fun e w1=>e = .returned (.agg #[.func (.func 198) #[] #[],.func (.func 199) #[] #[],.func (.func 201) #[] #[],.func (.func 203) #[] #[],.func (.func 204) #[] #[],.func (.func 205) #[] #[],.func (.func 206) #[] #[],.func (.func 207) #[] #[]])∧Below w.heap.size w w1:=by
 go_enter Tryz.func156,Tryz.ntmps156
 go_wp2
 (try simp only [Exit.inBlock,Exit.then])
 refine bodyPost_ret (results_cell_row rfl _ _ w.heap.size 250 _ (0,0) (.array 8 80) rfl (heap_alloc_new _ _) (by kernel_rfl) rfl (by kernel_rfl)) rfl ?_
 exact ⟨rfl,(Below.refl _ w).alloc (Nat.le_refl _) _⟩
theorem cmpE_first (a b:Ent) (k:Nat) (hk:k < 8) (h:∀ i,i < k→stepC a b i=0) (hn:stepC a b k ≠ 0):stepC a b k=cmpE a b:=by
 have z:∀ i,i < k→stepC a b i=0:=h
 have hc:cmpE a b=seqC (stepC a b 0) (seqC (stepC a b 1) (seqC (stepC a b 2) (seqC (stepC a b 3) (seqC (stepC a b 4) (seqC (stepC a b 5) (seqC (stepC a b 6) (stepC a b 7))))))):=rfl
 rw [hc]
 have hk':k=0∨k=1∨k=2∨k=3∨k=4∨k=5∨k=6∨k=7:=by omega
 rcases hk' with rfl | rfl | rfl | rfl | rfl | rfl | rfl | rfl
 ·simp only [seqC,if_neg hn]
 ·simp only [seqC,z 0 (by decide),if_true,if_neg hn]
 ·simp only [seqC,z 0 (by decide),z 1 (by decide),if_true,if_neg hn]
 ·simp only [seqC,z 0 (by decide),z 1 (by decide),z 2 (by decide),if_true,if_neg hn]
 ·simp only [seqC,z 0 (by decide),z 1 (by decide),z 2 (by decide),z 3 (by decide),if_true,if_neg hn]
 ·simp only [seqC,z 0 (by decide),z 1 (by decide),z 2 (by decide),z 3 (by decide),z 4 (by decide),if_true,if_neg hn]
 ·simp only [seqC,z 0 (by decide),z 1 (by decide),z 2 (by decide),z 3 (by decide),z 4 (by decide),z 5 (by decide),if_true,if_neg hn]
 ·simp only [seqC,z 0 (by decide),z 1 (by decide),z 2 (by decide),z 3 (by decide),z 4 (by decide),z 5 (by decide),z 6 (by decide),if_true]
theorem cmpE_none (a b:Ent) (h:∀ i,i < 8→stepC a b i=0):cmpE a b=0:=by
 have hc:cmpE a b=seqC (stepC a b 0) (seqC (stepC a b 1) (seqC (stepC a b 2) (seqC (stepC a b 3) (seqC (stepC a b 4) (seqC (stepC a b 5) (seqC (stepC a b 6) (stepC a b 7))))))):=rfl
 rw [hc]
 simp only [seqC,h 0 (by decide),h 1 (by decide),h 2 (by decide),h 3 (by decide),h 4 (by decide),h 5 (by decide),h 6 (by decide),h 7 (by decide),if_true]
structure Two (w:World) (T:TypeId) (c1 c2:Array Value) (x:World):Prop where
  up:Below w.heap.size w x
  at1:∀ i v,c1[i]?=some v→x.cell? ⟨w.heap.size,i,none⟩=some v
  at2:∀ i v,c2[i]?=some v→x.cell? ⟨w.heap.size + 1,i,none⟩=some v
  size:w.heap.size + 2≤x.heap.size
theorem Two.new (w:World) (T:TypeId) (c1 c2:Array Value):Two w T c1 c2 ((w.alloc (.cells c1 T)).alloc (.cells c2 T)):=by
 have s1:(w.alloc (.cells c1 T)).heap.size=w.heap.size + 1:=by show (w.heap.push _).size=_;simp
 refine ⟨two_boxes w _ _,fun i v h=>?_,fun i v h=>?_,by show _≤((w.heap.push _).push _).size;simp⟩
 ·rw [World.cell?_alloc_lt _ _ _ (by rw [s1];exact Nat.lt_succ_self _)]
  simpa using h
 ·rw [← s1];simpa using h
theorem Two.later {w x y:World} {T:TypeId} {c1 c2:Array Value} (h:Two w T c1 c2 x) (k:Below x.heap.size x y):Two w T c1 c2 y:=by
 have hs:=h.size
 exact ⟨h.up.trans (k.mono h.up.size),fun i v e=>(k.cell (p:=⟨w.heap.size,i,none⟩) (by show w.heap.size < x.heap.size;omega)).trans (h.at1 i v e),
  fun i v e=>(k.cell (p:=⟨w.heap.size + 1,i,none⟩) (by show w.heap.size + 1 < x.heap.size;omega)).trans (h.at2 i v e),Nat.le_trans hs k.size⟩
theorem boxed1 {w x:World} {T:TypeId} {c1 c2:Array Value} (h:Two w T c1 c2 x) {i:Nat} {v:Value} (e:c1[i]?=some v):x.cell? ⟨w.heap.size,i,none⟩=some v:=h.at1 i v e
theorem boxed2 {w x:World} {T:TypeId} {c1 c2:Array Value} (h:Two w T c1 c2 x) {i:Nat} {v:Value} (e:c2[i]?=some v):x.cell? ⟨w.heap.size + 1,i,none⟩=some v:=h.at2 i v e
theorem below_keep2 {w x y:World} {T:TypeId} {c1 c2:Array Value} (h:Two w T c1 c2 x) (k:Below x.heap.size x y):Two w T c1 c2 y:=h.later k
theorem below_of_two {w x:World} {T:TypeId} {c1 c2:Array Value} (h:Two w T c1 c2 x):Below w.heap.size w x:=h.up
theorem idx0 (w:World):(Instr.index 250 (.agg #[.func (.func 198) #[] #[],.func (.func 199) #[] #[],.func (.func 201) #[] #[],.func (.func 203) #[] #[],.func (.func 204) #[] #[],.func (.func 205) #[] #[],.func (.func 206) #[] #[],.func (.func 207) #[] #[]]) (.int .i64 0)).run Tryz.prog w = .ok (.func (.func 198) #[] #[]) w:=run_index_arr w _ 80 8 _ 0 _ (by kernel_rfl) (by kernel_rfl) (by kernel_rfl) (by decide) rfl
theorem idx1 (w:World):(Instr.index 250 (.agg #[.func (.func 198) #[] #[],.func (.func 199) #[] #[],.func (.func 201) #[] #[],.func (.func 203) #[] #[],.func (.func 204) #[] #[],.func (.func 205) #[] #[],.func (.func 206) #[] #[],.func (.func 207) #[] #[]]) (.int .i64 1)).run Tryz.prog w = .ok (.func (.func 199) #[] #[]) w:=run_index_arr w _ 80 8 _ 1 _ (by kernel_rfl) (by kernel_rfl) (by kernel_rfl) (by decide) rfl
theorem idx2 (w:World):(Instr.index 250 (.agg #[.func (.func 198) #[] #[],.func (.func 199) #[] #[],.func (.func 201) #[] #[],.func (.func 203) #[] #[],.func (.func 204) #[] #[],.func (.func 205) #[] #[],.func (.func 206) #[] #[],.func (.func 207) #[] #[]]) (.int .i64 2)).run Tryz.prog w = .ok (.func (.func 201) #[] #[]) w:=run_index_arr w _ 80 8 _ 2 _ (by kernel_rfl) (by kernel_rfl) (by kernel_rfl) (by decide) rfl
theorem idx3 (w:World):(Instr.index 250 (.agg #[.func (.func 198) #[] #[],.func (.func 199) #[] #[],.func (.func 201) #[] #[],.func (.func 203) #[] #[],.func (.func 204) #[] #[],.func (.func 205) #[] #[],.func (.func 206) #[] #[],.func (.func 207) #[] #[]]) (.int .i64 3)).run Tryz.prog w = .ok (.func (.func 203) #[] #[]) w:=run_index_arr w _ 80 8 _ 3 _ (by kernel_rfl) (by kernel_rfl) (by kernel_rfl) (by decide) rfl
theorem idx4 (w:World):(Instr.index 250 (.agg #[.func (.func 198) #[] #[],.func (.func 199) #[] #[],.func (.func 201) #[] #[],.func (.func 203) #[] #[],.func (.func 204) #[] #[],.func (.func 205) #[] #[],.func (.func 206) #[] #[],.func (.func 207) #[] #[]]) (.int .i64 4)).run Tryz.prog w = .ok (.func (.func 204) #[] #[]) w:=run_index_arr w _ 80 8 _ 4 _ (by kernel_rfl) (by kernel_rfl) (by kernel_rfl) (by decide) rfl
theorem idx5 (w:World):(Instr.index 250 (.agg #[.func (.func 198) #[] #[],.func (.func 199) #[] #[],.func (.func 201) #[] #[],.func (.func 203) #[] #[],.func (.func 204) #[] #[],.func (.func 205) #[] #[],.func (.func 206) #[] #[],.func (.func 207) #[] #[]]) (.int .i64 5)).run Tryz.prog w = .ok (.func (.func 205) #[] #[]) w:=run_index_arr w _ 80 8 _ 5 _ (by kernel_rfl) (by kernel_rfl) (by kernel_rfl) (by decide) rfl
theorem idx6 (w:World):(Instr.index 250 (.agg #[.func (.func 198) #[] #[],.func (.func 199) #[] #[],.func (.func 201) #[] #[],.func (.func 203) #[] #[],.func (.func 204) #[] #[],.func (.func 205) #[] #[],.func (.func 206) #[] #[],.func (.func 207) #[] #[]]) (.int .i64 6)).run Tryz.prog w = .ok (.func (.func 206) #[] #[]) w:=run_index_arr w _ 80 8 _ 6 _ (by kernel_rfl) (by kernel_rfl) (by kernel_rfl) (by decide) rfl
theorem idx7 (w:World):(Instr.index 250 (.agg #[.func (.func 198) #[] #[],.func (.func 199) #[] #[],.func (.func 201) #[] #[],.func (.func 203) #[] #[],.func (.func 204) #[] #[],.func (.func 205) #[] #[],.func (.func 206) #[] #[],.func (.func 207) #[] #[]]) (.int .i64 7)).run Tryz.prog w = .ok (.func (.func 207) #[] #[]) w:=run_index_arr w _ 80 8 _ 7 _ (by kernel_rfl) (by kernel_rfl) (by kernel_rfl) (by decide) rfl
theorem Hid.map {p q:Prop} (h:Hid p) (f:p→q):Hid q:=Lib.hid (f h.out)
set_option maxRecDepth 100000 in
set_option maxHeartbeats 4000000 in
theorem compare_any (a b:Ent) (A:Option Addr) (n c:Nat) (B:Option Addr) (m d:Nat) (D:Option Addr) (v q:Nat) (A':Option Addr) (n' c':Nat) (B':Option Addr) (m' d':Nat) (D':Option Addr) (v' q':Nat) (w:World) (ha:En w A n c B m d D v q a) (hb:En w A' n' c' B' m' d' D' v' q' b) :
  Calls Tryz.prog 93 #[entV A n c B m d D v q a,entV A' n' c' B' m' d' D' v' q' b] w fun e w1=>e = .returned (.int .i64 (cmpE a b))∧Below w.heap.size w w1:=by
 have HA:Hid (∀ w1,Below w.heap.size w w1→En w1 A n c B m d D v q a):=Lib.hid fun _ h=>ha.later h
 have HC:Hid (∀ w1,Below w.heap.size w w1→En w1 A' n' c' B' m' d' D' v' q' b):=Lib.hid fun _ h=>hb.later h
 have HT:=Lib.hid (Two.new w 60 #[.slice A n c,.int .i64 a.fam,.slice B m d,.int .i64 a.ts,.int .i64 a.seq,.int .i64 a.kind,.slice D v q] #[.slice A' n' c',.int .i64 b.fam,.slice B' m' d',.int .i64 b.ts,.int .i64 b.seq,.int .i64 b.kind,.slice D' v' q'])
 unfold entV
 clear ha hb
 go_enter Tryz.func93,Tryz.ntmps93
 go_wp2_with (go_at_call 156;refine (steps_any _).mono ?_;rintro e w1 ⟨rfl,hb1⟩;have HB1:=Lib.hid (below_keep2 HT.out hb1);clear hb1 HT)
 go_loopw [9] (fun i wr=>∃ k:Nat,k≤8∧i = .int .i64 k∧Hid (∀ i,i < k→stepC a b i=0)∧Hid (Two w 60 #[.slice A n c,.int .i64 a.fam,.slice B m d,.int .i64 a.ts,.int .i64 a.seq,.int .i64 a.kind,.slice D v q] #[.slice A' n' c',.int .i64 b.fam,.slice B' m' d',.int .i64 b.ts,.int .i64 b.seq,.int .i64 b.kind,.slice D' v' q'] wr)) (fun i _=>8 - (intOf i).toNat)
 case atStart=>exact ⟨0,by decide,rfl,Lib.hid fun i hi=>absurd hi (Nat.not_lt_zero _),HB1⟩
 case round =>
  obtain ⟨k,hk,hi,HF,HW⟩:=hrel
  have HE:=Lib.hid (below_of_two HW.out)
  have c10:=boxed1 HW.out (i:=0) (v := .slice A n c) rfl
  have c20:=boxed2 HW.out (i:=0) (v := .slice A' n' c') rfl
  have c11:=boxed1 HW.out (i:=1) (v := .int .i64 a.fam) rfl
  have c21:=boxed2 HW.out (i:=1) (v := .int .i64 b.fam) rfl
  have c12:=boxed1 HW.out (i:=2) (v := .slice B m d) rfl
  have c22:=boxed2 HW.out (i:=2) (v := .slice B' m' d') rfl
  have c13:=boxed1 HW.out (i:=3) (v := .int .i64 a.ts) rfl
  have c23:=boxed2 HW.out (i:=3) (v := .int .i64 b.ts) rfl
  have c14:=boxed1 HW.out (i:=4) (v := .int .i64 a.seq) rfl
  have c24:=boxed2 HW.out (i:=4) (v := .int .i64 b.seq) rfl
  have c15:=boxed1 HW.out (i:=5) (v := .int .i64 a.kind) rfl
  have c25:=boxed2 HW.out (i:=5) (v := .int .i64 b.kind) rfl
  have c16:=boxed1 HW.out (i:=6) (v := .slice D v q) rfl
  have c26:=boxed2 HW.out (i:=6) (v := .slice D' v' q') rfl
  clear HB1
  have hk':k=0∨k=1∨k=2∨k=3∨k=4∨k=5∨k=6∨k=7∨k=8:=by omega
  clear hk
  rcases hk' with rfl | rfl | rfl | rfl | rfl | rfl | rfl | rfl | rfl
  case inr.inr.inr.inr.inr.inr.inr.inr =>
   replace hi:_=Value.int .i64 8:=hi
   subst hi
   have HZ:=Lib.hid (cmpE_none a b HF.out)
   clear HF HA HC
   go_wp2
   go_ret
   exact ⟨by rw [HZ.out];rfl,below_of_two HW.out⟩
  case inl =>
   replace hi:_=Value.int .i64 0:=hi
   subst hi
   have S:∀ (z:Unit) (_:Hid True),Calls Tryz.prog 198 #[.agg #[.slice A n c,.int .i64 a.fam,.slice B m d,.int .i64 a.ts,.int .i64 a.seq,.int .i64 a.kind,.slice D v q],.agg #[.slice A' n' c',.int .i64 b.fam,.slice B' m' d',.int .i64 b.ts,.int .i64 b.seq,.int .i64 b.kind,.slice D' v' q']] wr (fun e w1=>e = .returned (.int .i64 (stepC a b 0))∧Below wr.heap.size wr w1):=fun _ _=>step1_any a b _ _ _ _ _ _ _ _ _ _ _ _ _ _ _ _ _ _ wr (HA.out wr HE.out) (HC.out wr HE.out)
   clear HA HC
   have ix:=fun w=>idx0 w
   by_cases hz:stepC a b 0=0
   ·have HZ:Hid (∀ i,i < 1→stepC a b i=0):=Lib.hid fun i hi=>if h:i=0 then h ▸ hz else HF.out i (by omega)
    rw [hz] at S
    clear hz HF
    go_wp2_with (go_at_call 198;go_must (refine (S () (Lib.hid trivial)).mono ?_);rintro e w2 ⟨rfl,hb2⟩;have HB2:=Lib.hid (below_keep2 HW.out hb2);clear hb2)
    go_roundw
    case measure=>decide
    case rel=>exact ⟨1,by omega,rfl,HZ,HB2⟩
   ·have HZ:=Lib.hid (cmpE_first a b 0 (by decide) HF.out hz)
    have t1:(stepC a b 0 == 0)=false:=by simpa using hz
    have t2:(stepC a b 0 != 0)=true:=by simpa using hz
    clear HF hz
    generalize stepC a b 0=z at S t1 t2 HZ
    go_wp2_with (go_at_call 198;go_must (refine (S () (Lib.hid trivial)).mono ?_);rintro e w2 ⟨rfl,hb2⟩;have HB2:=Lib.hid (below_keep2 HW.out hb2);clear hb2)
    go_ret
    exact ⟨by rw [← HZ.out];rfl,below_of_two HB2.out⟩
  case inr.inl =>
   replace hi:_=Value.int .i64 1:=hi
   subst hi
   have S:∀ (z:Unit) (_:Hid True),Calls Tryz.prog 199 #[.agg #[.slice A n c,.int .i64 a.fam,.slice B m d,.int .i64 a.ts,.int .i64 a.seq,.int .i64 a.kind,.slice D v q],.agg #[.slice A' n' c',.int .i64 b.fam,.slice B' m' d',.int .i64 b.ts,.int .i64 b.seq,.int .i64 b.kind,.slice D' v' q']] wr (fun e w1=>e = .returned (.int .i64 (stepC a b 1))∧Below wr.heap.size wr w1):=fun _ _=>step2_any a b _ _ _ _ _ _ _ _ _ _ _ _ _ _ _ _ _ _ wr (HA.out wr HE.out) (HC.out wr HE.out)
   clear HA HC
   have ix:=fun w=>idx1 w
   by_cases hz:stepC a b 1=0
   ·have HZ:Hid (∀ i,i < 2→stepC a b i=0):=Lib.hid fun i hi=>if h:i=1 then h ▸ hz else HF.out i (by omega)
    rw [hz] at S
    clear hz HF
    go_wp2_with (go_at_call 199;go_must (refine (S () (Lib.hid trivial)).mono ?_);rintro e w2 ⟨rfl,hb2⟩;have HB2:=Lib.hid (below_keep2 HW.out hb2);clear hb2)
    go_roundw
    case measure=>decide
    case rel=>exact ⟨2,by omega,rfl,HZ,HB2⟩
   ·have HZ:=Lib.hid (cmpE_first a b 1 (by decide) HF.out hz)
    have t1:(stepC a b 1 == 0)=false:=by simpa using hz
    have t2:(stepC a b 1 != 0)=true:=by simpa using hz
    clear HF hz
    generalize stepC a b 1=z at S t1 t2 HZ
    go_wp2_with (go_at_call 199;go_must (refine (S () (Lib.hid trivial)).mono ?_);rintro e w2 ⟨rfl,hb2⟩;have HB2:=Lib.hid (below_keep2 HW.out hb2);clear hb2)
    go_ret
    exact ⟨by rw [← HZ.out];rfl,below_of_two HB2.out⟩
  case inr.inr.inl =>
   replace hi:_=Value.int .i64 2:=hi
   subst hi
   have S:∀ (z:Unit) (_:Hid True),Calls Tryz.prog 201 #[.agg #[.slice A n c,.int .i64 a.fam,.slice B m d,.int .i64 a.ts,.int .i64 a.seq,.int .i64 a.kind,.slice D v q],.agg #[.slice A' n' c',.int .i64 b.fam,.slice B' m' d',.int .i64 b.ts,.int .i64 b.seq,.int .i64 b.kind,.slice D' v' q']] wr (fun e w1=>e = .returned (.int .i64 (stepC a b 2))∧Below wr.heap.size wr w1):=fun _ _=>step3_any a b _ _ _ _ _ _ _ _ _ _ _ _ _ _ _ _ _ _ wr (HA.out wr HE.out) (HC.out wr HE.out)
   clear HA HC
   have ix:=fun w=>idx2 w
   by_cases hz:stepC a b 2=0
   ·have HZ:Hid (∀ i,i < 3→stepC a b i=0):=Lib.hid fun i hi=>if h:i=2 then h ▸ hz else HF.out i (by omega)
    rw [hz] at S
    clear hz HF
    go_wp2_with (go_at_call 201;go_must (refine (S () (Lib.hid trivial)).mono ?_);rintro e w2 ⟨rfl,hb2⟩;have HB2:=Lib.hid (below_keep2 HW.out hb2);clear hb2)
    go_roundw
    case measure=>decide
    case rel=>exact ⟨3,by omega,rfl,HZ,HB2⟩
   ·have HZ:=Lib.hid (cmpE_first a b 2 (by decide) HF.out hz)
    have t1:(stepC a b 2 == 0)=false:=by simpa using hz
    have t2:(stepC a b 2 != 0)=true:=by simpa using hz
    clear HF hz
    generalize stepC a b 2=z at S t1 t2 HZ
    go_wp2_with (go_at_call 201;go_must (refine (S () (Lib.hid trivial)).mono ?_);rintro e w2 ⟨rfl,hb2⟩;have HB2:=Lib.hid (below_keep2 HW.out hb2);clear hb2)
    go_ret
    exact ⟨by rw [← HZ.out];rfl,below_of_two HB2.out⟩
  case inr.inr.inr.inl =>
   replace hi:_=Value.int .i64 3:=hi
   subst hi
   have S:∀ (z:Unit) (_:Hid True),Calls Tryz.prog 203 #[.agg #[.slice A n c,.int .i64 a.fam,.slice B m d,.int .i64 a.ts,.int .i64 a.seq,.int .i64 a.kind,.slice D v q],.agg #[.slice A' n' c',.int .i64 b.fam,.slice B' m' d',.int .i64 b.ts,.int .i64 b.seq,.int .i64 b.kind,.slice D' v' q']] wr (fun e w1=>e = .returned (.int .i64 (stepC a b 3))∧Below wr.heap.size wr w1):=fun _ _=>step4_any a b _ _ _ _ _ _ _ _ _ _ _ _ _ _ _ _ _ _ wr (HA.out wr HE.out) (HC.out wr HE.out)
   clear HA HC
   have ix:=fun w=>idx3 w
   by_cases hz:stepC a b 3=0
   ·have HZ:Hid (∀ i,i < 4→stepC a b i=0):=Lib.hid fun i hi=>if h:i=3 then h ▸ hz else HF.out i (by omega)
    rw [hz] at S
    clear hz HF
    go_wp2_with (go_at_call 203;go_must (refine (S () (Lib.hid trivial)).mono ?_);rintro e w2 ⟨rfl,hb2⟩;have HB2:=Lib.hid (below_keep2 HW.out hb2);clear hb2)
    go_roundw
    case measure=>decide
    case rel=>exact ⟨4,by omega,rfl,HZ,HB2⟩
   ·have HZ:=Lib.hid (cmpE_first a b 3 (by decide) HF.out hz)
    have t1:(stepC a b 3 == 0)=false:=by simpa using hz
    have t2:(stepC a b 3 != 0)=true:=by simpa using hz
    clear HF hz
    generalize stepC a b 3=z at S t1 t2 HZ
    go_wp2_with (go_at_call 203;go_must (refine (S () (Lib.hid trivial)).mono ?_);rintro e w2 ⟨rfl,hb2⟩;have HB2:=Lib.hid (below_keep2 HW.out hb2);clear hb2)
    go_ret
    exact ⟨by rw [← HZ.out];rfl,below_of_two HB2.out⟩
  case inr.inr.inr.inr.inl =>
   replace hi:_=Value.int .i64 4:=hi
   subst hi
   have S:∀ (z:Unit) (_:Hid True),Calls Tryz.prog 204 #[.agg #[.slice A n c,.int .i64 a.fam,.slice B m d,.int .i64 a.ts,.int .i64 a.seq,.int .i64 a.kind,.slice D v q],.agg #[.slice A' n' c',.int .i64 b.fam,.slice B' m' d',.int .i64 b.ts,.int .i64 b.seq,.int .i64 b.kind,.slice D' v' q']] wr (fun e w1=>e = .returned (.int .i64 (stepC a b 4))∧Below wr.heap.size wr w1):=fun _ _=>step5_any a b _ _ _ _ _ _ _ _ _ _ _ _ _ _ _ _ _ _ wr (HA.out wr HE.out) (HC.out wr HE.out)
   clear HA HC
   have ix:=fun w=>idx4 w
   by_cases hz:stepC a b 4=0
   ·have HZ:Hid (∀ i,i < 5→stepC a b i=0):=Lib.hid fun i hi=>if h:i=4 then h ▸ hz else HF.out i (by omega)
    rw [hz] at S
    clear hz HF
    go_wp2_with (go_at_call 204;go_must (refine (S () (Lib.hid trivial)).mono ?_);rintro e w2 ⟨rfl,hb2⟩;have HB2:=Lib.hid (below_keep2 HW.out hb2);clear hb2)
    go_roundw
    case measure=>decide
    case rel=>exact ⟨5,by omega,rfl,HZ,HB2⟩
   ·have HZ:=Lib.hid (cmpE_first a b 4 (by decide) HF.out hz)
    have t1:(stepC a b 4 == 0)=false:=by simpa using hz
    have t2:(stepC a b 4 != 0)=true:=by simpa using hz
    clear HF hz
    generalize stepC a b 4=z at S t1 t2 HZ
    go_wp2_with (go_at_call 204;go_must (refine (S () (Lib.hid trivial)).mono ?_);rintro e w2 ⟨rfl,hb2⟩;have HB2:=Lib.hid (below_keep2 HW.out hb2);clear hb2)
    go_ret
    exact ⟨by rw [← HZ.out];rfl,below_of_two HB2.out⟩
  case inr.inr.inr.inr.inr.inl =>
   replace hi:_=Value.int .i64 5:=hi
   subst hi
   have S:∀ (z:Unit) (_:Hid True),Calls Tryz.prog 205 #[.agg #[.slice A n c,.int .i64 a.fam,.slice B m d,.int .i64 a.ts,.int .i64 a.seq,.int .i64 a.kind,.slice D v q],.agg #[.slice A' n' c',.int .i64 b.fam,.slice B' m' d',.int .i64 b.ts,.int .i64 b.seq,.int .i64 b.kind,.slice D' v' q']] wr (fun e w1=>e = .returned (.int .i64 (stepC a b 5))∧Below wr.heap.size wr w1):=fun _ _=>step6_any a b _ _ _ _ _ _ _ _ _ _ _ _ _ _ _ _ _ _ wr (HA.out wr HE.out) (HC.out wr HE.out)
   clear HA HC
   have ix:=fun w=>idx5 w
   by_cases hz:stepC a b 5=0
   ·have HZ:Hid (∀ i,i < 6→stepC a b i=0):=Lib.hid fun i hi=>if h:i=5 then h ▸ hz else HF.out i (by omega)
    rw [hz] at S
    clear hz HF
    go_wp2_with (go_at_call 205;go_must (refine (S () (Lib.hid trivial)).mono ?_);rintro e w2 ⟨rfl,hb2⟩;have HB2:=Lib.hid (below_keep2 HW.out hb2);clear hb2)
    go_roundw
    case measure=>decide
    case rel=>exact ⟨6,by omega,rfl,HZ,HB2⟩
   ·have HZ:=Lib.hid (cmpE_first a b 5 (by decide) HF.out hz)
    have t1:(stepC a b 5 == 0)=false:=by simpa using hz
    have t2:(stepC a b 5 != 0)=true:=by simpa using hz
    clear HF hz
    generalize stepC a b 5=z at S t1 t2 HZ
    go_wp2_with (go_at_call 205;go_must (refine (S () (Lib.hid trivial)).mono ?_);rintro e w2 ⟨rfl,hb2⟩;have HB2:=Lib.hid (below_keep2 HW.out hb2);clear hb2)
    go_ret
    exact ⟨by rw [← HZ.out];rfl,below_of_two HB2.out⟩
  case inr.inr.inr.inr.inr.inr.inl =>
   replace hi:_=Value.int .i64 6:=hi
   subst hi
   have S:∀ (z:Unit) (_:Hid True),Calls Tryz.prog 206 #[.agg #[.slice A n c,.int .i64 a.fam,.slice B m d,.int .i64 a.ts,.int .i64 a.seq,.int .i64 a.kind,.slice D v q],.agg #[.slice A' n' c',.int .i64 b.fam,.slice B' m' d',.int .i64 b.ts,.int .i64 b.seq,.int .i64 b.kind,.slice D' v' q']] wr (fun e w1=>e = .returned (.int .i64 (stepC a b 6))∧Below wr.heap.size wr w1):=fun _ _=>step7_any a b _ _ _ _ _ _ _ _ _ _ _ _ _ _ _ _ _ _ wr (HA.out wr HE.out) (HC.out wr HE.out)
   clear HA HC
   have ix:=fun w=>idx6 w
   by_cases hz:stepC a b 6=0
   ·have HZ:Hid (∀ i,i < 7→stepC a b i=0):=Lib.hid fun i hi=>if h:i=6 then h ▸ hz else HF.out i (by omega)
    rw [hz] at S
    clear hz HF
    go_wp2_with (go_at_call 206;go_must (refine (S () (Lib.hid trivial)).mono ?_);rintro e w2 ⟨rfl,hb2⟩;have HB2:=Lib.hid (below_keep2 HW.out hb2);clear hb2)
    go_roundw
    case measure=>decide
    case rel=>exact ⟨7,by omega,rfl,HZ,HB2⟩
   ·have HZ:=Lib.hid (cmpE_first a b 6 (by decide) HF.out hz)
    have t1:(stepC a b 6 == 0)=false:=by simpa using hz
    have t2:(stepC a b 6 != 0)=true:=by simpa using hz
    clear HF hz
    generalize stepC a b 6=z at S t1 t2 HZ
    go_wp2_with (go_at_call 206;go_must (refine (S () (Lib.hid trivial)).mono ?_);rintro e w2 ⟨rfl,hb2⟩;have HB2:=Lib.hid (below_keep2 HW.out hb2);clear hb2)
    go_ret
    exact ⟨by rw [← HZ.out];rfl,below_of_two HB2.out⟩
  case inr.inr.inr.inr.inr.inr.inr.inl =>
   replace hi:_=Value.int .i64 7:=hi
   subst hi
   have S:∀ (z:Unit) (_:Hid True),Calls Tryz.prog 207 #[.agg #[.slice A n c,.int .i64 a.fam,.slice B m d,.int .i64 a.ts,.int .i64 a.seq,.int .i64 a.kind,.slice D v q],.agg #[.slice A' n' c',.int .i64 b.fam,.slice B' m' d',.int .i64 b.ts,.int .i64 b.seq,.int .i64 b.kind,.slice D' v' q']] wr (fun e w1=>e = .returned (.int .i64 (stepC a b 7))∧Below wr.heap.size wr w1):=fun _ _=>step8_any a b _ _ _ _ _ _ _ _ _ _ _ _ _ _ _ _ _ _ wr (HA.out wr HE.out) (HC.out wr HE.out)
   clear HA HC
   have ix:=fun w=>idx7 w
   by_cases hz:stepC a b 7=0
   ·have HZ:Hid (∀ i,i < 8→stepC a b i=0):=Lib.hid fun i hi=>if h:i=7 then h ▸ hz else HF.out i (by omega)
    rw [hz] at S
    clear hz HF
    go_wp2_with (go_at_call 207;go_must (refine (S () (Lib.hid trivial)).mono ?_);rintro e w2 ⟨rfl,hb2⟩;have HB2:=Lib.hid (below_keep2 HW.out hb2);clear hb2)
    go_roundw
    case measure=>decide
    case rel=>exact ⟨8,by omega,rfl,HZ,HB2⟩
   ·have HZ:=Lib.hid (cmpE_first a b 7 (by decide) HF.out hz)
    have t1:(stepC a b 7 == 0)=false:=by simpa using hz
    have t2:(stepC a b 7 != 0)=true:=by simpa using hz
    clear HF hz
    generalize stepC a b 7=z at S t1 t2 HZ
    go_wp2_with (go_at_call 207;go_must (refine (S () (Lib.hid trivial)).mono ?_);rintro e w2 ⟨rfl,hb2⟩;have HB2:=Lib.hid (below_keep2 HW.out hb2);clear hb2)
    go_ret
    exact ⟨by rw [← HZ.out];rfl,below_of_two HB2.out⟩
end Go.Proofs.YtfdbcfaeiglbeaaGreatDoor
