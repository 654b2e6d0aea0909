/-
 BloomW2.
-/
import Derived.Test.YtfdbcfaeiglbeaaGreatDoorRZ9
namespace Go.Proofs.YtfdbcfaeiglbeaaGreatDoor
open Go.RowKit
set_option maxRecDepth 100000 in
set_option maxHeartbeats 400000 in
theorem bit_any (l:List UInt8) (A:Option Addr) (n c fb at':Nat) (w:World) (hm:n≤9223372036854775807) (hr:RB w w.heap.size A n l) (hf:w.cell? ⟨fb,0,none⟩=some (.slice A n c)) (h1:at' < 20971520) (h2:6 + at' / 8 < n) :
  Calls Tryz.prog 159 #[.int .u32 at',.pointer (some ⟨fb,0,none⟩)] w fun e w'=>e = .returned (.bool (bitAt l at'))∧w=w':=by
 obtain ⟨b,o,x,rfl,hb,hx,hc⟩:=hr.at_ h2
 have H:Hid (bitAt l at'=(bits .and .u8 (x.toNat:Int) ((128:Int) / 2 ^ (at' % 8)) != 0)):=Lib.hid (by
  rw [bit_walk];unfold bitAt;rw [hx];rfl)
 go_enter Tryz.func159,Tryz.ntmps159
 go_wp2
 go_ret
 exact ⟨ret_bool H.out.symm,rfl⟩
set_option maxRecDepth 100000 in
set_option maxHeartbeats 400000 in
theorem set_any (l:List UInt8) (base g n c fb at':Nat) (w:World) (hf:w.cell? ⟨fb,0,none⟩=some (.slice (some ⟨g,0,none⟩) n c)) (h1:at' < 20971520) (h2:6 + at' / 8 < n)
     (hown:w.ownsRow base 5 1 (.slice (some ⟨g,0,none⟩) n c) n (u8s l)) :
    Calls Tryz.prog 169 #[.int .u32 at',.pointer (some ⟨fb,0,none⟩)] w fun e w'=>e = .returned (.bool true)∧w'.ownsRow base 5 1 (.slice (some ⟨g,0,none⟩) n c) n (u8s (setBit l at'))∧w.grownBy w' (some g):=by
  have hll:l.length=n:=by have:=hown.1;rw [u8s_length] at this;omega
  obtain ⟨x,hx⟩:∃ x,l[6 + at' / 8]?=some x:=⟨_,List.getElem?_eq_getElem (by omega)⟩
  have hc:=(hown.cellAt (6 + at' / 8) (by omega)).trans (u8s_at hx)
  have hfr:=hown.frozenAt (6 + at' / 8)
  have hnc:n≤c:=by
    rcases hown.2 with ⟨h,_⟩ | ⟨_,_,_,h,_,_,h',_⟩
    · cases h
    · injection h with _ _ h;omega
  have hst:=hown.stored (6 + at' / 8) (.int .u8 (bits .or .u8 (x.toNat:Int) ((128:Int) / 2 ^ (at' % 8))))
  have e:(u8s l).set (6 + at' / 8) (.int .u8 (bits .or .u8 (x.toNat:Int) ((128:Int) / 2 ^ (at' % 8))))=u8s (setBit l at'):=by
    rw [orBit_walk]
    unfold setBit u8s
    rw [List.map_set,hx];rfl
  rw [e] at hst
  have H:=Lib.hid hst
  clear e hst hown
  go_enter Tryz.func169,Tryz.ntmps169
  go_wp2
  go_ret
  exact ⟨rfl,H.out.1,H.out.2⟩
theorem step_next (l:List UInt8) (k:Nat):((hHi l + k * hLo l) % 4294967296 + hLo l) % 4294967296=(hHi l + (k + 1) * hLo l) % 4294967296:=by
 rw [Nat.mod_add_mod,Nat.succ_mul,Nat.add_assoc]
set_option maxRecDepth 100000 in
set_option maxHeartbeats 1000000 in
theorem each_has (l key:List UInt8) (A Ak:Option Addr) (n c nk ck fb p m:Nat) (w:World) (hm:n≤9223372036854775807) (hr:RB w w.heap.size A n l) (hf:w.cell? ⟨fb,0,none⟩=some (.slice A n c))
  (hmk:nk≤9223372036854775807) (hk:RB w w.heap.size Ak nk key) (hp:p≤14) (h0:0 < m) (h1:m≤20971520) (h2:6 + m / 8=n) (h3:m % 8=0) :
  Calls Tryz.prog 158 #[.agg #[.int .i64 p,.int .u32 m],.slice Ak nk ck,.func (.func 159) #[] #[.pointer (some ⟨fb,0,none⟩)]] w fun e w'=>e = .returned (.bool ((placesN key p m).all (bitAt l)))∧Below w.heap.size w w':=by
 have HK:Hid (∀ w',Below w.heap.size w w'→RB w' w'.heap.size Ak nk key):=Lib.hid fun w' h=>hk.later h
 have HR:Hid (∀ w',Below w.heap.size w w'→RB w' w'.heap.size A n l):=Lib.hid fun w' h=>hr.later h
 have hfb:=World.block_lt_of_cell? _ _ hf
 dsimp only at hfb
 clear hk hr
 go_enter Tryz.func158,Tryz.ntmps158
 go_wp2_with (go_at_call 208;refine (halves_any key Ak nk ck _ hmk (HK.out _ ((Below.refl _ _).alloc (Nat.le_refl _) _))).mono ?_;rintro e w1 ⟨rfl,hb1⟩;obtain ⟨hc1,hf1,hs1⟩:=bcells hb1;simp only [World.size_alloc] at hc1 hf1 hs1)
 have HB:Hid (Below w.heap.size w (w1.alloc (.cells #[.int .u32 (hHi key),.int .u32 (hLo key)] 278))):=Lib.hid ((((Below.refl _ _).alloc (Nat.le_refl _) _).trans (hb1.mono (by simp))).alloc (by have:=hb1.size;simp at this;omega) _)
 have hfb1:=hs1 fb (by omega)
 have hfc:w1.cell? ⟨fb,0,none⟩=some (.slice A n c):=by rw [hc1 fb 0 (by omega),World.cell?_alloc_lt _ _ _ hfb,hf]
 have hs0:=hs1 w.heap.size (by omega)
 have hm0:w1.cell? ⟨w.heap.size,1,none⟩=some (.int .u32 m):=by rw [hc1 _ 1 (by omega)];simp
 have hlo:=hLo_lt key
 clear hc1 hf1 hs1 hb1
 go_loop [8,15] (fun x i=>∃ k:Nat,k≤p∧i = .int .i64 k∧∃ X:Nat,X < 4294967296∧x = .int .u32 X∧Hid (X=(hHi key + k * hLo key) % 4294967296)∧Hid ((placesN key k m).all (bitAt l)=true)) (fun _ i=>p - (intOf i).toNat)
 case atStart=>exact ⟨0,Nat.zero_le _,rfl,hHi key,hHi_lt key,rfl,Lib.hid (by rw [Nat.zero_mul,Nat.add_zero,Nat.mod_eq_of_lt (hHi_lt key)]),Lib.hid rfl⟩
 case round =>
  obtain ⟨k,hkp,rfl,X,hX,rfl,HX,HA⟩:=hrel
  by_cases hlt:k < p
  case neg =>
   have e:k=p:=by omega
   have HE:Hid ((placesN key p m).all (bitAt l)=true):=Lib.hid (e ▸ HA.out)
   go_wp2
   go_ret
   exact ⟨ret_bool HE.out.symm,HB.out⟩
  have hpl:placeN key m k=X % m:=by unfold placeN;rw [← HX.out]
  have hpm:X % m < m:=Nat.mod_lt _ h0
  have HN:Hid ((placesN key (k + 1) m).all (bitAt l)=((placesN key k m).all (bitAt l) && bitAt l (X % m))):=Lib.hid (by
   rw [placesN_succ,List.all_append,hpl];simp)
  have HF1:Hid ((w1.alloc (.cells #[.int .u32 (hHi key),.int .u32 (hLo key)] 278)).cell? ⟨fb,0,none⟩=some (.slice A n c)):=Lib.hid ((World.cell?_alloc_lt _ _ _ hfb1).trans hfc)
  have HF2:Hid (X % m < 20971520):=Lib.hid (by omega)
  have HF3:Hid (6 + X % m / 8 < n):=Lib.hid (by omega)
  cases hbit:bitAt l (X % m)
  ·have Hb:=Lib.hid hbit
   have HF:Hid ((placesN key p m).all (bitAt l)=false):=Lib.hid (by
    rw [List.all_eq_false]
    refine ⟨placeN key m k,List.mem_map.2 ⟨k,List.mem_range.2 hlt,rfl⟩,by rw [hpl,hbit];simp⟩)
   clear hbit hpl
   go_wp2_with (go_at_call 159;rw [← Int.natCast_emod];refine (bit_any l A n c fb (X % m) _ hm (HR.out _ HB.out) HF1.out HF2.out HF3.out).mono ?_;rw [Hb.out];rintro e w' ⟨rfl,rfl⟩)
   go_ret
   exact ⟨ret_bool HF.out.symm,HB.out⟩
  ·have Hb:=Lib.hid hbit
   clear hbit hpl
   go_wp2_with (go_at_call 159;rw [← Int.natCast_emod];refine (bit_any l A n c fb (X % m) _ hm (HR.out _ HB.out) HF1.out HF2.out HF3.out).mono ?_;rw [Hb.out];rintro e w' ⟨rfl,rfl⟩)
   go_round
   case rel=>exact ⟨k + 1,by omega,by go_num,(X + hLo key) % 4294967296,Nat.mod_lt _ (by decide),congrArg (Value.int .u32) (by omega),Lib.hid (by rw [HX.out,step_next]),Lib.hid (by rw [HN.out,HA.out,Hb.out];rfl)⟩
   case measure=>simp [intOf];omega
set_option maxRecDepth 100000 in
set_option maxHeartbeats 1000000 in
theorem each_set (l key:List UInt8) (Ak:Option Addr) (base g n c nk ck fb p m:Nat) (w:World) (hf:w.cell? ⟨fb,0,none⟩=some (.slice (some ⟨g,0,none⟩) n c)) (hfg:fb ≠ g)
  (hown:w.ownsRow base 5 1 (.slice (some ⟨g,0,none⟩) n c) n (u8s l))
  (hmk:nk≤9223372036854775807) (hk:RB w w.heap.size Ak nk key) (hp:p≤14) (h0:0 < m) (h1:m≤20971520) (h2:6 + m / 8=n) (h3:m % 8=0) :
  Calls Tryz.prog 158 #[.agg #[.int .i64 p,.int .u32 m],.slice Ak nk ck,.func (.func 169) #[] #[.pointer (some ⟨fb,0,none⟩)]] w fun e w'=>e = .returned (.bool true)∧w'.ownsRow base 5 1 (.slice (some ⟨g,0,none⟩) n c) n (u8s (setAll l (placesN key p m)))∧w.grownBy w' (some g):=by
 have HK:Hid (∀ w',Below w.heap.size w w'→RB w' w'.heap.size Ak nk key):=Lib.hid fun w' h=>hk.later h
 have hfb:=World.block_lt_of_cell? _ _ hf
 dsimp only at hfb
 have hgl:g < w.heap.size:=(hown.lt g rfl).2
 have HO:=Lib.hid hown
 clear hk hown
 go_enter Tryz.func158,Tryz.ntmps158
 go_wp2_with (go_at_call 208;refine (halves_any key Ak nk ck _ hmk (HK.out _ ((Below.refl _ _).alloc (Nat.le_refl _) _))).mono ?_;rintro e w1 ⟨rfl,hb1⟩;obtain ⟨hc1,hf1,hs1⟩:=bcells hb1;simp only [World.size_alloc] at hc1 hf1 hs1)
 have HB:Hid (Below w.heap.size w (w1.alloc (.cells #[.int .u32 (hHi key),.int .u32 (hLo key)] 278))):=Lib.hid ((((Below.refl _ _).alloc (Nat.le_refl _) _).trans (hb1.mono (by simp))).alloc (by have:=hb1.size;simp at this;omega) _)
 have hfb1:=hs1 fb (by omega)
 have hg1:=hs1 g (by omega)
 have hfc:w1.cell? ⟨fb,0,none⟩=some (.slice (some ⟨g,0,none⟩) n c):=by rw [hc1 fb 0 (by omega),World.cell?_alloc_lt _ _ _ hfb,hf]
 have hs0:=hs1 w.heap.size (by omega)
 have hm0:w1.cell? ⟨w.heap.size,1,none⟩=some (.int .u32 m):=by rw [hc1 _ 1 (by omega)];simp
 have hlo:=hLo_lt key
 have HO1:=Lib.hid (own_below HO.out HB.out)
 have HG:=Lib.hid (below_grown HB.out (some g))
 have q1:(w1.alloc (.cells #[.int .u32 (hHi key),.int .u32 (hLo key)] 278)).cell? ⟨fb,0,none⟩=some (.slice (some ⟨g,0,none⟩) n c):=(World.cell?_alloc_lt _ _ _ hfb1).trans hfc
 have q2:(w1.alloc (.cells #[.int .u32 (hHi key),.int .u32 (hLo key)] 278)).cell? ⟨w.heap.size,1,none⟩=some (.int .u32 m):=(World.cell?_alloc_lt _ _ _ hs0).trans hm0
 have q3:(w1.alloc (.cells #[.int .u32 (hHi key),.int .u32 (hLo key)] 278)).cell? ⟨w1.heap.size,1,none⟩=some (.int .u32 (hLo key)):=by simp
 clear hc1 hf1 hs1 hb1 HO HK
 go_loopw [8,15] (fun x i wr=>∃ k:Nat,k≤p∧i = .int .i64 k∧∃ X:Nat,X < 4294967296∧x = .int .u32 X∧Hid (X=(hHi key + k * hLo key) % 4294967296)∧wr.ownsRow base 5 1 (.slice (some ⟨g,0,none⟩) n c) n (u8s (setAll l (placesN key k m)))∧w.grownBy wr (some g) ∧
   wr.cell? ⟨fb,0,none⟩=some (.slice (some ⟨g,0,none⟩) n c)∧wr.cell? ⟨w.heap.size,1,none⟩=some (.int .u32 m)∧wr.cell? ⟨w1.heap.size,1,none⟩=some (.int .u32 (hLo key))) (fun _ i _=>p - (intOf i).toNat)
 case atStart=>exact ⟨0,Nat.zero_le _,rfl,hHi key,hHi_lt key,rfl,Lib.hid (by rw [Nat.zero_mul,Nat.add_zero,Nat.mod_eq_of_lt (hHi_lt key)]),HO1.out,HG.out,q1,q2,q3⟩
 case round =>
  obtain ⟨k,hkp,rfl,X,hX,rfl,HX,hO,hG,c1,c2,c3⟩:=hrel
  clear q1 q2 q3
  by_cases hlt:k < p
  case neg =>
   have e:k=p:=by omega
   subst e
   go_wp2
   go_ret
   exact ⟨rfl,hO,hG⟩
  have HN:Hid (setAll l (placesN key (k + 1) m)=setBit (setAll l (placesN key k m)) (X % m)):=Lib.hid (by
   rw [placesN_succ,setAll_snoc,show placeN key m k=X % m from by unfold placeN;rw [← HX.out]])
  have hpm:X % m < m:=Nat.mod_lt _ h0
  have HF2:Hid (X % m < 20971520):=Lib.hid (by omega)
  have HF3:Hid (6 + X % m / 8 < n):=Lib.hid (by omega)
  go_wp2_with (go_at_call 169;rw [← Int.natCast_emod];refine (set_any _ base g n c fb (X % m) _ c1 HF2.out HF3.out hO).mono ?_;rintro e w2 ⟨rfl,hO2,hG2⟩;have d1:=hG2.cell c1 (by simpa using hfg);have d2:=hG2.cell c2 (by simp;omega);have d3:=hG2.cell c3 (by simp;omega))
  have hO3:w2.ownsRow base 5 1 (.slice (some ⟨g,0,none⟩) n c) n (u8s (setAll l (placesN key (k + 1) m))):=by rw [HN.out];exact hO2
  have hG3:=grown_trans hG hG2
  clear hO2 hO hG2 hG c1 c2 c3
  go_roundw
  case rel=>exact ⟨k + 1,by omega,by go_num,(X + hLo key) % 4294967296,Nat.mod_lt _ (by decide),congrArg (Value.int .u32) (by omega),Lib.hid (by rw [HX.out,step_next]),hO3,hG3,d1,d2,d3⟩
  case measure=>simp [intOf];omega
end Go.Proofs.YtfdbcfaeiglbeaaGreatDoor
