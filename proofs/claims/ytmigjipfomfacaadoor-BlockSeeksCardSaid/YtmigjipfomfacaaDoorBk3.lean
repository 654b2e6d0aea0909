/-
  Laid together by merge.py: WireR1, WireW13, WireR3, WireR4, CellR2, CellR3, CellR4, WireR2, CellR6, CellP4, CellW9, Kit15, BlockL1, BlockP, WireP10, WireR5, CellR7, Kit16, Kit17, Kit18, Kit19, Kit20, Kit21, Kit22, Kit23, Kit30.
-/
import Derived.Test.YtmigjipfomfacaaDoorBk1
import Derived.Test.YtmigjipfomfacaaDoorBk2
import Derived.Deep.CutRange
import Derived.Deep.DeepCutAuto
import Derived.Lib.SlBytesConst
import Derived.Deep.RegionWith
import Derived.StillTailTactics
import Derived.Deep.RegionHeld3
import Derived.Deep.MidRow
import Derived.Great.BuildSlice

/-
  The reference's Part, Same, Uint, outside, ReadUint, Bytes, ReadBytes, walked.
-/
namespace Go.Proofs.YtmigjipfomfacaaDoor
open Go.RowKit

theorem Sl.cut {w : World} {A : Option Addr} {n c lo hi : Nat} {l : List UInt8} (h : Sl w A n c l) (h1 : lo ≤ hi) (h2 : hi ≤ n) (hc : lo < c) : Sl w (A.map (·.add lo)) (hi - lo) (c - lo) (cutS l lo (hi - lo)) := by
  have h3 := (h.drop (k := lo) (by omega) hc).take (m := hi - lo) (by omega)
  exact h3

theorem u8v_rem (V : Nat) : u8v (UInt8.ofNat (V % 128 + 128)) = .int .u8 (128 + (V : Int) % 128) := by
  unfold u8v
  rw [UInt8.toNat_ofNat', Nat.mod_eq_of_lt (by omega)]; congr 1; omega

set_option maxRecDepth 100000 in
set_option maxHeartbeats 1000000 in
theorem rUint_any (v : Nat) (w : World) (hv : v < 18446744073709551616) : Calls Tryd.prog 58 #[.int .u64 v] w (BytesPost 5 (uintB v) w) := by
  have HL := Lib.hid (uintB_ten hv)
  have HV := Lib.hid hv
  clear hv
  go_enter Tryd.func58, Tryd.ntmps58
  go_wp2
  go_loopw [0, 3] (fun x b wr => ∃ (V : Nat) (pre : List UInt8), V < 18446744073709551616 ∧ x = .int .u64 V ∧ Hid (pre ++ uintB V = uintB v) ∧ Hid (pre.length ≤ 10) ∧ wr.ownsRow w.heap.size 5 1 b pre.length (u8s pre) ∧ Hid (Below w.heap.size w wr)) (fun x _ _ => (intOf x).toNat)
  case atStart => exact ⟨v, [], HV.out, rfl, Lib.hid rfl, Lib.hid (by simp), own_nil _ _ _ _, Lib.hid (Below.refl _ _)⟩
  case round =>
    obtain ⟨V, pre, hV2, rfl, HP, HPL, hown, HB⟩ := hrel
    by_cases h : 128 ≤ V
    · have hd : decide ((127 : Int) < (V : Int)) = true := decide_eq_true (by omega)
      have hm1 : (V : Int) % 128 < 128 := by omega
      have hm0 : 0 ≤ (V : Int) % 128 := by omega
      have hm2 : (128 + (V : Int) % 128) % 256 = 128 + (V : Int) % 128 := by omega
      have H8 := Lib.hid (u8v_rem V)
      have HN : Hid ((pre ++ [UInt8.ofNat (V % 128 + 128)]) ++ uintB (V / 128) = uintB v) := Lib.hid (by rw [← HP.out, uintB_ge h]; simp)
      have HNL : Hid ((pre ++ [UInt8.ofNat (V % 128 + 128)]).length ≤ 10) := Lib.hid (by
        have := congrArg List.length HN.out
        rw [List.length_append] at this
        have := HL.out
        omega)
      obtain ⟨bv, hb⟩ : ∃ bv, bv = u3 := ⟨_, rfl⟩
      rw [← hb] at hown ⊢
      clear hb
      go_wp2_with (at_builtin; go_must (refine wpList_append_reads _ rfl (.tmp 6) (.tmp 11) rfl Tryd.u8s' w.heap.size bv pre.length (u8s pre) rfl (hown.alloc _) (wr.heap.size + 1) (some ⟨wr.heap.size, 0, none⟩) 1 1 (u8s [UInt8.ofNat (V % 128 + 128)]) rfl (by exact reads_lit wr _ [UInt8.ofNat (V % 128 + 128)] _ _ (by show _ = [u8v _]; rw [H8.out])) (u8s_one _) (by have := HPL.out; unfold maxLen; omega) (by have := HPL.out; omega) (by have := HB.out.size; simp; omega) ?_); intro v1 w1 hown1 hg1 hat1)
      have hB : w.heap.size ≤ (wr.alloc (.cells #[.int .u8 (128 + (V : Int) % 128)] 5)).heap.size := by have := HB.out.size; simp; omega
      have HB1 := Lib.hid (below_app (HB.out.alloc HB.out.size _) (hown.alloc _) hg1 hB (Nat.le_refl _))
      rw [← u8s_append] at hown1
      have hO1 : w1.ownsRow w.heap.size 5 1 v1 (pre ++ [UInt8.ofNat (V % 128 + 128)]).length (u8s (pre ++ [UInt8.ofNat (V % 128 + 128)])) := by
        rw [List.length_append]; exact hown1
      clear hown hown1 hg1 hat1 hB hm2
      go_roundw
      case rel => exact ⟨V / 128, _, by omega, by rw [Int.natCast_ediv]; rfl, HN, HNL, hO1, HB1⟩
      case measure => simp [intOf]; omega
    · have hd : decide ((127 : Int) < (V : Int)) = false := decide_eq_false (by omega)
      have hm : (V : Int) % 256 = (V : Int) := by omega
      have H8 : Hid (u8v (UInt8.ofNat V) = .int .u8 (V : Int)) := Lib.hid (by
        unfold u8v
        rw [UInt8.toNat_ofNat', Nat.mod_eq_of_lt (by omega)])
      have HN : Hid (pre ++ [UInt8.ofNat V] = uintB v) := Lib.hid (by rw [← HP.out, uintB_lt (by omega)])
      obtain ⟨bv, hb⟩ : ∃ bv, bv = u3 := ⟨_, rfl⟩
      rw [← hb] at hown ⊢
      clear hb
      go_wp2_with (at_builtin; go_must (refine wpList_append_reads _ rfl (.tmp 15) (.tmp 18) rfl Tryd.u8s' w.heap.size bv pre.length (u8s pre) rfl (hown.alloc _) (wr.heap.size + 1) (some ⟨wr.heap.size, 0, none⟩) 1 1 (u8s [UInt8.ofNat V]) rfl (by exact reads_lit wr _ [UInt8.ofNat V] _ _ (by show _ = [u8v _]; rw [H8.out])) (u8s_one _) (by have := HPL.out; unfold maxLen; omega) (by have := HPL.out; omega) (by have := HB.out.size; simp; omega) ?_); intro v1 w1 hown1 hg1 hat1)
      go_ret
      have hB : w.heap.size ≤ (wr.alloc (.cells #[.int .u8 (V : Int)] 5)).heap.size := by have := HB.out.size; simp; omega
      have HB1 := below_app (HB.out.alloc HB.out.size _) (hown.alloc _) hg1 hB (Nat.le_refl _)
      rw [← u8s_append, HN.out] at hown1
      exact bytes_post hown1 HB1

theorem rUint_of (v : Nat) (a : Int) (ha : a = (v : Int)) (w : World) (hv : v < 18446744073709551616) : Calls Tryd.prog 58 #[.int .u64 a] w (BytesPost 5 (uintB v) w) := by
  subst ha
  exact rUint_any v w hv

set_option maxRecDepth 100000 in
set_option maxHeartbeats 400000 in
theorem rBytes_any (l : List UInt8) (A : Option Addr) (n c : Nat) (w : World) (hn : n ≤ 140737488355318) (hr : RB w w.heap.size A n l) :
    Calls Tryd.prog 59 #[.slice A n c] w (BytesPost 5 (uintB l.length ++ l) w) := by
  have HR : Hid (∀ w', Below w.heap.size w w' → RB w' w'.heap.size A n l) := Lib.hid fun w' h => hr.later h
  have HL := Lib.hid hr.len
  have HU := Lib.hid (uintB_ten (v := n) (by omega))
  clear hr
  go_enter Tryd.func59, Tryd.ntmps59
  go_wp2_with (first
    | (go_at_call 58; go_must (refine (rUint_of n _ (by omega) _ (by omega)).mono ?_); rintro e w1 ⟨A1, c1, rfl, hO1, hb1⟩; have HB1 := Lib.hid hb1; have HO1 := Lib.hid hO1; clear hb1 hO1)
    | (at_builtin; go_must (refine wpList_append_reads _ rfl (.tmp 6) (.tmp 7) rfl Tryd.u8s' w.heap.size (.slice A1 (uintB n).length c1) (uintB n).length (u8s (uintB n)) rfl HO1.out _ A n c (u8s l) rfl (HR.out _ HB1.out) (u8s_one _) (by have := HU.out; unfold maxLen; omega) (by have := HU.out; omega) HB1.out.size ?_); intro v2 w2 hown2 hg2 hat2))
  go_ret
  rw [← u8s_append] at hown2
  rw [HL.out]
  exact bytes_post hown2 (below_app HB1.out HO1.out hg2 HB1.out.size (Nat.le_refl _))

theorem ref_mul (U x : Nat) (hU : U ≤ 72057594037927936) (hx : x < 128) : U * x < 9223372036854775808 := by
  have h1 : x ≤ 127 := by omega
  have := Nat.mul_le_mul hU h1
  omega
theorem ref_step (V U j x : Nat) (hj : j ≤ 8) (hU : U = 2 ^ (7 * j)) (hV : V < U) :
    IntKind.u64.wrap ((U : Int) * ((x : Int) % 128)) = ((U * (x % 128) : Nat) : Int) ∧ IntKind.u64.wrap ((V : Int) + ((U * (x % 128) : Nat) : Int)) = ((V + x % 128 * 2 ^ (7 * j) : Nat) : Int) ∧ IntKind.u64.wrap ((U : Int) * 128) = ((U * 128 : Nat) : Int) ∧ V + x % 128 * 2 ^ (7 * j) < U * 128 ∧ U * 128 = 2 ^ (7 * (j + 1)) := by
  have h1 := pow7_le hj
  rw [← hU] at h1
  have h2 : x % 128 < 128 := Nat.mod_lt _ (by decide)
  have h3 := ref_mul U (x % 128) h1 h2
  have e1 : (U : Int) * ((x : Int) % 128) = ((U * (x % 128) : Nat) : Int) := by rw [Int.natCast_mul, Int.natCast_emod]; rfl
  have e2 : x % 128 * 2 ^ (7 * j) = U * (x % 128) := by rw [← hU, Nat.mul_comm]
  rw [e1, e2]
  have h4 : U * (x % 128) ≤ U * 127 := Nat.mul_le_mul_left _ (by omega)
  refine ⟨?_, ?_, ?_, ?_, ?_⟩
  · rw [IntKind.wrap_u64]; omega
  · rw [IntKind.wrap_u64]; omega
  · rw [IntKind.wrap_u64]; omega
  · omega
  · rw [hU, pow7_step]; omega
theorem ref_last (V x : Nat) (hx : x ≤ 1) (hV : V < 9223372036854775808) :
    IntKind.u64.wrap ((9223372036854775808 : Int) * ((x : Int) % 128)) = ((9223372036854775808 * (x % 128) : Nat) : Int) ∧ IntKind.u64.wrap ((V : Int) + ((9223372036854775808 * (x % 128) : Nat) : Int)) = ((V + x % 128 * 2 ^ (7 * 9) : Nat) : Int) := by
  rw [show (2 : Nat) ^ (7 * 9) = 9223372036854775808 from by decide]
  constructor
  · rw [IntKind.wrap_u64]; omega
  · rw [IntKind.wrap_u64]; omega

end Go.Proofs.YtmigjipfomfacaaDoor

/-
  The statements' written, walked.
-/
namespace Go.Proofs.YtmigjipfomfacaaDoor
open Go.RowKit

theorem rTo_len8 (v : Nat) : (risB v).length = 8 := rTo_len v 8
theorem own_lit (w : World) (C : Array Value) (e : TypeId) (base n size : Nat) (hb : base ≤ w.heap.size) (hm : n ≤ maxLen) (hs : C.size = n * size) : (w.alloc (.cells C e)).ownsRow base e size (.slice (some ⟨w.heap.size, 0, none⟩) n n) n C.toList :=
  ⟨by rw [Array.length_toList]; exact hs, .inr ⟨w.heap.size, n, C, rfl, hb, heap_alloc_new w _, Nat.le_refl _, hm, hs, by rw [← hs, ← Array.length_toList, List.take_length]⟩⟩
theorem OwnB.kept13 {T : TypeId} {base g : Nat} {w w' : World} {A : Option Addr} {c : Nat} {l : List UInt8} (h : OwnB T base w A c l) (hg : w.grownBy w' (some g)) (hlt : g < base) : OwnB T base w' A c l := by
  refine World.ownsRow.kept h hg ?_
  cases A with
  | none => exact .inl rfl
  | some a =>
    refine .inr fun e => ?_
    have := (World.ownsRow.lt h a.block rfl).1
    injection e with e
    omega
/-- A slice that reads, behind an append to a younger row. -/
theorem Sl.over {w x y : World} {A : Option Addr} {n c g : Nat} {l : List UInt8} (h : Sl w A n c l) (hb : Below w.heap.size w x) (hg : x.grownBy y (some g)) (hle : w.heap.size ≤ g) : Sl y A n c l :=
  ⟨Reads.more (Reads.grown (h.rb.below hb) hg hb.size (fun _ e => by injection e with e; omega)) (Nat.le_trans hb.size hg.size), h.cap, h.lim, h.nil⟩
/-- What is written of a number and of bytes; by which Read it is read. -/
def wB (v : Nat) (l : List UInt8) : Nat → List UInt8
  | 0 => uintB v
  | 1 => risB (v / 2)
  | 2 => risB (9223372036854775807 - v / 2)
  | 3 => uintB l.length ++ l
  | 4 => ordB l
  | _ => frameB l
def wK : Nat → Int
  | 0 => 2
  | 1 => 6
  | 2 => 8
  | 3 => 4
  | 4 => 10
  | _ => 13
end Go.Proofs.YtmigjipfomfacaaDoor

/-
  The reference's eight, number, Rising, ReadRising, Falling, ReadFalling, ReadOrdered, walked.
-/
namespace Go.Proofs.YtmigjipfomfacaaDoor
open Go.RowKit

def eB (v : Nat) : Nat → List UInt8
  | 0 => []
  | i + 1 => UInt8.ofNat (v / 256 ^ i) :: eB v i
theorem eB_len (v : Nat) : ∀ i, (eB v i).length = i
  | 0 => rfl
  | i + 1 => by show (eB v i).length + 1 = _; rw [eB_len v i]
theorem eB_ris (v : Nat) : eB v 8 = risB v := by simp [eB, risB, rTo, List.range_succ]

set_option maxRecDepth 100000 in
set_option maxHeartbeats 1000000 in
theorem eight_any (v : Nat) (w : World) (hv : v < 18446744073709551616) : Calls Tryd.prog 115 #[.int .u64 v] w (BytesPost 5 (risB v) w) := by
  go_enter Tryd.func115, Tryd.ntmps115
  go_wp2
  go_loopw [0, 3, 4] (fun x b i wr => ∃ (j V : Nat), j ≤ 8 ∧ i = .int .i64 j ∧ Hid (V = v / 256 ^ j) ∧ V < 18446744073709551616 ∧ x = .int .u64 V ∧ wr.ownsRow w.heap.size 5 1 b j (u8s (eB v j)) ∧ Hid (Below w.heap.size w wr)) (fun _ _ i _ => 8 - (intOf i).toNat)
  case atStart => exact ⟨0, v, by omega, rfl, Lib.hid (by simp), hv, rfl, own_nil _ _ _ _, Lib.hid (Below.refl _ _)⟩
  case round =>
    obtain ⟨j, V, hj, rfl, HV, hV, rfl, hown, HB⟩ := hrel
    by_cases hlt : j < 8
    case neg =>
      obtain rfl : j = 8 := by omega
      have hd : decide ((8 : Int) < 8) = false := by decide
      rw [eB_ris] at hown
      have HP := Lib.hid (bytes_post hown HB.out)
      clear hown
      go_wp2
      go_ret
      exact HP.out
    have hd : decide ((j : Int) < 8) = true := decide_eq_true (by omega)
    obtain ⟨A, c, hbv, hl1, hl2, _, hrl⟩ := own_slice hown
    subst hbv
    have hm0 : 0 ≤ (V : Int) % 256 := by omega
    have hm1 : (V : Int) % 256 < 256 := by omega
    have HR := Lib.hid hrl
    have hB : w.heap.size ≤ wr.heap.size := HB.out.size
    have HC : Hid (u8s [UInt8.ofNat V] = [.int .u8 ((V : Int) % 256)]) := Lib.hid (by show [u8v _] = _; rw [u8v_mod])
    have HO : Hid ((wr.alloc (.cells #[.int .u8 ((V : Int) % 256)] 5)).ownsRow w.heap.size 5 1 (.slice (some ⟨wr.heap.size, 0, none⟩) 1 1) 1 (u8s [UInt8.ofNat V])) := Lib.hid (by rw [HC.out]; exact own_lit wr #[.int .u8 ((V : Int) % 256)] 5 w.heap.size 1 1 hB (by decide) rfl)
    have HN : Hid (u8s [UInt8.ofNat V] ++ u8s (eB v j) = u8s (eB v (j + 1))) := Lib.hid (by rw [HV.out, ← u8s_append]; rfl)
    clear hown hrl hl1 hl2
    go_wp2_with (at_builtin; go_must (refine wpList_append_reads _ rfl (.tmp 12) (.tmp 13) rfl Tryd.u8s' w.heap.size (.slice (some ⟨wr.heap.size, 0, none⟩) 1 1) 1 (u8s [UInt8.ofNat V]) rfl HO.out wr.heap.size A j c (u8s (eB v j)) rfl (Reads.alloc HR.out (Nat.le_refl _) _) (u8s_one _) (by unfold maxLen; omega) (by omega) (by have := HB.out.size; simp; omega) ?_); intro v1 w1 hown1 hg1 hat1; have HB1 := Lib.hid (below_app (HB.out.alloc HB.out.size (.cells #[.int .u8 ((V : Int) % 256)] 5)) HO.out hg1 (by have := HB.out.size; simp; omega) (Nat.le_refl _)); rw [HN.out] at hown1; have HO1 := Lib.hid hown1; clear hown1 hg1 hat1)
    have HV2 : Hid (V / 256 = v / 256 ^ (j + 1)) := Lib.hid (by rw [HV.out, Nat.pow_succ, Nat.div_div_eq_div_mul])
    have hO1 : w1.ownsRow w.heap.size 5 1 v1 (j + 1) (u8s (eB v (j + 1))) := by
      have := HO1.out
      rw [Nat.add_comm 1 j] at this
      exact this
    clear HO1 hB
    go_roundw
    case rel => exact ⟨j + 1, V / 256, by omega, by go_num, HV2, by omega, by rw [Int.natCast_ediv]; rfl, hO1, HB1⟩
    case measure => simp [intOf]; omega
theorem eight_of (v : Nat) (a : Int) (ha : a = (v : Int)) (w : World) (hv : v < 18446744073709551616) : Calls Tryd.prog 115 #[.int .u64 a] w (BytesPost 5 (risB v) w) := by
  subst ha; exact eight_any v w hv

theorem big_bound (l : List UInt8) (_m : Nat) (h : l.length ≤ 7) : big l < 72057594037927936 := by
  have h1 := big_lt l
  have h2 := Nat.pow_le_pow_right (show 0 < 256 by decide) h
  have h3 : (256 : Nat) ^ 7 = 72057594037927936 := by decide
  omega
set_option maxRecDepth 100000 in
theorem rRising_neg (z : Int) (w : World) (hz : z < 0) : Calls Tryd.prog 112 #[.int .i64 z] w (BytesPost2 5 [] 1 w) := by
  have hd : decide (z < 0) = true := decide_eq_true hz
  go_enter Tryd.func112, Tryd.ntmps112
  go_wp2
  go_ret2
  exact bytes_none2 (Below.refl _ _)
set_option maxRecDepth 100000 in
theorem rRising_any (v : Nat) (w : World) (hv : v < 9223372036854775808) : Calls Tryd.prog 112 #[.int .i64 v] w (BytesPost2 5 (risB v) 0 w) := by
  have hd : decide ((v : Int) < 0) = false := decide_eq_false (by omega)
  have e1 : IntKind.u64.wrap (v : Int) = (v : Int) := by rw [IntKind.wrap_u64]; omega
  go_enter Tryd.func112, Tryd.ntmps112
  go_wp2_with (go_at_call 115; go_must (refine (eight_of v _ (by omega) _ (by omega)).mono ?_); rintro e w1 ⟨A1, c1, rfl, hO1, hb1⟩)
  go_ret2
  exact ⟨A1, c1, rfl, hO1, hb1⟩

theorem big_most {l : List UInt8} (h : l.length = 8) (h0 : 127 < (l[0]?.getD 0).toNat) : 9223372036854775807 < big l := by
  match l, h with
  | c :: t, h =>
    rw [big_cons]
    have ht : t.length = 7 := by simpa using h
    have hc : 127 < c.toNat := by simpa using h0
    rw [ht]
    have h3 : (256 : Nat) ^ 7 = 72057594037927936 := by decide
    rw [h3]
    omega

set_option maxRecDepth 100000 in
theorem rFalling_neg (z : Int) (w : World) (hz : z < 0) : Calls Tryd.prog 98 #[.int .i64 z] w (BytesPost2 5 [] 1 w) := by
  have hd : decide (z < 0) = true := decide_eq_true hz
  go_enter Tryd.func98, Tryd.ntmps98
  go_wp2
  go_ret2
  exact bytes_none2 (Below.refl _ _)
set_option maxRecDepth 100000 in
theorem rFalling_any (v : Nat) (w : World) (hv : v < 9223372036854775808) : Calls Tryd.prog 98 #[.int .i64 v] w (BytesPost2 5 (risB (9223372036854775807 - v)) 0 w) := by
  have hd : decide ((v : Int) < 0) = false := decide_eq_false (by omega)
  have HC : Hid (∀ z : Int, z = 9223372036854775807 - (v : Int) → ∀ w, Calls Tryd.prog 112 #[.int .i64 z] w (BytesPost2 5 (risB (9223372036854775807 - v)) 0 w)) := Lib.hid fun z hz w => by
    rw [show z = ((9223372036854775807 - v : Nat) : Int) from by omega]
    exact rRising_any _ w (by omega)
  have k1 : IntKind.i64.wrap (9223372036854775807 - (v : Int)) = 9223372036854775807 - (v : Int) := i64_sum (by omega) (by omega)
  go_enter Tryd.func98, Tryd.ntmps98
  go_wp2_with (go_at_call 112; go_must (refine (HC.out _ (by omega) _).mono ?_); rintro e w1 ⟨A1, c1, rfl, hO1, hb1⟩)
  go_ret2
  exact ⟨A1, c1, rfl, hO1, hb1⟩
end Go.Proofs.YtmigjipfomfacaaDoor

/-
  The reference's Ordered, Sum, Sealed, walked.
-/
namespace Go.Proofs.YtmigjipfomfacaaDoor
open Go.RowKit

set_option maxRecDepth 100000 in
set_option maxHeartbeats 1000000 in
theorem rOrdered_any (l : List UInt8) (A : Option Addr) (n c : Nat) (w : World) (hn : n ≤ 70368744177000) (hr : RB w w.heap.size A n l) :
    Calls Tryd.prog 97 #[.slice A n c] w (BytesPost 5 (ordB l) w) := by
  have HL := Lib.hid hr.len
  have HR : Hid (∀ w', Below w.heap.size w w' → RB w' w'.heap.size A n l) := Lib.hid fun w' h => hr.later h
  have HF : Hid (∀ k, ((l.take k).flatMap ordC).length ≤ 140737488354000) := Lib.hid fun k => by
    have := ordF_len (l.take k)
    have h2 : (l.take k).length ≤ l.length := by rw [List.length_take]; omega
    have h3 := HL.out
    omega
  clear hr
  go_enter Tryd.func97, Tryd.ntmps97
  go_wp2
  go_loopw [3, 4] (fun v i wr => ∃ (k : Nat) (P : List UInt8), k ≤ n ∧ i = .int .i64 k ∧ Hid (P = (l.take k).flatMap ordC) ∧ wr.ownsRow w.heap.size 5 1 v P.length (u8s P) ∧ Hid (Below w.heap.size w wr)) (fun _ i _ => n - (intOf i).toNat)
  case atStart => exact ⟨0, [], Nat.zero_le _, rfl, Lib.hid rfl, own_nil _ _ _ _, Lib.hid (Below.refl _ _)⟩
  case round =>
    obtain ⟨k, P, hk, rfl, HP, hown, HB⟩ := hrel
    obtain ⟨v, hv⟩ : ∃ v, v = u3 := ⟨_, rfl⟩
    rw [← hv] at hown ⊢
    clear hv
    have HPL : Hid (P.length ≤ 140737488354000) := Lib.hid (by rw [HP.out]; exact HF.out k)
    by_cases hlt : k < n
    case neg =>
      have HE : Hid (P ++ [0, 1] = ordB l) := Lib.hid (by rw [HP.out, take_all (by have := HL.out; omega)]; rfl)
      go_wp2_with (at_builtin; go_must (refine wpList_append_reads _ rfl (.tmp 26) (.tmp 27) rfl Tryd.u8s' w.heap.size v P.length (u8s P) rfl (hown.alloc _) (wr.heap.size + 1) (some ⟨wr.heap.size, 0, none⟩) 2 2 (u8s [0, 1]) rfl (by exact reads_lit wr _ [0, 1] _ _ rfl) (u8s_one _) (by have := HPL.out; unfold maxLen; omega) (by have := HPL.out; omega) (by have := HB.out.size; simp; omega) ?_); intro v1 w1 hown1 hg1 hat1)
      go_ret
      have hB : w.heap.size ≤ (wr.alloc (.cells #[.int .u8 0, .int .u8 1] 5)).heap.size := by have := HB.out.size; simp; omega
      have HB1 := below_app (HB.out.alloc HB.out.size _) (hown.alloc _) hg1 hB (Nat.le_refl _)
      rw [← u8s_append, HE.out] at hown1
      exact bytes_post hown1 HB1
    obtain ⟨b, o, y, rfl, _, hy, hcy⟩ := (HR.out _ HB.out).at_ hlt
    have HY := Lib.hid (ordB_take hy)
    have HY0 := Lib.hid hy
    clear hy
    by_cases h0 : y.toNat = 0
    · have HN : Hid ((P ++ [y]) ++ [255] = (l.take (k + 1)).flatMap ordC) := Lib.hid (by
        rw [HY.out, HP.out]
        unfold ordC
        rw [if_pos h0, UInt8.toNat_inj.1 (show y.toNat = (0 : UInt8).toNat from h0)]; simp)
      have hd : ((y.toNat : Int) == 0) = true := by rw [beq_iff_eq]; omega
      have tok1 : True := trivial
      clear HY h0
      go_wp2_with (first
        | (at_builtin; have _t := tok1; go_must (refine wpList_append_reads _ rfl (.tmp 11) (.tmp 16) rfl Tryd.u8s' w.heap.size v P.length (u8s P) rfl (hown.alloc _) (wr.heap.size + 1) (some ⟨wr.heap.size, 0, none⟩) 1 1 (u8s [y]) rfl (by exact reads_lit wr _ [y] _ _ rfl) (u8s_one _) (by have := HPL.out; unfold maxLen; omega) (by have := HPL.out; omega) (by have := HB.out.size; simp; omega) ?_); intro v1 w1 hown1 hg1 hat1; clear tok1; have HB1 := Lib.hid (below_app (HB.out.alloc HB.out.size (.cells #[.int .u8 (y.toNat : Int)] 5)) (hown.alloc _) hg1 (by have := HB.out.size; simp; omega) (Nat.le_refl _)); rw [← u8s_append] at hown1; have HO1 := Lib.hid hown1; have hcy1 := (HR.out _ HB1.out).cell HY0.out; clear hown1 hg1 hat1)
        | (at_builtin; go_must (refine wpList_append_reads _ rfl (.tmp 23) (.tmp 24) rfl Tryd.u8s' w.heap.size v1 (P.length + 1) (u8s (P ++ [y])) rfl (HO1.out.alloc _) (w1.heap.size + 1) (some ⟨w1.heap.size, 0, none⟩) 1 1 (u8s [255]) rfl (by exact reads_lit w1 _ [255] _ _ rfl) (u8s_one _) (by have := HPL.out; unfold maxLen; omega) (by have := HPL.out; omega) (by have := HB1.out.size; simp; omega) ?_); intro v2 w2 hown2 hg2 hat2; have HB2 := Lib.hid (below_app (HB1.out.alloc HB1.out.size (.cells #[.int .u8 255] 5)) (HO1.out.alloc _) hg2 (by have := HB1.out.size; simp; omega) (Nat.le_refl _)); rw [← u8s_append] at hown2; have HO2 := Lib.hid hown2; clear hown2 hg2 hat2))
      have hO2 : w2.ownsRow w.heap.size 5 1 v2 ((P ++ [y]) ++ [255]).length (u8s ((P ++ [y]) ++ [255])) := by
        have := HO2.out
        have e : ((P ++ [y]) ++ [(255 : UInt8)]).length = P.length + 1 + 1 := by simp
        rw [e]; exact this
      clear HO2 HO1
      go_roundw
      case rel => exact ⟨k + 1, (P ++ [y]) ++ [255], by omega, by go_num, HN, hO2, HB2⟩
      case measure => simp [intOf]; omega
    · have HN : Hid (P ++ [y] = (l.take (k + 1)).flatMap ordC) := Lib.hid (by
        rw [HY.out, HP.out]
        unfold ordC
        rw [if_neg h0])
      have hd : ((y.toNat : Int) == 0) = false := by rw [beq_eq_false_iff_ne]; omega
      clear HY h0
      go_wp2_with (at_builtin; go_must (refine wpList_append_reads _ rfl (.tmp 11) (.tmp 16) rfl Tryd.u8s' w.heap.size v P.length (u8s P) rfl (hown.alloc _) (wr.heap.size + 1) (some ⟨wr.heap.size, 0, none⟩) 1 1 (u8s [y]) rfl (by exact reads_lit wr _ [y] _ _ rfl) (u8s_one _) (by have := HPL.out; unfold maxLen; omega) (by have := HPL.out; omega) (by have := HB.out.size; simp; omega) ?_); intro v1 w1 hown1 hg1 hat1; have HB1 := Lib.hid (below_app (HB.out.alloc HB.out.size (.cells #[.int .u8 (y.toNat : Int)] 5)) (hown.alloc _) hg1 (by have := HB.out.size; simp; omega) (Nat.le_refl _)); rw [← u8s_append] at hown1; have HO1 := Lib.hid hown1; have hcy1 := (HR.out _ HB1.out).cell HY0.out; clear hown1 hg1 hat1)
      have hO1 : w1.ownsRow w.heap.size 5 1 v1 (P ++ [y]).length (u8s (P ++ [y])) := by
        have := HO1.out
        rw [show (P ++ [y]).length = P.length + 1 from by simp]; exact this
      clear HO1
      go_roundw
      case rel => exact ⟨k + 1, P ++ [y], by omega, by go_num, HN, hO1, HB1⟩
      case measure => simp [intOf]; omega


theorem rStep_two (r c : Nat) (_hr : r < 4294967296) (_hc : c < 4294967296) : rStep (r ^^^ c) = (if (r % 2 != c % 2) = true then r / 2 ^^^ 2197175160 else r / 2) ^^^ (c / 2) := by
  unfold rStep
  have e1 : (r ^^^ c) >>> 1 = (r / 2) ^^^ (c / 2) := by
    rw [Nat.shiftRight_xor_distrib, Nat.shiftRight_eq_div_pow, Nat.shiftRight_eq_div_pow]
  have e2 : (r ^^^ c).testBit 0 = (r % 2 != c % 2) := by
    rw [Nat.testBit_xor, Nat.testBit_zero, Nat.testBit_zero]
    rcases Nat.mod_two_eq_zero_or_one r with h | h <;> rcases Nat.mod_two_eq_zero_or_one c with h' | h' <;> rw [h, h'] <;> rfl
  rw [e1, e2]
  by_cases h : (r % 2 != c % 2) = true
  · rw [if_pos h, if_pos h]; ac_rfl
  · rw [if_neg h, if_neg h, Nat.xor_zero]
theorem rIter_snoc (j x : Nat) : rIter (j + 1) x = rStep (rIter j x) := rIter_succ j x
theorem poly_walk (r : Nat) (h : r < 4294967296) : bits .xor .u32 ((r : Int)) 2197175160 = ((r ^^^ 2197175160 : Nat) : Int) := by
  rw [show (2197175160 : Int) = ((2197175160 : Nat) : Int) from rfl, u32_xor_nat _ _ h (by decide)]

set_option maxRecDepth 100000 in
set_option maxHeartbeats 2000000 in
theorem rSum_any (ks : List (List UInt8)) (A : Option Addr) (n c : Nat) (w : World) (hn : n ≤ 9223372036854775807) (hr : RBs w w.heap.size A n ks) :
    Calls Tryd.prog 99 #[.slice A n c] w fun e w' => e = .returned (.int .u32 (sumL ks.flatten)) ∧ w = w' := by
  have hlen := hr.len
  have HR := Lib.hid hr
  clear hr
  go_enter Tryd.func99, Tryd.ntmps99
  go_wp2
  go_loop [3, 4] (fun s i => ∃ k : Nat, k ≤ n ∧ i = .int .i64 k ∧ ∃ C : Nat, C < 4294967296 ∧ s = .int .u32 C ∧ Hid (C = crcL 4294967295 (ks.take k).flatten)) (fun _ i => n - (intOf i).toNat)
  case atStart => exact ⟨0, Nat.zero_le _, rfl, 4294967295, by omega, rfl, Lib.hid rfl⟩
  case round =>
    obtain ⟨k, hk, rfl, C, hC, rfl, HC⟩ := hrel
    by_cases hlt : k < n
    case neg =>
      have E : Hid ((4294967295 - (C : Int)) = (sumL ks.flatten : Int)) := Lib.hid (by
        have : C = crcL 4294967295 ks.flatten := by rw [HC.out, take_all (by omega)]
        unfold sumL
        rw [← this]; omega)
      have hw : IntKind.u32.wrap (4294967295 - (C : Int)) = 4294967295 - (C : Int) := by rw [IntKind.wrap_u32]; omega
      go_wp2
      go_ret
      exact ⟨by rw [← E.out]; rfl, rfl⟩
    obtain ⟨b, o, x, a, ck, rfl, hb, hx, hcell, hxc, hck, _, hrb⟩ := HR.out.at_ hlt
    have HX := Lib.hid hx
    clear hx
    go_wp2
    go_loop [3, 5] (fun s i => ∃ j : Nat, j ≤ x.length ∧ i = .int .i64 j ∧ ∃ D : Nat, D < 4294967296 ∧ s = .int .u32 D ∧ Hid (D = crcL C (x.take j))) (fun _ i => x.length - (intOf i).toNat)
    case atStart => exact ⟨0, Nat.zero_le _, rfl, C, hC, rfl, Lib.hid rfl⟩
    case round =>
      obtain ⟨j, hj, rfl, D, hD, rfl, HD⟩ := hrel
      by_cases hjl : j < x.length
      case neg =>
        have HN : Hid (D = crcL 4294967295 (ks.take (k + 1)).flatten) := Lib.hid (by
          rw [HD.out, take_all (by omega), HC.out, take_snoc HX.out, List.flatten_append, crcL_app]; simp)
        go_wp2
        go_round
        case rel => exact ⟨k + 1, by omega, by go_num, D, hD, rfl, HN⟩
        case measure => simp [intOf]; omega
      obtain ⟨b2, o2, y, rfl, hb2, hy, hcy⟩ := hrb.at_ hjl
      have HY := Lib.hid hy
      have hy8 := y.toNat_lt
      clear hy
      go_wp2
      go_loop [3, 6, 7] (fun s y' i => ∃ t : Nat, t ≤ 8 ∧ i = .int .i64 t ∧ ∃ E F : Nat, E < 4294967296 ∧ F < 256 ∧ s = .int .u32 E ∧ y' = .int .u8 F ∧ Hid (F = y.toNat / 2 ^ t) ∧ Hid (E ^^^ F = rIter t (D ^^^ y.toNat))) (fun _ _ i => 8 - (intOf i).toNat)
      case atStart => exact ⟨0, by omega, rfl, D, y.toNat, hD, hy8, rfl, rfl, Lib.hid (by simp), Lib.hid rfl⟩
      case round =>
        obtain ⟨t, ht, rfl, E, F, hE, hF, rfl, rfl, HF, HE⟩ := hrel
        by_cases htl : t < 8
        case neg =>
          obtain rfl : t = 8 := by omega
          have HN : Hid (E = crcL C (x.take (j + 1))) := Lib.hid (by
            have h0 : F = 0 := by rw [HF.out, Nat.div_eq_of_lt (by omega)]
            have h1 := HE.out
            rw [h0, Nat.xor_zero] at h1
            rw [take_snoc HY.out, crcL_snoc, ← HD.out, h1]
            rfl)
          have hd : decide ((8 : Int) < 8) = false := by decide
          go_wp2
          go_round
          case rel => exact ⟨j + 1, by omega, by go_num, E, hE, rfl, HN⟩
          case measure => simp [intOf]; omega
        have hd : decide ((t : Int) < 8) = true := decide_eq_true (by omega)
        have HE2 := Lib.hid (rStep_two E F hE (by omega))
        have HFW : Hid (F / 2 = y.toNat / 2 ^ (t + 1)) := Lib.hid (by rw [HF.out, Nat.pow_succ, Nat.div_div_eq_div_mul])
        have hw1 : IntKind.u32.wrap (F : Int) = (F : Int) := by rw [IntKind.wrap_u32]; omega
        have hpw := poly_walk (E / 2) (by omega)
        rw [Int.natCast_ediv] at hpw
        have hpx : (E / 2) ^^^ 2197175160 < 4294967296 := Nat.xor_lt_two_pow (n := 32) (by omega) (by omega)
        by_cases hodd : (E % 2 != F % 2) = true
        · have HN : Hid ((E / 2 ^^^ 2197175160) ^^^ (F / 2) = rIter (t + 1) (D ^^^ y.toNat)) := Lib.hid (by rw [rIter_snoc, ← HE.out, HE2.out, if_pos hodd])
          have hd2 : (((E : Int) % 2) != ((F : Int) % 2)) = true := by rw [bne_iff_ne] at hodd ⊢; omega
          clear hodd
          go_wp2
          go_round
          case rel => exact ⟨t + 1, by omega, by go_num, E / 2 ^^^ 2197175160, F / 2, hpx, by omega, by first | rfl | (rw [← hpw]; rfl), by rw [Int.natCast_ediv]; rfl, HFW, HN⟩
          case measure => simp [intOf]; omega
        · have HN : Hid ((E / 2) ^^^ (F / 2) = rIter (t + 1) (D ^^^ y.toNat)) := Lib.hid (by rw [rIter_snoc, ← HE.out, HE2.out, if_neg hodd])
          have hd2 : (((E : Int) % 2) != ((F : Int) % 2)) = false := by rw [bne_iff_ne] at hodd; rw [bne_eq_false_iff_eq]; omega
          clear hodd
          go_wp2
          go_round
          case rel => exact ⟨t + 1, by omega, by go_num, E / 2, F / 2, by omega, by omega, by rw [Int.natCast_ediv]; rfl, by rw [Int.natCast_ediv]; rfl, HFW, HN⟩
          case measure => simp [intOf]; omega

end Go.Proofs.YtmigjipfomfacaaDoor

/-
  strataref2.key, Key walked. (Printed by gen_rkey.py.)
-/
namespace Go.Proofs.YtmigjipfomfacaaDoor
open Go.RowKit

theorem rFalling_at (v : Nat) (w : World) (hv : v < 9223372036854775808) : Calls Tryd.prog 98 #[.int .i64 v] w fun e w' => ∃ A c, e = .returned (.tuple #[.slice A 8 c, .int .i64 0]) ∧ w'.ownsRow w.heap.size 5 1 (.slice A 8 c) 8 (u8s (numK v)) ∧ Below w.heap.size w w' := by
  refine (rFalling_any v w hv).mono fun e w' h => ?_
  obtain ⟨A, c, h1, h2, h3, h4⟩ := BytesPost2.at_ h (risB_len _) rfl
  refine ⟨A, c, h1, ?_, h4⟩
  unfold numK
  rw [Int.toNat_natCast]
  have := h3
  unfold OwnB at this
  rw [risB_len] at this
  exact this

set_option maxRecDepth 100000 in
set_option maxHeartbeats 2000000 in
theorem rkey_five (row qual : List UInt8) (A : Option Addr) (n c F : Nat) (B : Option Addr) (m d T S : Nat) (D : Option Addr) (v q : Nat) (w : World) (hrow : Sl w A n c row) (hqual : Sl w B m d qual) (hz : checkN n F m T S 5 v = 0) :
    Calls Tryd.prog 87 #[.agg #[.slice A n c, .int .i64 (F : Int), .slice B m d, .int .i64 (T : Int), .int .i64 (S : Int), .int .i64 5, .slice D v q]] w (BytesPost 5 (keyE ⟨row, F, qual, T, S, 5, []⟩) w) := by
  obtain ⟨z1, z2, z3, z4, z5, z6, -⟩ := checkN_ok hz
  have HN : Hid (n ≤ 256 ∧ m ≤ 256 ∧ T ≤ 1099511627776 ∧ S ≤ 17592186044431) := Lib.hid (by omega)
  have HR : Hid (∀ x, Below w.heap.size w x → Sl x A n c row) := Lib.hid fun x h => hrow.later h
  have HQ : Hid (∀ x, Below w.heap.size w x → Sl x B m d qual) := Lib.hid fun x h => hqual.later h
  have HLEN : Hid ((ordB row).length ≤ 514 ∧ (ordB qual).length ≤ 514) := Lib.hid (by
    have h1 := ordB_len row; have h2 := ordB_len qual; have h3 := hrow.len; have h4 := hqual.len; omega)
  have HX0 := Lib.hid (Bx.new w #[.slice A n c, .int .i64 (F : Int), .slice B m d, .int .i64 (T : Int), .int .i64 (S : Int), .int .i64 5, .slice D v q] 37)
  clear hz z1 z2 z3 z4 z5 z6 hrow hqual
  have tO1 : True := trivial
  have tA1 : True := trivial
  have tA2 : True := trivial
  have tF1 : True := trivial
  have tA5 : True := trivial
  have tA6 : True := trivial
  go_enter Tryd.func87, Tryd.ntmps87
  go_wp2_with (first
    | (go_at_call 97; have _t := tO1; go_must (refine (rOrdered_any row A n c _ (by have := HN.out; omega) (HR.out _ HX0.out.up).rb).mono ?_); rintro e x1 ⟨A1, c1, rfl, hO1, hb1⟩; have HX1 := Lib.hid (HX0.out.later hb1); have HO1 := Lib.hid (own_low hO1 HX0.out.size); clear hO1 hb1 tO1; have q1_1 := HX1.out.cell (i := 1) (v := .int .i64 (F : Int)) rfl)
    | (at_builtin; have _t := tA1; go_must (refine wpList_append_reads _ rfl (.tmp 12) (.tmp 16) rfl Tryd.u8s' (w.heap.size + 1) (.slice A1 (ordB row).length c1) ((ordB row).length) (u8s (ordB row)) rfl (HO1.out.alloc _) (x1.heap.size + 1) (some ⟨x1.heap.size, 0, none⟩) 1 1 (u8s ([UInt8.ofNat F])) rfl (by exact reads_lit x1 _ ([UInt8.ofNat F]) _ _ (by show [_] = [u8v _]; rw [u8v_mod])) (u8s_one _) (by have := HLEN.out; unfold maxLen; omega) (by have := HLEN.out; omega) (by have := HX1.out.size; simp; omega) ?_); intro v2 x2 hown hg hat; clear tA1; have HX2 := Lib.hid ((HX1.out.alloc _).grow (HO1.out.alloc _) hg); rw [← u8s_append] at hown; have HO2 := Lib.hid hown; clear hown hg hat; have q2_5 := HX2.out.cell (i := 5) (v := .int .i64 5) rfl)
    | (at_builtin; have _t := tA2; go_must (refine wpList_append_reads _ rfl (.tmp 21) (.tmp 22) rfl Tryd.u8s' (w.heap.size + 1) v2 ((ordB row).length + 1) (u8s ((ordB row) ++ [UInt8.ofNat F])) rfl (HO2.out.alloc _) (x2.heap.size + 1) (some ⟨x2.heap.size, 0, none⟩) 1 1 (u8s ([0])) rfl (by exact reads_lit x2 _ ([0]) _ _ (by rfl)) (u8s_one _) (by have := HLEN.out; unfold maxLen; omega) (by have := HLEN.out; omega) (by have := HX2.out.size; simp; omega) ?_); intro v3 x3 hown hg hat; clear tA2; have HX3 := Lib.hid ((HX2.out.alloc _).grow (HO2.out.alloc _) hg); rw [← u8s_append] at hown; have HO3 := Lib.hid hown; clear hown hg hat; have q3_3 := HX3.out.cell (i := 3) (v := .int .i64 (T : Int)) rfl)
    | (go_at_call 98; have _t := tF1; go_must (refine (rFalling_at T _ (by have := HN.out; omega)).mono ?_); rintro e x7 ⟨A7, c7, rfl, hO7, hb7⟩; have HX7 := Lib.hid (HX3.out.later hb7); have HO7 := Lib.hid (own_below HO3.out hb7); have HT7 := Lib.hid hO7; clear hO7 hb7 tF1; have q7_4 := HX7.out.cell (i := 4) (v := .int .i64 (S : Int)) rfl)
    | (go_at_call 98; go_must (refine (rFalling_at S _ (by have := HN.out; omega)).mono ?_); rintro e x8 ⟨A8, c8, rfl, hO8, hb8⟩; have HX8 := Lib.hid (HX7.out.later hb8); have HO8 := Lib.hid (own_below HO7.out hb8); have HS8 := Lib.hid hO8; have HR8 := Lib.hid (RB.own (own_below HT7.out hb8)); clear hO8 hb8)
    | (at_builtin; have _t := tA5; go_must (refine wpList_append_reads _ rfl (.tmp 51) (.tmp 52) rfl Tryd.u8s' (w.heap.size + 1) v3 ((ordB row).length + 1 + 1) (u8s (((ordB row) ++ [UInt8.ofNat F]) ++ [0])) rfl HO8.out x8.heap.size A7 8 c7 (u8s (numK T)) rfl HR8.out (u8s_one _) (by have := HLEN.out; unfold maxLen; omega) (by have := HLEN.out; omega) (by have := HX8.out.size; omega) ?_); intro v9 x9 hown hg hat; clear tA5; have HR9 := Lib.hid (RB.own (own_aside HS8.out HO7.out (Nat.le_refl _) hg)); have HX9 := Lib.hid (HX8.out.grow HO8.out hg); rw [← u8s_append] at hown; have HO9 := Lib.hid hown; clear hown hg hat; have q9_5 := HX9.out.cell (i := 5) (v := .int .i64 5) rfl)
    | (at_builtin; have _t := tA6; go_must (refine wpList_append_reads _ rfl (.tmp 54) (.tmp 55) rfl Tryd.u8s' (w.heap.size + 1) v9 ((ordB row).length + 1 + 1 + 8) (u8s ((((ordB row) ++ [UInt8.ofNat F]) ++ [0]) ++ numK T)) rfl HO9.out x9.heap.size A8 8 c8 (u8s (numK S)) rfl HR9.out (u8s_one _) (by have := HLEN.out; unfold maxLen; omega) (by have := HLEN.out; omega) (by have := HX9.out.size; omega) ?_); intro va xa hown hg hat; clear tA6; have HXa := Lib.hid (HX9.out.grow HO9.out hg); rw [← u8s_append] at hown; have HOa := Lib.hid hown; clear hown hg hat; have q10_5 := HXa.out.cell (i := 5) (v := .int .i64 5) rfl)
    | (at_builtin; go_must (refine wpList_append_reads _ rfl (.tmp 57) (.tmp 61) rfl Tryd.u8s' (w.heap.size + 1) va ((ordB row).length + 1 + 1 + 8 + 8) (u8s (((((ordB row) ++ [UInt8.ofNat F]) ++ [0]) ++ numK T) ++ numK S)) rfl (HOa.out.alloc _) (xa.heap.size + 1) (some ⟨xa.heap.size, 0, none⟩) 1 1 (u8s ([UInt8.ofNat 5])) rfl (by exact reads_lit xa _ ([UInt8.ofNat 5]) _ _ (by rfl)) (u8s_one _) (by have := HLEN.out; unfold maxLen; omega) (by have := HLEN.out; omega) (by have := HXa.out.size; simp; omega) ?_); intro vb xb hown hg hat; have HXb := Lib.hid ((HXa.out.alloc _).grow (HOa.out.alloc _) hg); rw [← u8s_append] at hown; have HOb := Lib.hid hown; clear hown hg hat))
  go_ret
  have hf : ((((((ordB row) ++ [UInt8.ofNat F]) ++ [0]) ++ numK T) ++ numK S) ++ [UInt8.ofNat 5]) = keyE ⟨row, F, qual, T, S, 5, []⟩ := by
    unfold keyE tailK qualK
    simp [flg]
  have := HOb.out
  rw [hf] at this
  exact bytes_post (own_low this (Nat.le_succ _)) HXb.out.up

set_option maxRecDepth 100000 in
set_option maxHeartbeats 2000000 in
theorem rkey_four (row qual : List UInt8) (A : Option Addr) (n c F : Nat) (B : Option Addr) (m d T S : Nat) (D : Option Addr) (v q : Nat) (w : World) (hrow : Sl w A n c row) (hqual : Sl w B m d qual) (hz : checkN n F m T S 4 v = 0) :
    Calls Tryd.prog 87 #[.agg #[.slice A n c, .int .i64 (F : Int), .slice B m d, .int .i64 (T : Int), .int .i64 (S : Int), .int .i64 4, .slice D v q]] w (BytesPost 5 (keyE ⟨row, F, qual, T, S, 4, []⟩) w) := by
  obtain ⟨z1, z2, z3, z4, z5, z6, -⟩ := checkN_ok hz
  have HN : Hid (n ≤ 256 ∧ m ≤ 256 ∧ T ≤ 1099511627776 ∧ S ≤ 17592186044431) := Lib.hid (by omega)
  have HR : Hid (∀ x, Below w.heap.size w x → Sl x A n c row) := Lib.hid fun x h => hrow.later h
  have HQ : Hid (∀ x, Below w.heap.size w x → Sl x B m d qual) := Lib.hid fun x h => hqual.later h
  have HLEN : Hid ((ordB row).length ≤ 514 ∧ (ordB qual).length ≤ 514) := Lib.hid (by
    have h1 := ordB_len row; have h2 := ordB_len qual; have h3 := hrow.len; have h4 := hqual.len; omega)
  have HX0 := Lib.hid (Bx.new w #[.slice A n c, .int .i64 (F : Int), .slice B m d, .int .i64 (T : Int), .int .i64 (S : Int), .int .i64 4, .slice D v q] 37)
  clear hz z1 z2 z3 z4 z5 z6 hrow hqual
  have tO1 : True := trivial
  have tA1 : True := trivial
  have tA2 : True := trivial
  have tF1 : True := trivial
  have tA5 : True := trivial
  have tA6 : True := trivial
  have tO2 : True := trivial
  have tA3 : True := trivial
  have tA4 : True := trivial
  go_enter Tryd.func87, Tryd.ntmps87
  go_wp2_with (first
    | (go_at_call 97; have _t := tO1; go_must (refine (rOrdered_any row A n c _ (by have := HN.out; omega) (HR.out _ HX0.out.up).rb).mono ?_); rintro e x1 ⟨A1, c1, rfl, hO1, hb1⟩; have HX1 := Lib.hid (HX0.out.later hb1); have HO1 := Lib.hid (own_low hO1 HX0.out.size); clear hO1 hb1 tO1; have q1_1 := HX1.out.cell (i := 1) (v := .int .i64 (F : Int)) rfl)
    | (at_builtin; have _t := tA1; go_must (refine wpList_append_reads _ rfl (.tmp 12) (.tmp 16) rfl Tryd.u8s' (w.heap.size + 1) (.slice A1 (ordB row).length c1) ((ordB row).length) (u8s (ordB row)) rfl (HO1.out.alloc _) (x1.heap.size + 1) (some ⟨x1.heap.size, 0, none⟩) 1 1 (u8s ([UInt8.ofNat F])) rfl (by exact reads_lit x1 _ ([UInt8.ofNat F]) _ _ (by show [_] = [u8v _]; rw [u8v_mod])) (u8s_one _) (by have := HLEN.out; unfold maxLen; omega) (by have := HLEN.out; omega) (by have := HX1.out.size; simp; omega) ?_); intro v2 x2 hown hg hat; clear tA1; have HX2 := Lib.hid ((HX1.out.alloc _).grow (HO1.out.alloc _) hg); rw [← u8s_append] at hown; have HO2 := Lib.hid hown; clear hown hg hat; have q2_5 := HX2.out.cell (i := 5) (v := .int .i64 4) rfl)
    | (at_builtin; have _t := tA2; go_must (refine wpList_append_reads _ rfl (.tmp 24) (.tmp 25) rfl Tryd.u8s' (w.heap.size + 1) v2 ((ordB row).length + 1) (u8s ((ordB row) ++ [UInt8.ofNat F])) rfl (HO2.out.alloc _) (x2.heap.size + 1) (some ⟨x2.heap.size, 0, none⟩) 1 1 (u8s ([1])) rfl (by exact reads_lit x2 _ ([1]) _ _ (by rfl)) (u8s_one _) (by have := HLEN.out; unfold maxLen; omega) (by have := HLEN.out; omega) (by have := HX2.out.size; simp; omega) ?_); intro v3 x3 hown hg hat; clear tA2; have HX3 := Lib.hid ((HX2.out.alloc _).grow (HO2.out.alloc _) hg); rw [← u8s_append] at hown; have HO3 := Lib.hid hown; clear hown hg hat; have q3_2 := HX3.out.cell (i := 2) (v := .slice B m d) rfl)
    | (go_at_call 97; have _t := tO2; go_must (refine (rOrdered_any qual B m d _ (by have := HN.out; omega) (HQ.out _ HX3.out.up).rb).mono ?_); rintro e x4 ⟨A4, c4, rfl, hO4, hb4⟩; have HX4 := Lib.hid (HX3.out.later hb4); have HO4 := Lib.hid (own_below HO3.out hb4); have HR4 := Lib.hid (RB.own hO4); clear hO4 hb4 tO2)
    | (at_builtin; have _t := tA3; go_must (refine wpList_append_reads _ rfl (.tmp 27) (.tmp 30) rfl Tryd.u8s' (w.heap.size + 1) v3 ((ordB row).length + 1 + 1) (u8s (((ordB row) ++ [UInt8.ofNat F]) ++ [1])) rfl HO4.out x4.heap.size A4 (ordB qual).length c4 (u8s (ordB qual)) rfl HR4.out (u8s_one _) (by have := HLEN.out; unfold maxLen; omega) (by have := HLEN.out; omega) (by have := HX4.out.size; omega) ?_); intro v5 x5 hown hg hat; clear tA3; have HX5 := Lib.hid (HX4.out.grow HO4.out hg); rw [← u8s_append] at hown; have HO5 := Lib.hid hown; clear hown hg hat; have q5_5 := HX5.out.cell (i := 5) (v := .int .i64 4) rfl)
    | (at_builtin; have _t := tA4; go_must (refine wpList_append_reads _ rfl (.tmp 35) (.tmp 37) rfl Tryd.u8s' (w.heap.size + 1) v5 ((ordB row).length + 1 + 1 + (ordB qual).length) (u8s ((((ordB row) ++ [UInt8.ofNat F]) ++ [1]) ++ ordB qual)) rfl (HO5.out.alloc _) (x5.heap.size + 1) (some ⟨x5.heap.size, 0, none⟩) 1 1 (u8s ([0])) rfl (by exact reads_lit x5 _ ([0]) _ _ (by rfl)) (u8s_one _) (by have := HLEN.out; unfold maxLen; omega) (by have := HLEN.out; omega) (by have := HX5.out.size; simp; omega) ?_); intro v6 x6 hown hg hat; clear tA4; have HX6 := Lib.hid ((HX5.out.alloc _).grow (HO5.out.alloc _) hg); rw [← u8s_append] at hown; have HO6 := Lib.hid hown; clear hown hg hat; have q6_3 := HX6.out.cell (i := 3) (v := .int .i64 (T : Int)) rfl)
    | (go_at_call 98; have _t := tF1; go_must (refine (rFalling_at T _ (by have := HN.out; omega)).mono ?_); rintro e x7 ⟨A7, c7, rfl, hO7, hb7⟩; have HX7 := Lib.hid (HX6.out.later hb7); have HO7 := Lib.hid (own_below HO6.out hb7); have HT7 := Lib.hid hO7; clear hO7 hb7 tF1; have q7_4 := HX7.out.cell (i := 4) (v := .int .i64 (S : Int)) rfl)
    | (go_at_call 98; go_must (refine (rFalling_at S _ (by have := HN.out; omega)).mono ?_); rintro e x8 ⟨A8, c8, rfl, hO8, hb8⟩; have HX8 := Lib.hid (HX7.out.later hb8); have HO8 := Lib.hid (own_below HO7.out hb8); have HS8 := Lib.hid hO8; have HR8 := Lib.hid (RB.own (own_below HT7.out hb8)); clear hO8 hb8)
    | (at_builtin; have _t := tA5; go_must (refine wpList_append_reads _ rfl (.tmp 51) (.tmp 52) rfl Tryd.u8s' (w.heap.size + 1) v6 ((ordB row).length + 1 + 1 + (ordB qual).length + 1) (u8s (((((ordB row) ++ [UInt8.ofNat F]) ++ [1]) ++ ordB qual) ++ [0])) rfl HO8.out x8.heap.size A7 8 c7 (u8s (numK T)) rfl HR8.out (u8s_one _) (by have := HLEN.out; unfold maxLen; omega) (by have := HLEN.out; omega) (by have := HX8.out.size; omega) ?_); intro v9 x9 hown hg hat; clear tA5; have HR9 := Lib.hid (RB.own (own_aside HS8.out HO7.out (Nat.le_refl _) hg)); have HX9 := Lib.hid (HX8.out.grow HO8.out hg); rw [← u8s_append] at hown; have HO9 := Lib.hid hown; clear hown hg hat; have q9_5 := HX9.out.cell (i := 5) (v := .int .i64 4) rfl)
    | (at_builtin; have _t := tA6; go_must (refine wpList_append_reads _ rfl (.tmp 54) (.tmp 55) rfl Tryd.u8s' (w.heap.size + 1) v9 ((ordB row).length + 1 + 1 + (ordB qual).length + 1 + 8) (u8s ((((((ordB row) ++ [UInt8.ofNat F]) ++ [1]) ++ ordB qual) ++ [0]) ++ numK T)) rfl HO9.out x9.heap.size A8 8 c8 (u8s (numK S)) rfl HR9.out (u8s_one _) (by have := HLEN.out; unfold maxLen; omega) (by have := HLEN.out; omega) (by have := HX9.out.size; omega) ?_); intro va xa hown hg hat; clear tA6; have HXa := Lib.hid (HX9.out.grow HO9.out hg); rw [← u8s_append] at hown; have HOa := Lib.hid hown; clear hown hg hat; have q10_5 := HXa.out.cell (i := 5) (v := .int .i64 4) rfl)
    | (at_builtin; go_must (refine wpList_append_reads _ rfl (.tmp 57) (.tmp 61) rfl Tryd.u8s' (w.heap.size + 1) va ((ordB row).length + 1 + 1 + (ordB qual).length + 1 + 8 + 8) (u8s (((((((ordB row) ++ [UInt8.ofNat F]) ++ [1]) ++ ordB qual) ++ [0]) ++ numK T) ++ numK S)) rfl (HOa.out.alloc _) (xa.heap.size + 1) (some ⟨xa.heap.size, 0, none⟩) 1 1 (u8s ([UInt8.ofNat 4])) rfl (by exact reads_lit xa _ ([UInt8.ofNat 4]) _ _ (by rfl)) (u8s_one _) (by have := HLEN.out; unfold maxLen; omega) (by have := HLEN.out; omega) (by have := HXa.out.size; simp; omega) ?_); intro vb xb hown hg hat; have HXb := Lib.hid ((HXa.out.alloc _).grow (HOa.out.alloc _) hg); rw [← u8s_append] at hown; have HOb := Lib.hid hown; clear hown hg hat))
  go_ret
  have hf : ((((((((ordB row) ++ [UInt8.ofNat F]) ++ [1]) ++ ordB qual) ++ [0]) ++ numK T) ++ numK S) ++ [UInt8.ofNat 4]) = keyE ⟨row, F, qual, T, S, 4, []⟩ := by
    unfold keyE tailK qualK
    simp [flg]
  have := HOb.out
  rw [hf] at this
  exact bytes_post (own_low this (Nat.le_succ _)) HXb.out.up

set_option maxRecDepth 100000 in
set_option maxHeartbeats 2000000 in
theorem rkey_more (row qual : List UInt8) (A : Option Addr) (n c F : Nat) (B : Option Addr) (m d T S K : Nat) (D : Option Addr) (v q : Nat) (w : World) (hrow : Sl w A n c row) (hqual : Sl w B m d qual) (hz : checkN n F m T S K v = 0) (hk5 : K ≠ 5) (hk4 : K ≠ 4) :
    Calls Tryd.prog 87 #[.agg #[.slice A n c, .int .i64 (F : Int), .slice B m d, .int .i64 (T : Int), .int .i64 (S : Int), .int .i64 (K : Int), .slice D v q]] w (BytesPost 5 (keyE ⟨row, F, qual, T, S, (K : Int), []⟩) w) := by
  obtain ⟨z1, z2, z3, z4, z5, z6, -⟩ := checkN_ok hz
  have HN : Hid (n ≤ 256 ∧ m ≤ 256 ∧ T ≤ 1099511627776 ∧ S ≤ 17592186044431) := Lib.hid (by omega)
  have HR : Hid (∀ x, Below w.heap.size w x → Sl x A n c row) := Lib.hid fun x h => hrow.later h
  have HQ : Hid (∀ x, Below w.heap.size w x → Sl x B m d qual) := Lib.hid fun x h => hqual.later h
  have HLEN : Hid ((ordB row).length ≤ 514 ∧ (ordB qual).length ≤ 514) := Lib.hid (by
    have h1 := ordB_len row; have h2 := ordB_len qual; have h3 := hrow.len; have h4 := hqual.len; omega)
  have HX0 := Lib.hid (Bx.new w #[.slice A n c, .int .i64 (F : Int), .slice B m d, .int .i64 (T : Int), .int .i64 (S : Int), .int .i64 (K : Int), .slice D v q] 37)
  have hkk5 : ((K : Int) == 5) = false := by rw [beq_eq_false_iff_ne]; omega
  have hkk4 : ((K : Int) == 4) = false := by rw [beq_eq_false_iff_ne]; omega
  have HK5 := Lib.hid hk5
  have HK4 := Lib.hid hk4
  clear hk5 hk4
  clear hz z1 z2 z3 z4 z5 z6 hrow hqual
  have tO1 : True := trivial
  have tA1 : True := trivial
  have tA2 : True := trivial
  have tF1 : True := trivial
  have tA5 : True := trivial
  have tA6 : True := trivial
  have tO2 : True := trivial
  have tA3 : True := trivial
  have tA4 : True := trivial
  go_enter Tryd.func87, Tryd.ntmps87
  go_wp2_with (first
    | (go_at_call 97; have _t := tO1; go_must (refine (rOrdered_any row A n c _ (by have := HN.out; omega) (HR.out _ HX0.out.up).rb).mono ?_); rintro e x1 ⟨A1, c1, rfl, hO1, hb1⟩; have HX1 := Lib.hid (HX0.out.later hb1); have HO1 := Lib.hid (own_low hO1 HX0.out.size); clear hO1 hb1 tO1; have q1_1 := HX1.out.cell (i := 1) (v := .int .i64 (F : Int)) rfl)
    | (at_builtin; have _t := tA1; go_must (refine wpList_append_reads _ rfl (.tmp 12) (.tmp 16) rfl Tryd.u8s' (w.heap.size + 1) (.slice A1 (ordB row).length c1) ((ordB row).length) (u8s (ordB row)) rfl (HO1.out.alloc _) (x1.heap.size + 1) (some ⟨x1.heap.size, 0, none⟩) 1 1 (u8s ([UInt8.ofNat F])) rfl (by exact reads_lit x1 _ ([UInt8.ofNat F]) _ _ (by show [_] = [u8v _]; rw [u8v_mod])) (u8s_one _) (by have := HLEN.out; unfold maxLen; omega) (by have := HLEN.out; omega) (by have := HX1.out.size; simp; omega) ?_); intro v2 x2 hown hg hat; clear tA1; have HX2 := Lib.hid ((HX1.out.alloc _).grow (HO1.out.alloc _) hg); rw [← u8s_append] at hown; have HO2 := Lib.hid hown; clear hown hg hat; have q2_5 := HX2.out.cell (i := 5) (v := .int .i64 (K : Int)) rfl)
    | (at_builtin; have _t := tA2; go_must (refine wpList_append_reads _ rfl (.tmp 24) (.tmp 25) rfl Tryd.u8s' (w.heap.size + 1) v2 ((ordB row).length + 1) (u8s ((ordB row) ++ [UInt8.ofNat F])) rfl (HO2.out.alloc _) (x2.heap.size + 1) (some ⟨x2.heap.size, 0, none⟩) 1 1 (u8s ([1])) rfl (by exact reads_lit x2 _ ([1]) _ _ (by rfl)) (u8s_one _) (by have := HLEN.out; unfold maxLen; omega) (by have := HLEN.out; omega) (by have := HX2.out.size; simp; omega) ?_); intro v3 x3 hown hg hat; clear tA2; have HX3 := Lib.hid ((HX2.out.alloc _).grow (HO2.out.alloc _) hg); rw [← u8s_append] at hown; have HO3 := Lib.hid hown; clear hown hg hat; have q3_2 := HX3.out.cell (i := 2) (v := .slice B m d) rfl)
    | (go_at_call 97; have _t := tO2; go_must (refine (rOrdered_any qual B m d _ (by have := HN.out; omega) (HQ.out _ HX3.out.up).rb).mono ?_); rintro e x4 ⟨A4, c4, rfl, hO4, hb4⟩; have HX4 := Lib.hid (HX3.out.later hb4); have HO4 := Lib.hid (own_below HO3.out hb4); have HR4 := Lib.hid (RB.own hO4); clear hO4 hb4 tO2)
    | (at_builtin; have _t := tA3; go_must (refine wpList_append_reads _ rfl (.tmp 27) (.tmp 30) rfl Tryd.u8s' (w.heap.size + 1) v3 ((ordB row).length + 1 + 1) (u8s (((ordB row) ++ [UInt8.ofNat F]) ++ [1])) rfl HO4.out x4.heap.size A4 (ordB qual).length c4 (u8s (ordB qual)) rfl HR4.out (u8s_one _) (by have := HLEN.out; unfold maxLen; omega) (by have := HLEN.out; omega) (by have := HX4.out.size; omega) ?_); intro v5 x5 hown hg hat; clear tA3; have HX5 := Lib.hid (HX4.out.grow HO4.out hg); rw [← u8s_append] at hown; have HO5 := Lib.hid hown; clear hown hg hat; have q5_5 := HX5.out.cell (i := 5) (v := .int .i64 (K : Int)) rfl)
    | (at_builtin; have _t := tA4; go_must (refine wpList_append_reads _ rfl (.tmp 35) (.tmp 37) rfl Tryd.u8s' (w.heap.size + 1) v5 ((ordB row).length + 1 + 1 + (ordB qual).length) (u8s ((((ordB row) ++ [UInt8.ofNat F]) ++ [1]) ++ ordB qual)) rfl (HO5.out.alloc _) (x5.heap.size + 1) (some ⟨x5.heap.size, 0, none⟩) 1 1 (u8s ([1])) rfl (by exact reads_lit x5 _ ([1]) _ _ (by rfl)) (u8s_one _) (by have := HLEN.out; unfold maxLen; omega) (by have := HLEN.out; omega) (by have := HX5.out.size; simp; omega) ?_); intro v6 x6 hown hg hat; clear tA4; have HX6 := Lib.hid ((HX5.out.alloc _).grow (HO5.out.alloc _) hg); rw [← u8s_append] at hown; have HO6 := Lib.hid hown; clear hown hg hat; have q6_3 := HX6.out.cell (i := 3) (v := .int .i64 (T : Int)) rfl)
    | (go_at_call 98; have _t := tF1; go_must (refine (rFalling_at T _ (by have := HN.out; omega)).mono ?_); rintro e x7 ⟨A7, c7, rfl, hO7, hb7⟩; have HX7 := Lib.hid (HX6.out.later hb7); have HO7 := Lib.hid (own_below HO6.out hb7); have HT7 := Lib.hid hO7; clear hO7 hb7 tF1; have q7_4 := HX7.out.cell (i := 4) (v := .int .i64 (S : Int)) rfl)
    | (go_at_call 98; go_must (refine (rFalling_at S _ (by have := HN.out; omega)).mono ?_); rintro e x8 ⟨A8, c8, rfl, hO8, hb8⟩; have HX8 := Lib.hid (HX7.out.later hb8); have HO8 := Lib.hid (own_below HO7.out hb8); have HS8 := Lib.hid hO8; have HR8 := Lib.hid (RB.own (own_below HT7.out hb8)); clear hO8 hb8)
    | (at_builtin; have _t := tA5; go_must (refine wpList_append_reads _ rfl (.tmp 51) (.tmp 52) rfl Tryd.u8s' (w.heap.size + 1) v6 ((ordB row).length + 1 + 1 + (ordB qual).length + 1) (u8s (((((ordB row) ++ [UInt8.ofNat F]) ++ [1]) ++ ordB qual) ++ [1])) rfl HO8.out x8.heap.size A7 8 c7 (u8s (numK T)) rfl HR8.out (u8s_one _) (by have := HLEN.out; unfold maxLen; omega) (by have := HLEN.out; omega) (by have := HX8.out.size; omega) ?_); intro v9 x9 hown hg hat; clear tA5; have HR9 := Lib.hid (RB.own (own_aside HS8.out HO7.out (Nat.le_refl _) hg)); have HX9 := Lib.hid (HX8.out.grow HO8.out hg); rw [← u8s_append] at hown; have HO9 := Lib.hid hown; clear hown hg hat; have q9_5 := HX9.out.cell (i := 5) (v := .int .i64 (K : Int)) rfl)
    | (at_builtin; have _t := tA6; go_must (refine wpList_append_reads _ rfl (.tmp 54) (.tmp 55) rfl Tryd.u8s' (w.heap.size + 1) v9 ((ordB row).length + 1 + 1 + (ordB qual).length + 1 + 8) (u8s ((((((ordB row) ++ [UInt8.ofNat F]) ++ [1]) ++ ordB qual) ++ [1]) ++ numK T)) rfl HO9.out x9.heap.size A8 8 c8 (u8s (numK S)) rfl HR9.out (u8s_one _) (by have := HLEN.out; unfold maxLen; omega) (by have := HLEN.out; omega) (by have := HX9.out.size; omega) ?_); intro va xa hown hg hat; clear tA6; have HXa := Lib.hid (HX9.out.grow HO9.out hg); rw [← u8s_append] at hown; have HOa := Lib.hid hown; clear hown hg hat; have q10_5 := HXa.out.cell (i := 5) (v := .int .i64 (K : Int)) rfl)
    | (at_builtin; go_must (refine wpList_append_reads _ rfl (.tmp 57) (.tmp 61) rfl Tryd.u8s' (w.heap.size + 1) va ((ordB row).length + 1 + 1 + (ordB qual).length + 1 + 8 + 8) (u8s (((((((ordB row) ++ [UInt8.ofNat F]) ++ [1]) ++ ordB qual) ++ [1]) ++ numK T) ++ numK S)) rfl (HOa.out.alloc _) (xa.heap.size + 1) (some ⟨xa.heap.size, 0, none⟩) 1 1 (u8s ([UInt8.ofNat K])) rfl (by exact reads_lit xa _ ([UInt8.ofNat K]) _ _ (by show [_] = [u8v _]; rw [u8v_mod])) (u8s_one _) (by have := HLEN.out; unfold maxLen; omega) (by have := HLEN.out; omega) (by have := HXa.out.size; simp; omega) ?_); intro vb xb hown hg hat; have HXb := Lib.hid ((HXa.out.alloc _).grow (HOa.out.alloc _) hg); rw [← u8s_append] at hown; have HOb := Lib.hid hown; clear hown hg hat))
  go_ret
  have hf : ((((((((ordB row) ++ [UInt8.ofNat F]) ++ [1]) ++ ordB qual) ++ [1]) ++ numK T) ++ numK S) ++ [UInt8.ofNat K]) = keyE ⟨row, F, qual, T, S, (K : Int), []⟩ := by
    unfold keyE tailK qualK
    have a5 : ¬ ((K : Int) = 5) := by have := HK5.out; omega
    have e5 : ((K : Int) == 5) = false := hkk5
    have e4 : ((K : Int) == 4) = false := hkk4
    rw [if_neg a5]
    simp only [e5, e4]
    simp [flg]
  have := HOb.out
  rw [hf] at this
  exact bytes_post (own_low this (Nat.le_succ _)) HXb.out.up

theorem rkey_any (e : Ent) (hz : checkE e = 0) (A : Option Addr) (n c : Nat) (B : Option Addr) (m d : Nat) (D : Option Addr) (v q : Nat) (w : World) (h : En w A n c B m d D v q e) :
    Calls Tryd.prog 87 #[entV A n c B m d D v q e] w (BytesPost 5 (keyE e) w) := by
  obtain ⟨row, f, qual, t, s, k, val⟩ := e
  have hl1 : row.length = n := h.row.len
  have hl2 : qual.length = m := h.qual.len
  have hl3 : val.length = v := h.val.len
  have hc : checkE ⟨row, f, qual, t, s, k, val⟩ = checkN n f m t s k v := by unfold checkE; simp only [hl1, hl2, hl3]
  rw [hc] at hz
  obtain ⟨z1, z2, z3, z4, z5, z6, -⟩ := checkN_ok hz
  obtain ⟨F, rfl⟩ : ∃ F : Nat, f = F := ⟨f.toNat, by omega⟩
  obtain ⟨T, rfl⟩ : ∃ T : Nat, t = T := ⟨t.toNat, by omega⟩
  obtain ⟨S, rfl⟩ : ∃ S : Nat, s = S := ⟨s.toNat, by omega⟩
  obtain ⟨K, rfl⟩ : ∃ K : Nat, k = K := ⟨k.toNat, by omega⟩
  by_cases hk : K = 5
  · subst hk
    exact rkey_five row qual A n c F B m d T S D v q w h.row h.qual hz
  · by_cases hk4 : K = 4
    · subst hk4
      exact rkey_four row qual A n c F B m d T S D v q w h.row h.qual hz
    · exact rkey_more row qual A n c F B m d T S K D v q w h.row h.qual hz hk hk4
set_option maxRecDepth 100000 in
set_option maxHeartbeats 1000000 in
theorem rKey_any (e : Ent) (A : Option Addr) (n c : Nat) (B : Option Addr) (m d : Nat) (D : Option Addr) (v q : Nat) (w : World) (h : En w A n c B m d D v q e) :
    Calls Tryd.prog 56 #[entV A n c B m d D v q e] w (BytesPost2 5 (KeyE e).1 (KeyE e).2 w) := by
  have hl1 := h.row.len
  have hl2 := h.qual.len
  have hl3 := h.val.len
  have HC : Hid (checkN n e.fam m e.ts e.seq e.kind v = checkE e) := Lib.hid (by unfold checkE; simp only [hl1, hl2, hl3])
  have HX0 := Lib.hid (Bx.new w #[.slice A n c, .int .i64 e.fam, .slice B m d, .int .i64 e.ts, .int .i64 e.seq, .int .i64 e.kind, .slice D v q] 37)
  obtain ⟨z, hz⟩ : ∃ z, z = checkE e := ⟨_, rfl⟩
  have HZ := Lib.hid hz
  unfold KeyE
  rw [← hz]
  unfold entV
  by_cases h0 : z = 0
  · subst h0
    have HK : Hid (∀ x, Below w.heap.size w x → Calls Tryd.prog 87 #[.agg #[.slice A n c, .int .i64 e.fam, .slice B m d, .int .i64 e.ts, .int .i64 e.seq, .int .i64 e.kind, .slice D v q]] x (BytesPost 5 (keyE e) x)) := Lib.hid fun x hx => rkey_any e hz.symm A n c B m d D v q x (h.later hx)
    rw [if_pos rfl]
    clear hz h hl1 hl2 hl3
    go_enter Tryd.func56, Tryd.ntmps56
    go_wp2_with (first
      | (go_at_call 42; go_must (refine (rCheck_any _ _ _ _ _ _ _ _ _ _ _ _ _ _).mono ?_); rintro e' x1 ⟨rfl, hb1⟩; rw [HC.out, ← HZ.out]; have HX1 := Lib.hid (HX0.out.later hb1); clear hb1 HX0; have q0 := HX1.out.cell (i := 0) (v := .slice A n c) rfl; have q1 := HX1.out.cell (i := 1) (v := .int .i64 e.fam) rfl; have q2 := HX1.out.cell (i := 2) (v := .slice B m d) rfl; have q3 := HX1.out.cell (i := 3) (v := .int .i64 e.ts) rfl; have q4 := HX1.out.cell (i := 4) (v := .int .i64 e.seq) rfl; have q5 := HX1.out.cell (i := 5) (v := .int .i64 e.kind) rfl; have q6 := HX1.out.cell (i := 6) (v := .slice D v q) rfl)
      | (go_at_call 87; go_must (refine (HK.out _ HX1.out.up).mono ?_); rintro e' x2 ⟨A2, c2, rfl, hO2, hb2⟩; have HO2 := Lib.hid hO2; have HB2 := Lib.hid (HX1.out.up.trans (hb2.mono HX1.out.up.size)); clear hO2 hb2))
    go_ret2
    exact ⟨A2, c2, rfl, HO2.out.rebase HX1.out.up.size, HB2.out⟩
  · rw [if_neg h0]
    have hd : (z != 0) = true := by rw [bne_iff_ne]; exact h0
    clear hz h hl1 hl2 hl3 h0
    go_enter Tryd.func56, Tryd.ntmps56
    go_wp2_with (go_at_call 42; go_must (refine (rCheck_any _ _ _ _ _ _ _ _ _ _ _ _ _ _).mono ?_); rintro e' x1 ⟨rfl, hb1⟩; rw [HC.out, ← HZ.out]; have HX1 := Lib.hid (HX0.out.later hb1); clear hb1 HX0)
    go_ret2
    exact bytes_none2 HX1.out.up
end Go.Proofs.YtmigjipfomfacaaDoor

/-
  strataref2.ParseKey walked. (Printed by gen_parse.py.)
-/
namespace Go.Proofs.YtmigjipfomfacaaDoor
open Go.RowKit

end Go.Proofs.YtmigjipfomfacaaDoor

/-
  strataref2.ParseKey: the ways together.
-/
namespace Go.Proofs.YtmigjipfomfacaaDoor
open Go.RowKit

def RPost (b : List UInt8) (o : Option (Ent × Nat)) (w : World) : Ending → World → Prop := EntPost (fun v => .tuple #[v, .int .i64 (ParseKeyO b o).2]) (ParseKeyO b o).1 w
theorem keyE_ok {e : Ent} (h : checkE e = 0) : KeyE e = (keyE e, 0) := by unfold KeyE; rw [if_pos h]
theorem keyE_bad {e : Ent} (h : checkE e ≠ 0) : KeyE e = ([], checkE e) := by unfold KeyE; rw [if_neg h]
theorem rpost_ok {b : List UInt8} {E : Ent} {p : Nat} {w : World} (h1 : checkE E = 0) (h2 : keyE E = b) {f : FuncId} {args : Array Value} (h : Calls Tryd.prog f args w (EntPost (fun v => .tuple #[v, .int .i64 0]) E w)) : Calls Tryd.prog f args w (RPost b (some (E, p)) w) := by
  unfold RPost ParseKeyO
  simp only
  rw [if_pos ⟨h1, h2⟩]
  exact h
theorem rpost_no {b : List UInt8} {E : Ent} {p : Nat} {w : World} (hn : ¬ (checkE E = 0 ∧ keyE E = b)) {f : FuncId} {args : Array Value} (h : Calls Tryd.prog f args w (EntPost (fun v => .tuple #[v, .int .i64 27]) noEnt w)) : Calls Tryd.prog f args w (RPost b (some (E, p)) w) := by
  unfold RPost ParseKeyO
  simp only
  rw [if_neg hn]
  exact h
theorem not_end {b : List UInt8} {E : Ent} {p : Nat} (h : parseE b = some (E, p)) (hp : p ≠ b.length) : ¬ (checkE E = 0 ∧ keyE E = b) := by
  rintro ⟨h1, h2⟩
  have := parse_key (ok_of h1)
  rw [h2, h] at this
  injection this with this
  injection this with _ this
  exact hp this
end Go.Proofs.YtmigjipfomfacaaDoor

/-
  The reference's ReadUint and ReadBytes, walked.
-/
namespace Go.Proofs.YtmigjipfomfacaaDoor
open Go.RowKit

theorem ref_any (V U j x : Nat) (hj : j ≤ 9) (hx : j = 9 → x ≤ 1) (hU : U = 2 ^ (7 * j)) (hV : V < U) :
    ∃ Q S T : Nat, IntKind.u64.wrap ((U : Int) * ((x : Int) % 128)) = (Q : Int) ∧ IntKind.u64.wrap ((V : Int) + (Q : Int)) = (S : Int) ∧ IntKind.u64.wrap ((U : Int) * 128) = (T : Int) ∧ S = V + x % 128 * 2 ^ (7 * j) ∧ (j ≤ 8 → T = 2 ^ (7 * (j + 1)) ∧ S < T) := by
  by_cases h : j ≤ 8
  · obtain ⟨e1, e2, e3, e4, e5⟩ := ref_step V U j x h hU hV
    exact ⟨_, _, _, e1, e2, e3, rfl, fun _ => ⟨e5, e4⟩⟩
  · obtain rfl : j = 9 := by omega
    rw [show (2 : Nat) ^ (7 * 9) = 9223372036854775808 from by decide] at hU
    subst hU
    obtain ⟨e1, e2⟩ := ref_last V x (hx rfl) hV
    refine ⟨_, _, (IntKind.u64.wrap ((9223372036854775808 : Int) * 128)).toNat, e1, e2, ?_, rfl, fun h => absurd h (by omega)⟩
    decide

end Go.Proofs.YtmigjipfomfacaaDoor

/-
  strataref2.Unpack walked. (Printed by gen_unpack.py.)
-/
namespace Go.Proofs.YtmigjipfomfacaaDoor
open Go.RowKit

end Go.Proofs.YtmigjipfomfacaaDoor

/-
  The ways that the reading of a packed entry goes. No program in sight.
-/
namespace Go.Proofs.YtmigjipfomfacaaDoor
open Go.RowKit

theorem unpack_cases (b : List UInt8) (a : Int) {C : Ent × Nat × Int → Prop}
    (u1 : ∀ K p er, readBy b a 1048 = (K, p, er) → er ≠ 0 → C (noEnt, 0, (er : Int)))
    (u2 : ∀ K p E z, K.length ≤ 1048 → readBy b a 1048 = (K, p, 0) → z ≠ 0 → ParseKeyE K = (E, z) → C (noEnt, 0, 29))
    (u3 : ∀ K p E V p2 er, K.length ≤ 1048 → readBy b a 1048 = (K, p, 0) → ParseKeyE K = (E, 0) → readBy b (p : Int) 4096 = (V, p2, er) → er ≠ 0 → C (noEnt, 0, (er : Int)))
    (u4 : ∀ K p E V p2, K.length ≤ 1048 → readBy b a 1048 = (K, p, 0) → ParseKeyE K = (E, 0) → readBy b (p : Int) 4096 = (V, p2, 0) → V.length ≤ 4096 → E.kind ≠ 1 → 0 < V.length → C (noEnt, 0, 29))
    (ok : ∀ K p E V p2, K.length ≤ 1048 → readBy b a 1048 = (K, p, 0) → ParseKeyE K = (E, 0) → readBy b (p : Int) 4096 = (V, p2, 0) → V.length ≤ 4096 → E.kind = 1 ∨ V.length = 0 → C ({ E with val := V }, p2, 0)) :
    C (UnpackE b a) := by
  unfold UnpackE
  obtain ⟨K, p, er, h1⟩ : ∃ K p er, readBy b a 1048 = (K, p, er) := ⟨_, _, _, rfl⟩
  have hm := readBy_most b a 1048
  rw [h1] at hm ⊢
  simp only at hm ⊢
  by_cases he : er = 0
  · subst he
    have hK : K.length ≤ 1048 := by have := hm rfl; omega
    rw [if_neg (by simp)]
    obtain ⟨E, z, hp⟩ : ∃ E z, ParseKeyE K = (E, z) := ⟨_, _, rfl⟩
    rw [hp]
    simp only
    by_cases hz : z = 0
    · subst hz
      rw [if_neg (by simp)]
      unfold UnpackV
      obtain ⟨V, p2, er, h3⟩ : ∃ V p2 er, readBy b (p : Int) 4096 = (V, p2, er) := ⟨_, _, _, rfl⟩
      have hm2 := readBy_most b (p : Int) 4096
      rw [h3] at hm2 ⊢
      simp only at hm2 ⊢
      by_cases he : er = 0
      · subst he
        have hV : V.length ≤ 4096 := by have := hm2 rfl; omega
        rw [if_neg (by simp)]
        by_cases hh : E.kind ≠ 1 ∧ 0 < V.length
        · rw [if_pos hh]
          exact u4 K p E V p2 hK h1 hp h3 hV hh.1 hh.2
        · rw [if_neg hh]
          refine ok K p E V p2 hK h1 hp h3 hV ?_
          by_cases hk : E.kind = 1
          · exact .inl hk
          · exact .inr (by have : ¬ 0 < V.length := fun h => hh ⟨hk, h⟩; omega)
      · rw [if_pos he]
        exact u3 K p E V p2 er hK h1 hp h3 he
    · rw [if_pos hz]
      exact u2 K p E z hK h1 hz hp
  · rw [if_pos he]
    exact u1 K p er h1 he
theorem unpack_out {b : List UInt8} {a : Int} (h : a < 0 ∨ (b.length : Int) < a) : UnpackE b a = (noEnt, 0, 1) := by
  unfold UnpackE
  have : readBy b a 1048 = ([], 0, 1) := by unfold readBy; rw [if_pos (by omega)]
  rw [this]
  rfl
end Go.Proofs.YtmigjipfomfacaaDoor

/-
  Unpack: the ways together (program and reference).
-/
namespace Go.Proofs.YtmigjipfomfacaaDoor
open Go.RowKit

def UPost (r : Ent × Nat × Int) (w : World) : Ending → World → Prop := EntPost (fun v => .tuple #[v, .int .i64 (r.2.1 : Int), .int .i64 r.2.2]) r.1 w
end Go.Proofs.YtmigjipfomfacaaDoor

/-
  Boxes, more of them: the second box filled, a boxed result alone.
-/
namespace Go.Proofs.YtmigjipfomfacaaDoor
open Go.RowKit

section
variable {w x y : World} {T : TypeId} {rs : RowL}
theorem Bt.s1_6 {c0 : Array Value} {a0 a1 a2 a3 a4 a5 a6 : Value} {r : List (Array Value)} (u : Value) (h : Bt T w (c0 :: #[a0, a1, a2, a3, a4, a5, a6] :: r) rs x) : Bt T w (c0 :: #[a0, a1, a2, a3, a4, a5, u] :: r) rs (x.setCell ⟨w.heap.size + 1, 6, none⟩ u) := h.set (j := 1) 6 u rfl (show 6 < 7 by decide)
theorem Bt.fill7_1 {c0 c1 : Array Value} {r : List (Array Value)} (h : Bt T w (c0 :: c1 :: r) rs x) (hc : c1.size = 7) (v0 v1 v2 v3 v4 v5 v6 : Value) : Bt T w (c0 :: #[v0, v1, v2, v3, v4, v5, v6] :: r) rs
    (((((((x.setCell ⟨w.heap.size + 1, 0, none⟩ v0).setCell ⟨w.heap.size + 1, 1, none⟩ v1).setCell ⟨w.heap.size + 1, 2, none⟩ v2).setCell ⟨w.heap.size + 1, 3, none⟩ v3).setCell ⟨w.heap.size + 1, 4, none⟩ v4).setCell ⟨w.heap.size + 1, 5, none⟩ v5).setCell ⟨w.heap.size + 1, 6, none⟩ v6) := by
  obtain ⟨l⟩ := c1
  match l, hc with
  | [b0, b1, b2, b3, b4, b5, b6], _ => exact Bt.s1_6 v6 (Bt.s1_5 v5 (Bt.s1_4 v4 (Bt.s1_3 v3 (Bt.s1_2 v2 (Bt.s1_1 v1 (Bt.s1_0 v0 h))))))
theorem Bxs.cells1 {cs : List (Array Value)} (h : Bxs w cs x) {c : Array Value} (hj : cs[1]? = some c) : ∀ j v, c[j]? = some v → x.cell? ⟨w.heap.size + 1, j, none⟩ = some v := fun j v hv => h.cell 1 c j v hj hv
theorem results_box0 {P : Program} {fn : Func} {p : Tmp} {ty : TypeId} (h : fn.results = #[.cell p ty]) (tmps : Array Value) (w : World) (g : Nat) (cs : Array Value)
    (hp : tmps.getD p undef = .pointer (some ⟨g, 0, none⟩)) (hc : ∀ j v, cs[j]? = some v → w.cell? ⟨g, j, none⟩ = some v)
    (ha : (P.underlying ty).map (fun d => match d with | .struct _ | .array _ _ => true | _ => false) = some true) (hi : (P.info? ty).map (·.size) = some cs.size) :
    (results fn tmps).run P w = .ok (.agg cs) w := by
  have hp' : tmps[p]?.getD undef = .pointer (some ⟨g, 0, none⟩) := by simpa using hp
  simp [results, h, hp', asAddr, run_loadVar_at hc ha hi]
end
end Go.Proofs.YtmigjipfomfacaaDoor

/-
  The laws' same, copied, sameEntry, at, walked. (Printed by gen_blockl1.py.)
-/
namespace Go.Proofs.YtmigjipfomfacaaDoor
open Go.RowKit

set_option maxRecDepth 100000 in
set_option maxHeartbeats 1000000 in
theorem same_any (a b : List UInt8) (A B : Option Addr) (n c m d : Nat) (w : World) (hn : n ≤ 9223372036854775807) (ha : RB w w.heap.size A n a) (hb : RB w w.heap.size B m b) :
    Calls Tryd.prog 16 #[.slice A n c, .slice B m d] w fun e w' => e = .returned (.bool (a == b)) ∧ Below w.heap.size w w' := by
  have HLA := Lib.hid ha.len
  have HLB := Lib.hid hb.len
  have HA : Hid (∀ w', Below w.heap.size w w' → RB w' w'.heap.size A n a) := Lib.hid fun w' h => ha.later h
  have HB : Hid (∀ w', Below w.heap.size w w' → RB w' w'.heap.size B m b) := Lib.hid fun w' h => hb.later h
  clear ha hb
  by_cases hnm : n = m
  case neg =>
    have HE : Hid ((a == b) = false) := Lib.hid (by rw [beq_eq_false_iff_ne]; intro h; exact hnm (by rw [← HLA.out, ← HLB.out, h]))
    have hd : ((n : Int) != (m : Int)) = true := by rw [bne_iff_ne]; omega
    have hd2 : (n != m) = true := by rw [bne_iff_ne]; omega
    clear hnm
    go_enter Tryd.func16, Tryd.ntmps16
    go_wp2
    go_ret
    exact ⟨by rw [HE.out]; rfl, Below.refl _ _⟩
  subst hnm
  go_enter Tryd.func16, Tryd.ntmps16
  go_wp2
  go_loopw [5] (fun i wr => ∃ k : Nat, k ≤ n ∧ i = .int .i64 k ∧ Hid (a.take k = b.take k) ∧ Hid (Below w.heap.size w wr)) (fun i _ => n - (intOf i).toNat)
  case atStart => exact ⟨0, Nat.zero_le _, rfl, Lib.hid rfl, Lib.hid (Below.refl _ _)⟩
  case round =>
    obtain ⟨k, hkn, rfl, HT, HW⟩ := hrel
    by_cases hlt : k < n
    case neg =>
      have HE : Hid ((a == b) = true) := Lib.hid (by
        have h := HT.out
        rw [List.take_of_length_le (by have := HLA.out; omega), List.take_of_length_le (by have := HLB.out; omega)] at h
        rw [h]; simp)
      have hd1 : decide ((k : Int) < (n : Int)) = false := decide_eq_false (by omega)
      have hd2 : decide (k < n) = false := decide_eq_false hlt
      go_wp2
      go_ret
      exact ⟨by rw [HE.out]; rfl, HW.out⟩
    have hd1 : decide ((k : Int) < (n : Int)) = true := decide_eq_true (by omega)
    have hd2 : decide (k < n) = true := decide_eq_true hlt
    have hk1 : (k : Int) < (n : Int) := by omega
    obtain ⟨b1, o1, x, rfl, _, hx, _⟩ := (HA.out _ HW.out).at_ hlt
    obtain ⟨b2, o2, y, rfl, _, hy, _⟩ := (HB.out _ HW.out).at_ hlt
    have HX := Lib.hid hx
    have HY := Lib.hid hy
    have c1 := (HA.out _ HW.out).cell HX.out
    have c2 := (HB.out _ HW.out).cell HY.out
    clear hx hy
    by_cases hxy : x = y
    case neg =>
      have HE : Hid ((a == b) = false) := Lib.hid (by
        rw [beq_eq_false_iff_ne]; intro h
        have h1 := HX.out; have h2 := HY.out
        rw [h, h2] at h1; injection h1 with h1; exact hxy h1.symm)
      have e1 : ((x.toNat : Int) != (y.toNat : Int)) = true := by rw [bne_iff_ne]; intro h; exact hxy (UInt8.toNat_inj.1 (by omega))
      have e2 : (x.toNat != y.toNat) = true := by rw [bne_iff_ne]; intro h; exact hxy (UInt8.toNat_inj.1 h)
      have HW2 := Lib.hid (fun k => below_drewN (n := k) HW.out)
      clear hxy
      go_wp2_with fail
      go_quiet (fail)
      have HW3 := Lib.hid (HW2.out nq)
      clear c1 c2
      generalize wr.drewN nq = w3 at *
      go_wp2
      go_ret
      exact ⟨by rw [HE.out]; rfl, HW3.out⟩
    subst hxy
    have HE := Lib.hid (cmp_eq_at HT.out HX.out HY.out)
    have e1 : ((x.toNat : Int) != (x.toNat : Int)) = false := by simp
    have HW2 := Lib.hid (fun k => below_drewN (n := k) HW.out)
    go_wp2_with fail
    go_quiet (fail)
    have HW3 := Lib.hid (HW2.out nq)
    clear c1 c2
    generalize wr.drewN nq = w3 at *
    go_wp2
    go_roundw
    case rel => exact ⟨k + 1, by omega, by go_num, HE, HW3⟩
    case measure => simp [intOf]; omega

set_option maxRecDepth 100000 in
set_option maxHeartbeats 1000000 in
theorem copied_any (l : List UInt8) (A : Option Addr) (n c : Nat) (w : World) (hn : n ≤ 140737488355000) (hr : RB w w.heap.size A n l) :
    Calls Tryd.prog 92 #[.slice A n c] w (BytesPost 5 l w) := by
  have HR := Lib.hid hr
  clear hr
  go_enter Tryd.func92, Tryd.ntmps92
  go_wp2_with (at_builtin; go_must (refine wpList_append_reads _ rfl (.tmp 4) (.tmp 5) rfl Tryd.u8s' w.heap.size (.slice none 0 0) 0 [] rfl (own_nil _ _ _ _) _ A n c (u8s l) rfl HR.out (u8s_one _) (by unfold maxLen; omega) (by omega) (Nat.le_refl _) ?_); intro v1 w1 hown1 hg1 hat1; have HB1 := Lib.hid (below_app (Below.refl w.heap.size w) (own_nil _ w.heap.size 5 1) hg1 (Nat.le_refl _) (Nat.le_refl _)); rw [List.nil_append, Nat.zero_add] at hown1; have HO1 := Lib.hid hown1; clear hown1 hg1 hat1)
  go_ret
  exact bytes_post HO1.out HB1.out

set_option maxRecDepth 100000 in
set_option maxHeartbeats 2000000 in
theorem sameEntry_any (a b : Ent) (A : Option Addr) (n c : Nat) (B : Option Addr) (m d : Nat) (D : Option Addr) (v q : Nat) (A' : Option Addr) (n' c' : Nat) (B' : Option Addr) (m' d' : Nat) (D' : Option Addr) (v' q' : Nat) (w : World) (he : a = b) (ha : En w A n c B m d D v q a) (hb : En w A' n' c' B' m' d' D' v' q' b) :
    Calls Tryd.prog 15 #[entV A n c B m d D v q a, entV A' n' c' B' m' d' D' v' q' b] w fun e w1 => e = .returned (.bool true) ∧ Below w.heap.size w w1 := by
  have HT := Lib.hid (Two.new w 37 #[.slice A n c, .int .i64 a.fam, .slice B m d, .int .i64 a.ts, .int .i64 a.seq, .int .i64 a.kind, .slice D v q] #[.slice A' n' c', .int .i64 b.fam, .slice B' m' d', .int .i64 b.ts, .int .i64 b.seq, .int .i64 b.kind, .slice D' v' q'])
  have HA : Hid (∀ x, Below w.heap.size w x → En x A n c B m d D v q a) := Lib.hid fun x h => ha.later h
  have HC : Hid (∀ x, Below w.heap.size w x → En x A' n' c' B' m' d' D' v' q' b) := Lib.hid fun x h => hb.later h
  have HLE : Hid (n ≤ 9223372036854775807 ∧ m ≤ 9223372036854775807 ∧ v ≤ 9223372036854775807) := Lib.hid ⟨ha.row.le, ha.qual.le, ha.val.le⟩
  have HQ : Hid (a.row = b.row ∧ a.qual = b.qual ∧ a.val = b.val) := Lib.hid ⟨by rw [he], by rw [he], by rw [he]⟩
  have XS : Hid (∀ l : List UInt8, (l == l) = true) := Lib.hid (by simp)
  have e1 : a.fam = b.fam := by rw [he]
  have e2 : a.ts = b.ts := by rw [he]
  have e3 : a.seq = b.seq := by rw [he]
  have e4 : a.kind = b.kind := by rw [he]
  unfold entV
  rw [e1, e2, e3, e4] at HT ⊢
  clear ha hb he e1 e2 e3 e4
  have tok1 : True := trivial
  have tok2 : True := trivial
  go_enter Tryd.func15, Tryd.ntmps15
  go_wp2_with (first
    | (go_at_call 16; have _t := tok1; go_must (refine (same_any a.row a.row _ _ _ _ _ _ _ HLE.out.1 (HA.out _ HT.out.up).row.rb (by have h := (HC.out _ HT.out.up).row.rb; rw [← HQ.out.1] at h; exact h)).mono ?_); rw [XS.out]; rintro e x1 ⟨rfl, hb1⟩; have HT1 := Lib.hid (HT.out.later hb1); clear hb1 tok1; have a2 := boxed1 HT1.out (i := 2) (v := .slice B m d) rfl; have b2 := boxed2 HT1.out (i := 2) (v := .slice B' m' d') rfl)
    | (go_at_call 16; have _t := tok2; go_must (refine (same_any a.qual a.qual _ _ _ _ _ _ _ HLE.out.2.1 (HA.out _ HT1.out.up).qual.rb (by have h := (HC.out _ HT1.out.up).qual.rb; rw [← HQ.out.2.1] at h; exact h)).mono ?_); rw [XS.out]; rintro e x2 ⟨rfl, hb2⟩; have HT2 := Lib.hid (HT1.out.later hb2); clear hb2 tok2; have a6 := boxed1 HT2.out (i := 6) (v := .slice D v q) rfl; have b6 := boxed2 HT2.out (i := 6) (v := .slice D' v' q') rfl)
    | (go_at_call 16; go_must (refine (same_any a.val a.val _ _ _ _ _ _ _ HLE.out.2.2 (HA.out _ HT2.out.up).val.rb (by have h := (HC.out _ HT2.out.up).val.rb; rw [← HQ.out.2.2] at h; exact h)).mono ?_); rw [XS.out]; rintro e x3 ⟨rfl, hb3⟩; have HT3 := Lib.hid (HT2.out.later hb3); clear hb3))
  go_ret
  exact ⟨rfl, HT3.out.up⟩

theorem conv_const (W : World) (C : Array Value) (n c g : Nat) (hg : g = W.heap.size) : (convert 24 24 (.slice (some ⟨g, 0, none⟩) n c)).run Tryd.prog (W.alloc (.cells C 5)) = .ok (.slice (some ⟨g, 0, none⟩) n c) (W.alloc (.cells C 5 (C.size, C.size + 1))) := by
  subst hg; exact Lib.run_convert_bytes_const (P := Tryd.prog) W 24 5 C n c Tryd.underlying24 Tryd.underlying5
theorem three_lits (w : World) (o : Obj) (a b d : UInt8) (t : TypeId) (fr : Nat × Nat) : ∀ W, W = (((w.alloc o).alloc (.cells #[u8v a] t fr)).alloc (.cells #[u8v b] t fr)).alloc (.cells #[u8v d] t fr) →
    Sl W (some ⟨w.heap.size + 1, 0, none⟩) 1 1 [a] ∧ Sl W (some ⟨w.heap.size + 1 + 1, 0, none⟩) 1 1 [b] ∧ Sl W (some ⟨w.heap.size + 1 + 1 + 1, 0, none⟩) 1 1 [d] ∧ Below (w.alloc o).heap.size (w.alloc o) W := by
  rintro W rfl
  have hz : ∀ (x : World) (o : Obj), (x.alloc o).heap.size = x.heap.size + 1 := fun x o => by show (x.heap.push _).size = _; simp
  have hb : ∀ (x : World) (o : Obj), Below x.heap.size x (x.alloc o) := fun x o => (Below.refl _ x).alloc (Nat.le_refl _) o
  have s1 := Sl.lit (w.alloc o) #[u8v a] [a] t fr rfl rfl (by show (1 : Nat) ≤ 9223372036854775807; decide)
  have s2 := Sl.lit ((w.alloc o).alloc (.cells #[u8v a] t fr)) #[u8v b] [b] t fr rfl rfl (by show (1 : Nat) ≤ 9223372036854775807; decide)
  have s3 := Sl.lit (((w.alloc o).alloc (.cells #[u8v a] t fr)).alloc (.cells #[u8v b] t fr)) #[u8v d] [d] t fr rfl rfl (by show (1 : Nat) ≤ 9223372036854775807; decide)
  rw [hz w o] at s1
  rw [hz _ _, hz w o] at s2
  rw [hz _ _, hz _ _, hz w o] at s3
  exact ⟨(s1.later (hb _ _)).later (hb _ _), s2.later (hb _ _), s3, ((hb _ _).trans ((hb _ _).mono (by rw [hz (w.alloc o)]; omega))).trans ((hb _ _).mono (by rw [hz ((w.alloc o).alloc _), hz (w.alloc o)]; omega))⟩

def atE (ts : Int) : Ent := ⟨[114], 0, [113], ts, 32, 1, [118]⟩
def AtPost (ts : Int) (w : World) (r : Ending) (w' : World) : Prop := ∃ A B D, r = .returned (entV A 1 1 B 1 1 D 1 1 (atE ts)) ∧ En w' A 1 1 B 1 1 D 1 1 (atE ts) ∧ Below w.heap.size w w'
set_option maxRecDepth 100000 in
set_option maxHeartbeats 2000000 in
theorem atE_any (ts : Int) (w : World) : Calls Tryd.prog 20 #[.int .i64 ts] w (AtPost ts w) := by
  have kc := conv_const
  go_enter Tryd.func20, Tryd.ntmps20
  go_wp2
  (try simp only [Exit.inBlock, Exit.then])
  obtain ⟨h1, h2, h3, hb⟩ := three_lits w (.cells #[.slice (some ⟨w.heap.size + 1, 0, none⟩) 1 1, .int .i64 0, .slice (some ⟨w.heap.size + 1 + 1, 0, none⟩) 1 1, .int .i64 ts, .int .i64 32, .int .i64 1, .slice (some ⟨w.heap.size + 1 + 1 + 1, 0, none⟩) 1 1] 37) 114 113 118 5 (1, 2) _ rfl
  have HB := (Bxs.one w 37 #[.slice (some ⟨w.heap.size + 1, 0, none⟩) 1 1, .int .i64 0, .slice (some ⟨w.heap.size + 1 + 1, 0, none⟩) 1 1, .int .i64 ts, .int .i64 32, .int .i64 1, .slice (some ⟨w.heap.size + 1 + 1 + 1, 0, none⟩) 1 1]).later hb
  refine bodyPost_ret (results_box0 rfl _ _ w.heap.size _ rfl (HB.cells0 rfl) (by kernel_rfl) (by kernel_rfl)) rfl ?_
  exact ⟨_, _, _, rfl, ⟨h1, h2, h3⟩, HB.up⟩
end Go.Proofs.YtmigjipfomfacaaDoor

/-
  Blocks: how one is laid out; plain laws.
-/
namespace Go.Proofs.YtmigjipfomfacaaDoor

/-- How many first bytes two byte strings have in common. -/
def shareN : List UInt8 → List UInt8 → Nat
  | a :: az, b :: bs => if a = b then shareN az bs + 1 else 0
  | _, _ => 0
theorem shareN_le : ∀ a b : List UInt8, shareN a b ≤ a.length ∧ shareN a b ≤ b.length
  | [], b => ⟨Nat.zero_le _, Nat.zero_le _⟩
  | a :: az, [] => ⟨Nat.zero_le _, Nat.zero_le _⟩
  | a :: az, b :: bs => by
    unfold shareN
    split
    · have := shareN_le az bs; exact ⟨Nat.succ_le_succ this.1, Nat.succ_le_succ this.2⟩
    · exact ⟨Nat.zero_le _, Nat.zero_le _⟩
theorem shareN_take : ∀ a b : List UInt8, a.take (shareN a b) = b.take (shareN a b)
  | [], b => by simp [shareN]
  | a :: az, [] => by simp [shareN]
  | a :: az, b :: bs => by
    unfold shareN
    split
    · rename_i h; subst h; simp [shareN_take az bs]
    · simp
/-- The loop's test. -/
theorem shareN_test : ∀ (a b : List UInt8) (k : Nat), k ≤ shareN a b → (k < shareN a b ↔ k < a.length ∧ k < b.length ∧ a[k]? = b[k]?)
  | [], b, k, h => by simp [shareN] at h ⊢
  | a :: az, [], k, h => by simp [shareN] at h ⊢
  | a :: az, b :: bs, k, h => by
    unfold shareN at h ⊢
    split at h
    · rename_i e
      rw [if_pos e]
      subst e
      cases k with
      | zero => simp
      | succ k =>
        have := shareN_test az bs k (by omega)
        simp only [List.length_cons, Nat.add_lt_add_iff_right, List.getElem?_cons_succ]
        omega
    · rename_i e
      rw [if_neg e]
      obtain rfl : k = 0 := by omega
      simp
      intro h; exact absurd h e
/-- One entry's row, n bytes of its key shared with the one ahead. -/
def rowK (n : Nat) (k v : List UInt8) : List UInt8 := uintB n ++ (uintB (k.drop n).length ++ k.drop n) ++ (uintB v.length ++ v)
structure BSt where
  body : List UInt8
  places : List Nat
  key : List UInt8
  n : Nat
def bst0 : BSt := ⟨[], [], [], 0⟩
def alikeB (R : Nat) (s : BSt) (k : List UInt8) : Nat := if s.n % R = 0 then 0 else shareN s.key k
def placesB (R : Nat) (s : BSt) : List Nat := if s.n % R = 0 then s.places ++ [s.body.length] else s.places
def stepB (R : Nat) (s : BSt) (k v : List UInt8) : BSt := ⟨s.body ++ rowK (alikeB R s k) k v, placesB R s, k, s.n + 1⟩
def runE (R : Nat) (s : BSt) (l : List Ent) : BSt := l.foldl (fun s e => stepB R s (keyE e) e.val) s
def runB (R : Nat) (l : List Ent) : BSt := runE R bst0 l
theorem runB_snoc (R : Nat) (l : List Ent) (e : Ent) : runB R (l ++ [e]) = stepB R (runB R l) (keyE e) e.val := by simp [runB, runE]
theorem runB_n (R : Nat) : ∀ l : List Ent, (runB R l).n = l.length := by
  have : ∀ (l : List Ent) (s : BSt), (runE R s l).n = s.n + l.length := by
    intro l
    induction l with
    | nil => intro s; rfl
    | cons e l ih => intro s; show (runE R (stepB R s (keyE e) e.val) l).n = _; rw [ih]; simp only [stepB, List.length_cons]; omega
  intro l
  have := this l bst0
  simpa [runB, bst0] using this
def four4 (n : Nat) : List UInt8 := [UInt8.ofNat (n / 16777216), UInt8.ofNat (n / 65536), UInt8.ofNat (n / 256), UInt8.ofNat n]
theorem four4_len (n : Nat) : (four4 n).length = 4 := rfl
/-- All but the sum. -/
def headB5 (R : Nat) (s : BSt) : List UInt8 := s.body ++ s.places.flatMap four4 ++ four4 s.n ++ [UInt8.ofNat R]
def layS (R : Nat) (s : BSt) : List UInt8 := headB5 R s ++ lowB (sumL (headB5 R s))
/-- The bytes of a list of entries. -/
def layB (R : Nat) (l : List Ent) : List UInt8 := if l = [] then [] else layS R (runB R l)
def sizeS (s : BSt) : Nat := s.body.length + 4 * s.places.length + 9
theorem places_len (l : List Nat) : (l.flatMap four4).length = 4 * l.length := by
  induction l with
  | nil => rfl
  | cons a l ih => rw [List.flatMap_cons, List.length_append, ih, four4_len, List.length_cons]; omega
theorem lowB_len (s : Nat) : (lowB s).length = 4 := rfl
theorem layS_len (R : Nat) (s : BSt) : (layS R s).length = sizeS s := by
  unfold layS headB5 sizeS
  simp only [List.length_append, places_len, four4_len, lowB_len, List.length_singleton]
theorem layB_len (R : Nat) {l : List Ent} (h : l ≠ []) : (layB R l).length = sizeS (runB R l) := by
  unfold layB; rw [if_neg h, layS_len]
/-! Reading back. -/
theorem row_u (p r : List UInt8) (al : Nat) (k v : List UInt8) (ha : al < 18446744073709551616) : readU (p ++ (rowK al k v ++ r)) (p.length : Int) = (al, p.length + (uintB al).length, 0) := by
  have := readU_back p ((uintB (k.drop al).length ++ k.drop al) ++ (uintB v.length ++ v) ++ r) al ha
  unfold rowK
  simp only [List.append_assoc] at *
  exact this
theorem row_k (p r : List UInt8) (al : Nat) (k v : List UInt8) (most : Int) (hk : (k.drop al).length < 18446744073709551616) (hm : ((k.drop al).length : Int) ≤ most) :
    readBy (p ++ (rowK al k v ++ r)) ((p.length + (uintB al).length : Nat) : Int) most = (k.drop al, p.length + (uintB al).length + (uintB (k.drop al).length ++ k.drop al).length, 0) := by
  have := readBy_back (p ++ uintB al) ((uintB v.length ++ v) ++ r) (k.drop al) most hk hm
  rw [List.length_append] at this
  unfold rowK
  simp only [List.append_assoc] at *
  exact this
theorem row_v (p r : List UInt8) (al : Nat) (k v : List UInt8) (most : Int) (hv : v.length < 18446744073709551616) (hm : (v.length : Int) ≤ most) :
    readBy (p ++ (rowK al k v ++ r)) ((p.length + (uintB al).length + (uintB (k.drop al).length ++ k.drop al).length : Nat) : Int) most = (v, p.length + (rowK al k v).length, 0) := by
  have := readBy_back (p ++ uintB al ++ (uintB (k.drop al).length ++ k.drop al)) r v most hv hm
  rw [List.length_append, List.length_append] at this
  have e : p.length + (rowK al k v).length = p.length + (uintB al).length + (uintB (k.drop al).length ++ k.drop al).length + (uintB v.length ++ v).length := by
    unfold rowK; rw [List.length_append, List.length_append]; omega
  rw [e, ← this]
  unfold rowK
  simp only [List.append_assoc]
theorem runB_take (R : Nat) (L : List Ent) {i : Nat} {e : Ent} (h : L[i]? = some e) : runB R (L.take (i + 1)) = stepB R (runB R (L.take i)) (keyE e) e.val := by
  rw [take_snoc h, runB_snoc]
theorem runE_body (R : Nat) : ∀ (l : List Ent) (s : BSt), ∃ t, (runE R s l).body = s.body ++ t
  | [], s => ⟨[], by simp [runE]⟩
  | e :: l, s => by
    obtain ⟨t, h⟩ := runE_body R l (stepB R s (keyE e) e.val)
    exact ⟨rowK (alikeB R s (keyE e)) (keyE e) e.val ++ t, by show (runE R (stepB R s (keyE e) e.val) l).body = _; rw [h]; simp [stepB]⟩
theorem runB_app (R : Nat) (l m : List Ent) : runB R (l ++ m) = runE R (runB R l) m := by simp [runB, runE]
/-- What stands at the i-th entry's place. -/
theorem runB_body (R : Nat) (L : List Ent) {i : Nat} {e : Ent} (h : L[i]? = some e) : ∃ t, (runB R L).body = (runB R (L.take i)).body ++ (rowK (alikeB R (runB R (L.take i)) (keyE e)) (keyE e) e.val ++ t) := by
  have e1 : L = L.take (i + 1) ++ L.drop (i + 1) := (List.take_append_drop _ _).symm
  obtain ⟨t, ht⟩ := runE_body R (L.drop (i + 1)) (runB R (L.take (i + 1)))
  refine ⟨t, ?_⟩
  rw [congrArg (runB R) e1, runB_app, ht, runB_take R L h]
  simp [stepB]
theorem runB_key (R : Nat) : ∀ (L : List Ent) {e : Ent}, L.getLast? = some e → (runB R L).key = keyE e := fun L e h => by
  obtain ⟨l, rfl⟩ : ∃ l, L = l ++ [e] := by
    rcases List.eq_nil_or_concat L with rfl | ⟨l, a, rfl⟩
    · cases h
    · rw [List.concat_eq_append, List.getLast?_append] at h
      simp at h
      exact ⟨l, by rw [List.concat_eq_append, h]⟩
  rw [runB_snoc]; rfl
theorem alike_le (R : Nat) (s : BSt) (k : List UInt8) : alikeB R s k ≤ s.key.length ∧ alikeB R s k ≤ k.length := by
  unfold alikeB
  split
  · exact ⟨Nat.zero_le _, Nat.zero_le _⟩
  · exact shareN_le _ _
theorem alike_key (R : Nat) (s : BSt) (k : List UInt8) : s.key.take (alikeB R s k) ++ k.drop (alikeB R s k) = k := by
  have h : s.key.take (alikeB R s k) = k.take (alikeB R s k) := by
    unfold alikeB
    split
    · simp
    · exact shareN_take _ _
  rw [h, List.take_append_drop]
/-! Adding, building. -/
def lastOk (L : List Ent) (e : Ent) : Bool := match L.getLast? with
  | none => true
  | some l => decide (cmpE l e < 0)
def addC (R : Nat) (L : List Ent) (e : Ent) : Int := if checkE e ≠ 0 then checkE e else if lastOk L e = false then 30 else if 131072 < sizeS (stepB R (runB R L) (keyE e) e.val) then 53 else 0
def addL (R : Nat) (L : List Ent) (e : Ent) : List Ent := if addC R L e = 0 then L ++ [e] else L
/-- The first error's number, what was taken. -/
def buildK (R : Nat) : List Ent → List Ent → Int × List Ent
  | acc, [] => (0, acc)
  | acc, e :: r => if addC R acc e = 0 then buildK R (acc ++ [e]) r else (addC R acc e, acc)
def finE (R : Nat) (L : List Ent) : List UInt8 × Int := if L = [] then ([], 54) else (layB R L, 0)
def buildE5 (R : Int) (es : List Ent) : List UInt8 × Int := if R < 1 ∨ 16 < R then ([], 1) else if (buildK R.toNat [] es).1 = 0 then finE R.toNat es else ([], (buildK R.toNat [] es).1)
theorem buildK_ok (R : Nat) : ∀ (es acc : List Ent), (buildK R acc es).1 = 0 → (buildK R acc es).2 = acc ++ es
  | [], acc, _ => by simp [buildK]
  | e :: r, acc, h => by
    unfold buildK at h ⊢
    split
    · rename_i h0
      rw [if_pos h0] at h
      rw [buildK_ok R r _ h]; simp
    · rename_i h0
      rw [if_neg h0] at h
      exact absurd h h0
theorem buildK_app (R : Nat) : ∀ (es : List Ent) (acc : List Ent) (r : List Ent), buildK R acc (es ++ r) = if (buildK R acc es).1 = 0 then buildK R (acc ++ es) r else buildK R acc es
  | [], acc, r => by simp [buildK]
  | e :: es, acc, r => by
    show (if addC R acc e = 0 then buildK R (acc ++ [e]) (es ++ r) else (addC R acc e, acc)) = if (if addC R acc e = 0 then buildK R (acc ++ [e]) es else (addC R acc e, acc)).1 = 0 then buildK R (acc ++ e :: es) r else (if addC R acc e = 0 then buildK R (acc ++ [e]) es else (addC R acc e, acc))
    by_cases h0 : addC R acc e = 0
    · simp only [h0, ↓reduceIte]
      rw [buildK_app R es (acc ++ [e]) r]
      simp
    · simp only [h0, ↓reduceIte]
/-! How many entries there may be. -/
theorem rowK_len (al : Nat) (k v : List UInt8) : 3 ≤ (rowK al k v).length := by
  unfold rowK
  simp only [List.length_append]
  have := uintB_pos al
  have := uintB_pos (k.drop al).length
  have := uintB_pos v.length
  omega
theorem runE_many (R : Nat) : ∀ (l : List Ent) (s : BSt), 3 * s.n ≤ s.body.length → 3 * (runE R s l).n ≤ (runE R s l).body.length
  | [], _, h => h
  | e :: l, s, h => runE_many R l (stepB R s (keyE e) e.val) (by
    have := rowK_len (alikeB R s (keyE e)) (keyE e) e.val
    simp only [stepB, List.length_append]; omega)
theorem runB_many (R : Nat) (l : List Ent) : 3 * (runB R l).n ≤ (runB R l).body.length := runE_many R l bst0 (Nat.le_refl 0)
theorem n_le_size (s : BSt) (h : 3 * s.n ≤ s.body.length) : 3 * s.n ≤ sizeS s := by unfold sizeS; omega
end Go.Proofs.YtmigjipfomfacaaDoor

/-
  What is written reads, in the midst of other bytes, and cut short it is torn: numbers, bytes, frames. No program in sight.
-/
namespace Go.Proofs.YtmigjipfomfacaaDoor
open Go.RowKit

theorem rdU_cut : ∀ (f i V a k : Nat), i + f = 9 → V * 2 ^ (7 * i) < 18446744073709551616 → k < (uintB V).length → rdU ((uintB V).take k) i a = (0, 0, 10) := by
  intro f
  induction f with
  | zero =>
    intro i V a k hi hV hk
    obtain rfl : i = 9 := by omega
    have hV1 : V ≤ 1 := by
      have : (2 : Nat) ^ (7 * 9) = 9223372036854775808 := by decide
      rw [this] at hV
      omega
    rw [uintB_lt (by omega)] at hk ⊢
    obtain rfl : k = 0 := by simpa using hk
    rfl
  | succ f ih =>
    intro i V a k hi hV hk
    by_cases h : V < 128
    · rw [uintB_lt h] at hk ⊢
      obtain rfl : k = 0 := by simpa using hk
      rfl
    · rw [uintB_ge (by omega)] at hk ⊢
      match k, hk with
      | 0, _ => rfl
      | k + 1, hk =>
        rw [List.take_succ_cons]
        have e : (UInt8.ofNat (V % 128 + 128)).toNat = V % 128 + 128 := by rw [UInt8.toNat_ofNat', Nat.mod_eq_of_lt (by omega)]
        have e2 : V / 128 * 2 ^ (7 * (i + 1)) + V % 128 * 2 ^ (7 * i) = V * 2 ^ (7 * i) := by
          rw [show 7 * (i + 1) = 7 * i + 7 from by omega, Nat.pow_add, Nat.mul_comm (2 ^ (7 * i)), ← Nat.mul_assoc, ← Nat.add_mul, show (2 : Nat) ^ 7 = 128 from rfl, Nat.div_add_mod']
        rw [rdU, e, if_neg (by omega), if_neg (by omega)]
        exact ih (i + 1) (V / 128) _ k (by omega) (by omega) (by simpa using hk)
theorem readU_cut (v k : Nat) (hv : v < 18446744073709551616) (hk : k < (uintB v).length) : readU ((uintB v).take k) 0 = (0, 0, 10) := by
  have h0 : rdU (((uintB v).take k).drop (Int.toNat 0)) 0 0 = (0, 0, 10) := rdU_cut 9 0 v 0 k rfl (by simpa using hv) hk
  unfold readU
  rw [if_neg (by omega), h0]
  rfl
theorem readBy_cut (s : List UInt8) (k : Nat) (hs : s.length < 18446744073709551616) (hk : k < (uintB s.length ++ s).length) : readBy ((uintB s.length ++ s).take k) 0 (s.length : Int) = ([], 0, 10) := by
  rw [List.length_append] at hk
  unfold readBy
  rw [if_neg (by omega)]
  by_cases h : k < (uintB s.length).length
  · have e : (uintB s.length ++ s).take k = (uintB s.length).take k := List.take_append_of_le_length (by omega)
    rw [e, readU_cut _ _ hs h, if_pos (by decide)]
  · obtain ⟨j, rfl⟩ : ∃ j, k = (uintB s.length).length + j := ⟨k - (uintB s.length).length, by omega⟩
    have e : (uintB s.length ++ s).take ((uintB s.length).length + j) = uintB s.length ++ s.take j := List.take_length_add_append j
    have h1 := readU_back [] (s.take j) s.length hs
    rw [List.nil_append] at h1
    have h2 : readU (uintB s.length ++ s.take j) 0 = (s.length, (uintB s.length).length, 0) := by
      rw [show (0 : Int) = ((([] : List UInt8).length : Nat) : Int) from rfl, h1]; simp
    rw [e, h2, if_neg (by simp), if_neg (by show ¬ ((s.length : Int) < (s.length : Int)); omega), if_pos (by
      show (uintB s.length ++ s.take j).length - (uintB s.length).length < s.length
      rw [List.length_append, List.length_take]; omega)]

theorem cutF_mid (a b c : List UInt8) {k m : Nat} (hk : k = a.length) (hm : m = b.length) : cutF (a ++ b ++ c) k m = b := by
  subst hk; subst hm
  unfold cutF
  rw [List.append_assoc, List.drop_left' rfl, List.take_left' rfl]
theorem cutF_take (X : List UInt8) {j m k : Nat} (h : j + m ≤ k) : cutF (X.take k) j m = cutF X j m := by
  unfold cutF
  rw [List.drop_take, List.take_take, Nat.min_eq_left (by omega)]
theorem numF_cut (X : List UInt8) (k : Nat) : numF X k = numF (cutF X k 4) 0 := by
  unfold numF cutF
  simp [List.getElem?_drop]
theorem numF_be4 (n : Nat) (h : n < 4294967296) : numF (be4 n) 0 = n := by
  unfold numF be4 numB
  simp
  omega
theorem frame_parts (p s r : List UInt8) : (p ++ frameB s ++ r = p ++ be4 s.length ++ (lowB (sumL (be4 s.length)) ++ s ++ lowB (sumL s) ++ r))
    ∧ (p ++ frameB s ++ r = (p ++ be4 s.length) ++ lowB (sumL (be4 s.length)) ++ (s ++ lowB (sumL s) ++ r))
    ∧ (p ++ frameB s ++ r = (p ++ be4 s.length ++ lowB (sumL (be4 s.length))) ++ s ++ (lowB (sumL s) ++ r))
    ∧ (p ++ frameB s ++ r = (p ++ be4 s.length ++ lowB (sumL (be4 s.length)) ++ s) ++ lowB (sumL s) ++ r) := by
  unfold frameB headF
  refine ⟨?_, ?_, ?_, ?_⟩ <;> simp
theorem readF_back (p s r : List UInt8) (hs : s.length ≤ 1048576) : readF (p ++ frameB s ++ r) p.length = (s, p.length + (s.length + 12), 0) := by
  obtain ⟨q1, q2, q3, q4⟩ := frame_parts p s r
  have c1 : cutF (p ++ frameB s ++ r) p.length 4 = be4 s.length := by rw [q1]; exact cutF_mid _ _ _ rfl rfl
  have c2 : cutF (p ++ frameB s ++ r) (p.length + 4) 4 = lowB (sumL (be4 s.length)) := by rw [q2]; exact cutF_mid _ _ _ (by rw [List.length_append]; rfl) rfl
  have c3 : cutF (p ++ frameB s ++ r) (p.length + 8) s.length = s := by rw [q3]; exact cutF_mid _ _ _ (by rw [List.length_append, List.length_append]; rfl) rfl
  have c4 : cutF (p ++ frameB s ++ r) (p.length + 8 + s.length) 4 = lowB (sumL s) := by rw [q4]; exact cutF_mid _ _ _ (by rw [List.length_append, List.length_append, List.length_append]; rfl) rfl
  have hn : numF (p ++ frameB s ++ r) p.length = s.length := by rw [numF_cut, c1, numF_be4 _ (by omega)]
  have hl : (p ++ frameB s ++ r).length = p.length + (s.length + 12) + r.length := by rw [List.length_append, List.length_append, frameB_length]
  have b2 : ∀ k u, isB (p ++ frameB s ++ r) k u = (cutF (p ++ frameB s ++ r) k 4 == lowB u) := fun _ _ => rfl
  unfold readF
  rw [b2, b2, hn, c1, c2, c3, c4, hl, if_neg (by omega), if_neg (by simp), if_neg (by omega), if_neg (by omega), if_neg (by simp)]
  simp only [Prod.mk.injEq, true_and, and_true]
  omega
theorem readFA_back (p s r : List UInt8) (hs : s.length ≤ 1048576) : readFA (p ++ frameB s ++ r) (p.length : Int) = (s, p.length + (frameB s).length, 0) := by
  unfold readFA
  rw [if_neg (by simp only [List.length_append]; omega), Int.toNat_natCast, readF_back p s r hs, frameB_length]
theorem readFA_cut (s : List UInt8) (k : Nat) (hs : s.length ≤ 1048576) (hk : k < (frameB s).length) : readFA ((frameB s).take k) 0 = ([], 0, 10) := by
  rw [frameB_length] at hk
  unfold readFA
  rw [if_neg (by omega)]
  show readF ((frameB s).take k) 0 = _
  have hl : ((frameB s).take k).length = k := by rw [List.length_take, frameB_length]; omega
  unfold readF
  by_cases h8 : k < 8
  · rw [if_pos (by omega)]
  obtain ⟨q1, q2, _, _⟩ := frame_parts [] s []
  rw [List.append_nil, List.nil_append, List.nil_append] at q1
  rw [List.append_nil, List.nil_append, List.nil_append] at q2
  have c1 : cutF ((frameB s).take k) 0 4 = be4 s.length := by rw [cutF_take _ (by omega), q1]; exact cutF_mid [] _ _ rfl rfl
  have c2 : cutF ((frameB s).take k) (0 + 4) 4 = lowB (sumL (be4 s.length)) := by rw [cutF_take _ (by omega), q2]; exact cutF_mid _ _ _ rfl rfl
  have hn : numF ((frameB s).take k) 0 = s.length := by rw [numF_cut, c1, numF_be4 _ (by omega)]
  have b2 : ∀ j u, isB ((frameB s).take k) j u = (cutF ((frameB s).take k) j 4 == lowB u) := fun _ _ => rfl
  rw [b2, b2, hn, c1, c2, hl, if_neg (by omega), if_neg (by simp), if_neg (by omega), if_pos (by omega)]
end Go.Proofs.YtmigjipfomfacaaDoor

/-
  The reference's Sealed, Frame, ReadFrame, walked.
-/
namespace Go.Proofs.YtmigjipfomfacaaDoor
open Go.RowKit

set_option maxRecDepth 100000 in
set_option maxHeartbeats 1000000 in
theorem sealed_any (l : List UInt8) (A : Option Addr) (n c : Nat) (w : World) (hs : Sl w A n c l) :
    Calls Tryd.prog 89 #[.slice A n c] w (BytesPost 5 (lowB (sumL l)) w) := by
  have f1 : Hid (∀ x : List UInt8, [x].flatten = x) := Lib.hid fun x => by simp
  have HS := Lib.hid hs
  obtain ⟨s, hsl⟩ : ∃ s, s = sumL l := ⟨_, rfl⟩
  have HSL := Lib.hid hsl
  have hs32 : s < 4294967296 := by rw [hsl]; exact sumL_lt l
  have hL : Hid (u8s (lowB s) = [.int .u8 ((s : Int) % 256), .int .u8 ((s : Int) / 256 % 256), .int .u8 ((s : Int) / 65536 % 256), .int .u8 ((s : Int) / 16777216)]) := Lib.hid (by
    show [u8v _, u8v _, u8v _, u8v _] = _
    rw [u8v_mod, u8v_mod, u8v_mod, u8v_mod]; simp only [Int.natCast_ediv]; rw [show ((s : Int) / ((16777216 : Nat) : Int) % 256) = (s : Int) / 16777216 from by omega]; rfl)
  rw [← hsl]
  clear hs hsl
  go_enter Tryd.func89, Tryd.ntmps89
  go_wp2_with (go_at_call 99; go_must (refine (rSum_any [l] _ 1 1 _ (by omega) (by exact HS.out.one _ _)).mono ?_); rintro e w1 ⟨rfl, rfl⟩; rw [f1.out, ← HSL.out])
  go_ret
  refine ⟨_, _, rfl, ?_, (((Below.refl _ _).alloc (Nat.le_refl _) _).alloc (by simp) _)⟩
  show World.ownsRow _ _ _ _ _ _ _
  rw [hL.out]
  have h := own_lit (w.alloc (.cells #[.slice A n c] 24)) #[.int .u8 ((s : Int) % 256), .int .u8 ((s : Int) / 256 % 256), .int .u8 ((s : Int) / 65536 % 256), .int .u8 ((s : Int) / 16777216)] 5 w.heap.size 4 1 (by simp) (by decide) rfl
  rw [World.size_alloc] at h
  exact h

theorem own_base {T : TypeId} {b b' : Nat} {w : World} {A : Option Addr} {c : Nat} {l : List UInt8} (h : OwnB T b w A c l) (hb : b' ≤ b) : OwnB T b' w A c l := by
  refine ⟨h.1, ?_⟩
  rcases h.2 with h | ⟨g, cap, cur, hv, hg, h⟩
  · exact .inl h
  · exact .inr ⟨g, cap, cur, hv, Nat.le_trans hb hg, h⟩
theorem ris_drop (n : Nat) (_h : n < 4294967296) : (risB n).drop 4 = be4 n := by
  simp [risB, rTo, List.range_succ, be4]
theorem be4_cutS (n : Nat) : cutS (be4 n) 0 (4 - 0) = be4 n := rfl

theorem isB_same (l : List UInt8) (k s : Nat) : (lowB s == cutF l k 4) = isB l k s := by
  unfold isB cutF
  rw [Bool.eq_iff_iff, beq_iff_eq, beq_iff_eq]
  exact ⟨Eq.symm, Eq.symm⟩
theorem big_four (l : List UInt8) (k : Nat) (h : k + 4 ≤ l.length) : big (cutS l k 4) = numF l k := by
  unfold cutS numF numB
  obtain ⟨t, ht⟩ : ∃ t, t = l.drop k := ⟨_, rfl⟩
  have hl : 4 ≤ t.length := by rw [ht, List.length_drop]; omega
  have e : ∀ j, l[k + j]? = t[j]? := fun j => by rw [ht, List.getElem?_drop]
  rw [← ht, show l[k]? = t[0]? from e 0, e 1, e 2, e 3]
  match t, hl with
  | a :: b :: c :: d :: r, _ => simp [big]
theorem cut_sl {w : World} {A : Option Addr} {n c k m : Nat} {l : List UInt8} (h : Sl w A n c l) (h1 : k + m ≤ n) (hk : k < c) : Sl w (A.map (·.add k)) m (c - k) (cutF l k m) :=
  (h.drop (k := k) (by omega) hk).take (m := m) (by omega)

end Go.Proofs.YtmigjipfomfacaaDoor

/-
  strataref2.number, first, Bytes, Compare walked. (Printed by gen_rcmp.py.)
-/
namespace Go.Proofs.YtmigjipfomfacaaDoor
open Go.RowKit

set_option maxRecDepth 100000 in
theorem rnumber_any (x y : Int) (w : World) : Calls Tryd.prog 55 #[.int .i64 x, .int .i64 y] w fun e w' => e = .returned (.int .i64 (cmpI x y)) ∧ w = w' := by
  go_enter Tryd.func55, Tryd.ntmps55
  go_wp2
  all_goals (go_ret; refine ⟨ret_int ?_, rfl⟩; unfold cmpI; (repeat' split) <;> first | rfl | (exfalso; omega))
set_option maxRecDepth 100000 in
theorem rfirst_any (x y : Bool) (w : World) : Calls Tryd.prog 77 #[.bool x, .bool y] w fun e w' => e = .returned (.int .i64 (firstI x y)) ∧ w = w' := by
  cases x <;> cases y <;> (go_enter Tryd.func77, Tryd.ntmps77; go_wp2; go_ret; exact ⟨rfl, rfl⟩)

set_option maxRecDepth 100000 in
set_option maxHeartbeats 1000000 in
theorem rBcmp_any (a b : List UInt8) (A B : Option Addr) (n c m d : Nat) (w : World) (hn : n ≤ 9223372036854775807) (_hm : m ≤ 9223372036854775807) (ha : RB w w.heap.size A n a) (hb : RB w w.heap.size B m b) :
    Calls Tryd.prog 19 #[.slice A n c, .slice B m d] w fun e w' => e = .returned (.int .i64 (cmpB a b)) ∧ Below w.heap.size w w' := by
  have HLA := Lib.hid ha.len
  have HLB := Lib.hid hb.len
  have HA : Hid (∀ w', Below w.heap.size w w' → RB w' w'.heap.size A n a) := Lib.hid fun w' h => ha.later h
  have HB : Hid (∀ w', Below w.heap.size w w' → RB w' w'.heap.size B m b) := Lib.hid fun w' h => hb.later h
  clear ha hb
  go_enter Tryd.func19, Tryd.ntmps19
  go_wp2
  go_loopw [5] (fun i wr => ∃ k : Nat, k ≤ n ∧ k ≤ m ∧ i = .int .i64 k ∧ Hid (a.take k = b.take k) ∧ Hid (Below w.heap.size w wr)) (fun i _ => n - (intOf i).toNat)
  case atStart => exact ⟨0, Nat.zero_le _, Nat.zero_le _, rfl, Lib.hid rfl, Lib.hid (Below.refl _ _)⟩
  case round =>
    obtain ⟨k, hkn, hkm, rfl, HT, HW⟩ := hrel
    by_cases hlt : k < n
    case neg =>
      have HE := Lib.hid (cmp_end HT.out HLA.out HLB.out (by omega) hkm)
      have hd1 : decide ((k : Int) < (n : Int)) = false := decide_eq_false (by omega)
      have hd2 : decide (k < n) = false := decide_eq_false hlt
      have HE2 : Hid (cmpB a b = cmpI n m) := Lib.hid (by rw [HE.out]; unfold cmpI; (repeat' split) <;> first | rfl | omega)
      clear HE
      go_wp2_with (go_at_call 55; go_must (refine (rnumber_any _ _ _).mono ?_); rintro e w1 ⟨rfl, rfl⟩)
      go_ret
      exact ⟨by rw [HE2.out]; rfl, HW.out⟩
    have hd1 : decide ((k : Int) < (n : Int)) = true := decide_eq_true (by omega)
    have hd2 : decide (k < n) = true := decide_eq_true hlt
    by_cases hmt : k < m
    case neg =>
      have HE := Lib.hid (cmp_end2 HT.out HLA.out HLB.out (by omega) hlt)
      have hd3 : decide ((k : Int) < (m : Int)) = false := decide_eq_false (by omega)
      have hd4 : decide (k < m) = false := decide_eq_false hmt
      have HE2 : Hid (cmpB a b = cmpI n m) := Lib.hid (by rw [HE.out]; unfold cmpI; (repeat' split) <;> first | rfl | omega)
      clear HE
      go_wp2_with (go_at_call 55; go_must (refine (rnumber_any _ _ _).mono ?_); rintro e w1 ⟨rfl, rfl⟩)
      go_ret
      exact ⟨by rw [HE2.out]; rfl, HW.out⟩
    have hd3 : decide ((k : Int) < (m : Int)) = true := decide_eq_true (by omega)
    have hd4 : decide (k < m) = true := decide_eq_true hmt
    have hk1 : (k : Int) < (n : Int) := by omega
    have hk2 : (k : Int) < (m : Int) := by omega
    obtain ⟨b1, o1, x, rfl, _, hx, _⟩ := (HA.out _ HW.out).at_ hlt
    obtain ⟨b2, o2, y, rfl, _, hy, _⟩ := (HB.out _ HW.out).at_ hmt
    have HX := Lib.hid hx
    have HY := Lib.hid hy
    have HCX : Hid (∀ w', Below w.heap.size w w' → w'.cell? ⟨b1, o1 + k, none⟩ = some (.int .u8 (x.toNat : Int))) := Lib.hid fun w' h => (HA.out w' h).cell HX.out
    have HCY : Hid (∀ w', Below w.heap.size w w' → w'.cell? ⟨b2, o2 + k, none⟩ = some (.int .u8 (y.toNat : Int))) := Lib.hid fun w' h => (HB.out w' h).cell HY.out
    clear hx hy
    by_cases h1 : x.toNat < y.toNat
    · have HE := Lib.hid (cmp_lt_at HT.out HX.out HY.out h1)
      have c1 := HCX.out _ HW.out
      have c2 := HCY.out _ HW.out
      have e1 : decide ((x.toNat : Int) < (y.toNat : Int)) = true := decide_eq_true (by omega)
      have e2 : decide (x.toNat < y.toNat) = true := decide_eq_true h1
      go_wp2_with fail
      go_quiet (fail)
      have HW2 := Lib.hid (below_drewN (n := nq) HW.out)
      clear c1 c2
      generalize wr.drewN nq = w3 at *
      go_wp2
      go_ret
      exact ⟨by rw [HE.out]; rfl, HW2.out⟩
    have c1 := HCX.out _ HW.out
    have c2 := HCY.out _ HW.out
    have e1 : decide ((x.toNat : Int) < (y.toNat : Int)) = false := decide_eq_false (by omega)
    have e2 : decide (x.toNat < y.toNat) = false := decide_eq_false h1
    go_wp2_with fail
    go_quiet (fail)
    have HW2 := Lib.hid (below_drewN (n := nq) HW.out)
    clear c1 c2
    generalize wr.drewN nq = w3 at *
    have c1 := HCX.out _ HW2.out
    have c2 := HCY.out _ HW2.out
    by_cases h2 : y.toNat < x.toNat
    · have HE := Lib.hid (cmp_gt_at HT.out HX.out HY.out h2)
      have e3 : decide ((y.toNat : Int) < (x.toNat : Int)) = true := decide_eq_true (by omega)
      have e4 : decide (y.toNat < x.toNat) = true := decide_eq_true h2
      go_wp2_with fail
      go_quiet (fail)
      have HW3 := Lib.hid (below_drewN (n := nq) HW2.out)
      clear c1 c2
      generalize w3.drewN nq = w4 at *
      go_wp2
      go_ret
      exact ⟨by rw [HE.out]; rfl, HW3.out⟩
    obtain rfl := UInt8.toNat_inj.1 (show x.toNat = y.toNat by omega)
    have HE := Lib.hid (cmp_eq_at HT.out HX.out HY.out)
    have e3 : decide ((x.toNat : Int) < (x.toNat : Int)) = false := decide_eq_false (by omega)
    have e4 : decide (x.toNat < x.toNat) = false := decide_eq_false h2
    go_wp2_with fail
    go_quiet (fail)
    have HW3 := Lib.hid (below_drewN (n := nq) HW2.out)
    clear c1 c2
    generalize w3.drewN nq = w4 at *
    go_wp2
    go_roundw
    case rel => exact ⟨k + 1, by omega, by omega, by go_num, HE, HW3⟩
    case measure => simp [intOf]; omega

theorem two_facts {w x : World} {A : Option Addr} {n c : Nat} {B : Option Addr} {m d : Nat} {D : Option Addr} {v q : Nat} {A' : Option Addr} {n' c' : Nat} {B' : Option Addr} {m' d' : Nat} {D' : Option Addr} {v' q' : Nat} {a b : Ent} (h : Two w 37 #[.slice A n c, .int .i64 a.fam, .slice B m d, .int .i64 a.ts, .int .i64 a.seq, .int .i64 a.kind, .slice D v q] #[.slice A' n' c', .int .i64 b.fam, .slice B' m' d', .int .i64 b.ts, .int .i64 b.seq, .int .i64 b.kind, .slice D' v' q'] x) : x.cell? ⟨w.heap.size, 0, none⟩ = some (.slice A n c) ∧ x.cell? ⟨w.heap.size, 1, none⟩ = some (.int .i64 a.fam) ∧ x.cell? ⟨w.heap.size, 2, none⟩ = some (.slice B m d) ∧ x.cell? ⟨w.heap.size, 3, none⟩ = some (.int .i64 a.ts) ∧ x.cell? ⟨w.heap.size, 4, none⟩ = some (.int .i64 a.seq) ∧ x.cell? ⟨w.heap.size, 5, none⟩ = some (.int .i64 a.kind) ∧ x.cell? ⟨w.heap.size + 1, 0, none⟩ = some (.slice A' n' c') ∧ x.cell? ⟨w.heap.size + 1, 1, none⟩ = some (.int .i64 b.fam) ∧ x.cell? ⟨w.heap.size + 1, 2, none⟩ = some (.slice B' m' d') ∧ x.cell? ⟨w.heap.size + 1, 3, none⟩ = some (.int .i64 b.ts) ∧ x.cell? ⟨w.heap.size + 1, 4, none⟩ = some (.int .i64 b.seq) ∧ x.cell? ⟨w.heap.size + 1, 5, none⟩ = some (.int .i64 b.kind) ∧ Two w 37 #[.slice A n c, .int .i64 a.fam, .slice B m d, .int .i64 a.ts, .int .i64 a.seq, .int .i64 a.kind, .slice D v q] #[.slice A' n' c', .int .i64 b.fam, .slice B' m' d', .int .i64 b.ts, .int .i64 b.seq, .int .i64 b.kind, .slice D' v' q'] x :=
  ⟨boxed1 h (i := 0) (v := .slice A n c) rfl, boxed1 h (i := 1) (v := .int .i64 a.fam) rfl, boxed1 h (i := 2) (v := .slice B m d) rfl, boxed1 h (i := 3) (v := .int .i64 a.ts) rfl, boxed1 h (i := 4) (v := .int .i64 a.seq) rfl, boxed1 h (i := 5) (v := .int .i64 a.kind) rfl, boxed2 h (i := 0) (v := .slice A' n' c') rfl, boxed2 h (i := 1) (v := .int .i64 b.fam) rfl, boxed2 h (i := 2) (v := .slice B' m' d') rfl, boxed2 h (i := 3) (v := .int .i64 b.ts) rfl, boxed2 h (i := 4) (v := .int .i64 b.seq) rfl, boxed2 h (i := 5) (v := .int .i64 b.kind) rfl, h⟩

set_option maxRecDepth 100000 in
set_option maxHeartbeats 4000000 in
theorem rcompare_any (a b : Ent) (A : Option Addr) (n c : Nat) (B : Option Addr) (m d : Nat) (D : Option Addr) (v q : Nat) (A' : Option Addr) (n' c' : Nat) (B' : Option Addr) (m' d' : Nat) (D' : Option Addr) (v' q' : Nat) (w : World) (ha : En w A n c B m d D v q a) (hb : En w A' n' c' B' m' d' D' v' q' b) :
    Calls Tryd.prog 43 #[entV A n c B m d D v q a, entV A' n' c' B' m' d' D' v' q' b] w fun e w1 => e = .returned (.int .i64 (cmpE a b)) ∧ Below w.heap.size w w1 := by
  have HA : Hid (∀ w1, Below w.heap.size w w1 → En w1 A n c B m d D v q a) := Lib.hid fun _ h => ha.later h
  have HC : Hid (∀ w1, Below w.heap.size w w1 → En w1 A' n' c' B' m' d' D' v' q' b) := Lib.hid fun _ h => hb.later h
  have HT := Lib.hid (Two.new w 37 #[.slice A n c, .int .i64 a.fam, .slice B m d, .int .i64 a.ts, .int .i64 a.seq, .int .i64 a.kind, .slice D v q] #[.slice A' n' c', .int .i64 b.fam, .slice B' m' d', .int .i64 b.ts, .int .i64 b.seq, .int .i64 b.kind, .slice D' v' q'])
  have l1 := ha.row.le
  have l2 := ha.qual.le
  have l3 := hb.row.le
  have l4 := hb.qual.le
  have HL : Hid (n ≤ 9223372036854775807 ∧ m ≤ 9223372036854775807 ∧ n' ≤ 9223372036854775807 ∧ m' ≤ 9223372036854775807) := Lib.hid ⟨l1, l2, l3, l4⟩
  unfold entV
  clear ha hb l1 l2 l3 l4
  have tok1 : True := trivial
  go_enter Tryd.func43, Tryd.ntmps43
  go_wp2_with fail
  go_region_held3 (fun x => x.cell? ⟨w.heap.size, 0, none⟩ = some (.slice A n c) ∧ x.cell? ⟨w.heap.size, 1, none⟩ = some (.int .i64 a.fam) ∧ x.cell? ⟨w.heap.size, 2, none⟩ = some (.slice B m d) ∧ x.cell? ⟨w.heap.size, 3, none⟩ = some (.int .i64 a.ts) ∧ x.cell? ⟨w.heap.size, 4, none⟩ = some (.int .i64 a.seq) ∧ x.cell? ⟨w.heap.size, 5, none⟩ = some (.int .i64 a.kind) ∧ x.cell? ⟨w.heap.size + 1, 0, none⟩ = some (.slice A' n' c') ∧ x.cell? ⟨w.heap.size + 1, 1, none⟩ = some (.int .i64 b.fam) ∧ x.cell? ⟨w.heap.size + 1, 2, none⟩ = some (.slice B' m' d') ∧ x.cell? ⟨w.heap.size + 1, 3, none⟩ = some (.int .i64 b.ts) ∧ x.cell? ⟨w.heap.size + 1, 4, none⟩ = some (.int .i64 b.seq) ∧ x.cell? ⟨w.heap.size + 1, 5, none⟩ = some (.int .i64 b.kind) ∧ Two w 37 #[.slice A n c, .int .i64 a.fam, .slice B m d, .int .i64 a.ts, .int .i64 a.seq, .int .i64 a.kind, .slice D v q] #[.slice A' n' c', .int .i64 b.fam, .slice B' m' d', .int .i64 b.ts, .int .i64 b.seq, .int .i64 b.kind, .slice D' v' q'] x) (first | assumption | exact two_facts (HT.out.later (Below.refl _ _).drew) | exact two_facts (Two.later (‹_ ∧ _ ∧ _ ∧ _ ∧ _ ∧ _ ∧ _ ∧ _ ∧ _ ∧ _ ∧ _ ∧ _ ∧ Two _ _ _ _ _›).2.2.2.2.2.2.2.2.2.2.2.2 hb1) | exact two_facts (Two.later (‹_ ∧ _ ∧ _ ∧ _ ∧ _ ∧ _ ∧ _ ∧ _ ∧ _ ∧ _ ∧ _ ∧ _ ∧ Two _ _ _ _ _›).2.2.2.2.2.2.2.2.2.2.2.2 hb2) | exact two_facts (Two.later (‹_ ∧ _ ∧ _ ∧ _ ∧ _ ∧ _ ∧ _ ∧ _ ∧ _ ∧ _ ∧ _ ∧ _ ∧ Two _ _ _ _ _›).2.2.2.2.2.2.2.2.2.2.2.2 ((Below.refl _ _).alloc (Nat.le_refl _) _))) (first
    | (go_at_call 19; have _t := tok1; refine (rBcmp_any a.row b.row _ _ _ _ _ _ _ HL.out.1 HL.out.2.2.1 (HA.out _ (‹_ ∧ _ ∧ _ ∧ _ ∧ _ ∧ _ ∧ _ ∧ _ ∧ _ ∧ _ ∧ _ ∧ _ ∧ Two _ _ _ _ _›).2.2.2.2.2.2.2.2.2.2.2.2.up).row.rb (HC.out _ (‹_ ∧ _ ∧ _ ∧ _ ∧ _ ∧ _ ∧ _ ∧ _ ∧ _ ∧ _ ∧ _ ∧ _ ∧ Two _ _ _ _ _›).2.2.2.2.2.2.2.2.2.2.2.2.up).row.rb).mono ?_; rintro e x1 ⟨rfl, hb1⟩; clear tok1)
    | (go_at_call 19; refine (rBcmp_any a.qual b.qual _ _ _ _ _ _ _ HL.out.2.1 HL.out.2.2.2 (HA.out _ (‹_ ∧ _ ∧ _ ∧ _ ∧ _ ∧ _ ∧ _ ∧ _ ∧ _ ∧ _ ∧ _ ∧ _ ∧ Two _ _ _ _ _›).2.2.2.2.2.2.2.2.2.2.2.2.up).qual.rb (HC.out _ (‹_ ∧ _ ∧ _ ∧ _ ∧ _ ∧ _ ∧ _ ∧ _ ∧ _ ∧ _ ∧ _ ∧ _ ∧ Two _ _ _ _ _›).2.2.2.2.2.2.2.2.2.2.2.2.up).qual.rb).mono ?_; rintro e x2 ⟨rfl, hb2⟩)
    | (go_at_call 55; refine (rnumber_any _ _ _).mono ?_; rintro e xn ⟨rfl, rfl⟩)
    | (go_at_call 77; refine (rfirst_any _ _ _).mono ?_; rintro e xn ⟨rfl, rfl⟩))
  all_goals
    have HW := Lib.hid (‹_ ∧ _ ∧ _ ∧ _ ∧ _ ∧ _ ∧ _ ∧ _ ∧ _ ∧ _ ∧ _ ∧ _ ∧ Two _ _ _ _ _›).2.2.2.2.2.2.2.2.2.2.2.2.up
    clear HA HC HT HL
    generalize hs0 : cmpB a.row b.row = s0 at HW ⊢
    have Q0 : Hid (stepC a b 0 = s0) := Lib.hid hs0
    generalize hs1 : cmpI a.fam b.fam = s1 at HW ⊢
    have Q1 : Hid (stepC a b 1 = s1) := Lib.hid hs1
    generalize hs2 : firstI (a.kind == 5) (b.kind == 5) = s2 at HW ⊢
    have Q2 : Hid (stepC a b 2 = s2) := Lib.hid hs2
    generalize hs3 : cmpB a.qual b.qual = s3 at HW ⊢
    have Q3 : Hid (stepC a b 3 = s3) := Lib.hid hs3
    generalize hs4 : firstI (a.kind == 4) (b.kind == 4) = s4 at HW ⊢
    have Q4 : Hid (stepC a b 4 = s4) := Lib.hid hs4
    generalize hs5 : cmpI b.ts a.ts = s5 at HW ⊢
    have Q5 : Hid (stepC a b 5 = s5) := Lib.hid hs5
    generalize hs6 : cmpI b.seq a.seq = s6 at HW ⊢
    have Q6 : Hid (stepC a b 6 = s6) := Lib.hid hs6
    generalize hs7 : cmpI a.kind b.kind = s7 at HW ⊢
    have Q7 : Hid (stepC a b 7 = s7) := Lib.hid hs7
    clear hs0 hs1 hs2 hs3 hs4 hs5 hs6 hs7
    obtain ⟨X, hX⟩ : ∃ X, X = x2.alloc (.cells #[.int .i64 s0, .int .i64 s1, .int .i64 s2, .int .i64 s3, .int .i64 s4, .int .i64 s5, .int .i64 s6, .int .i64 s7] 3) := ⟨_, rfl⟩
    rw [← hX] at HW ⊢
    have p0 : X.cell? ⟨x2.heap.size, 0, none⟩ = some (.int .i64 s0) := by rw [hX]; simp
    have p1 : X.cell? ⟨x2.heap.size, 1, none⟩ = some (.int .i64 s1) := by rw [hX]; simp
    have p2 : X.cell? ⟨x2.heap.size, 2, none⟩ = some (.int .i64 s2) := by rw [hX]; simp
    have p3 : X.cell? ⟨x2.heap.size, 3, none⟩ = some (.int .i64 s3) := by rw [hX]; simp
    have p4 : X.cell? ⟨x2.heap.size, 4, none⟩ = some (.int .i64 s4) := by rw [hX]; simp
    have p5 : X.cell? ⟨x2.heap.size, 5, none⟩ = some (.int .i64 s5) := by rw [hX]; simp
    have p6 : X.cell? ⟨x2.heap.size, 6, none⟩ = some (.int .i64 s6) := by rw [hX]; simp
    have p7 : X.cell? ⟨x2.heap.size, 7, none⟩ = some (.int .i64 s7) := by rw [hX]; simp
    clear hX
    generalize x2.heap.size = g at p0 p1 p2 p3 p4 p5 p6 p7 ⊢
    go_wp2_with fail
    go_loop [6] (fun i => ∃ k : Nat, k ≤ 8 ∧ i = .int .i64 k ∧ Hid (∀ i, i < k → stepC a b i = 0)) (fun i => 8 - (intOf i).toNat)
    case atStart => exact ⟨0, by decide, rfl, Lib.hid fun i hi => absurd hi (Nat.not_lt_zero _)⟩
    case round =>
      obtain ⟨k, hk, hi, HF⟩ := hrel
      have hk' : k = 0 ∨ k = 1 ∨ k = 2 ∨ k = 3 ∨ k = 4 ∨ k = 5 ∨ k = 6 ∨ k = 7 ∨ k = 8 := by omega
      clear hk
      rcases hk' with rfl | rfl | rfl | rfl | rfl | rfl | rfl | rfl | rfl
      case inr.inr.inr.inr.inr.inr.inr.inr =>
        replace hi : _ = Value.int .i64 8 := hi
        subst hi
        have HZ := Lib.hid (cmpE_none a b HF.out)
        clear HF
        go_wp2
        go_ret
        exact ⟨by rw [HZ.out]; rfl, HW.out⟩
      case inl =>
        replace hi : _ = Value.int .i64 0 := hi
        subst hi
        by_cases hz : s0 = 0
        · have HZ : Hid (∀ i, i < 1 → stepC a b i = 0) := Lib.hid fun i hi => if h : i = 0 then h ▸ (Q0.out.trans hz) else HF.out i (by omega)
          have t2 : (s0 != 0) = false := by simpa using hz
          clear hz HF
          go_wp2
          go_round
          case measure => decide
          case rel => exact ⟨1, by omega, rfl, HZ⟩
        · have HZ : Hid (s0 = cmpE a b) := Lib.hid (Q0.out ▸ cmpE_first a b 0 (by decide) HF.out (by rw [Q0.out]; exact hz))
          have t2 : (s0 != 0) = true := by simpa using hz
          clear HF hz
          go_wp2
          go_ret
          exact ⟨by rw [← HZ.out]; rfl, HW.out⟩
      case inr.inl =>
        replace hi : _ = Value.int .i64 1 := hi
        subst hi
        by_cases hz : s1 = 0
        · have HZ : Hid (∀ i, i < 2 → stepC a b i = 0) := Lib.hid fun i hi => if h : i = 1 then h ▸ (Q1.out.trans hz) else HF.out i (by omega)
          have t2 : (s1 != 0) = false := by simpa using hz
          clear hz HF
          go_wp2
          go_round
          case measure => decide
          case rel => exact ⟨2, by omega, rfl, HZ⟩
        · have HZ : Hid (s1 = cmpE a b) := Lib.hid (Q1.out ▸ cmpE_first a b 1 (by decide) HF.out (by rw [Q1.out]; exact hz))
          have t2 : (s1 != 0) = true := by simpa using hz
          clear HF hz
          go_wp2
          go_ret
          exact ⟨by rw [← HZ.out]; rfl, HW.out⟩
      case inr.inr.inl =>
        replace hi : _ = Value.int .i64 2 := hi
        subst hi
        by_cases hz : s2 = 0
        · have HZ : Hid (∀ i, i < 3 → stepC a b i = 0) := Lib.hid fun i hi => if h : i = 2 then h ▸ (Q2.out.trans hz) else HF.out i (by omega)
          have t2 : (s2 != 0) = false := by simpa using hz
          clear hz HF
          go_wp2
          go_round
          case measure => decide
          case rel => exact ⟨3, by omega, rfl, HZ⟩
        · have HZ : Hid (s2 = cmpE a b) := Lib.hid (Q2.out ▸ cmpE_first a b 2 (by decide) HF.out (by rw [Q2.out]; exact hz))
          have t2 : (s2 != 0) = true := by simpa using hz
          clear HF hz
          go_wp2
          go_ret
          exact ⟨by rw [← HZ.out]; rfl, HW.out⟩
      case inr.inr.inr.inl =>
        replace hi : _ = Value.int .i64 3 := hi
        subst hi
        by_cases hz : s3 = 0
        · have HZ : Hid (∀ i, i < 4 → stepC a b i = 0) := Lib.hid fun i hi => if h : i = 3 then h ▸ (Q3.out.trans hz) else HF.out i (by omega)
          have t2 : (s3 != 0) = false := by simpa using hz
          clear hz HF
          go_wp2
          go_round
          case measure => decide
          case rel => exact ⟨4, by omega, rfl, HZ⟩
        · have HZ : Hid (s3 = cmpE a b) := Lib.hid (Q3.out ▸ cmpE_first a b 3 (by decide) HF.out (by rw [Q3.out]; exact hz))
          have t2 : (s3 != 0) = true := by simpa using hz
          clear HF hz
          go_wp2
          go_ret
          exact ⟨by rw [← HZ.out]; rfl, HW.out⟩
      case inr.inr.inr.inr.inl =>
        replace hi : _ = Value.int .i64 4 := hi
        subst hi
        by_cases hz : s4 = 0
        · have HZ : Hid (∀ i, i < 5 → stepC a b i = 0) := Lib.hid fun i hi => if h : i = 4 then h ▸ (Q4.out.trans hz) else HF.out i (by omega)
          have t2 : (s4 != 0) = false := by simpa using hz
          clear hz HF
          go_wp2
          go_round
          case measure => decide
          case rel => exact ⟨5, by omega, rfl, HZ⟩
        · have HZ : Hid (s4 = cmpE a b) := Lib.hid (Q4.out ▸ cmpE_first a b 4 (by decide) HF.out (by rw [Q4.out]; exact hz))
          have t2 : (s4 != 0) = true := by simpa using hz
          clear HF hz
          go_wp2
          go_ret
          exact ⟨by rw [← HZ.out]; rfl, HW.out⟩
      case inr.inr.inr.inr.inr.inl =>
        replace hi : _ = Value.int .i64 5 := hi
        subst hi
        by_cases hz : s5 = 0
        · have HZ : Hid (∀ i, i < 6 → stepC a b i = 0) := Lib.hid fun i hi => if h : i = 5 then h ▸ (Q5.out.trans hz) else HF.out i (by omega)
          have t2 : (s5 != 0) = false := by simpa using hz
          clear hz HF
          go_wp2
          go_round
          case measure => decide
          case rel => exact ⟨6, by omega, rfl, HZ⟩
        · have HZ : Hid (s5 = cmpE a b) := Lib.hid (Q5.out ▸ cmpE_first a b 5 (by decide) HF.out (by rw [Q5.out]; exact hz))
          have t2 : (s5 != 0) = true := by simpa using hz
          clear HF hz
          go_wp2
          go_ret
          exact ⟨by rw [← HZ.out]; rfl, HW.out⟩
      case inr.inr.inr.inr.inr.inr.inl =>
        replace hi : _ = Value.int .i64 6 := hi
        subst hi
        by_cases hz : s6 = 0
        · have HZ : Hid (∀ i, i < 7 → stepC a b i = 0) := Lib.hid fun i hi => if h : i = 6 then h ▸ (Q6.out.trans hz) else HF.out i (by omega)
          have t2 : (s6 != 0) = false := by simpa using hz
          clear hz HF
          go_wp2
          go_round
          case measure => decide
          case rel => exact ⟨7, by omega, rfl, HZ⟩
        · have HZ : Hid (s6 = cmpE a b) := Lib.hid (Q6.out ▸ cmpE_first a b 6 (by decide) HF.out (by rw [Q6.out]; exact hz))
          have t2 : (s6 != 0) = true := by simpa using hz
          clear HF hz
          go_wp2
          go_ret
          exact ⟨by rw [← HZ.out]; rfl, HW.out⟩
      case inr.inr.inr.inr.inr.inr.inr.inl =>
        replace hi : _ = Value.int .i64 7 := hi
        subst hi
        by_cases hz : s7 = 0
        · have HZ : Hid (∀ i, i < 8 → stepC a b i = 0) := Lib.hid fun i hi => if h : i = 7 then h ▸ (Q7.out.trans hz) else HF.out i (by omega)
          have t2 : (s7 != 0) = false := by simpa using hz
          clear hz HF
          go_wp2
          go_round
          case measure => decide
          case rel => exact ⟨8, by omega, rfl, HZ⟩
        · have HZ : Hid (s7 = cmpE a b) := Lib.hid (Q7.out ▸ cmpE_first a b 7 (by decide) HF.out (by rw [Q7.out]; exact hz))
          have t2 : (s7 != 0) = true := by simpa using hz
          clear HF hz
          go_wp2
          go_ret
          exact ⟨by rw [← HZ.out]; rfl, HW.out⟩
end Go.Proofs.YtmigjipfomfacaaDoor

/-
  A row that is written full of one mark and lengthened with it, several times over.
-/
namespace Go.Proofs.YtmigjipfomfacaaDoor
open Go.RowKit

section
variable {w x y : World} {T : TypeId}
theorem rep_snoc (n : Nat) (m : UInt8) : List.replicate n m ++ [m] = List.replicate (n + 1) m := by rw [List.replicate_succ']
/-- Marks are written over by the same marks. -/
def Over (m : UInt8) (w x : World) : Prop := w.heap.size ≤ x.heap.size ∧ ∀ p u, w.cell? p = some u → x.cell? p = some u ∨ x.cell? p = some (u8v m)
theorem Over.refl (m : UInt8) (w : World) : Over m w w := ⟨Nat.le_refl _, fun _p _u h => .inl h⟩
theorem Over.trans {m : UInt8} (h : Over m w x) (k : Over m x y) : Over m w y := ⟨Nat.le_trans h.1 k.1, fun p u e => by
  rcases h.2 p u e with e | e
  · exact k.2 p u e
  · rcases k.2 p _ e with e | e <;> exact .inr e⟩
theorem Over.alloc {m : UInt8} (w : World) (o : Obj) : Over m w (w.alloc o) := ⟨((Below.refl _ w).alloc (Nat.le_refl _) o).size, fun _p _u e => .inl (cell_alloc_old e)⟩
theorem over_app {m : UInt8} {v : Value} {n q : Nat} (hs : w.heap.size ≤ x.heap.size)
    (h : ∀ p u, w.cell? p = some u → x.cell? p = some u ∨ (some p.block = v.ownBlock ∧ p.spot = none ∧ n ≤ p.off ∧ p.off < n + q ∧ x.cell? p = (u8s (List.replicate q m))[p.off - n]?)) : Over m w x := ⟨hs, fun p u e => by
  rcases h p u e with e | ⟨_, _, h1, h2, e⟩
  · exact .inl e
  · refine .inr ?_
    rw [e]
    unfold u8s
    rw [List.getElem?_map, List.getElem?_replicate, if_pos (by omega)]
    rfl⟩
theorem Sl.remark {A : Option Addr} {n c : Nat} {m : UInt8} (h : Sl w A n c (List.replicate n m)) (k : Over m w x) : Sl x A n c (List.replicate n m) := by
  refine ⟨RB.mk' (by simp) fun h0 => ?_, h.cap, h.lim, h.nil⟩
  obtain ⟨b, o, _, rfl, hb, _, _⟩ := h.rb.at_ (k := 0) h0
  refine ⟨b, o, rfl, Nat.lt_of_lt_of_le hb k.1, fun j u hj => ?_⟩
  have hu : u = m := by
    have := List.getElem?_eq_some_iff.1 hj
    obtain ⟨_, e⟩ := this
    simp at e
    exact e.symm
  subst hu
  rcases k.2 _ _ (h.rb.cell hj) with e | e <;> exact e
theorem own_cell {base g c k : Nat} {l : List UInt8} {u : UInt8} (h : OwnB T base w (some ⟨g, 0, none⟩) c l) (hk : l[k]? = some u) : w.cell? ⟨g, k, none⟩ = some (.int .u8 (u.toNat : Int)) ∧ w.frozen? ⟨g, k, none⟩ = false :=
  (RowsB.nil.snoc h (fun i r hr => by simp at hr)).cell (i := 0) rfl hk
theorem own_store {base g c : Nat} {l : List UInt8} (h : OwnB T base w (some ⟨g, 0, none⟩) c l) (k : Nat) (u : UInt8) : OwnB T base (w.setCell ⟨g, k, none⟩ (u8v u)) (some ⟨g, 0, none⟩) c (l.set k u) :=
  ((RowsB.nil.snoc h (fun i r hr => by simp at hr)).store (i := 0) (k := k) rfl u).1.1 0 _ rfl
/-- The four lists that 'longer' hands out of the row A. -/
structure Lng (w : World) (A : Option Addr) (n : Nat) (m : UInt8) (g : Nat) (x : World) : Prop where
  ge : w.heap.size ≤ g
  lt : g < x.heap.size
  all : ∃ c A1 c1 A2 c2 A3 c3, (x.cell? ⟨g, 0, none⟩ = some (.slice A n c) ∧ x.cell? ⟨g, 1, none⟩ = some (.slice A1 (n + 1) c1) ∧ x.cell? ⟨g, 2, none⟩ = some (.slice A2 (n + 2) c2) ∧ x.cell? ⟨g, 3, none⟩ = some (.slice A3 (n + 101) c3)) ∧
    (Sl x A n c (List.replicate n m) ∧ Sl x A1 (n + 1) c1 (List.replicate (n + 1) m) ∧ Sl x A2 (n + 2) c2 (List.replicate (n + 2) m) ∧ Sl x A3 (n + 101) c3 (List.replicate (n + 101) m)) ∧ Blk w A A1 ∧ Blk w A A2 ∧ Blk w A A3
theorem Lng.chg {A : Option Addr} {n : Nat} {m : UInt8} {g : Nat} {S : Nat → Prop} (h : Lng w A n m g x) (hc : Chg S x y) (hS : ∀ b, S b → b < w.heap.size ∧ A.map (·.block) ≠ some b) : Lng w A n m g y := by
  obtain ⟨c, A1, c1, A2, c2, A3, c3, ⟨q0, q1, q2, q3⟩, ⟨s0, s1, s2, s3⟩, b1, b2, b3⟩ := h.all
  have hg : ¬ S g := fun e => by have := (hS g e).1; have := h.ge; omega
  have hA : ∀ a, A = some a → ¬ S a.block := fun a ha e => (hS _ e).2 (by rw [ha]; rfl)
  have hB : ∀ {A' : Option Addr}, Blk w A A' → ∀ a, A' = some a → ¬ S a.block := fun hb a ha e => by
    rcases hb a ha with h' | h'
    · exact (hS _ e).2 h'
    · have := (hS _ e).1; omega
  exact ⟨h.ge, Nat.lt_of_lt_of_le h.lt hc.size, c, A1, c1, A2, c2, A3, c3, ⟨hc.cell q0 hg, hc.cell q1 hg, hc.cell q2 hg, hc.cell q3 hg⟩,
    ⟨s0.chg hc fun _ => hA, s1.chg hc fun _ => hB b1, s2.chg hc fun _ => hB b2, s3.chg hc fun _ => hB b3⟩, b1, b2, b3⟩
theorem Lng.later {A : Option Addr} {n : Nat} {m : UInt8} {g : Nat} (h : Lng w A n m g x) (hb : Below x.heap.size x y) : Lng w A n m g y := h.chg (S := fun _ => False) (Below.chg0 hb) fun _b e => e.elim
theorem blk_step {A A5 A6 : Option Addr} {n5 c5 n6 c6 H : Nat} (h : Blk w A A5) (hat : (Value.slice A6 n6 c6).ownBlock = (Value.slice A5 n5 c5).ownBlock ∨ (Value.slice A6 n6 c6).ownBlock = some H) (hle : w.heap.size ≤ H) : Blk w A A6 := fun a ha => by
  subst ha
  rcases hat with e | e
  · rw [own_block A5] at e
    cases A5 with
    | none => cases e
    | some z =>
      have e : some a.block = some z.block := e
      rcases h z rfl with h | h
      · exact .inl (h.trans e.symm)
      · injection e with e; exact .inr (by omega)
  · injection e with e
    have e : a.block = H := e
    exact .inr (by omega)
theorem chg_blk {A A5 : Option Addr} {n5 c5 : Nat} {o : Obj} (h : Chg (fun b => A.map (·.block) = some b) w x) (hb : Blk w A A5) (hg : (x.alloc o).grownBy y (Value.slice A5 n5 c5).ownBlock) : Chg (fun b => A.map (·.block) = some b) w y := by
  have h2 := h.alloc o
  have h3 := grown_chg hg
  refine ⟨h3.os.trans h2.os, h3.tape.trans h2.tape, h3.output.trans h2.output, Nat.le_trans h2.size h3.size, fun b hlt hn => (h3.block b (Nat.lt_of_lt_of_le hlt h2.size) fun e => ?_).trans (h2.block b hlt hn)⟩
  rw [own_block] at e
  cases A5 with
  | none => cases e
  | some z =>
    have e : some z.block = some b := e
    rcases hb z rfl with h' | h'
    · exact hn (h'.trans e)
    · injection e with e; omega
end
end Go.Proofs.YtmigjipfomfacaaDoor

/-
  Regions that draw their order, by what holds of what is done; boxes and rows of the call's own under one head. Over any program.
-/
namespace Go.Proofs.YtmigjipfomfacaaDoor
open Go.RowKit

section
variable {P : Program} {ops : Array Oper} {Q : Exit → Act → World → Prop}
/-- Every edge goes back; no operation is guarded. -/
def regOk (ops : Array Oper) : Bool := (List.range ops.size).all fun i => match ops[i]? with
  | none => true
  | some o => o.guard.isNone && o.after.all fun e => !Region.binds .any e || decide (e.on < i)
theorem regOk_at (h : regOk ops = true) {i : Nat} {o : Oper} (ho : ops[i]? = some o) : o.guard = none ∧ ∀ e, e ∈ o.after → Region.binds .any e = true → e.on < i := by
  have hi := (Array.getElem?_eq_some_iff.1 ho).1
  have h1 := List.all_eq_true.1 h i (List.mem_range.2 hi)
  simp only [ho, Bool.and_eq_true, Option.isNone_iff_eq_none, Array.all_eq_true_iff_forall_mem, Bool.or_eq_true, Bool.not_eq_true', decide_eq_true_eq] at h1
  refine ⟨h1.1, fun e he hb => ?_⟩
  rcases h1.2 e he with h2 | h2
  · rw [hb] at h2; cases h2
  · exact h2
theorem ready_iff {L : Array Bool} {i : Nat} : i ∈ Region.ready .any ops L ↔ ∃ o, ops[i]? = some o ∧ L.getD i true = false ∧ ∀ e, e ∈ o.after → Region.binds .any e = true → L.getD e.on false = true := by
  unfold Region.ready
  rw [List.mem_filter, List.mem_range]
  constructor
  · rintro ⟨h1, h2⟩
    cases ho : ops[i]? with
    | none => rw [ho] at h2; simp at h2
    | some o =>
      rw [ho] at h2
      simp only [Option.map_some, Option.getD_some, Bool.and_eq_true, Bool.not_eq_true', Array.all_eq_true_iff_forall_mem, Bool.or_eq_true] at h2
      refine ⟨o, rfl, h2.1, fun e he hb => ?_⟩
      rcases h2.2 e he with h3 | h3
      · rw [hb] at h3; cases h3
      · exact h3
  · rintro ⟨o, ho, h1, h2⟩
    refine ⟨(Array.getElem?_eq_some_iff.1 ho).1, ?_⟩
    rw [ho]
    simp only [Option.map_some, Option.getD_some, Bool.and_eq_true, Bool.not_eq_true', Array.all_eq_true_iff_forall_mem, Bool.or_eq_true]
    refine ⟨h1, fun e he => ?_⟩
    cases hb : Region.binds .any e with
    | false => exact .inl rfl
    | true => exact .inr (h2 e he hb)
theorem getD_two {L : Array Bool} {i : Nat} (h : i < L.size) : L.getD i true = L.getD i false := by
  simp [Array.getD, h]
theorem set_getD {L : Array Bool} {i : Nat} (h : i < L.size) : (fun j => (L.setIfInBounds i true).getD j false) = fun j => j == i || L.getD j false := by
  funext j
  simp only [Array.getD_eq_getD_getElem?, Array.getElem?_setIfInBounds]
  by_cases e : i = j
  · subst e; simp [h]
  · have : (j == i) = false := by simpa using fun h => e h.symm
    simp [e, this]
theorem all_listed (hk : regOk ops = true) {L : Array Bool} (hL : L.size = ops.size) (hr : Region.ready .any ops L = []) : ∀ i, i < ops.size → L.getD i false = true := by
  intro i
  induction i using Nat.strongRecOn with
  | ind i ih =>
    intro hi
    cases hb : L.getD i false with
    | true => rfl
    | false =>
      have ho : ops[i]? = some ops[i] := Array.getElem?_eq_getElem hi
      have hm : i ∈ Region.ready .any ops L := ready_iff.2 ⟨_, ho, by rw [getD_two (by omega)]; exact hb, fun e he hb' => by
        have h1 := (regOk_at hk ho).2 e he hb'
        exact ih _ h1 (by omega)⟩
      rw [hr] at hm
      cases hm
theorem filter_less {p p' : Nat → Bool} {l : List Nat} {i : Nat} (hi : i ∈ l) (h1 : p i = true) (h2 : p' i = false) (h : ∀ j, p' j = true → p j = true) : (l.filter p').length < (l.filter p).length := by
  have e : l.filter p' = (l.filter p).filter p' := by
    rw [List.filter_filter]
    refine List.filter_congr fun j _ => ?_
    cases hj : p' j with
    | false => rfl
    | true => rw [h j hj]; rfl
  rw [e]
  exact List.length_filter_lt_length_iff_exists.2 ⟨i, List.mem_filter.2 ⟨hi, h1⟩, by simp [h2]⟩
/-- A region that draws its order: what holds of the operations that are done, kept by each. -/
theorem wp_region_inv {id : Nat} {a : Act} {w : World} (hm : P.follows .mixedOrders = true) (hk : regOk ops = true) (I : (Nat → Bool) → Act → World → Prop)
    (h0 : I (fun _ => false) a w.drew)
    (hs : ∀ (i : Nat) o, ops[i]? = some o → ∀ D a w, I D a w → D i = false → (∀ e, e ∈ o.after → Region.binds .any e = true → D e.on = true) → o.wp P a w (I fun j => j == i || D j) Q)
    (he : ∀ D a w, (∀ i, i < ops.size → D i = true) → I D a w → Q .normal a w) : (Code.region id ops true).wp P Q a w := by
  refine wp_region_any hm ?_
  have main : ∀ fuel (L : Array Bool) a w, L.size = ops.size → I (fun j => L.getD j false) a w → ((List.range ops.size).filter fun i => !L.getD i false).length ≤ fuel → wpAny P .any ops Q fuel L a w := by
    intro fuel
    induction fuel with
    | zero =>
      intro L a w hL hI hc
      have hall : ∀ i, i < ops.size → L.getD i false = true := fun i hi => by
        cases hb : L.getD i false with
        | true => rfl
        | false =>
          have : i ∈ (List.range ops.size).filter fun i => !L.getD i false := List.mem_filter.2 ⟨List.mem_range.2 hi, by simp [hb]⟩
          have := List.length_pos_of_mem this
          omega
      refine ⟨?_, he _ _ _ hall hI⟩
      cases hr : Region.ready .any ops L with
      | nil => rfl
      | cons i r =>
        obtain ⟨o, ho, h1, _⟩ := ready_iff.1 (show i ∈ Region.ready .any ops L by rw [hr]; simp)
        have hi := (Array.getElem?_eq_some_iff.1 ho).1
        rw [getD_two (by omega), hall i hi] at h1
        cases h1
    | succ fuel ih =>
      intro L a w hL hI hc
      refine ⟨fun hr => he _ _ _ (all_listed hk hL hr) hI, fun i hi => ?_⟩
      obtain ⟨o, ho, h1, h2⟩ := ready_iff.1 hi
      have hlt := (Array.getElem?_eq_some_iff.1 ho).1
      rw [getD_two (by omega)] at h1
      have hg := (regOk_at hk ho).1
      unfold wpOp
      rw [ho]
      have hw : Region.wanted o (yielded ops a.tmps) = true := by unfold Region.wanted; rw [hg]
      simp only [hw, if_true]
      refine .inl (Oper.wp_mono (fun a' w' hI' => ih _ a' w' (by simpa using hL) (by rw [set_getD (by omega)]; exact hI') ?_) (hs i o ho _ a w hI h1 h2))
      have := filter_less (p := fun i => !L.getD i false) (p' := fun j => !(L.setIfInBounds i true).getD j false) (l := List.range ops.size) (i := i) (List.mem_range.2 hlt) (by rw [h1]; rfl) (by
        rw [congrFun (set_getD (L := L) (i := i) (by omega)) i]
        simp) (fun j hj => by
        rw [congrFun (set_getD (L := L) (i := i) (by omega)) j] at hj
        simp only [Bool.not_eq_true', Bool.or_eq_false_iff] at hj
        rw [hj.2]; rfl)
      omega
  exact main _ _ _ _ (by simp) (by
    have e : (fun j => (Array.replicate ops.size false).getD j false) = fun _ => false := by
      funext j
      simp only [Array.getD_eq_getD_getElem?, Array.getElem?_replicate]
      split <;> rfl
    rw [e]; exact h0) (Nat.le_trans (List.length_filter_le _ _) (by simp))

/-! ### Frames that differ from a given one in some slots alone -/
structure Same (S : List Nat) (b a : Act) : Prop where
  size : a.tmps.size = b.tmps.size
  rest : a.defers = b.defers
  at_ : ∀ k, k ∉ S → a.tmps[k]? = b.tmps[k]?
theorem Same.refl (S : List Nat) (a : Act) : Same S a a := ⟨rfl, rfl, fun _ _ => rfl⟩
theorem Same.put {S : List Nat} {b a : Act} (h : Same S b a) {d : Nat} (hd : d ∈ S) (x : Value) : Same S b (a.put (some d) x) :=
  ⟨by simp [Act.put, h.size], h.rest, fun k hk => by
    have : d ≠ k := fun e => hk (e ▸ hd)
    simp only [Act.put, Array.getElem?_setIfInBounds_ne this]
    exact h.at_ k hk⟩
theorem eval_tmp (a : Act) (k : Nat) : a.eval (.tmp k) = a.tmps.getD k undef := rfl
theorem put_same {a : Act} {d : Nat} (h : d < a.tmps.size) (x : Value) : (a.put (some d) x).eval (.tmp d) = x := by
  simp [eval_tmp, Act.put, h]
theorem put_other {a : Act} {d k : Nat} (h : d ≠ k) (x : Value) : (a.put (some d) x).eval (.tmp k) = a.eval (.tmp k) := by
  simp [eval_tmp, Act.put, Array.getElem?_setIfInBounds_ne h]
theorem Same.eval {S : List Nat} {b a : Act} (h : Same S b a) {k : Nat} (hk : k ∉ S) : a.eval (.tmp k) = b.eval (.tmp k) := by
  simp only [eval_tmp, Array.getD_eq_getD_getElem?, h.at_ k hk]
/-- The frame b with the slots S as v says. -/
def putsF (b : Act) (S : List Nat) (v : Nat → Value) : Act := S.foldl (fun a s => a.put (some s) (v s)) b
theorem putsF_size (S : List Nat) (v : Nat → Value) : ∀ b : Act, (putsF b S v).tmps.size = b.tmps.size ∧ (putsF b S v).defers = b.defers := by
  induction S with
  | nil => intro b; exact ⟨rfl, rfl⟩
  | cons s S ih =>
    intro b
    obtain ⟨h1, h2⟩ := ih (b.put (some s) (v s))
    exact ⟨by show (putsF (b.put (some s) (v s)) S v).tmps.size = _; rw [h1]; simp [Act.put], h2⟩
theorem putsF_at (v : Nat → Value) (S : List Nat) : ∀ (b : Act) (k : Nat), k < b.tmps.size → (putsF b S v).tmps[k]? = if k ∈ S then some (v k) else b.tmps[k]? := by
  induction S with
  | nil => intro b k _; simp [putsF]
  | cons s S ih =>
    intro b k hk
    show (putsF (b.put (some s) (v s)) S v).tmps[k]? = _
    rw [ih _ k (by simpa [Act.put] using hk)]
    by_cases h1 : k ∈ S
    · simp [h1]
    · rw [if_neg h1]
      by_cases h2 : k = s
      · subst h2; simp [Act.put, hk]
      · rw [if_neg (by simp [h1, h2])]
        simp [Act.put, Array.getElem?_setIfInBounds_ne (fun e => h2 e.symm)]
theorem Same.puts {S : List Nat} {b a : Act} (h : Same S b a) : a = putsF b S fun k => a.eval (.tmp k) := by
  obtain ⟨h1, h2⟩ := putsF_size S (fun k => a.eval (.tmp k)) b
  have ht : a.tmps = (putsF b S fun k => a.eval (.tmp k)).tmps := by
    refine Array.ext_getElem? fun k => ?_
    by_cases hk : k < b.tmps.size
    · rw [putsF_at _ _ _ _ hk]
      by_cases hs : k ∈ S
      · rw [if_pos hs]
        have hk' : k < a.tmps.size := by rw [h.size]; exact hk
        simp [eval_tmp, hk']
      · rw [if_neg hs]; exact h.at_ k hs
    · rw [Array.getElem?_eq_none (by rw [h.size]; omega), Array.getElem?_eq_none (by rw [h1]; omega)]
  have hd : a.defers = (putsF b S fun k => a.eval (.tmp k)).defers := h.rest.trans h2.symm
  obtain ⟨t, d⟩ := a
  generalize (putsF b S fun k => Act.eval { tmps := t, defers := d } (.tmp k)) = z at *
  obtain ⟨t', d'⟩ := z
  simp only at ht hd
  subst ht; subst hd
  rfl

def AllOps (C : Nat → Oper → Prop) : Nat → List Oper → Prop
  | _, [] => True
  | k, o :: l => C k o ∧ AllOps C (k + 1) l
theorem AllOps.at_ {C : Nat → Oper → Prop} : ∀ {l : List Oper} {k : Nat}, AllOps C k l → ∀ (i : Nat) o, l[i]? = some o → C (k + i) o
  | [], _, _, i, o, h => by simp at h
  | x :: l, k, h, i, o, hi => by
    cases i with
    | zero => injection hi with hi; subst hi; exact h.1
    | succ i =>
      have := AllOps.at_ h.2 i o hi
      rwa [show k + 1 + i = k + (i + 1) from by omega] at this
/-- What is done is done with all that goes ahead of it. -/
def Closed (l : List Oper) (D : Nat → Bool) : Prop := ∀ (i : Nat) o, l[i]? = some o → D i = true → ∀ e, e ∈ o.after → Region.binds .any e = true → D e.on = true
/-- One operation's duty: it puts something into its slot, and what holds of what is done holds on. -/
def RegStep (P : Program) (Q : Exit → Act → World → Prop) (l : List Oper) (S : List Nat) (b : Act) (R : (Nat → Bool) → (Nat → Value) → World → Prop) (i : Nat) (o : Oper) : Prop :=
  ∀ D a w, Closed l D → Same S b a → R D (fun k => a.eval (.tmp k)) w → D i = false → (∀ e, e ∈ o.after → Region.binds .any e = true → D e.on = true) →
    o.wp P a w (fun a' w' => Same S b a' ∧ R (fun j => j == i || D j) (fun k => a'.eval (.tmp k)) w') Q
/-- The region's law, over frames: S are the slots that it writes; R speaks of what is done, of the slots and the world. -/
theorem wp_region_reg {id : Nat} {l : List Oper} {a : Act} {w : World} (hm : P.follows .mixedOrders = true) (hk : regOk l.toArray = true) (S : List Nat) (R : (Nat → Bool) → (Nat → Value) → World → Prop)
    (h0 : R (fun _ => false) (fun k => a.eval (.tmp k)) w.drew) (hs : AllOps (RegStep P Q l S a R) 0 l)
    (he : ∀ D v w', (∀ i, i < l.length → D i = true) → R D v w' → Q .normal (putsF a S v) w') : (Code.region id l.toArray true).wp P Q a w := by
  refine wp_region_inv hm hk (fun D a' w' => Closed l D ∧ Same S a a' ∧ R D (fun k => a'.eval (.tmp k)) w') ⟨(fun i o _ h => nomatch h), Same.refl S a, h0⟩ (fun i o ho D a' w' hI hd hp => ?_) fun D a' w' hd hI => ?_
  · have := AllOps.at_ hs i o (by simpa using ho)
    rw [Nat.zero_add] at this
    refine Oper.wp_mono (fun a'' w'' h => ⟨fun j oj hj hD e he hb => ?_, h⟩) (this D a' w' hI.1 hI.2.1 hI.2.2 hd hp)
    simp only [Bool.or_eq_true, beq_iff_eq] at hD ⊢
    rcases hD with rfl | hD
    · have : oj = o := by
        have h1 : l.toArray[j]? = l[j]? := by simp
        rw [h1, hj] at ho; injection ho
      subst this
      exact .inr (hp e he hb)
    · exact .inr (hI.1 j oj hj hD e he hb)
  · have := he D _ w' (fun i hi => hd i (by simpa using hi)) hI.2.2
    rw [← hI.2.1.puts] at this
    exact this

/-! ### Single operations -/
/-- A function of the program's own. -/
def GoFn (P : Program) (f : FuncId) : Prop := ∃ fn, P.funcs[f]? = some fn ∧ (fn.name == "runtime.NumGoroutine") = false ∧ fn.body.isNone = false
theorem run_callFunc_go {f : FuncId} (h : GoFn P f) (args : Array Value) (w : World) : (callFunc f args).run P w = .ok (.enter f args) w := by
  obtain ⟨fn, h1, h2, h3⟩ := h
  have e2 : (fn.name == "runtime.NumGoroutine") = false := h2
  have e3 : fn.body.isNone = false := h3
  unfold callFunc
  have hp : program.run P w = .ok P w := rfl
  simp only [Sem.run_bind, hp, Result.andThen_ok, h1, e2, e3, Bool.false_eq_true, if_false, Sem.run_pure]
theorem wp_call_go {o : Oper} {a : Act} {w : World} {K : Act → World → Prop} {f : FuncId} {xs : Array Operand} {ats : Array TypeId} (ho : o.op = .call { callee := .value (.func f), args := xs, argTypes := ats }) (hf : GoFn P f)
    (vals : Array Value) (hv : xs.map a.eval = vals) (hc : Calls P f vals w fun e w' => ∃ v, e = .returned v ∧ K (a.put o.dst v) w') : o.wp P a w K Q := by
  subst hv
  have hrun : (execOp a.eval o).run P w = .ok (.enter f (xs.map a.eval)) w := by
    obtain ⟨dst, op, type, pos, after, guard⟩ := o
    simp only at ho
    subst ho
    rw [execOp_call_go]
    have e : #[] ++ xs.map a.eval ++ #[] = xs.map a.eval := by simp
    rw [e]
    exact run_callFunc_go hf _ w
  unfold Oper.wp
  rw [hrun, Oper.upon_enter]
  refine hc.mono fun e w' ⟨v, he, hK⟩ => ?_
  subst he
  exact hK
/-- A type whose values are rows of n cells. -/
structure RowTy (P : Program) (ty : TypeId) (n : Nat) : Prop where
  desc : ∃ d, P.underlying ty = some d ∧ d.isRow = true
  size : (P.info? ty).map (·.size) = some n
theorem wp_load_row7 {o : Oper} {a : Act} {w : World} {K : Act → World → Prop} {ty : TypeId} {x : Operand} (ho : o.op = .load ty x) {g : Nat} {cs : List Value} (hx : a.eval x = .pointer (some ⟨g, 0, none⟩)) (hr : w.rangeAt g 0 cs) (ht : RowTy P ty cs.length)
    (hK : K (a.put o.dst (.agg cs.toArray)) w) : o.wp P a w K Q := by
  obtain ⟨⟨d, hu, hd⟩, hi⟩ := ht
  exact wp_load_mid ty x ho g 0 hx cs d hr hu hd hi hK
theorem wpList_load_row7 {rest : List Oper} {o : Oper} {a : Act} {w : World} (hgd : Region.wanted o (yielded ops a.tmps) = true) (ty : TypeId) (x : Operand) (ho : o.op = .load ty x) {g : Nat} {cs : List Value} (hx : a.eval x = .pointer (some ⟨g, 0, none⟩)) (hr : w.rangeAt g 0 cs) (ht : RowTy P ty cs.length)
    (hK : wpList P ops Q rest (a.put o.dst (.agg cs.toArray)) w) : wpList P ops Q (o :: rest) a w :=
  BigFrame.wpList_want hgd fun _ h => wp_load_row7 ho hx hr ht (h _ _ hK)
end
end Go.Proofs.YtmigjipfomfacaaDoor

/-
  Boxes and rows of the call's own under one head. Over any program.
-/
namespace Go.Proofs.YtmigjipfomfacaaDoor
open Go.RowKit

abbrev Bx1 := Option (Nat × List Value)
/-- All that the call has made: boxes (none: a place that is not made yet), rows of bytes; all apart. -/
structure St (T : TypeId) (w : World) (bs : List Bx1) (rs : RowL) (x : World) : Prop where
  up : Below w.heap.size w x
  box : ∀ (i : Nat) g cs, bs[i]? = some (some (g, cs)) → w.heap.size ≤ g ∧ g < x.heap.size ∧ x.rangeAt g 0 cs ∧ ∀ j, x.frozen? ⟨g, j, none⟩ = false
  ne : ∀ (i j : Nat) g cs h ds, bs[i]? = some (some (g, cs)) → bs[j]? = some (some (h, ds)) → i ≠ j → g ≠ h
  rows : RowsB T w.heap.size x rs
  off : ∀ (i j : Nat) g cs r a, bs[i]? = some (some (g, cs)) → rs[j]? = some r → r.1 = some a → a.block ≠ g

section
variable {T : TypeId} {w x y : World} {bs : List Bx1} {rs : RowL} {i g : Nat} {cs vs : List Value}
theorem St.nil (T : TypeId) (w : World) : St T w [] [] w := ⟨Below.refl _ _, fun i g cs h => by simp at h, fun i j g cs h ds h1 => by simp at h1, RowsB.nil, fun i j g cs r a h => by simp at h⟩
theorem range_below {g : Nat} (h : x.rangeAt g 0 cs) (k : Below x.heap.size x y) : y.rangeAt g 0 cs := fun j v hv => cell_below k (h j v hv)
theorem St.later (h : St T w bs rs x) (k : Below x.heap.size x y) : St T w bs rs y :=
  ⟨h.up.trans (k.mono h.up.size), fun i g cs hb => by
    obtain ⟨h1, h2, h3, h4⟩ := h.box i g cs hb
    exact ⟨h1, Nat.lt_of_lt_of_le h2 k.size, range_below h3 k, fun j => (k.frozen (p := ⟨g, j, none⟩) h2).trans (h4 j)⟩, h.ne, h.rows.later k, h.off⟩
theorem St.drew (h : St T w bs rs x) : St T w bs rs x.drew := h.later (Below.refl _ _).drew
theorem St.range (h : St T w bs rs x) (hb : bs[i]? = some (some (g, cs))) : x.rangeAt g 0 cs := (h.box i g cs hb).2.2.1
theorem St.cell (h : St T w bs rs x) (hb : bs[i]? = some (some (g, cs))) {j : Nat} {v : Value} (hv : cs[j]? = some v) : x.cell? ⟨g, j, none⟩ = some v := by have := h.range hb j v hv; rwa [Nat.zero_add] at this
theorem St.fz (h : St T w bs rs x) (hb : bs[i]? = some (some (g, cs))) (j : Nat) : x.frozen? ⟨g, j, none⟩ = false := (h.box i g cs hb).2.2.2 j
theorem St.more (h : St T w bs rs x) : St T w (bs ++ [none]) rs x := by
  have hg : ∀ (i : Nat) b, (bs ++ [none])[i]? = some (some b) → bs[i]? = some (some b) := fun i b hi => by
    rw [List.getElem?_append] at hi
    split at hi
    · exact hi
    · rw [List.getElem?_singleton] at hi; split at hi <;> simp at hi
  exact ⟨h.up, fun i g cs hb => h.box i g cs (hg i _ hb), fun i j g cs g' ds h1 h2 => h.ne i j g cs g' ds (hg i _ h1) (hg j _ h2), h.rows, fun i j g cs r a h1 => h.off i j g cs r a (hg i _ h1)⟩
theorem set_get {b : Bx1} {c : Nat × List Value} {j : Nat} (hj : (bs.set i b)[j]? = some (some c)) : (j = i ∧ b = some c) ∨ (j ≠ i ∧ bs[j]? = some (some c)) := by
  rw [List.getElem?_set] at hj
  by_cases e : i = j
  · subst e
    rw [if_pos rfl] at hj
    split at hj
    · injection hj with hj; exact .inl ⟨rfl, hj⟩
    · cases hj
  · rw [if_neg e] at hj
    exact .inr ⟨fun h => e h.symm, hj⟩
theorem range_new (w : World) (cs : List Value) (t : TypeId) : (w.alloc (.cells cs.toArray t)).rangeAt w.heap.size 0 cs := fun j v hv => by
  rw [Nat.zero_add]; simpa using hv
/-- A place is made. -/
theorem St.fill {t : TypeId} (h : St T w bs rs x) (i : Nat) (cs : List Value) (hn : bs[i]? = some none) : St T w (bs.set i (some (x.heap.size, cs))) rs (x.alloc (.cells cs.toArray t)) := by
  have hb : Below x.heap.size x (x.alloc (.cells cs.toArray t)) := (Below.refl _ x).alloc (Nat.le_refl _) _
  have k := h.later hb
  have hsz : x.heap.size < (x.alloc (.cells cs.toArray t)).heap.size := by show _ < (x.heap.push _).size; simp
  refine ⟨k.up, fun j g ds hj => ?_, fun j q g ds g' ds' hj hq hne => ?_, k.rows, fun j q g ds r a hj hq ha => ?_⟩
  · rcases set_get hj with ⟨rfl, e⟩ | ⟨_, hj⟩
    · injection e with e; injection e with e1 e2; subst e1; subst e2
      exact ⟨h.up.size, hsz, range_new _ _ _, fun j => by simp⟩
    · exact k.box j g ds hj
  · rcases set_get hj with ⟨rfl, e⟩ | ⟨h1, hj1⟩ <;> rcases set_get hq with ⟨rfl, e'⟩ | ⟨h2, hq1⟩
    · exact absurd rfl hne
    · injection e with e; injection e with e1 _; subst e1
      exact Nat.ne_of_gt (h.box q g' ds' hq1).2.1
    · injection e' with e'; injection e' with e1 _; subst e1
      exact Nat.ne_of_lt (h.box j g ds hj1).2.1
    · exact h.ne j q g ds g' ds' hj1 hq1 hne
  · rcases set_get hj with ⟨rfl, e⟩ | ⟨h1, hj⟩
    · injection e with e; injection e with e1 _; subst e1
      exact Nat.ne_of_lt (((h.rows.1 q r hq).lt ha).2)
    · exact h.off j q g ds r a hj hq ha
theorem St.push {t : TypeId} (h : St T w bs rs x) (cs : List Value) : St T w (bs ++ [some (x.heap.size, cs)]) rs (x.alloc (.cells cs.toArray t)) := by
  have := (h.more).fill (t := t) bs.length cs (by simp)
  simpa using this
/-- Blocks that are not the call's boxes change. -/
theorem St.chg {S : Nat → Prop} (h : St T w bs rs x) (hc : Chg S x y) (hS : ∀ b, S b → w.heap.size ≤ b) (hb : ∀ (i : Nat) g cs, bs[i]? = some (some (g, cs)) → ¬ S g) (hr : ∀ (i : Nat) r, rs[i]? = some r → ∀ a, r.1 = some a → ¬ S a.block) : St T w bs rs y :=
  ⟨h.up.trans (hc.below h.up.size fun k _ hk => hS k hk), fun i g cs hi => by
    obtain ⟨h1, h2, h3, h4⟩ := h.box i g cs hi
    refine ⟨h1, Nat.lt_of_lt_of_le h2 hc.size, fun j v hv => hc.cell (h3 j v hv) (hb i g cs hi), fun j => ?_⟩
    have := hc.block g h2 (hb i g cs hi)
    have h5 := h4 j
    unfold World.frozen? at h5 ⊢
    rw [this]; exact h5, h.ne, h.rows.chg hc hr, h.off⟩
theorem setCells_chg (g : Nat) : ∀ (vs : List Value) (o : Nat) (x : World), Chg (fun b => b = g) x (x.setCells g o vs)
  | [], _, x => Chg.refl _ x
  | v :: vs, o, x => (Chg.setCell x ⟨g, o, none⟩ v).trans (setCells_chg g vs (o + 1) _)
/-- A box is written whole. -/
theorem St.put (h : St T w bs rs x) (hb : bs[i]? = some (some (g, cs))) (hl : vs.length = cs.length) : St T w (bs.set i (some (g, vs))) rs (x.setCells g 0 vs) ∧ Chg (fun b => b = g) x (x.setCells g 0 vs) := by
  have hc := setCells_chg g vs 0 x
  obtain ⟨hw, hx, hr, hf⟩ := h.box i g cs hb
  have ht : x.there g 0 vs.length := fun j hj => ⟨hr.isSome j (by omega), by rw [Nat.zero_add]; exact hf j⟩
  have hfz : ∀ q, (x.setCells g 0 vs).frozen? q = x.frozen? q := fun q => World.frozen?_setCells _ _ _ _ _
  refine ⟨⟨h.up.trans (hc.below h.up.size fun k _ hk => by rw [hk]; exact hw), fun j g' ds hj => ?_, fun j q g' ds g'' ds' hj hq hne => ?_, h.rows.chg hc fun q r hq a ha => h.off i q g cs r a hb hq ha, fun j q g' ds r a hj hq ha => ?_⟩, hc⟩
  · rcases set_get hj with ⟨rfl, e⟩ | ⟨h1, hj⟩
    · injection e with e; injection e with e1 e2; subst e1; subst e2
      exact ⟨hw, Nat.lt_of_lt_of_le hx hc.size, World.rangeAt_setCells_same x g 0 vs ht, fun j => (hfz _).trans (hf j)⟩
    · obtain ⟨a1, a2, a3, a4⟩ := h.box j g' ds hj
      exact ⟨a1, Nat.lt_of_lt_of_le a2 hc.size, World.rangeAt_setCells_apart a3 g 0 vs (.inl (h.ne j i g' ds g cs hj hb h1)), fun j => (hfz _).trans (a4 j)⟩
  · rcases set_get hj with ⟨rfl, e⟩ | ⟨h1, hj1⟩ <;> rcases set_get hq with ⟨rfl, e'⟩ | ⟨h2, hq1⟩
    · exact absurd rfl hne
    · injection e with e; injection e with e1 _; subst e1
      exact h.ne j q g cs g'' ds' hb hq1 hne
    · injection e' with e'; injection e' with e1 _; subst e1
      exact h.ne j q g' ds g cs hj1 hb hne
    · exact h.ne j q g' ds g'' ds' hj1 hq1 hne
  · rcases set_get hj with ⟨rfl, e⟩ | ⟨h1, hj⟩
    · injection e with e; injection e with e1 _; subst e1
      exact h.off j q g cs r a hb hq ha
    · exact h.off j q g' ds r a hj hq ha
/-- Rows that a call has made since. -/
theorem St.app (h : St T w bs rs x) (k : Below x.heap.size x y) {rs' : RowL} (hr : RowsB T x.heap.size y rs') : St T w bs (rs ++ rs') y :=
  ⟨(h.later k).up, (h.later k).box, h.ne, h.rows.app k hr h.up.size, fun i j g cs r a hb hj ha => by
    rw [List.getElem?_append] at hj
    split at hj
    · exact h.off i j g cs r a hb hj ha
    · have h1 := ((hr.1 _ r hj).lt ha).1
      have h2 := (h.box i g cs hb).2.1
      omega⟩
theorem St.fresh (h : St T w bs rs x) (k : Below x.heap.size x y) {A : Option Addr} {c : Nat} {l : List UInt8} (ho : OwnB T x.heap.size y A c l) : St T w bs (rs ++ [(A, c, l)]) y :=
  h.app k (RowsB.nil.snoc ho fun i r hr => by simp at hr)
theorem St.sl {c n : Nat} {A : Option Addr} {l : List UInt8} (h : St T w bs rs x) (hr : rs[i]? = some (A, c, l)) (hn : l.length = n) : Sl x A n c l := h.rows.sl_at hr hn
theorem St.own {c : Nat} {A : Option Addr} {l : List UInt8} (h : St T w bs rs x) (hr : rs[i]? = some (A, c, l)) : OwnB T w.heap.size x A c l := h.rows.1 i _ hr
theorem RowsB.erase {B : Nat} (h : RowsB T B x rs) (i : Nat) : RowsB T B x (rs.eraseIdx i) :=
  h.pick (fun j => if j < i then j else j + 1) (fun a b _ _ hne => by split <;> split <;> omega) fun j s hs => by
    rw [List.getElem?_eraseIdx] at hs
    split at hs
    · rename_i hj; rw [if_pos hj]; exact hs
    · rename_i hj; rw [if_neg hj]; exact hs
theorem erase_from {j : Nat} {r : Option Addr × Nat × List UInt8} (h : (rs.eraseIdx i)[j]? = some r) : ∃ k, k ≠ i ∧ rs[k]? = some r := by
  rw [List.getElem?_eraseIdx] at h
  split at h
  · exact ⟨j, by omega, h⟩
  · exact ⟨j + 1, by omega, h⟩
theorem St.erase (h : St T w bs rs x) (i : Nat) : St T w bs (rs.eraseIdx i) x := ⟨h.up, h.box, h.ne, h.rows.erase i, fun q j g cs r a hb hr ha => by
  obtain ⟨k, _, hk⟩ := erase_from hr
  exact h.off q k g cs r a hb hk ha⟩
/-- A row is written over and lengthened: the others stand. -/
theorem St.lng {A : Option Addr} {c : Nat} {l : List UInt8} (h : St T w bs rs x) (hr : rs[i]? = some (A, c, l)) (hc : Chg (fun b => A.map (·.block) = some b) x y) : St T w bs (rs.eraseIdx i) y := by
  have hS : ∀ b, A.map (·.block) = some b → ∃ a, A = some a ∧ a.block = b := fun b e => by
    cases A with
    | none => cases e
    | some a => injection e with e; exact ⟨a, rfl, e⟩
  refine (h.erase i).chg hc (fun b e => ?_) (fun q g cs hb e => ?_) fun j r hj a ha e => ?_
  · obtain ⟨a, ha, rfl⟩ := hS b e
    exact ((h.rows.1 i _ hr).lt ha).1
  · obtain ⟨a, ha, e'⟩ := hS g e
    exact h.off q i g cs _ a hb hr ha e'
  · obtain ⟨k, hk, hj⟩ := erase_from hj
    obtain ⟨b, hb, e'⟩ := hS _ e
    exact h.rows.2 i k _ r hr hj (fun e => hk e.symm) b a hb ha e'
theorem Lng.aside {x0 : World} {A A' : Option Addr} {c c' n g i j : Nat} {m : UInt8} {l l' : List UInt8} (L : Lng x0 A n m g x) (h : St T w bs rs x0) (hi : rs[i]? = some (A, c, l)) (hj : rs[j]? = some (A', c', l')) (hne : i ≠ j) (hc : Chg (fun b => A'.map (·.block) = some b) x y) : Lng x0 A n m g y := by
  refine L.chg hc fun b e => ?_
  cases A' with
  | none => cases e
  | some a =>
    injection e with e
    have e : a.block = b := e
    subst e
    refine ⟨((h.rows.1 j _ hj).lt rfl).2, fun e => ?_⟩
    cases A with
    | none => cases e
    | some a' =>
      injection e with e
      exact h.rows.2 i j _ _ hi hj hne a' a rfl rfl e
theorem Lng.box {x0 : World} {A : Option Addr} {c n g k i g1 : Nat} {m : UInt8} {l : List UInt8} {cs : List Value} (L : Lng x0 A n m g x) (h : St T w bs rs x0) (hb : bs[k]? = some (some (g1, cs))) (hi : rs[i]? = some (A, c, l)) (hc : Chg (fun b => b = g1) x y) : Lng x0 A n m g y := by
  refine L.chg hc fun b e => ?_
  subst e
  refine ⟨(h.box k _ cs hb).2.1, fun e => ?_⟩
  cases A with
  | none => cases e
  | some a =>
    injection e with e
    exact h.off k i _ cs _ a hb hi rfl e
theorem RowsB.lift {B B' : Nat} (h : RowsB T B x rs) (hb : B' ≤ B) : RowsB T B' x rs := ⟨fun i r hr => (h.1 i r hr).rebase hb, h.2⟩
end

section
variable {P : Program} {ops : Array Oper} {Q : Exit → Act → World → Prop}
theorem wp_alloc_row {o : Oper} {a : Act} {w : World} {K : Act → World → Prop} {ty : TypeId} (ho : o.op = .alloc ty) {z : Value} (hz : (P.info? ty).bind (·.zero) = some z)
    (hK : K (a.put o.dst (.pointer (some ⟨w.heap.size, 0, none⟩))) (w.alloc (.cells z.cells ty))) : o.wp P a w K Q := by
  cases hi : P.info? ty with
  | none => rw [hi] at hz; cases hz
  | some i =>
    rw [hi] at hz
    have hz : i.zero = some z := hz
    unfold Oper.wp execOp
    simp [ho, Instr.alloc, zeroValue, typeInfo, hi, hz, newVar, newRow, Sem.run_bind, Oper.upon]
    exact hK
theorem wp_store_row {o : Oper} {a : Act} {w : World} {K : Act → World → Prop} {ty : TypeId} {x y : Operand} (ho : o.op = .store ty x y) {g : Nat} {cs vs : List Value} (hx : a.eval x = .pointer (some ⟨g, 0, none⟩)) (hy : a.eval y = .agg vs.toArray)
    (hr : w.rangeAt g 0 cs) (hf : ∀ j, w.frozen? ⟨g, j, none⟩ = false) (hl : vs.length = cs.length) (ht : (P.info? ty).map (·.size) = some vs.length) (h1 : ∀ u ∈ vs, u.oneCell' = true)
    (hK : K (a.put o.dst undef) (w.setCells g 0 vs)) : o.wp P a w K Q :=
  wp_store_mid ty x y ho g 0 vs.toArray hx hy (fun j hj => ⟨hr.isSome j (by simpa [hl] using hj), by rw [Nat.zero_add]; exact hf j⟩) (by simpa using ht) (all_oneCell_toArray h1) hK
theorem wpList_store_row {rest : List Oper} {o : Oper} {a : Act} {w : World} (hgd : Region.wanted o (yielded ops a.tmps) = true) (ty : TypeId) (x y : Operand) (ho : o.op = .store ty x y) {g : Nat} {cs vs : List Value} (hx : a.eval x = .pointer (some ⟨g, 0, none⟩)) (hy : a.eval y = .agg vs.toArray)
    (hr : w.rangeAt g 0 cs) (hf : ∀ j, w.frozen? ⟨g, j, none⟩ = false) (hl : vs.length = cs.length) (ht : (P.info? ty).map (·.size) = some vs.length) (h1 : ∀ u ∈ vs, u.oneCell' = true)
    (hK : wpList P ops Q rest (a.put o.dst undef) (w.setCells g 0 vs)) : wpList P ops Q (o :: rest) a w :=
  BigFrame.wpList_want hgd fun _ h => wp_store_row ho hx hy hr hf hl ht h1 (h _ _ hK)
theorem wpList_alloc_st {rest : List Oper} {o : Oper} {a : Act} {W : World} (hgd : Region.wanted o (yielded ops a.tmps) = true) (ty : TypeId) (ho : o.op = .alloc ty) {T : TypeId} {w : World} {bs : List Bx1} {rs : RowL} (h : St T w bs rs W) (cs : List Value) (hz : (P.info? ty).bind (·.zero) = some (.agg cs.toArray))
    (hK : ∀ g W', St T w (bs ++ [some (g, cs)]) rs W' → Below W.heap.size W W' → wpList P ops Q rest (a.put o.dst (.pointer (some ⟨g, 0, none⟩))) W') : wpList P ops Q (o :: rest) a W :=
  BigFrame.wpList_want hgd fun _ hk => wp_alloc_row ho hz (hk _ _ (hK _ _ (h.push cs) ((Below.refl _ _).alloc (Nat.le_refl _) _)))
theorem wpList_store_st {rest : List Oper} {o : Oper} {a : Act} {W : World} (hgd : Region.wanted o (yielded ops a.tmps) = true) (ty : TypeId) (x y : Operand) (ho : o.op = .store ty x y) {T : TypeId} {w : World} {bs : List Bx1} {rs : RowL} (h : St T w bs rs W) (i : Nat) {g : Nat} {cs : List Value} (hb : bs[i]? = some (some (g, cs)))
    (hx : a.eval x = .pointer (some ⟨g, 0, none⟩)) (vs : List Value) (hy : a.eval y = .agg vs.toArray) (hl : vs.length = cs.length) (ht : (P.info? ty).map (·.size) = some vs.length) (h1 : ∀ u ∈ vs, u.oneCell' = true)
    (hK : ∀ W', St T w (bs.set i (some (g, vs))) rs W' → Chg (fun b => b = g) W W' → wpList P ops Q rest (a.put o.dst undef) W') : wpList P ops Q (o :: rest) a W :=
  wpList_store_row hgd ty x y ho hx hy (h.range hb) (h.fz hb) hl ht h1 (hK _ (h.put hb hl).1 (h.put hb hl).2)
end
end Go.Proofs.YtmigjipfomfacaaDoor

/-
  A statement 'x, y, .. := f(a), f(b), ..' whose variables are boxed: a region that draws its order; each part is loaded, called for, given a place and stored. Over any program.
-/
namespace Go.Proofs.YtmigjipfomfacaaDoor
open Go.RowKit

/-- Where the parts stand: slots of the loaded, of the answer, of the place; numbers of the operations. -/
structure Parts where
  k : Nat
  s : Nat → Nat
  u : Nat → Nat
  t : Nat → Nat
  L : Nat → Nat
  C : Nat → Nat
  A : Nat → Nat
  X : Nat → Nat
def Parts.slots (p : Parts) : List Nat := (List.range p.k).flatMap fun j => [p.s j, p.u j, p.t j]
def apartB (l : List Nat) : Bool := decide l.Nodup
def Parts.sl (p : Parts) (j : Nat) : List Nat := [p.s j, p.u j, p.t j]
def Parts.op (p : Parts) (j : Nat) : List Nat := [p.L j, p.C j, p.A j, p.X j]
def Parts.ok (p : Parts) (n : Nat) : Bool := (List.range p.k).all fun j => decide ((p.sl j).Nodup) && decide ((p.op j).Nodup) && (p.sl j).all (fun d => decide (d < n)) &&
  (List.range p.k).all fun i => i == j || ((p.sl i).all fun x => !(p.sl j).contains x) && (p.op i).all fun x => !(p.op j).contains x
theorem ok_at {p : Parts} {m : Nat} (h : p.ok m = true) {j : Nat} (hj : j < p.k) : ((p.sl j).Nodup ∧ (p.op j).Nodup ∧ ∀ d ∈ p.sl j, d < m) ∧ ∀ i, i < p.k → i ≠ j → (∀ x ∈ p.sl i, ∀ y ∈ p.sl j, x ≠ y) ∧ ∀ x ∈ p.op i, ∀ y ∈ p.op j, x ≠ y := by
  have h1 := List.all_eq_true.1 h j (List.mem_range.2 hj)
  simp only [Bool.and_eq_true, decide_eq_true_eq, List.all_eq_true, Bool.or_eq_true, beq_iff_eq, Bool.not_eq_true', List.mem_range] at h1
  obtain ⟨⟨⟨a1, a2⟩, a3⟩, a4⟩ := h1
  refine ⟨⟨a1, a2, a3⟩, fun i hi hne => ?_⟩
  rcases a4 i hi with e | ⟨b1, b2⟩
  · exact absurd e hne
  · exact ⟨fun x hx y hy e => by subst e; have := b1 x hx; simp at this; exact this hy, fun x hx y hy e => by subst e; have := b2 x hx; simp at this; exact this hy⟩
def edgeB (o : Oper) (n : Nat) : Bool := o.after.any fun e => Region.binds .any e && e.on == n
theorem edge_on {o : Oper} {n : Nat} {D : Nat → Bool} (h : edgeB o n = true) (hp : ∀ e, e ∈ o.after → Region.binds .any e = true → D e.on = true) : D n = true := by
  obtain ⟨e, he, hb⟩ := Array.any_eq_true'.1 h
  simp only [Bool.and_eq_true, beq_iff_eq] at hb
  rw [← hb.2]
  exact hp e he hb.1
def chainB (l : List Oper) (C : Nat → Nat) (k : Nat) : Bool := (List.range (k - 1)).all fun j => match l[C (j + 1)]? with
  | some o => edgeB o (C j)
  | none => false
theorem chain_down {l : List Oper} {C : Nat → Nat} {k : Nat} {D : Nat → Bool} (h : chainB l C k = true) (hc : Closed l D) {j : Nat} (hj : D (C j) = false) : ∀ i, j ≤ i → i < k → D (C i) = false := by
  intro i
  induction i with
  | zero => intro h0 _; obtain rfl : j = 0 := by omega
            exact hj
  | succ i ih =>
    intro h0 h1
    rcases Nat.lt_or_ge i j with hlt | hge
    · obtain rfl : j = i + 1 := by omega
      exact hj
    · cases hd : D (C (i + 1)) with
      | false => rfl
      | true =>
        have h2 := List.all_eq_true.1 h i (List.mem_range.2 (by omega))
        split at h2
        · rename_i o ho
          have := edge_on h2 (hc _ o ho hd)
          rw [ih hge (by omega)] at this
          cases this
        · cases h2
section
variable {P : Program} {Q : Exit → Act → World → Prop} {T : TypeId} {w : World} {bs : List Bx1} {rs : RowL}
/-- What holds of one part. -/
structure Part1 (p : Parts) (n : Nat) (arg : List Value) (Pst : Value → RowL → Prop) (j : Nat) (D : Nat → Bool) (v : Nat → Value) (b : Bx1) (R : RowL) : Prop where
  load : D (p.L j) = true → v (p.s j) = .agg arg.toArray
  no : D (p.C j) = false → R = []
  call : D (p.C j) = true → Pst (v (p.u j)) R
  nob : D (p.A j) = false → b = none
  box : D (p.A j) = true → ∃ g cs, v (p.t j) = .pointer (some ⟨g, 0, none⟩) ∧ b = some (g, cs) ∧ cs.length = n ∧ (D (p.X j) = true → v (p.u j) = .agg cs.toArray)
theorem slot_ne {p : Parts} {m : Nat} (h : p.ok m = true) {i j : Nat} (hi : i < p.k) (hj : j < p.k) (hne : i ≠ j) :
    (p.s i ≠ p.s j ∧ p.s i ≠ p.u j ∧ p.s i ≠ p.t j ∧ p.u i ≠ p.s j ∧ p.u i ≠ p.u j ∧ p.u i ≠ p.t j ∧ p.t i ≠ p.s j ∧ p.t i ≠ p.u j ∧ p.t i ≠ p.t j) := by
  have k := ((ok_at h hj).2 i hi hne).1
  unfold Parts.sl at k
  exact ⟨k _ (by simp) _ (by simp), k _ (by simp) _ (by simp), k _ (by simp) _ (by simp), k _ (by simp) _ (by simp), k _ (by simp) _ (by simp), k _ (by simp) _ (by simp), k _ (by simp) _ (by simp), k _ (by simp) _ (by simp), k _ (by simp) _ (by simp)⟩
theorem oper_ne {p : Parts} {m : Nat} (h : p.ok m = true) {i j : Nat} (hi : i < p.k) (hj : j < p.k) (hne : i ≠ j) :
    ∀ x ∈ [p.L i, p.C i, p.A i, p.X i], ∀ y ∈ [p.L j, p.C j, p.A j, p.X j], x ≠ y := ((ok_at h hj).2 i hi hne).2
theorem own_ne {p : Parts} {m : Nat} (h : p.ok m = true) {j : Nat} (hj : j < p.k) : (p.s j ≠ p.u j ∧ p.s j ≠ p.t j ∧ p.u j ≠ p.t j) ∧ (p.L j ≠ p.C j ∧ p.L j ≠ p.A j ∧ p.L j ≠ p.X j ∧ p.C j ≠ p.A j ∧ p.C j ≠ p.X j ∧ p.A j ≠ p.X j) ∧ (p.s j < m ∧ p.u j < m ∧ p.t j < m) := by
  obtain ⟨h1, h2, h3⟩ := (ok_at h hj).1
  unfold Parts.sl at h1 h3
  unfold Parts.op at h2
  simp only [List.nodup_cons, List.mem_cons, List.not_mem_nil, not_or, or_false] at h1 h2
  exact ⟨⟨h1.1.1, h1.1.2, h1.2.1⟩, ⟨h2.1.1, h2.1.2.1, h2.1.2.2, h2.2.1.1, h2.2.1.2, h2.2.2.1⟩, h3 _ (by simp), h3 _ (by simp), h3 _ (by simp)⟩
theorem slot_in {p : Parts} {j : Nat} (hj : j < p.k) : p.s j ∈ p.slots ∧ p.u j ∈ p.slots ∧ p.t j ∈ p.slots :=
  ⟨List.mem_flatMap.2 ⟨j, List.mem_range.2 hj, by simp⟩, List.mem_flatMap.2 ⟨j, List.mem_range.2 hj, by simp⟩, List.mem_flatMap.2 ⟨j, List.mem_range.2 hj, by simp⟩⟩
/-- A part that is not meant stays. -/
theorem Part1.other {p : Parts} {n : Nat} {arg : List Value} {Pst : Value → RowL → Prop} {j : Nat} {D D' : Nat → Bool} {v v' : Nat → Value} {b : Bx1} {R : RowL} (h : Part1 p n arg Pst j D v b R)
    (hD : D' (p.L j) = D (p.L j) ∧ D' (p.C j) = D (p.C j) ∧ D' (p.A j) = D (p.A j) ∧ D' (p.X j) = D (p.X j)) (hv : v' (p.s j) = v (p.s j) ∧ v' (p.u j) = v (p.u j) ∧ v' (p.t j) = v (p.t j)) : Part1 p n arg Pst j D' v' b R := by
  obtain ⟨d1, d2, d3, d4⟩ := hD
  obtain ⟨v1, v2, v3⟩ := hv
  refine ⟨fun e => ?_, fun e => ?_, fun e => ?_, fun e => ?_, fun e => ?_⟩
  · rw [v1]; exact h.load (d1 ▸ e)
  · exact h.no (d2 ▸ e)
  · rw [v2]; exact h.call (d2 ▸ e)
  · exact h.nob (d3 ▸ e)
  · rw [v2, v3, d4]; exact h.box (d3 ▸ e)
def Rows1 (R : Nat → RowL) (k : Nat) : RowL := (List.range k).flatMap R
def Boxes1 (b : Nat → Bx1) (k : Nat) : List Bx1 := (List.range k).map b
/-- What holds of the region. -/
def PartR (p : Parts) (T : TypeId) (w : World) (bs : List Bx1) (rs : RowL) (n : Nat) (arg : Nat → List Value) (Pst : Nat → Value → RowL → Prop) (D : Nat → Bool) (v : Nat → Value) (x : World) : Prop :=
  ∃ (b : Nat → Bx1) (R : Nat → RowL), St T w (bs ++ Boxes1 b p.k) (rs ++ Rows1 R p.k) x ∧ ∀ j, j < p.k → Part1 p n (arg j) (Pst j) j D v (b j) (R j)
variable {p : Parts} {n m : Nat} {arg : Nat → List Value} {Pst : Nat → Value → RowL → Prop} {l : List Oper} {f0 : Act} {o : Oper} {j : Nat}
def upd {α : Type} (f : Nat → α) (j : Nat) (x : α) : Nat → α := fun i => if i = j then x else f i
theorem upd_same {α : Type} (f : Nat → α) (j : Nat) (x : α) : upd f j x j = x := by simp [upd]
theorem upd_other {α : Type} {f : Nat → α} {j i : Nat} {x : α} (h : i ≠ j) : upd f j x i = f i := by simp [upd, h]
theorem boxes_upd (b : Nat → Bx1) (k : Nat) (x : Bx1) : Boxes1 (upd b j x) k = (Boxes1 b k).set j x := by
  refine List.ext_getElem? fun i => ?_
  unfold Boxes1
  rw [List.getElem?_set, List.getElem?_map, List.getElem?_map]
  by_cases hi : i < k
  · rw [List.getElem?_range hi]
    by_cases e : j = i
    · subst e; simp [hi, upd]
    · have e2 : i ≠ j := fun h => e h.symm
      simp [upd, e, e2]
  · rw [List.getElem?_eq_none (by simpa using hi)]
    by_cases e : j = i
    · subst e; simp [hi]
    · simp [e]
theorem boxes_at {b : Nat → Bx1} {k : Nat} (hj : j < k) : (bs ++ Boxes1 b k)[bs.length + j]? = some (b j) := by
  rw [List.getElem?_append_right (by omega)]
  simp [Boxes1, hj]
theorem rows_upd {R : Nat → RowL} {k : Nat} {x : RowL} (hj : j < k) (h : ∀ i, j ≤ i → i < k → R i = []) : Rows1 (upd R j x) k = Rows1 R k ++ x := by
  unfold Rows1
  obtain ⟨d, rfl⟩ : ∃ d, k = j + 1 + d := ⟨k - (j + 1), by omega⟩
  have hcut : ∀ F : Nat → RowL, (List.range (j + 1 + d)).flatMap F = (List.range j).flatMap F ++ F j ++ ((List.range d).map (j + 1 + ·)).flatMap F := fun F => by
    rw [List.range_add, List.flatMap_append, List.range_succ, List.flatMap_append]; simp
  have hnil : ∀ F : Nat → RowL, (∀ i, j < i → i < j + 1 + d → F i = []) → ((List.range d).map (j + 1 + ·)).flatMap F = [] := fun F hF => by
    rw [List.flatMap_eq_nil_iff]
    intro i hi
    obtain ⟨q, hq, rfl⟩ := List.mem_map.1 hi
    exact hF _ (by omega) (by have := List.mem_range.1 hq; omega)
  have hpre : (List.range j).flatMap (upd R j x) = (List.range j).flatMap R := by
    unfold List.flatMap
    congr 1
    exact List.map_congr_left fun i hi => upd_other (by have := List.mem_range.1 hi; omega)
  rw [hcut, hcut, hnil _ (fun i h1 h2 => by rw [upd_other (by omega)]; exact h i (by omega) h2), hnil _ (fun i h1 h2 => h i (by omega) h2), hpre, upd_same, h j (Nat.le_refl _) hj]
  simp
theorem done_same (D : Nat → Bool) (i : Nat) : (i == i || D i) = true := by simp
theorem done_other {D : Nat → Bool} {i q : Nat} (h : q ≠ i) : (q == i || D q) = D q := by simp [h]
/-- The others stay. -/
theorem others {D : Nat → Bool} {a : Act} {b : Nat → Bx1} {R : Nat → RowL} (hok : p.ok m = true) (hj : j < p.k) (h : ∀ i, i < p.k → Part1 p n (arg i) (Pst i) i D (fun q => a.eval (.tmp q)) (b i) (R i)) {c d : Nat} {x : Value}
    (hc : c ∈ [p.L j, p.C j, p.A j, p.X j]) (hd : d = p.s j ∨ d = p.u j ∨ d = p.t j) {i : Nat} (hi : i < p.k) (hne : i ≠ j) : Part1 p n (arg i) (Pst i) i (fun q => q == c || D q) (fun q => (a.put (some d) x).eval (.tmp q)) (b i) (R i) := by
  have h1 := oper_ne hok hi hj hne
  obtain ⟨n1, n2, n3, n4, n5, n6, n7, n8, n9⟩ := slot_ne hok hi hj hne
  refine (h i hi).other ⟨done_other (h1 _ (by simp) c hc), done_other (h1 _ (by simp) c hc), done_other (h1 _ (by simp) c hc), done_other (h1 _ (by simp) c hc)⟩ ?_
  rcases hd with rfl | rfl | rfl
  · exact ⟨put_other n1.symm x, put_other n4.symm x, put_other n7.symm x⟩
  · exact ⟨put_other n2.symm x, put_other n5.symm x, put_other n8.symm x⟩
  · exact ⟨put_other n3.symm x, put_other n6.symm x, put_other n9.symm x⟩
theorem part_load {ty : TypeId} {q i g : Nat} (hok : p.ok f0.tmps.size = true) (hj : j < p.k) (ho : o.op = .load ty (.tmp q)) (hd : o.dst = some (p.s j)) (hq : q ∉ p.slots) (he : f0.eval (.tmp q) = .pointer (some ⟨g, 0, none⟩)) (hb : bs[i]? = some (some (g, arg j))) (ht : RowTy P ty (arg j).length) :
    RegStep P Q l p.slots f0 (PartR p T w bs rs n arg Pst) (p.L j) o := by
  intro D a x hcl hs ⟨b, R, hst, hp⟩ hD hpre
  obtain ⟨⟨o1, o2, o3⟩, ⟨e1, e2, e3, e4, e5, e6⟩, ⟨m1, m2, m3⟩⟩ := own_ne hok hj
  refine wp_load_row7 ho ((hs.eval hq).trans he) (hst.range (i := i) (by rw [List.getElem?_append_left (List.getElem?_eq_some_iff.1 hb).1]; exact hb)) ht ?_
  rw [hd]
  refine ⟨hs.put (slot_in hj).1 _, b, R, hst, fun i hi => ?_⟩
  by_cases e : i = j
  · subst e
    have h := hp i hi
    refine ⟨fun _ => put_same (by rw [hs.size]; exact m1) _, fun e => h.no (by rwa [done_other e1.symm] at e), fun e => ?_, fun e => h.nob (by rwa [done_other e2.symm] at e), fun e => ?_⟩
    · rw [put_other o1]; exact h.call (by rwa [done_other e1.symm] at e)
    · rw [put_other o1, put_other o2, done_other e3.symm]; exact h.box (by rwa [done_other e2.symm] at e)
  · exact others hok hj hp (by simp) (.inl rfl) hi e
theorem part_call {f : FuncId} {ats : Array TypeId} (hok : p.ok f0.tmps.size = true) (hj : j < p.k) (ho : o.op = .call { callee := .value (.func f), args := #[.tmp (p.s j)], argTypes := ats }) (hd : o.dst = some (p.u j)) (hf : GoFn P f)
    (hL : edgeB o (p.L j) = true) (hch : chainB l p.C p.k = true) (hX : ∃ ox, l[p.X j]? = some ox ∧ edgeB ox (p.C j) = true)
    (hc : ∀ x, Below w.heap.size w x → Calls P f #[.agg (arg j).toArray] x fun e y => ∃ v R, e = .returned v ∧ Pst j v R ∧ RowsB T x.heap.size y R ∧ Below x.heap.size x y) :
    RegStep P Q l p.slots f0 (PartR p T w bs rs n arg Pst) (p.C j) o := by
  intro D a x hcl hs ⟨b, R, hst, hp⟩ hD hpre
  obtain ⟨⟨o1, o2, o3⟩, ⟨e1, e2, e3, e4, e5, e6⟩, ⟨m1, m2, m3⟩⟩ := own_ne hok hj
  have hl := (hp j hj).load (edge_on hL hpre)
  refine wp_call_go ho hf #[.agg (arg j).toArray] (by simp only [List.map_toArray, List.map_cons, List.map_nil]; rw [show a.eval (.tmp (p.s j)) = _ from hl]) ((hc x hst.up).mono fun e y ⟨v, R', he, hP, hR, hB⟩ => ⟨v, he, ?_⟩)
  rw [hd]
  have hno := chain_down hch hcl hD
  have hXf : D (p.X j) = false := by
    obtain ⟨ox, hox, hoe⟩ := hX
    cases h : D (p.X j) with
    | false => rfl
    | true => have := edge_on hoe (hcl _ _ hox h); rw [hD] at this; cases this
  refine ⟨hs.put (slot_in hj).2.1 _, b, upd R j R', ?_, fun i hi => ?_⟩
  · rw [rows_upd hj fun i h1 h2 => (hp i h2).no (hno i h1 h2), ← List.append_assoc]
    exact hst.app hB hR
  · by_cases e : i = j
    · subst e
      have h := hp i hi
      rw [upd_same]
      refine ⟨fun e => ?_, fun e => ?_, fun _ => ?_, fun e => h.nob (by rwa [done_other e4.symm] at e), fun e => ?_⟩
      · rw [put_other o1.symm]; exact h.load (by rwa [done_other e1] at e)
      · rw [done_same] at e; cases e
      · rw [put_same (by rw [hs.size]; exact m2)]; exact hP
      · obtain ⟨g, cs, h1, h2, h3, h4⟩ := h.box (by rwa [done_other e4.symm] at e)
        refine ⟨g, cs, by rw [put_other o3]; exact h1, h2, h3, fun e => ?_⟩
        rw [done_other e5.symm, hXf] at e; cases e
    · rw [upd_other e]
      exact others hok hj hp (by simp) (.inr (.inl rfl)) hi e
theorem part_alloc {ty : TypeId} {cs : List Value} (hok : p.ok f0.tmps.size = true) (hj : j < p.k) (ho : o.op = .alloc ty) (hd : o.dst = some (p.t j)) (hz : (P.info? ty).bind (·.zero) = some (.agg cs.toArray)) (hn : cs.length = n)
    (hX : ∃ ox, l[p.X j]? = some ox ∧ edgeB ox (p.A j) = true) : RegStep P Q l p.slots f0 (PartR p T w bs rs n arg Pst) (p.A j) o := by
  intro D a x hcl hs ⟨b, R, hst, hp⟩ hD hpre
  obtain ⟨⟨o1, o2, o3⟩, ⟨e1, e2, e3, e4, e5, e6⟩, ⟨m1, m2, m3⟩⟩ := own_ne hok hj
  refine wp_alloc_row ho hz ?_
  rw [hd]
  have hXf : D (p.X j) = false := by
    obtain ⟨ox, hox, hoe⟩ := hX
    cases h : D (p.X j) with
    | false => rfl
    | true => have := edge_on hoe (hcl _ _ hox h); rw [hD] at this; cases this
  refine ⟨hs.put (slot_in hj).2.2 _, upd b j (some (x.heap.size, cs)), R, ?_, fun i hi => ?_⟩
  · have h := hst.fill (t := ty) (bs.length + j) cs (by rw [boxes_at hj, (hp j hj).nob hD])
    rw [boxes_upd]
    rw [List.set_append_right _ _ (by omega), show bs.length + j - bs.length = j from by omega] at h
    exact h
  · by_cases e : i = j
    · subst e
      have h := hp i hi
      rw [upd_same]
      refine ⟨fun e => ?_, fun e => h.no (by rwa [done_other e4] at e), fun e => ?_, fun e => ?_, fun _ => ⟨_, cs, put_same (by rw [hs.size]; exact m3) _, rfl, hn, fun e => ?_⟩⟩
      · rw [put_other o2.symm]; exact h.load (by rwa [done_other e2] at e)
      · rw [put_other o3.symm]; exact h.call (by rwa [done_other e4] at e)
      · rw [done_same] at e; cases e
      · rw [done_other e6.symm, hXf] at e; cases e
    · rw [upd_other e]
      exact others hok hj hp (by simp) (.inr (.inr rfl)) hi e
theorem part_store {ty : TypeId} (hok : p.ok f0.tmps.size = true) (hj : j < p.k) (ho : o.op = .store ty (.tmp (p.t j)) (.tmp (p.u j))) (hd : o.dst = none) (hA : edgeB o (p.A j) = true) (hC : edgeB o (p.C j) = true)
    (hP : ∀ v R, Pst j v R → ∃ cs : List Value, v = .agg cs.toArray ∧ cs.length = n ∧ ∀ u ∈ cs, u.oneCell' = true) (ht : (P.info? ty).map (·.size) = some n) : RegStep P Q l p.slots f0 (PartR p T w bs rs n arg Pst) (p.X j) o := by
  intro D a x hcl hs ⟨b, R, hst, hp⟩ hD hpre
  obtain ⟨⟨o1, o2, o3⟩, ⟨e1, e2, e3, e4, e5, e6⟩, ⟨m1, m2, m3⟩⟩ := own_ne hok hj
  obtain ⟨g, cs, h1, h2, h3, _⟩ := (hp j hj).box (edge_on hA hpre)
  have hc := (hp j hj).call (edge_on hC hpre)
  obtain ⟨vs, k1, k2, k3⟩ := hP _ _ hc
  have hb : (bs ++ Boxes1 b p.k)[bs.length + j]? = some (some (g, cs)) := by rw [boxes_at hj, h2]
  refine wp_store_row ho h1 k1 (hst.range hb) (hst.fz hb) (by rw [k2, h3]) (by rw [k2]; exact ht) k3 ?_
  rw [hd]
  refine ⟨hs, upd b j (some (g, vs)), R, ?_, fun i hi => ?_⟩
  · have h := (hst.put (vs := vs) hb (by rw [k2, h3])).1
    rw [boxes_upd]
    rw [List.set_append_right _ _ (by omega), show bs.length + j - bs.length = j from by omega] at h
    exact h
  · by_cases e : i = j
    · subst e
      have h := hp i hi
      rw [upd_same]
      refine ⟨fun e => h.load (by rwa [done_other e3] at e), fun e => h.no (by rwa [done_other e5] at e), fun e => h.call (by rwa [done_other e5] at e), fun e => ?_, fun e => ⟨g, vs, h1, rfl, k2, fun _ => k1⟩⟩
      rw [done_other e6, edge_on hA hpre] at e; cases e
    · rw [upd_other e]
      have q := oper_ne hok hi hj e
      exact (hp i hi).other ⟨done_other (q _ (by simp) _ (by simp)), done_other (q _ (by simp) _ (by simp)), done_other (q _ (by simp) _ (by simp)), done_other (q _ (by simp) _ (by simp))⟩ ⟨rfl, rfl, rfl⟩
theorem partR_start {v : Nat → Value} {x : World} (h : St T w bs rs x) : PartR p T w bs rs n arg Pst (fun _ => false) v x := by
  refine ⟨fun _ => none, fun _ => [], ?_, fun j _ => ⟨(fun e => nomatch e), fun _ => rfl, (fun e => nomatch e), fun _ => rfl, (fun e => nomatch e)⟩⟩
  have e1 : Rows1 (fun _ => []) p.k = [] := by unfold Rows1; simp
  have e2 : ∀ k, St T w (bs ++ Boxes1 (fun _ => none) k) rs x := by
    intro k
    induction k with
    | zero => simpa [Boxes1] using h
    | succ k ih =>
      have := ih.more
      simpa [Boxes1, List.range_succ] using this
  rw [e1, List.append_nil]
  exact e2 p.k
end
end Go.Proofs.YtmigjipfomfacaaDoor

/-
  A region that draws its order, walked as a straight line: what only reads is taken first; the rest comes one at a time. Over any program.
-/
namespace Go.Proofs.YtmigjipfomfacaaDoor
open Go.RowKit

section
variable {P : Program} {Q : Exit → Act → World → Prop} {S : World → Prop} {l : List Oper} {fuel : Nat} {listed : Array Bool} {a : Act} {w : World} {i : Nat} {o : Oper} {v : Value}
theorem lx_start {id : Nat} (hm : P.follows .mixedOrders = true) (_hS : S w.drew) (h : wpAnyH P .any l.toArray Q S l.length (Array.replicate l.length false) a w.drew) : (Code.region id l.toArray true).wp P Q a w :=
  wp_region_held (S := S) hm (by simpa using h)
theorem lx_at (hi : l[i]? = some o) : l.toArray[i]? = some o := by simpa using hi
theorem lx_take (i : Nat) {o : Oper} (hi : l[i]? = some o) (hs : Region.noSelect l.toArray = true) (hf : Region.free .any l.toArray listed i = true) (hr : (Region.ready .any l.toArray listed).contains i = true)
    (hQ : ∀ c a w, Q (.panic c) (a.put o.dst v) w → Q (.panic c) a w) (hy : YieldsIf P l.toArray S o v a) (hS : S w)
    (h : wpAnyH P .any l.toArray Q S fuel (listed.setIfInBounds i true) (a.put o.dst v) w) : wpAnyH P .any l.toArray Q S (fuel + 1) listed a w :=
  wpAnyH_take (lx_at hi) hs hf hr hQ hy hS h
/-- A guarded operation that is not wanted. -/
theorem lx_skip (i : Nat) {o : Oper} (hi : l[i]? = some o) (hs : Region.noSelect l.toArray = true) (hf : Region.free .any l.toArray listed i = true) (hr : (Region.ready .any l.toArray listed).contains i = true)
    (hQ : ∀ c a w, Q (.panic c) (a.put o.dst undef) w → Q (.panic c) a w) (hw : Region.wanted o (yielded l.toArray a.tmps) = false) (hS : S w)
    (h : wpAnyH P .any l.toArray Q S fuel (listed.setIfInBounds i true) (a.put o.dst undef) w) : wpAnyH P .any l.toArray Q S (fuel + 1) listed a w :=
  wpAnyH_take (lx_at hi) hs hf hr hQ (.inr ⟨hw, rfl⟩) hS h
theorem lx_call (i : Nat) {o : Oper} {f : FuncId} {xs : List Operand} {ats : Array TypeId} (hi : l[i]? = some o) (hr : Region.ready .any l.toArray listed = [i]) (hw : Region.wanted o (yielded l.toArray a.tmps) = true)
    (ho : o.op = .call { callee := .value (.func f), args := xs.toArray, argTypes := ats }) (hf : GoFn P f) (vals : List Value) (hv : xs.map a.eval = vals)
    (hc : Calls P f vals.toArray w fun e w' => ∃ v, e = .returned v ∧ S w' ∧ wpAnyH P .any l.toArray Q S fuel (listed.setIfInBounds i true) (a.put o.dst v) w') : wpAnyH P .any l.toArray Q S (fuel + 1) listed a w := by
  refine wpAnyH_all hr (by simp) fun j hj => ?_
  obtain rfl : j = i := by simpa using hj
  unfold wpOp
  rw [lx_at hi]
  simp only [hw, if_true]
  exact .inl (wp_call_go ho hf vals.toArray (by rw [List.map_toArray, hv]) hc)
theorem lx_done (hr : Region.ready .any l.toArray listed = []) (h : Q .normal a w) : wpAnyH P .any l.toArray Q S fuel listed a w := wpAnyH_done hr h fuel
theorem ev_tmp (l : List Value) (d : List Deferred) (k : Nat) : Act.eval { tmps := l.toArray, defers := d } (.tmp k) = (l[k]?).getD undef := by simp [eval_tmp]
theorem ev_const (a : Act) (v : Value) : a.eval (.const v) = v := rfl
/-! What yields. -/
theorem yi_row {ty : TypeId} {x : Operand} (hw : Region.wanted o (yielded l.toArray a.tmps) = true) (ho : o.op = .load ty x) {g : Nat} {cs : List Value} (hx : a.eval x = .pointer (some ⟨g, 0, none⟩)) (hr : ∀ w, S w → w.rangeAt g 0 cs) (ht : RowTy P ty cs.length) :
    YieldsIf P l.toArray S o (.agg cs.toArray) a := by
  obtain ⟨⟨d, hu, hd⟩, hi⟩ := ht
  refine .inl ⟨hw, fun w hS => ?_⟩
  unfold execOp
  simp only [ho, hx, Instr.loadAt, Instr.sureAddr, Sem.run_bind, Sem.run_pure, Result.andThen_ok, run_loadVar_mid w g 0 ty cs d (hr w hS) hu hd hi]
theorem yi_cell {ty : TypeId} {x : Operand} (hw : Region.wanted o (yielded l.toArray a.tmps) = true) (ho : o.op = .load ty x) {g k : Nat} (hx : a.eval x = .pointer (some ⟨g, k, none⟩)) (hr : ∀ w, S w → w.cell? ⟨g, k, none⟩ = some v) (ha : ∀ w, (isAgg ty).run P w = .ok false w) :
    YieldsIf P l.toArray S o v a := by
  refine .inl ⟨hw, fun w hS => ?_⟩
  have h := hr w hS
  unfold execOp
  simp only [ho, hx, Instr.loadAt, Instr.sureAddr, loadVar, Sem.run_bind, Sem.run_pure, Result.andThen_ok, ha w, Bool.false_eq_true, if_false]
  simp [go_sem, h]
theorem yi_move {x : Operand} (hw : Region.wanted o (yielded l.toArray a.tmps) = true) (ho : o.op = .move x) (hx : a.eval x = v) : YieldsIf P l.toArray S o v a := .inl ⟨hw, fun w _ => by subst hx; unfold execOp; simp only [ho, Sem.run_pure]⟩
theorem yi_assign {x : Operand} (hw : Region.wanted o (yielded l.toArray a.tmps) = true) (ho : o.op = .assign x) (hx : a.eval x = v) : YieldsIf P l.toArray S o v a := .inl ⟨hw, fun w _ => by subst hx; unfold execOp; simp only [ho, Sem.run_pure]⟩
theorem yi_pick {c x y : Operand} {b : Bool} (hw : Region.wanted o (yielded l.toArray a.tmps) = true) (ho : o.op = .pick c x y) (hc : a.eval c = .bool b) (hv : (if b then a.eval x else a.eval y) = v) : YieldsIf P l.toArray S o v a := .inl ⟨hw, fun w _ => by
  subst hv
  unfold execOp
  simp only [ho, hc, asBool, Sem.run_bind, Sem.run_pure, Result.andThen_ok]⟩
theorem yi_run (hw : Region.wanted o (yielded l.toArray a.tmps) = true) (h : ∀ w, (execOp a.eval o).run P w = .ok (.value v) w) : YieldsIf P l.toArray S o v a := .inl ⟨hw, fun w _ => h w⟩
end
end Go.Proofs.YtmigjipfomfacaaDoor

/-
  Boxes written cell by cell. Over any program.
-/
namespace Go.Proofs.YtmigjipfomfacaaDoor
open Go.RowKit

section
variable {T : TypeId} {w x y : World} {bs : List Bx1} {rs : RowL} {i g : Nat} {cs vs : List Value}
/-- A box is written. -/
theorem St.write (h : St T w bs rs x) (hb : bs[i]? = some (some (g, cs))) (hc : Chg (fun b => b = g) x y) (hr' : y.rangeAt g 0 vs) (hfz : ∀ q, y.frozen? q = x.frozen? q) : St T w (bs.set i (some (g, vs))) rs y := by
  obtain ⟨hw, hx, hr, hf⟩ := h.box i g cs hb
  refine ⟨h.up.trans (hc.below h.up.size fun k _ hk => by rw [hk]; exact hw), fun j g' ds hj => ?_, fun j q g' ds g'' ds' hj hq hne => ?_, h.rows.chg hc fun q r hq a ha => h.off i q g cs r a hb hq ha, fun j q g' ds r a hj hq ha => ?_⟩
  · rcases set_get hj with ⟨rfl, e⟩ | ⟨h1, hj⟩
    · injection e with e; injection e with e1 e2; subst e1; subst e2
      exact ⟨hw, Nat.lt_of_lt_of_le hx hc.size, hr', fun j => (hfz _).trans (hf j)⟩
    · obtain ⟨a1, a2, a3, a4⟩ := h.box j g' ds hj
      exact ⟨a1, Nat.lt_of_lt_of_le a2 hc.size, fun k v hk => hc.cell (a3 k v hk) (h.ne j i g' ds g cs hj hb h1), fun j => (hfz _).trans (a4 j)⟩
  · rcases set_get hj with ⟨rfl, e⟩ | ⟨h1, hj1⟩ <;> rcases set_get hq with ⟨rfl, e'⟩ | ⟨h2, hq1⟩
    · exact absurd rfl hne
    · injection e with e; injection e with e1 _; subst e1
      exact h.ne j q g cs g'' ds' hb hq1 hne
    · injection e' with e'; injection e' with e1 _; subst e1
      exact h.ne j q g' ds g cs hj1 hb hne
    · exact h.ne j q g' ds g'' ds' hj1 hq1 hne
  · rcases set_get hj with ⟨rfl, e⟩ | ⟨h1, hj⟩
    · injection e with e; injection e with e1 _; subst e1
      exact h.off _ q g cs r a hb hq ha
    · exact h.off j q g' ds r a hj hq ha
/-- One cell of a box is written. -/
theorem St.put1 (h : St T w bs rs x) (hb : bs[i]? = some (some (g, cs))) (j : Nat) (v : Value) : St T w (bs.set i (some (g, cs.set j v))) rs (x.setCells g j [v]) ∧ Chg (fun b => b = g) x (x.setCells g j [v]) := by
  have hc := setCells_chg g [v] j x
  obtain ⟨hw, hx, hr, hf⟩ := h.box i g cs hb
  refine ⟨h.write hb hc (fun k u hk => ?_) fun q => World.frozen?_setCells _ _ _ _ _, hc⟩
  show (x.setCell ⟨g, j, none⟩ v).cell? ⟨g, 0 + k, none⟩ = some u
  rw [Nat.zero_add]
  rw [List.getElem?_set] at hk
  by_cases e : j = k
  · subst e
    rw [if_pos rfl] at hk
    split at hk
    · rename_i hlt
      injection hk with hk; subst hk
      have := hr j _ (List.getElem?_eq_getElem hlt)
      rw [Nat.zero_add] at this
      exact World.cell?_setCell_same _ _ _ this
    · cases hk
  · rw [if_neg e] at hk
    rw [World.cell?_setCell_other _ _ _ _ (fun e' => by injection e' with _ e' _; exact e e')]
    have := hr k u hk
    rwa [Nat.zero_add] at this
end
section
variable {P : Program} {ops : Array Oper} {Q : Exit → Act → World → Prop}
theorem one_cells {v : Value} (h : v.oneCell' = true) : v.cells = #[v] := by cases v <;> first | rfl | simp_all [Value.oneCell']
theorem run_storeVar_one (w : World) (b o : Nat) (ty : TypeId) (v : Value) (hs : (w.cell? ⟨b, o, none⟩).isSome = true) (hf : w.frozen? ⟨b, o, none⟩ = false) (h1 : v.oneCell' = true) (hi : (P.info? ty).map (·.size) = some 1) :
    (storeVar ty ⟨b, o, none⟩ v).run P w = .ok () (w.setCells b o [v]) := by
  have := run_storeCells_cells (P := P) b o [v] 0 w (fun j hj => by
    obtain rfl : j = 0 := (by simpa using hj)
    simpa using hs) (fun j hj => by
    obtain rfl : j = 0 := (by simpa using hj)
    simpa using hf) (fun u hu => by
    obtain rfl : u = v := (by simpa using hu)
    exact h1)
  cases hq : P.info? ty with
  | none => simp [hq] at hi
  | some i =>
    have hs : i.size = 1 := by simpa [hq] using hi
    simp only [Nat.add_zero] at this
    simp [storeVar, sizeOf, typeInfo, hq, one_cells h1, hs, this]
theorem wpList_store_cell {rest : List Oper} {o : Oper} {a : Act} {W : World} (hgd : Region.wanted o (yielded ops a.tmps) = true) (ty : TypeId) (x y : Operand) (ho : o.op = .store ty x y) {T : TypeId} {w : World} {bs : List Bx1} {rs : RowL} (h : St T w bs rs W) (i : Nat) {g : Nat} {cs : List Value} (hb : bs[i]? = some (some (g, cs)))
    (j : Nat) (hx : a.eval x = .pointer (some ⟨g, j, none⟩)) (hj : j < cs.length) (v : Value) (hy : a.eval y = v) (ht : (P.info? ty).map (·.size) = some 1) (h1 : v.oneCell' = true)
    (hK : ∀ W', St T w (bs.set i (some (g, cs.set j v))) rs W' → Chg (fun b => b = g) W W' → wpList P ops Q rest (a.put o.dst undef) W') : wpList P ops Q (o :: rest) a W := by
  refine BigFrame.wpList_want hgd fun _ hk => ?_
  have hp := h.put1 hb j v
  unfold Oper.wp execOp
  have hs : (W.cell? ⟨g, j, none⟩).isSome = true := by
    rw [h.cell hb (List.getElem?_eq_getElem hj)]; rfl
  simp only [ho, hx, hy, Instr.storeAt, Instr.sureAddr, Sem.run_bind, Sem.run_pure, Result.andThen_ok, run_storeVar_one W g j ty v hs (h.fz hb j) h1 ht]
  exact hk _ _ (hK _ hp.1 hp.2)
end
end Go.Proofs.YtmigjipfomfacaaDoor

/-
  As Kit19, where some of the parts are no boxes ('b, x, y := laid(..), entry(..), entry(..)'). Over any program.
-/
namespace Go.Proofs.YtmigjipfomfacaaDoor
open Go.RowKit

section
variable {P : Program} {Q : Exit → Act → World → Prop} {T : TypeId} {w : World} {bs : List Bx1} {rs : RowL}
/-- What holds of one part. bx: is it a box? -/
structure PartG (p : Parts) (bx : Bool) (n : Nat) (av : Value) (Pst : Value → RowL → Prop) (j : Nat) (D : Nat → Bool) (v : Nat → Value) (b : Bx1) (R : RowL) : Prop where
  load : D (p.L j) = true → v (p.s j) = av
  no : D (p.C j) = false → R = []
  call : D (p.C j) = true → Pst (v (p.u j)) R
  nob : bx = true → D (p.A j) = false → b = none
  nob0 : bx = false → b = none
  box : bx = true → D (p.A j) = true → ∃ g cs, v (p.t j) = .pointer (some ⟨g, 0, none⟩) ∧ b = some (g, cs) ∧ cs.length = n ∧ (D (p.X j) = true → v (p.u j) = .agg cs.toArray)
  asg : bx = false → D (p.X j) = true → v (p.t j) = v (p.u j)
theorem PartG.other {p : Parts} {bx : Bool} {n : Nat} {av : Value} {Pst : Value → RowL → Prop} {j : Nat} {D D' : Nat → Bool} {v v' : Nat → Value} {b : Bx1} {R : RowL} (h : PartG p bx n av Pst j D v b R)
    (hD : D' (p.L j) = D (p.L j) ∧ D' (p.C j) = D (p.C j) ∧ D' (p.A j) = D (p.A j) ∧ D' (p.X j) = D (p.X j)) (hv : v' (p.s j) = v (p.s j) ∧ v' (p.u j) = v (p.u j) ∧ v' (p.t j) = v (p.t j)) : PartG p bx n av Pst j D' v' b R := by
  obtain ⟨d1, d2, d3, d4⟩ := hD
  obtain ⟨v1, v2, v3⟩ := hv
  refine ⟨fun e => ?_, fun e => ?_, fun e => ?_, fun hb e => ?_, h.nob0, fun hb e => ?_, fun hb e => ?_⟩
  · rw [v1]; exact h.load (d1 ▸ e)
  · exact h.no (d2 ▸ e)
  · rw [v2]; exact h.call (d2 ▸ e)
  · exact h.nob hb (d3 ▸ e)
  · rw [v2, v3, d4]; exact h.box hb (d3 ▸ e)
  · rw [v2, v3]; exact h.asg hb (d4 ▸ e)
def PartRG (p : Parts) (bx : Nat → Bool) (T : TypeId) (w : World) (bs : List Bx1) (rs : RowL) (n : Nat) (av : Nat → Value) (Pst : Nat → Value → RowL → Prop) (D : Nat → Bool) (v : Nat → Value) (x : World) : Prop :=
  ∃ (b : Nat → Bx1) (R : Nat → RowL), St T w (bs ++ Boxes1 b p.k) (rs ++ Rows1 R p.k) x ∧ ∀ j, j < p.k → PartG p (bx j) n (av j) (Pst j) j D v (b j) (R j)
variable {p : Parts} {bx : Nat → Bool} {n m : Nat} {av : Nat → Value} {Pst : Nat → Value → RowL → Prop} {l : List Oper} {f0 : Act} {o : Oper} {j : Nat}
/-- The others stay. -/
theorem othersG {D : Nat → Bool} {a : Act} {b : Nat → Bx1} {R : Nat → RowL} (hok : p.ok m = true) (hj : j < p.k) (h : ∀ i, i < p.k → PartG p (bx i) n (av i) (Pst i) i D (fun q => a.eval (.tmp q)) (b i) (R i)) {c d : Nat} {x : Value}
    (hc : c ∈ [p.L j, p.C j, p.A j, p.X j]) (hd : d = p.s j ∨ d = p.u j ∨ d = p.t j) {i : Nat} (hi : i < p.k) (hne : i ≠ j) : PartG p (bx i) n (av i) (Pst i) i (fun q => q == c || D q) (fun q => (a.put (some d) x).eval (.tmp q)) (b i) (R i) := by
  have h1 := oper_ne hok hi hj hne
  obtain ⟨n1, n2, n3, n4, n5, n6, n7, n8, n9⟩ := slot_ne hok hi hj hne
  refine (h i hi).other ⟨done_other (h1 _ (by simp) c hc), done_other (h1 _ (by simp) c hc), done_other (h1 _ (by simp) c hc), done_other (h1 _ (by simp) c hc)⟩ ?_
  rcases hd with rfl | rfl | rfl
  · exact ⟨put_other n1.symm x, put_other n4.symm x, put_other n7.symm x⟩
  · exact ⟨put_other n2.symm x, put_other n5.symm x, put_other n8.symm x⟩
  · exact ⟨put_other n3.symm x, put_other n6.symm x, put_other n9.symm x⟩
theorem partG_load {ty : TypeId} {q i g : Nat} {cs : List Value} (hok : p.ok f0.tmps.size = true) (hj : j < p.k) (ho : o.op = .load ty (.tmp q)) (hd : o.dst = some (p.s j)) (hq : q ∉ p.slots) (he : f0.eval (.tmp q) = .pointer (some ⟨g, 0, none⟩)) (hb : bs[i]? = some (some (g, cs))) (ht : RowTy P ty cs.length) (ha : av j = .agg cs.toArray) :
    RegStep P Q l p.slots f0 (PartRG p bx T w bs rs n av Pst) (p.L j) o := by
  intro D a x hcl hs ⟨b, R, hst, hp⟩ hD hpre
  obtain ⟨⟨o1, o2, o3⟩, ⟨e1, e2, e3, e4, e5, e6⟩, ⟨m1, m2, m3⟩⟩ := own_ne hok hj
  refine wp_load_row7 ho ((hs.eval hq).trans he) (hst.range (i := i) (by rw [List.getElem?_append_left (List.getElem?_eq_some_iff.1 hb).1]; exact hb)) ht ?_
  rw [hd]
  refine ⟨hs.put (slot_in hj).1 _, b, R, hst, fun i hi => ?_⟩
  by_cases e : i = j
  · subst e
    have h := hp i hi
    refine ⟨fun _ => (put_same (by rw [hs.size]; exact m1) _).trans ha.symm, fun e => h.no (by rwa [done_other e1.symm] at e), fun e => ?_, fun hb e => h.nob hb (by rwa [done_other e2.symm] at e), h.nob0, fun hb e => ?_, fun hb e => ?_⟩
    · rw [put_other o1]; exact h.call (by rwa [done_other e1.symm] at e)
    · rw [put_other o1, put_other o2, done_other e3.symm]; exact h.box hb (by rwa [done_other e2.symm] at e)
    · rw [put_other o1, put_other o2]; exact h.asg hb (by rwa [done_other e3.symm] at e)
  · exact othersG hok hj hp (by simp) (.inl rfl) hi e
theorem partG_move {q : Nat} (hok : p.ok f0.tmps.size = true) (hj : j < p.k) (ho : o.op = .move (.tmp q)) (hd : o.dst = some (p.s j)) (hq : q ∉ p.slots) (he : f0.eval (.tmp q) = av j) :
    RegStep P Q l p.slots f0 (PartRG p bx T w bs rs n av Pst) (p.L j) o := by
  intro D a x hcl hs ⟨b, R, hst, hp⟩ hD hpre
  obtain ⟨⟨o1, o2, o3⟩, ⟨e1, e2, e3, e4, e5, e6⟩, ⟨m1, m2, m3⟩⟩ := own_ne hok hj
  have hrun : (execOp a.eval o).run P x = .ok (.value (av j)) x := by
    unfold execOp
    simp only [ho, Sem.run_pure]
    rw [hs.eval hq, he]
  unfold Oper.wp
  rw [hrun, Oper.upon_value, hd]
  refine ⟨hs.put (slot_in hj).1 _, b, R, hst, fun i hi => ?_⟩
  by_cases e : i = j
  · subst e
    have h := hp i hi
    refine ⟨fun _ => put_same (by rw [hs.size]; exact m1) _, fun e => h.no (by rwa [done_other e1.symm] at e), fun e => ?_, fun hb e => h.nob hb (by rwa [done_other e2.symm] at e), h.nob0, fun hb e => ?_, fun hb e => ?_⟩
    · rw [put_other o1]; exact h.call (by rwa [done_other e1.symm] at e)
    · rw [put_other o1, put_other o2, done_other e3.symm]; exact h.box hb (by rwa [done_other e2.symm] at e)
    · rw [put_other o1, put_other o2]; exact h.asg hb (by rwa [done_other e3.symm] at e)
  · exact othersG hok hj hp (by simp) (.inl rfl) hi e
theorem partG_call {f : FuncId} {xs : List Operand} {vals : List Value} {ats : Array TypeId} (hok : p.ok f0.tmps.size = true) (hj : j < p.k) (ho : o.op = .call { callee := .value (.func f), args := (Operand.tmp (p.s j) :: xs).toArray, argTypes := ats }) (hxs : ∀ a : Act, xs.map a.eval = vals) (hd : o.dst = some (p.u j)) (hf : GoFn P f)
    (hL : edgeB o (p.L j) = true) (hch : chainB l p.C p.k = true) (hX : ∃ ox, l[p.X j]? = some ox ∧ edgeB ox (p.C j) = true)
    (hc : ∀ x, Below w.heap.size w x → Calls P f (av j :: vals).toArray x fun e y => ∃ v R, e = .returned v ∧ Pst j v R ∧ RowsB T x.heap.size y R ∧ Below x.heap.size x y) :
    RegStep P Q l p.slots f0 (PartRG p bx T w bs rs n av Pst) (p.C j) o := by
  intro D a x hcl hs ⟨b, R, hst, hp⟩ hD hpre
  obtain ⟨⟨o1, o2, o3⟩, ⟨e1, e2, e3, e4, e5, e6⟩, ⟨m1, m2, m3⟩⟩ := own_ne hok hj
  have hl := (hp j hj).load (edge_on hL hpre)
  refine wp_call_go ho hf (av j :: vals).toArray (by rw [List.map_toArray, List.map_cons, hxs a, show a.eval (.tmp (p.s j)) = _ from hl]) ((hc x hst.up).mono fun e y ⟨v, R', he, hP, hR, hB⟩ => ⟨v, he, ?_⟩)
  rw [hd]
  have hno := chain_down hch hcl hD
  have hXf : D (p.X j) = false := by
    obtain ⟨ox, hox, hoe⟩ := hX
    cases h : D (p.X j) with
    | false => rfl
    | true => have := edge_on hoe (hcl _ _ hox h); rw [hD] at this; cases this
  refine ⟨hs.put (slot_in hj).2.1 _, b, upd R j R', ?_, fun i hi => ?_⟩
  · rw [rows_upd hj fun i h1 h2 => (hp i h2).no (hno i h1 h2), ← List.append_assoc]
    exact hst.app hB hR
  · by_cases e : i = j
    · subst e
      have h := hp i hi
      rw [upd_same]
      refine ⟨fun e => ?_, fun e => ?_, fun _ => ?_, fun hb e => h.nob hb (by rwa [done_other e4.symm] at e), h.nob0, fun hb e => ?_, fun hb e => ?_⟩
      · rw [put_other o1.symm]; exact h.load (by rwa [done_other e1] at e)
      · rw [done_same] at e; cases e
      · rw [put_same (by rw [hs.size]; exact m2)]; exact hP
      · obtain ⟨g, cs, h1, h2, h3, h4⟩ := h.box hb (by rwa [done_other e4.symm] at e)
        refine ⟨g, cs, by rw [put_other o3]; exact h1, h2, h3, fun e => ?_⟩
        rw [done_other e5.symm, hXf] at e; cases e
      · rw [done_other e5.symm, hXf] at e; cases e
    · rw [upd_other e]
      exact othersG hok hj hp (by simp) (.inr (.inl rfl)) hi e
theorem partG_alloc {ty : TypeId} {cs : List Value} (hok : p.ok f0.tmps.size = true) (hj : j < p.k) (hbx : bx j = true) (ho : o.op = .alloc ty) (hd : o.dst = some (p.t j)) (hz : (P.info? ty).bind (·.zero) = some (.agg cs.toArray)) (hn : cs.length = n)
    (hX : ∃ ox, l[p.X j]? = some ox ∧ edgeB ox (p.A j) = true) : RegStep P Q l p.slots f0 (PartRG p bx T w bs rs n av Pst) (p.A j) o := by
  intro D a x hcl hs ⟨b, R, hst, hp⟩ hD hpre
  obtain ⟨⟨o1, o2, o3⟩, ⟨e1, e2, e3, e4, e5, e6⟩, ⟨m1, m2, m3⟩⟩ := own_ne hok hj
  refine wp_alloc_row ho hz ?_
  rw [hd]
  have hXf : D (p.X j) = false := by
    obtain ⟨ox, hox, hoe⟩ := hX
    cases h : D (p.X j) with
    | false => rfl
    | true => have := edge_on hoe (hcl _ _ hox h); rw [hD] at this; cases this
  refine ⟨hs.put (slot_in hj).2.2 _, upd b j (some (x.heap.size, cs)), R, ?_, fun i hi => ?_⟩
  · have h := hst.fill (t := ty) (bs.length + j) cs (by rw [boxes_at hj, (hp j hj).nob hbx hD])
    rw [boxes_upd]
    rw [List.set_append_right _ _ (by omega), show bs.length + j - bs.length = j from by omega] at h
    exact h
  · by_cases e : i = j
    · subst e
      have h := hp i hi
      rw [upd_same]
      refine ⟨fun e => ?_, fun e => h.no (by rwa [done_other e4] at e), fun e => ?_, fun hb e => ?_, fun hb => absurd (hbx.symm.trans hb) (by simp), fun _ _ => ⟨_, cs, put_same (by rw [hs.size]; exact m3) _, rfl, hn, fun e => ?_⟩, fun hb => absurd (hbx.symm.trans hb) (by simp)⟩
      · rw [put_other o2.symm]; exact h.load (by rwa [done_other e2] at e)
      · rw [put_other o3.symm]; exact h.call (by rwa [done_other e4] at e)
      · rw [done_same] at e; cases e
      · rw [done_other e6.symm, hXf] at e; cases e
    · rw [upd_other e]
      exact othersG hok hj hp (by simp) (.inr (.inr rfl)) hi e
theorem partG_store {ty : TypeId} (hok : p.ok f0.tmps.size = true) (hj : j < p.k) (hbx : bx j = true) (ho : o.op = .store ty (.tmp (p.t j)) (.tmp (p.u j))) (hd : o.dst = none) (hA : edgeB o (p.A j) = true) (hC : edgeB o (p.C j) = true)
    (hP : ∀ v R, Pst j v R → ∃ cs : List Value, v = .agg cs.toArray ∧ cs.length = n ∧ ∀ u ∈ cs, u.oneCell' = true) (ht : (P.info? ty).map (·.size) = some n) : RegStep P Q l p.slots f0 (PartRG p bx T w bs rs n av Pst) (p.X j) o := by
  intro D a x hcl hs ⟨b, R, hst, hp⟩ hD hpre
  obtain ⟨⟨o1, o2, o3⟩, ⟨e1, e2, e3, e4, e5, e6⟩, ⟨m1, m2, m3⟩⟩ := own_ne hok hj
  obtain ⟨g, cs, h1, h2, h3, _⟩ := (hp j hj).box hbx (edge_on hA hpre)
  have hc := (hp j hj).call (edge_on hC hpre)
  obtain ⟨vs, k1, k2, k3⟩ := hP _ _ hc
  have hb : (bs ++ Boxes1 b p.k)[bs.length + j]? = some (some (g, cs)) := by rw [boxes_at hj, h2]
  refine wp_store_row ho h1 k1 (hst.range hb) (hst.fz hb) (by rw [k2, h3]) (by rw [k2]; exact ht) k3 ?_
  rw [hd]
  refine ⟨hs, upd b j (some (g, vs)), R, ?_, fun i hi => ?_⟩
  · have h := (hst.put (vs := vs) hb (by rw [k2, h3])).1
    rw [boxes_upd]
    rw [List.set_append_right _ _ (by omega), show bs.length + j - bs.length = j from by omega] at h
    exact h
  · by_cases e : i = j
    · subst e
      have h := hp i hi
      rw [upd_same]
      refine ⟨fun e => h.load (by rwa [done_other e3] at e), fun e => h.no (by rwa [done_other e5] at e), fun e => h.call (by rwa [done_other e5] at e), fun hb e => ?_, fun hb => absurd (hbx.symm.trans hb) (by simp), fun _ e => ⟨g, vs, h1, rfl, k2, fun _ => k1⟩, fun hb => absurd (hbx.symm.trans hb) (by simp)⟩
      rw [done_other e6, edge_on hA hpre] at e; cases e
    · rw [upd_other e]
      have q := oper_ne hok hi hj e
      exact (hp i hi).other ⟨done_other (q _ (by simp) _ (by simp)), done_other (q _ (by simp) _ (by simp)), done_other (q _ (by simp) _ (by simp)), done_other (q _ (by simp) _ (by simp))⟩ ⟨rfl, rfl, rfl⟩
/-- No box: the answer is moved into its variable. -/
theorem partG_asg (hok : p.ok f0.tmps.size = true) (hj : j < p.k) (hbx : bx j = false) (ho : o.op = .assign (.tmp (p.u j))) (hd : o.dst = some (p.t j)) : RegStep P Q l p.slots f0 (PartRG p bx T w bs rs n av Pst) (p.X j) o := by
  intro D a x hcl hs ⟨b, R, hst, hp⟩ hD hpre
  obtain ⟨⟨o1, o2, o3⟩, ⟨e1, e2, e3, e4, e5, e6⟩, ⟨m1, m2, m3⟩⟩ := own_ne hok hj
  have hrun : (execOp a.eval o).run P x = .ok (.value (a.eval (.tmp (p.u j)))) x := by
    unfold execOp
    simp only [ho, Sem.run_pure]
  unfold Oper.wp
  rw [hrun, Oper.upon_value, hd]
  refine ⟨hs.put (slot_in hj).2.2 _, b, R, hst, fun i hi => ?_⟩
  by_cases e : i = j
  · subst e
    have h := hp i hi
    refine ⟨fun e => ?_, fun e => h.no (by rwa [done_other e5] at e), fun e => ?_, fun hb => absurd (hbx.symm.trans hb) (by simp), h.nob0, fun hb => absurd (hbx.symm.trans hb) (by simp), fun _ _ => ?_⟩
    · rw [put_other o2.symm]; exact h.load (by rwa [done_other e3] at e)
    · rw [put_other o3.symm]; exact h.call (by rwa [done_other e5] at e)
    · rw [put_same (by rw [hs.size]; exact m3), put_other o3.symm]
  · exact othersG hok hj hp (by simp) (.inr (.inr rfl)) hi e
theorem partRG_start {v : Nat → Value} {x : World} (h : St T w bs rs x) : PartRG p bx T w bs rs n av Pst (fun _ => false) v x := by
  refine ⟨fun _ => none, fun _ => [], ?_, fun j _ => ⟨(fun e => nomatch e), fun _ => rfl, (fun e => nomatch e), fun _ _ => rfl, fun _ => rfl, (fun _ e => nomatch e), (fun _ e => nomatch e)⟩⟩
  have e1 : Rows1 (fun _ => []) p.k = [] := by unfold Rows1; simp
  have e2 : ∀ k, St T w (bs ++ Boxes1 (fun _ => none) k) rs x := by
    intro k
    induction k with
    | zero => simpa [Boxes1] using h
    | succ k ih =>
      have := ih.more
      simpa [Boxes1, List.range_succ] using this
  rw [e1, List.append_nil]
  exact e2 p.k
/-- Places that were kept free and stayed so are struck. -/
theorem St.cut {bs' : List Bx1} {x : World} (h : St T w (bs ++ bs') rs x) : St T w bs rs x :=
  ⟨h.up, fun i g cs hb => h.box i g cs (by rw [List.getElem?_append_left (List.getElem?_eq_some_iff.1 hb).1]; exact hb), fun i j g cs g' ds h1 h2 => h.ne i j g cs g' ds (by rw [List.getElem?_append_left (List.getElem?_eq_some_iff.1 h1).1]; exact h1) (by rw [List.getElem?_append_left (List.getElem?_eq_some_iff.1 h2).1]; exact h2), h.rows, fun i j g cs r a hb => h.off i j g cs r a (by rw [List.getElem?_append_left (List.getElem?_eq_some_iff.1 hb).1]; exact hb)⟩
theorem wpList_load_cell {ops : Array Oper} {rest : List Oper} {o : Oper} {a : Act} {W : World} (hgd : Region.wanted o (yielded ops a.tmps) = true) (ty : TypeId) (x : Operand) (ho : o.op = .load ty x) {g k : Nat} {v : Value} (hx : a.eval x = .pointer (some ⟨g, k, none⟩)) (hr : W.cell? ⟨g, k, none⟩ = some v) (ha : ∀ w, (isAgg ty).run P w = .ok false w)
    (hK : wpList P ops Q rest (a.put o.dst v) W) : wpList P ops Q (o :: rest) a W := by
  refine BigFrame.wpList_want hgd fun _ hk => ?_
  have hrun : (execOp a.eval o).run P W = .ok (.value v) W := by
    unfold execOp
    simp only [ho, hx, Instr.loadAt, Instr.sureAddr, loadVar, Sem.run_bind, Sem.run_pure, Result.andThen_ok, ha W, Bool.false_eq_true, if_false]
    simp [go_sem, hr]
  unfold Oper.wp
  rw [hrun, Oper.upon_value]
  exact hk _ _ hK
end
end Go.Proofs.YtmigjipfomfacaaDoor

/-
  Straight lines: a row in the midst of a block, a store; rows struck. Over any program.
-/
namespace Go.Proofs.YtmigjipfomfacaaDoor
open Go.RowKit

section
variable {P : Program} {Q : Exit → Act → World → Prop} {S : World → Prop} {l : List Oper} {fuel : Nat} {listed : Array Bool} {a : Act} {w : World} {i : Nat} {o : Oper} {v : Value}
theorem yi_rowO {ty : TypeId} {x : Operand} (hw : Region.wanted o (yielded l.toArray a.tmps) = true) (ho : o.op = .load ty x) {g k : Nat} {cs : List Value} (hx : a.eval x = .pointer (some ⟨g, k, none⟩)) (hr : ∀ w, S w → w.rangeAt g k cs) (ht : RowTy P ty cs.length) :
    YieldsIf P l.toArray S o (.agg cs.toArray) a := by
  obtain ⟨⟨d, hu, hd⟩, hi⟩ := ht
  refine .inl ⟨hw, fun w hS => ?_⟩
  unfold execOp
  simp only [ho, hx, Instr.loadAt, Instr.sureAddr, Sem.run_bind, Sem.run_pure, Result.andThen_ok, run_loadVar_mid w g k ty cs d (hr w hS) hu hd hi]
/-- A whole box is written, the only operation that may come up. -/
theorem lx_store (i : Nat) {o : Oper} {ty : TypeId} {x y : Operand} (hi : l[i]? = some o) (hr : Region.ready .any l.toArray listed = [i]) (hw : Region.wanted o (yielded l.toArray a.tmps) = true)
    (ho : o.op = .store ty x y) {T : TypeId} {z : World} {bs : List Bx1} {rs : RowL} (h : St T z bs rs w) (j : Nat) {g : Nat} {cs : List Value} (hb : bs[j]? = some (some (g, cs))) (hx : a.eval x = .pointer (some ⟨g, 0, none⟩)) (vs : List Value) (hy : a.eval y = .agg vs.toArray)
    (hl : vs.length = cs.length) (ht : (P.info? ty).map (·.size) = some vs.length) (h1 : ∀ u ∈ vs, u.oneCell' = true)
    (hK : ∀ w', St T z (bs.set j (some (g, vs))) rs w' → Chg (fun b => b = g) w w' → S w' ∧ wpAnyH P .any l.toArray Q S fuel (listed.setIfInBounds i true) (a.put o.dst undef) w') : wpAnyH P .any l.toArray Q S (fuel + 1) listed a w := by
  refine wpAnyH_all hr (by simp) fun q hq => ?_
  obtain rfl : q = i := by simpa using hq
  unfold wpOp
  rw [lx_at hi]
  simp only [hw, if_true]
  have hp := h.put (vs := vs) hb hl
  exact .inl (wp_store_row ho hx hy (h.range hb) (h.fz hb) hl ht h1 (hK _ hp.1 hp.2))
end
section
variable {T : TypeId} {w x : World} {bs bs' : List Bx1} {rs rs' : RowL}
theorem St.cutRows (h : St T w bs (rs ++ rs') x) : St T w bs rs x :=
  ⟨h.up, h.box, h.ne, rows_pre h.rows, fun i j g cs r a hb hr => h.off i j g cs r a hb (by rw [List.getElem?_append_left (List.getElem?_eq_some_iff.1 hr).1]; exact hr)⟩
end
section
variable {P : Program} {Q : Exit → Act → World → Prop} {T : TypeId} {w : World} {bs : List Bx1} {rs : RowL} {p : Parts} {bx : Nat → Bool} {n : Nat} {av : Nat → Value} {Pst : Nat → Value → RowL → Prop} {l : List Oper} {f0 : Act} {o : Oper} {j : Nat}
theorem partG_callS {f : FuncId} {xs : List Operand} {vals : List Value} {ats : Array TypeId} (hok : p.ok f0.tmps.size = true) (hj : j < p.k) (ho : o.op = .call { callee := .value (.func f), args := (Operand.tmp (p.s j) :: xs).toArray, argTypes := ats }) (hxs : ∀ a : Act, xs.map a.eval = vals) (hd : o.dst = some (p.u j)) (hf : GoFn P f)
    (hL : edgeB o (p.L j) = true) (hch : chainB l p.C p.k = true) (hX : ∃ ox, l[p.X j]? = some ox ∧ edgeB ox (p.C j) = true)
    (hc : ∀ x bs' rs', St T w (bs ++ bs') (rs ++ rs') x → Calls P f (av j :: vals).toArray x fun e y => ∃ v R, e = .returned v ∧ Pst j v R ∧ RowsB T x.heap.size y R ∧ Below x.heap.size x y) :
    RegStep P Q l p.slots f0 (PartRG p bx T w bs rs n av Pst) (p.C j) o := by
  intro D a x hcl hs ⟨b, R, hst, hp⟩ hD hpre
  obtain ⟨⟨o1, o2, o3⟩, ⟨e1, e2, e3, e4, e5, e6⟩, ⟨m1, m2, m3⟩⟩ := own_ne hok hj
  have hl := (hp j hj).load (edge_on hL hpre)
  refine wp_call_go ho hf (av j :: vals).toArray (by rw [List.map_toArray, List.map_cons, hxs a, show a.eval (.tmp (p.s j)) = _ from hl]) ((hc x _ _ hst).mono fun e y ⟨v, R', he, hP, hR, hB⟩ => ⟨v, he, ?_⟩)
  rw [hd]
  have hno := chain_down hch hcl hD
  have hXf : D (p.X j) = false := by
    obtain ⟨ox, hox, hoe⟩ := hX
    cases h : D (p.X j) with
    | false => rfl
    | true => have := edge_on hoe (hcl _ _ hox h); rw [hD] at this; cases this
  refine ⟨hs.put (slot_in hj).2.1 _, b, upd R j R', ?_, fun i hi => ?_⟩
  · rw [rows_upd hj fun i h1 h2 => (hp i h2).no (hno i h1 h2), ← List.append_assoc]
    exact hst.app hB hR
  · by_cases e : i = j
    · subst e
      have h := hp i hi
      rw [upd_same]
      refine ⟨fun e => ?_, fun e => ?_, fun _ => ?_, fun hb e => h.nob hb (by rwa [done_other e4.symm] at e), h.nob0, fun hb e => ?_, fun hb e => ?_⟩
      · rw [put_other o1.symm]; exact h.load (by rwa [done_other e1] at e)
      · rw [done_same] at e; cases e
      · rw [put_same (by rw [hs.size]; exact m2)]; exact hP
      · obtain ⟨g, cs, h1, h2, h3, h4⟩ := h.box hb (by rwa [done_other e4.symm] at e)
        refine ⟨g, cs, by rw [put_other o3]; exact h1, h2, h3, fun e => ?_⟩
        rw [done_other e5.symm, hXf] at e; cases e
      · rw [done_other e5.symm, hXf] at e; cases e
    · rw [upd_other e]
      exact othersG hok hj hp (by simp) (.inr (.inl rfl)) hi e
end
section
variable {p : Parts} {n : Nat} {av : Value} {Pst : Value → RowL → Prop} {j : Nat} {D : Nat → Bool} {v : Nat → Value} {b : Bx1} {R : RowL}
theorem PartG.end0 (h : PartG p false n av Pst j D v b R) (hC : D (p.C j) = true) (hX : D (p.X j) = true) : b = none ∧ Pst (v (p.t j)) R := ⟨h.nob0 rfl, by rw [h.asg rfl hX]; exact h.call hC⟩
theorem PartG.end1 (h : PartG p true n av Pst j D v b R) (hC : D (p.C j) = true) (hA : D (p.A j) = true) (hX : D (p.X j) = true) : ∃ g cs, v (p.t j) = .pointer (some ⟨g, 0, none⟩) ∧ b = some (g, cs) ∧ Pst (.agg cs.toArray) R := by
  obtain ⟨g, cs, h1, h2, _, h4⟩ := h.box rfl hA
  exact ⟨g, cs, h1, h2, by rw [← h4 hX]; exact h.call hC⟩
end
end Go.Proofs.YtmigjipfomfacaaDoor

/-
  What the call owns: boxes and rows of whatever cells, all apart, under one head. Over any program.
-/
namespace Go.Proofs.YtmigjipfomfacaaDoor
open Go.RowKit

/-- A thing of the call's own: a box (its address, its cells), or a row (its element type, the cells that an element has, its slice, its length, its cells). -/
structure Ob where
  bx : Bool
  ty : TypeId
  sz : Nat
  v : Value
  n : Nat
  cs : List Value
  raw : Option (Obj → Prop)
def boxO (g : Nat) (cs : List Value) : Ob := ⟨true, 0, 0, .pointer (some ⟨g, 0, none⟩), 0, cs, none⟩
def rowO (T : TypeId) (sz : Nat) (v : Value) (n : Nat) (cs : List Value) : Ob := ⟨false, T, sz, v, n, cs, none⟩
def bytO (T : TypeId) (r : Option Addr × Nat × List UInt8) : Ob := ⟨false, T, 1, .slice r.1 r.2.2.length r.2.1, r.2.2.length, u8s r.2.2, none⟩
/-- A place that is free. -/
def nilO : Ob := ⟨false, 0, 1, .slice none 0 0, 0, [], none⟩
/-- A block of which this is known. -/
def phiO (k : Nat) (φ : Obj → Prop) : Ob := ⟨true, 0, 0, .pointer (some ⟨k, 0, none⟩), 0, [], some φ⟩
/-- A block that lies as it lay. -/
def rawO (k : Nat) (r : Obj) : Ob := phiO k fun o => o = r
def vBlock : Value → Option Nat
  | .pointer (some a) => some a.block
  | .slice (some a) _ _ => some a.block
  | _ => none
def Ob.blk (o : Ob) : Option Nat := vBlock o.v
def Ob.at0 (B : Nat) (x : World) (o : Ob) : Prop :=
  (o.bx = true → ∃ g, o.v = .pointer (some ⟨g, 0, none⟩) ∧ B ≤ g ∧ g < x.heap.size ∧ x.rangeAt g 0 o.cs ∧ ∀ j, x.frozen? ⟨g, j, none⟩ = false) ∧
  (o.bx = false → x.ownsRow B o.ty o.sz o.v o.n o.cs)
def Ob.at_ (B : Nat) (x : World) (o : Ob) : Prop := match o.raw with
  | some φ => ∃ k r, o.v = .pointer (some ⟨k, 0, none⟩) ∧ B ≤ k ∧ x.heap[k]? = some r ∧ φ r
  | none => o.at0 B x
def Ap (o p : Ob) : Prop := ∀ b, o.blk = some b → p.blk ≠ some b
structure OW (w : World) (os : List Ob) (x : World) : Prop where
  up : Below w.heap.size w x
  ob : ∀ o, o ∈ os → o.at_ w.heap.size x
  ne : os.Pairwise Ap

section
variable {w x y : World} {os os' ps : List Ob} {o p : Ob} {B g i j n sz c : Nat} {T : TypeId} {v : Value} {cs vs news : List Value} {S : Nat → Prop} {A : Option Addr} {l : List UInt8}
theorem own_vblock {e : TypeId} (h : w.ownsRow B e sz v n cs) : vBlock v = v.ownBlock := by
  rcases h.2 with ⟨rfl, _⟩ | ⟨g, cap, cur, rfl, _⟩ <;> rfl
theorem own_rebase {B' : Nat} (h : w.ownsRow B T sz v n cs) (hb : B' ≤ B) : w.ownsRow B' T sz v n cs := by
  refine ⟨h.1, ?_⟩
  rcases h.2 with h | ⟨g, cap, cur, hv, hg, hr⟩
  · exact .inl h
  · exact .inr ⟨g, cap, cur, hv, Nat.le_trans hb hg, hr⟩
theorem Ap.symm (h : Ap o p) : Ap p o := fun b hb e => h b e hb
theorem Ob.at0.lt {b : Nat} (h : o.at0 B x) (hb : o.blk = some b) : B ≤ b ∧ b < x.heap.size := by
  cases hq : o.bx with
  | true =>
    obtain ⟨g, h1, h2, h3, _⟩ := h.1 hq
    unfold Ob.blk at hb; rw [h1] at hb; injection hb with hb; subst hb; exact ⟨h2, h3⟩
  | false =>
    have h1 := h.2 hq
    unfold Ob.blk at hb; rw [own_vblock h1] at hb; exact World.ownsRow.lt h1 b hb
theorem Ob.at0.chg (h : o.at0 B x) (hc : Chg S x y) (hn : ∀ b, o.blk = some b → ¬ S b) : o.at0 B y := by
  refine ⟨fun hq => ?_, fun hq => ?_⟩
  · obtain ⟨g, h1, h2, h3, h4, h5⟩ := h.1 hq
    have hg : ¬ S g := hn g (by unfold Ob.blk; rw [h1]; rfl)
    exact ⟨g, h1, h2, Nat.lt_of_lt_of_le h3 hc.size, fun j v hv => hc.cell (h4 j v hv) hg, fun j => (World.frozen?_of_block (hc.block g h3 hg)).trans (h5 j)⟩
  · exact own_chg (h.2 hq) hc fun g hg => hn g (by unfold Ob.blk; rw [own_vblock (h.2 hq)]; exact hg)
theorem Ob.at0.mono {B' : Nat} (h : o.at0 B x) (hb : B' ≤ B) : o.at0 B' x :=
  ⟨fun hq => by
    obtain ⟨g, h1, h2, h3⟩ := h.1 hq
    exact ⟨g, h1, Nat.le_trans hb h2, h3⟩, fun hq => own_rebase (h.2 hq) hb⟩
theorem Ob.at_.some_ {φ : Obj → Prop} (h : o.at_ B x) (hr : o.raw = some φ) : ∃ k r, o.v = .pointer (some ⟨k, 0, none⟩) ∧ B ≤ k ∧ x.heap[k]? = some r ∧ φ r := by
  unfold Ob.at_ at h; rw [hr] at h; exact h
theorem Ob.at_.none_ (h : o.at_ B x) (hr : o.raw = none) : o.at0 B x := by
  unfold Ob.at_ at h; rw [hr] at h; exact h
theorem Ob.at_mk0 (hr : o.raw = none) (h : o.at0 B x) : o.at_ B x := by
  unfold Ob.at_; rw [hr]; exact h
theorem Ob.at_mkr {φ : Obj → Prop} (hr : o.raw = some φ) (h : ∃ k r, o.v = .pointer (some ⟨k, 0, none⟩) ∧ B ≤ k ∧ x.heap[k]? = some r ∧ φ r) : o.at_ B x := by
  unfold Ob.at_; rw [hr]; exact h
theorem Ob.at_.lt {b : Nat} (h : o.at_ B x) (hb : o.blk = some b) : B ≤ b ∧ b < x.heap.size := by
  cases hr : o.raw with
  | none => exact (h.none_ hr).lt hb
  | some φ =>
    obtain ⟨k, r, h1, h2, h3, _⟩ := h.some_ hr
    unfold Ob.blk at hb; rw [h1] at hb; injection hb with hb; subst hb
    exact ⟨h2, (Array.getElem?_eq_some_iff.1 h3).1⟩
theorem Ob.at_.chg (h : o.at_ B x) (hc : Chg S x y) (hn : ∀ b, o.blk = some b → ¬ S b) : o.at_ B y := by
  cases hr : o.raw with
  | none => exact Ob.at_mk0 hr ((h.none_ hr).chg hc hn)
  | some φ =>
    obtain ⟨k, r, h1, h2, h3, h4⟩ := h.some_ hr
    exact Ob.at_mkr hr ⟨k, r, h1, h2, (hc.block k (Array.getElem?_eq_some_iff.1 h3).1 (hn k (by unfold Ob.blk; rw [h1]; rfl))).trans h3, h4⟩
theorem Ob.at_.mono {B' : Nat} (h : o.at_ B x) (hb : B' ≤ B) : o.at_ B' x := by
  cases hr : o.raw with
  | none => exact Ob.at_mk0 hr ((h.none_ hr).mono hb)
  | some φ =>
    obtain ⟨k, r, h1, h2, h3⟩ := h.some_ hr
    exact Ob.at_mkr hr ⟨k, r, h1, Nat.le_trans hb h2, h3⟩
theorem OW.nil (w : World) : OW w [] w := ⟨Below.refl _ _, fun o h => (by cases h), List.Pairwise.nil⟩
theorem OW.later (h : OW w os x) (k : Below x.heap.size x y) : OW w os y :=
  ⟨h.up.trans (k.mono h.up.size), fun o ho => (h.ob o ho).chg (S := fun _ => False) (Below.chg0 k) fun _ _ e => e, h.ne⟩
theorem OW.drew (h : OW w os x) : OW w os x.drew := h.later (Below.refl _ _).drew
theorem OW.al (h : OW w os x) (o : Obj) : OW w os (x.alloc o) := h.later ((Below.refl _ _).alloc (Nat.le_refl _) o)
theorem OW.perm (h : OW w os x) (hp : os.Perm os') : OW w os' x :=
  ⟨h.up, fun o ho => h.ob o (hp.mem_iff.2 ho), (hp.pairwise_iff (fun h => Ap.symm h)).1 h.ne⟩
theorem OW.sub (h : OW w os x) (hp : os'.Sublist os) : OW w os' x := ⟨h.up, fun o ho => h.ob o (hp.mem ho), h.ne.sublist hp⟩
theorem OW.erase (h : OW w os x) (i : Nat) : OW w (os.eraseIdx i) x := h.sub (List.eraseIdx_sublist _ _)
theorem OW.left (h : OW w (os ++ ps) x) : OW w os x := h.sub (List.sublist_append_left _ _)
theorem OW.right (h : OW w (os ++ ps) x) : OW w ps x := h.sub (List.sublist_append_right _ _)
theorem OW.app (h : OW w os x) (k : OW x ps y) : OW w (os ++ ps) y := by
  have h' := h.later k.up
  refine ⟨h'.up, fun o ho => ?_, ?_⟩
  · rcases List.mem_append.1 ho with ho | ho
    · exact h'.ob o ho
    · exact (k.ob o ho).mono h.up.size
  · refine List.pairwise_append.2 ⟨h.ne, k.ne, fun a ha b hb c hc e => ?_⟩
    have h1 := ((h.ob a ha).lt hc).2
    have h2 := ((k.ob b hb).lt e).1
    omega
theorem split_at {α : Type} {l : List α} {i : Nat} {a : α} (h : l[i]? = some a) : ∃ l1 l2, l = l1 ++ a :: l2 ∧ l1.length = i := by
  obtain ⟨hi, e⟩ := List.getElem?_eq_some_iff.1 h
  refine ⟨l.take i, l.drop (i + 1), ?_, by simp; omega⟩
  rw [← e, List.getElem_cons_drop, List.take_append_drop]
theorem OW.front (h : OW w os x) (hi : os[i]? = some o) : OW w (o :: os.eraseIdx i) x := by
  obtain ⟨l1, l2, rfl, rfl⟩ := split_at hi
  have e : (l1 ++ o :: l2).eraseIdx l1.length = l1 ++ l2 := by
    rw [List.eraseIdx_append_of_length_le (Nat.le_refl _), Nat.sub_self]; rfl
  rw [e]
  exact h.perm List.perm_middle
/-- One thing is turned into another: blocks of its own change alone, and new ones. -/
theorem OW.upd (h : OW w os x) (hi : os[i]? = some o) (hc : Chg S x y) (hS : ∀ b, b < x.heap.size → S b → o.blk = some b) (ho : p.at_ w.heap.size y) (hb : ∀ b, p.blk = some b → o.blk = some b ∨ x.heap.size ≤ b) : OW w (os.set i p) y := by
  obtain ⟨l1, l2, rfl, rfl⟩ := split_at hi
  have e : (l1 ++ o :: l2).set l1.length p = l1 ++ p :: l2 := by
    rw [List.set_append_right _ _ (Nat.le_refl _), Nat.sub_self]; rfl
  rw [e]
  obtain ⟨n1, n2, n3⟩ := List.pairwise_append.1 h.ne
  obtain ⟨n4, n5⟩ := List.pairwise_cons.1 n2
  have keep : ∀ q, q ∈ l1 ++ o :: l2 → Ap o q → q.at_ w.heap.size y := fun q hq ha =>
    (h.ob q hq).chg hc fun b hb hs => ha b (hS b ((h.ob q hq).lt hb).2 hs) hb
  have ap : ∀ q, q ∈ l1 ++ o :: l2 → Ap o q → Ap p q := fun q hq ha b hpb hqb => by
    rcases hb b hpb with h1 | h1
    · exact ha b h1 hqb
    · have := ((h.ob q hq).lt hqb).2; omega
  refine ⟨h.up.trans (hc.below h.up.size fun k hk hs => ((h.ob o (by simp)).lt (hS k hk hs)).1), fun q hq => ?_, List.pairwise_append.2 ⟨n1, List.pairwise_cons.2 ⟨fun q hq => ap q (by simp [hq]) (n4 q hq), n5⟩, fun q hq r hr => ?_⟩⟩
  · rcases List.mem_append.1 hq with h1 | h1
    · exact keep q (by simp [h1]) (Ap.symm (n3 q h1 o (by simp)))
    · rcases List.mem_cons.1 h1 with rfl | h1
      · exact ho
      · exact keep q (by simp [h1]) (n4 q h1)
  · rcases List.mem_cons.1 hr with rfl | h1
    · exact Ap.symm (ap q (by simp [hq]) (Ap.symm (n3 q hq o (by simp))))
    · exact n3 q hq r (by simp [h1])
theorem OW.get (h : OW w os x) (hi : os[i]? = some o) : o.at_ w.heap.size x := h.ob o (List.mem_of_getElem? hi)
theorem OW.apart (h : OW w os x) (hi : os[i]? = some o) (hj : os[j]? = some p) (hne : i ≠ j) : Ap o p := by
  obtain ⟨h1, e1⟩ := List.getElem?_eq_some_iff.1 hi
  obtain ⟨h2, e2⟩ := List.getElem?_eq_some_iff.1 hj
  subst e1; subst e2
  rcases Nat.lt_or_gt_of_ne hne with h3 | h3
  · exact List.pairwise_iff_getElem.1 h.ne i j h1 h2 h3
  · exact Ap.symm (List.pairwise_iff_getElem.1 h.ne j i h2 h1 h3)
/-! What is read. -/
theorem OW.box (h : OW w os x) (hi : os[i]? = some (boxO g cs)) : w.heap.size ≤ g ∧ g < x.heap.size ∧ x.rangeAt g 0 cs ∧ ∀ j, x.frozen? ⟨g, j, none⟩ = false := by
  obtain ⟨g', h1, h2⟩ := (h.get hi).1 rfl
  injection h1 with h1; injection h1 with h1; injection h1 with h1
  subst h1; exact h2
theorem OW.range (h : OW w os x) (hi : os[i]? = some (boxO g cs)) : x.rangeAt g 0 cs := (h.box hi).2.2.1
theorem OW.cell (h : OW w os x) (hi : os[i]? = some (boxO g cs)) (hv : cs[j]? = some v) : x.cell? ⟨g, j, none⟩ = some v := by
  have := h.range hi j v hv; rwa [Nat.zero_add] at this
theorem OW.fz (h : OW w os x) (hi : os[i]? = some (boxO g cs)) (j : Nat) : x.frozen? ⟨g, j, none⟩ = false := (h.box hi).2.2.2 j
theorem OW.row (h : OW w os x) (hi : os[i]? = some (rowO T sz v n cs)) : x.ownsRow w.heap.size T sz v n cs := (h.get hi).2 rfl
theorem OW.byt (h : OW w os x) (hi : os[i]? = some (bytO T (A, c, l))) : OwnB T w.heap.size x A c l := (h.get hi).2 rfl
theorem OW.sl (h : OW w os x) (hi : os[i]? = some (bytO T (A, c, l))) (hn : l.length = n) : Sl x A n c l := hn ▸ Sl.own (h.byt hi)
/-! By membership. -/
theorem OW.cellm (h : OW w os x) (hm : boxO g cs ∈ os) (hv : cs[j]? = some v) : x.cell? ⟨g, j, none⟩ = some v := by
  obtain ⟨i, hi⟩ := List.getElem?_of_mem hm
  exact h.cell hi hv
theorem OW.rangem (h : OW w os x) (hm : boxO g cs ∈ os) : x.rangeAt g 0 cs := by
  obtain ⟨i, hi⟩ := List.getElem?_of_mem hm
  exact h.range hi
theorem OW.rowm (h : OW w os x) (hm : rowO T sz v n cs ∈ os) : x.ownsRow w.heap.size T sz v n cs := (h.ob _ hm).2 rfl
theorem OW.slm (h : OW w os x) (hm : bytO T (A, c, l) ∈ os) (hn : l.length = n) : Sl x A n c l := hn ▸ Sl.own (h.rowm (T := T) (sz := 1) hm)
theorem perm_front {α : Type} {l : List α} {a : α} (hi : l[i]? = some a) : l.Perm (a :: l.eraseIdx i) := by
  obtain ⟨l1, l2, rfl, rfl⟩ := split_at hi
  have e : (l1 ++ a :: l2).eraseIdx l1.length = l1 ++ l2 := by
    rw [List.eraseIdx_append_of_length_le (Nat.le_refl _), Nat.sub_self]; rfl
  rw [e]
  exact List.perm_middle
/-! What comes in. -/
theorem OW.row1 (k : Below x.heap.size x y) (h : y.ownsRow x.heap.size T sz v n cs) : OW x [rowO T sz v n cs] y :=
  ⟨k, fun o ho => by
    obtain rfl := List.mem_singleton.1 ho
    exact ⟨(fun e => nomatch e), fun _ => h⟩, List.pairwise_singleton _ _⟩
theorem OW.byt1 (k : Below x.heap.size x y) (h : OwnB T x.heap.size y A c l) : OW x [bytO T (A, c, l)] y :=
  ⟨k, fun o ho => by
    obtain rfl := List.mem_singleton.1 ho
    exact ⟨(fun e => nomatch e), fun _ => h⟩, List.pairwise_singleton _ _⟩
theorem OW.box1 (x : World) (t : TypeId) (cs : List Value) : OW x [boxO x.heap.size cs] (x.alloc (.cells cs.toArray t)) :=
  ⟨(Below.refl _ _).alloc (Nat.le_refl _) _, fun o ho => by
    obtain rfl := List.mem_singleton.1 ho
    exact ⟨fun _ => ⟨x.heap.size, rfl, Nat.le_refl _, by show _ < (x.heap.push _).size; simp, range_new _ _ _, fun j => by simp⟩, fun e => nomatch e⟩, List.pairwise_singleton _ _⟩
theorem OW.lit1 (x : World) (C : Array Value) (e : TypeId) (sz n : Nat) (hm : n ≤ maxLen) (hs : C.size = n * sz) : OW x [rowO e sz (.slice (some ⟨x.heap.size, 0, none⟩) n n) n C.toList] (x.alloc (.cells C e)) :=
  OW.row1 ((Below.refl _ _).alloc (Nat.le_refl _) _) (World.ownsRow_lit x C n (Nat.le_refl _) hm hs)
theorem byt_blk (r : Option Addr × Nat × List UInt8) : (bytO T r).blk = r.1.map (·.block) := by
  obtain ⟨A, c, l⟩ := r
  cases A <;> rfl
theorem OW.rows1 {rs : RowL} (k : Below x.heap.size x y) (h : RowsB T x.heap.size y rs) : OW x (rs.map (bytO T)) y := by
  refine ⟨k, fun o ho => ?_, ?_⟩
  · obtain ⟨r, hr, rfl⟩ := List.mem_map.1 ho
    obtain ⟨i, hi⟩ := List.getElem?_of_mem hr
    exact ⟨(fun e => nomatch e), fun _ => h.1 i r hi⟩
  · rw [List.pairwise_map]
    refine List.pairwise_iff_getElem.2 fun i j hi hj hij b hb e => ?_
    rw [byt_blk] at hb e
    obtain ⟨a, ha, ha'⟩ := Option.map_eq_some_iff.1 hb
    obtain ⟨a2, ha2, ha2'⟩ := Option.map_eq_some_iff.1 e
    exact h.2 i j _ _ (List.getElem?_eq_getElem hi) (List.getElem?_eq_getElem hj) (Nat.ne_of_lt hij) a a2 ha ha2 (ha'.trans ha2'.symm)
theorem OW.toRows {rs : RowL} (h : OW w (rs.map (bytO T)) x) : RowsB T w.heap.size x rs := by
  refine ⟨fun i r hr => (h.ob _ (List.mem_map_of_mem (List.mem_of_getElem? hr))).2 rfl, fun i j r s hr hs hij a b ha hb e => ?_⟩
  exact h.apart (i := i) (j := j) (by rw [List.getElem?_map, hr]; rfl) (by rw [List.getElem?_map, hs]; rfl) hij a.block (by rw [byt_blk, ha]; rfl) (by rw [byt_blk, hb, e]; rfl)
/-- All that a St holds. -/
theorem St.ow {T : TypeId} {bs : List (Nat × List Value)} {rs : RowL} (h : St T w (bs.map some) rs x) : OW w (bs.map (fun b => boxO b.1 b.2) ++ rs.map (bytO T)) x := by
  have hr := OW.rows1 (x := w) h.up h.rows
  refine ⟨h.up, fun o ho => ?_, List.pairwise_append.2 ⟨?_, hr.ne, fun o ho p hp b hb e => ?_⟩⟩
  · rcases List.mem_append.1 ho with ho | ho
    · obtain ⟨⟨g, cs⟩, hb, rfl⟩ := List.mem_map.1 ho
      obtain ⟨i, hi⟩ := List.getElem?_of_mem hb
      obtain ⟨h1, h2, h3, h4⟩ := h.box i g cs (by rw [List.getElem?_map, hi]; rfl)
      exact ⟨fun _ => ⟨g, rfl, h1, h2, h3, h4⟩, fun e => nomatch e⟩
    · exact hr.ob o ho
  · rw [List.pairwise_map]
    refine List.pairwise_iff_getElem.2 fun i j hi hj hij b hb e => ?_
    injection hb with hb
    injection e with e
    refine h.ne i j bs[i].1 bs[i].2 bs[j].1 bs[j].2 (by rw [List.getElem?_map, List.getElem?_eq_getElem hi]; rfl) (by rw [List.getElem?_map, List.getElem?_eq_getElem hj]; rfl) (Nat.ne_of_lt hij) (hb.trans e.symm)
  · obtain ⟨⟨g, cs⟩, hb', rfl⟩ := List.mem_map.1 ho
    obtain ⟨r, hr', rfl⟩ := List.mem_map.1 hp
    obtain ⟨i, hi⟩ := List.getElem?_of_mem hb'
    obtain ⟨j, hj⟩ := List.getElem?_of_mem hr'
    rw [byt_blk] at e
    obtain ⟨a, ha, ha'⟩ := Option.map_eq_some_iff.1 e
    injection hb with hb
    exact h.off i j g cs r a (by rw [List.getElem?_map, hi]; rfl) hj ha (ha'.trans hb.symm)
/-! What is written. -/
theorem OW.putR (h : OW w os x) (hi : os[i]? = some (boxO g cs)) (hc : Chg (fun b => b = g) x y) (hr : y.rangeAt g 0 vs) (hf : ∀ q, y.frozen? q = x.frozen? q) : OW w (os.set i (boxO g vs)) y := by
  obtain ⟨h1, h2, h3, h4⟩ := h.box hi
  exact h.upd hi hc (fun b _ e => by subst e; rfl) ⟨fun _ => ⟨g, rfl, h1, Nat.lt_of_lt_of_le h2 hc.size, hr, fun j => (hf _).trans (h4 j)⟩, fun e => nomatch e⟩ fun b hb => .inl hb
/-- A box is written whole. -/
theorem OW.put (h : OW w os x) (hi : os[i]? = some (boxO g cs)) (hl : vs.length = cs.length) : OW w (os.set i (boxO g vs)) (x.setCells g 0 vs) := by
  obtain ⟨h1, h2, h3, h4⟩ := h.box hi
  exact h.putR hi (setCells_chg g vs 0 x) (World.rangeAt_setCells_same x g 0 vs fun j hj => ⟨h3.isSome j (by omega), by rw [Nat.zero_add]; exact h4 j⟩) fun q => World.frozen?_setCells _ _ _ _ _
/-- One cell of a box is written. -/
theorem OW.put1 (h : OW w os x) (hi : os[i]? = some (boxO g cs)) (j : Nat) (u : Value) : OW w (os.set i (boxO g (cs.set j u))) (x.setCell ⟨g, j, none⟩ u) := by
  obtain ⟨h1, h2, hr, h4⟩ := h.box hi
  refine h.putR hi (Chg.setCell x ⟨g, j, none⟩ u) (fun k q hk => ?_) fun q => World.frozen?_setCell _ _ _ _
  rw [Nat.zero_add]
  rw [List.getElem?_set] at hk
  by_cases e : j = k
  · subst e
    rw [if_pos rfl] at hk
    split at hk
    · rename_i hlt
      injection hk with hk; subst hk
      have := hr j _ (List.getElem?_eq_getElem hlt)
      rw [Nat.zero_add] at this
      exact World.cell?_setCell_same _ _ _ this
    · cases hk
  · rw [if_neg e] at hk
    rw [World.cell?_setCell_other _ _ _ _ (fun e' => by injection e' with _ e' _; exact e e')]
    have := hr k q hk
    rwa [Nat.zero_add] at this
/-- A row was appended to. -/
theorem OW.grow {v' : Value} {m : Nat} (h : OW w os x) (hi : os[i]? = some (rowO T sz v n cs)) (ho : y.ownsRow w.heap.size T sz v' m vs) (hg : x.grownBy y v.ownBlock) (hat : v'.ownBlock = v.ownBlock ∨ v'.ownBlock = some x.heap.size) : OW w (os.set i (rowO T sz v' m vs)) y := by
  have hr := h.row hi
  refine h.upd hi (grown_chg hg) (fun b _ e => by show vBlock v = _; rw [own_vblock hr]; exact e) ⟨(fun e => nomatch e), fun _ => ho⟩ fun b hb => ?_
  have hb : vBlock v' = some b := hb
  rw [own_vblock ho] at hb
  rcases hat with e | e
  · left; show vBlock v = _; rw [own_vblock hr, ← e]; exact hb
  · right; rw [e] at hb; injection hb with hb; omega
/-- One cell of a row is written. -/
theorem OW.store {cap : Nat} (h : OW w os x) (hi : os[i]? = some (rowO T sz (.slice (some ⟨g, 0, none⟩) n cap) n cs)) (j : Nat) (u : Value) : OW w (os.set i (rowO T sz (.slice (some ⟨g, 0, none⟩) n cap) n (cs.set j u))) (x.setCell ⟨g, j, none⟩ u) :=
  h.upd hi (Chg.setCell x ⟨g, j, none⟩ u) (fun b _ e => by subst e; rfl) ⟨(fun e => nomatch e), fun _ => (World.ownsRow.stored (h.row hi) j u).1⟩ fun b hb => .inl hb
end
end Go.Proofs.YtmigjipfomfacaaDoor
