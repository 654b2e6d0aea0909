/-
  The reference's Part, Same, Uint, outside, ReadUint, Bytes, ReadBytes, walked.
-/
import Derived.Test.YtbcljgcilbfblaaDoorWireW2
import Derived.Test.YtbcljgcilbfblaaDoorWireW6
import Derived.Test.YtbcljgcilbfblaaDoorWireP6
namespace Go.Proofs.YtbcljgcilbfblaaDoor
open Go.RowKit

set_option maxRecDepth 100000 in
theorem rSame_any (a b : List UInt8) (A B : Option Addr) (n c m d : Nat) (w : World) (ha : RB w w.heap.size A n a) (hb : RB w w.heap.size B m b) :
    Calls Tryd.prog 50 #[.slice A n c, .slice B m d] w fun e w' => e = .returned (.bool (a == b)) ∧ w = w' := by
  have tok1 : True := trivial
  go_enter Tryd.func50, Tryd.ntmps50
  go_wp2_with (first
    | (have _t := tok1; refine wpList_string_reads rfl _ 25 9 5 rfl Tryd.underlying25 Tryd.underlying5 Tryd.underlying9 rfl ha ?_; clear tok1)
    | (refine wpList_string_reads rfl _ 25 9 5 rfl Tryd.underlying25 Tryd.underlying5 Tryd.underlying9 rfl hb ?_))
  go_ret
  exact ⟨rfl, rfl⟩

theorem Sl.cut {w : World} {A : Option Addr} {n c lo hi : Nat} {l : List UInt8} (h : Sl w A n c l) (h1 : lo ≤ hi) (h2 : hi ≤ n) (hc : lo < c) : Sl w (A.map (·.add lo)) (hi - lo) (c - lo) (cutS l lo (hi - lo)) := by
  have h3 := (h.drop (k := lo) (by omega) hc).take (m := hi - lo) (by omega)
  exact h3

set_option maxRecDepth 100000 in
set_option maxHeartbeats 400000 in
theorem part_any (l : List UInt8) (A : Option Addr) (n c lo hi : Nat) (a z : Int) (ha : a = (lo : Int)) (hz : z = (hi : Int)) (w : World) (hs : Sl w A n c l) (h1 : lo ≤ hi) (h2 : hi ≤ n) (hn : n ≤ 140737488355328) :
    Calls Tryd.prog 48 #[.slice A n c, .int .i64 a, .int .i64 z] w (BytesPost 5 (cutS l lo (hi - lo)) w) := by
  subst ha; subst hz
  have hcap := hs.cap
  have hlim := hs.lim
  by_cases hc : c = lo
  · obtain rfl : hi = lo := by omega
    have HE : Hid (RB w w.heap.size A 0 []) := Lib.hid RB.nil
    have H : Hid (BytesPost 5 (cutS l hi (hi - hi)) w = BytesPost 5 [] w) := Lib.hid (by rw [Nat.sub_self]; unfold cutS; rw [List.take_zero])
    have k2 : hi - hi = 0 := by omega
    have k3 : (hi : Int) ≤ (c : Int) := by omega
    have HC := Lib.hid hc
    have k4 : c = hi := hc
    have HO := Lib.hid (own_nil w w.heap.size 5 1)
    rw [H.out]
    subst k4
    clear hs hc hlim h1
    go_enter Tryd.func48, Tryd.ntmps48
    go_wp2_with (at_builtin; go_must (refine wpList_append_reads _ rfl (.tmp 8) (.tmp 12) rfl Tryd.u8s' w.heap.size (.slice none 0 0) 0 [] rfl (own_nil _ _ _ _) _ A 0 0 (u8s []) rfl HE.out (u8s_one _) (by decide) (by decide) (Nat.le_refl _) ?_); intro v1 w1 hown1 hg1 hat1)
    go_ret
    exact bytes_post hown1 (below_app (Below.refl _ _) HO.out hg1 (Nat.le_refl _) (Nat.le_refl _))
  · have HE := Lib.hid (hs.cut h1 h2 (by omega))
    have HL : Hid ((cutS l lo (hi - lo)).length = hi - lo) := Lib.hid HE.out.len
    have k3 : (hi : Int) ≤ (c : Int) := by omega
    have k4 : (lo : Int) ≤ (hi : Int) := by omega
    have k5 : c ≠ lo := hc
    have HO := Lib.hid (own_nil w w.heap.size 5 1)
    obtain ⟨C, hC⟩ : ∃ C, C = cutS l lo (hi - lo) := ⟨_, rfl⟩
    rw [← hC] at HE HL ⊢
    clear hs hlim hC hc
    go_enter Tryd.func48, Tryd.ntmps48
    go_wp2_with (at_builtin; go_must (refine wpList_append_reads _ rfl (.tmp 8) (.tmp 12) rfl Tryd.u8s' w.heap.size (.slice none 0 0) 0 [] rfl (own_nil _ _ _ _) _ (A.map (·.add lo)) (hi - lo) (c - lo) (u8s C) rfl HE.out.rb (u8s_one _) (by unfold maxLen; omega) (by omega) (Nat.le_refl _) ?_); intro v1 w1 hown1 hg1 hat1)
    go_ret
    rw [List.nil_append] at hown1
    exact bytes_post hown1 (below_app (Below.refl _ _) HO.out hg1 (Nat.le_refl _) (Nat.le_refl _))

theorem u8v_rem (V : Nat) : u8v (UInt8.ofNat (V % 128 + 128)) = .int .u8 (128 + (V : Int) % 128) := by
  unfold u8v
  rw [UInt8.toNat_ofNat', Nat.mod_eq_of_lt (by omega)]; congr 1; omega

set_option maxRecDepth 100000 in
set_option maxHeartbeats 1000000 in
theorem rUint_any (v : Nat) (w : World) (hv : v < 18446744073709551616) : Calls Tryd.prog 23 #[.int .u64 v] w (BytesPost 5 (uintB v) w) := by
  have HL := Lib.hid (uintB_ten hv)
  have HV := Lib.hid hv
  clear hv
  go_enter Tryd.func23, Tryd.ntmps23
  go_wp2
  go_loopw [0, 3] (fun x b wr => ∃ (V : Nat) (pre : List UInt8), V < 18446744073709551616 ∧ x = .int .u64 V ∧ Hid (pre ++ uintB V = uintB v) ∧ Hid (pre.length ≤ 10) ∧ wr.ownsRow w.heap.size 5 1 b pre.length (u8s pre) ∧ Hid (Below w.heap.size w wr)) (fun x _ _ => (intOf x).toNat)
  case atStart => exact ⟨v, [], HV.out, rfl, Lib.hid rfl, Lib.hid (by simp), own_nil _ _ _ _, Lib.hid (Below.refl _ _)⟩
  case round =>
    obtain ⟨V, pre, hV2, rfl, HP, HPL, hown, HB⟩ := hrel
    by_cases h : 128 ≤ V
    · have hd : decide ((127 : Int) < (V : Int)) = true := decide_eq_true (by omega)
      have hm1 : (V : Int) % 128 < 128 := by omega
      have hm0 : 0 ≤ (V : Int) % 128 := by omega
      have hm2 : (128 + (V : Int) % 128) % 256 = 128 + (V : Int) % 128 := by omega
      have H8 := Lib.hid (u8v_rem V)
      have HN : Hid ((pre ++ [UInt8.ofNat (V % 128 + 128)]) ++ uintB (V / 128) = uintB v) := Lib.hid (by rw [← HP.out, uintB_ge h]; simp)
      have HNL : Hid ((pre ++ [UInt8.ofNat (V % 128 + 128)]).length ≤ 10) := Lib.hid (by
        have := congrArg List.length HN.out
        rw [List.length_append] at this
        have := HL.out
        omega)
      obtain ⟨bv, hb⟩ : ∃ bv, bv = u3 := ⟨_, rfl⟩
      rw [← hb] at hown ⊢
      clear hb
      go_wp2_with (at_builtin; go_must (refine wpList_append_reads _ rfl (.tmp 6) (.tmp 11) rfl Tryd.u8s' w.heap.size bv pre.length (u8s pre) rfl (hown.alloc _) (wr.heap.size + 1) (some ⟨wr.heap.size, 0, none⟩) 1 1 (u8s [UInt8.ofNat (V % 128 + 128)]) rfl (by exact reads_lit wr _ [UInt8.ofNat (V % 128 + 128)] _ _ (by show _ = [u8v _]; rw [H8.out])) (u8s_one _) (by have := HPL.out; unfold maxLen; omega) (by have := HPL.out; omega) (by have := HB.out.size; simp; omega) ?_); intro v1 w1 hown1 hg1 hat1)
      have hB : w.heap.size ≤ (wr.alloc (.cells #[.int .u8 (128 + (V : Int) % 128)] 5)).heap.size := by have := HB.out.size; simp; omega
      have HB1 := Lib.hid (below_app (HB.out.alloc HB.out.size _) (hown.alloc _) hg1 hB (Nat.le_refl _))
      rw [← u8s_append] at hown1
      have hO1 : w1.ownsRow w.heap.size 5 1 v1 (pre ++ [UInt8.ofNat (V % 128 + 128)]).length (u8s (pre ++ [UInt8.ofNat (V % 128 + 128)])) := by
        rw [List.length_append]; exact hown1
      clear hown hown1 hg1 hat1 hB hm2
      go_roundw
      case rel => exact ⟨V / 128, _, by omega, by rw [Int.natCast_ediv]; rfl, HN, HNL, hO1, HB1⟩
      case measure => simp [intOf]; omega
    · have hd : decide ((127 : Int) < (V : Int)) = false := decide_eq_false (by omega)
      have hm : (V : Int) % 256 = (V : Int) := by omega
      have H8 : Hid (u8v (UInt8.ofNat V) = .int .u8 (V : Int)) := Lib.hid (by
        unfold u8v
        rw [UInt8.toNat_ofNat', Nat.mod_eq_of_lt (by omega)])
      have HN : Hid (pre ++ [UInt8.ofNat V] = uintB v) := Lib.hid (by rw [← HP.out, uintB_lt (by omega)])
      obtain ⟨bv, hb⟩ : ∃ bv, bv = u3 := ⟨_, rfl⟩
      rw [← hb] at hown ⊢
      clear hb
      go_wp2_with (at_builtin; go_must (refine wpList_append_reads _ rfl (.tmp 15) (.tmp 18) rfl Tryd.u8s' w.heap.size bv pre.length (u8s pre) rfl (hown.alloc _) (wr.heap.size + 1) (some ⟨wr.heap.size, 0, none⟩) 1 1 (u8s [UInt8.ofNat V]) rfl (by exact reads_lit wr _ [UInt8.ofNat V] _ _ (by show _ = [u8v _]; rw [H8.out])) (u8s_one _) (by have := HPL.out; unfold maxLen; omega) (by have := HPL.out; omega) (by have := HB.out.size; simp; omega) ?_); intro v1 w1 hown1 hg1 hat1)
      go_ret
      have hB : w.heap.size ≤ (wr.alloc (.cells #[.int .u8 (V : Int)] 5)).heap.size := by have := HB.out.size; simp; omega
      have HB1 := below_app (HB.out.alloc HB.out.size _) (hown.alloc _) hg1 hB (Nat.le_refl _)
      rw [← u8s_append, HN.out] at hown1
      exact bytes_post hown1 HB1

theorem rUint_of (v : Nat) (a : Int) (ha : a = (v : Int)) (w : World) (hv : v < 18446744073709551616) : Calls Tryd.prog 23 #[.int .u64 a] w (BytesPost 5 (uintB v) w) := by
  subst ha
  exact rUint_any v w hv

set_option maxRecDepth 100000 in
theorem rOutside_any (A : Option Addr) (n c : Nat) (a : Int) (w : World) : Calls Tryd.prog 45 #[.slice A n c, .int .i64 a] w fun e w' => e = .returned (.bool (outB n a)) ∧ w = w' := by
  by_cases h : a < 0
  · have H := Lib.hid (outB_neg (n := n) h)
    have hd : decide (a < 0) = true := decide_eq_true h
    go_enter Tryd.func45, Tryd.ntmps45
    go_wp2
    go_ret
    exact ⟨by rw [H.out]; rfl, rfl⟩
  · have hd : decide (a < 0) = false := decide_eq_false h
    have H : Hid (outB n a = decide ((n : Int) < a)) := Lib.hid (by unfold outB; rw [hd]; rfl)
    go_enter Tryd.func45, Tryd.ntmps45
    go_wp2
    go_ret
    exact ⟨by rw [H.out]; rfl, rfl⟩

set_option maxRecDepth 100000 in
set_option maxHeartbeats 400000 in
theorem rBytes_any (l : List UInt8) (A : Option Addr) (n c : Nat) (w : World) (hn : n ≤ 140737488355318) (hr : RB w w.heap.size A n l) :
    Calls Tryd.prog 34 #[.slice A n c] w (BytesPost 5 (uintB l.length ++ l) w) := by
  have HR : Hid (∀ w', Below w.heap.size w w' → RB w' w'.heap.size A n l) := Lib.hid fun w' h => hr.later h
  have HL := Lib.hid hr.len
  have HU := Lib.hid (uintB_ten (v := n) (by omega))
  clear hr
  go_enter Tryd.func34, Tryd.ntmps34
  go_wp2_with (first
    | (go_at_call 23; go_must (refine (rUint_of n _ (by omega) _ (by omega)).mono ?_); rintro e w1 ⟨A1, c1, rfl, hO1, hb1⟩; have HB1 := Lib.hid hb1; have HO1 := Lib.hid hO1; clear hb1 hO1)
    | (at_builtin; go_must (refine wpList_append_reads _ rfl (.tmp 6) (.tmp 7) rfl Tryd.u8s' w.heap.size (.slice A1 (uintB n).length c1) (uintB n).length (u8s (uintB n)) rfl HO1.out _ A n c (u8s l) rfl (HR.out _ HB1.out) (u8s_one _) (by have := HU.out; unfold maxLen; omega) (by have := HU.out; omega) HB1.out.size ?_); intro v2 w2 hown2 hg2 hat2))
  go_ret
  rw [← u8s_append] at hown2
  rw [HL.out]
  exact bytes_post hown2 (below_app HB1.out HO1.out hg2 HB1.out.size (Nat.le_refl _))

set_option maxRecDepth 100000 in
set_option maxHeartbeats 400000 in
theorem rRu_out (l : List UInt8) (A : Option Addr) (n c : Nat) (w : World) (a : Int) (hl : l.length = n) (h : a < 0 ∨ (n : Int) < a) :
    Calls Tryd.prog 24 #[.slice A n c, .int .i64 a] w (RUPost (readU l a) w) := by
  have HO : Hid (outB n a = true) := Lib.hid (by rcases h with h | h <;> simp [outB, h])
  have H : Hid (readU l a = (0, 0, 1)) := Lib.hid (by unfold readU; rw [if_pos (by omega)])
  clear h hl
  go_enter Tryd.func24, Tryd.ntmps24
  go_wp2_with (go_at_call 45; go_must (refine (rOutside_any A n c a _).mono ?_); rintro e w0 ⟨rfl, rfl⟩; rw [HO.out])
  go_ret3
  rw [H.out]
  exact ⟨rfl, rfl⟩

theorem ref_mul (U x : Nat) (hU : U ≤ 72057594037927936) (hx : x < 128) : U * x < 9223372036854775808 := by
  have h1 : x ≤ 127 := by omega
  have := Nat.mul_le_mul hU h1
  omega
theorem ref_step (V U j x : Nat) (hj : j ≤ 8) (hU : U = 2 ^ (7 * j)) (hV : V < U) :
    IntKind.u64.wrap ((U : Int) * ((x : Int) % 128)) = ((U * (x % 128) : Nat) : Int) ∧ IntKind.u64.wrap ((V : Int) + ((U * (x % 128) : Nat) : Int)) = ((V + x % 128 * 2 ^ (7 * j) : Nat) : Int) ∧ IntKind.u64.wrap ((U : Int) * 128) = ((U * 128 : Nat) : Int) ∧ V + x % 128 * 2 ^ (7 * j) < U * 128 ∧ U * 128 = 2 ^ (7 * (j + 1)) := by
  have h1 := pow7_le hj
  rw [← hU] at h1
  have h2 : x % 128 < 128 := Nat.mod_lt _ (by decide)
  have h3 := ref_mul U (x % 128) h1 h2
  have e1 : (U : Int) * ((x : Int) % 128) = ((U * (x % 128) : Nat) : Int) := by rw [Int.natCast_mul, Int.natCast_emod]; rfl
  have e2 : x % 128 * 2 ^ (7 * j) = U * (x % 128) := by rw [← hU, Nat.mul_comm]
  rw [e1, e2]
  have h4 : U * (x % 128) ≤ U * 127 := Nat.mul_le_mul_left _ (by omega)
  refine ⟨?_, ?_, ?_, ?_, ?_⟩
  · rw [IntKind.wrap_u64]; omega
  · rw [IntKind.wrap_u64]; omega
  · rw [IntKind.wrap_u64]; omega
  · omega
  · rw [hU, pow7_step]; omega
theorem ref_last (V x : Nat) (hx : x ≤ 1) (hV : V < 9223372036854775808) :
    IntKind.u64.wrap ((9223372036854775808 : Int) * ((x : Int) % 128)) = ((9223372036854775808 * (x % 128) : Nat) : Int) ∧ IntKind.u64.wrap ((V : Int) + ((9223372036854775808 * (x % 128) : Nat) : Int)) = ((V + x % 128 * 2 ^ (7 * 9) : Nat) : Int) := by
  rw [show (2 : Nat) ^ (7 * 9) = 9223372036854775808 from by decide]
  constructor
  · rw [IntKind.wrap_u64]; omega
  · rw [IntKind.wrap_u64]; omega

end Go.Proofs.YtbcljgcilbfblaaDoor
