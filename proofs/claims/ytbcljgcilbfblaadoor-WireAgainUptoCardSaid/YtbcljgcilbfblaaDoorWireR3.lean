/-
  The reference's eight, number, Rising, ReadRising, Falling, ReadFalling, ReadOrdered, walked.
-/
import Derived.Test.YtbcljgcilbfblaaDoorWireR1
import Derived.Test.YtbcljgcilbfblaaDoorWireW12
import Derived.Test.YtbcljgcilbfblaaDoorWireW13
namespace Go.Proofs.YtbcljgcilbfblaaDoor
open Go.RowKit

def eB (v : Nat) : Nat → List UInt8
  | 0 => []
  | i + 1 => UInt8.ofNat (v / 256 ^ i) :: eB v i
theorem eB_len (v : Nat) : ∀ i, (eB v i).length = i
  | 0 => rfl
  | i + 1 => by show (eB v i).length + 1 = _; rw [eB_len v i]
theorem eB_ris (v : Nat) : eB v 8 = risB v := by simp [eB, risB, rTo, List.range_succ]

set_option maxRecDepth 100000 in
set_option maxHeartbeats 1000000 in
theorem eight_any (v : Nat) (w : World) (hv : v < 18446744073709551616) : Calls Tryd.prog 46 #[.int .u64 v] w (BytesPost 5 (risB v) w) := by
  go_enter Tryd.func46, Tryd.ntmps46
  go_wp2
  go_loopw [0, 3, 4] (fun x b i wr => ∃ (j V : Nat), j ≤ 8 ∧ i = .int .i64 j ∧ Hid (V = v / 256 ^ j) ∧ V < 18446744073709551616 ∧ x = .int .u64 V ∧ wr.ownsRow w.heap.size 5 1 b j (u8s (eB v j)) ∧ Hid (Below w.heap.size w wr)) (fun _ _ i _ => 8 - (intOf i).toNat)
  case atStart => exact ⟨0, v, by omega, rfl, Lib.hid (by simp), hv, rfl, own_nil _ _ _ _, Lib.hid (Below.refl _ _)⟩
  case round =>
    obtain ⟨j, V, hj, rfl, HV, hV, rfl, hown, HB⟩ := hrel
    by_cases hlt : j < 8
    case neg =>
      obtain rfl : j = 8 := by omega
      have hd : decide ((8 : Int) < 8) = false := by decide
      rw [eB_ris] at hown
      have HP := Lib.hid (bytes_post hown HB.out)
      clear hown
      go_wp2
      go_ret
      exact HP.out
    have hd : decide ((j : Int) < 8) = true := decide_eq_true (by omega)
    obtain ⟨A, c, hbv, hl1, hl2, _, hrl⟩ := own_slice hown
    subst hbv
    have hm0 : 0 ≤ (V : Int) % 256 := by omega
    have hm1 : (V : Int) % 256 < 256 := by omega
    have HR := Lib.hid hrl
    have hB : w.heap.size ≤ wr.heap.size := HB.out.size
    have HC : Hid (u8s [UInt8.ofNat V] = [.int .u8 ((V : Int) % 256)]) := Lib.hid (by show [u8v _] = _; rw [u8v_mod])
    have HO : Hid ((wr.alloc (.cells #[.int .u8 ((V : Int) % 256)] 5)).ownsRow w.heap.size 5 1 (.slice (some ⟨wr.heap.size, 0, none⟩) 1 1) 1 (u8s [UInt8.ofNat V])) := Lib.hid (by rw [HC.out]; exact own_lit wr #[.int .u8 ((V : Int) % 256)] 5 w.heap.size 1 1 hB (by decide) rfl)
    have HN : Hid (u8s [UInt8.ofNat V] ++ u8s (eB v j) = u8s (eB v (j + 1))) := Lib.hid (by rw [HV.out, ← u8s_append]; rfl)
    clear hown hrl hl1 hl2
    go_wp2_with (at_builtin; go_must (refine wpList_append_reads _ rfl (.tmp 12) (.tmp 13) rfl Tryd.u8s' w.heap.size (.slice (some ⟨wr.heap.size, 0, none⟩) 1 1) 1 (u8s [UInt8.ofNat V]) rfl HO.out wr.heap.size A j c (u8s (eB v j)) rfl (Reads.alloc HR.out (Nat.le_refl _) _) (u8s_one _) (by unfold maxLen; omega) (by omega) (by have := HB.out.size; simp; omega) ?_); intro v1 w1 hown1 hg1 hat1; have HB1 := Lib.hid (below_app (HB.out.alloc HB.out.size (.cells #[.int .u8 ((V : Int) % 256)] 5)) HO.out hg1 (by have := HB.out.size; simp; omega) (Nat.le_refl _)); rw [HN.out] at hown1; have HO1 := Lib.hid hown1; clear hown1 hg1 hat1)
    have HV2 : Hid (V / 256 = v / 256 ^ (j + 1)) := Lib.hid (by rw [HV.out, Nat.pow_succ, Nat.div_div_eq_div_mul])
    have hO1 : w1.ownsRow w.heap.size 5 1 v1 (j + 1) (u8s (eB v (j + 1))) := by
      have := HO1.out
      rw [Nat.add_comm 1 j] at this
      exact this
    clear HO1 hB
    go_roundw
    case rel => exact ⟨j + 1, V / 256, by omega, by go_num, HV2, by omega, by rw [Int.natCast_ediv]; rfl, hO1, HB1⟩
    case measure => simp [intOf]; omega
theorem eight_of (v : Nat) (a : Int) (ha : a = (v : Int)) (w : World) (hv : v < 18446744073709551616) : Calls Tryd.prog 46 #[.int .u64 a] w (BytesPost 5 (risB v) w) := by
  subst ha; exact eight_any v w hv

theorem big_bound (l : List UInt8) (_m : Nat) (h : l.length ≤ 7) : big l < 72057594037927936 := by
  have h1 := big_lt l
  have h2 := Nat.pow_le_pow_right (show 0 < 256 by decide) h
  have h3 : (256 : Nat) ^ 7 = 72057594037927936 := by decide
  omega
set_option maxRecDepth 100000 in
set_option maxHeartbeats 1000000 in
theorem number_any (l : List UInt8) (A : Option Addr) (n c k m : Nat) (w : World) (hr : RB w w.heap.size A n l) (hn : n ≤ 140737488355328) (hm : m ≤ 8) (hk : k + m ≤ n) :
    Calls Tryd.prog 47 #[.slice A n c, .int .i64 k, .int .i64 m] w fun e w' => e = .returned (.int .u64 (big (cutS l k m))) ∧ w = w' := by
  obtain ⟨L, hL⟩ : ∃ L, L = cutS l k m := ⟨_, rfl⟩
  have HLL : Hid (L.length = m) := Lib.hid (by rw [hL]; unfold cutS; rw [List.length_take, List.length_drop]; have := hr.len; omega)
  have HA : Hid (∀ (j : Nat) (y : UInt8), j < m → l[k + j]? = some y → L[j]? = some y) := Lib.hid fun j y hj hy => by
    rw [hL]; unfold cutS; rw [List.getElem?_take_of_lt hj, List.getElem?_drop]; exact hy
  have HR := Lib.hid hr
  rw [← hL]
  clear hL hr
  go_enter Tryd.func47, Tryd.ntmps47
  go_wp2
  go_loop [7, 8] (fun s i => ∃ j N : Nat, j ≤ m ∧ i = .int .i64 j ∧ Hid (N = big (L.take j)) ∧ s = .int .u64 N) (fun _ i => m - (intOf i).toNat)
  case atStart => exact ⟨0, 0, by omega, rfl, Lib.hid (by simp [big]), rfl⟩
  case round =>
    obtain ⟨j, N, hj, rfl, HN, rfl⟩ := hrel
    by_cases hlt : j < m
    case neg =>
      have HE : Hid (N = big L) := Lib.hid (by rw [HN.out, take_all (by rw [HLL.out]; omega)])
      have hd : decide ((j : Int) < (m : Int)) = false := decide_eq_false (by omega)
      go_wp2
      go_ret
      rw [HE.out]
      exact ⟨rfl, rfl⟩
    have hd : decide ((j : Int) < (m : Int)) = true := decide_eq_true (by omega)
    obtain ⟨b, o, y, rfl, _, hy, hcy⟩ := HR.out.at_ (k := k + j) (by omega)
    have HY := Lib.hid (HA.out j y hlt hy)
    have hNb : N < 72057594037927936 := by rw [HN.out]; exact big_bound _ 0 (by rw [List.length_take]; omega)
    have hy8 := y.toNat_lt
    have e1 : IntKind.u64.wrap (y.toNat : Int) = (y.toNat : Int) := by rw [IntKind.wrap_u64]; omega
    have e2 : IntKind.u64.wrap (256 * (N : Int)) = 256 * (N : Int) := by rw [IntKind.wrap_u64]; omega
    have HN2 : Hid (N * 256 + y.toNat = big (L.take (j + 1))) := Lib.hid (by rw [take_snoc HY.out, big_snoc, HN.out])
    have q1 : IntKind.i64.wrap ((k : Int) + (j : Int)) = (k : Int) + (j : Int) := i64_sum (by omega) (by omega)
    clear hy
    go_wp2
    go_round
    case rel => exact ⟨j + 1, N * 256 + y.toNat, by omega, by go_num, HN2, by rw [show ((N * 256 + y.toNat : Nat) : Int) = 256 * (N : Int) + (y.toNat : Int) from by omega]⟩
    case measure => simp [intOf]; omega

set_option maxRecDepth 100000 in
theorem rRising_neg (z : Int) (w : World) (hz : z < 0) : Calls Tryd.prog 26 #[.int .i64 z] w (BytesPost2 5 [] 1 w) := by
  have hd : decide (z < 0) = true := decide_eq_true hz
  go_enter Tryd.func26, Tryd.ntmps26
  go_wp2
  go_ret2
  exact bytes_none2 (Below.refl _ _)
set_option maxRecDepth 100000 in
theorem rRising_any (v : Nat) (w : World) (hv : v < 9223372036854775808) : Calls Tryd.prog 26 #[.int .i64 v] w (BytesPost2 5 (risB v) 0 w) := by
  have hd : decide ((v : Int) < 0) = false := decide_eq_false (by omega)
  have e1 : IntKind.u64.wrap (v : Int) = (v : Int) := by rw [IntKind.wrap_u64]; omega
  go_enter Tryd.func26, Tryd.ntmps26
  go_wp2_with (go_at_call 46; go_must (refine (eight_of v _ (by omega) _ (by omega)).mono ?_); rintro e w1 ⟨A1, c1, rfl, hO1, hb1⟩)
  go_ret2
  exact ⟨A1, c1, rfl, hO1, hb1⟩

theorem big_most {l : List UInt8} (h : l.length = 8) (h0 : 127 < (l[0]?.getD 0).toNat) : 9223372036854775807 < big l := by
  match l, h with
  | c :: t, h =>
    rw [big_cons]
    have ht : t.length = 7 := by simpa using h
    have hc : 127 < c.toNat := by simpa using h0
    rw [ht]
    have h3 : (256 : Nat) ^ 7 = 72057594037927936 := by decide
    rw [h3]
    omega

set_option maxRecDepth 100000 in
set_option maxHeartbeats 2000000 in
theorem rRr_any (l : List UInt8) (A : Option Addr) (n c : Nat) (a : Int) (w : World) (hs : Sl w A n c l) (hn : n ≤ 140737488355000) :
    Calls Tryd.prog 28 #[.slice A n c, .int .i64 a] w (RRPost (readR l a) w) := by
  have hl := hs.len
  by_cases ho : outB n a = true
  · have HO := Lib.hid ho
    have H : Hid (readR l a = (0, 0, 1)) := Lib.hid (by
      unfold outB at ho
      simp at ho
      unfold readR
      rw [if_pos (by omega)])
    clear hs ho hl
    go_enter Tryd.func28, Tryd.ntmps28
    go_wp2_with (go_at_call 45; go_must (refine (rOutside_any A n c a _).mono ?_); rintro e w0 ⟨rfl, rfl⟩; rw [HO.out])
    go_ret3
    rw [H.out]
    exact ⟨rfl, rfl⟩
  have ho : outB n a = false := by simpa using ho
  have HO := Lib.hid ho
  have ha : 0 ≤ a ∧ a ≤ n := by unfold outB at ho; simp at ho; omega
  obtain ⟨k, rfl⟩ : ∃ k : Nat, a = (k : Int) := ⟨a.toNat, by omega⟩
  have hk : k ≤ n := by omega
  have hbase : readR l (k : Int) = if n < k + 8 then (0, 0, 10) else if 127 < (l[k]?.getD 0).toNat then (0, 0, 13) else (big (cutS l k 8), k + 8, 0) := by
    unfold readR; rw [if_neg (by omega), Int.toNat_natCast, hl]
  by_cases h8 : n < k + 8
  · have H : Hid (readR l (k : Int) = (0, 0, 10)) := Lib.hid (by rw [hbase, if_pos h8])
    have hd : decide ((n : Int) - (k : Int) < 8) = true := decide_eq_true (by omega)
    clear hs ho hl ha hbase
    go_enter Tryd.func28, Tryd.ntmps28
    go_wp2_with (go_at_call 45; go_must (refine (rOutside_any A n c (k : Int) _).mono ?_); rintro e w0 ⟨rfl, rfl⟩; rw [HO.out])
    go_ret3
    rw [H.out]
    exact ⟨rfl, rfl⟩
  rw [if_neg h8] at hbase
  have hd : decide ((n : Int) - (k : Int) < 8) = false := decide_eq_false (by omega)
  have HL8 : (cutS l k 8).length = 8 := by unfold cutS; rw [List.length_take, List.length_drop]; omega
  have h00 : (cutS l k 8)[0]? = l[k]? := by unfold cutS; rw [List.getElem?_take_of_lt (by omega), List.getElem?_drop, Nat.add_zero]
  have HR := Lib.hid hs.rb
  obtain ⟨N, hN⟩ : ∃ N, N = big (cutS l k 8) := ⟨_, rfl⟩
  have HNN := Lib.hid hN
  have hk8 : k + 8 ≤ n := by omega
  by_cases hbig : 127 < (l[k]?.getD 0).toNat
  · have H : Hid (readR l (k : Int) = (0, 0, 13)) := Lib.hid (by rw [hbase, if_pos hbig])
    have hb2 : 9223372036854775807 < N := by rw [hN]; exact big_most HL8 (by rw [h00]; exact hbig)
    have hd2 : decide ((9223372036854775807 : Int) < (N : Int)) = true := decide_eq_true (by omega)
    have hd3 : decide (9223372036854775807 < N) = true := decide_eq_true hb2
    clear hs ho hl ha hbase hN HL8 h00 hbig hb2
    go_enter Tryd.func28, Tryd.ntmps28
    go_wp2_with (first
      | (go_at_call 45; go_must (refine (rOutside_any A n c (k : Int) _).mono ?_); rintro e w0 ⟨rfl, rfl⟩; rw [HO.out])
      | (go_at_call 47; go_must (refine (number_any l A n c k 8 _ HR.out (by omega) (by omega) hk8).mono ?_); rintro e w0 ⟨rfl, rfl⟩; rw [← HNN.out]))
    go_ret3
    rw [H.out]
    exact ⟨rfl, rfl⟩
  have H : Hid (readR l (k : Int) = (N, k + 8, 0)) := Lib.hid (by rw [hbase, if_neg hbig, hN])
  have hb2 : N < 9223372036854775808 := by rw [hN]; exact big_half HL8 (by rw [h00]; omega)
  have hd2 : decide ((9223372036854775807 : Int) < (N : Int)) = false := decide_eq_false (by omega)
  have hd3 : decide (9223372036854775807 < N) = false := decide_eq_false (by omega)
  have k0 : IntKind.i64.wrap ((k : Int) + 8) = (k : Int) + 8 := i64_sum (by omega) (by omega)
  have k1 : IntKind.i64.wrap (N : Int) = (N : Int) := i64_sum (by omega) (by omega)
  clear hs ho hl ha hbase hN HL8 h00 hbig
  go_enter Tryd.func28, Tryd.ntmps28
  go_wp2_with (first
    | (go_at_call 45; go_must (refine (rOutside_any A n c (k : Int) _).mono ?_); rintro e w0 ⟨rfl, rfl⟩; rw [HO.out])
    | (go_at_call 47; go_must (refine (number_any l A n c k 8 _ HR.out (by omega) (by omega) hk8).mono ?_); rintro e w0 ⟨rfl, rfl⟩; rw [← HNN.out]))
  go_ret3
  rw [H.out]
  exact ⟨rfl, rfl⟩

set_option maxRecDepth 100000 in
theorem rFalling_neg (z : Int) (w : World) (hz : z < 0) : Calls Tryd.prog 30 #[.int .i64 z] w (BytesPost2 5 [] 1 w) := by
  have hd : decide (z < 0) = true := decide_eq_true hz
  go_enter Tryd.func30, Tryd.ntmps30
  go_wp2
  go_ret2
  exact bytes_none2 (Below.refl _ _)
set_option maxRecDepth 100000 in
theorem rFalling_any (v : Nat) (w : World) (hv : v < 9223372036854775808) : Calls Tryd.prog 30 #[.int .i64 v] w (BytesPost2 5 (risB (9223372036854775807 - v)) 0 w) := by
  have hd : decide ((v : Int) < 0) = false := decide_eq_false (by omega)
  have HC : Hid (∀ z : Int, z = 9223372036854775807 - (v : Int) → ∀ w, Calls Tryd.prog 26 #[.int .i64 z] w (BytesPost2 5 (risB (9223372036854775807 - v)) 0 w)) := Lib.hid fun z hz w => by
    rw [show z = ((9223372036854775807 - v : Nat) : Int) from by omega]
    exact rRising_any _ w (by omega)
  have k1 : IntKind.i64.wrap (9223372036854775807 - (v : Int)) = 9223372036854775807 - (v : Int) := i64_sum (by omega) (by omega)
  go_enter Tryd.func30, Tryd.ntmps30
  go_wp2_with (go_at_call 26; go_must (refine (HC.out _ (by omega) _).mono ?_); rintro e w1 ⟨A1, c1, rfl, hO1, hb1⟩)
  go_ret2
  exact ⟨A1, c1, rfl, hO1, hb1⟩
set_option maxRecDepth 100000 in
set_option maxHeartbeats 2000000 in
theorem rRfl_any (l : List UInt8) (A : Option Addr) (n c : Nat) (a : Int) (w : World) (hs : Sl w A n c l) (hn : n ≤ 140737488355000) :
    Calls Tryd.prog 32 #[.slice A n c, .int .i64 a] w (RRPost (readFl l a) w) := by
  have hend := readR_end l a
  have HC := Lib.hid (rRr_any l A n c a w hs hn)
  obtain ⟨v, hv⟩ : ∃ v, v = (readR l a).1 := ⟨_, rfl⟩
  obtain ⟨p, hp⟩ : ∃ p, p = (readR l a).2.1 := ⟨_, rfl⟩
  obtain ⟨k, hk⟩ : ∃ k, k = (readR l a).2.2 := ⟨_, rfl⟩
  have hbase : readFl l a = if k = 0 then (9223372036854775807 - v, p, 0) else (0, 0, k) := by unfold readFl; rw [hv, hp, hk]
  have HU : Hid (RRPost (readR l a) w = RRPost (v, p, k) w) := Lib.hid (by rw [hv, hp, hk])
  rw [← hv, ← hk] at hend
  clear hv hp hk hs
  by_cases hk0 : k = 0
  · have H : Hid (readFl l a = (9223372036854775807 - v, p, 0)) := Lib.hid (by rw [hbase, if_pos hk0])
    obtain ⟨_, _, _, _, hv⟩ := hend hk0
    subst hk0
    have q1 : IntKind.i64.wrap (9223372036854775807 - (v : Int)) = ((9223372036854775807 - v : Nat) : Int) := by rw [i64_sum (by omega) (by omega)]; omega
    have q2 : (9223372036854775807 - (v : Int)) = ((9223372036854775807 - v : Nat) : Int) := by omega
    have HQ := Lib.hid q2
    clear hbase hend q2
    go_enter Tryd.func32, Tryd.ntmps32
    go_wp2_with (go_at_call 28; go_must (refine HC.out.mono ?_); rw [HU.out]; rintro e w1 ⟨rfl, rfl⟩)
    go_ret3
    rw [H.out]
    refine ⟨?_, rfl⟩
    first
      | rfl
      | (rw [← HQ.out]; rfl)
  · have H : Hid (readFl l a = (0, 0, k)) := Lib.hid (by rw [hbase, if_neg hk0])
    have hd : ((k : Int) != 0) = true := by rw [bne_iff_ne]; omega
    clear hbase hend
    go_enter Tryd.func32, Tryd.ntmps32
    go_wp2_with (go_at_call 28; go_must (refine HC.out.mono ?_); rw [HU.out]; rintro e w1 ⟨rfl, rfl⟩)
    go_ret3
    rw [H.out]
    exact ⟨rfl, rfl⟩

set_option maxRecDepth 100000 in
set_option maxHeartbeats 2000000 in
theorem rRo_any (l : List UInt8) (A : Option Addr) (n c : Nat) (a : Int) (w : World) (hs : Sl w A n c l) (hn : n ≤ 140737488355000) :
    Calls Tryd.prog 40 #[.slice A n c, .int .i64 a] w (BytesPost3 5 (readO l a).1 ((readO l a).2.1 : Nat) ((readO l a).2.2 : Nat) w) := by
  have hl := hs.len
  have HR : Hid (∀ w', Below w.heap.size w w' → RB w' w'.heap.size A n l) := Lib.hid fun w' h => hs.rb.later h
  by_cases ho : outB n a = true
  · have HO := Lib.hid ho
    have H : Hid (BytesPost3 5 (readO l a).1 ((readO l a).2.1 : Nat) ((readO l a).2.2 : Nat) w (.returned (.tuple #[.slice none 0 0, .int .i64 0, .int .i64 1])) w) := Lib.hid (by
      unfold outB at ho
      simp at ho
      unfold readO
      rw [if_pos (by omega)]
      exact bytes_none3 (Below.refl _ _))
    clear hs ho hl
    go_enter Tryd.func40, Tryd.ntmps40
    go_wp2_with (go_at_call 45; go_must (refine (rOutside_any A n c a _).mono ?_); rintro e w0 ⟨rfl, rfl⟩; rw [HO.out])
    go_ret3
    exact H.out
  have ho : outB n a = false := by simpa using ho
  have HO := Lib.hid ho
  have ha : 0 ≤ a ∧ a ≤ n := by unfold outB at ho; simp at ho; omega
  obtain ⟨K, rfl⟩ : ∃ K : Nat, a = (K : Int) := ⟨a.toNat, by omega⟩
  have HL := Lib.hid hl
  obtain ⟨R, hR⟩ : ∃ R, R = readO l (K : Int) := ⟨_, rfl⟩
  rw [← hR]
  have HS : Hid (glO [] K (rdO (l.drop K)) = R) := Lib.hid (by rw [hR, readO_in (by omega)])
  have hK : K ≤ n := by omega
  clear hs ho hl ha hR
  go_enter Tryd.func40, Tryd.ntmps40
  go_wp2_with (go_at_call 45; go_must (refine (rOutside_any A n c (K : Int) _).mono ?_); rintro e w0 ⟨rfl, rfl⟩; rw [HO.out])
  go_loopw [7, 8] (fun v i wr => ∃ (k : Nat) (P : List UInt8), k ≤ n ∧ i = .int .i64 k ∧ Hid (P.length ≤ k) ∧ Hid (glO P k (rdO (l.drop k)) = R) ∧ wr.ownsRow w.heap.size 5 1 v P.length (u8s P) ∧ Hid (Below w.heap.size w wr)) (fun _ i _ => n - (intOf i).toNat)
  case atStart => exact ⟨K, [], hK, rfl, Lib.hid (by simp), HS, own_nil _ _ _ _, Lib.hid (Below.refl _ _)⟩
  case round =>
    clear HS
    obtain ⟨k, P, hk, rfl, HPL, HG, hown, HB⟩ := hrel
    obtain ⟨v, hv⟩ : ∃ v, v = u7 := ⟨_, rfl⟩
    rw [← hv] at hown ⊢
    clear hv
    have HT : Hid (rdO [] = ([], 0, 10) ∧ ∀ x, rdO [x] = ([], 0, 10)) := Lib.hid ⟨rfl, fun _ => rfl⟩
    have HE : Hid (∀ e, e ≠ 0 → R = ([], 0, e) → BytesPost3 5 R.1 (R.2.1 : Nat) (R.2.2 : Nat) w (.returned (.tuple #[.slice none 0 0, .int .i64 0, .int .i64 e])) wr) := Lib.hid fun e _ h => by
      rw [h]; exact bytes_none3 HB.out
    by_cases hlt : k < n
    case neg =>
      have hd : decide ((k : Int) < (n : Int)) = false := decide_eq_false (by omega)
      have H := Lib.hid (HE.out 10 (by decide) (by rw [← HG.out, List.drop_eq_nil_of_le (by have := HL.out; omega), HT.out.1]; rfl))
      clear HE
      go_wp2
      go_ret3
      exact H.out
    have hd : decide ((k : Int) < (n : Int)) = true := decide_eq_true (by omega)
    obtain ⟨b, o, x, rfl, _, hx, hcx⟩ := (HR.out _ HB.out).at_ hlt
    have HX := Lib.hid (drop_of_get hx)
    clear hx
    by_cases hx0 : x.toNat = 0
    case neg =>
      have hd2 : ((x.toNat : Int) != 0) = true := by rw [bne_iff_ne]; omega
      have HN : Hid (glO (P ++ [x]) (k + 1) (rdO (l.drop (k + 1))) = R) := Lib.hid (by rw [← HG.out, HX.out, rdO_ne hx0, glO_add])
      have HPL2 : Hid ((P ++ [x]).length ≤ k + 1) := Lib.hid (by rw [List.length_append]; have := HPL.out; simp; omega)
      clear HE hx0
      go_wp2_with (at_builtin; go_must (refine wpList_append_reads _ rfl (.tmp 24) (.tmp 29) rfl Tryd.u8s' w.heap.size v P.length (u8s P) rfl (hown.alloc _) (wr.heap.size + 1) (some ⟨wr.heap.size, 0, none⟩) 1 1 (u8s [x]) rfl (by exact reads_lit wr _ [x] _ _ rfl) (u8s_one _) (by have := HPL.out; unfold maxLen; omega) (by have := HPL.out; omega) (by have := HB.out.size; simp; omega) ?_); intro v1 w1 hown1 hg1 hat1; have HB1 := Lib.hid (below_app (HB.out.alloc HB.out.size (.cells #[.int .u8 (x.toNat : Int)] 5)) (hown.alloc _) hg1 (by have := HB.out.size; simp; omega) (Nat.le_refl _)); rw [← u8s_append] at hown1; have HO1 := Lib.hid hown1; clear hown1 hg1 hat1)
      have hO1 : w1.ownsRow w.heap.size 5 1 v1 (P ++ [x]).length (u8s (P ++ [x])) := by
        have := HO1.out
        rw [show (P ++ [x]).length = P.length + 1 from by simp]; exact this
      clear HO1
      go_roundw
      case rel => exact ⟨k + 1, P ++ [x], by omega, by go_num, HPL2, HN, hO1, HB1⟩
      case measure => simp [intOf]; omega
    have hd2 : ((x.toNat : Int) != 0) = false := by rw [bne_eq_false_iff_eq]; omega
    have hq1 : IntKind.i64.wrap ((k : Int) + 1) = (k : Int) + 1 := i64_sum (by omega) (by omega)
    by_cases hlt2 : k + 1 < n
    case neg =>
      have hd3 : ((k : Int) + 1 == (n : Int)) = true := by rw [beq_iff_eq]; omega
      have H := Lib.hid (HE.out 10 (by decide) (by rw [← HG.out, HX.out, List.drop_eq_nil_of_le (by have := HL.out; omega), HT.out.2]; rfl))
      clear HE hx0
      go_wp2
      go_ret3
      exact H.out
    have hd3 : ((k : Int) + 1 == (n : Int)) = false := by rw [beq_eq_false_iff_ne]; omega
    have hq2 : (0 : Int) ≤ (k : Int) + 1 := by omega
    have hq3 : (k : Int) + 1 < (n : Int) := by omega
    have hq4 : ((k : Int) + 1).toNat = k + 1 := by omega
    have hq5 : IntKind.i64.wrap ((k : Int) + 1 + 1) = (k : Int) + 2 := by rw [i64_sum (by omega) (by omega)]; omega
    obtain ⟨b', o', y, e', _, hy, hcy⟩ := (HR.out _ HB.out).at_ hlt2
    injection e' with e'
    injection e' with e1 e2
    subst e1; subst e2
    have HY := Lib.hid (drop_of_get hy)
    clear hy
    by_cases hy1 : y.toNat = 1
    · have hd4 : ((y.toNat : Int) == 1) = true := by rw [beq_iff_eq]; omega
      have H : Hid (BytesPost3 5 R.1 (R.2.1 : Nat) (R.2.2 : Nat) w (.returned (.tuple #[v, .int .i64 ((k : Int) + 2), .int .i64 0])) wr) := Lib.hid (by
        rw [← HG.out, HX.out, HY.out, rdO_one hx0 hy1]
        unfold glO
        rw [if_pos rfl]
        show BytesPost3 5 (P ++ []) ((k + 2 : Nat) : Int) 0 w _ wr
        rw [List.append_nil]
        exact bytes_post3 hown HB.out)
      clear HE hx0
      go_wp2
      go_ret3
      exact H.out
    have hd4 : ((y.toNat : Int) == 1) = false := by rw [beq_eq_false_iff_ne]; omega
    by_cases hy2 : y.toNat = 255
    · have hd5 : ((y.toNat : Int) != 255) = false := by rw [bne_eq_false_iff_eq]; omega
      have HN : Hid (glO (P ++ [0]) (k + 2) (rdO (l.drop (k + 2))) = R) := Lib.hid (by rw [← HG.out, HX.out, HY.out, rdO_zero hx0 hy2, glO_add])
      have HPL2 : Hid ((P ++ [(0 : UInt8)]).length ≤ k + 2) := Lib.hid (by rw [List.length_append]; have := HPL.out; simp; omega)
      clear HE hx0
      go_wp2_with (at_builtin; go_must (refine wpList_append_reads _ rfl (.tmp 50) (.tmp 51) rfl Tryd.u8s' w.heap.size v P.length (u8s P) rfl (hown.alloc _) (wr.heap.size + 1) (some ⟨wr.heap.size, 0, none⟩) 1 1 (u8s [0]) rfl (by exact reads_lit wr _ [0] _ _ rfl) (u8s_one _) (by have := HPL.out; unfold maxLen; omega) (by have := HPL.out; omega) (by have := HB.out.size; simp; omega) ?_); intro v1 w1 hown1 hg1 hat1; have HB1 := Lib.hid (below_app (HB.out.alloc HB.out.size (.cells #[.int .u8 0] 5)) (hown.alloc _) hg1 (by have := HB.out.size; simp; omega) (Nat.le_refl _)); rw [← u8s_append] at hown1; have HO1 := Lib.hid hown1; clear hown1 hg1 hat1)
      have hO1 : w1.ownsRow w.heap.size 5 1 v1 (P ++ [(0 : UInt8)]).length (u8s (P ++ [(0 : UInt8)])) := by
        have := HO1.out
        rw [show (P ++ [(0 : UInt8)]).length = P.length + 1 from by simp]; exact this
      clear HO1
      go_roundw
      case rel => exact ⟨k + 2, P ++ [0], by omega, by go_num, HPL2, HN, hO1, HB1⟩
      case measure => simp [intOf]; omega
    · have hd5 : ((y.toNat : Int) != 255) = true := by rw [bne_iff_ne]; omega
      have H := Lib.hid (HE.out 11 (by decide) (by rw [← HG.out, HX.out, HY.out, rdO_form hx0 hy1 hy2]; rfl))
      clear HE hx0
      go_wp2
      go_ret3
      exact H.out

end Go.Proofs.YtbcljgcilbfblaaDoor
