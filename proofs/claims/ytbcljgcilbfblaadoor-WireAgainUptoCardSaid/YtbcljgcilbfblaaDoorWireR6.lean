/-
  The reference's ReadFrame, walked.
-/
import Derived.Test.YtbcljgcilbfblaaDoorWireR5
namespace Go.Proofs.YtbcljgcilbfblaaDoor
open Go.RowKit

theorem rRframe_out (l : List UInt8) (A : Option Addr) (n c : Nat) (w : World) (a : Int) (hl : l.length = n) (h : outB n a = true) :
    Calls Tryd.prog 43 #[.slice A n c, .int .i64 a] w (BytesPost3 5 (readFA l a).1 ((readFA l a).2.1 : Nat) ((readFA l a).2.2 : Nat) w) := by
  have HO := Lib.hid h
  have H : Hid (BytesPost3 5 (readFA l a).1 ((readFA l a).2.1 : Nat) ((readFA l a).2.2 : Nat) w (.returned (.tuple #[.slice none 0 0, .int .i64 0, .int .i64 1])) w) := Lib.hid (by
    unfold outB at h
    simp at h
    unfold readFA
    rw [if_pos (by omega)]
    exact bytes_none3 (Below.refl _ _))
  clear hl h
  go_enter Tryd.func43, Tryd.ntmps43
  go_wp2_with (go_at_call 45; go_must (refine (rOutside_any A n c a _).mono ?_); rintro e w0 ⟨rfl, rfl⟩; rw [HO.out])
  go_ret3
  exact H.out

set_option maxRecDepth 100000 in
set_option maxHeartbeats 4000000 in
theorem rRframe_in (l : List UInt8) (A : Option Addr) (n c k : Nat) (w : World) (hs : Sl w A n c l) (hn : n ≤ 140737488355000) (hk : k ≤ n) :
    Calls Tryd.prog 43 #[.slice A n c, .int .i64 k] w (BytesPost3 5 (readF l k).1 ((readF l k).2.1 : Nat) ((readF l k).2.2 : Nat) w) := by
  have HO : Hid (outB n (k : Int) = false) := Lib.hid (outB_no (by omega) (by omega))
  have hl := hs.len
  have hcap := hs.cap
  have hlim := hs.lim
  have HS : Hid (∀ w', Below w.heap.size w w' → Sl w' A n c l) := Lib.hid fun w' h => hs.later h
  have HL := Lib.hid hl
  have NO : Hid (∀ (w9 : World) (e : Nat), Below w.heap.size w w9 → readF l k = ([], 0, e) → BytesPost3 5 (readF l k).1 ((readF l k).2.1 : Nat) ((readF l k).2.2 : Nat) w (.returned (.tuple #[.slice none 0 0, .int .i64 0, .int .i64 e])) w9) := Lib.hid fun w9 e hb h => by
    rw [h]; exact bytes_none3 hb
  have hbase : readF l k = if n < k + 8 then ([], 0, 10) else if isB l (k + 4) (sumL (cutF l k 4)) = false then ([], 0, 12) else if 1048576 < numF l k then ([], 0, 13) else if n < k + 8 + numF l k + 4 then ([], 0, 10) else if isB l (k + 8 + numF l k) (sumL (cutF l (k + 8) (numF l k))) = false then ([], 0, 12) else (cutF l (k + 8) (numF l k), k + 8 + numF l k + 4, 0) := by
    unfold readF; rw [hl]
  by_cases h8 : n < k + 8
  · have H := Lib.hid (NO.out w 10 (Below.refl _ _) (by rw [hbase, if_pos h8]))
    have hd : decide ((n : Int) - (k : Int) < 8) = true := decide_eq_true (by omega)
    clear hs hl hcap hlim hbase NO
    go_enter Tryd.func43, Tryd.ntmps43
    go_wp2_with (go_at_call 45; go_must (refine (rOutside_any A n c (k : Int) _).mono ?_); rintro e w0 ⟨rfl, rfl⟩; rw [HO.out])
    go_ret3
    exact H.out
  rw [if_neg h8] at hbase
  have hd : decide ((n : Int) - (k : Int) < 8) = false := decide_eq_false (by omega)
  -- the region of the first test
  have s1 : IntKind.i64.wrap ((k : Int) + 4) = (k : Int) + 4 := i64_sum (by omega) (by omega)
  have s2 : IntKind.i64.wrap ((k : Int) + 8) = (k : Int) + 8 := i64_sum (by omega) (by omega)
  have s3 : (0 : Int) ≤ (k : Int) + 4 := by omega
  have s4 : (k : Int) + 4 ≤ (c : Int) := by omega
  have s5 : ((k : Int) + 4).toNat = k + 4 := by omega
  have s6 : (k : Int) + 8 ≤ (c : Int) := by omega
  have s7 : ((k : Int) + 8).toNat = k + 8 := by omega
  have s8 : k ≤ k + 4 := by omega
  have s9 : k + 4 - k = 4 := by omega
  have s10 : k + 4 ≤ k + 8 := by omega
  have s11 : k + 8 - (k + 4) = 4 := by omega
  have s12 : c ≠ k := by omega
  have s13 : c ≠ k + 4 := by omega
  have s14 : (0 : Int) ≤ (k : Int) + 8 := by omega
  have hk8 : k + 8 ≤ n := by omega
  obtain ⟨S1, hS1⟩ : ∃ S, S = sumL (cutF l k 4) := ⟨_, rfl⟩
  have XS1 := Lib.hid hS1
  rw [← hS1] at hbase
  have HC1 : Hid (∀ w', Below w.heap.size w w' → Sl w' (A.map (·.add k)) 4 (c - k) (cutF l k 4)) := Lib.hid fun w' h => cut_sl (HS.out w' h) (by omega) (by omega)
  have HC2 : Hid (∀ w', Below w.heap.size w w' → Sl w' (A.map (·.add (k + 4))) 4 (c - (k + 4)) (cutF l (k + 4) 4)) := Lib.hid fun w' h => cut_sl (HS.out w' h) (by omega) (by omega)
  have HT1 : Hid ((lowB S1 == cutF l (k + 4) 4) = isB l (k + 4) S1) := Lib.hid (isB_same l (k + 4) S1)
  have HNB : Hid (big (cutS l k 4) = numF l k) := Lib.hid (big_four l k (by omega))
  obtain ⟨N, hN⟩ : ∃ N, N = numF l k := ⟨_, rfl⟩
  have XN := Lib.hid hN
  have hN32 : N < 4294967296 := by rw [hN]; exact numF_lt l k
  rw [← hN] at hbase
  clear hs hl hN hS1
  cases hb1 : isB l (k + 4) S1 with
  | false =>
    have XB := Lib.hid hb1
    have H : Hid (∀ w9, Below w.heap.size w w9 → BytesPost3 5 (readF l k).1 ((readF l k).2.1 : Nat) ((readF l k).2.2 : Nat) w (.returned (.tuple #[.slice none 0 0, .int .i64 0, .int .i64 12])) w9) := Lib.hid fun w9 hb => NO.out w9 12 hb (by rw [hbase, if_pos hb1])
    clear hbase NO hb1
    go_enter Tryd.func43, Tryd.ntmps43
    go_wp2_with (go_at_call 45; go_must (refine (rOutside_any A n c (k : Int) _).mono ?_); rintro e w0 ⟨rfl, rfl⟩; rw [HO.out])
    go_region_with (first
      | (go_at_call 49; refine (sealed_any (cutF l k 4) _ 4 (c - k) _ (HC1.out _ (by exact (Below.refl _ _).drew))).mono ?_; rintro e w1 hp; rw [← XS1.out] at hp; obtain ⟨A1, c1, rfl, hS1, _, hb1⟩ := BytesPost.at_ (n := 4) hp rfl; have HB1 := Lib.hid (show Below w.heap.size w w1 from ((Below.refl w.heap.size w).drew).trans hb1); have HS1 := Lib.hid hS1; clear hp hS1 hb1)
      | (go_at_call 50; refine (rSame_any (lowB S1) (cutF l (k + 4) 4) _ _ 4 _ 4 _ _ HS1.out.rb (HC2.out _ HB1.out).rb).mono ?_; rw [HT1.out, XB.out]; rintro e w2 ⟨rfl, rfl⟩))
    go_wp2
    go_ret3
    exact H.out _ HB1.out
  | true =>
    rw [hb1, if_neg (by decide)] at hbase
    have XB := Lib.hid hb1
    clear hb1
    have e2 : IntKind.i64.wrap (N : Int) = (N : Int) := i64_sum (by omega) (by omega)
    by_cases hbig : 1048576 < N
    · have H : Hid (∀ w9, Below w.heap.size w w9 → BytesPost3 5 (readF l k).1 ((readF l k).2.1 : Nat) ((readF l k).2.2 : Nat) w (.returned (.tuple #[.slice none 0 0, .int .i64 0, .int .i64 13])) w9) := Lib.hid fun w9 hb => NO.out w9 13 hb (by rw [hbase, if_pos hbig])
      have hd2 : decide ((1048576 : Int) < (N : Int)) = true := decide_eq_true (by omega)
      clear hbase NO hbig
      go_enter Tryd.func43, Tryd.ntmps43
      go_wp2_with (go_at_call 45; go_must (refine (rOutside_any A n c (k : Int) _).mono ?_); rintro e w0 ⟨rfl, rfl⟩; rw [HO.out])
      go_region_with (first
        | (go_at_call 49; refine (sealed_any (cutF l k 4) _ 4 (c - k) _ (HC1.out _ (by exact (Below.refl _ _).drew))).mono ?_; rintro e w1 hp; rw [← XS1.out] at hp; obtain ⟨A1, c1, rfl, hS1, _, hb1⟩ := BytesPost.at_ (n := 4) hp rfl; have HB1 := Lib.hid (show Below w.heap.size w w1 from ((Below.refl w.heap.size w).drew).trans hb1); have HS1 := Lib.hid hS1; clear hp hS1 hb1)
        | (go_at_call 50; refine (rSame_any (lowB S1) (cutF l (k + 4) 4) _ _ 4 _ 4 _ _ HS1.out.rb (HC2.out _ HB1.out).rb).mono ?_; rw [HT1.out, XB.out]; rintro e w2 ⟨rfl, rfl⟩))
      go_wp2_with (go_at_call 47; go_must (refine (number_any l A n c k 4 _ (HS.out _ HB1.out).rb (by omega) (by omega) (by omega)).mono ?_); rw [HNB.out, ← XN.out]; rintro e w2 ⟨rfl, rfl⟩)
      go_ret3
      exact H.out _ HB1.out
    rw [if_neg hbig] at hbase
    have hd2 : decide ((1048576 : Int) < (N : Int)) = false := decide_eq_false (by omega)
    have hN20 : N ≤ 1048576 := by omega
    by_cases htorn : n < k + 8 + N + 4
    · have H : Hid (∀ w9, Below w.heap.size w w9 → BytesPost3 5 (readF l k).1 ((readF l k).2.1 : Nat) ((readF l k).2.2 : Nat) w (.returned (.tuple #[.slice none 0 0, .int .i64 0, .int .i64 10])) w9) := Lib.hid fun w9 hb => NO.out w9 10 hb (by rw [hbase, if_pos htorn])
      have hd3 : decide ((n : Int) - (k : Int) - 8 < (N : Int) + 4) = true := decide_eq_true (by omega)
      clear hbase NO hbig htorn
      go_enter Tryd.func43, Tryd.ntmps43
      go_wp2_with (go_at_call 45; go_must (refine (rOutside_any A n c (k : Int) _).mono ?_); rintro e w0 ⟨rfl, rfl⟩; rw [HO.out])
      go_region_with (first
        | (go_at_call 49; refine (sealed_any (cutF l k 4) _ 4 (c - k) _ (HC1.out _ (by exact (Below.refl _ _).drew))).mono ?_; rintro e w1 hp; rw [← XS1.out] at hp; obtain ⟨A1, c1, rfl, hS1, _, hb1⟩ := BytesPost.at_ (n := 4) hp rfl; have HB1 := Lib.hid (show Below w.heap.size w w1 from ((Below.refl w.heap.size w).drew).trans hb1); have HS1 := Lib.hid hS1; clear hp hS1 hb1)
        | (go_at_call 50; refine (rSame_any (lowB S1) (cutF l (k + 4) 4) _ _ 4 _ 4 _ _ HS1.out.rb (HC2.out _ HB1.out).rb).mono ?_; rw [HT1.out, XB.out]; rintro e w2 ⟨rfl, rfl⟩))
      go_wp2_with (go_at_call 47; go_must (refine (number_any l A n c k 4 _ (HS.out _ HB1.out).rb (by omega) (by omega) (by omega)).mono ?_); rw [HNB.out, ← XN.out]; rintro e w2 ⟨rfl, rfl⟩)
      go_ret3
      exact H.out _ HB1.out
    rw [if_neg htorn] at hbase
    have hd3 : decide ((n : Int) - (k : Int) - 8 < (N : Int) + 4) = false := decide_eq_false (by omega)
    have t1 : IntKind.i64.wrap ((k : Int) + 8 + (N : Int)) = (k : Int) + 8 + (N : Int) := i64_sum (by omega) (by omega)
    have t2 : IntKind.i64.wrap ((k : Int) + 12) = (k : Int) + 12 := i64_sum (by omega) (by omega)
    have t3 : IntKind.i64.wrap ((k : Int) + 12 + (N : Int)) = (k : Int) + 12 + (N : Int) := i64_sum (by omega) (by omega)
    have t4 : (0 : Int) ≤ (k : Int) + 8 + (N : Int) := by omega
    have t5 : ((k : Int) + 8 + (N : Int)).toNat = k + 8 + N := by omega
    have t6 : ((k : Int) + 12 + (N : Int)).toNat = k + 12 + N := by omega
    have t7 : (k : Int) + 12 + (N : Int) ≤ (c : Int) := by omega
    have t8 : k + 8 + N ≤ k + 12 + N := by omega
    have t9 : k + 12 + N - (k + 8 + N) = 4 := by omega
    have t10 : c ≠ k + 8 + N := by omega
    have t11 : (0 : Int) ≤ (k : Int) + 12 + (N : Int) := by omega
    have HP : Hid (∀ (x : World) (z : Int), z = (k : Int) + 8 + (N : Int) → Below w.heap.size w x → ∀ y : Int, y = (k : Int) + 8 → Calls Tryd.prog 48 #[.slice A n c, .int .i64 y, .int .i64 z] x (BytesPost 5 (cutF l (k + 8) N) x)) := Lib.hid fun x z hz hx y hy => by
      have := part_any l A n c (k + 8) (k + 8 + N) y z (by omega) (by omega) x (HS.out x hx) (by omega) (by omega) (by omega)
      rwa [show k + 8 + N - (k + 8) = N from by omega] at this
    obtain ⟨B, hB⟩ : ∃ B, B = cutF l (k + 8) N := ⟨_, rfl⟩
    have hBN : B.length = N := by rw [hB]; unfold cutF; rw [List.length_take, List.length_drop, HL.out]; omega
    have HBN := Lib.hid hBN
    rw [← hB] at hbase HP
    obtain ⟨S2, hS2⟩ : ∃ S, S = sumL B := ⟨_, rfl⟩
    have XS2 := Lib.hid hS2
    rw [← hS2] at hbase
    have HC3 : Hid (∀ w', Below w.heap.size w w' → Sl w' (A.map (·.add (k + 8 + N))) 4 (c - (k + 8 + N)) (cutF l (k + 8 + N) 4)) := Lib.hid fun w' h => cut_sl (HS.out w' h) (by omega) (by omega)
    have HT2 : Hid ((lowB S2 == cutF l (k + 8 + N) 4) = isB l (k + 8 + N) S2) := Lib.hid (isB_same l (k + 8 + N) S2)
    have hcase : isB l (k + 8 + N) S2 = false ∨ isB l (k + 8 + N) S2 = true := by cases isB l (k + 8 + N) S2 <;> simp
    clear hB hS2 hBN hbig htorn
    rcases hcase with hb2 | hb2
    · have XB2 := Lib.hid hb2
      have H : Hid (∀ w9, Below w.heap.size w w9 → BytesPost3 5 (readF l k).1 ((readF l k).2.1 : Nat) ((readF l k).2.2 : Nat) w (.returned (.tuple #[.slice none 0 0, .int .i64 0, .int .i64 12])) w9) := Lib.hid fun w9 hb => NO.out w9 12 hb (by rw [hbase, if_pos hb2])
      clear hbase NO hb2
      go_enter Tryd.func43, Tryd.ntmps43
      go_wp2_with (go_at_call 45; go_must (refine (rOutside_any A n c (k : Int) _).mono ?_); rintro e w0 ⟨rfl, rfl⟩; rw [HO.out])
      go_region_with (first
        | (go_at_call 49; refine (sealed_any (cutF l k 4) _ 4 (c - k) _ (HC1.out _ (by exact (Below.refl _ _).drew))).mono ?_; rintro e w1 hp; rw [← XS1.out] at hp; obtain ⟨A1, c1, rfl, hS1, _, hb1⟩ := BytesPost.at_ (n := 4) hp rfl; have HB1 := Lib.hid (show Below w.heap.size w w1 from ((Below.refl w.heap.size w).drew).trans hb1); have HS1 := Lib.hid hS1; clear hp hS1 hb1)
        | (go_at_call 50; refine (rSame_any (lowB S1) (cutF l (k + 4) 4) _ _ 4 _ 4 _ _ HS1.out.rb (HC2.out _ HB1.out).rb).mono ?_; rw [HT1.out, XB.out]; rintro e w2 ⟨rfl, rfl⟩))
      clear HC1 HC2
      go_wp2_with (first
        | (go_at_call 47; go_must (refine (number_any l A n c k 4 _ (HS.out _ HB1.out).rb (by omega) (by omega) (by omega)).mono ?_); rw [HNB.out, ← XN.out]; rintro e w2 ⟨rfl, rfl⟩)
        | (go_at_call 48; go_must (refine (HP.out _ _ (by omega) HB1.out _ (by omega)).mono ?_); rintro e w3 hp; obtain ⟨A3, c3, rfl, hS3, hO3, hb3⟩ := hp.at_ HBN.out; have HB3 := Lib.hid (HB1.out.trans (hb3.mono HB1.out.size)); have HS3 := Lib.hid hS3; clear hp hS3 hO3 hb3))
      go_region_with (first
        | (go_at_call 49; refine (sealed_any B _ N c3 _ (HS3.out.later (by exact (Below.refl _ _).drew))).mono ?_; rintro e w4 hp; rw [← XS2.out] at hp; obtain ⟨A4, c4, rfl, hS4, _, hb4⟩ := BytesPost.at_ (n := 4) hp rfl; have HB4 := Lib.hid (show Below w.heap.size w w4 from HB3.out.trans ((((Below.refl w3.heap.size w3).drew).trans hb4).mono HB3.out.size)); have HS4 := Lib.hid hS4; clear hp hS4 hb4)
        | (go_at_call 50; refine (rSame_any (lowB S2) (cutF l (k + 8 + N) 4) _ _ 4 _ 4 _ _ HS4.out.rb (HC3.out _ HB4.out).rb).mono ?_; rw [HT2.out, XB2.out]; rintro e w5 ⟨rfl, rfl⟩))
      go_wp2
      go_ret3
      exact H.out _ HB4.out
    · have XB2 := Lib.hid hb2
      have H : Hid (readF l k = (B, k + 8 + N + 4, 0)) := Lib.hid (by rw [hbase, if_neg (by rw [hb2]; decide)])
      clear hbase NO hb2
      go_enter Tryd.func43, Tryd.ntmps43
      go_wp2_with (go_at_call 45; go_must (refine (rOutside_any A n c (k : Int) _).mono ?_); rintro e w0 ⟨rfl, rfl⟩; rw [HO.out])
      go_region_with (first
        | (go_at_call 49; refine (sealed_any (cutF l k 4) _ 4 (c - k) _ (HC1.out _ (by exact (Below.refl _ _).drew))).mono ?_; rintro e w1 hp; rw [← XS1.out] at hp; obtain ⟨A1, c1, rfl, hS1, _, hb1⟩ := BytesPost.at_ (n := 4) hp rfl; have HB1 := Lib.hid (show Below w.heap.size w w1 from ((Below.refl w.heap.size w).drew).trans hb1); have HS1 := Lib.hid hS1; clear hp hS1 hb1)
        | (go_at_call 50; refine (rSame_any (lowB S1) (cutF l (k + 4) 4) _ _ 4 _ 4 _ _ HS1.out.rb (HC2.out _ HB1.out).rb).mono ?_; rw [HT1.out, XB.out]; rintro e w2 ⟨rfl, rfl⟩))
      clear HC1 HC2
      go_wp2_with (first
        | (go_at_call 47; go_must (refine (number_any l A n c k 4 _ (HS.out _ HB1.out).rb (by omega) (by omega) (by omega)).mono ?_); rw [HNB.out, ← XN.out]; rintro e w2 ⟨rfl, rfl⟩)
        | (go_at_call 48; go_must (refine (HP.out _ _ (by omega) HB1.out _ (by omega)).mono ?_); rintro e w3 hp; obtain ⟨A3, c3, rfl, hS3, hO3, hb3⟩ := hp.at_ HBN.out; have HB3 := Lib.hid (HB1.out.trans (hb3.mono HB1.out.size)); have HS3 := Lib.hid hS3; have HO3 := Lib.hid (own_base hO3 HB1.out.size); clear hp hS3 hO3 hb3))
      go_region_with (first
        | (go_at_call 49; refine (sealed_any B _ N c3 _ (HS3.out.later (by exact (Below.refl _ _).drew))).mono ?_; rintro e w4 hp; rw [← XS2.out] at hp; obtain ⟨A4, c4, rfl, hS4, _, hb4⟩ := BytesPost.at_ (n := 4) hp rfl; have HB4 := Lib.hid (show Below w.heap.size w w4 from HB3.out.trans ((((Below.refl w3.heap.size w3).drew).trans hb4).mono HB3.out.size)); have HO4 := Lib.hid (HO3.out.later (show Below w3.heap.size w3 w4 from ((Below.refl w3.heap.size w3).drew).trans hb4)); have HS4 := Lib.hid hS4; clear hp hS4 hb4)
        | (go_at_call 50; refine (rSame_any (lowB S2) (cutF l (k + 8 + N) 4) _ _ 4 _ 4 _ _ HS4.out.rb (HC3.out _ HB4.out).rb).mono ?_; rw [HT2.out, XB2.out]; rintro e w5 ⟨rfl, rfl⟩))
      go_wp2
      go_ret3
      rw [H.out]
      refine ⟨A3, c3, ?_, HO4.out, HB4.out⟩
      rw [HBN.out, show ((k + 8 + N + 4 : Nat) : Int) = (k : Int) + 12 + (N : Int) from by omega]; rfl

theorem rRframe_any (l : List UInt8) (A : Option Addr) (n c : Nat) (a : Int) (w : World) (hs : Sl w A n c l) (hn : n ≤ 140737488355000) :
    Calls Tryd.prog 43 #[.slice A n c, .int .i64 a] w (BytesPost3 5 (readFA l a).1 ((readFA l a).2.1 : Nat) ((readFA l a).2.2 : Nat) w) := by
  by_cases h : outB n a = true
  · exact rRframe_out l A n c w a hs.len h
  · have h : outB n a = false := by simpa using h
    have ha : 0 ≤ a ∧ a ≤ n := by unfold outB at h; simp at h; omega
    obtain ⟨k, rfl⟩ : ∃ k : Nat, a = (k : Int) := ⟨a.toNat, by omega⟩
    have e : readFA l (k : Int) = readF l k := by unfold readFA; rw [if_neg (by have := hs.len; omega)]; rfl
    rw [e]
    exact rRframe_in l A n c k w hs hn (by omega)
end Go.Proofs.YtbcljgcilbfblaaDoor
