/-
  The reference's ReadUint and ReadBytes, walked.
-/
import Derived.Test.YtbcljgcilbfblaaDoorWireR1
import Derived.Test.YtbcljgcilbfblaaDoorWireW9
namespace Go.Proofs.YtbcljgcilbfblaaDoor
open Go.RowKit

theorem ref_any (V U j x : Nat) (hj : j ≤ 9) (hx : j = 9 → x ≤ 1) (hU : U = 2 ^ (7 * j)) (hV : V < U) :
    ∃ Q S T : Nat, IntKind.u64.wrap ((U : Int) * ((x : Int) % 128)) = (Q : Int) ∧ IntKind.u64.wrap ((V : Int) + (Q : Int)) = (S : Int) ∧ IntKind.u64.wrap ((U : Int) * 128) = (T : Int) ∧ S = V + x % 128 * 2 ^ (7 * j) ∧ (j ≤ 8 → T = 2 ^ (7 * (j + 1)) ∧ S < T) := by
  by_cases h : j ≤ 8
  · obtain ⟨e1, e2, e3, e4, e5⟩ := ref_step V U j x h hU hV
    exact ⟨_, _, _, e1, e2, e3, rfl, fun _ => ⟨e5, e4⟩⟩
  · obtain rfl : j = 9 := by omega
    rw [show (2 : Nat) ^ (7 * 9) = 9223372036854775808 from by decide] at hU
    subst hU
    obtain ⟨e1, e2⟩ := ref_last V x (hx rfl) hV
    refine ⟨_, _, (IntKind.u64.wrap ((9223372036854775808 : Int) * 128)).toNat, e1, e2, ?_, rfl, fun h => absurd h (by omega)⟩
    decide

set_option maxRecDepth 100000 in
set_option maxHeartbeats 1000000 in
theorem rRu_in (l : List UInt8) (A : Option Addr) (n c k : Nat) (w : World) (hn : n ≤ 9223372036854775797) (hr : RB w w.heap.size A n l) (hk : k ≤ n) :
    Calls Tryd.prog 24 #[.slice A n c, .int .i64 k] w (RUPost (readU l k) w) := by
  have HO : Hid (outB n (k : Int) = false) := Lib.hid (outB_no (by omega) (by omega))
  have hl := hr.len
  have HR := Lib.hid hr
  have HL := Lib.hid hl
  clear hr hl
  go_enter Tryd.func24, Tryd.ntmps24
  go_wp2_with (go_at_call 45; go_must (refine (rOutside_any A n c k _).mono ?_); rintro e w0 ⟨rfl, rfl⟩; rw [HO.out])
  go_loop [7, 8, 9] (fun x y i => ∃ (V U j : Nat), Hid (V < U) ∧ Hid (U = 2 ^ (7 * j)) ∧ x = .int .u64 V ∧ y = .int .u64 U ∧ i = .int .i64 j ∧ j ≤ 9 ∧ k + j ≤ n ∧ Hid (rdU (l.drop (k + j)) j V = rdU (l.drop k) 0 0)) (fun _ _ i => n + 1 - (intOf i).toNat)
  case atStart => exact ⟨0, 1, 0, Lib.hid (by decide), Lib.hid rfl, rfl, rfl, rfl, by omega, by omega, Lib.hid rfl⟩
  case round =>
    obtain ⟨V, U, j, HV, HUU, rfl, rfl, rfl, hj9, hjn, HI⟩ := hrel
    have hd10 : decide ((j : Int) < 10) = true := decide_eq_true (by omega)
    by_cases hkj : k + j < n
    case neg =>
      have H : Hid (readU l k = (0, 0, 10)) := Lib.hid (readU_at (r := (0, 0, 10)) (by rw [HL.out]; exact hk) HI.out (by rw [List.drop_eq_nil_of_le (by rw [HL.out]; omega)]; rfl))
      go_wp2
      go_ret3
      rw [H.out]
      exact ⟨rfl, rfl⟩
    obtain ⟨b, o, x, eA, hb, hx, hcx⟩ := HR.out.at_ hkj
    subst eA
    have HC : Hid (l.drop (k + j) = x :: l.drop (k + (j + 1))) := Lib.hid (by
      obtain ⟨h1, h2⟩ := List.getElem?_eq_some_iff.1 hx
      rw [List.drop_eq_getElem_cons h1, h2]; rfl)
    have hx8 := x.toNat_lt
    clear hx
    have HK : Hid (k ≤ l.length) := Lib.hid (by rw [HL.out]; exact hk)
    have tail : Hid (∀ r, rdU (l.drop (k + j)) j V = r → readU l (k : Int) = if r.2.2 = 0 then (r.1, k + r.2.1, 0) else (0, 0, r.2.2)) := Lib.hid fun r h => readU_at HK.out HI.out h
    have HU : Hid (rdU (l.drop (k + j)) j V = if j = 9 ∧ 1 < x.toNat then (0, 0, 13) else if x.toNat < 128 then (if x.toNat = 0 ∧ 0 < j then (0, 0, 11) else (V + x.toNat % 128 * 2 ^ (7 * j), j + 1, 0)) else rdU (l.drop (k + (j + 1))) (j + 1) (V + x.toNat % 128 * 2 ^ (7 * j))) := Lib.hid (by rw [HC.out]; rfl)
    have hxw : IntKind.u64.wrap (x.toNat : Int) = (x.toNat : Int) := by rw [IntKind.wrap_u64]; omega
    by_cases hbig : j = 9 ∧ 1 < x.toNat
    · obtain ⟨rfl, h1⟩ := hbig
      have H : Hid (readU l k = (0, 0, 13)) := Lib.hid ((tail.out (0, 0, 13) (by rw [HU.out, if_pos ⟨rfl, h1⟩])).trans rfl)
      have hdx : decide ((1 : Int) < (x.toNat : Int)) = true := decide_eq_true (by omega)
      go_wp2
      go_ret3
      rw [H.out]
      exact ⟨rfl, rfl⟩
    obtain ⟨Q, S, T, q1, q2, q3, hS, hT⟩ := ref_any V U j x.toNat hj9 (fun h => by omega) HUU.out HV.out
    have HS := Lib.hid hS
    have HT := Lib.hid hT
    clear hS hT
    have HU2 : Hid (rdU (l.drop (k + j)) j V = if x.toNat < 128 then (if x.toNat = 0 ∧ 0 < j then (0, 0, 11) else (S, j + 1, 0)) else rdU (l.drop (k + (j + 1))) (j + 1) S) := Lib.hid (by rw [HU.out, if_neg hbig, HS.out])
    have hx128 : (0 : Int) ≤ (x.toNat : Int) := by omega
    have hguard : (((j : Int) == 9) = false) ∨ ((((j : Int) == 9) = true) ∧ decide ((1 : Int) < (x.toNat : Int)) = false) := by
      by_cases h : j = 9
      · exact .inr ⟨by rw [beq_iff_eq]; omega, decide_eq_false (by omega)⟩
      · exact .inl (by rw [beq_eq_false_iff_ne]; omega)
    clear hbig
    by_cases hx7 : x.toNat < 128
    · have hdx7 : decide ((x.toNat : Int) < 128) = true := decide_eq_true (by omega)
      by_cases h0 : x.toNat = 0
      · by_cases hj0 : j = 0
        · have H : Hid (readU l k = (S, k + (j + 1), 0)) := Lib.hid ((tail.out (S, j + 1, 0) (by rw [HU2.out, if_pos (by omega), if_neg (by omega)])).trans (by rw [if_pos rfl]))
          have hd0 : ((x.toNat : Int) == 0) = true := by rw [beq_iff_eq]; omega
          have hd1 : decide ((0 : Int) < (j : Int)) = false := decide_eq_false (by omega)
          have hd2 : decide (0 < j) = false := decide_eq_false (by omega)
          clear h0 hj0
          rcases hguard with h9 | ⟨h9, h9'⟩
          all_goals
            go_wp2
            go_ret3
            rw [H.out]
            refine ⟨?_, rfl⟩
            rw [show ((k + (j + 1) : Nat) : Int) = (k : Int) + j + 1 from by omega]; rfl
        · have H : Hid (readU l k = (0, 0, 11)) := Lib.hid ((tail.out (0, 0, 11) (by rw [HU2.out, if_pos (by omega), if_pos (by omega)])).trans rfl)
          have hd0 : ((x.toNat : Int) == 0) = true := by rw [beq_iff_eq]; omega
          have hd1 : decide ((0 : Int) < (j : Int)) = true := decide_eq_true (by omega)
          have hd2 : decide (0 < j) = true := decide_eq_true (by omega)
          clear h0 hj0
          rcases hguard with h9 | ⟨h9, h9'⟩
          all_goals
            go_wp2
            go_ret3
            rw [H.out]
            exact ⟨rfl, rfl⟩
      · have H : Hid (readU l k = (S, k + (j + 1), 0)) := Lib.hid ((tail.out (S, j + 1, 0) (by rw [HU2.out, if_pos (by omega), if_neg (by omega)])).trans (by rw [if_pos rfl]))
        have hd0 : ((x.toNat : Int) == 0) = false := by rw [beq_eq_false_iff_ne]; omega
        rcases hguard with h9 | ⟨h9, h9'⟩
        all_goals
          go_wp2
          go_ret3
          rw [H.out]
          refine ⟨?_, rfl⟩
          rw [show ((k + (j + 1) : Nat) : Int) = (k : Int) + j + 1 from by omega]; rfl
    · have hj8 : j ≤ 8 := by
        rcases hguard with h9 | ⟨h9, h9'⟩
        · rw [beq_eq_false_iff_ne] at h9; omega
        · have := of_decide_eq_false h9'; omega
      have hdx7 : decide ((x.toNat : Int) < 128) = false := decide_eq_false (by omega)
      have hd9 : ((j : Int) == 9) = false := by rw [beq_eq_false_iff_ne]; omega
      have HN : Hid (rdU (l.drop (k + (j + 1))) (j + 1) S = rdU (l.drop k) 0 0) := Lib.hid (by
        rw [← HI.out, HU2.out, if_neg (by omega)])
      clear hguard
      go_wp2
      go_round
      case rel => exact ⟨S, T, j + 1, Lib.hid (HT.out hj8).2, Lib.hid (HT.out hj8).1, rfl, rfl, by go_num, by omega, by omega, HN⟩
      case measure => simp [intOf]; omega

theorem rRu_any (l : List UInt8) (A : Option Addr) (n c : Nat) (a : Int) (w : World) (hn : n ≤ 9223372036854775797) (hr : RB w w.heap.size A n l) :
    Calls Tryd.prog 24 #[.slice A n c, .int .i64 a] w (RUPost (readU l a) w) := by
  by_cases h : a < 0 ∨ (n : Int) < a
  · exact rRu_out l A n c w a hr.len h
  · obtain ⟨k, rfl⟩ : ∃ k : Nat, a = (k : Int) := ⟨a.toNat, by omega⟩
    exact rRu_in l A n c k w hn hr (by omega)

set_option maxRecDepth 100000 in
set_option maxHeartbeats 2000000 in
theorem rRby_any (l : List UInt8) (A : Option Addr) (n c : Nat) (a most : Int) (w : World) (hs : Sl w A n c l) (hn : n ≤ 140737488355328) (hm : -9223372036854775808 ≤ most ∧ most < 9223372036854775808) :
    Calls Tryd.prog 36 #[.slice A n c, .int .i64 a, .int .i64 most] w (BytesPost3 5 (readBy l a most).1 ((readBy l a most).2.1 : Nat) ((readBy l a most).2.2 : Nat) w) := by
  have hl := hs.len
  have HR := Lib.hid hs.rb
  have HS := Lib.hid hs
  have HN : Hid (n ≤ 9223372036854775797) := Lib.hid (by omega)
  have hcap := hs.cap
  have hlim := hs.lim
  by_cases ho : outB n a = true
  · have HO := Lib.hid ho
    have H : Hid (BytesPost3 5 (readBy l a most).1 ((readBy l a most).2.1 : Nat) ((readBy l a most).2.2 : Nat) w (.returned (.tuple #[.slice none 0 0, .int .i64 0, .int .i64 1])) w) := Lib.hid (by
      unfold outB at ho
      simp at ho
      unfold readBy
      rw [if_pos (by omega)]
      exact bytes_none3 (Below.refl _ _))
    clear hs ho hl hcap hlim
    go_enter Tryd.func36, Tryd.ntmps36
    go_wp2_with (go_at_call 45; go_must (refine (rOutside_any A n c a _).mono ?_); rintro e w0 ⟨rfl, rfl⟩; rw [HO.out])
    go_ret3
    exact H.out
  have ho : outB n a = false := by simpa using ho
  have HO := Lib.hid ho
  have ha : 0 ≤ a ∧ a ≤ n := by unfold outB at ho; simp at ho; omega
  by_cases hmn : most < 0
  · have H : Hid (BytesPost3 5 (readBy l a most).1 ((readBy l a most).2.1 : Nat) ((readBy l a most).2.2 : Nat) w (.returned (.tuple #[.slice none 0 0, .int .i64 0, .int .i64 1])) w) := Lib.hid (by
      unfold readBy
      rw [if_pos (by omega)]
      exact bytes_none3 (Below.refl _ _))
    have hd : decide (most < 0) = true := decide_eq_true hmn
    clear hs ho hl hcap hlim ha hm hmn
    go_enter Tryd.func36, Tryd.ntmps36
    go_wp2_with (go_at_call 45; go_must (refine (rOutside_any A n c a _).mono ?_); rintro e w0 ⟨rfl, rfl⟩; rw [HO.out])
    go_ret3
    exact H.out
  have hd : decide (most < 0) = false := decide_eq_false hmn
  obtain ⟨M, rfl⟩ : ∃ M : Nat, most = (M : Int) := ⟨most.toNat, by omega⟩
  have hbase : readBy l a M = if (readU l a).2.2 ≠ 0 then ([], 0, (readU l a).2.2) else if (M : Int) < ((readU l a).1 : Int) then ([], 0, 13) else if l.length - (readU l a).2.1 < (readU l a).1 then ([], 0, 10) else (cutS l (readU l a).2.1 (readU l a).1, (readU l a).2.1 + (readU l a).1, 0) := by
    unfold readBy; rw [if_neg (by omega)]
  have hend := readU_end l a
  have hval := readU_val l a
  obtain ⟨v, hv⟩ : ∃ v, v = (readU l a).1 := ⟨_, rfl⟩
  obtain ⟨p, hp⟩ : ∃ p, p = (readU l a).2.1 := ⟨_, rfl⟩
  obtain ⟨k, hk⟩ : ∃ k, k = (readU l a).2.2 := ⟨_, rfl⟩
  rw [← hv, ← hp, ← hk] at hbase
  rw [← hp, ← hk] at hend
  rw [← hv] at hval
  have HU : Hid (RUPost (readU l a) w = RUPost (v, p, k) w) := Lib.hid (by rw [hv, hp, hk])
  clear hv hp hk hs ho ha
  by_cases hk0 : k = 0
  case neg =>
    have H : Hid (BytesPost3 5 (readBy l a M).1 ((readBy l a M).2.1 : Nat) ((readBy l a M).2.2 : Nat) w (.returned (.tuple #[.slice none 0 0, .int .i64 0, .int .i64 k])) w) := Lib.hid (by
      rw [hbase, if_pos hk0]
      exact bytes_none3 (Below.refl _ _))
    have hd2 : ((k : Int) != 0) = true := by rw [bne_iff_ne]; omega
    clear hbase hend hval hk0 hl hcap hlim hm hmn
    go_enter Tryd.func36, Tryd.ntmps36
    go_wp2_with (first
      | (go_at_call 45; go_must (refine (rOutside_any A n c a _).mono ?_); rintro e w0 ⟨rfl, rfl⟩; rw [HO.out])
      | (go_at_call 24; go_must (refine (rRu_any l A n c a _ HN.out HR.out).mono ?_); rw [HU.out]; rintro e w1 ⟨rfl, rfl⟩))
    go_ret3
    exact H.out
  subst hk0
  obtain ⟨hpn, ha0, hap⟩ := hend rfl
  rw [if_neg (by simp)] at hbase
  have XV := Lib.hid hval
  by_cases hbig : M < v
  · have H : Hid (BytesPost3 5 (readBy l a M).1 ((readBy l a M).2.1 : Nat) ((readBy l a M).2.2 : Nat) w (.returned (.tuple #[.slice none 0 0, .int .i64 0, .int .i64 13])) w) := Lib.hid (by
      rw [hbase, if_pos (by omega)]
      exact bytes_none3 (Below.refl _ _))
    have hd3 : decide ((M : Int) < (v : Int)) = true := decide_eq_true (by omega)
    have hd4 : decide (M < v) = true := decide_eq_true hbig
    have hM0 : (0 : Int) ≤ (M : Int) := by omega
    clear hbase hval hl hcap hlim hmn hbig hpn hap hend
    go_enter Tryd.func36, Tryd.ntmps36
    go_wp2_with (first
      | (go_at_call 45; go_must (refine (rOutside_any A n c a _).mono ?_); rintro e w0 ⟨rfl, rfl⟩; rw [HO.out])
      | (go_at_call 24; go_must (refine (rRu_any l A n c a _ HN.out HR.out).mono ?_); rw [HU.out]; rintro e w1 ⟨rfl, rfl⟩))
    go_ret3
    exact H.out
  rw [if_neg (by omega)] at hbase
  have hd3 : decide ((M : Int) < (v : Int)) = false := decide_eq_false (by omega)
  have hd4 : decide (M < v) = false := decide_eq_false hbig
  have hM0 : (0 : Int) ≤ (M : Int) := by omega
  by_cases htorn : n - p < v
  · have H : Hid (BytesPost3 5 (readBy l a M).1 ((readBy l a M).2.1 : Nat) ((readBy l a M).2.2 : Nat) w (.returned (.tuple #[.slice none 0 0, .int .i64 0, .int .i64 10])) w) := Lib.hid (by
      rw [hbase, if_pos (by omega)]
      exact bytes_none3 (Below.refl _ _))
    have hd5 : decide ((n : Int) - (p : Int) < (v : Int)) = true := decide_eq_true (by omega)
    have hpn2 : p ≤ n := by omega
    clear hbase hval hl hcap hlim hmn hbig hpn hap htorn hend
    go_enter Tryd.func36, Tryd.ntmps36
    go_wp2_with (first
      | (go_at_call 45; go_must (refine (rOutside_any A n c a _).mono ?_); rintro e w0 ⟨rfl, rfl⟩; rw [HO.out])
      | (go_at_call 24; go_must (refine (rRu_any l A n c a _ HN.out HR.out).mono ?_); rw [HU.out]; rintro e w1 ⟨rfl, rfl⟩))
    go_ret3
    exact H.out
  rw [if_neg (by omega)] at hbase
  have hd5 : decide ((n : Int) - (p : Int) < (v : Int)) = false := decide_eq_false (by omega)
  have hpv : p + v ≤ n := by omega
  have HB := Lib.hid hbase
  have XS : Hid ((cutS l p v).length = v) := Lib.hid (by unfold cutS; rw [List.length_take, List.length_drop]; omega)
  have hvb : v ≤ 140737488355328 := by omega
  have k7 : IntKind.i64.wrap ((p : Int) + (v : Int)) = (p : Int) + (v : Int) := i64_sum (by omega) (by omega)
  have k8 : p + v - p = v := by omega
  have HP : Hid (∀ z : Int, z = (p : Int) + (v : Int) → Calls Tryd.prog 48 #[.slice A n c, .int .i64 p, .int .i64 z] w (BytesPost 5 (cutS l p v) w)) := Lib.hid fun z hz => by
    have := part_any l A n c p (p + v) (p : Int) z rfl (by omega) w HS.out (by omega) (by omega) hn
    rwa [k8] at this
  clear hbase hval hl hlim hmn hbig hpn hap htorn hend k8
  go_enter Tryd.func36, Tryd.ntmps36
  go_wp2_with (first
    | (go_at_call 45; go_must (refine (rOutside_any A n c a _).mono ?_); rintro e w0 ⟨rfl, rfl⟩; rw [HO.out])
    | (go_at_call 24; go_must (refine (rRu_any l A n c a _ HN.out HR.out).mono ?_); rw [HU.out]; rintro e w1 ⟨rfl, rfl⟩)
    | (go_at_call 48; go_must (refine (HP.out _ (by first | rfl | exact k7 | omega)).mono ?_); rintro e w2 ⟨A2, c2, rfl, hO2, hb2⟩))
  go_ret3
  rw [HB.out]
  refine ⟨A2, c2, ?_, hO2, hb2⟩
  rw [XS.out]
  rw [show ((p + v : Nat) : Int) = (p : Int) + v from by omega]; rfl
end Go.Proofs.YtbcljgcilbfblaaDoor
