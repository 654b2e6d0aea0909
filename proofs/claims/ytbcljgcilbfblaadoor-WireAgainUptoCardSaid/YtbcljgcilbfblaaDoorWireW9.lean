/-
  wire.ReadBytes, walked.
-/
import Derived.Test.YtbcljgcilbfblaaDoorWireW7
import Derived.Test.YtbcljgcilbfblaaDoorWireP6
namespace Go.Proofs.YtbcljgcilbfblaaDoor
open Go.RowKit

set_option maxRecDepth 100000 in
set_option maxHeartbeats 2000000 in
theorem rby_any (l : List UInt8) (A : Option Addr) (n c : Nat) (a most : Int) (w : World) (hs : Sl w A n c l) (hn : n ≤ 140737488355328) (hm : -9223372036854775808 ≤ most ∧ most < 9223372036854775808) :
    Calls Tryd.prog 35 #[.slice A n c, .int .i64 a, .int .i64 most] w (BytesPost3 5 (readBy l a most).1 ((readBy l a most).2.1 : Nat) ((readBy l a most).2.2 : Nat) w) := by
  have hl := hs.len
  have HR := Lib.hid hs.rb
  have HS := Lib.hid hs
  have HN : Hid (n ≤ 9223372036854775797) := Lib.hid (by omega)
  have hcap := hs.cap
  have hlim := hs.lim
  by_cases ho : outB n a = true
  · have HO := Lib.hid ho
    have H : Hid (BytesPost3 5 (readBy l a most).1 ((readBy l a most).2.1 : Nat) ((readBy l a most).2.2 : Nat) w (.returned (.tuple #[.slice none 0 0, .int .i64 0, .int .i64 1])) w) := Lib.hid (by
      unfold outB at ho
      simp at ho
      unfold readBy
      rw [if_pos (by omega)]
      exact bytes_none3 (Below.refl _ _))
    clear hs ho hl hcap hlim
    go_enter Tryd.func35, Tryd.ntmps35
    go_wp2_with (go_at_call 18; go_must (refine (outside_any A n c a _).mono ?_); rintro e w0 ⟨rfl, rfl⟩; rw [HO.out])
    go_ret3
    exact H.out
  have ho : outB n a = false := by simpa using ho
  have HO := Lib.hid ho
  have ha : 0 ≤ a ∧ a ≤ n := by unfold outB at ho; simp at ho; omega
  by_cases hmn : most < 0
  · have H : Hid (BytesPost3 5 (readBy l a most).1 ((readBy l a most).2.1 : Nat) ((readBy l a most).2.2 : Nat) w (.returned (.tuple #[.slice none 0 0, .int .i64 0, .int .i64 1])) w) := Lib.hid (by
      unfold readBy
      rw [if_pos (by omega)]
      exact bytes_none3 (Below.refl _ _))
    have hd : decide (most < 0) = true := decide_eq_true hmn
    clear hs ho hl hcap hlim ha hm hmn
    go_enter Tryd.func35, Tryd.ntmps35
    go_wp2_with (go_at_call 18; go_must (refine (outside_any A n c a _).mono ?_); rintro e w0 ⟨rfl, rfl⟩; rw [HO.out])
    go_ret3
    exact H.out
  have hd : decide (most < 0) = false := decide_eq_false hmn
  obtain ⟨M, rfl⟩ : ∃ M : Nat, most = (M : Int) := ⟨most.toNat, by omega⟩
  have hbase : readBy l a M = if (readU l a).2.2 ≠ 0 then ([], 0, (readU l a).2.2) else if (M : Int) < ((readU l a).1 : Int) then ([], 0, 13) else if l.length - (readU l a).2.1 < (readU l a).1 then ([], 0, 10) else (cutS l (readU l a).2.1 (readU l a).1, (readU l a).2.1 + (readU l a).1, 0) := by
    unfold readBy; rw [if_neg (by omega)]
  have hend := readU_end l a
  have hval := readU_val l a
  obtain ⟨v, hv⟩ : ∃ v, v = (readU l a).1 := ⟨_, rfl⟩
  obtain ⟨p, hp⟩ : ∃ p, p = (readU l a).2.1 := ⟨_, rfl⟩
  obtain ⟨k, hk⟩ : ∃ k, k = (readU l a).2.2 := ⟨_, rfl⟩
  rw [← hv, ← hp, ← hk] at hbase
  rw [← hp, ← hk] at hend
  rw [← hv] at hval
  have HU : Hid (RUPost (readU l a) w = RUPost (v, p, k) w) := Lib.hid (by rw [hv, hp, hk])
  clear hv hp hk hs ho ha
  by_cases hk0 : k = 0
  case neg =>
    have H : Hid (BytesPost3 5 (readBy l a M).1 ((readBy l a M).2.1 : Nat) ((readBy l a M).2.2 : Nat) w (.returned (.tuple #[.slice none 0 0, .int .i64 0, .int .i64 k])) w) := Lib.hid (by
      rw [hbase, if_pos hk0]
      exact bytes_none3 (Below.refl _ _))
    have hd2 : ((k : Int) != 0) = true := by rw [bne_iff_ne]; omega
    clear hbase hend hval hk0 hl hcap hlim hm hmn
    go_enter Tryd.func35, Tryd.ntmps35
    go_wp2_with (first
      | (go_at_call 18; go_must (refine (outside_any A n c a _).mono ?_); rintro e w0 ⟨rfl, rfl⟩; rw [HO.out])
      | (go_at_call 9; go_must (refine (ru_any l A n c a _ HN.out HR.out).mono ?_); rw [HU.out]; rintro e w1 ⟨rfl, rfl⟩))
    go_ret3
    exact H.out
  subst hk0
  obtain ⟨hpn, ha0, hap⟩ := hend rfl
  rw [if_neg (by simp)] at hbase
  have XV := Lib.hid hval
  by_cases hbig : M < v
  · have H : Hid (BytesPost3 5 (readBy l a M).1 ((readBy l a M).2.1 : Nat) ((readBy l a M).2.2 : Nat) w (.returned (.tuple #[.slice none 0 0, .int .i64 0, .int .i64 13])) w) := Lib.hid (by
      rw [hbase, if_pos (by omega)]
      exact bytes_none3 (Below.refl _ _))
    have hd3 : decide ((M : Int) < (v : Int)) = true := decide_eq_true (by omega)
    have hd4 : decide (M < v) = true := decide_eq_true hbig
    have hM0 : (0 : Int) ≤ (M : Int) := by omega
    clear hbase hval hl hcap hlim hmn hbig hpn hap hend
    go_enter Tryd.func35, Tryd.ntmps35
    go_wp2_with (first
      | (go_at_call 18; go_must (refine (outside_any A n c a _).mono ?_); rintro e w0 ⟨rfl, rfl⟩; rw [HO.out])
      | (go_at_call 9; go_must (refine (ru_any l A n c a _ HN.out HR.out).mono ?_); rw [HU.out]; rintro e w1 ⟨rfl, rfl⟩))
    go_ret3
    exact H.out
  rw [if_neg (by omega)] at hbase
  have hd3 : decide ((M : Int) < (v : Int)) = false := decide_eq_false (by omega)
  have hd4 : decide (M < v) = false := decide_eq_false hbig
  have hM0 : (0 : Int) ≤ (M : Int) := by omega
  by_cases htorn : n - p < v
  · have H : Hid (BytesPost3 5 (readBy l a M).1 ((readBy l a M).2.1 : Nat) ((readBy l a M).2.2 : Nat) w (.returned (.tuple #[.slice none 0 0, .int .i64 0, .int .i64 10])) w) := Lib.hid (by
      rw [hbase, if_pos (by omega)]
      exact bytes_none3 (Below.refl _ _))
    have hd5 : decide ((n : Int) - (p : Int) < (v : Int)) = true := decide_eq_true (by omega)
    have hpn2 : p ≤ n := by omega
    clear hbase hval hl hcap hlim hmn hbig hpn hap htorn hend
    go_enter Tryd.func35, Tryd.ntmps35
    go_wp2_with (first
      | (go_at_call 18; go_must (refine (outside_any A n c a _).mono ?_); rintro e w0 ⟨rfl, rfl⟩; rw [HO.out])
      | (go_at_call 9; go_must (refine (ru_any l A n c a _ HN.out HR.out).mono ?_); rw [HU.out]; rintro e w1 ⟨rfl, rfl⟩))
    go_ret3
    exact H.out
  rw [if_neg (by omega)] at hbase
  have hd5 : decide ((n : Int) - (p : Int) < (v : Int)) = false := decide_eq_false (by omega)
  have hpv : p + v ≤ n := by omega
  have HB := Lib.hid hbase
  have XS : Hid ((cutS l p v).length = v) := Lib.hid (by unfold cutS; rw [List.length_take, List.length_drop]; omega)
  by_cases hcp : c = p
  · have hv0 : v = 0 := by omega
    subst hv0
    subst hcp
    have HE : Hid (RB w w.heap.size A 0 (cutS l c 0)) := Lib.hid (by unfold cutS; rw [List.take_zero]; exact RB.nil)
    have k1 : c + 0 - c = 0 := by omega
    have k2 : c - c = 0 := by omega
    clear hbase hval hl hlim hmn hbig hpn hap htorn hend
    go_enter Tryd.func35, Tryd.ntmps35
    go_wp2_with (first
      | (go_at_call 18; go_must (refine (outside_any A n c a _).mono ?_); rintro e w0 ⟨rfl, rfl⟩; rw [HO.out])
      | (go_at_call 9; go_must (refine (ru_any l A n c a _ HN.out HR.out).mono ?_); rw [HU.out]; rintro e w1 ⟨rfl, rfl⟩)
      | (go_at_call 22; go_must (refine (clone_any (cutS l c 0) A 0 0 _ (by omega) (fun _ => rfl) HE.out).mono ?_); rintro e w2 ⟨A2, c2, rfl, hO2, hb2⟩))
    go_ret3
    rw [HB.out]
    exact ⟨A2, c2, rfl, hO2, hb2⟩
  · have HE : Hid (RB w w.heap.size (A.map (·.add p)) v (cutS l p v)) := Lib.hid (by
      have := (HS.out.rb.drop (k := p) (cap := c) (by omega) hcap).take (m := v) (by omega)
      rwa [if_neg hcp] at this)
    have HA1 : Hid (A.map (·.add p) = none → c - p = 0) := Lib.hid fun h => by cases A with
      | none => have := HS.out.nil rfl; omega
      | some _ => cases h
    have k1 : p + v - p = v := by omega
    have hvb : v ≤ 140737488355328 := by omega
    clear hbase hval hl hlim hmn hbig hpn hap htorn hend
    go_enter Tryd.func35, Tryd.ntmps35
    go_wp2_with (first
      | (go_at_call 18; go_must (refine (outside_any A n c a _).mono ?_); rintro e w0 ⟨rfl, rfl⟩; rw [HO.out])
      | (go_at_call 9; go_must (refine (ru_any l A n c a _ HN.out HR.out).mono ?_); rw [HU.out]; rintro e w1 ⟨rfl, rfl⟩)
      | (go_at_call 22; go_must (refine (clone_any (cutS l p v) _ v (c - p) _ hvb HA1.out HE.out).mono ?_); rintro e w2 ⟨A2, c2, rfl, hO2, hb2⟩))
    go_ret3
    rw [HB.out]
    refine ⟨A2, c2, ?_, hO2, hb2⟩
    rw [show ((p + v : Nat) : Int) = (p : Int) + v from by omega]; rfl
end Go.Proofs.YtbcljgcilbfblaaDoor
