/-
  wire.ReadUint, walked.
-/
import Derived.Test.YtbcljgcilbfblaaDoorWireW5
namespace Go.Proofs.YtbcljgcilbfblaaDoor
open Go.RowKit

def RUPost (r : Nat × Nat × Nat) (w : World) (e : Ending) (w' : World) : Prop := e = .returned (.tuple #[.int .u64 r.1, .int .i64 r.2.1, .int .i64 r.2.2]) ∧ w = w'

set_option maxRecDepth 100000 in
set_option maxHeartbeats 400000 in
theorem ru_out (l : List UInt8) (A : Option Addr) (n c : Nat) (w : World) (a : Int) (hl : l.length = n) (h : a < 0 ∨ (n : Int) < a) :
    Calls Tryd.prog 9 #[.slice A n c, .int .i64 a] w (RUPost (readU l a) w) := by
  have HO : Hid (outB n a = true) := Lib.hid (by rcases h with h | h <;> simp [outB, h])
  have H : Hid (readU l a = (0, 0, 1)) := Lib.hid (by unfold readU; rw [if_pos (by omega)])
  clear h hl
  go_enter Tryd.func9, Tryd.ntmps9
  go_wp2_with (go_at_call 18; go_must (refine (outside_any A n c a _).mono ?_); rintro e w0 ⟨rfl, rfl⟩; rw [HO.out])
  go_ret3
  rw [H.out]
  exact ⟨rfl, rfl⟩

set_option maxRecDepth 100000 in
set_option maxHeartbeats 1000000 in
theorem ru_in (l : List UInt8) (A : Option Addr) (n c k : Nat) (w : World) (hn : n ≤ 9223372036854775797) (hr : RB w w.heap.size A n l) (hk : k ≤ n) :
    Calls Tryd.prog 9 #[.slice A n c, .int .i64 k] w (RUPost (readU l k) w) := by
  have HO : Hid (outB n (k : Int) = false) := Lib.hid (outB_no (by omega) (by omega))
  have hl := hr.len
  have HR := Lib.hid hr
  have HL := Lib.hid hl
  clear hr hl
  go_enter Tryd.func9, Tryd.ntmps9
  go_wp2_with (go_at_call 18; go_must (refine (outside_any A n c k _).mono ?_); rintro e w0 ⟨rfl, rfl⟩; rw [HO.out])
  go_loop [7, 8] (fun x i => ∃ (V j : Nat), Hid (V < 2 ^ (7 * j)) ∧ x = .int .u64 V ∧ i = .int .i64 j ∧ j ≤ 9 ∧ k + j ≤ n ∧ Hid (rdU (l.drop (k + j)) j V = rdU (l.drop k) 0 0)) (fun _ i => n + 1 - (intOf i).toNat)
  case atStart => exact ⟨0, 0, Lib.hid (by decide), rfl, rfl, by omega, by omega, Lib.hid rfl⟩
  case round =>
    obtain ⟨V, j, HV, rfl, rfl, hj9, hjn, HI⟩ := hrel
    by_cases hkj : k + j < n
    case neg =>
      have H : Hid (readU l k = (0, 0, 10)) := Lib.hid (readU_at (r := (0, 0, 10)) (by rw [HL.out]; exact hk) HI.out (by rw [List.drop_eq_nil_of_le (by rw [HL.out]; omega)]; rfl))
      go_wp2
      go_ret3
      rw [H.out]
      exact ⟨rfl, rfl⟩
    obtain ⟨b, o, x, eA, hb, hx, hcx⟩ := HR.out.at_ hkj
    subst eA
    have HC : Hid (l.drop (k + j) = x :: l.drop (k + (j + 1))) := Lib.hid (by
      obtain ⟨h1, h2⟩ := List.getElem?_eq_some_iff.1 hx
      rw [List.drop_eq_getElem_cons h1, h2]; rfl)
    have hx8 := x.toNat_lt
    clear hx
    have HK : Hid (k ≤ l.length) := Lib.hid (by rw [HL.out]; exact hk)
    have tail : Hid (∀ r, rdU (l.drop (k + j)) j V = r → readU l (k : Int) = if r.2.2 = 0 then (r.1, k + r.2.1, 0) else (0, 0, r.2.2)) := Lib.hid fun r h => readU_at HK.out HI.out h
    have HU : Hid (rdU (l.drop (k + j)) j V = if j = 9 ∧ 1 < x.toNat then (0, 0, 13) else if x.toNat < 128 then (if x.toNat = 0 ∧ 0 < j then (0, 0, 11) else (V + x.toNat % 128 * 2 ^ (7 * j), j + 1, 0)) else rdU (l.drop (k + (j + 1))) (j + 1) (V + x.toNat % 128 * 2 ^ (7 * j))) := Lib.hid (by rw [HC.out]; rfl)
    by_cases h9 : j = 9
    · subst h9
      have HV63 : Hid (V < 2 ^ 63) := Lib.hid HV.out
      by_cases h1 : 1 < x.toNat
      · have H : Hid (readU l k = (0, 0, 13)) := Lib.hid ((tail.out (0, 0, 13) (by rw [HU.out, if_pos ⟨rfl, h1⟩])).trans rfl)
        go_wp2
        go_ret3
        rw [H.out]
        exact ⟨rfl, rfl⟩
      by_cases h0 : x.toNat = 0
      · have H : Hid (readU l k = (0, 0, 11)) := Lib.hid ((tail.out (0, 0, 11) (by rw [HU.out, if_neg (by omega), if_pos (by omega), if_pos (by omega)])).trans rfl)
        go_wp2
        go_ret3
        rw [H.out]
        exact ⟨rfl, rfl⟩
      · have H : Hid (readU l k = (V + x.toNat % 128 * 2 ^ (7 * 9), k + 10, 0)) := Lib.hid ((tail.out (V + x.toNat % 128 * 2 ^ (7 * 9), 10, 0) (by rw [HU.out, if_neg (by omega), if_pos (by omega), if_neg (by omega)])).trans (by rw [if_pos rfl]))
        have HE := Lib.hid (rd_last V x (by omega) HV63.out)
        have hd0 : ((x.toNat : Int) == 0) = false := by rw [beq_eq_false_iff_ne]; omega
        go_wp2
        go_ret3
        rw [H.out]
        refine ⟨?_, rfl⟩
        rw [← HE.out]
        rw [show ((k + 10 : Nat) : Int) = (k : Int) + 9 + 1 from by omega]; rfl
    · have hj8 : j ≤ 8 := by omega
      have hd9 : ((j : Int) == 9) = false := by rw [beq_eq_false_iff_ne]; omega
      have HE := Lib.hid (rd_step V j x hj8 HV.out)
      by_cases hx7 : x.toNat < 128
      · by_cases h0 : x.toNat = 0
        · by_cases hj0 : j = 0
          · have H : Hid (readU l k = (V + x.toNat % 128 * 2 ^ (7 * j), k + (j + 1), 0)) := Lib.hid ((tail.out (V + x.toNat % 128 * 2 ^ (7 * j), j + 1, 0) (by rw [HU.out, if_neg (by omega), if_pos (by omega), if_neg (by omega)])).trans (by rw [if_pos rfl]))
            have hd0 : ((x.toNat : Int) == 0) = true := by rw [beq_iff_eq]; omega
            have hd1 : decide (0 < j) = false := decide_eq_false (by omega)
            clear h0 hj0
            go_wp2
            go_ret3
            rw [H.out]
            refine ⟨?_, rfl⟩
            rw [← HE.out]
            rw [show ((k + (j + 1) : Nat) : Int) = (k : Int) + j + 1 from by omega]; rfl
          · have H : Hid (readU l k = (0, 0, 11)) := Lib.hid ((tail.out (0, 0, 11) (by rw [HU.out, if_neg (by omega), if_pos (by omega), if_pos (by omega)])).trans rfl)
            have hj1 : 0 < j := by omega
            go_wp2
            go_ret3
            rw [H.out]
            exact ⟨rfl, rfl⟩
        · have H : Hid (readU l k = (V + x.toNat % 128 * 2 ^ (7 * j), k + (j + 1), 0)) := Lib.hid ((tail.out (V + x.toNat % 128 * 2 ^ (7 * j), j + 1, 0) (by rw [HU.out, if_neg (by omega), if_pos (by omega), if_neg (by omega)])).trans (by rw [if_pos rfl]))
          have hd0 : ((x.toNat : Int) == 0) = false := by rw [beq_eq_false_iff_ne]; omega
          go_wp2
          go_ret3
          rw [H.out]
          refine ⟨?_, rfl⟩
          rw [← HE.out]
          rw [show ((k + (j + 1) : Nat) : Int) = (k : Int) + j + 1 from by omega]; rfl
      · have HN : Hid (rdU (l.drop (k + (j + 1))) (j + 1) (V + x.toNat % 128 * 2 ^ (7 * j)) = rdU (l.drop k) 0 0) := Lib.hid (by
          rw [← HI.out, HU.out, if_neg (by omega), if_neg (by omega)])
        go_wp2
        go_round
        case rel => exact ⟨_, j + 1, Lib.hid (rd_next V j x.toNat HV.out), by rw [HE.out], by go_num, by omega, by omega, HN⟩
        case measure => simp [intOf]; omega

theorem ru_any (l : List UInt8) (A : Option Addr) (n c : Nat) (a : Int) (w : World) (hn : n ≤ 9223372036854775797) (hr : RB w w.heap.size A n l) :
    Calls Tryd.prog 9 #[.slice A n c, .int .i64 a] w (RUPost (readU l a) w) := by
  by_cases h : a < 0 ∨ (n : Int) < a
  · exact ru_out l A n c w a hr.len h
  · obtain ⟨k, rfl⟩ : ∃ k : Nat, a = (k : Int) := ⟨a.toNat, by omega⟩
    exact ru_in l A n c k w hn hr (by omega)
end Go.Proofs.YtbcljgcilbfblaaDoor
