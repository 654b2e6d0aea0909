/-
  The statements' stand, walked.
-/
import Derived.Test.YtkkfiffgldhahaaDoorWireO2
namespace Go.Proofs.YtkkfiffgldhahaaDoor
open Go.RowKit

theorem mkW_n (i : Nat) : ((mkW i).toNat : Int) = 1 + (i : Int) % 250 := by
  have h := mkW_v i
  unfold u8v at h
  injection h
theorem tlW_n (i : Nat) : ((tlW i).toNat : Int) = 251 + (i : Int) % 5 := by
  have h := tlW_v i
  unfold u8v at h
  injection h

set_option maxRecDepth 100000 in
set_option maxHeartbeats 4000000 in
theorem stand_any (A A' : Option Addr) (n c c' : Nat) (w : World) (h : StandOK w A n A') (hn : n ≤ 100) :
    Calls Tryd.prog 38 #[.slice A n c, .slice A' (3 * n) c'] w fun e w' => e = .returned (.bool true) ∧ w = w' := by
  have H := Lib.hid h
  clear h
  go_enter Tryd.func38, Tryd.ntmps38
  go_wp2_with fail
  go_loop [5] (fun i => ∃ k : Nat, k ≤ n ∧ i = .int .i64 k) (fun i => n - (intOf i).toNat)
  case atStart => exact ⟨0, Nat.zero_le _, rfl⟩
  case round =>
    obtain ⟨k, hk, rfl⟩ := hrel
    by_cases hlt : k < n
    case neg =>
      have hd : decide ((k : Int) < (n : Int)) = false := decide_eq_false (by omega)
      go_wp2_with fail
      go_ret
      exact ⟨rfl, rfl⟩
    have hd : decide ((k : Int) < (n : Int)) = true := decide_eq_true (by omega)
    obtain ⟨b, o, b', o', L, a, ca, rfl, rfl, hL, _, _, hcell, hsl, h3⟩ := H.out k hlt
    obtain ⟨a0, c0, m0, _⟩ := h3 0 (by omega)
    obtain ⟨a1, c1, m1, _⟩ := h3 1 (by omega)
    obtain ⟨a2, c2, m2, _⟩ := h3 2 (by omega)
    have HSL := Lib.hid hsl
    have H3 := Lib.hid h3
    rw [Nat.add_zero] at m0
    have e0 : extW 0 = 1 := rfl
    have e1 : extW 1 = 2 := rfl
    have e2 : extW 2 = 70 := rfl
    rw [e0] at m0
    rw [e1] at m1
    rw [e2] at m2
    have i1 : (k : Int) < (n : Int) := by omega
    have i2 : (0 : Int) ≤ (k : Int) := by omega
    have i3 : (3 : Int) * (k : Int) < 3 * (n : Int) := by omega
    have i4 : (3 : Int) * (k : Int) + 1 < 3 * (n : Int) := by omega
    have i5 : (3 : Int) * (k : Int) + 2 < 3 * (n : Int) := by omega
    have MK := Lib.hid (mkW_n k)
    have TL := Lib.hid (tlW_n k)
    clear hsl h3 e0 e1 e2
    go_wp2_with fail
    clear m0 m1 m2
    go_loop [7] (fun i => ∃ d : Nat, d ≤ 3 ∧ i = .int .i64 ((3 * k + d : Nat) : Int)) (fun i => 3 * k + 3 - (intOf i).toNat)
    case atStart => exact ⟨0, by omega, by simp⟩
    case round =>
      obtain ⟨d, hd3, rfl⟩ := hrel
      by_cases hdl : d < 3
      case neg =>
        have hd2 : decide ((3 : Int) * (k : Int) + (d : Int) < 3 * (k : Int) + 3) = false := decide_eq_false (by omega)
        go_wp2_with fail
        go_round
        case rel => exact ⟨k + 1, by omega, by go_num⟩
        case measure => simp [intOf]; omega
      have hd2 : decide ((3 : Int) * (k : Int) + (d : Int) < 3 * (k : Int) + 3) = true := decide_eq_true (by omega)
      obtain ⟨a', c3, hm, hsm⟩ := H3.out d hdl
      obtain ⟨N, hN⟩ : ∃ N, N = extW d := ⟨_, rfl⟩
      have hN70 : N ≤ 70 := by rw [hN]; unfold extW; split <;> omega
      rw [← hN] at hm hsm
      have HSM := Lib.hid hsm
      have j1 : (3 : Int) * (k : Int) + (d : Int) < 3 * (n : Int) := by omega
      have j2 : (0 : Int) ≤ (3 : Int) * (k : Int) + (d : Int) := by omega
      clear hsm hN
      go_wp2_with fail
      go_loop [8] (fun i => ∃ j : Nat, j ≤ L + N ∧ i = .int .i64 j) (fun i => L + N - (intOf i).toNat)
      case atStart => exact ⟨0, by omega, rfl⟩
      case round =>
        obtain ⟨j, hj, rfl⟩ := hrel
        by_cases hjl : j < L + N
        case neg =>
          have hd4 : decide ((j : Int) < (L : Int) + (N : Int)) = false := decide_eq_false (by omega)
          go_wp2_with fail
          go_round
          case rel => exact ⟨d + 1, by omega, by go_num⟩
          case measure => simp [intOf]; omega
        have hd4 : decide ((j : Int) < (L : Int) + (N : Int)) = true := decide_eq_true (by omega)
        obtain ⟨bm, om, x, e', _, hx, hcx⟩ := HSM.out.rb.at_ hjl
        subst e'
        have j3 : (j : Int) < (L : Int) + (N : Int) := by omega
        have j4 : (0 : Int) ≤ (j : Int) := by omega
        by_cases hjL : j < L
        · have hd5 : decide ((L : Int) ≤ (j : Int)) = false := decide_eq_false (by omega)
          have hd6 : decide ((j : Int) < (L : Int)) = true := decide_eq_true (by omega)
          rw [List.getElem?_append_left (by rw [List.length_replicate]; exact hjL), List.getElem?_replicate, if_pos hjL] at hx
          injection hx with hx
          subst hx
          rw [MK.out] at hcx
          obtain ⟨bl, ol, y, e', _, hy, hcy⟩ := HSL.out.rb.at_ hjL
          subst e'
          rw [List.getElem?_replicate, if_pos hjL] at hy
          injection hy with hy
          subst hy
          rw [MK.out] at hcy
          have j5 : (j : Int) < (L : Int) := by omega
          go_wp2_with fail
          go_round
          case rel => exact ⟨j + 1, by omega, by go_num⟩
          case measure => simp [intOf]; omega
        · have hd5 : decide ((L : Int) ≤ (j : Int)) = true := decide_eq_true (by omega)
          have hd6 : decide ((j : Int) < (L : Int)) = false := decide_eq_false (by omega)
          rw [List.getElem?_append_right (by rw [List.length_replicate]; omega), List.length_replicate, List.getElem?_replicate, if_pos (by omega)] at hx
          injection hx with hx
          subst hx
          rw [TL.out] at hcx
          go_wp2_with fail
          go_round
          case rel => exact ⟨j + 1, by omega, by go_num⟩
          case measure => simp [intOf]; omega

end Go.Proofs.YtkkfiffgldhahaaDoor
