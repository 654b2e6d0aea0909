/-
  A family's name, walked: named of the program, name of the document's answer.
-/
import Derived.Test.YtkecjfeonenogaaWalkA
namespace Go.Proofs.Ytkecjfeonenogaa
open Go.RowKit

theorem parts5 (c : Nat) : c < 48 ∨ (48 ≤ c ∧ c ≤ 57) ∨ (58 ≤ c ∧ c < 95) ∨ c = 95 ∨ c = 96 ∨ (97 ≤ c ∧ c ≤ 122) ∨ 122 < c := by omega

set_option maxHeartbeats 1000000 in
theorem named_any (s : ByteArray) (w : World) (hs : s.size ≤ maxLen) :
    Calls Try.prog 10 #[.string s] w fun e w' => e = .returned (.bool (nameB s)) ∧ w = w' := by
  unfold maxLen at hs
  rcases (show s.size < 1 ∨ 32 < s.size ∨ (1 ≤ s.size ∧ s.size ≤ 32) from by omega) with h1 | h1 | ⟨h1, h2⟩
  · go_enter Try.func10, Try.ntmps10
    go_wp2_with (go_at_call 9; refine (outside_t _ _ _ _ (by omega)).mono ?_; rintro e w' ⟨rfl, rfl⟩)
    go_ret
    exact ⟨ret_bool (by rw [name_no s (by omega)]), rfl⟩
  · go_enter Try.func10, Try.ntmps10
    go_wp2_with (go_at_call 9; refine (outside_t _ _ _ _ (by omega)).mono ?_; rintro e w' ⟨rfl, rfl⟩)
    go_ret
    exact ⟨ret_bool (by rw [name_no s (by omega)]), rfl⟩
  have h0 : 0 < s.size := h1
  by_cases h3 : s[0].toNat < 97 ∨ 122 < s[0].toNat
  · have Hno := Lib.hid (name_bad s 0 h0 (okc_first _ (by omega)))
    go_enter Try.func10, Try.ntmps10
    go_wp2_with (first
      | (go_at_call 9; refine (outside_f _ _ _ _ (by omega) (by omega)).mono ?_; rintro e w' ⟨rfl, rfl⟩)
      | (go_at_call 13; refine (letter_f _ _ (by omega)).mono ?_; rintro e w' ⟨rfl, rfl⟩))
    go_ret
    exact ⟨ret_bool Hno.out.symm, rfl⟩
  have h4 : 97 ≤ s[0].toNat := by omega
  have h5 : s[0].toNat ≤ 122 := by omega
  clear h3
  go_enter Try.func10, Try.ntmps10
  go_wp2_with (first
      | (go_at_call 9; refine (outside_f _ _ _ _ (by omega) (by omega)).mono ?_; rintro e w' ⟨rfl, rfl⟩)
      | (go_at_call 13; refine (letter_t _ _ (by omega) (by omega)).mono ?_; rintro e w' ⟨rfl, rfl⟩))
  go_loop [16] (fun i => ∃ k : Nat, k ≤ s.size ∧ i = .int .i64 k ∧ Hid (upTo s k = true)) (fun i => s.size - (intOf i).toNat)
  case atStart => exact ⟨0, Nat.zero_le _, rfl, Lib.hid (upTo_zero s)⟩
  case round =>
    obtain ⟨k, hk, rfl, hu⟩ := hrel
    by_cases hlt : k < s.size
    case neg =>
      go_wp2
      go_ret
      have : k = s.size := by omega
      exact ⟨ret_bool (name_yes s h1 h2 (this ▸ hu.out)).symm, rfl⟩
    have HK : Hid (k = 0 → 97 ≤ s[k].toNat ∧ s[k].toNat ≤ 122) := Lib.hid (by
      intro hk0; subst hk0; exact ⟨h4, h5⟩)
    have HN : Hid (okc k s[k].toNat = false → nameB s = false) := Lib.hid (name_bad s k hlt)
    have HY : Hid (okc k s[k].toNat = true → upTo s (k + 1) = true) := Lib.hid (upTo_succ s k hlt hu.out)
    by_cases hl : s[k].toNat < 97 ∨ 122 < s[k].toNat
    · have HZ : Hid (k ≠ 0) := Lib.hid (fun h => by have := HK.out h; omega)
      rcases (show s[k].toNat < 48 ∨ (48 ≤ s[k].toNat ∧ s[k].toNat ≤ 57) ∨ (57 < s[k].toNat ∧ s[k].toNat ≠ 95) ∨ s[k].toNat = 95 from by omega) with hd | ⟨hd, hd'⟩ | ⟨hd, hd'⟩ | hd
      · have Hn := Lib.hid (HN.out (okc_none k _ (by omega) (by omega) (by omega)))
        have d1 : decide ((s[k].toNat : Int) < 48) = true := by simp; omega
        have d2 : ((s[k].toNat : Int) != 95) = true := by rw [bne_iff_ne]; omega
        go_wp2_with (go_at_call 13; refine (letter_f _ _ (by omega)).mono ?_; rintro e w' ⟨rfl, rfl⟩)
        go_ret
        exact ⟨ret_bool Hn.out.symm, rfl⟩
      · have Hy := Lib.hid (HY.out (okc_more k _ HZ.out (by omega)))
        have d1 : decide ((s[k].toNat : Int) < 48) = false := by simp; omega
        have d2 : decide (57 < (s[k].toNat : Int)) = false := by simp; omega
        go_wp2_with (go_at_call 13; refine (letter_f _ _ (by omega)).mono ?_; rintro e w' ⟨rfl, rfl⟩)
        go_round
        case rel => exact ⟨k + 1, by omega, by go_num, Hy⟩
        case measure => simp [intOf]; omega
      · have Hn := Lib.hid (HN.out (okc_none k _ (by omega) (by omega) (by omega)))
        have d1 : decide ((s[k].toNat : Int) < 48) = false := by simp; omega
        have d3 : decide (57 < (s[k].toNat : Int)) = true := by simp; omega
        have d2 : ((s[k].toNat : Int) != 95) = true := by rw [bne_iff_ne]; omega
        go_wp2_with (go_at_call 13; refine (letter_f _ _ (by omega)).mono ?_; rintro e w' ⟨rfl, rfl⟩)
        go_ret
        exact ⟨ret_bool Hn.out.symm, rfl⟩
      · have Hy := Lib.hid (HY.out (okc_more k _ HZ.out (by omega)))
        have d1 : decide ((s[k].toNat : Int) < 48) = false := by simp; omega
        have d3 : decide (57 < (s[k].toNat : Int)) = true := by simp; omega
        have d2 : ((s[k].toNat : Int) != 95) = false := by rw [bne_eq_false_iff_eq]; omega
        clear hd
        go_wp2_with (go_at_call 13; refine (letter_f _ _ (by omega)).mono ?_; rintro e w' ⟨rfl, rfl⟩)
        go_round
        case rel => exact ⟨k + 1, by omega, by go_num, Hy⟩
        case measure => simp [intOf]; omega
    · have Hy := Lib.hid (HY.out (okc_letter k _ (by omega) (by omega)))
      go_wp2_with (go_at_call 13; refine (letter_t _ _ (by omega) (by omega)).mono ?_; rintro e w' ⟨rfl, rfl⟩)
      go_round
      case rel => exact ⟨k + 1, by omega, by go_num, Hy⟩
      case measure => simp [intOf]; omega

set_option maxHeartbeats 1000000 in
theorem rname_any (s : ByteArray) (w : World) (hs : s.size ≤ maxLen) :
    Calls Try.prog 12 #[.string s] w fun e w' => e = .returned (.bool (nameB s)) ∧ w = w' := by
  unfold maxLen at hs
  rcases (show s.size < 1 ∨ 32 < s.size ∨ (1 ≤ s.size ∧ s.size ≤ 32) from by omega) with h1 | h1 | ⟨h1, h2⟩
  · go_enter Try.func12, Try.ntmps12
    go_wp2_with (go_at_call 11; refine (out_t _ _ _ _ (by omega)).mono ?_; rintro e w' ⟨rfl, rfl⟩)
    go_ret
    exact ⟨ret_bool (by rw [name_no s (by omega)]), rfl⟩
  · go_enter Try.func12, Try.ntmps12
    go_wp2_with (go_at_call 11; refine (out_t _ _ _ _ (by omega)).mono ?_; rintro e w' ⟨rfl, rfl⟩)
    go_ret
    exact ⟨ret_bool (by rw [name_no s (by omega)]), rfl⟩
  go_enter Try.func12, Try.ntmps12
  go_wp2_with (go_at_call 11; refine (out_f _ _ _ _ (by omega) (by omega)).mono ?_; rintro e w' ⟨rfl, rfl⟩)
  go_loop [3] (fun i => ∃ k : Nat, k ≤ s.size ∧ i = .int .i64 k ∧ Hid (upTo s k = true)) (fun i => s.size - (intOf i).toNat)
  case atStart => exact ⟨0, Nat.zero_le _, rfl, Lib.hid (upTo_zero s)⟩
  case round =>
    obtain ⟨k, hk, rfl, hu⟩ := hrel
    by_cases hlt : k < s.size
    case neg =>
      go_wp2
      go_ret
      have : k = s.size := by omega
      exact ⟨ret_bool (name_yes s h1 h2 (this ▸ hu.out)).symm, rfl⟩
    have HN : Hid (okc k s[k].toNat = false → nameB s = false) := Lib.hid (name_bad s k hlt)
    have HY : Hid (okc k s[k].toNat = true → upTo s (k + 1) = true) := Lib.hid (upTo_succ s k hlt hu.out)
    rcases (show s[k].toNat < 48 ∨ (48 ≤ s[k].toNat ∧ s[k].toNat ≤ 57) ∨ (57 < s[k].toNat ∧ s[k].toNat < 97 ∧ s[k].toNat ≠ 95) ∨ s[k].toNat = 95 ∨ (97 ≤ s[k].toNat ∧ s[k].toNat ≤ 122) ∨ 122 < s[k].toNat from by omega) with hd | ⟨hd, hd'⟩ | ⟨hd, hd', hd''⟩ | hd | ⟨hd, hd'⟩ | hd
    · have Hn := Lib.hid (HN.out (okc_none k _ (by omega) (by omega) (by omega)))
      have d0 : decide (97 ≤ (s[k].toNat : Int)) = false := by simp; omega
      have d1 : decide ((s[k].toNat : Int) < 48) = true := by simp; omega
      have d2 : ((s[k].toNat : Int) != 95) = true := by rw [bne_iff_ne]; omega
      by_cases hk0 : k = 0
      · subst hk0
        go_wp2
        go_ret
        exact ⟨ret_bool Hn.out.symm, rfl⟩
      · have d5 : ((k : Int) == 0) = false := by rw [beq_eq_false_iff_ne]; omega
        go_wp2
        go_ret
        exact ⟨ret_bool Hn.out.symm, rfl⟩
    · have d0 : decide (97 ≤ (s[k].toNat : Int)) = false := by simp; omega
      have d1 : decide ((s[k].toNat : Int) < 48) = false := by simp; omega
      have d3 : decide (57 < (s[k].toNat : Int)) = false := by simp; omega
      have d2 : ((s[k].toNat : Int) != 95) = true := by rw [bne_iff_ne]; omega
      by_cases hk0 : k = 0
      · subst hk0
        have Hn := Lib.hid (HN.out (okc_first _ (by omega)))
        go_wp2
        go_ret
        exact ⟨ret_bool Hn.out.symm, rfl⟩
      · have d5 : ((k : Int) == 0) = false := by rw [beq_eq_false_iff_ne]; omega
        have Hy := Lib.hid (HY.out (okc_more k _ hk0 (by omega)))
        go_wp2
        go_round
        case rel => exact ⟨k + 1, by omega, by go_num, Hy⟩
        case measure => simp [intOf]; omega
    · have Hn := Lib.hid (HN.out (okc_none k _ (by omega) (by omega) (by omega)))
      have d0 : decide (97 ≤ (s[k].toNat : Int)) = false := by simp; omega
      have d1 : decide ((s[k].toNat : Int) < 48) = false := by simp; omega
      have d3 : decide (57 < (s[k].toNat : Int)) = true := by simp; omega
      have d2 : ((s[k].toNat : Int) != 95) = true := by rw [bne_iff_ne]; omega
      by_cases hk0 : k = 0
      · subst hk0
        go_wp2
        go_ret
        exact ⟨ret_bool Hn.out.symm, rfl⟩
      · have d5 : ((k : Int) == 0) = false := by rw [beq_eq_false_iff_ne]; omega
        go_wp2
        go_ret
        exact ⟨ret_bool Hn.out.symm, rfl⟩
    · have d0 : decide (97 ≤ (s[k].toNat : Int)) = false := by simp; omega
      have d2 : ((s[k].toNat : Int) != 95) = false := by rw [bne_eq_false_iff_eq]; omega
      by_cases hk0 : k = 0
      · subst hk0
        have Hn := Lib.hid (HN.out (okc_first _ (by omega)))
        clear hd
        go_wp2
        go_ret
        exact ⟨ret_bool Hn.out.symm, rfl⟩
      · have d5 : ((k : Int) == 0) = false := by rw [beq_eq_false_iff_ne]; omega
        have Hy := Lib.hid (HY.out (okc_more k _ hk0 (by omega)))
        clear hd
        go_wp2
        go_round
        case rel => exact ⟨k + 1, by omega, by go_num, Hy⟩
        case measure => simp [intOf]; omega
    · have Hy := Lib.hid (HY.out (okc_letter k _ (by omega) (by omega)))
      have d0 : decide (97 ≤ (s[k].toNat : Int)) = true := by simp; omega
      have d1 : decide ((s[k].toNat : Int) ≤ 122) = true := by simp; omega
      go_wp2
      go_round
      case rel => exact ⟨k + 1, by omega, by go_num, Hy⟩
      case measure => simp [intOf]; omega
    · have Hn := Lib.hid (HN.out (okc_none k _ (by omega) (by omega) (by omega)))
      have d0 : decide (97 ≤ (s[k].toNat : Int)) = true := by simp; omega
      have d4 : decide ((s[k].toNat : Int) ≤ 122) = false := by simp; omega
      have d1 : decide ((s[k].toNat : Int) < 48) = false := by simp; omega
      have d3 : decide (57 < (s[k].toNat : Int)) = true := by simp; omega
      have d2 : ((s[k].toNat : Int) != 95) = true := by rw [bne_iff_ne]; omega
      by_cases hk0 : k = 0
      · subst hk0
        go_wp2
        go_ret
        exact ⟨ret_bool Hn.out.symm, rfl⟩
      · have d5 : ((k : Int) == 0) = false := by rw [beq_eq_false_iff_ne]; omega
        go_wp2
        go_ret
        exact ⟨ret_bool Hn.out.symm, rfl⟩
end Go.Proofs.Ytkecjfeonenogaa
