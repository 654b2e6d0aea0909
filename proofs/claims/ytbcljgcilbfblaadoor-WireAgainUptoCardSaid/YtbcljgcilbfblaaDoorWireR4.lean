/-
  The reference's Ordered, Sum, Sealed, walked.
-/
import Derived.Test.YtbcljgcilbfblaaDoorWireR3
namespace Go.Proofs.YtbcljgcilbfblaaDoor
open Go.RowKit

set_option maxRecDepth 100000 in
set_option maxHeartbeats 1000000 in
theorem rOrdered_any (l : List UInt8) (A : Option Addr) (n c : Nat) (w : World) (hn : n ≤ 70368744177000) (hr : RB w w.heap.size A n l) :
    Calls Tryd.prog 38 #[.slice A n c] w (BytesPost 5 (ordB l) w) := by
  have HL := Lib.hid hr.len
  have HR : Hid (∀ w', Below w.heap.size w w' → RB w' w'.heap.size A n l) := Lib.hid fun w' h => hr.later h
  have HF : Hid (∀ k, ((l.take k).flatMap ordC).length ≤ 140737488354000) := Lib.hid fun k => by
    have := ordF_len (l.take k)
    have h2 : (l.take k).length ≤ l.length := by rw [List.length_take]; omega
    have h3 := HL.out
    omega
  clear hr
  go_enter Tryd.func38, Tryd.ntmps38
  go_wp2
  go_loopw [3, 4] (fun v i wr => ∃ (k : Nat) (P : List UInt8), k ≤ n ∧ i = .int .i64 k ∧ Hid (P = (l.take k).flatMap ordC) ∧ wr.ownsRow w.heap.size 5 1 v P.length (u8s P) ∧ Hid (Below w.heap.size w wr)) (fun _ i _ => n - (intOf i).toNat)
  case atStart => exact ⟨0, [], Nat.zero_le _, rfl, Lib.hid rfl, own_nil _ _ _ _, Lib.hid (Below.refl _ _)⟩
  case round =>
    obtain ⟨k, P, hk, rfl, HP, hown, HB⟩ := hrel
    obtain ⟨v, hv⟩ : ∃ v, v = u3 := ⟨_, rfl⟩
    rw [← hv] at hown ⊢
    clear hv
    have HPL : Hid (P.length ≤ 140737488354000) := Lib.hid (by rw [HP.out]; exact HF.out k)
    by_cases hlt : k < n
    case neg =>
      have HE : Hid (P ++ [0, 1] = ordB l) := Lib.hid (by rw [HP.out, take_all (by have := HL.out; omega)]; rfl)
      go_wp2_with (at_builtin; go_must (refine wpList_append_reads _ rfl (.tmp 26) (.tmp 27) rfl Tryd.u8s' w.heap.size v P.length (u8s P) rfl (hown.alloc _) (wr.heap.size + 1) (some ⟨wr.heap.size, 0, none⟩) 2 2 (u8s [0, 1]) rfl (by exact reads_lit wr _ [0, 1] _ _ rfl) (u8s_one _) (by have := HPL.out; unfold maxLen; omega) (by have := HPL.out; omega) (by have := HB.out.size; simp; omega) ?_); intro v1 w1 hown1 hg1 hat1)
      go_ret
      have hB : w.heap.size ≤ (wr.alloc (.cells #[.int .u8 0, .int .u8 1] 5)).heap.size := by have := HB.out.size; simp; omega
      have HB1 := below_app (HB.out.alloc HB.out.size _) (hown.alloc _) hg1 hB (Nat.le_refl _)
      rw [← u8s_append, HE.out] at hown1
      exact bytes_post hown1 HB1
    obtain ⟨b, o, y, rfl, _, hy, hcy⟩ := (HR.out _ HB.out).at_ hlt
    have HY := Lib.hid (ordB_take hy)
    have HY0 := Lib.hid hy
    clear hy
    by_cases h0 : y.toNat = 0
    · have HN : Hid ((P ++ [y]) ++ [255] = (l.take (k + 1)).flatMap ordC) := Lib.hid (by
        rw [HY.out, HP.out]
        unfold ordC
        rw [if_pos h0, UInt8.toNat_inj.1 (show y.toNat = (0 : UInt8).toNat from h0)]; simp)
      have hd : ((y.toNat : Int) == 0) = true := by rw [beq_iff_eq]; omega
      have tok1 : True := trivial
      clear HY h0
      go_wp2_with (first
        | (at_builtin; have _t := tok1; go_must (refine wpList_append_reads _ rfl (.tmp 11) (.tmp 16) rfl Tryd.u8s' w.heap.size v P.length (u8s P) rfl (hown.alloc _) (wr.heap.size + 1) (some ⟨wr.heap.size, 0, none⟩) 1 1 (u8s [y]) rfl (by exact reads_lit wr _ [y] _ _ rfl) (u8s_one _) (by have := HPL.out; unfold maxLen; omega) (by have := HPL.out; omega) (by have := HB.out.size; simp; omega) ?_); intro v1 w1 hown1 hg1 hat1; clear tok1; have HB1 := Lib.hid (below_app (HB.out.alloc HB.out.size (.cells #[.int .u8 (y.toNat : Int)] 5)) (hown.alloc _) hg1 (by have := HB.out.size; simp; omega) (Nat.le_refl _)); rw [← u8s_append] at hown1; have HO1 := Lib.hid hown1; have hcy1 := (HR.out _ HB1.out).cell HY0.out; clear hown1 hg1 hat1)
        | (at_builtin; go_must (refine wpList_append_reads _ rfl (.tmp 23) (.tmp 24) rfl Tryd.u8s' w.heap.size v1 (P.length + 1) (u8s (P ++ [y])) rfl (HO1.out.alloc _) (w1.heap.size + 1) (some ⟨w1.heap.size, 0, none⟩) 1 1 (u8s [255]) rfl (by exact reads_lit w1 _ [255] _ _ rfl) (u8s_one _) (by have := HPL.out; unfold maxLen; omega) (by have := HPL.out; omega) (by have := HB1.out.size; simp; omega) ?_); intro v2 w2 hown2 hg2 hat2; have HB2 := Lib.hid (below_app (HB1.out.alloc HB1.out.size (.cells #[.int .u8 255] 5)) (HO1.out.alloc _) hg2 (by have := HB1.out.size; simp; omega) (Nat.le_refl _)); rw [← u8s_append] at hown2; have HO2 := Lib.hid hown2; clear hown2 hg2 hat2))
      have hO2 : w2.ownsRow w.heap.size 5 1 v2 ((P ++ [y]) ++ [255]).length (u8s ((P ++ [y]) ++ [255])) := by
        have := HO2.out
        have e : ((P ++ [y]) ++ [(255 : UInt8)]).length = P.length + 1 + 1 := by simp
        rw [e]; exact this
      clear HO2 HO1
      go_roundw
      case rel => exact ⟨k + 1, (P ++ [y]) ++ [255], by omega, by go_num, HN, hO2, HB2⟩
      case measure => simp [intOf]; omega
    · have HN : Hid (P ++ [y] = (l.take (k + 1)).flatMap ordC) := Lib.hid (by
        rw [HY.out, HP.out]
        unfold ordC
        rw [if_neg h0])
      have hd : ((y.toNat : Int) == 0) = false := by rw [beq_eq_false_iff_ne]; omega
      clear HY h0
      go_wp2_with (at_builtin; go_must (refine wpList_append_reads _ rfl (.tmp 11) (.tmp 16) rfl Tryd.u8s' w.heap.size v P.length (u8s P) rfl (hown.alloc _) (wr.heap.size + 1) (some ⟨wr.heap.size, 0, none⟩) 1 1 (u8s [y]) rfl (by exact reads_lit wr _ [y] _ _ rfl) (u8s_one _) (by have := HPL.out; unfold maxLen; omega) (by have := HPL.out; omega) (by have := HB.out.size; simp; omega) ?_); intro v1 w1 hown1 hg1 hat1; have HB1 := Lib.hid (below_app (HB.out.alloc HB.out.size (.cells #[.int .u8 (y.toNat : Int)] 5)) (hown.alloc _) hg1 (by have := HB.out.size; simp; omega) (Nat.le_refl _)); rw [← u8s_append] at hown1; have HO1 := Lib.hid hown1; have hcy1 := (HR.out _ HB1.out).cell HY0.out; clear hown1 hg1 hat1)
      have hO1 : w1.ownsRow w.heap.size 5 1 v1 (P ++ [y]).length (u8s (P ++ [y])) := by
        have := HO1.out
        rw [show (P ++ [y]).length = P.length + 1 from by simp]; exact this
      clear HO1
      go_roundw
      case rel => exact ⟨k + 1, P ++ [y], by omega, by go_num, HN, hO1, HB1⟩
      case measure => simp [intOf]; omega


theorem rStep_two (r c : Nat) (_hr : r < 4294967296) (_hc : c < 4294967296) : rStep (r ^^^ c) = (if (r % 2 != c % 2) = true then r / 2 ^^^ 2197175160 else r / 2) ^^^ (c / 2) := by
  unfold rStep
  have e1 : (r ^^^ c) >>> 1 = (r / 2) ^^^ (c / 2) := by
    rw [Nat.shiftRight_xor_distrib, Nat.shiftRight_eq_div_pow, Nat.shiftRight_eq_div_pow]
  have e2 : (r ^^^ c).testBit 0 = (r % 2 != c % 2) := by
    rw [Nat.testBit_xor, Nat.testBit_zero, Nat.testBit_zero]
    rcases Nat.mod_two_eq_zero_or_one r with h | h <;> rcases Nat.mod_two_eq_zero_or_one c with h' | h' <;> rw [h, h'] <;> rfl
  rw [e1, e2]
  by_cases h : (r % 2 != c % 2) = true
  · rw [if_pos h, if_pos h]; ac_rfl
  · rw [if_neg h, if_neg h, Nat.xor_zero]
theorem rIter_snoc (j x : Nat) : rIter (j + 1) x = rStep (rIter j x) := rIter_succ j x
theorem poly_walk (r : Nat) (h : r < 4294967296) : bits .xor .u32 ((r : Int)) 2197175160 = ((r ^^^ 2197175160 : Nat) : Int) := by
  rw [show (2197175160 : Int) = ((2197175160 : Nat) : Int) from rfl, u32_xor_nat _ _ h (by decide)]

set_option maxRecDepth 100000 in
set_option maxHeartbeats 2000000 in
theorem rSum_any (ks : List (List UInt8)) (A : Option Addr) (n c : Nat) (w : World) (hn : n ≤ 9223372036854775807) (hr : RBs w w.heap.size A n ks) :
    Calls Tryd.prog 41 #[.slice A n c] w fun e w' => e = .returned (.int .u32 (sumL ks.flatten)) ∧ w = w' := by
  have hlen := hr.len
  have HR := Lib.hid hr
  clear hr
  go_enter Tryd.func41, Tryd.ntmps41
  go_wp2
  go_loop [3, 4] (fun s i => ∃ k : Nat, k ≤ n ∧ i = .int .i64 k ∧ ∃ C : Nat, C < 4294967296 ∧ s = .int .u32 C ∧ Hid (C = crcL 4294967295 (ks.take k).flatten)) (fun _ i => n - (intOf i).toNat)
  case atStart => exact ⟨0, Nat.zero_le _, rfl, 4294967295, by omega, rfl, Lib.hid rfl⟩
  case round =>
    obtain ⟨k, hk, rfl, C, hC, rfl, HC⟩ := hrel
    by_cases hlt : k < n
    case neg =>
      have E : Hid ((4294967295 - (C : Int)) = (sumL ks.flatten : Int)) := Lib.hid (by
        have : C = crcL 4294967295 ks.flatten := by rw [HC.out, take_all (by omega)]
        unfold sumL
        rw [← this]; omega)
      have hw : IntKind.u32.wrap (4294967295 - (C : Int)) = 4294967295 - (C : Int) := by rw [IntKind.wrap_u32]; omega
      go_wp2
      go_ret
      exact ⟨by rw [← E.out]; rfl, rfl⟩
    obtain ⟨b, o, x, a, ck, rfl, hb, hx, hcell, hxc, hck, _, hrb⟩ := HR.out.at_ hlt
    have HX := Lib.hid hx
    clear hx
    go_wp2
    go_loop [3, 5] (fun s i => ∃ j : Nat, j ≤ x.length ∧ i = .int .i64 j ∧ ∃ D : Nat, D < 4294967296 ∧ s = .int .u32 D ∧ Hid (D = crcL C (x.take j))) (fun _ i => x.length - (intOf i).toNat)
    case atStart => exact ⟨0, Nat.zero_le _, rfl, C, hC, rfl, Lib.hid rfl⟩
    case round =>
      obtain ⟨j, hj, rfl, D, hD, rfl, HD⟩ := hrel
      by_cases hjl : j < x.length
      case neg =>
        have HN : Hid (D = crcL 4294967295 (ks.take (k + 1)).flatten) := Lib.hid (by
          rw [HD.out, take_all (by omega), HC.out, take_snoc HX.out, List.flatten_append, crcL_app]; simp)
        go_wp2
        go_round
        case rel => exact ⟨k + 1, by omega, by go_num, D, hD, rfl, HN⟩
        case measure => simp [intOf]; omega
      obtain ⟨b2, o2, y, rfl, hb2, hy, hcy⟩ := hrb.at_ hjl
      have HY := Lib.hid hy
      have hy8 := y.toNat_lt
      clear hy
      go_wp2
      go_loop [3, 6, 7] (fun s y' i => ∃ t : Nat, t ≤ 8 ∧ i = .int .i64 t ∧ ∃ E F : Nat, E < 4294967296 ∧ F < 256 ∧ s = .int .u32 E ∧ y' = .int .u8 F ∧ Hid (F = y.toNat / 2 ^ t) ∧ Hid (E ^^^ F = rIter t (D ^^^ y.toNat))) (fun _ _ i => 8 - (intOf i).toNat)
      case atStart => exact ⟨0, by omega, rfl, D, y.toNat, hD, hy8, rfl, rfl, Lib.hid (by simp), Lib.hid rfl⟩
      case round =>
        obtain ⟨t, ht, rfl, E, F, hE, hF, rfl, rfl, HF, HE⟩ := hrel
        by_cases htl : t < 8
        case neg =>
          obtain rfl : t = 8 := by omega
          have HN : Hid (E = crcL C (x.take (j + 1))) := Lib.hid (by
            have h0 : F = 0 := by rw [HF.out, Nat.div_eq_of_lt (by omega)]
            have h1 := HE.out
            rw [h0, Nat.xor_zero] at h1
            rw [take_snoc HY.out, crcL_snoc, ← HD.out, h1]
            rfl)
          have hd : decide ((8 : Int) < 8) = false := by decide
          go_wp2
          go_round
          case rel => exact ⟨j + 1, by omega, by go_num, E, hE, rfl, HN⟩
          case measure => simp [intOf]; omega
        have hd : decide ((t : Int) < 8) = true := decide_eq_true (by omega)
        have HE2 := Lib.hid (rStep_two E F hE (by omega))
        have HFW : Hid (F / 2 = y.toNat / 2 ^ (t + 1)) := Lib.hid (by rw [HF.out, Nat.pow_succ, Nat.div_div_eq_div_mul])
        have hw1 : IntKind.u32.wrap (F : Int) = (F : Int) := by rw [IntKind.wrap_u32]; omega
        have hpw := poly_walk (E / 2) (by omega)
        rw [Int.natCast_ediv] at hpw
        have hpx : (E / 2) ^^^ 2197175160 < 4294967296 := Nat.xor_lt_two_pow (n := 32) (by omega) (by omega)
        by_cases hodd : (E % 2 != F % 2) = true
        · have HN : Hid ((E / 2 ^^^ 2197175160) ^^^ (F / 2) = rIter (t + 1) (D ^^^ y.toNat)) := Lib.hid (by rw [rIter_snoc, ← HE.out, HE2.out, if_pos hodd])
          have hd2 : (((E : Int) % 2) != ((F : Int) % 2)) = true := by rw [bne_iff_ne] at hodd ⊢; omega
          clear hodd
          go_wp2
          go_round
          case rel => exact ⟨t + 1, by omega, by go_num, E / 2 ^^^ 2197175160, F / 2, hpx, by omega, by first | rfl | (rw [← hpw]; rfl), by rw [Int.natCast_ediv]; rfl, HFW, HN⟩
          case measure => simp [intOf]; omega
        · have HN : Hid ((E / 2) ^^^ (F / 2) = rIter (t + 1) (D ^^^ y.toNat)) := Lib.hid (by rw [rIter_snoc, ← HE.out, HE2.out, if_neg hodd])
          have hd2 : (((E : Int) % 2) != ((F : Int) % 2)) = false := by rw [bne_iff_ne] at hodd; rw [bne_eq_false_iff_eq]; omega
          clear hodd
          go_wp2
          go_round
          case rel => exact ⟨t + 1, by omega, by go_num, E / 2, F / 2, by omega, by omega, by rw [Int.natCast_ediv]; rfl, by rw [Int.natCast_ediv]; rfl, HFW, HN⟩
          case measure => simp [intOf]; omega

end Go.Proofs.YtbcljgcilbfblaaDoor
