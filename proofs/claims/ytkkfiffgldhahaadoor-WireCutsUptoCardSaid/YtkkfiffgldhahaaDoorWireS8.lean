/-
  WireCuts, walked.
-/
import Derived.Test.YtkkfiffgldhahaaDoorWireS7
namespace Go.Proofs.YtkkfiffgldhahaaDoor
open Go.RowKit

theorem spot_cut (i : Int) (j : Nat) (hj : 0 < j) : ∃ J : Nat, J < j ∧ ((0 ≤ i.tmod (j : Int) ∧ i.tmod (j : Int) = (J : Int)) ∨ (i.tmod (j : Int) < 0 ∧ i.tmod (j : Int) + (j : Int) = (J : Int))) := by
  have h1 := Int.tmod_lt_of_pos i (b := (j : Int)) (by omega)
  have h2 : -(j : Int) < i.tmod (j : Int) := Int.lt_tmod_of_pos i (by omega)
  rcases Int.lt_or_le (i.tmod (j : Int)) 0 with h | h
  · exact ⟨(i.tmod (j : Int) + j).toNat, by omega, .inr ⟨h, by omega⟩⟩
  · exact ⟨(i.tmod (j : Int)).toNat, by omega, .inl ⟨h, by omega⟩⟩
theorem cut_case (v : Nat) (l : List UInt8) (k J n : Nat) (hk : k < 6) (hv : v < 18446744073709551616) (hl : l.length = n) (hn : n ≤ 1048576) (hJ : J < (wB v l k).length) :
    (wK k = 2 ∧ readU ((wB v l k).take J) 0 = (0, 0, 10)) ∨ (wK k = 6 ∧ readR ((wB v l k).take J) 0 = (0, 0, 10)) ∨ (wK k = 8 ∧ readFl ((wB v l k).take J) 0 = (0, 0, 10)) ∨ (wK k = 4 ∧ readBy ((wB v l k).take J) 0 (n : Int) = ([], 0, 10)) ∨ (wK k = 10 ∧ readO ((wB v l k).take J) 0 = ([], 0, 10)) ∨ (wK k = 13 ∧ readFA ((wB v l k).take J) 0 = ([], 0, 10)) := by
  subst hl
  match k, hk with
  | 0, _ => exact .inl ⟨rfl, readU_cut v J hv hJ⟩
  | 1, _ => exact .inr (.inl ⟨rfl, readR_cut _ J (by have : J < (risB (v / 2)).length := hJ; rwa [rTo_len8] at this)⟩)
  | 2, _ => exact .inr (.inr (.inl ⟨rfl, readFl_cut _ J (by have : J < (risB (9223372036854775807 - v / 2)).length := hJ; rwa [rTo_len8] at this)⟩))
  | 3, _ => exact .inr (.inr (.inr (.inl ⟨rfl, readBy_cut l J (by omega) hJ⟩)))
  | 4, _ => exact .inr (.inr (.inr (.inr (.inl ⟨rfl, readO_cut l J hJ⟩))))
  | 5, _ => exact .inr (.inr (.inr (.inr (.inr ⟨rfl, readFA_cut l J hn hJ⟩))))

set_option maxRecDepth 100000 in
set_option maxHeartbeats 8000000 in
theorem cuts_any (v : Nat) (l : List UInt8) (A : Option Addr) (n c : Nat) (z : Int) (w : World) (hv : v < 18446744073709551616) (hs : Sl w A n c l) (hn : n ≤ 1048576) (ht : TabAt 0 w) :
    Calls Tryd.prog 16 #[.int .u64 v, .slice A n c, .int .i64 z] w fun e w' => e = .returned (.bool true) ∧ Below w.heap.size w w' := by
  have HT : Hid (∀ w', Below w.heap.size w w' → TabAt 0 w') := Lib.hid fun w' h => ht.later h
  have HA : Hid (∀ w', Below w.heap.size w w' → Sl w' A n c l) := Lib.hid fun w' h => hs.later h
  have HL := Lib.hid hs.len
  have HV := Lib.hid hv
  clear hs ht hv
  go_enter Tryd.func16, Tryd.ntmps16
  go_wp2_with (go_at_call 44; go_must (refine (written_any v l A n c _ HV.out (HA.out _ (Below.refl _ _)) hn (HT.out _ (Below.refl _ _))).mono ?_); rintro e w1 ⟨b, o, cv, rfl, hbl, hit, hb1⟩; have HB1 := Lib.hid hb1; have HIT := Lib.hid hit; have HBL := Lib.hid hbl; clear hb1 hit hbl)
  go_loopw [8] (fun i wr => ∃ k : Nat, k ≤ 6 ∧ i = .int .i64 k ∧ Hid (Below w1.heap.size w1 wr)) (fun i _ => 6 - (intOf i).toNat)
  case atStart => exact ⟨0, by omega, rfl, Lib.hid (Below.refl _ _)⟩
  case round =>
    obtain ⟨k, hk, rfl, HW⟩ := hrel
    have HBW := Lib.hid (HB1.out.trans (HW.out.mono HB1.out.size))
    by_cases hlt : k < 6
    case neg =>
      have hd : decide ((k : Int) < 6) = false := decide_eq_false (by omega)
      go_wp2_with (go_at_call 18; go_must (refine (started_any _ (HT.out _ HBW.out)).mono ?_); rintro e w9 ⟨rfl, hb9⟩; have HB9 := Lib.hid (HBW.out.trans (hb9.mono HBW.out.size)); clear hb9)
      go_ret
      exact ⟨rfl, HB9.out⟩
    have hd : decide ((k : Int) < 6) = true := decide_eq_true (by omega)
    have hk6 : (k : Int) < 6 := by omega
    obtain ⟨IA, ic, hc1, hc2, hsl⟩ := HIT.out k hlt
    obtain ⟨J, hJ, hsign⟩ := spot_cut z (wB v l k).length (wB_pos v l k hlt)
    have hcase := cut_case v l k J n hlt HV.out HL.out hn hJ
    obtain ⟨B, hB⟩ : ∃ B, B = wB v l k := ⟨_, rfl⟩
    rw [← hB] at hc1 hsl hJ hsign hcase
    have hBL : B.length ≤ 2097200 := by rw [hB]; exact wB_len v l k hlt HV.out (by rw [HL.out]; exact hn)
    have hB0 : ((B.length : Int) == 0) = false := by rw [beq_eq_false_iff_ne]; omega
    have HSL := Lib.hid (hsl.later HW.out)
    have HSJ := Lib.hid (HSL.out.take (m := J) (by omega))
    have hcap := hsl.cap
    have hJc : (J : Int) ≤ (ic : Int) := by omega
    have hcr1 : wr.cell? ⟨b, o + k * 2, none⟩ = some (.slice IA B.length ic) := by rw [Nat.mul_comm]; exact (HW.out.cell (p := ⟨b, o + 2 * k, none⟩) HBL.out).trans hc1
    have hcr2 : wr.cell? ⟨b, o + k * 2 + 1, none⟩ = some (.int .i64 (wK k)) := by rw [show o + k * 2 + 1 = o + (2 * k + 1) from by omega]; exact (HW.out.cell (p := ⟨b, o + (2 * k + 1), none⟩) HBL.out).trans hc2
    clear hc1 hc2 hsl hB
    have HTW := Lib.hid (HT.out _ HBW.out)
    rcases hcase with ⟨hw, hq⟩ | ⟨hw, hq⟩ | ⟨hw, hq⟩ | ⟨hw, hq⟩ | ⟨hw, hq⟩ | ⟨hw, hq⟩
    all_goals
      rw [hw] at hcr2
      have HQ := Lib.hid hq
      clear hw hq
      rcases hsign with ⟨hneg, hJe⟩ | ⟨hneg, hJe⟩
      all_goals
        first
          | have hd4 : decide ((J : Int) < 0) = false := (have _ : 0 ≤ z.tmod (B.length : Int) := hneg; decide_eq_false (by omega))
          | have hd4 : decide (z.tmod (B.length : Int) < 0) = true := decide_eq_true hneg
        clear hneg
        go_wp2_with (first
          | (go_at_call 28; go_must (refine (ru_any (B.take J) IA J ic 0 _ (by omega) HSJ.out.rb).mono ?_); rw [HQ.out]; rintro e w2 ⟨rfl, rfl⟩)
          | (go_at_call 47; go_must (refine (rr_any (B.take J) IA J ic 0 _ HSJ.out (by omega)).mono ?_); rw [HQ.out]; rintro e w2 ⟨rfl, rfl⟩)
          | (go_at_call 48; go_must (refine (rfl_any (B.take J) IA J ic 0 _ HSJ.out (by omega)).mono ?_); rw [HQ.out]; rintro e w2 ⟨rfl, rfl⟩)
          | (go_at_call 29; go_must (refine (rby_any (B.take J) IA J ic 0 (n : Int) _ HSJ.out (by omega) (by omega)).mono ?_); rintro e w2 hp; rw [HQ.out] at hp; obtain ⟨A1, c1, rfl, _, _, hb2⟩ := BytesPost3.at_ (n := 0) (p' := 0) (k' := 10) hp rfl rfl rfl; have HB2 := Lib.hid hb2; clear hp hb2)
          | (go_at_call 46; go_must (refine (ro_any (B.take J) IA J ic 0 _ HSJ.out (by omega)).mono ?_); rintro e w2 hp; rw [HQ.out] at hp; obtain ⟨A1, c1, rfl, _, _, hb2⟩ := BytesPost3.at_ (n := 0) (p' := 0) (k' := 10) hp rfl rfl rfl; have HB2 := Lib.hid hb2; clear hp hb2)
          | (go_at_call 22; go_must (refine (rframe_any (B.take J) IA J ic 0 _ (by omega) HSJ.out.cap HSJ.out.lim HSJ.out.nil HSJ.out.rb HTW.out).mono ?_); rintro e w2 hp; rw [HQ.out] at hp; obtain ⟨A1, c1, rfl, _, _, hb2⟩ := BytesPost3.at_ (n := 0) (p' := 0) (k' := 10) hp rfl rfl rfl; have HB2 := Lib.hid hb2; clear hp hb2)
          | (go_at_call 20; refine (num_any _ _).mono ?_; rintro e wn ⟨rfl, rfl⟩))
        go_roundw
        case rel =>
          first
            | exact ⟨k + 1, by omega, by go_num, Lib.hid (HW.out.trans (HB2.out.mono HW.out.size))⟩
            | exact ⟨k + 1, by omega, by go_num, HW⟩
        case measure => simp [intOf]; omega
theorem cuts_at (x z : Int) (l : List UInt8) (A : Option Addr) (n c : Nat) (w : World) (hx : 0 ≤ x ∧ x < 18446744073709551616) (hs : Sl w A n c l) (hn : n ≤ 1048576) (ht : TabAt 0 w) :
    Calls Tryd.prog 16 #[.int .u64 x, .slice A n c, .int .i64 z] w fun e w' => e = .returned (.bool true) ∧ Below w.heap.size w w' := by
  obtain ⟨v, rfl⟩ : ∃ v : Nat, x = (v : Int) := ⟨x.toNat, by omega⟩
  exact cuts_any v l A n c z w (by omega) hs hn ht
end Go.Proofs.YtkkfiffgldhahaaDoor
