/-
  WireOneWay, walked. (Printed by gen_oneway.py.)
-/
import Derived.Test.YtkkfiffgldhahaaDoorWireW12
import Derived.Test.YtkkfiffgldhahaaDoorWireP9
import Derived.Test.YtkkfiffgldhahaaDoorWireS5
import Derived.Test.YtkkfiffgldhahaaDoorWireW9
import Derived.Deep.RegionHeld3
namespace Go.Proofs.YtkkfiffgldhahaaDoor
open Go.RowKit

theorem below_keep {w x y : World} (h1 : Below w.heap.size w x) (h2 : Below x.heap.size x y) : Below w.heap.size w y := h1.trans (h2.mono h1.size)
theorem frameR_le {l : List UInt8} (h : l.length ≤ 1048576) : frameR l = frameB l ∧ frameE l = 0 := by unfold frameR frameE; rw [if_pos h, if_pos h]; exact ⟨rfl, rfl⟩

set_option maxRecDepth 100000 in
set_option maxHeartbeats 8000000 in
theorem oneway_any (l : List UInt8) (A : Option Addr) (n c : Nat) (a : Int) (w : World) (hs : Sl w A n c l) (hn : n ≤ 1048576) (ha : -9223372036854775808 ≤ a ∧ a < 9223372036854775808) (ht : TabAt 0 w) :
    Calls Tryd.prog 15 #[.slice A n c, .int .i64 a] w fun e w' => e = .returned (.bool true) ∧ Below w.heap.size w w' := by
  have HT : Hid (∀ w', Below w.heap.size w w' → TabAt 0 w') := Lib.hid fun w' h => ht.later h
  have HA : Hid (∀ w', Below w.heap.size w w' → Sl w' A n c l) := Lib.hid fun w' h => hs.later h
  have HL := Lib.hid hs.len
  have hcap := hs.cap
  have hlim := hs.lim
  have HNIL := Lib.hid hs.nil
  clear hs ht
  have HCUT : Hid (∀ (k p : Nat) (w' : World), k < p → p ≤ n → Below w.heap.size w w' → RB w' w'.heap.size (if c = k then A else A.map (·.add k)) (p - k) (cutS l k (p - k))) := Lib.hid fun k p w' h1 h2 hb =>
    ((HA.out w' hb).rb.drop (k := k) (cap := c) (by omega) hcap).take (by omega)
  have HB0 : Hid (Below w.heap.size w w) := Lib.hid (Below.refl _ _)
  go_enter Tryd.func15, Tryd.ntmps15
  obtain ⟨V, p, k, HU⟩ : ∃ V p k, Hid (readU l a = (V, p, k)) := ⟨_, _, _, Lib.hid rfl⟩
  have hend := readU_end l a
  rw [HU.out] at hend
  have hV := readU_val l a
  rw [HU.out] at hV
  have HV := Lib.hid hV
  have hC := readU_canon l a
  rw [HU.out] at hC
  have HCN := Lib.hid hC
  clear hV hC
  go_upto_region 2 with (first | (go_at_call 28; go_must (refine (ru_any l A n c a _ (by omega) (HA.out _ HB0.out).rb).mono ?_); rw [HU.out]; rintro e wr ⟨rfl, rfl⟩) | (go_at_call 20; refine (num_any _ _).mono ?_; rintro e wn ⟨rfl, rfl⟩))
  go_cut [50] (fun q wx => q = .bool false ∧ Hid (Below w.heap.size w wx))
  case first =>
    by_cases hk : k = 0
    · as_aux_lemma =>
      subst hk
      obtain ⟨e1, e2, e3⟩ := hend rfl
      have e4 := HCN.out rfl
      obtain ⟨K, rfl⟩ : ∃ K : Nat, a = (K : Int) := ⟨a.toNat, by omega⟩
      simp only [Int.toNat_natCast] at e3 e4
      have e1 : p ≤ n := by rw [HL.out] at e1; exact e1
      have hd1 : decide ((K : Int) < 0) = false := decide_eq_false (by omega)
      have hd2 : decide ((n : Int) < (p : Int)) = false := decide_eq_false (by omega)
      have hd3 : decide ((p : Int) ≤ (K : Int)) = false := decide_eq_false (by omega)
      have hd4 : decide (n < p) = false := decide_eq_false (by omega)
      have hd5 : decide (p ≤ K) = false := decide_eq_false (by omega)
      have k2 : p ≤ c := by omega
      have k4 : K ≤ p := by omega
      have k6 : c ≠ K := by omega
      obtain ⟨U, hU⟩ : ∃ U, U = uintB V := ⟨_, rfl⟩
      have HU2 := Lib.hid hU
      have HS : Hid (∀ w', Below w.heap.size w w' → RB w' w'.heap.size (A.map (·.add K)) (p - K) U) := Lib.hid fun w' h => by
        have := HCUT.out K p w' e3 e1 h
        rw [if_neg k6, ← e4, ← hU] at this
        exact this
      have XB : Hid ((U == U) = true) := Lib.hid (by simp)
      clear hend HU e4 hU
      go_region_held3 (fun w' => Below w.heap.size w w') (first | assumption | exact (Below.refl _ _).drew | exact below_keep ‹_› hb2) (first
        | (go_at_call 20; refine (num_any _ _).mono ?_; rintro e wn ⟨rfl, rfl⟩)
        | (go_at_call 26; refine (uint_any V _ HV.out).mono ?_; rintro e w2 hp; rw [← HU2.out] at hp; obtain ⟨A2, c2, rfl, hS2, _, hb2⟩ := hp.at_ rfl; have HS2 := Lib.hid hS2)
        | (go_at_call 24; refine (same_any U U A2 _ _ c2 _ _ _ HS2.out.rb (HS.out _ (below_keep HB0.out (by assumption)))).mono ?_; rintro e wn ⟨rfl, rfl⟩; rw [XB.out]))
      go_wp2_with fail
      go_meet
      exact ⟨rfl, Lib.hid (below_keep HB0.out (by assumption))⟩
    · as_aux_lemma =>
      have hd : ((k : Int) == 0) = false := by rw [beq_eq_false_iff_ne]; omega
      clear hend hk
      go_quiet ((go_at_call 20; refine Calls.quiet_of_same (Calls.mono (num_any _ _) fun _ _ h => ⟨h.1, h.2.symm⟩)))
      go_wp2_with fail
      go_meet
      exact ⟨rfl, Lib.hid (below_drewN HB0.out)⟩
  obtain ⟨rfl, HB1⟩ := hcut
  clear hend HU  HV HCN
  generalize wc = w1 at *
  as_aux_lemma =>
    obtain ⟨V, p, k, HU⟩ : ∃ V p k, Hid (readBy l a n = (V, p, k)) := ⟨_, _, _, Lib.hid rfl⟩
    have hend := readBy_end l a n
    rw [HU.out] at hend
    go_upto_region 5 with (first | (go_at_call 29; go_must (refine (rby_any l A n c a n _ (HA.out _ HB1.out) (by omega) (by omega)).mono ?_); rintro e wr hp; rw [HU.out] at hp; obtain ⟨AR, cR, rfl, hSR, _, hbR⟩ := BytesPost3.at_ (n := V.length) (p' := (p : Int)) (k' := (k : Int)) hp rfl rfl rfl; have HSR := Lib.hid hSR; have HR2 := Lib.hid (below_keep HB1.out hbR); clear hp hSR hbR) | (go_at_call 20; refine (num_any _ _).mono ?_; rintro e wn ⟨rfl, rfl⟩))
    go_cut [87] (fun q wx => q = .bool false ∧ Hid (Below w.heap.size w wx))
    case first =>
      by_cases hk : k = 0
      · as_aux_lemma =>
        subst hk
        obtain ⟨e4, e1, e2, e3, e5⟩ := hend rfl
        obtain ⟨K, rfl⟩ : ∃ K : Nat, a = (K : Int) := ⟨a.toNat, by omega⟩
        simp only [Int.toNat_natCast] at e3 e4
        have e1 : p ≤ n := by rw [HL.out] at e1; exact e1
        have hd1 : decide ((K : Int) < 0) = false := decide_eq_false (by omega)
        have hd2 : decide ((n : Int) < (p : Int)) = false := decide_eq_false (by omega)
        have hd3 : decide ((p : Int) ≤ (K : Int)) = false := decide_eq_false (by omega)
        have hd4 : decide (n < p) = false := decide_eq_false (by omega)
        have hd5 : decide (p ≤ K) = false := decide_eq_false (by omega)
        have k2 : p ≤ c := by omega
        have k4 : K ≤ p := by omega
        have k6 : c ≠ K := by omega
        have HVL : Hid (V.length ≤ 1048576) := Lib.hid (by rw [HL.out] at e5; omega)
        obtain ⟨U, hU⟩ : ∃ U, U = uintB V.length ++ V := ⟨_, rfl⟩
        have HU2 := Lib.hid hU
        have HS : Hid (∀ w', Below w.heap.size w w' → RB w' w'.heap.size (A.map (·.add K)) (p - K) U) := Lib.hid fun w' h => by
          have := HCUT.out K p w' e3 e1 h
          rw [if_neg k6, ← e4, ← hU] at this
          exact this
        have XB : Hid ((U == U) = true) := Lib.hid (by simp)
        clear hend HU e4 hU
        go_region_held3 (fun w' => Below wr.heap.size wr w') (first | assumption | exact (Below.refl _ _).drew | exact below_keep ‹_› hb2) (first
          | (go_at_call 20; refine (num_any _ _).mono ?_; rintro e wn ⟨rfl, rfl⟩)
          | (go_at_call 27; refine (bytes_any V AR V.length cR _ (by have := HVL.out; omega) (HSR.out.later (by assumption)).rb).mono ?_; rintro e w2 hp; rw [← HU2.out] at hp; obtain ⟨A2, c2, rfl, hS2, _, hb2⟩ := hp.at_ rfl; have HS2 := Lib.hid hS2)
          | (go_at_call 24; refine (same_any U U A2 _ _ c2 _ _ _ HS2.out.rb (HS.out _ (below_keep HR2.out (by assumption)))).mono ?_; rintro e wn ⟨rfl, rfl⟩; rw [XB.out]))
        go_wp2_with fail
        go_meet
        exact ⟨rfl, Lib.hid (below_keep HR2.out (by assumption))⟩
      · as_aux_lemma =>
        have hd : ((k : Int) == 0) = false := by rw [beq_eq_false_iff_ne]; omega
        clear hend hk
        go_quiet ((go_at_call 20; refine Calls.quiet_of_same (Calls.mono (num_any _ _) fun _ _ h => ⟨h.1, h.2.symm⟩)))
        go_wp2_with fail
        go_meet
        exact ⟨rfl, Lib.hid (below_drewN HR2.out)⟩
    obtain ⟨rfl, HB2⟩ := hcut
    clear hend HU HB1 HSR HR2
    generalize wc = w2 at *
    as_aux_lemma =>
      obtain ⟨V, p, k, HU⟩ : ∃ V p k, Hid (readO l a = (V, p, k)) := ⟨_, _, _, Lib.hid rfl⟩
      have hend := readO_end l a
      rw [HU.out] at hend
      go_upto_region 8 with (first | (go_at_call 46; go_must (refine (ro_any l A n c a _ (HA.out _ HB2.out) (by omega)).mono ?_); rintro e wr hp; rw [HU.out] at hp; obtain ⟨AR, cR, rfl, hSR, _, hbR⟩ := BytesPost3.at_ (n := V.length) (p' := (p : Int)) (k' := (k : Int)) hp rfl rfl rfl; have HSR := Lib.hid hSR; have HR3 := Lib.hid (below_keep HB2.out hbR); clear hp hSR hbR) | (go_at_call 20; refine (num_any _ _).mono ?_; rintro e wn ⟨rfl, rfl⟩))
      go_cut [122] (fun q wx => q = .bool false ∧ Hid (Below w.heap.size w wx))
      case first =>
        by_cases hk : k = 0
        · as_aux_lemma =>
          subst hk
          obtain ⟨e4, e1, e2, e3, e5⟩ := hend rfl
          obtain ⟨K, rfl⟩ : ∃ K : Nat, a = (K : Int) := ⟨a.toNat, by omega⟩
          simp only [Int.toNat_natCast] at e3 e4
          have e1 : p ≤ n := by rw [HL.out] at e1; exact e1
          have hd1 : decide ((K : Int) < 0) = false := decide_eq_false (by omega)
          have hd2 : decide ((n : Int) < (p : Int)) = false := decide_eq_false (by omega)
          have hd3 : decide ((p : Int) ≤ (K : Int)) = false := decide_eq_false (by omega)
          have hd4 : decide (n < p) = false := decide_eq_false (by omega)
          have hd5 : decide (p ≤ K) = false := decide_eq_false (by omega)
          have k2 : p ≤ c := by omega
          have k4 : K ≤ p := by omega
          have k6 : c ≠ K := by omega
          have HVL : Hid (V.length ≤ 1048576) := Lib.hid (by rw [HL.out] at e5; omega)
          obtain ⟨U, hU⟩ : ∃ U, U = ordB V := ⟨_, rfl⟩
          have HU2 := Lib.hid hU
          have HS : Hid (∀ w', Below w.heap.size w w' → RB w' w'.heap.size (A.map (·.add K)) (p - K) U) := Lib.hid fun w' h => by
            have := HCUT.out K p w' e3 e1 h
            rw [if_neg k6, ← e4, ← hU] at this
            exact this
          have XB : Hid ((U == U) = true) := Lib.hid (by simp)
          clear hend HU e4 hU
          go_region_held3 (fun w' => Below wr.heap.size wr w') (first | assumption | exact (Below.refl _ _).drew | exact below_keep ‹_› hb2) (first
            | (go_at_call 20; refine (num_any _ _).mono ?_; rintro e wn ⟨rfl, rfl⟩)
            | (go_at_call 30; refine (ordered_any V AR V.length cR _ (by have := HVL.out; omega) (HSR.out.later (by assumption)).rb).mono ?_; rintro e w2 hp; rw [← HU2.out] at hp; obtain ⟨A2, c2, rfl, hS2, _, hb2⟩ := hp.at_ rfl; have HS2 := Lib.hid hS2)
            | (go_at_call 24; refine (same_any U U A2 _ _ c2 _ _ _ HS2.out.rb (HS.out _ (below_keep HR3.out (by assumption)))).mono ?_; rintro e wn ⟨rfl, rfl⟩; rw [XB.out]))
          go_wp2_with fail
          go_meet
          exact ⟨rfl, Lib.hid (below_keep HR3.out (by assumption))⟩
        · as_aux_lemma =>
          have hd : ((k : Int) == 0) = false := by rw [beq_eq_false_iff_ne]; omega
          clear hend hk
          go_quiet ((go_at_call 20; refine Calls.quiet_of_same (Calls.mono (num_any _ _) fun _ _ h => ⟨h.1, h.2.symm⟩)))
          go_wp2_with fail
          go_meet
          exact ⟨rfl, Lib.hid (below_drewN HR3.out)⟩
      obtain ⟨rfl, HB3⟩ := hcut
      clear hend HU HB2 HSR HR3
      generalize wc = w3 at *
      as_aux_lemma =>
        obtain ⟨V, p, k, HU⟩ : ∃ V p k, Hid (readR l a = (V, p, k)) := ⟨_, _, _, Lib.hid rfl⟩
        have hend := readR_end l a
        rw [HU.out] at hend
        go_upto_if 132 with (first | (go_at_call 47; go_must (refine (rr_any l A n c a _ (HA.out _ HB3.out) (by omega)).mono ?_); rw [HU.out]; rintro e wr ⟨rfl, rfl⟩) | (go_at_call 20; refine (num_any _ _).mono ?_; rintro e wn ⟨rfl, rfl⟩))
        go_cut [4] (fun _ wx => Hid (Below w.heap.size w wx))
        case first =>
          by_cases hk : k = 0
          · as_aux_lemma =>
            subst hk
            obtain ⟨e4, e1, e2, e3, e5⟩ := hend rfl
            have HV := Lib.hid e5
            obtain ⟨K, rfl⟩ : ∃ K : Nat, a = (K : Int) := ⟨a.toNat, by omega⟩
            simp only [Int.toNat_natCast] at e3 e4
            have e1 : p ≤ n := by rw [HL.out] at e1; exact e1
            have hd1 : decide ((K : Int) < 0) = false := decide_eq_false (by omega)
            have hd2 : decide ((n : Int) < (p : Int)) = false := decide_eq_false (by omega)
            have hd3 : decide ((p : Int) ≤ (K : Int)) = false := decide_eq_false (by omega)
            have hd4 : decide (n < p) = false := decide_eq_false (by omega)
            have hd5 : decide (p ≤ K) = false := decide_eq_false (by omega)
            have k2 : p ≤ c := by omega
            have k4 : K ≤ p := by omega
            have k6 : c ≠ K := by omega
            obtain ⟨U, hU⟩ : ∃ U, U = risB V := ⟨_, rfl⟩
            have HU2 := Lib.hid hU
            have HS : Hid (∀ w', Below w.heap.size w w' → RB w' w'.heap.size (A.map (·.add K)) (p - K) U) := Lib.hid fun w' h => by
              have := HCUT.out K p w' e3 e1 h
              rw [if_neg k6, ← e4, ← hU] at this
              exact this
            have XB : Hid ((U == U) = true) := Lib.hid (by simp)
            clear hend HU e4 hU
            go_wp2_with (first
              | (go_at_call 20; refine (num_any _ _).mono ?_; rintro e wn ⟨rfl, rfl⟩)
              | (go_at_call 33; refine (rising_any V _ HV.out).mono ?_; rintro e w2 hp; rw [← HU2.out] at hp; obtain ⟨A2, c2, rfl, hS2, _, hb2⟩ := BytesPost2.at_ (n := U.length) (k' := 0) hp rfl rfl; have HS2 := Lib.hid hS2; have HB2 := Lib.hid (below_keep HB3.out hb2))
              | (go_at_call 24; refine (same_any U U A2 _ _ c2 _ _ _ HS2.out.rb (HS.out _ HB2.out)).mono ?_; rintro e wn ⟨rfl, rfl⟩; rw [XB.out]))
            go_meet
            exact HB2
          · as_aux_lemma =>
            have hd : ((k : Int) == 0) = false := by rw [beq_eq_false_iff_ne]; omega
            clear hend hk
            go_wp2
            go_meet
            exact HB3
        have HB4 := hcut
        clear hcut
        clear hend HU HB3
        generalize wc = w4 at *
        as_aux_lemma =>
          obtain ⟨V, p, k, HU⟩ : ∃ V p k, Hid (readFl l a = (V, p, k)) := ⟨_, _, _, Lib.hid rfl⟩
          have hend := readFl_end l a
          rw [HU.out] at hend
          go_upto_if 174 with (first | (go_at_call 48; go_must (refine (rfl_any l A n c a _ (HA.out _ HB4.out) (by omega)).mono ?_); rw [HU.out]; rintro e wr ⟨rfl, rfl⟩) | (go_at_call 20; refine (num_any _ _).mono ?_; rintro e wn ⟨rfl, rfl⟩))
          go_cut [4] (fun _ wx => Hid (Below w.heap.size w wx))
          case first =>
            by_cases hk : k = 0
            · as_aux_lemma =>
              subst hk
              obtain ⟨e4, e1, e2, e3, e5⟩ := hend rfl
              have HV := Lib.hid e5
              obtain ⟨K, rfl⟩ : ∃ K : Nat, a = (K : Int) := ⟨a.toNat, by omega⟩
              simp only [Int.toNat_natCast] at e3 e4
              have e1 : p ≤ n := by rw [HL.out] at e1; exact e1
              have hd1 : decide ((K : Int) < 0) = false := decide_eq_false (by omega)
              have hd2 : decide ((n : Int) < (p : Int)) = false := decide_eq_false (by omega)
              have hd3 : decide ((p : Int) ≤ (K : Int)) = false := decide_eq_false (by omega)
              have hd4 : decide (n < p) = false := decide_eq_false (by omega)
              have hd5 : decide (p ≤ K) = false := decide_eq_false (by omega)
              have k2 : p ≤ c := by omega
              have k4 : K ≤ p := by omega
              have k6 : c ≠ K := by omega
              obtain ⟨U, hU⟩ : ∃ U, U = risB (9223372036854775807 - V) := ⟨_, rfl⟩
              have HU2 := Lib.hid hU
              have HS : Hid (∀ w', Below w.heap.size w w' → RB w' w'.heap.size (A.map (·.add K)) (p - K) U) := Lib.hid fun w' h => by
                have := HCUT.out K p w' e3 e1 h
                rw [if_neg k6, ← e4, ← hU] at this
                exact this
              have XB : Hid ((U == U) = true) := Lib.hid (by simp)
              clear hend HU e4 hU
              go_wp2_with (first
                | (go_at_call 20; refine (num_any _ _).mono ?_; rintro e wn ⟨rfl, rfl⟩)
                | (go_at_call 34; refine (falling_any V _ HV.out).mono ?_; rintro e w2 hp; rw [← HU2.out] at hp; obtain ⟨A2, c2, rfl, hS2, _, hb2⟩ := BytesPost2.at_ (n := U.length) (k' := 0) hp rfl rfl; have HS2 := Lib.hid hS2; have HB2 := Lib.hid (below_keep HB4.out hb2))
                | (go_at_call 24; refine (same_any U U A2 _ _ c2 _ _ _ HS2.out.rb (HS.out _ HB2.out)).mono ?_; rintro e wn ⟨rfl, rfl⟩; rw [XB.out]))
              go_meet
              exact HB2
            · as_aux_lemma =>
              have hd : ((k : Int) == 0) = false := by rw [beq_eq_false_iff_ne]; omega
              clear hend hk
              go_wp2
              go_meet
              exact HB4
          have HB5 := hcut
          clear hcut
          clear hend HU HB4
          generalize wc = w5 at *
          as_aux_lemma =>
            obtain ⟨V, p, k, HU⟩ : ∃ V p k, Hid (readFA l a = (V, p, k)) := ⟨_, _, _, Lib.hid rfl⟩
            have hend := readFA_end l a
            rw [HU.out] at hend
            go_upto_if 216 with (first | (go_at_call 22; go_must (refine (rframe_any l A n c a _ (by omega) hcap (by omega) HNIL.out (HA.out _ HB5.out).rb (HT.out _ HB5.out)).mono ?_); rintro e wr hp; rw [HU.out] at hp; obtain ⟨AR, cR, rfl, hSR, _, hbR⟩ := BytesPost3.at_ (n := V.length) (p' := (p : Int)) (k' := (k : Int)) hp rfl rfl rfl; have HSR := Lib.hid hSR; have HR6 := Lib.hid (below_keep HB5.out hbR); clear hp hSR hbR) | (go_at_call 20; refine (num_any _ _).mono ?_; rintro e wn ⟨rfl, rfl⟩))
            go_cut [4] (fun _ wx => Hid (Below w.heap.size w wx))
            case first =>
              by_cases hk : k = 0
              · as_aux_lemma =>
                subst hk
                obtain ⟨e4, e1, e2, e3, e5⟩ := hend rfl
                have HFR := Lib.hid (frameR_le e5)
                obtain ⟨K, rfl⟩ : ∃ K : Nat, a = (K : Int) := ⟨a.toNat, by omega⟩
                simp only [Int.toNat_natCast] at e3 e4
                have e1 : p ≤ n := by rw [HL.out] at e1; exact e1
                have hd1 : decide ((K : Int) < 0) = false := decide_eq_false (by omega)
                have hd2 : decide ((n : Int) < (p : Int)) = false := decide_eq_false (by omega)
                have hd3 : decide ((p : Int) ≤ (K : Int)) = false := decide_eq_false (by omega)
                have hd4 : decide (n < p) = false := decide_eq_false (by omega)
                have hd5 : decide (p ≤ K) = false := decide_eq_false (by omega)
                have k2 : p ≤ c := by omega
                have k4 : K ≤ p := by omega
                have k6 : c ≠ K := by omega
                obtain ⟨U, hU⟩ : ∃ U, U = frameB V := ⟨_, rfl⟩
                have HU2 := Lib.hid hU
                have HS : Hid (∀ w', Below w.heap.size w w' → RB w' w'.heap.size (A.map (·.add K)) (p - K) U) := Lib.hid fun w' h => by
                  have := HCUT.out K p w' e3 e1 h
                  rw [if_neg k6, ← e4, ← hU] at this
                  exact this
                have XB : Hid ((U == U) = true) := Lib.hid (by simp)
                clear hend HU e4 hU
                go_wp2_with (first
                  | (go_at_call 20; refine (num_any _ _).mono ?_; rintro e wn ⟨rfl, rfl⟩)
                  | (go_at_call 19; refine (frame_any V AR V.length cR _ HSR.out.le HSR.out.cap HSR.out.lim HSR.out.nil HSR.out.rb (HT.out _ HR6.out)).mono ?_; rintro e w2 hp; rw [HFR.out.1, HFR.out.2, ← HU2.out] at hp; obtain ⟨A2, c2, rfl, hS2, _, hb2⟩ := BytesPost2.at_ (n := U.length) (k' := 0) hp rfl rfl; have HS2 := Lib.hid hS2; have HB2 := Lib.hid (below_keep HR6.out hb2))
                  | (go_at_call 24; refine (same_any U U A2 _ _ c2 _ _ _ HS2.out.rb (HS.out _ HB2.out)).mono ?_; rintro e wn ⟨rfl, rfl⟩; rw [XB.out]))
                go_meet
                exact HB2
              · as_aux_lemma =>
                have hd : ((k : Int) == 0) = false := by rw [beq_eq_false_iff_ne]; omega
                clear hend hk
                go_wp2
                go_meet
                exact HR6
            have HB6 := hcut
            clear hcut
            clear hend HU HB5 HSR HR6
            generalize wc = w6 at *
            as_aux_lemma =>
              go_wp2_with (go_at_call 18; go_must (refine (started_any _ (HT.out _ HB6.out)).mono ?_); rintro e w9 ⟨rfl, hb9⟩; have HB9 := Lib.hid (below_keep HB6.out hb9); clear hb9)
              go_ret
              exact ⟨rfl, HB9.out⟩
end Go.Proofs.YtkkfiffgldhahaaDoor
