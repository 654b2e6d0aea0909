/-
  The reference's Check, Has, Ones, Union, Build, walked.
-/
import Derived.Test.YthjjihipodhkiaaBloomR3
import Derived.Laws.OwnMore
namespace Go.Proofs.Ythjjihipodhkiaa
open Go.RowKit

theorem rd_no {f : List UInt8} {w w' : World} {e : Ending} (hf : isF f = false) (h : RdPost f w e w') : e = .returned (.tuple #[.int .i64 0, .slice none 0 0, .bool false]) ∧ Below w.heap.size w w' := by
  rcases h with ⟨_, h1, h2⟩ | ⟨h, _⟩
  · exact ⟨h1, h2⟩
  · rw [hf] at h; cases h
theorem rd_ok {f : List UInt8} {w w' : World} {e : Ending} (hf : isF f = true) (h : RdPost f w e w') : ∃ A c, e = .returned (.tuple #[.int .i64 (shapeP f), .slice A (shapeM f) c, .bool true]) ∧ w'.ownsRow w.heap.size 4 1 (.slice A (shapeM f) c) (shapeM f) (bools (bitsL f (shapeM f))) ∧ Below w.heap.size w w' := by
  rcases h with ⟨h, _⟩ | ⟨_, h⟩
  · rw [hf] at h; cases h
  · exact h
/-- With names for the shape, and the block. -/
theorem rd_at {f : List UInt8} {w w' : World} {e : Ending} {P M : Nat} (hf : isF f = true) (hP : shapeP f = P) (hM : shapeM f = M) (hM0 : 0 < M) (h : RdPost f w e w') : ∃ g c, e = .returned (.tuple #[.int .i64 P, .slice (some ⟨g, 0, none⟩) M c, .bool true]) ∧ w'.ownsRow w.heap.size 4 1 (.slice (some ⟨g, 0, none⟩) M c) M (bools (bitsL f M)) ∧ Below w.heap.size w w' := by
  subst hP; subst hM
  obtain ⟨A, c, rfl, ho, hb⟩ := rd_ok hf h
  obtain ⟨g, cap, e, _⟩ := own_form ho hM0
  injection e with e1 e2 e3
  subst e1
  exact ⟨g, c, rfl, ho, hb⟩

set_option maxRecDepth 100000 in
theorem rcheck_any (f : List UInt8) (A : Option Addr) (n c : Nat) (w : World) (hn : n ≤ 9223372036854775807) (hr : RB w w.heap.size A n f) :
    Calls Try.prog 28 #[.slice A n c] w fun e w' => e = .returned (.int .i64 (checkE f)) ∧ Below w.heap.size w w' := by
  have HC := Lib.hid (rread_any f A n c w hn hr)
  cases hf : isF f
  · have H : Hid (checkE f = 62) := Lib.hid (by unfold checkE; rw [hf]; rfl)
    have HF := Lib.hid hf
    clear hr hf
    go_enter Try.func28, Try.ntmps28
    go_wp2_with (go_at_call 42; go_must (refine HC.out.mono ?_); rintro e w1 hp; obtain ⟨rfl, hb1⟩ := rd_no HF.out hp; have HB1 := Lib.hid hb1; clear hp hb1)
    go_ret
    exact ⟨by rw [H.out]; rfl, HB1.out⟩
  · have H : Hid (checkE f = 0) := Lib.hid (by unfold checkE; rw [hf]; rfl)
    have HF := Lib.hid hf
    clear hr hf
    go_enter Try.func28, Try.ntmps28
    go_wp2_with (go_at_call 42; go_must (refine HC.out.mono ?_); rintro e w1 hp; obtain ⟨A1, c1, rfl, hO1, hb1⟩ := rd_ok HF.out hp; have HB1 := Lib.hid hb1; clear hp hb1 hO1)
    go_ret
    exact ⟨by rw [H.out]; rfl, HB1.out⟩

theorem bitsL_at (f : List UInt8) {m i : Nat} (h : i < m) : (bitsL f m)[i]? = some (bitAt f i) := by simp [bitsL, h]
theorem isF_bounds {f : List UInt8} (h : isF f = true) : 1 ≤ shapeP f ∧ shapeP f ≤ 14 ∧ 64 ≤ shapeM f ∧ shapeM f ≤ 20971520 ∧ shapeM f % 8 = 0 ∧ f.length = 6 + shapeM f / 8 := by
  unfold isF at h; exact of_decide_eq_true h

theorem PlacesPost.at_ {ps : List Nat} {w w' : World} {e : Ending} {n : Nat} (h : PlacesPost ps w e w') (hn : ps.length = n) : ∃ A c, e = .returned (.slice A n c) ∧ w'.ownsRow w.heap.size 3 1 (.slice A n c) n (i64s ps) ∧ Below w.heap.size w w' := by
  subst hn
  obtain ⟨A, c, h1, _, h2, h3⟩ := h
  exact ⟨A, c, h1, h2, h3⟩
theorem take_all_bits (f : List UInt8) (ps : List Nat) (k x : Nat) (h : ps[k]? = some x) : (ps.take (k + 1)).all (bitAt f) = ((ps.take k).all (bitAt f) && bitAt f x) := by
  rw [take_snoc h, List.all_append]; simp
theorem all_no (f : List UInt8) (ps : List Nat) (k x : Nat) (h : ps[k]? = some x) (hb : bitAt f x = false) : ps.all (bitAt f) = false := by
  rw [List.all_eq_false]
  exact ⟨x, List.mem_of_getElem? h, by rw [hb]; simp⟩

set_option maxRecDepth 100000 in
set_option maxHeartbeats 2000000 in
theorem rhas_any (f key : List UInt8) (A Ak : Option Addr) (n c nk ck : Nat) (w : World) (hn : n ≤ 9223372036854775807) (hr : RB w w.heap.size A n f) (hnk : nk ≤ 9223372036854775807) (hk : RB w w.heap.size Ak nk key) :
    Calls Try.prog 27 #[.slice A n c, .slice Ak nk ck] w fun e w' => e = .returned (.tuple #[.bool (hasB f key), .int .i64 (checkE f)]) ∧ Below w.heap.size w w' := by
  have HC := Lib.hid (rread_any f A n c w hn hr)
  have HK : Hid (∀ w', Below w.heap.size w w' → RB w' w'.heap.size Ak nk key) := Lib.hid fun w' h => hk.later h
  cases hf : isF f
  · have H : Hid (checkE f = 62 ∧ hasB f key = false) := Lib.hid (by unfold checkE hasB; rw [hf]; exact ⟨rfl, rfl⟩)
    have HF := Lib.hid hf
    clear hr hk hf
    go_enter Try.func27, Try.ntmps27
    go_wp2_with (go_at_call 42; go_must (refine HC.out.mono ?_); rintro e w1 hp; obtain ⟨rfl, hb1⟩ := rd_no HF.out hp; have HB1 := Lib.hid hb1; clear hp hb1)
    go_ret2
    exact ⟨by rw [H.out.1, H.out.2]; rfl, HB1.out⟩
  · obtain ⟨g1, g2, g3, g4, g5, g6⟩ := isF_bounds hf
    obtain ⟨P, hP⟩ : ∃ P, shapeP f = P := ⟨_, rfl⟩
    obtain ⟨M, hM⟩ : ∃ M, shapeM f = M := ⟨_, rfl⟩
    rw [hP] at g1 g2
    rw [hM] at g3 g4
    have XP := Lib.hid hP
    have XM := Lib.hid hM
    obtain ⟨ps, hps⟩ : ∃ ps, ps = placesN key P M := ⟨_, rfl⟩
    have XPS := Lib.hid hps
    have HLT : Hid (∀ x ∈ ps, x < M) := Lib.hid (by rw [hps]; exact placesN_lt _ _ _ (by omega))
    have HPL : Hid (ps.length = P) := Lib.hid (by rw [hps]; simp [placesN])
    have H : Hid (checkE f = 0 ∧ hasB f key = ps.all (bitAt f)) := Lib.hid (by unfold checkE hasB; rw [hf, hP, hM, hps]; exact ⟨rfl, rfl⟩)
    have HF := Lib.hid hf
    clear hr hk hf hP hM hps g5 g6
    go_enter Try.func27, Try.ntmps27
    go_wp2_with (first
      | (go_at_call 42; go_must (refine HC.out.mono ?_); rintro e w1 hp; obtain ⟨gs, cs, rfl, hO1, hb1⟩ := rd_at HF.out XP.out XM.out (by omega) hp; have HB1 := Lib.hid hb1; have HO1 := Lib.hid hO1; clear hp hb1 hO1)
      | (go_at_call 40; go_must (refine (places_any key Ak nk ck P M _ hnk (HK.out _ HB1.out) (by omega) (by omega) (by omega)).mono ?_); rintro e w2 hp; rw [← XPS.out] at hp; obtain ⟨A2, c2, rfl, hO2, hb2⟩ := hp.at_ HPL.out; have HB2 := Lib.hid (HB1.out.trans (hb2.mono HB1.out.size)); have HO2 := Lib.hid hO2; have HS2 := Lib.hid (own_below HO1.out hb2); clear hp hO2 hb2))
    obtain ⟨g2', cap2, e2, _⟩ := own_form HO2.out (by omega)
    injection e2 with e2 _ e3
    subst e2
    go_loop [10] (fun i => ∃ k : Nat, k ≤ P ∧ i = .int .i64 k ∧ Hid ((ps.take k).all (bitAt f) = true)) (fun i => P - (intOf i).toNat)
    case atStart => exact ⟨0, Nat.zero_le _, rfl, Lib.hid (by simp)⟩
    case round =>
      obtain ⟨k, hk, rfl, HA⟩ := hrel
      by_cases hlt : k < P
      case neg =>
        have HT : Hid (ps.all (bitAt f) = true) := Lib.hid (by have := HA.out; rwa [take_all (by rw [HPL.out]; omega)] at this)
        go_wp2
        go_ret2
        exact ⟨by rw [H.out.1, H.out.2, HT.out]; rfl, HB2.out⟩
      obtain ⟨x, hx⟩ : ∃ x, ps[k]? = some x := ⟨_, List.getElem?_eq_getElem (by rw [HPL.out]; exact hlt)⟩
      have hxM := HLT.out x (List.mem_of_getElem? hx)
      have hc2 : w2.cell? ⟨g2', k, none⟩ = some (.int .i64 (x : Int)) := (World.ownsRow.cellAt HO2.out k (by omega)).trans (by simp [i64s, hx])
      have hcs : w2.cell? ⟨gs, x, none⟩ = some (.bool (bitAt f x)) := (World.ownsRow.cellAt HS2.out x (by omega)).trans (bools_at (bitsL_at f hxM))
      cases hb : bitAt f x
      · have HN : Hid (ps.all (bitAt f) = false) := Lib.hid (all_no f ps k x hx hb)
        rw [hb] at hcs
        clear hx hb
        go_wp2
        go_ret2
        exact ⟨by rw [H.out.1, H.out.2, HN.out]; rfl, HB2.out⟩
      · have HN : Hid ((ps.take (k + 1)).all (bitAt f) = true) := Lib.hid (by rw [take_all_bits f ps k x hx, HA.out, hb]; rfl)
        rw [hb] at hcs
        clear hx hb
        go_wp2
        go_round
        case rel => exact ⟨k + 1, by omega, by go_num, HN⟩
        case measure => simp [intOf]; omega

theorem pack_self : ∀ x : Fin 256, packB (fun t => (x.val &&& maskN (t % 8)) != 0) = UInt8.ofNat x.val := by decide +kernel
theorem packB_ext8 {f g : Nat → Bool} (h : ∀ t, t < 8 → f t = g t) : packB f = packB g := packB_ext h
theorem headN_bytes (x2 x3 x4 x5 : UInt8) : UInt8.ofNat (headN x2 x3 x4 x5 / 16777216) = x2 ∧ UInt8.ofNat (headN x2 x3 x4 x5 / 65536) = x3 ∧ UInt8.ofNat (headN x2 x3 x4 x5 / 256) = x4 ∧ UInt8.ofNat (headN x2 x3 x4 x5) = x5 := by
  have h2 := x2.toNat_lt; have h3 := x3.toNat_lt; have h4 := x4.toNat_lt; have h5 := x5.toNat_lt
  unfold headN
  refine ⟨?_, ?_, ?_, ?_⟩ <;> (apply UInt8.toNat_inj.1; rw [UInt8.toNat_ofNat']; omega)
/-- A filter is what its shape and its bits make. -/
theorem F_canon {f : List UInt8} (h : isF f = true) : filterB (shapeP f) (shapeM f) (bitAt f) = f := by
  obtain ⟨g1, g2, g3, g4, g5, g6⟩ := isF_bounds h
  have get : ∀ k, k < f.length → ∃ x, f[k]? = some x := fun k hk => ⟨_, List.getElem?_eq_getElem hk⟩
  obtain ⟨x0, h0⟩ := get 0 (by omega)
  obtain ⟨x1, h1⟩ := get 1 (by omega)
  obtain ⟨x2, h2⟩ := get 2 (by omega)
  obtain ⟨x3, h3⟩ := get 3 (by omega)
  obtain ⟨x4, h4⟩ := get 4 (by omega)
  obtain ⟨x5, h5⟩ := get 5 (by omega)
  have e0 : x0 = 66 := by
    have hp := g1
    unfold shapeP at hp
    split at hp
    · omega
    · rename_i hn
      rw [h0] at hn
      by_cases e : x0 = 66
      · exact e
      · exact absurd (.inr (fun e' => e (by injection e'))) hn
  obtain ⟨eP, eM⟩ := isF_shape h0 h1 h2 h3 h4 h5 e0
  obtain ⟨b2, b3, b4, b5⟩ := headN_bytes x2 x3 x4 x5
  apply List.ext_getElem?
  intro j
  by_cases hj : j < f.length
  · by_cases hj6 : j < 6
    · rw [filterB_head _ _ _ _ hj6]
      have hP : UInt8.ofNat (shapeP f) = x1 := by rw [eP]; simp
      rw [← eM] at b2 b3 b4 b5
      match j, hj6 with
      | 0, _ => rw [h0, e0]; rfl
      | 1, _ => rw [h1, ← hP]; rfl
      | 2, _ => rw [h2, ← b2]; rfl
      | 3, _ => rw [h3, ← b3]; rfl
      | 4, _ => rw [h4, ← b4]; rfl
      | 5, _ => rw [h5, ← b5]; rfl
    · obtain ⟨q, rfl⟩ : ∃ q, j = 6 + q := ⟨j - 6, by omega⟩
      obtain ⟨x, hx⟩ := get (6 + q) hj
      rw [filterB_at _ _ _ _ (by omega), hx]
      congr 1
      have e : packB (fun t => bitAt f (8 * q + t)) = packB (fun t => (x.toNat &&& maskN (t % 8)) != 0) := packB_ext8 fun t ht => by
        unfold bitAt
        rw [show (8 * q + t) / 8 = q from by omega, show (8 * q + t) % 8 = t from by omega, hx, Option.getD_some, Nat.mod_eq_of_lt ht]
      rw [e, pack_self ⟨x.toNat, x.toNat_lt⟩]
      simp
  · rw [List.getElem?_eq_none (by rw [filterB_length]; omega), List.getElem?_eq_none (by omega)]

theorem ones_bits {f : List UInt8} (h : isF f = true) : onesN f = cntS (shapeM f) (bitAt f) := by
  obtain ⟨g1, g2, g3, g4, g5, g6⟩ := isF_bounds h
  have := filterB_ones (shapeP f) (shapeM f) (bitAt f) g1 g2 g3 g4 g5
  rw [F_canon h] at this
  exact this

set_option maxRecDepth 100000 in
set_option maxHeartbeats 2000000 in
theorem rones_any (f : List UInt8) (A : Option Addr) (n c : Nat) (w : World) (hn : n ≤ 9223372036854775807) (hr : RB w w.heap.size A n f) :
    Calls Try.prog 29 #[.slice A n c] w fun e w' => e = .returned (.int .i64 (onesN f)) ∧ Below w.heap.size w w' := by
  have HC := Lib.hid (rread_any f A n c w hn hr)
  cases hf : isF f
  · have H : Hid (onesN f = 0) := Lib.hid (by unfold onesN; rw [hf]; rfl)
    have HF := Lib.hid hf
    clear hr hf
    go_enter Try.func29, Try.ntmps29
    go_wp2_with (go_at_call 42; go_must (refine HC.out.mono ?_); rintro e w1 hp; obtain ⟨rfl, hb1⟩ := rd_no HF.out hp; have HB1 := Lib.hid hb1; clear hp hb1)
    go_loop [6, 7] (fun x i => x = .int .i64 0 ∧ i = .int .i64 0) (fun _ _ => 0)
    case atStart => exact ⟨rfl, rfl⟩
    case round =>
      obtain ⟨rfl, rfl⟩ := hrel
      go_wp2
      go_ret
      exact ⟨by rw [H.out]; rfl, HB1.out⟩
  · obtain ⟨g1, g2, g3, g4, g5, g6⟩ := isF_bounds hf
    obtain ⟨M, hM⟩ : ∃ M, shapeM f = M := ⟨_, rfl⟩
    obtain ⟨P, hP⟩ : ∃ P, shapeP f = P := ⟨_, rfl⟩
    have H : Hid (onesN f = cntS M (bitAt f)) := Lib.hid (by rw [ones_bits hf, hM])
    rw [hM] at g3 g4
    have XM := Lib.hid hM
    have XP := Lib.hid hP
    have HF := Lib.hid hf
    clear hr hf hM hP g1 g2 g5 g6
    go_enter Try.func29, Try.ntmps29
    go_wp2_with (go_at_call 42; go_must (refine HC.out.mono ?_); rintro e w1 hp; obtain ⟨gs, cs, rfl, hO1, hb1⟩ := rd_at HF.out XP.out XM.out (by omega) hp; have HB1 := Lib.hid hb1; have HO1 := Lib.hid hO1; clear hp hb1 hO1)
    go_loop [6, 7] (fun x i => ∃ k N : Nat, k ≤ M ∧ i = .int .i64 k ∧ x = .int .i64 N ∧ N ≤ k ∧ Hid (N = cntS k (bitAt f))) (fun _ i => M - (intOf i).toNat)
    case atStart => exact ⟨0, 0, Nat.zero_le _, rfl, rfl, Nat.le_refl _, Lib.hid rfl⟩
    case round =>
      obtain ⟨k, N, hk, rfl, rfl, hNk, HN⟩ := hrel
      by_cases hlt : k < M
      case neg =>
        have HT : Hid (onesN f = N) := Lib.hid (by rw [H.out, HN.out, show M = k from by omega])
        go_wp2
        go_ret
        exact ⟨by rw [HT.out]; rfl, HB1.out⟩
      have hcs : w1.cell? ⟨gs, k, none⟩ = some (.bool (bitAt f k)) := (World.ownsRow.cellAt HO1.out k (by omega)).trans (bools_at (bitsL_at f hlt))
      cases hb : bitAt f k
      · have HN2 : Hid (N = cntS (k + 1) (bitAt f)) := Lib.hid (by rw [cntS_succ, hb, HN.out]; rfl)
        rw [hb] at hcs
        clear hb
        go_wp2
        go_round
        case rel => exact ⟨k + 1, N, by omega, by go_num, rfl, by omega, HN2⟩
        case measure => simp [intOf]; omega
      · have HN2 : Hid (N + 1 = cntS (k + 1) (bitAt f)) := Lib.hid (by rw [cntS_succ, hb, HN.out]; rfl)
        rw [hb] at hcs
        clear hb
        go_wp2
        go_round
        case rel => exact ⟨k + 1, N + 1, by omega, by go_num, by go_num, by omega, HN2⟩
        case measure => simp [intOf]; omega

end Go.Proofs.Ythjjihipodhkiaa
