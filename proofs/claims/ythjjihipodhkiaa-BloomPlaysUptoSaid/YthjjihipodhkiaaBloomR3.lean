/-
  The reference's read, walked.
-/
import Derived.Test.YthjjihipodhkiaaBloomR2
namespace Go.Proofs.Ythjjihipodhkiaa
open Go.RowKit

theorem Try.bls : SliceOf Try.prog 67 4 1 1 := SliceOf.mk' (z := .bool false) Try.underlying67 (by kernel_rfl) rfl (by decide)
/-- A filter's bits. -/
def bitsL (f : List UInt8) (m : Nat) : List Bool := (List.range m).map (bitAt f)
theorem bitsL_len (f : List UInt8) (m : Nat) : (bitsL f m).length = m := by simp [bitsL]
theorem bitsL_succ (f : List UInt8) (m : Nat) : bitsL f (m + 1) = bitsL f m ++ [bitAt f m] := by simp [bitsL, List.range_succ]
theorem bit_div : ∀ (x : Fin 256) (t : Fin 8), ((x.val / (128 / 2 ^ t.val) % 2 == 1) : Bool) = ((x.val &&& (128 / 2 ^ t.val)) != 0) := by decide +kernel
theorem bitAt_div (f : List UInt8) (j t : Nat) (x : UInt8) (ht : t < 8) (hx : f[6 + j]? = some x) : (x.toNat / maskN t % 2 == 1) = bitAt f (8 * j + t) := by
  unfold bitAt
  rw [show (8 * j + t) / 8 = j from by omega, show (8 * j + t) % 8 = t from by omega, hx, Option.getD_some]
  exact bit_div ⟨x.toNat, x.toNat_lt⟩ ⟨t, ht⟩
theorem mask_next : ∀ t : Fin 8, maskN t.val / 2 = maskN (t.val + 1) ∧ 0 < maskN t.val ∧ maskN t.val ≤ 128 := by decide +kernel
/-- What the reference's read leaves. -/
def RdPost (f : List UInt8) (w : World) (e : Ending) (w' : World) : Prop :=
  (isF f = false ∧ e = .returned (.tuple #[.int .i64 0, .slice none 0 0, .bool false]) ∧ Below w.heap.size w w') ∨
  (isF f = true ∧ ∃ A c, e = .returned (.tuple #[.int .i64 (shapeP f), .slice A (shapeM f) c, .bool true]) ∧ w'.ownsRow w.heap.size 4 1 (.slice A (shapeM f) c) (shapeM f) (bools (bitsL f (shapeM f))) ∧ Below w.heap.size w w')

theorem isF_shape {f : List UInt8} {x0 x1 x2 x3 x4 x5 : UInt8} (h0 : f[0]? = some x0) (h1 : f[1]? = some x1) (h2 : f[2]? = some x2) (h3 : f[3]? = some x3) (h4 : f[4]? = some x4) (h5 : f[5]? = some x5) (e0 : x0 = 66) : shapeP f = x1.toNat ∧ shapeM f = headN x2 x3 x4 x5 := by
  subst e0
  have hl : 6 ≤ f.length := by have := (List.getElem?_eq_some_iff.1 h5).1; omega
  unfold shapeP shapeM
  rw [if_neg (by rw [h0]; simp; omega), if_neg (by rw [h0]; simp; omega), h1, h2, h3, h4, h5]
  exact ⟨rfl, rfl⟩
theorem isF_no {f : List UInt8} (h : f.length < 14 ∨ f[0]? ≠ some 66) : isF f = false := by
  unfold isF
  rw [decide_eq_false_iff_not]
  rintro ⟨h1, _, h3, _, _, h6⟩
  rcases h with h | h
  · omega
  · unfold shapeP at h1
    rw [if_pos (.inr h)] at h1
    omega

set_option maxRecDepth 100000 in
set_option maxHeartbeats 2000000 in
theorem rread_no1 (f : List UInt8) (A : Option Addr) (n c : Nat) (w : World) (hr : RB w w.heap.size A n f) (h : n < 14 ∨ (14 ≤ n ∧ f[0]? ≠ some 66) ∨ (14 ≤ n ∧ f[0]? = some 66 ∧ ¬(1 ≤ shapeP f ∧ shapeP f ≤ 14))) :
    Calls Try.prog 42 #[.slice A n c] w (RdPost f w) := by
  have hl := hr.len
  have HI : Hid (isF f = false) := Lib.hid (by
    rcases h with h | ⟨_, h⟩ | ⟨_, _, h⟩
    · exact isF_no (.inl (by omega))
    · exact isF_no (.inr h)
    · unfold isF; rw [decide_eq_false_iff_not]; rintro ⟨h1, h2, _⟩; exact h ⟨h1, h2⟩)
  rcases h with h | ⟨h14, h⟩ | ⟨h14, h0, h⟩
  · have hd : decide ((n : Int) < 14) = true := decide_eq_true (by omega)
    clear hr hl h
    go_enter Try.func42, Try.ntmps42
    go_wp2
    go_ret3
    exact .inl ⟨HI.out, rfl, Below.refl _ _⟩
  · have hd : decide ((n : Int) < 14) = false := decide_eq_false (by omega)
    obtain ⟨b, o, x0, rfl, _, hx0, hc0⟩ := hr.at_ (k := 0) (by omega); rw [Nat.add_zero] at hc0
    have hne : ((x0.toNat : Int) != 66) = true := by
      rw [bne_iff_ne]
      intro e
      have : x0.toNat = (66 : UInt8).toNat := by rw [show (66 : UInt8).toNat = 66 from rfl]; omega
      exact h (by rw [hx0, UInt8.toNat_inj.1 this])
    clear hr hl h hx0
    go_enter Try.func42, Try.ntmps42
    go_wp2
    go_ret3
    exact .inl ⟨HI.out, rfl, Below.refl _ _⟩
  · have hd : decide ((n : Int) < 14) = false := decide_eq_false (by omega)
    obtain ⟨b, o, x0, rfl, _, hx0, hc0⟩ := hr.at_ (k := 0) (by omega); rw [Nat.add_zero] at hc0
    obtain ⟨b', o', x1, e', _, hx1, hc1⟩ := hr.at_ (k := 1) (by omega)
    injection e' with e'; injection e' with e1 e2
    subst e1; subst e2
    rw [hx0] at h0; injection h0 with h0
    have hne : ((x0.toNat : Int) != 66) = false := by rw [h0]; rfl
    have hp : shapeP f = x1.toNat := by
      unfold shapeP
      rw [if_neg (by rw [hx0, h0]; simp; omega), hx1]; rfl
    rw [hp] at h
    have hcase : decide ((x1.toNat : Int) < 1) = true ∨ (decide ((x1.toNat : Int) < 1) = false ∧ decide ((14 : Int) < (x1.toNat : Int)) = true) := by
      by_cases h1 : x1.toNat < 1
      · exact .inl (decide_eq_true (by omega))
      · exact .inr ⟨decide_eq_false (by omega), decide_eq_true (by omega)⟩
    clear hr hl h hx0 hx1 hp h0
    rcases hcase with d1 | ⟨d1, d2⟩
    all_goals
      go_enter Try.func42, Try.ntmps42
      go_wp2
      go_ret3
      exact .inl ⟨HI.out, rfl, Below.refl _ _⟩

set_option maxRecDepth 100000 in
set_option maxHeartbeats 4000000 in
theorem rread_on (f : List UInt8) (A : Option Addr) (n c : Nat) (w : World) (hr : RB w w.heap.size A n f) (h14 : 14 ≤ n) (hn : n ≤ 9223372036854775807) (h0 : f[0]? = some 66) (hp1 : 1 ≤ shapeP f) (hp2 : shapeP f ≤ 14) :
    Calls Try.prog 42 #[.slice A n c] w (RdPost f w) := by
  have hl := hr.len
  obtain ⟨b, o, x0, rfl, _, hx0, hc0⟩ := hr.at_ (k := 0) (by omega); rw [Nat.add_zero] at hc0
  have cell : ∀ k, k < n → ∃ x, f[k]? = some x ∧ w.cell? ⟨b, o + k, none⟩ = some (.int .u8 (x.toNat : Int)) := fun k hk => by
    have hx := List.getElem?_eq_getElem (l := f) (i := k) (by omega)
    exact ⟨_, hx, hr.cell hx⟩
  have HCELL : Hid (∀ w', Below w.heap.size w w' → ∀ k, k < n → ∃ x, f[k]? = some x ∧ w'.cell? ⟨b, o + k, none⟩ = some (.int .u8 (x.toNat : Int))) := Lib.hid fun w' hb k hk => by
    have hx := List.getElem?_eq_getElem (l := f) (i := k) (by omega)
    exact ⟨_, hx, (hr.later hb).cell hx⟩
  obtain ⟨x1, hx1, hc1⟩ := cell 1 (by omega)
  obtain ⟨x2, hx2, hc2⟩ := cell 2 (by omega)
  obtain ⟨x3, hx3, hc3⟩ := cell 3 (by omega)
  obtain ⟨x4, hx4, hc4⟩ := cell 4 (by omega)
  obtain ⟨x5, hx5, hc5⟩ := cell 5 (by omega)
  rw [hx0] at h0; injection h0 with h0
  obtain ⟨eP, eM⟩ := isF_shape hx0 hx1 hx2 hx3 hx4 hx5 h0
  have hne : ((x0.toNat : Int) != 66) = false := by rw [h0]; rfl
  have d0 : decide ((n : Int) < 14) = false := decide_eq_false (by omega)
  have d1 : decide ((x1.toNat : Int) < 1) = false := decide_eq_false (by omega)
  have d2 : decide ((14 : Int) < (x1.toNat : Int)) = false := decide_eq_false (by omega)
  have HBLT : Hid (b < w.heap.size) := Lib.hid (World.block_lt_of_cell? w ⟨b, o, none⟩ hc0)
  clear h0 hx0 hx1 hx2 hx3 hx4 hx5 cell
  go_enter Try.func42, Try.ntmps42
  have b2 := x2.toNat_lt
  have b3 := x3.toNat_lt
  have b4 := x4.toNat_lt
  have b5 := x5.toNat_lt
  obtain ⟨M, hM⟩ : ∃ M, M = shapeM f := ⟨_, rfl⟩
  rw [← hM] at eM
  have hMI : (((x2.toNat : Int) * 256 + (x3.toNat : Int)) * 256 + (x4.toNat : Int)) * 256 + (x5.toNat : Int) = (M : Int) := by rw [eM]; unfold headN; omega
  have hM32 : M < 4294967296 := by rw [eM]; unfold headN; omega
  have HMF : Hid (M = shapeM f) := Lib.hid hM
  have HPF : Hid (shapeP f = x1.toNat) := Lib.hid eP
  have HIF : Hid (isF f = decide (64 ≤ M ∧ M ≤ 20971520 ∧ M % 8 = 0 ∧ n = 6 + M / 8)) := Lib.hid (by
    unfold isF
    rw [← hM, hl]
    simp only [hp1, hp2, true_and])
  have HL := Lib.hid hl
  have hnb : (0 : Int) ≤ (n : Int) := by omega
  clear eM hM eP hp1 hp2 b2 b3 b4 b5 hr hl
  have hcase : (decide ((M : Int) < 64) = true) ∨ (decide ((M : Int) < 64) = false ∧ decide ((20971520 : Int) < (M : Int)) = true) ∨ (decide ((M : Int) < 64) = false ∧ decide ((20971520 : Int) < (M : Int)) = false ∧ (((M : Int) % 8 != 0) = true)) ∨ (decide ((M : Int) < 64) = false ∧ decide ((20971520 : Int) < (M : Int)) = false ∧ (((M : Int) % 8 != 0) = false) ∧ (((n : Int) != 6 + (M : Int) / 8) = true)) ∨ (64 ≤ M ∧ M ≤ 20971520 ∧ M % 8 = 0 ∧ n = 6 + M / 8) := by
    simp only [decide_eq_true_eq, decide_eq_false_iff_not, bne_iff_ne, bne_eq_false_iff_eq]
    omega
  rcases hcase with d3 | ⟨d3, d4⟩ | ⟨d3, d4, d5⟩ | ⟨d3, d4, d5, d6⟩ | ⟨g1, g2, g3, g4⟩
  case inl | inr.inl | inr.inr.inl | inr.inr.inr.inl =>
    have HI : Hid (isF f = false) := Lib.hid (by
      rw [HIF.out, decide_eq_false_iff_not]
      simp only [decide_eq_true_eq, decide_eq_false_iff_not, bne_iff_ne, bne_eq_false_iff_eq] at *
      omega)
    go_wp2
    go_quiet (fail)
    go_wp2_with fail
    go_ret3
    exact .inl ⟨HI.out, rfl, below_drewN (Below.refl _ _)⟩
  have HI : Hid (isF f = true) := Lib.hid (by rw [HIF.out, decide_eq_true_iff]; exact ⟨g1, g2, g3, g4⟩)
  have d3 : decide ((M : Int) < 64) = false := decide_eq_false (by omega)
  have d4 : decide ((20971520 : Int) < (M : Int)) = false := decide_eq_false (by omega)
  have d5 : ((M : Int) % 8 != 0) = false := by rw [bne_eq_false_iff_eq]; omega
  have d6 : ((n : Int) != 6 + (M : Int) / 8) = false := by rw [bne_eq_false_iff_eq]; omega
  obtain ⟨mq, hmq⟩ : ∃ mq, M = 8 * mq := ⟨M / 8, by omega⟩
  have HMQ := Lib.hid hmq
  have hmqb : mq ≤ 2621440 := by omega
  have hnq : n = 6 + mq := by omega
  have HNQ := Lib.hid hnq
  have hn20 : n ≤ 2621446 := by omega
  clear hmq g1 g2 g3 g4 hnq
  go_wp2
  go_quiet (fail)
  have HB0 := Lib.hid (below_drewN (n := nq) (Below.refl w.heap.size w))
  go_wp2_with fail
  go_loopw [6, 7] (fun v i wr => ∃ q I : Nat, I ≤ n ∧ Hid (I = 6 + q) ∧ i = .int .i64 I ∧ wr.ownsRow w.heap.size 4 1 v (8 * q) (bools (bitsL f (8 * q))) ∧ Hid (Below w.heap.size w wr)) (fun _ i _ => n - (intOf i).toNat)
  case atStart => exact ⟨0, 6, by omega, Lib.hid rfl, rfl, own_nil _ _ _ _, HB0⟩
  case round =>
    clear HB0
    obtain ⟨q, I, hI, HI6, rfl, hown, HB⟩ := hrel
    by_cases hlt : I < n
    case neg =>
      have hd : decide ((I : Int) < (n : Int)) = false := decide_eq_false (by omega)
      have HQ : Hid (8 * q = shapeM f) := Lib.hid (by have := HI6.out; have := HNQ.out; have := HMQ.out; have := HMF.out; omega)
      rw [HQ.out] at hown
      obtain ⟨A', c', e', _, _, _, _⟩ := own_slice hown
      subst e'
      have HO := Lib.hid hown
      obtain ⟨y1, hy1, hcy1⟩ := HCELL.out wr HB.out 1 (by omega)
      have hx1 : (x1.toNat : Int) = (y1.toNat : Int) := by
        have h := (HB.out.cell (p := ⟨b, o + 1, none⟩) HBLT.out).trans hc1
        rw [hcy1] at h
        injection h with h; injection h with _ h; exact h.symm
      have HX1 := Lib.hid hx1
      have hy8 := y1.toNat_lt
      clear hown hx1 hy1
      go_wp2
      go_ret3
      exact .inr ⟨HI.out, A', c', by rw [HPF.out, HX1.out]; rfl, HO.out, HB.out⟩
    have hd : decide ((I : Int) < (n : Int)) = true := decide_eq_true (by omega)
    have hq : q < mq := by have := HI6.out; have := HNQ.out; omega
    obtain ⟨x, hx, hcx⟩ := HCELL.out wr HB.out I hlt
    have hx8 := x.toNat_lt
    have HBIT : Hid (∀ t, t < 8 → (x.toNat / maskN t % 2 == 1) = bitAt f (8 * q + t)) := Lib.hid fun t ht => bitAt_div f q t x ht (by rw [← HI6.out]; exact hx)
    obtain ⟨wo, rfl⟩ : ∃ wo : World, wo = wr := ⟨_, rfl⟩
    clear hx
    go_wp2_with fail
    go_loopw [6, 9] (fun v y wr => ∃ t K : Nat, t ≤ 8 ∧ Hid (K = maskN t) ∧ K ≤ 128 ∧ y = .int .i64 K ∧ wr.ownsRow w.heap.size 4 1 v (8 * q + t) (bools (bitsL f (8 * q + t))) ∧ Hid (Below w.heap.size w wr)) (fun _ y _ => (intOf y).toNat)
    case atStart => exact ⟨0, 128, by omega, Lib.hid rfl, by omega, rfl, hown, HB⟩
    case round =>
      clear hown HB
      obtain ⟨t, K, ht, HK, hK, rfl, hown, HB⟩ := hrel
      by_cases ht8 : t < 8
      case neg =>
        have hK0 : K = 0 := by rw [HK.out, show t = 8 from by omega]; rfl
        have hd2 : decide ((0 : Int) < (K : Int)) = false := decide_eq_false (by omega)
        have hd3 : decide (0 < K) = false := decide_eq_false (by omega)
        have HT8 : Hid (8 * q + t = 8 * (q + 1)) := Lib.hid (by omega)
        rw [HT8.out] at hown
        clear hK0
        go_wp2_with fail
        go_roundw
        case rel => exact ⟨q + 1, I + 1, by omega, Lib.hid (by have := HI6.out; omega), by go_num, hown, HB⟩
        case measure => simp [intOf]; omega
      obtain ⟨m1, m2, m3⟩ := mask_next ⟨t, ht8⟩
      have HM1 : Hid (K / 2 = maskN (t + 1)) := Lib.hid (by rw [HK.out]; exact m1)
      have hK0 : 0 < K := by rw [HK.out]; exact m2
      have hd2 : decide ((0 : Int) < (K : Int)) = true := decide_eq_true (by omega)
      obtain ⟨bit, hbit⟩ : ∃ bit, bit = bitAt f (8 * q + t) := ⟨_, rfl⟩
      obtain ⟨D, hD⟩ : ∃ D, D = x.toNat / K := ⟨_, rfl⟩
      have hxd : (x.toNat : Int) / (K : Int) = (D : Int) := by rw [hD, Int.natCast_ediv]
      have hD8 : D < 256 := by rw [hD]; exact Nat.lt_of_le_of_lt (Nat.div_le_self _ _) hx8
      have hbv : ((D : Int) % 2 == 1) = bit := by
        rw [hbit, ← HBIT.out t ht8, ← HK.out, ← hD, Bool.eq_iff_iff, beq_iff_eq, beq_iff_eq]
        omega
      have HN : Hid (bools (bitsL f (8 * q + t)) ++ bools [bit] = bools (bitsL f (8 * q + (t + 1)))) := Lib.hid (by rw [← bools_app, hbit, ← bitsL_succ]; rfl)
      obtain ⟨v, hv⟩ : ∃ v, v = u6 := ⟨_, rfl⟩
      rw [← hv] at hown ⊢
      have HOW := Lib.hid hown
      clear hv hown m1 m2 m3 hbit hD
      go_wp2_with (at_builtin; go_must (refine wpList_append_reads _ rfl (.tmp 87) (.tmp 93) rfl Try.bls w.heap.size v (8 * q + t) (bools (bitsL f (8 * q + t))) rfl (HOW.out.alloc _) (wr.heap.size + 1) (some ⟨wr.heap.size, 0, none⟩) 1 1 (bools [bit]) rfl (lit_one8 _ _ _ _ rfl) (bools_one _) (by unfold maxLen; omega) (by omega) (by have := HB.out.size; simp; omega) ?_); intro v2 w2 hown2 hg2 hat2; have HB2 := Lib.hid (below_app (HB.out.alloc HB.out.size (.cells #[.bool bit] 4)) (HOW.out.alloc _) hg2 (by have := HB.out.size; simp; omega) (Nat.le_refl _)); rw [HN.out] at hown2; have HO2 := Lib.hid hown2; clear hown2 hg2 hat2)
      have hO2 : w2.ownsRow w.heap.size 4 1 v2 (8 * q + (t + 1)) (bools (bitsL f (8 * q + (t + 1)))) := HO2.out
      clear HO2
      go_roundw
      case rel => exact ⟨t + 1, K / 2, by omega, HM1, by omega, by rw [Int.natCast_ediv]; rfl, hO2, HB2⟩
      case measure => simp [intOf]; omega
theorem rread_any (f : List UInt8) (A : Option Addr) (n c : Nat) (w : World) (hn : n ≤ 9223372036854775807) (hr : RB w w.heap.size A n f) : Calls Try.prog 42 #[.slice A n c] w (RdPost f w) := by
  by_cases h14 : n < 14
  · exact rread_no1 f A n c w hr (.inl h14)
  by_cases h0 : f[0]? = some 66
  · by_cases hp : 1 ≤ shapeP f ∧ shapeP f ≤ 14
    · exact rread_on f A n c w hr (by omega) hn h0 hp.1 hp.2
    · exact rread_no1 f A n c w hr (.inr (.inr ⟨by omega, h0, hp⟩))
  · exact rread_no1 f A n c w hr (.inr (.inl ⟨by omega, h0⟩))
end Go.Proofs.Ythjjihipodhkiaa
