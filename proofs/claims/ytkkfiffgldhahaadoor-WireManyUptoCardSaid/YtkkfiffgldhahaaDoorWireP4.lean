/-
  What the check sum tells: one to three bits turned over in bytes with their sum behind them. No program in sight.
-/
import Derived.Test.YtkkfiffgldhahaaDoorWireP3
namespace Go.Proofs.YtkkfiffgldhahaaDoor
open Go.RowKit

theorem crcL_xor (q : List UInt8) : ∀ u v : Nat, crcL (u ^^^ v) q = crcL u q ^^^ rIter (8 * q.length) v := by
  induction q with
  | nil => intro u v; rfl
  | cons x q ih =>
    intro u v
    show crcL (crcB (u ^^^ v) x) q = crcL (crcB u x) q ^^^ _
    have e : crcB (u ^^^ v) x = crcB u x ^^^ rIter 8 v := by
      unfold crcB
      rw [← rIter_xor]
      congr 1
      ac_rfl
    rw [e, ih, List.length_cons, show 8 * (q.length + 1) = 8 + 8 * q.length from by omega, rIter_add]
theorem rIter_pow (t : Nat) : ∀ k, rIter t (2 ^ (t + k)) = 2 ^ k := by
  induction t with
  | zero => intro k; rw [Nat.zero_add]; rfl
  | succ t ih =>
    intro k
    show rIter t (rStep (2 ^ (t + 1 + k))) = _
    rw [show t + 1 + k = (t + k) + 1 from by omega, Nat.pow_succ, Nat.mul_comm, rStep_even, ih]
theorem flipU_nat (x : UInt8) (t : Nat) (ht : t < 8) : (flipU x t).toNat = x.toNat ^^^ 2 ^ t := by
  unfold flipU
  have hb : x.toNat ^^^ 2 ^ t < 256 := Nat.xor_lt_two_pow (n := 8) x.toNat_lt (pow8_lt ht)
  rw [UInt8.toNat_ofNat', Nat.mod_eq_of_lt hb]
theorem crcB_flip (c : Nat) (x : UInt8) (t : Nat) (ht : t < 8) : crcB c (flipU x t) = crcB c x ^^^ rIter (8 - t) 1 := by
  unfold crcB
  rw [flipU_nat x t ht, ← Nat.xor_assoc, rIter_xor]
  congr 1
  have h := rIter_pow t 0
  rw [Nat.add_zero, Nat.pow_zero] at h
  rw [show (8 : Nat) = t + (8 - t) from by omega, rIter_add, h]
  rw [show t + (8 - t) - t = 8 - t from by omega]
/-- What one bit turned over does to the sum of n bytes. -/
def dl (n : Nat) (z : Int) : Nat := if 0 ≤ z ∧ z < 8 * (n : Int) then rIter (8 * n - z.toNat) 1 else 0
theorem crcL_flip (c : Nat) (l : List UInt8) (z : Int) : crcL c (flipB l z) = crcL c l ^^^ dl l.length z := by
  unfold flipB dl
  by_cases h : 0 ≤ z ∧ z < 8 * (l.length : Int)
  · rw [if_pos h, if_pos h]
    obtain ⟨Z, rfl⟩ : ∃ Z : Nat, z = (Z : Int) := ⟨z.toNat, by omega⟩
    rw [Int.toNat_natCast]
    have hD : Z / 8 < l.length := by omega
    have e1 : l = l.take (Z / 8) ++ (l[Z / 8]'hD :: l.drop (Z / 8 + 1)) := by
      rw [← List.drop_eq_getElem_cons hD, List.take_append_drop]
    have e2 : l.set (Z / 8) (flipU (l[Z / 8]?.getD 0) (Z % 8)) = l.take (Z / 8) ++ (flipU (l[Z / 8]'hD) (Z % 8) :: l.drop (Z / 8 + 1)) := by
      rw [List.getElem?_eq_getElem hD, List.set_eq_take_append_cons_drop, if_pos hD]; rfl
    rw [e2]
    conv => rhs; arg 1; rw [e1]
    rw [crcL_app, crcL_app]
    show crcL (crcB _ (flipU _ _)) _ = crcL (crcB _ _) _ ^^^ _
    rw [crcB_flip _ _ _ (by omega), crcL_xor, ← rIter_add, List.length_drop]
    congr 2
    omega
  · rw [if_neg h, if_neg h, Nat.xor_zero]
def dls (n : Nat) (zs : List Int) : Nat := zs.foldl (fun a z => a ^^^ dl n z) 0
theorem foldl_xor_from (zs : List Int) (f : Int → Nat) : ∀ a : Nat, zs.foldl (fun a z => a ^^^ f z) a = a ^^^ zs.foldl (fun a z => a ^^^ f z) 0 := by
  induction zs with
  | nil => intro a; simp
  | cons z zs ih => intro a; rw [List.foldl_cons, List.foldl_cons, ih, ih (0 ^^^ f z), Nat.zero_xor, Nat.xor_assoc]
theorem crcL_flips (zs : List Int) : ∀ (c : Nat) (l : List UInt8), crcL c (flipsB l zs) = crcL c l ^^^ dls l.length zs := by
  induction zs with
  | nil => intro c l; show crcL c l = _ ^^^ 0; rw [Nat.xor_zero]
  | cons z zs ih =>
    intro c l
    show crcL c (flipsB (flipB l z) zs) = _
    rw [ih, crcL_flip, flipB_length]
    show _ = crcL c l ^^^ (z :: zs).foldl (fun a z => a ^^^ dl l.length z) 0
    rw [List.foldl_cons, foldl_xor_from, Nat.zero_xor, ← Nat.xor_assoc]; rfl

theorem rIter_256 (s : Nat) : rIter 8 (s * 256) = s := by
  show rStep (rStep (rStep (rStep (rStep (rStep (rStep (rStep (s * 256)))))))) = s
  rw [show s * 256 = 2 * (2 * (2 * (2 * (2 * (2 * (2 * (2 * s))))))) from by omega, rStep_even, rStep_even, rStep_even, rStep_even, rStep_even, rStep_even, rStep_even, rStep_even]
theorem crcB_low (v s : Nat) : rIter 8 (v ^^^ s) = crcB v (UInt8.ofNat s) ^^^ (s / 256) := by
  have e : s = (s % 256) ^^^ (s / 256 * 256) := by
    have h := Nat.shiftLeft_add_eq_or_of_lt (a := s / 256) (b := s % 256) (i := 8) (by omega)
    apply Nat.eq_of_testBit_eq
    intro j
    rw [Nat.testBit_xor, show s / 256 * 256 = (s / 256) <<< 8 from by rw [Nat.shiftLeft_eq], Nat.testBit_shiftLeft, show (256 : Nat) = 2 ^ 8 from rfl, Nat.testBit_mod_two_pow, Nat.testBit_div_two_pow]
    by_cases hj : 8 ≤ j
    · have h1 : ¬ j < 8 := by omega
      simp [hj, h1]
    · have : j < 8 := by omega
      simp [hj, this]
  conv => lhs; rw [e]
  rw [← Nat.xor_assoc, rIter_xor, rIter_256]
  unfold crcB
  rw [UInt8.toNat_ofNat']
theorem crcL_lowB (v s : Nat) (hs : s < 4294967296) : crcL v (lowB s) = rIter 32 (v ^^^ s) := by
  have h1 := crcB_low v s
  have h2 := crcB_low (crcB v (UInt8.ofNat s)) (s / 256)
  have h3 := crcB_low (crcB (crcB v (UInt8.ofNat s)) (UInt8.ofNat (s / 256))) (s / 65536)
  have h4 := crcB_low (crcB (crcB (crcB v (UInt8.ofNat s)) (UInt8.ofNat (s / 256))) (UInt8.ofNat (s / 65536))) (s / 16777216)
  rw [show s / 256 / 256 = s / 65536 from by omega] at h2
  rw [show s / 65536 / 256 = s / 16777216 from by omega] at h3
  rw [show s / 16777216 / 256 = 0 from by omega, Nat.xor_zero] at h4
  show crcB (crcB (crcB (crcB v (UInt8.ofNat s)) (UInt8.ofNat (s / 256))) (UInt8.ofNat (s / 65536))) (UInt8.ofNat (s / 16777216)) = _
  rw [show (32 : Nat) = 8 + (8 + (8 + 8)) from rfl, rIter_add, h1, rIter_add, h2, rIter_add, h3, h4]
theorem sum_xor (l : List UInt8) : crcL 4294967295 l ^^^ sumL l = 4294967295 := by
  have hc := crcL_lt l (c := 4294967295) (by omega)
  have e : sumL l = 4294967295 ^^^ crcL 4294967295 l := by
    have h := not_u32 hc
    have h2 : bits .xor .u32 IntKind.u32.max (crcL 4294967295 l : Int) = ((4294967295 ^^^ crcL 4294967295 l : Nat) : Int) := u32_xor_nat 4294967295 _ (by omega) hc
    rw [h2] at h
    unfold sumL
    omega
  rw [e, ← Nat.xor_assoc, Nat.xor_comm (crcL 4294967295 l), Nat.xor_assoc, Nat.xor_self, Nat.xor_zero]
/-- Bytes with their sum behind them leave one and the same rest. -/
theorem seg_rest (D : List UInt8) : crcL 4294967295 (D ++ lowB (sumL D)) = rIter 32 4294967295 := by
  rw [crcL_app, crcL_lowB _ _ (sumL_lt D), sum_xor]
/-- Bytes that have been turned over are not summed right, where the sum of what was turned over is not 0. -/
theorem seg_told (D : List UInt8) (X : List UInt8) (zs : List Int) (hX : X = flipsB (D ++ lowB (sumL D)) zs) (h : dls (D.length + 4) zs ≠ 0) : X.drop D.length ≠ lowB (sumL (X.take D.length)) := by
  intro e
  have h1 : X = X.take D.length ++ lowB (sumL (X.take D.length)) := by rw [← e, List.take_append_drop]
  have h2 := seg_rest (X.take D.length)
  rw [← h1, hX, crcL_flips, seg_rest] at h2
  have hl : (D ++ lowB (sumL D)).length = D.length + 4 := by rw [List.length_append]; rfl
  rw [hl] at h2
  apply h
  apply Nat.eq_of_testBit_eq
  intro i
  have h3 := congrArg (fun z => z.testBit i) h2
  simp only [Nat.testBit_xor] at h3
  rw [Nat.zero_testBit]
  revert h3
  cases (rIter 32 4294967295).testBit i <;> cases (dls (D.length + 4) zs).testBit i <;> simp

theorem flipU_two (x : UInt8) (t : Nat) (ht : t < 8) : flipU (flipU x t) t = x := by
  apply UInt8.toNat_inj.1
  rw [flipU_nat _ t ht, flipU_nat _ t ht, Nat.xor_assoc, Nat.xor_self, Nat.xor_zero]
theorem flipB_two (l : List UInt8) (z : Int) : flipB (flipB l z) z = l := by
  unfold flipB
  by_cases h : 0 ≤ z ∧ z < 8 * (l.length : Int)
  · rw [if_pos h, List.length_set, if_pos h]
    have hD : z.toNat / 8 < l.length := by omega
    rw [List.getElem?_set_self hD, List.set_set]
    simp only [Option.getD_some]
    rw [flipU_two _ _ (by omega), List.getElem?_eq_getElem hD]
    simp
  · rw [if_neg h, if_neg h]
theorem flipB_out {l : List UInt8} {z : Int} (h : ¬(0 ≤ z ∧ z < 8 * (l.length : Int))) : flipB l z = l := by unfold flipB; rw [if_neg h]
/-- One to three bits: what they do to the sum is not 0, or they do nothing. -/
theorem three_told (l : List UInt8) (i j k : Int) (hn : l.length ≤ 268435455) (h : flipsB l [i, j, k] ≠ l) : dls l.length [i, j, k] ≠ 0 := by
  have e : dls l.length [i, j, k] = dl l.length i ^^^ dl l.length j ^^^ dl l.length k := by
    show ((0 ^^^ dl l.length i) ^^^ dl l.length j) ^^^ dl l.length k = _
    rw [Nat.zero_xor]
  rw [e]
  have hf : flipsB l [i, j, k] = flipB (flipB (flipB l i) j) k := rfl
  rw [hf] at h
  have two : ∀ a b : Int, 0 ≤ a ∧ a < 8 * (l.length : Int) → 0 ≤ b ∧ b < 8 * (l.length : Int) → a ≠ b → rIter (8 * l.length - a.toNat) 1 ^^^ rIter (8 * l.length - b.toNat) 1 ≠ 0 := by
    intro a b ha hb hab
    rcases Nat.lt_or_ge (8 * l.length - a.toNat) (8 * l.length - b.toNat) with hlt | hge
    · exact two_no hlt (by omega)
    · rw [Nat.xor_comm]
      exact two_no (by omega) (by omega)
  unfold dl
  by_cases hi : 0 ≤ i ∧ i < 8 * (l.length : Int)
  · by_cases hj : 0 ≤ j ∧ j < 8 * (l.length : Int)
    · by_cases hk : 0 ≤ k ∧ k < 8 * (l.length : Int)
      · rw [if_pos hi, if_pos hj, if_pos hk]
        exact three_no _ _ _
      · rw [if_pos hi, if_pos hj, if_neg hk, Nat.xor_zero]
        refine two i j hi hj fun hij => h ?_
        subst hij
        rw [flipB_two, flipB_out hk]
    · by_cases hk : 0 ≤ k ∧ k < 8 * (l.length : Int)
      · rw [if_pos hi, if_neg hj, if_pos hk, Nat.xor_zero]
        refine two i k hi hk fun hik => h ?_
        subst hik
        rw [flipB_out (l := flipB l i) (z := j) (by rw [flipB_length]; exact hj), flipB_two]
      · rw [if_pos hi, if_neg hj, if_neg hk, Nat.xor_zero, Nat.xor_zero]
        exact one_no _
  · by_cases hj : 0 ≤ j ∧ j < 8 * (l.length : Int)
    · by_cases hk : 0 ≤ k ∧ k < 8 * (l.length : Int)
      · rw [if_neg hi, if_pos hj, if_pos hk, Nat.zero_xor]
        refine two j k hj hk fun hjk => h ?_
        subst hjk
        rw [flipB_out hi, flipB_two]
      · rw [if_neg hi, if_pos hj, if_neg hk, Nat.zero_xor, Nat.xor_zero]
        exact one_no _
    · by_cases hk : 0 ≤ k ∧ k < 8 * (l.length : Int)
      · rw [if_neg hi, if_neg hj, if_pos hk, Nat.zero_xor, Nat.zero_xor]
        exact one_no _
      · exact absurd (by rw [flipB_out hi, flipB_out hj, flipB_out hk]) h

/-! A frame in its two parts. -/
theorem flipB_take (l : List UInt8) (z : Int) (m : Nat) (hm : m ≤ l.length) : (flipB l z).take m = flipB (l.take m) z := by
  unfold flipB
  rw [List.length_take, Nat.min_eq_left hm]
  by_cases h : 0 ≤ z ∧ z < 8 * (l.length : Int)
  · rw [if_pos h]
    by_cases h2 : 0 ≤ z ∧ z < 8 * (m : Int)
    · rw [if_pos h2, List.take_set, List.getElem?_take, if_pos (by omega)]
    · rw [if_neg h2, List.take_set, List.set_eq_of_length_le (by rw [List.length_take]; omega)]
  · rw [if_neg h, if_neg (by omega)]
theorem flipB_drop (l : List UInt8) (z : Int) (m : Nat) (hm : m ≤ l.length) : (flipB l z).drop m = flipB (l.drop m) (z - 8 * m) := by
  unfold flipB
  rw [List.length_drop]
  by_cases h : 0 ≤ z ∧ z < 8 * (l.length : Int)
  · rw [if_pos h]
    by_cases h2 : 0 ≤ z - 8 * m ∧ z - 8 * m < 8 * ((l.length - m : Nat) : Int)
    · have e1 : (z - 8 * m).toNat / 8 = z.toNat / 8 - m := by omega
      have e2 : (z - 8 * m).toNat % 8 = z.toNat % 8 := by omega
      rw [if_pos h2, List.drop_set, if_neg (by omega), e1, e2, List.getElem?_drop, show m + (z.toNat / 8 - m) = z.toNat / 8 from by omega]
    · rw [if_neg h2, List.drop_set, if_pos (by omega)]
  · rw [if_neg h, if_neg (by omega)]
theorem flipsB_take (zs : List Int) (m : Nat) : ∀ l : List UInt8, m ≤ l.length → (flipsB l zs).take m = flipsB (l.take m) zs := by
  induction zs with
  | nil => intro l _; rfl
  | cons z zs ih =>
    intro l hm
    show (flipsB (flipB l z) zs).take m = flipsB (flipB (l.take m) z) zs
    rw [ih _ (by rw [flipB_length]; exact hm), flipB_take l z m hm]
theorem flipsB_drop (zs : List Int) (m : Nat) : ∀ l : List UInt8, m ≤ l.length → (flipsB l zs).drop m = flipsB (l.drop m) (zs.map fun z : Int => z - 8 * (m : Int)) := by
  induction zs with
  | nil => intro l _; rfl
  | cons z zs ih =>
    intro l hm
    show (flipsB (flipB l z) zs).drop m = flipsB (flipB (l.drop m) (z - 8 * m)) (zs.map fun z : Int => z - 8 * (m : Int))
    rw [ih _ (by rw [flipB_length]; exact hm), flipB_drop l z m hm]

/-- A frame's four bytes of length, read again. -/
theorem be4_num (n : Nat) (h : n < 4294967296) (r : List UInt8) : numF (be4 n ++ r) 0 = n := by
  unfold numF be4 numB
  simp only [List.cons_append, List.nil_append, List.getElem?_cons_succ, List.getElem?_cons_zero, Option.getD_some, UInt8.toNat_ofNat', Nat.zero_add]
  omega
theorem cutF_app (l r : List UInt8) (k m : Nat) (h : k + m ≤ l.length) : cutF (l ++ r) k m = cutF l k m := by
  unfold cutF
  rw [List.drop_append_of_le_length (by omega), List.take_append_of_le_length (by rw [List.length_drop]; omega)]
theorem isB_cut (l : List UInt8) (k s : Nat) : isB l k s = (cutF l k 4 == lowB s) := rfl
theorem numF_app (l r : List UInt8) (k : Nat) (h : k + 4 ≤ l.length) : numF (l ++ r) k = numF l k := by
  unfold numF
  rw [List.getElem?_append_left (by omega), List.getElem?_append_left (by omega), List.getElem?_append_left (by omega), List.getElem?_append_left (by omega)]
theorem numF_take (l : List UInt8) : numF (l.take 8) 0 = numF l 0 := by
  unfold numF
  rw [List.getElem?_take, List.getElem?_take, List.getElem?_take, List.getElem?_take, if_pos (by decide), if_pos (by decide), if_pos (by decide), if_pos (by decide)]
theorem frameB_take8 (l : List UInt8) : (frameB l).take 8 = headF l.length := by
  unfold frameB
  rw [List.append_assoc, List.take_append_of_le_length (by simp [headF, be4, lowB])]
  exact List.take_of_length_le (by simp [headF, be4, lowB])
theorem frameB_drop8 (l : List UInt8) : (frameB l).drop 8 = l ++ lowB (sumL l) := by
  unfold frameB
  rw [List.append_assoc]
  exact List.drop_left' (by simp [headF, be4, lowB])
/-- A frame with bits turned over, something behind it: told, where what was turned over in either part is told. -/
theorem frame_told (l : List UInt8) (zs : List Int) (r : List UInt8) (hl : l.length ≤ 1048576) (hne : flipsB (frameB l) zs ≠ frameB l)
    (hh : ∀ (D : List UInt8) (ys : List Int), D.length ≤ 1048580 → (ys = zs ∨ ys = zs.map fun z : Int => z - 8 * ((8 : Nat) : Int)) → flipsB D ys ≠ D → dls D.length ys ≠ 0) :
    readFA (flipsB (frameB l) zs ++ r) 0 = ([], 0, 12) := by
  obtain ⟨X, hX⟩ : ∃ X, X = flipsB (frameB l) zs := ⟨_, rfl⟩
  have hXl : X.length = l.length + 12 := by rw [hX, flipsB_length, frameB_length]
  have h8 : X.take 8 = flipsB (headF l.length) zs := by rw [hX, flipsB_take _ 8 _ (by rw [frameB_length]; omega), frameB_take8]
  have h9 : X.drop 8 = flipsB (l ++ lowB (sumL l)) (zs.map fun z : Int => z - 8 * ((8 : Nat) : Int)) := by rw [hX, flipsB_drop _ 8 _ (by rw [frameB_length]; omega), frameB_drop8]
  rw [← hX] at hne ⊢
  unfold readFA
  rw [if_neg (by omega)]
  show readF (X ++ r) 0 = _
  unfold readF
  rw [if_neg (by rw [List.length_append]; omega), cutF_app X r 0 4 (by omega), isB_cut, cutF_app X r (0 + 4) 4 (by omega)]
  have hc4 : cutF X 0 4 = (X.take 8).take 4 := by unfold cutF; rw [List.drop_zero, List.take_take]; rfl
  have hc8 : cutF X (0 + 4) 4 = (X.take 8).drop 4 := by unfold cutF; rw [List.drop_take]
  rw [hc4, hc8]
  by_cases hA : X.take 8 = headF l.length
  · have hok : ((X.take 8).drop 4 == lowB (sumL ((X.take 8).take 4))) = true := by
      rw [hA]
      unfold headF
      rw [List.drop_left' (by simp [be4]), List.take_left' (by simp [be4])]
      simp
    rw [if_neg (by rw [hok]; decide)]
    have hnum : numF (X ++ r) 0 = l.length := by
      rw [numF_app X r 0 (by omega), ← numF_take, hA]
      exact be4_num _ (by omega) _
    rw [hnum, if_neg (by omega), if_neg (by rw [List.length_append]; omega), isB_cut, cutF_app X r (0 + 8) l.length (by omega), cutF_app X r (0 + 8 + l.length) 4 (by omega)]
    have hne2 : X.drop 8 ≠ l ++ lowB (sumL l) := by
      intro e
      apply hne
      rw [← List.take_append_drop 8 X, hA, e, ← frameB_take8, ← frameB_drop8, List.take_append_drop]
    have hd : dls (l.length + 4) (zs.map fun z : Int => z - 8 * ((8 : Nat) : Int)) ≠ 0 := by
      have e : (l ++ lowB (sumL l)).length = l.length + 4 := by rw [List.length_append]; rfl
      rw [← e]
      exact hh _ _ (by rw [e]; omega) (.inr rfl) (by rw [← h9]; exact hne2)
    have ht := seg_told l (X.drop 8) _ h9 hd
    have c1 : cutF X (0 + 8 + l.length) 4 = (X.drop 8).drop l.length := by
      unfold cutF
      rw [List.drop_drop, Nat.zero_add]
      exact List.take_of_length_le (by rw [List.length_drop]; omega)
    have c2 : cutF X (0 + 8) l.length = (X.drop 8).take l.length := rfl
    rw [c1, c2, if_pos (by simpa using ht)]
  · have hd : dls (4 + 4) zs ≠ 0 := by
      have e : (headF l.length).length = 4 + 4 := rfl
      rw [← e]
      exact hh _ _ (by rw [e]; omega) (.inl rfl) (by rw [← h8]; exact hA)
    have ht := seg_told (be4 l.length) (X.take 8) zs h8 hd
    have e4 : (be4 l.length).length = 4 := rfl
    rw [e4] at ht
    rw [if_pos (by simpa using ht)]
theorem frame_three (l : List UInt8) (i j k : Int) (r : List UInt8) (hl : l.length ≤ 1048576) (hne : flipsB (frameB l) [i, j, k] ≠ frameB l) : readFA (flipsB (frameB l) [i, j, k] ++ r) 0 = ([], 0, 12) := by
  refine frame_told l _ r hl hne fun D ys hD hys h => ?_
  rcases hys with rfl | rfl
  · exact three_told D i j k (by omega) h
  · exact three_told D _ _ _ (by omega) h

end Go.Proofs.YtkkfiffgldhahaaDoor
