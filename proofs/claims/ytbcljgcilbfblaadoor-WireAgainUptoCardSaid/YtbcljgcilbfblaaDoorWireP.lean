/-
  The check sum of parts, a number's four bytes. No program in sight.
-/
import Derived.Test.YtbcljgcilbfblaaDoorCrc
import Derived.Test.YtbcljgcilbfblaaDoorBytes
import Derived.Laws.BitsAllLaws
namespace Go.Proofs.YtbcljgcilbfblaaDoor
open Go.RowKit

/-- The table of the program. -/
def tabL : List Nat := [0, 274646895, 549293790, 820201905, 1098587580, 1361435347, 1640403810, 1905808397, 2197175160, 2460548119, 2722870694, 2987750089, 3280807620, 3553878443, 3811616794, 4084100981]
def tabN (i : Nat) : Nat := tabL[i]?.getD 0
theorem tab_iter : ∀ i : Fin 16, rIter 4 i.val = tabN i.val := by decide +kernel
theorem tabN_lt : ∀ i : Fin 16, tabN i.val < 4294967296 := by decide +kernel
theorem rStep_even (c : Nat) : rStep (2 * c) = c := by
  unfold rStep
  have : (2 * c).testBit 0 = false := by simp [Nat.testBit_zero]
  rw [this, Nat.shiftRight_eq_div_pow]; simp
theorem rIter_four (c : Nat) : rIter 4 c = (c / 16) ^^^ tabN (c % 16) := by
  have e : c = (16 * (c / 16)) ^^^ (c % 16) := by
    have h := Nat.shiftLeft_add_eq_or_of_lt (a := c / 16) (b := c % 16) (i := 4) (by omega)
    apply Nat.eq_of_testBit_eq
    intro j
    rw [Nat.testBit_xor, show 16 * (c / 16) = (c / 16) <<< 4 from by rw [Nat.shiftLeft_eq]; omega, Nat.testBit_shiftLeft, show (16 : Nat) = 2 ^ 4 from rfl, Nat.testBit_mod_two_pow, Nat.testBit_div_two_pow]
    by_cases hj : 4 ≤ j
    · have : ¬ j < 4 := by omega
      simp [hj, this]
    · have : j < 4 := by omega
      simp [hj, this]
  have e2 : rIter 4 (16 * (c / 16)) = c / 16 := by
    show rStep (rStep (rStep (rStep _))) = _
    rw [show 16 * (c / 16) = 2 * (2 * (2 * (2 * (c / 16)))) from by omega, rStep_even, rStep_even, rStep_even, rStep_even]
  have e3 : rIter 4 (c % 16) = tabN (c % 16) := tab_iter ⟨c % 16, by omega⟩
  calc rIter 4 c = rIter 4 ((16 * (c / 16)) ^^^ (c % 16)) := by rw [← e]
    _ = _ := by rw [rIter_xor, e2, e3]

def crcB (c : Nat) (b : UInt8) : Nat := rIter 8 (c ^^^ b.toNat)
def crcL (c : Nat) (l : List UInt8) : Nat := l.foldl crcB c
theorem crcL_snoc (c : Nat) (l : List UInt8) (b : UInt8) : crcL c (l ++ [b]) = crcB (crcL c l) b := by simp [crcL, List.foldl_append]
theorem crcL_app (c : Nat) (l m : List UInt8) : crcL c (l ++ m) = crcL (crcL c l) m := by simp [crcL, List.foldl_append]
theorem crcB_lt {c : Nat} (h : c < 4294967296) (b : UInt8) : crcB c b < 4294967296 :=
  rIter_lt 8 (Nat.xor_lt_two_pow (n := 32) h (by have := b.toNat_lt; omega))
theorem crcL_lt (l : List UInt8) : ∀ {c : Nat}, c < 4294967296 → crcL c l < 4294967296 := by
  induction l with
  | nil => exact fun h => h
  | cons b l ih => exact fun h => ih (crcB_lt h b)
/-- The sum of bytes. -/
def sumL (l : List UInt8) : Nat := 4294967295 - crcL 4294967295 l
theorem sumL_lt (l : List UInt8) : sumL l < 4294967296 := by unfold sumL; omega

/-- The first half of a byte's step: the place in the table, what comes of it. -/
def nib1 (c : Nat) (b : UInt8) : Nat := (c ^^^ b.toNat) % 16
def mid (c : Nat) (b : UInt8) : Nat := (c / 16) ^^^ tabN (nib1 c b)
def nib2 (c : Nat) (b : UInt8) : Nat := (mid c b ^^^ b.toNat / 16) % 16
theorem nib1_lt (c : Nat) (b : UInt8) : nib1 c b < 16 := Nat.mod_lt _ (by decide)
theorem nib2_lt (c : Nat) (b : UInt8) : nib2 c b < 16 := Nat.mod_lt _ (by decide)
theorem mid_lt {c : Nat} (h : c < 4294967296) (b : UInt8) : mid c b < 4294967296 :=
  Nat.xor_lt_two_pow (n := 32) (by omega) (tabN_lt ⟨_, nib1_lt c b⟩)
theorem xor_mod16 (a b : Nat) : (a ^^^ b) % 16 = (a % 16) ^^^ (b % 16) := by
  rw [show (16 : Nat) = 2 ^ 4 from rfl]
  apply Nat.eq_of_testBit_eq
  intro j
  simp only [Nat.testBit_mod_two_pow, Nat.testBit_xor]
  cases decide (j < 4) <;> simp
theorem xor_div16 (a b : Nat) : (a ^^^ b) / 16 = (a / 16) ^^^ (b / 16) := by
  rw [show (16 : Nat) = 2 ^ 4 from rfl]
  apply Nat.eq_of_testBit_eq
  intro j
  simp only [Nat.testBit_div_two_pow, Nat.testBit_xor]
theorem crcB_mid (c : Nat) (b : UInt8) : crcB c b = (mid c b / 16) ^^^ tabN (nib2 c b) := by
  have hb := b.toNat_lt
  have e1 : rIter 4 (c ^^^ b.toNat) = mid c b ^^^ b.toNat / 16 := by
    rw [rIter_four, xor_div16]
    unfold mid nib1
    ac_rfl
  have : crcB c b = rIter 4 (rIter 4 (c ^^^ b.toNat)) := rIter_add 4 4 _
  rw [this, e1, rIter_four, xor_div16, show b.toNat / 16 / 16 = 0 from by omega, Nat.xor_zero]
  rfl
theorem and15_walk (a : Nat) (h : a < 256) : bits .and .u8 (a : Int) 15 = ((a % 16 : Nat) : Int) := by
  rw [show (15 : Int) = ((15 : Nat) : Int) from rfl, u8_and_nat _ _ h (by omega), show (15 : Nat) = 2 ^ 4 - 1 from rfl, Nat.and_two_pow_sub_one_eq_mod]
theorem nib1_walk (c : Nat) (b : UInt8) : bits .and .u8 (bits .xor .u8 ((c : Int) % 256) (b.toNat : Int)) 15 = ((nib1 c b : Nat) : Int) := by
  have hb := b.toNat_lt
  have e : (c : Int) % 256 = ((c % 256 : Nat) : Int) := by omega
  have hx : (c % 256) ^^^ b.toNat < 256 := Nat.xor_lt_two_pow (n := 8) (by omega) (by omega)
  rw [e, u8_xor_nat _ _ (by omega) (by omega), and15_walk _ hx]
  unfold nib1
  rw [xor_mod16, xor_mod16 c, show c % 256 % 16 = c % 16 from by omega]
theorem nib2_walk (c : Nat) (b : UInt8) : bits .and .u8 (bits .xor .u8 ((mid c b : Int) % 256) ((b.toNat : Int) / 16)) 15 = ((nib2 c b : Nat) : Int) := by
  have hb := b.toNat_lt
  have e : (mid c b : Int) % 256 = ((mid c b % 256 : Nat) : Int) := by omega
  have e2 : (b.toNat : Int) / 16 = ((b.toNat / 16 : Nat) : Int) := by omega
  have hx : (mid c b % 256) ^^^ (b.toNat / 16) < 256 := Nat.xor_lt_two_pow (n := 8) (by omega) (by omega)
  rw [e, e2, u8_xor_nat _ _ (by omega) (by omega), and15_walk _ hx]
  unfold nib2
  rw [xor_mod16, xor_mod16 (mid c b), show mid c b % 256 % 16 = mid c b % 16 from by omega]
theorem mid_walk (c : Nat) (b : UInt8) (h : c < 4294967296) : bits .xor .u32 ((c : Int) / 16) ((tabN (nib1 c b) : Nat) : Int) = ((mid c b : Nat) : Int) := by
  rw [show (c : Int) / 16 = ((c / 16 : Nat) : Int) from by omega, u32_xor_nat _ _ (by omega) (tabN_lt ⟨_, nib1_lt c b⟩)]; rfl
theorem crcB_walk (c : Nat) (b : UInt8) (h : c < 4294967296) : bits .xor .u32 ((mid c b : Int) / 16) ((tabN (nib2 c b) : Nat) : Int) = ((crcB c b : Nat) : Int) := by
  have := mid_lt h b
  rw [show (mid c b : Int) / 16 = ((mid c b / 16 : Nat) : Int) from by omega, u32_xor_nat _ _ (by omega) (tabN_lt ⟨_, nib2_lt c b⟩), crcB_mid]

theorem not_u32 {C : Nat} (h : C < 4294967296) : bits .xor .u32 IntKind.u32.max (C : Int) = ((4294967295 - C : Nat) : Int) := by
  show bits .xor .u32 ((4294967295 : Nat) : Int) (C : Int) = _
  rw [u32_xor_nat _ _ (by omega) h]
  congr 1
  apply Nat.eq_of_testBit_eq
  intro j
  have h1 := Nat.testBit_two_pow_sub_succ (x := 0) (n := 32) (by omega) j
  have h2 := Nat.testBit_two_pow_sub_succ (x := C) (n := 32) (by omega) j
  rw [show (2 : Nat) ^ 32 - (0 + 1) = 4294967295 from rfl] at h1
  rw [show (2 : Nat) ^ 32 - (C + 1) = 4294967295 - C from by omega] at h2
  rw [Nat.testBit_xor, h1, h2]
  by_cases hj : j < 32
  · simp [hj]
  · have : C.testBit j = false := Nat.testBit_lt_two_pow (Nat.lt_of_lt_of_le h (by
      have : 2 ^ 32 ≤ 2 ^ j := Nat.pow_le_pow_right (by decide) (by omega)
      simpa using this))
    simp [hj, this]

/-- A number's four bytes, the lowest first. -/
def lowB (s : Nat) : List UInt8 := [UInt8.ofNat s, UInt8.ofNat (s / 256), UInt8.ofNat (s / 65536), UInt8.ofNat (s / 16777216)]
theorem u8v_mod (s : Nat) : u8v (UInt8.ofNat s) = .int .u8 ((s : Int) % 256) := by
  unfold u8v
  rw [UInt8.toNat_ofNat', Int.natCast_emod]; rfl
/-- The table lies in block b. -/
def TabAt (b : Nat) (w : World) : Prop := b < w.heap.size ∧ ∀ i, i < 16 → w.cell? ⟨b, i, none⟩ = some (.int .u32 (tabN i))
theorem TabAt.later {b : Nat} {w w' : World} (h : TabAt b w) (hb : Below w.heap.size w w') : TabAt b w' :=
  ⟨Nat.lt_of_lt_of_le h.1 hb.size, fun i hi => (hb.cell (p := ⟨b, i, none⟩) h.1).trans (h.2 i hi)⟩
theorem TabAt.below {b B : Nat} {w w' : World} (h : TabAt b w) (hB : b < B) (hb : Below B w w') : TabAt b w' :=
  ⟨Nat.lt_of_lt_of_le h.1 hb.size, fun i hi => (hb.cell (p := ⟨b, i, none⟩) hB).trans (h.2 i hi)⟩

/-- A number's four bytes, the highest first. -/
def be4 (n : Nat) : List UInt8 := [UInt8.ofNat (n / 16777216), UInt8.ofNat (n / 65536), UInt8.ofNat (n / 256), UInt8.ofNat n]
/-- A frame. -/
def headF (n : Nat) : List UInt8 := be4 n ++ lowB (sumL (be4 n))
def frameB (l : List UInt8) : List UInt8 := headF l.length ++ l ++ lowB (sumL l)
theorem frameB_length (l : List UInt8) : (frameB l).length = l.length + 12 := by
  simp [frameB, headF, be4, lowB]
def frameE (l : List UInt8) : Int := if l.length ≤ 1048576 then 0 else 2
def frameR (l : List UInt8) : List UInt8 := if l.length ≤ 1048576 then frameB l else []

theorem i64_or_nat (a b : Nat) (ha : a < 9223372036854775808) (hb : b < 9223372036854775808) : bits .or .i64 (a : Int) (b : Int) = ((a ||| b : Nat) : Int) := by
  have hx : a ||| b < 2 ^ 63 := Nat.or_lt_two_pow (by omega) (by omega)
  show IntKind.i64.wrap ((BitVec.ofInt 64 (a : Int) ||| BitVec.ofInt 64 (b : Int)).toNat : Int) = _
  rw [BitVec.toNat_or, ofInt_u64 a (by omega), ofInt_u64 b (by omega), IntKind.wrap_i64]
  omega
/-- The number that four bytes say, the highest first. -/
def numB (x2 x3 x4 x5 : UInt8) : Nat := ((x2.toNat * 256 + x3.toNat) * 256 + x4.toNat) * 256 + x5.toNat
theorem numB_lt (x2 x3 x4 x5 : UInt8) : numB x2 x3 x4 x5 < 4294967296 := by
  have := x2.toNat_lt; have := x3.toNat_lt; have := x4.toNat_lt; have := x5.toNat_lt
  unfold numB; omega
theorem shl_or4 (a b k : Nat) (h : b < 2 ^ k) : (a * 2 ^ k) ||| b = a * 2 ^ k + b := by
  rw [← Nat.shiftLeft_eq, Nat.shiftLeft_add_eq_or_of_lt h]
theorem numB_or (x2 x3 x4 x5 : UInt8) : ((x2.toNat * 16777216 ||| x3.toNat * 65536) ||| x4.toNat * 256) ||| x5.toNat = numB x2 x3 x4 x5 := by
  have h2 := x2.toNat_lt; have h3 := x3.toNat_lt; have h4 := x4.toNat_lt; have h5 := x5.toNat_lt
  unfold numB
  have e1 : x2.toNat * 16777216 ||| x3.toNat * 65536 = (x2.toNat * 256 + x3.toNat) * 65536 := by
    have := shl_or4 x2.toNat (x3.toNat * 65536) 24 (by omega)
    rw [show (2 : Nat) ^ 24 = 16777216 from rfl] at this
    rw [this]; omega
  have e2 : (x2.toNat * 256 + x3.toNat) * 65536 ||| x4.toNat * 256 = ((x2.toNat * 256 + x3.toNat) * 256 + x4.toNat) * 256 := by
    have := shl_or4 (x2.toNat * 256 + x3.toNat) (x4.toNat * 256) 16 (by omega)
    rw [show (2 : Nat) ^ 16 = 65536 from rfl] at this
    rw [this]; omega
  have e3 := shl_or4 ((x2.toNat * 256 + x3.toNat) * 256 + x4.toNat) x5.toNat 8 (by omega)
  rw [show (2 : Nat) ^ 8 = 256 from rfl] at e3
  rw [e1, e2, e3]
theorem numB_bits (x2 x3 x4 x5 : UInt8) : bits .or .i64 (bits .or .i64 (bits .or .i64 ((x2.toNat : Int) * 16777216) ((x3.toNat : Int) * 65536)) ((x4.toNat : Int) * 256)) (x5.toNat : Int) = ((numB x2 x3 x4 x5 : Nat) : Int) := by
  have h2 := x2.toNat_lt; have h3 := x3.toNat_lt; have h4 := x4.toNat_lt; have h5 := x5.toNat_lt
  rw [show (x2.toNat : Int) * 16777216 = ((x2.toNat * 16777216 : Nat) : Int) from by omega, show (x3.toNat : Int) * 65536 = ((x3.toNat * 65536 : Nat) : Int) from by omega, show (x4.toNat : Int) * 256 = ((x4.toNat * 256 : Nat) : Int) from by omega]
  have l1 := Nat.or_lt_two_pow (n := 32) (x := x2.toNat * 16777216) (y := x3.toNat * 65536) (by omega) (by omega)
  have l2 := Nat.or_lt_two_pow (n := 32) (x := x2.toNat * 16777216 ||| x3.toNat * 65536) (y := x4.toNat * 256) l1 (by omega)
  rw [i64_or_nat _ _ (by omega) (by omega), i64_or_nat _ _ (by omega) (by omega), i64_or_nat _ _ (by omega) (by omega), numB_or]
theorem wrap64_id {x : Int} (h1 : -9223372036854775808 ≤ x) (h2 : x < 9223372036854775808) : wrap64 x = x := by unfold wrap64; omega
theorem numB_walk (x2 x3 x4 x5 : UInt8) : bits .or .i64 (bits .or .i64 (bits .or .i64 (wrap64 (wrap64 (x2.toNat : Int) * 16777216)) (wrap64 (wrap64 (x3.toNat : Int) * 65536))) (wrap64 (wrap64 (x4.toNat : Int) * 256))) (wrap64 (x5.toNat : Int)) = ((numB x2 x3 x4 x5 : Nat) : Int) := by
  have h2 := x2.toNat_lt; have h3 := x3.toNat_lt; have h4 := x4.toNat_lt; have h5 := x5.toNat_lt
  rw [wrap64_id (x := (x2.toNat : Int)) (by omega) (by omega), wrap64_id (x := (x3.toNat : Int)) (by omega) (by omega), wrap64_id (x := (x4.toNat : Int)) (by omega) (by omega), wrap64_id (x := (x5.toNat : Int)) (by omega) (by omega),
    wrap64_id (by omega) (by omega), wrap64_id (by omega) (by omega), wrap64_id (by omega) (by omega), numB_bits]
/-- Do a sum's four bytes stand at a place? -/
def isB (l : List UInt8) (k s : Nat) : Bool := (l.drop k).take 4 == lowB s
/-- The number at a place. -/
def numF (l : List UInt8) (k : Nat) : Nat := numB (l[k]?.getD 0) (l[k + 1]?.getD 0) (l[k + 2]?.getD 0) (l[k + 3]?.getD 0)
theorem numF_lt (l : List UInt8) (k : Nat) : numF l k < 4294967296 := numB_lt _ _ _ _
/-- So many bytes at a place. -/
def cutF (l : List UInt8) (k m : Nat) : List UInt8 := (l.drop k).take m
/-- What ReadFrame answers at a place within. -/
def readF (l : List UInt8) (k : Nat) : List UInt8 × Nat × Nat :=
  if l.length < k + 8 then ([], 0, 10)
  else if isB l (k + 4) (sumL (cutF l k 4)) = false then ([], 0, 12)
  else if 1048576 < numF l k then ([], 0, 13)
  else if l.length < k + 8 + numF l k + 4 then ([], 0, 10)
  else if isB l (k + 8 + numF l k) (sumL (cutF l (k + 8) (numF l k))) = false then ([], 0, 12)
  else (cutF l (k + 8) (numF l k), k + 8 + numF l k + 4, 0)
def readFA (l : List UInt8) (a : Int) : List UInt8 × Nat × Nat := if a < 0 ∨ (l.length : Int) < a then ([], 0, 1) else readF l a.toNat

end Go.Proofs.YtbcljgcilbfblaaDoor
