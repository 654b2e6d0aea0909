/-
  Numbers in groups of seven bits. No program in sight.
-/
import Derived.Test.YtbcljgcilbfblaaDoorWireP
namespace Go.Proofs.YtbcljgcilbfblaaDoor
open Go.RowKit

def uintF : Nat → Nat → List UInt8
  | 0, v => [UInt8.ofNat v]
  | k + 1, v => if v < 128 then [UInt8.ofNat v] else UInt8.ofNat (v % 128 + 128) :: uintF k (v / 128)
/-- A number's bytes. -/
def uintB (v : Nat) : List UInt8 := uintF v v
theorem uintF_same : ∀ (f g v : Nat), v ≤ f → v ≤ g → uintF f v = uintF g v := by
  intro f
  induction f with
  | zero =>
    intro g v h1 h2
    obtain rfl : v = 0 := by omega
    cases g <;> rfl
  | succ f ih =>
    intro g v h1 h2
    cases g with
    | zero =>
      obtain rfl : v = 0 := by omega
      rfl
    | succ g =>
      simp only [uintF]
      split
      · rfl
      · rw [ih g (v / 128) (by omega) (by omega)]
theorem uintB_lt {v : Nat} (h : v < 128) : uintB v = [UInt8.ofNat v] := by
  unfold uintB
  cases v with
  | zero => rfl
  | succ v => simp only [uintF]; rw [if_pos h]
theorem uintB_ge {v : Nat} (h : 128 ≤ v) : uintB v = UInt8.ofNat (v % 128 + 128) :: uintB (v / 128) := by
  unfold uintB
  cases v with
  | zero => omega
  | succ v =>
    simp only [uintF]
    rw [if_neg (by omega), uintF_same v ((v + 1) / 128) _ (by omega) (Nat.le_refl _)]
theorem uintB_len : ∀ (k v : Nat), v < 128 ^ (k + 1) → (uintB v).length ≤ k + 1 := by
  intro k
  induction k with
  | zero => intro v h; rw [uintB_lt (by simpa using h)]; simp
  | succ k ih =>
    intro v h
    by_cases hv : v < 128
    · rw [uintB_lt hv]; simp
    · rw [uintB_ge (by omega), List.length_cons]
      have := ih (v / 128) (Nat.div_lt_of_lt_mul (by rw [Nat.pow_succ] at h; omega))
      omega
theorem uintB_ten {v : Nat} (h : v < 18446744073709551616) : (uintB v).length ≤ 10 := uintB_len 9 v (Nat.lt_trans h (by decide))
theorem uintB_pos (v : Nat) : 0 < (uintB v).length := by
  by_cases h : v < 128
  · rw [uintB_lt h]; simp
  · rw [uintB_ge (by omega)]; simp
theorem or128_fin : ∀ x : Fin 256, x.val ||| 128 = x.val % 128 + 128 := by decide +kernel
theorem or128_walk (V : Nat) : bits .or .u8 ((V : Int) % 256) 128 = (V : Int) % 128 + 128 := by
  rw [show (V : Int) % 256 = ((V % 256 : Nat) : Int) from by omega, show (128 : Int) = ((128 : Nat) : Int) from rfl, u8_or_nat _ _ (by omega) (by omega), or128_fin ⟨V % 256, by omega⟩]
  show ((V % 256 % 128 + 128 : Nat) : Int) = _
  omega
theorem u8v_or (V : Nat) : u8v (UInt8.ofNat (V % 128 + 128)) = .int .u8 ((V : Int) % 128 + 128) := by
  unfold u8v
  rw [UInt8.toNat_ofNat', Nat.mod_eq_of_lt (by omega)]; congr 1

/-- Reading: what the bytes say from here on, i groups read, v so far: the number, groups, the error. -/
def rdU : List UInt8 → Nat → Nat → Nat × Nat × Nat
  | [], _, _ => (0, 0, 10)
  | c :: r, i, v =>
    if i = 9 ∧ 1 < c.toNat then (0, 0, 13)
    else if c.toNat < 128 then (if c.toNat = 0 ∧ 0 < i then (0, 0, 11) else (v + c.toNat % 128 * 2 ^ (7 * i), i + 1, 0))
    else rdU r (i + 1) (v + c.toNat % 128 * 2 ^ (7 * i))
/-- What ReadUint answers at a place. -/
def readU (l : List UInt8) (a : Int) : Nat × Nat × Nat :=
  if a < 0 ∨ (l.length : Int) < a then (0, 0, 1)
  else if (rdU (l.drop a.toNat) 0 0).2.2 = 0 then ((rdU (l.drop a.toNat) 0 0).1, a.toNat + (rdU (l.drop a.toNat) 0 0).2.1, 0) else (0, 0, (rdU (l.drop a.toNat) 0 0).2.2)

theorem and127_walk (x : UInt8) : bits .and .u8 (x.toNat : Int) 127 = ((x.toNat % 128 : Nat) : Int) := by
  have := x.toNat_lt
  rw [show (127 : Int) = ((127 : Nat) : Int) from rfl, u8_and_nat _ _ (by omega) (by omega), show (127 : Nat) = 2 ^ 7 - 1 from rfl, Nat.and_two_pow_sub_one_eq_mod]
theorem pow7_le {j : Nat} (h : j ≤ 8) : 2 ^ (7 * j) ≤ 72057594037927936 := by
  have : 2 ^ (7 * j) ≤ 2 ^ 56 := Nat.pow_le_pow_right (by decide) (by omega)
  simpa using this
theorem rd_core (V y m : Nat) (hm : m ≤ 63) (hV : V < 2 ^ m) (hy : y * 2 ^ m < 18446744073709551616) : bits .or .u64 (V : Int) (IntKind.u64.wrap (IntKind.u64.wrap (y : Int) * 2 ^ m)) = ((V + y * 2 ^ m : Nat) : Int) := by
  have hp : 1 ≤ 2 ^ m := Nat.one_le_two_pow
  have hy1 : y < 18446744073709551616 := Nat.lt_of_le_of_lt (Nat.le_mul_of_pos_right y (by omega)) hy
  have e1 : IntKind.u64.wrap (y : Int) = (y : Int) := by rw [IntKind.wrap_u64]; omega
  have e2 : (y : Int) * 2 ^ m = ((y * 2 ^ m : Nat) : Int) := by rw [Int.natCast_mul, Int.natCast_pow]; rfl
  rw [e1, e2]
  have e3 : IntKind.u64.wrap ((y * 2 ^ m : Nat) : Int) = ((y * 2 ^ m : Nat) : Int) := by rw [IntKind.wrap_u64]; omega
  have hV2 : V < 18446744073709551616 := by
    have : 2 ^ m ≤ 2 ^ 63 := Nat.pow_le_pow_right (by decide) hm
    omega
  rw [e3, u64_or_nat V _ hV2 hy, Nat.or_comm, shl_or4 y V m hV, Nat.add_comm]
theorem rd_step (V j : Nat) (x : UInt8) (hj : j ≤ 8) (hV : V < 2 ^ (7 * j)) : bits .or .u64 (V : Int) (IntKind.u64.wrap (IntKind.u64.wrap (bits .and .u8 (x.toNat : Int) 127) * 2 ^ (7 * j))) = ((V + x.toNat % 128 * 2 ^ (7 * j) : Nat) : Int) := by
  rw [and127_walk]
  refine rd_core V _ _ (by omega) hV ?_
  have h1 := pow7_le hj
  have h2 : x.toNat % 128 ≤ 127 := by omega
  have := Nat.mul_le_mul h2 h1
  omega
theorem rd_next (V j x : Nat) (hV : V < 2 ^ (7 * j)) : V + x % 128 * 2 ^ (7 * j) < 2 ^ (7 * (j + 1)) := by
  have h2 : x % 128 ≤ 127 := by omega
  have := Nat.mul_le_mul_right (2 ^ (7 * j)) h2
  rw [show 7 * (j + 1) = 7 * j + 7 from by omega, Nat.pow_add]
  omega
theorem rd_last (V : Nat) (x : UInt8) (hx : x.toNat ≤ 1) (hV : V < 2 ^ 63) : bits .or .u64 (V : Int) (IntKind.u64.wrap (IntKind.u64.wrap (bits .and .u8 (x.toNat : Int) 127) * 9223372036854775808)) = ((V + x.toNat % 128 * 2 ^ (7 * 9) : Nat) : Int) := by
  rw [and127_walk, show (9223372036854775808 : Int) = 2 ^ 63 from by decide]
  refine rd_core V _ 63 (by omega) hV ?_
  have h2 : x.toNat % 128 ≤ 1 := by omega
  have := Nat.mul_le_mul_right (2 ^ 63) h2
  omega
theorem readU_at {l : List UInt8} {k j V : Nat} {r : Nat × Nat × Nat} (hk : k ≤ l.length) (hI : rdU (l.drop (k + j)) j V = rdU (l.drop k) 0 0) (hr : rdU (l.drop (k + j)) j V = r) : readU l (k : Int) = if r.2.2 = 0 then (r.1, k + r.2.1, 0) else (0, 0, r.2.2) := by
  unfold readU
  rw [if_neg (by omega), Int.toNat_natCast, ← hI, hr]

end Go.Proofs.YtbcljgcilbfblaaDoor
