/-
  Counting the bits of bytes; unions of bytes. No program in sight.
-/
import Derived.Test.YthjjihipodhkiaaBloomP
namespace Go.Proofs.Ythjjihipodhkiaa
open Go.RowKit

/-- How many bits of a byte are set. -/
def popN (c : Nat) : Nat := c % 2 + c / 2 % 2 + c / 4 % 2 + c / 8 % 2 + c / 16 % 2 + c / 32 % 2 + c / 64 % 2 + c / 128 % 2
theorem popN_fin : ∀ c : Fin 256, 0 < c.val → popN (c.val &&& (c.val - 1)) + 1 = popN c.val ∧ c.val &&& (c.val - 1) < c.val := by decide +kernel
theorem popN_step (c : Nat) (h : c < 256) (h0 : 0 < c) : popN (c &&& (c - 1)) + 1 = popN c := (popN_fin ⟨c, h⟩ h0).1
theorem popN_less (c : Nat) (h : c < 256) (h0 : 0 < c) : c &&& (c - 1) < c := (popN_fin ⟨c, h⟩ h0).2
theorem popN_zero : popN 0 = 0 := rfl
theorem popN_le (c : Nat) : popN c ≤ 8 := by unfold popN; omega
def popsN (l : List UInt8) : Nat := (l.map fun c => popN c.toNat).sum
theorem popsN_snoc (l : List UInt8) (c : UInt8) : popsN (l ++ [c]) = popsN l + popN c.toNat := by simp [popsN]
theorem popsN_le (l : List UInt8) : popsN l ≤ 8 * l.length := by
  induction l with
  | nil => simp [popsN]
  | cons c l ih =>
    have e : popsN (c :: l) = popN c.toNat + popsN l := by simp [popsN]
    rw [e, List.length_cons]
    have := popN_le c.toNat
    omega
def onesN (l : List UInt8) : Nat := if isF l then popsN (l.drop 6) else 0

/-- Byte by byte or'd from place 6 on, up to place k. -/
def orTo (a b : List UInt8) (k : Nat) : List UInt8 := (List.range a.length).map fun j => if 6 ≤ j ∧ j < k then UInt8.ofNat ((a[j]?.getD 0).toNat ||| (b[j]?.getD 0).toNat) else a[j]?.getD 0
def orB (a b : List UInt8) : List UInt8 := orTo a b b.length
theorem orTo_length (a b : List UInt8) (k : Nat) : (orTo a b k).length = a.length := by simp [orTo]
theorem orTo_six (a b : List UInt8) : orTo a b 6 = a := by
  apply List.ext_getElem?
  intro j
  unfold orTo
  by_cases hj : j < a.length
  · rw [List.getElem?_map, List.getElem?_range hj, Option.map_some, if_neg (by omega), List.getElem?_eq_getElem hj]; rfl
  · rw [List.getElem?_eq_none (by simp; omega), List.getElem?_eq_none (by omega)]
theorem orTo_at (a b : List UInt8) (k j : Nat) (hj : j < a.length) : (orTo a b k)[j]? = some (if 6 ≤ j ∧ j < k then UInt8.ofNat ((a[j]?.getD 0).toNat ||| (b[j]?.getD 0).toNat) else a[j]?.getD 0) := by
  unfold orTo
  rw [List.getElem?_map, List.getElem?_range hj, Option.map_some]
theorem orTo_here (a b : List UInt8) (k : Nat) (x : UInt8) (hx : a[k]? = some x) : (orTo a b k)[k]? = some x := by
  have hk : k < a.length := (List.getElem?_eq_some_iff.1 hx).1
  rw [orTo_at a b k k hk, if_neg (by omega), hx]; rfl
theorem orTo_succ (a b : List UInt8) (k : Nat) (x y : UInt8) (hk6 : 6 ≤ k) (hx : a[k]? = some x) (hy : b[k]? = some y) : orTo a b (k + 1) = (orTo a b k).set k (UInt8.ofNat (x.toNat ||| y.toNat)) := by
  have hk : k < a.length := (List.getElem?_eq_some_iff.1 hx).1
  apply List.ext_getElem?
  intro j
  by_cases hj : j < a.length
  · rw [orTo_at a b (k + 1) j hj, List.getElem?_set]
    by_cases e : k = j
    · subst e
      rw [if_pos (by omega), if_pos rfl, if_pos (by rw [orTo_length]; exact hk), hx, hy]; rfl
    · rw [if_neg e, orTo_at a b k j hj]
      by_cases h6 : 6 ≤ j ∧ j < k
      · rw [if_pos (by omega), if_pos h6]
      · rw [if_neg (by omega), if_neg h6]
  · rw [List.getElem?_eq_none (by rw [orTo_length]; omega), List.getElem?_eq_none (by rw [List.length_set, orTo_length]; omega)]
theorem or_walk (x y : UInt8) : bits .or .u8 (x.toNat : Int) (y.toNat : Int) = (((UInt8.ofNat (x.toNat ||| y.toNat)).toNat : Nat) : Int) := by
  have hx := x.toNat_lt
  have hy := y.toNat_lt
  have h := Nat.or_lt_two_pow (n := 8) (x := x.toNat) (y := y.toNat) hx hy
  rw [u8_or_nat x.toNat y.toNat (by omega) (by omega), UInt8.toNat_ofNat', Nat.mod_eq_of_lt h]
theorem and_walk (c : Nat) (h : c < 256) (h0 : 0 < c) : bits .and .u8 (c : Int) ((c : Int) - 1) = ((c &&& (c - 1) : Nat) : Int) := by
  rw [show (c : Int) - 1 = ((c - 1 : Nat) : Int) from by omega, u8_and_nat c (c - 1) h (by omega)]
/-- The error of a union. -/
def unionE (a b : List UInt8) : Int := if isF a && isF b then (if shapeP a = shapeP b ∧ shapeM a = shapeM b then 0 else 63) else 62
end Go.Proofs.Ythjjihipodhkiaa
