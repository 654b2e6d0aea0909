/-
  Bloom filters on lists: the hash, the places, the bytes. No program in sight.
-/
import Derived.Test.YthjjihipodhkiaaBytes
import Derived.Laws.BitsAllLaws
namespace Go.Proofs.Ythjjihipodhkiaa
open Go.RowKit

def hPrime : Nat := 1099511628211
def hBegin : Nat := 14695981039346656037
def two64 : Nat := 18446744073709551616
def hStep (h : Nat) (c : UInt8) : Nat := ((h ^^^ c.toNat) * hPrime) % two64
def hashN (l : List UInt8) : Nat := l.foldl hStep hBegin
theorem hashN_snoc (l : List UInt8) (c : UInt8) : hashN (l ++ [c]) = hStep (hashN l) c := by
  unfold hashN; rw [List.foldl_append, List.foldl_cons, List.foldl_nil]
theorem hStep_lt (h : Nat) (c : UInt8) : hStep h c < two64 := Nat.mod_lt _ (by unfold two64; omega)
theorem hashN_lt (l : List UInt8) : hashN l < two64 := by
  rcases List.eq_nil_or_concat l with rfl | ⟨a, c, rfl⟩
  · show hBegin < two64
    unfold hBegin two64; omega
  · rw [List.concat_eq_append, hashN_snoc]; exact hStep_lt _ _
def hHi (l : List UInt8) : Nat := hashN l / 4294967296
def hLo (l : List UInt8) : Nat := (hashN l % 4294967296) ||| 1
theorem hHi_lt (l : List UInt8) : hHi l < 4294967296 := by
  have := hashN_lt l; unfold two64 at this; unfold hHi; omega
theorem hLo_lt (l : List UInt8) : hLo l < 4294967296 := Nat.or_lt_two_pow (n := 32) (by omega) (by omega)
theorem hstep_walk (H : Nat) (x : UInt8) (hH : H < two64) : IntKind.u64.wrap (bits .xor .u64 (H : Int) (IntKind.u64.wrap (x.toNat : Int)) * 1099511628211) = ((hStep H x : Nat) : Int) := by
  have hx := x.toNat_lt
  have e1 : IntKind.u64.wrap (x.toNat : Int) = (x.toNat : Int) := by rw [IntKind.wrap_u64]; omega
  rw [e1, u64_xor_nat H x.toNat (by unfold two64 at hH; exact hH) (by omega), IntKind.wrap_u64]
  unfold hStep hPrime two64
  simp only [Int.natCast_emod, Int.natCast_mul]
  rfl
theorem hHi_walk (H : Nat) : (H : Int) / 4294967296 % 4294967296 = ((H / 4294967296 % 4294967296 : Nat) : Int) := by omega
theorem hLo_walk (H : Nat) : bits .or .u32 ((H : Int) % 4294967296) 1 = ((H % 4294967296 ||| 1 : Nat) : Int) := by
  have h := u32_or_nat (H % 4294967296) 1 (by omega) (by omega)
  rw [← h]; simp

/-- The k-th place of a key, among m bits. -/
def placeN (l : List UInt8) (m k : Nat) : Nat := (hHi l + k * hLo l) % 4294967296 % m
def placesN (l : List UInt8) (p m : Nat) : List Nat := (List.range p).map (placeN l m)
theorem placesN_zero (l : List UInt8) (m : Nat) : placesN l 0 m = [] := rfl
theorem placesN_succ (l : List UInt8) (p m : Nat) : placesN l (p + 1) m = placesN l p m ++ [placeN l m p] := by
  simp [placesN, List.range_succ]
theorem placeN_lt (l : List UInt8) (m k : Nat) (hm : 0 < m) : placeN l m k < m := Nat.mod_lt _ hm
/-- The bit of a byte. -/
def maskN (t : Nat) : Nat := 128 / 2 ^ t
/-- Is the bit of a filter's bytes set? -/
def bitAt (l : List UInt8) (at' : Nat) : Bool := ((l[6 + at' / 8]?.getD 0).toNat &&& maskN (at' % 8)) != 0
def orBit (x : UInt8) (t : Nat) : UInt8 := UInt8.ofNat (x.toNat ||| maskN t)
def setBit (l : List UInt8) (at' : Nat) : List UInt8 := l.set (6 + at' / 8) (orBit (l[6 + at' / 8]?.getD 0) (at' % 8))
theorem setBit_length (l : List UInt8) (a : Nat) : (setBit l a).length = l.length := by simp [setBit]
def setAll (l : List UInt8) (ps : List Nat) : List UInt8 := ps.foldl setBit l
theorem setAll_length (l : List UInt8) (ps : List Nat) : (setAll l ps).length = l.length := by
  induction ps generalizing l with
  | nil => rfl
  | cons p ps ih => show (setAll (setBit l p) ps).length = _; rw [ih, setBit_length]
theorem setAll_snoc (l : List UInt8) (ps : List Nat) (p : Nat) : setAll l (ps ++ [p]) = setBit (setAll l ps) p := by simp [setAll, List.foldl_append]
theorem maskN_lt (t : Nat) : maskN t < 256 := by
  unfold maskN
  have := Nat.div_le_self 128 (2 ^ t)
  omega
theorem maskN_walk (t : Nat) : (128 : Int) / 2 ^ t = ((maskN t : Nat) : Int) := by
  unfold maskN
  rw [Int.natCast_ediv, Int.natCast_pow]; rfl
theorem bit_walk (x : UInt8) (t : Nat) : (bits .and .u8 (x.toNat : Int) ((128 : Int) / 2 ^ t) != 0) = ((x.toNat &&& maskN t) != 0) := by
  have hx := x.toNat_lt
  rw [maskN_walk, u8_and_nat x.toNat (maskN t) (by omega) (maskN_lt t)]
  rw [Bool.eq_iff_iff, bne_iff_ne, bne_iff_ne]; omega
theorem orBit_walk (x : UInt8) (t : Nat) : bits .or .u8 (x.toNat : Int) ((128 : Int) / 2 ^ t) = (((orBit x t).toNat : Nat) : Int) := by
  have hx := x.toNat_lt
  have h := Nat.or_lt_two_pow (n := 8) (x := x.toNat) (y := maskN t) (by omega) (maskN_lt t)
  rw [maskN_walk, u8_or_nat x.toNat (maskN t) (by omega) (maskN_lt t)]
  unfold orBit
  rw [UInt8.toNat_ofNat', Nat.mod_eq_of_lt h]

/-- The number of bits that a filter's head says. -/
def headN (x2 x3 x4 x5 : UInt8) : Nat := ((x2.toNat * 256 + x3.toNat) * 256 + x4.toNat) * 256 + x5.toNat
/-- What bloom.read makes of bytes: places a key, bits. -/
def shapeP (l : List UInt8) : Nat := if l.length < 6 ∨ l[0]? ≠ some 66 then 0 else (l[1]?.getD 0).toNat
def shapeM (l : List UInt8) : Nat := if l.length < 6 ∨ l[0]? ≠ some 66 then 0 else headN (l[2]?.getD 0) (l[3]?.getD 0) (l[4]?.getD 0) (l[5]?.getD 0)
/-- Is it a filter? -/
def isF (l : List UInt8) : Bool := decide (1 ≤ shapeP l ∧ shapeP l ≤ 14 ∧ 64 ≤ shapeM l ∧ shapeM l ≤ 20971520 ∧ shapeM l % 8 = 0 ∧ l.length = 6 + shapeM l / 8)
theorem headN_lt (x2 x3 x4 x5 : UInt8) : headN x2 x3 x4 x5 < 4294967296 := by
  have := x2.toNat_lt; have := x3.toNat_lt; have := x4.toNat_lt; have := x5.toNat_lt
  unfold headN; omega
theorem shl_or (a b k : Nat) (h : b < 2 ^ k) : (a * 2 ^ k) ||| b = a * 2 ^ k + b := by
  rw [← Nat.shiftLeft_eq, Nat.shiftLeft_add_eq_or_of_lt h]
theorem head_walk (x2 x3 x4 x5 : UInt8) : ((x2.toNat * 16777216 ||| x3.toNat * 65536) ||| x4.toNat * 256) ||| x5.toNat = headN x2 x3 x4 x5 := by
  have h2 := x2.toNat_lt; have h3 := x3.toNat_lt; have h4 := x4.toNat_lt; have h5 := x5.toNat_lt
  unfold headN
  have e1 : x2.toNat * 16777216 ||| x3.toNat * 65536 = (x2.toNat * 256 + x3.toNat) * 65536 := by
    have := shl_or x2.toNat (x3.toNat * 65536) 24 (by omega)
    rw [show (2 : Nat) ^ 24 = 16777216 from rfl] at this
    rw [this]; omega
  have e2 : (x2.toNat * 256 + x3.toNat) * 65536 ||| x4.toNat * 256 = ((x2.toNat * 256 + x3.toNat) * 256 + x4.toNat) * 256 := by
    have := shl_or (x2.toNat * 256 + x3.toNat) (x4.toNat * 256) 16 (by omega)
    rw [show (2 : Nat) ^ 16 = 65536 from rfl] at this
    rw [this]; omega
  have e3 := shl_or ((x2.toNat * 256 + x3.toNat) * 256 + x4.toNat) x5.toNat 8 (by omega)
  rw [show (2 : Nat) ^ 8 = 256 from rfl] at e3
  rw [e1, e2, e3]

theorem head_bits (x2 x3 x4 x5 : UInt8) : bits .or .u32 (bits .or .u32 (bits .or .u32 ((x2.toNat : Int) * 16777216) ((x3.toNat : Int) * 65536)) ((x4.toNat : Int) * 256)) (x5.toNat : Int) = ((headN x2 x3 x4 x5 : Nat) : Int) := by
  have h2 := x2.toNat_lt; have h3 := x3.toNat_lt; have h4 := x4.toNat_lt; have h5 := x5.toNat_lt
  rw [show (x2.toNat : Int) * 16777216 = ((x2.toNat * 16777216 : Nat) : Int) from by omega, show (x3.toNat : Int) * 65536 = ((x3.toNat * 65536 : Nat) : Int) from by omega, show (x4.toNat : Int) * 256 = ((x4.toNat * 256 : Nat) : Int) from by omega]
  have l1 := Nat.or_lt_two_pow (n := 32) (x := x2.toNat * 16777216) (y := x3.toNat * 65536) (by omega) (by omega)
  have l2 := Nat.or_lt_two_pow (n := 32) (x := x2.toNat * 16777216 ||| x3.toNat * 65536) (y := x4.toNat * 256) l1 (by omega)
  rw [u32_or_nat _ _ (by omega) (by omega), u32_or_nat _ _ (by omega) (by omega), u32_or_nat _ _ (by omega) (by omega), head_walk]

end Go.Proofs.Ythjjihipodhkiaa
