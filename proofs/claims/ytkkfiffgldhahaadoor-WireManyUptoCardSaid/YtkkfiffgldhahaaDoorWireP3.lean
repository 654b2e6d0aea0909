/-
  Bits turned over in bytes. No program in sight.
-/
import Derived.Test.YtkkfiffgldhahaaDoorWireP2
namespace Go.Proofs.YtkkfiffgldhahaaDoor
open Go.RowKit

/-- One bit of a byte turned over. -/
def flipU (x : UInt8) (t : Nat) : UInt8 := UInt8.ofNat (x.toNat ^^^ 2 ^ t)
/-- One bit turned over; a bit that there is not is left out. -/
def flipB (l : List UInt8) (z : Int) : List UInt8 := if 0 ≤ z ∧ z < 8 * (l.length : Int) then l.set (z.toNat / 8) (flipU (l[z.toNat / 8]?.getD 0) (z.toNat % 8)) else l
def flipsB (l : List UInt8) (zs : List Int) : List UInt8 := zs.foldl flipB l
theorem flipB_length (l : List UInt8) (z : Int) : (flipB l z).length = l.length := by unfold flipB; split <;> simp
theorem flipsB_length (zs : List Int) : ∀ l : List UInt8, (flipsB l zs).length = l.length := by
  induction zs with
  | nil => intro l; rfl
  | cons z zs ih => intro l; exact (ih (flipB l z)).trans (flipB_length l z)
theorem flipsB_snoc (l : List UInt8) (zs : List Int) (z : Int) : flipsB l (zs ++ [z]) = flipB (flipsB l zs) z := by simp [flipsB, List.foldl_append]
theorem pow8_lt {t : Nat} (h : t < 8) : 2 ^ t < 256 := by
  have : 2 ^ t ≤ 2 ^ 7 := Nat.pow_le_pow_right (by decide) (by omega)
  omega
theorem mod256_small (q : Nat) (h : q < 256) : (q : Int) % 256 = (q : Int) := by omega
theorem flip_walk (x : UInt8) (t : Nat) (ht : t < 8) : bits .xor .u8 (x.toNat : Int) ((2 : Int) ^ t % 256) = (((flipU x t).toNat : Nat) : Int) := by
  have hx := x.toNat_lt
  have h2 := pow8_lt ht
  have e : (2 : Int) ^ t % 256 = ((2 ^ t : Nat) : Int) := by
    rw [show (2 : Int) ^ t = ((2 ^ t : Nat) : Int) from by rw [Int.natCast_pow]; rfl]
    exact mod256_small _ h2
  have hb : x.toNat ^^^ 2 ^ t < 256 := Nat.xor_lt_two_pow (n := 8) (by omega) (by omega)
  rw [e, u8_xor_nat _ _ (by omega) h2]
  unfold flipU
  rw [UInt8.toNat_ofNat', Nat.mod_eq_of_lt hb]

end Go.Proofs.YtkkfiffgldhahaaDoor
