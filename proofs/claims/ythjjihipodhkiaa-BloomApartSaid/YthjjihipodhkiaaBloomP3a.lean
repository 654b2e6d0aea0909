/-
  Eight bits in a byte. No program in sight.
-/
import Derived.Test.YthjjihipodhkiaaBloomP2
namespace Go.Proofs.Ythjjihipodhkiaa
open Go.RowKit

def pack8 (b0 b1 b2 b3 b4 b5 b6 b7 : Bool) : Nat :=
  (if b0 then 128 else 0) + (if b1 then 64 else 0) + (if b2 then 32 else 0) + (if b3 then 16 else 0) + (if b4 then 8 else 0) + (if b5 then 4 else 0) + (if b6 then 2 else 0) + (if b7 then 1 else 0)
def packB (f : Nat → Bool) : UInt8 := UInt8.ofNat (pack8 (f 0) (f 1) (f 2) (f 3) (f 4) (f 5) (f 6) (f 7))
theorem pack_fin : ∀ (b0 b1 b2 b3 b4 b5 b6 b7 : Bool) (t : Fin 8), orBit (UInt8.ofNat (pack8 b0 b1 b2 b3 b4 b5 b6 b7)) t.val =
    UInt8.ofNat (pack8 (b0 || t.val == 0) (b1 || t.val == 1) (b2 || t.val == 2) (b3 || t.val == 3) (b4 || t.val == 4) (b5 || t.val == 5) (b6 || t.val == 6) (b7 || t.val == 7)) := by decide +kernel
theorem bit_fin : ∀ (b0 b1 b2 b3 b4 b5 b6 b7 : Bool) (t : Fin 8), (((UInt8.ofNat (pack8 b0 b1 b2 b3 b4 b5 b6 b7)).toNat &&& maskN t.val) != 0) =
    (match t.val with | 0 => b0 | 1 => b1 | 2 => b2 | 3 => b3 | 4 => b4 | 5 => b5 | 6 => b6 | _ => b7) := by decide +kernel
theorem packB_or (f : Nat → Bool) (t : Nat) (ht : t < 8) : orBit (packB f) t = packB (fun i => f i || t == i) := pack_fin _ _ _ _ _ _ _ _ ⟨t, ht⟩
theorem packB_bit (f : Nat → Bool) (t : Nat) (ht : t < 8) : (((packB f).toNat &&& maskN t) != 0) = f t := by
  have h := bit_fin (f 0) (f 1) (f 2) (f 3) (f 4) (f 5) (f 6) (f 7) ⟨t, ht⟩
  unfold packB
  rw [h]
  match t, ht with
  | 0, _ => rfl
  | 1, _ => rfl
  | 2, _ => rfl
  | 3, _ => rfl
  | 4, _ => rfl
  | 5, _ => rfl
  | 6, _ => rfl
  | 7, _ => rfl
theorem packB_ext {f g : Nat → Bool} (h : ∀ t, t < 8 → f t = g t) : packB f = packB g := by
  unfold packB
  rw [h 0 (by decide), h 1 (by decide), h 2 (by decide), h 3 (by decide), h 4 (by decide), h 5 (by decide), h 6 (by decide), h 7 (by decide)]

theorem packB_no : packB (fun _ => false) = 0 := rfl

end Go.Proofs.Ythjjihipodhkiaa
