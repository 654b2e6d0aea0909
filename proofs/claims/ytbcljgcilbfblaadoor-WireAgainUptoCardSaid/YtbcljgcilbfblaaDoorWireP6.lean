/-
  Numbers and byte strings read again as they were written. No program in sight.
-/
import Derived.Test.YtbcljgcilbfblaaDoorWireP2
namespace Go.Proofs.YtbcljgcilbfblaaDoor
open Go.RowKit

theorem pow7_step (i : Nat) : 2 ^ (7 * (i + 1)) = 128 * 2 ^ (7 * i) := by
  rw [show 7 * (i + 1) = 7 * i + 7 from by omega, Nat.pow_add]; omega
/-- A number that was written is read, whatever stands behind. -/
theorem rdU_uintB (r : List UInt8) : ∀ (f i V a : Nat), i + f = 9 → V * 2 ^ (7 * i) < 18446744073709551616 → (V ≠ 0 ∨ i = 0) → rdU (uintB V ++ r) i a = (a + V * 2 ^ (7 * i), i + (uintB V).length, 0) := by
  intro f
  induction f with
  | zero =>
    intro i V a hi hV h0
    obtain rfl : i = 9 := by omega
    have hV1 : V ≤ 1 := by
      have : (2 : Nat) ^ (7 * 9) = 9223372036854775808 := by decide
      rw [this] at hV
      omega
    rw [uintB_lt (by omega)]
    show rdU (UInt8.ofNat V :: r) 9 a = _
    unfold rdU
    have e : (UInt8.ofNat V).toNat = V := by rw [UInt8.toNat_ofNat', Nat.mod_eq_of_lt (by omega)]
    rw [e, if_neg (by omega), if_pos (by omega), if_neg (by omega), Nat.mod_eq_of_lt (by omega)]; rfl
  | succ f ih =>
    intro i V a hi hV h0
    by_cases h : V < 128
    · rw [uintB_lt h]
      show rdU (UInt8.ofNat V :: r) i a = _
      unfold rdU
      have e : (UInt8.ofNat V).toNat = V := by rw [UInt8.toNat_ofNat', Nat.mod_eq_of_lt (by omega)]
      rw [e, if_neg (by omega), if_pos h, if_neg (by omega), Nat.mod_eq_of_lt h]; rfl
    · rw [uintB_ge (by omega)]
      show rdU (UInt8.ofNat (V % 128 + 128) :: (uintB (V / 128) ++ r)) i a = _
      have e : (UInt8.ofNat (V % 128 + 128)).toNat = V % 128 + 128 := by rw [UInt8.toNat_ofNat', Nat.mod_eq_of_lt (by omega)]
      have e2 : V / 128 * 2 ^ (7 * (i + 1)) + V % 128 * 2 ^ (7 * i) = V * 2 ^ (7 * i) := by
        rw [pow7_step, ← Nat.mul_assoc, ← Nat.add_mul, Nat.div_add_mod']
      rw [rdU, e, if_neg (by omega), if_neg (by omega), ih (i + 1) (V / 128) _ (by omega) (by omega) (by omega), List.length_cons]
      rw [show (V % 128 + 128) % 128 = V % 128 from by omega]
      simp only [Prod.mk.injEq]
      exact ⟨by omega, by omega, trivial⟩
theorem readU_back (p r : List UInt8) (v : Nat) (hv : v < 18446744073709551616) : readU (p ++ uintB v ++ r) (p.length : Int) = (v, p.length + (uintB v).length, 0) := by
  unfold readU
  have hl : ¬((p.length : Int) < 0 ∨ ((p ++ uintB v ++ r).length : Int) < (p.length : Int)) := by
    simp only [List.length_append]; omega
  rw [if_neg hl, Int.toNat_natCast, List.append_assoc, List.drop_left' rfl, rdU_uintB r 9 0 v 0 rfl (by simpa using hv) (.inr rfl)]
  simp

/-- So many bytes at a place. -/
def cutS (l : List UInt8) (k m : Nat) : List UInt8 := (l.drop k).take m
/-- What ReadBytes answers. -/
def readBy (l : List UInt8) (a most : Int) : List UInt8 × Nat × Nat :=
  if a < 0 ∨ (l.length : Int) < a ∨ most < 0 then ([], 0, 1)
  else if (readU l a).2.2 ≠ 0 then ([], 0, (readU l a).2.2)
  else if most < ((readU l a).1 : Int) then ([], 0, 13)
  else if l.length - (readU l a).2.1 < (readU l a).1 then ([], 0, 10)
  else (cutS l (readU l a).2.1 (readU l a).1, (readU l a).2.1 + (readU l a).1, 0)
theorem rdU_end : ∀ (l : List UInt8) (i v : Nat), (rdU l i v).2.2 = 0 → (rdU l i v).2.1 ≤ i + l.length ∧ i + 1 ≤ (rdU l i v).2.1 := by
  intro l
  induction l with
  | nil => intro i v h; cases h
  | cons c r ih =>
    intro i v h
    unfold rdU at h ⊢
    split at h
    · cases h
    · rename_i h1
      rw [if_neg h1]
      split at h
      · rename_i h2
        rw [if_pos h2]
        split at h
        · cases h
        · rename_i h3
          rw [if_neg h3]
          simp
      · rename_i h2
        rw [if_neg h2]
        have := ih _ _ h
        rw [List.length_cons]
        omega
theorem readU_end (l : List UInt8) (a : Int) (h : (readU l a).2.2 = 0) : (readU l a).2.1 ≤ l.length ∧ 0 ≤ a ∧ a.toNat < (readU l a).2.1 := by
  unfold readU at h ⊢
  split at h
  · cases h
  · rename_i h1
    rw [if_neg h1]
    split at h
    · rename_i h2
      rw [if_pos h2]
      have := rdU_end _ _ _ h2
      rw [List.length_drop] at this
      simp only
      omega
    · rename_i h2
      exact absurd h h2
theorem rdU_val : ∀ (l : List UInt8) (i v : Nat), i ≤ 9 → v < 2 ^ (7 * i) → (rdU l i v).1 < 18446744073709551616 := by
  intro l
  induction l with
  | nil => intro i v _ _; show 0 < _; omega
  | cons c r ih =>
    intro i v hi hv
    have hc := c.toNat_lt
    unfold rdU
    split
    · show 0 < _; omega
    · rename_i h1
      split
      · rename_i h2
        split
        · show 0 < _; omega
        · simp only
          by_cases h9 : i = 9
          · subst h9
            have : (2 : Nat) ^ (7 * 9) = 9223372036854775808 := by decide
            rw [this] at hv ⊢
            have : c.toNat % 128 ≤ 1 := by omega
            omega
          · have h3 := rd_next v i c.toNat hv
            have h4 : 2 ^ (7 * (i + 1)) ≤ 2 ^ 63 := Nat.pow_le_pow_right (by decide) (by omega)
            omega
      · rename_i h2
        refine ih (i + 1) _ ?_ (rd_next v i c.toNat hv)
        by_cases h9 : i = 9
        · omega
        · omega
theorem readU_val (l : List UInt8) (a : Int) : (readU l a).1 < 18446744073709551616 := by
  unfold readU
  split
  · show 0 < _; omega
  · split
    · exact rdU_val _ 0 0 (by omega) (by decide)
    · show 0 < _; omega
theorem readBy_back (p r b : List UInt8) (most : Int) (hb : b.length < 18446744073709551616) (hm : (b.length : Int) ≤ most) : readBy (p ++ (uintB b.length ++ b) ++ r) (p.length : Int) most = (b, p.length + (uintB b.length ++ b).length, 0) := by
  have h := readU_back p (b ++ r) b.length hb
  have e : p ++ uintB b.length ++ (b ++ r) = p ++ (uintB b.length ++ b) ++ r := by simp
  rw [e] at h
  unfold readBy
  rw [h]
  have h1 : ¬((p.length : Int) < 0 ∨ ((p ++ (uintB b.length ++ b) ++ r).length : Int) < (p.length : Int) ∨ most < 0) := by
    simp only [List.length_append]; omega
  rw [if_neg h1, if_neg (by simp), if_neg (by omega), if_neg (by simp only [List.length_append]; omega)]
  have c : cutS (p ++ (uintB b.length ++ b) ++ r) (p.length + (uintB b.length).length) b.length = b := by
    unfold cutS
    rw [show p ++ (uintB b.length ++ b) ++ r = (p ++ uintB b.length) ++ (b ++ r) from by simp, List.drop_left' (by simp), List.take_left' rfl]
  simp only
  rw [c, List.length_append]
  simp; omega

end Go.Proofs.YtbcljgcilbfblaaDoor
