/-
  Unions of filters. No program in sight.
-/
import Derived.Test.YthjjihipodhkiaaBloomP6
namespace Go.Proofs.Ythjjihipodhkiaa
open Go.RowKit

theorem packB_lor (f g : Nat → Bool) : UInt8.ofNat ((packB f).toNat ||| (packB g).toNat) = packB fun t => f t || g t := by
  have hb : (packB f).toNat ||| (packB g).toNat < 256 := Nat.or_lt_two_pow (n := 8) (packB f).toNat_lt (packB g).toNat_lt
  apply UInt8.toNat_inj.1
  rw [UInt8.toNat_ofNat', Nat.mod_eq_of_lt hb]
  apply Nat.eq_of_testBit_eq
  intro t
  rw [Nat.testBit_or]
  by_cases ht : t < 8
  · rw [packB_test _ _ ht, packB_test _ _ ht, packB_test _ _ ht]
  · have hz : ∀ x : UInt8, x.toNat.testBit t = false := fun x => by
      apply Nat.testBit_lt_two_pow
      have h2 := x.toNat_lt
      have h3 : 2 ^ 8 ≤ 2 ^ t := Nat.pow_le_pow_right (by decide) (by omega)
      omega
    rw [hz, hz, hz]; rfl
theorem filterB_orB (p m : Nat) (S T : Nat → Bool) : orB (filterB p m S) (filterB p m T) = filterB p m fun i => S i || T i := by
  unfold orB
  apply List.ext_getElem?
  intro k
  by_cases hk : k < 6 + m / 8
  · rw [orTo_at _ _ _ _ (by rw [filterB_length]; exact hk)]
    by_cases h6 : k < 6
    · rw [if_neg (by omega), filterB_head _ _ _ _ h6, filterB_head _ _ _ _ h6]
      have : k < (headB p m).length := by simp [headB]; omega
      rw [List.getElem?_eq_getElem this]; rfl
    · obtain ⟨j, rfl⟩ : ∃ j, k = 6 + j := ⟨k - 6, by omega⟩
      rw [if_pos ⟨by omega, by rw [filterB_length]; exact hk⟩, filterB_at _ _ _ _ (by omega), filterB_at _ _ _ _ (by omega), filterB_at _ _ _ _ (by omega)]
      simp only [Option.getD_some]
      rw [packB_lor]
  · rw [List.getElem?_eq_none (by rw [orTo_length, filterB_length]; omega), List.getElem?_eq_none (by rw [filterB_length]; omega)]
section
variable {bits : Int} {a b : List (List UInt8)}
theorem unions_E (ha : buildE bits a = 0) (hb : buildE bits b = 0) : unionE (buildB bits a) (buildB bits b) = if buildM bits a = buildM bits b then 0 else 63 := by
  unfold unionE
  rw [buildB_isF ha, buildB_isF hb, (buildB_shape ha).1, (buildB_shape ha).2, (buildB_shape hb).1, (buildB_shape hb).2]
  simp
theorem buildM_len : buildM bits a = buildM bits b ↔ (buildB bits a).length = (buildB bits b).length := by
  rw [buildB_length, buildB_length]
  have := buildM_mod bits a
  have := buildM_mod bits b
  omega
theorem unions_same (h : buildM bits a = buildM bits b) : orB (buildB bits a) (buildB bits b) = orB (buildB bits b) (buildB bits a) := by
  unfold buildB
  rw [← h, filterB_orB, filterB_orB]
  exact filterB_ext _ _ fun i _ => Bool.or_comm _ _
theorem unions_all (h : buildM bits a = buildM bits b) (h2 : buildM bits a = buildM bits (a ++ b)) : orB (buildB bits a) (buildB bits b) = buildB bits (a ++ b) := by
  unfold buildB
  rw [← h, ← h2, filterB_orB]
  refine filterB_ext _ _ fun i _ => ?_
  unfold buildS
  rw [List.any_append]
theorem orB_length (a b : List UInt8) : (orB a b).length = a.length := orTo_length _ _ _
/-- A union with oneself. -/
theorem unions_self (bits : Int) (a : List (List UInt8)) : orB (buildB bits a) (buildB bits a) = buildB bits a := by
  unfold buildB
  rw [filterB_orB]
  exact filterB_ext _ _ fun i _ => Bool.or_self _
end
end Go.Proofs.Ythjjihipodhkiaa
