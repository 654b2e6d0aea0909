/-
  The bytes of a filter with given bits; a bit more. No program in sight.
-/
import Derived.Test.YthjjihipodhkiaaBloomP3a
namespace Go.Proofs.Ythjjihipodhkiaa
open Go.RowKit


/-- A filter's head. -/
def headB (p m : Nat) : List UInt8 := [66, UInt8.ofNat p, UInt8.ofNat (m / 16777216), UInt8.ofNat (m / 65536), UInt8.ofNat (m / 256), UInt8.ofNat m]
/-- The filter with p places a key, m bits, those of S set. -/
def filterB (p m : Nat) (S : Nat → Bool) : List UInt8 := headB p m ++ (List.range (m / 8)).map fun j => packB fun t => S (8 * j + t)
theorem filterB_length (p m : Nat) (S : Nat → Bool) : (filterB p m S).length = 6 + m / 8 := by simp [filterB, headB]; omega
theorem filterB_at (p m : Nat) (S : Nat → Bool) (j : Nat) (hj : j < m / 8) : (filterB p m S)[6 + j]? = some (packB fun t => S (8 * j + t)) := by
  unfold filterB
  rw [List.getElem?_append_right (by simp [headB])]
  simp only [headB, List.length_cons, List.length_nil]
  rw [show 6 + j - (0 + 1 + 1 + 1 + 1 + 1 + 1) = j from by omega, List.getElem?_map, List.getElem?_range hj]; rfl
theorem filterB_head (p m : Nat) (S : Nat → Bool) (j : Nat) (hj : j < 6) : (filterB p m S)[j]? = (headB p m)[j]? := by
  unfold filterB
  rw [List.getElem?_append_left (by simp [headB]; omega)]
theorem filterB_ext (p m : Nat) {S T : Nat → Bool} (h : ∀ i, i < m → S i = T i) : filterB p m S = filterB p m T := by
  unfold filterB
  congr 1
  apply List.map_congr_left
  intro j hj
  have hj := List.mem_range.1 hj
  exact packB_ext fun t ht => h _ (by omega)
theorem filterB_set (p m : Nat) (S : Nat → Bool) (i : Nat) (hi : i < m) (h8 : m % 8 = 0) : setBit (filterB p m S) i = filterB p m (fun k => S k || i == k) := by
  have hj : i / 8 < m / 8 := by omega
  unfold setBit
  rw [filterB_at p m S (i / 8) hj]
  apply List.ext_getElem?
  intro k
  rw [List.getElem?_set]
  by_cases e : 6 + i / 8 = k
  · rw [if_pos e, if_pos (by rw [filterB_length]; omega), ← e, filterB_at _ _ _ _ hj]
    simp only [Option.getD_some]
    rw [packB_or _ _ (by omega)]
    congr 1
    apply packB_ext
    intro t ht
    have : (i % 8 == t) = (i == 8 * (i / 8) + t) := by
      rw [Bool.eq_iff_iff, beq_iff_eq, beq_iff_eq]; omega
    rw [this]
  · rw [if_neg e]
    by_cases hk : k < 6
    · rw [filterB_head _ _ _ _ hk, filterB_head _ _ _ _ hk]
    · by_cases hk2 : k < 6 + m / 8
      · obtain ⟨j, rfl⟩ : ∃ j, k = 6 + j := ⟨k - 6, by omega⟩
        rw [filterB_at _ _ _ _ (by omega), filterB_at _ _ _ _ (by omega)]
        congr 1
        apply packB_ext
        intro t ht
        have : (i == 8 * j + t) = false := by rw [beq_eq_false_iff_ne]; omega
        rw [this, Bool.or_false]
      · rw [List.getElem?_eq_none (by rw [filterB_length]; omega), List.getElem?_eq_none (by rw [filterB_length]; omega)]
theorem filterB_setAll (p m : Nat) (h8 : m % 8 = 0) : ∀ (ps : List Nat) (S : Nat → Bool), (∀ x ∈ ps, x < m) → setAll (filterB p m S) ps = filterB p m (fun k => S k || ps.contains k)
  | [], S, _ => by simp [setAll]
  | x :: ps, S, h => by
    show setAll (setBit (filterB p m S) x) ps = _
    rw [filterB_set p m S x (h x (by simp)) h8, filterB_setAll p m h8 ps _ (fun y hy => h y (by simp [hy]))]
    apply filterB_ext
    intro i _
    rw [List.contains_cons, Bool.or_assoc]
    congr 2
    rw [Bool.eq_iff_iff, beq_iff_eq, beq_iff_eq]; exact eq_comm
theorem filterB_bit (p m : Nat) (S : Nat → Bool) (i : Nat) (hi : i < m) (h8 : m % 8 = 0) : bitAt (filterB p m S) i = S i := by
  unfold bitAt
  rw [filterB_at p m S (i / 8) (by omega)]
  simp only [Option.getD_some]
  rw [packB_bit _ _ (by omega)]
  congr 1; omega
theorem placesN_lt (l : List UInt8) (p m : Nat) (hm : 0 < m) : ∀ x ∈ placesN l p m, x < m := by
  intro x hx
  obtain ⟨k, _, rfl⟩ := List.mem_map.1 hx
  exact placeN_lt l m k hm

/-- The head's bytes are written one by one. -/
def hdr0 (p m : Nat) : List UInt8 := ((List.replicate (6 + m / 8) 0).set 0 66).set 1 (UInt8.ofNat p)
def hdrTo (p m : Nat) : Nat → List UInt8
  | 0 => hdr0 p m
  | k + 1 => (hdrTo p m k).set (2 + k) (UInt8.ofNat (m / 2 ^ (24 - 8 * k)))
theorem hdrTo_length (p m k : Nat) : (hdrTo p m k).length = 6 + m / 8 := by
  induction k with
  | zero => simp [hdrTo, hdr0]
  | succ k ih => simp [hdrTo, ih]
theorem hdr_done (p m : Nat) : hdrTo p m 4 = filterB p m (fun _ => false) := by
  have e : (List.range (m / 8)).map (fun j => packB fun t => (fun _ => false) (8 * j + t)) = List.replicate (m / 8) 0 := by
    rw [List.eq_replicate_iff]
    refine ⟨by simp, fun b hb => ?_⟩
    obtain ⟨_, _, rfl⟩ := List.mem_map.1 hb
    exact packB_no
  unfold filterB
  rw [e]
  have e2 : List.replicate (6 + m / 8) (0 : UInt8) = [0, 0, 0, 0, 0, 0] ++ List.replicate (m / 8) 0 := by
    rw [← List.replicate_append_replicate]; rfl
  simp only [hdrTo, hdr0, e2, headB]
  simp

end Go.Proofs.Ythjjihipodhkiaa
