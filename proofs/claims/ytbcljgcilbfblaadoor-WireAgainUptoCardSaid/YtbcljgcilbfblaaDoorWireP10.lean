/-
  What is written reads, in the midst of other bytes, and cut short it is torn: numbers, bytes, frames. No program in sight.
-/
import Derived.Test.YtbcljgcilbfblaaDoorWireP8
namespace Go.Proofs.YtbcljgcilbfblaaDoor
open Go.RowKit

theorem rdU_cut : ∀ (f i V a k : Nat), i + f = 9 → V * 2 ^ (7 * i) < 18446744073709551616 → k < (uintB V).length → rdU ((uintB V).take k) i a = (0, 0, 10) := by
  intro f
  induction f with
  | zero =>
    intro i V a k hi hV hk
    obtain rfl : i = 9 := by omega
    have hV1 : V ≤ 1 := by
      have : (2 : Nat) ^ (7 * 9) = 9223372036854775808 := by decide
      rw [this] at hV
      omega
    rw [uintB_lt (by omega)] at hk ⊢
    obtain rfl : k = 0 := by simpa using hk
    rfl
  | succ f ih =>
    intro i V a k hi hV hk
    by_cases h : V < 128
    · rw [uintB_lt h] at hk ⊢
      obtain rfl : k = 0 := by simpa using hk
      rfl
    · rw [uintB_ge (by omega)] at hk ⊢
      match k, hk with
      | 0, _ => rfl
      | k + 1, hk =>
        rw [List.take_succ_cons]
        have e : (UInt8.ofNat (V % 128 + 128)).toNat = V % 128 + 128 := by rw [UInt8.toNat_ofNat', Nat.mod_eq_of_lt (by omega)]
        have e2 : V / 128 * 2 ^ (7 * (i + 1)) + V % 128 * 2 ^ (7 * i) = V * 2 ^ (7 * i) := by
          rw [show 7 * (i + 1) = 7 * i + 7 from by omega, Nat.pow_add, Nat.mul_comm (2 ^ (7 * i)), ← Nat.mul_assoc, ← Nat.add_mul, show (2 : Nat) ^ 7 = 128 from rfl, Nat.div_add_mod']
        rw [rdU, e, if_neg (by omega), if_neg (by omega)]
        exact ih (i + 1) (V / 128) _ k (by omega) (by omega) (by simpa using hk)
theorem readU_cut (v k : Nat) (hv : v < 18446744073709551616) (hk : k < (uintB v).length) : readU ((uintB v).take k) 0 = (0, 0, 10) := by
  have h0 : rdU (((uintB v).take k).drop (Int.toNat 0)) 0 0 = (0, 0, 10) := rdU_cut 9 0 v 0 k rfl (by simpa using hv) hk
  unfold readU
  rw [if_neg (by omega), h0]
  rfl
theorem readBy_cut (s : List UInt8) (k : Nat) (hs : s.length < 18446744073709551616) (hk : k < (uintB s.length ++ s).length) : readBy ((uintB s.length ++ s).take k) 0 (s.length : Int) = ([], 0, 10) := by
  rw [List.length_append] at hk
  unfold readBy
  rw [if_neg (by omega)]
  by_cases h : k < (uintB s.length).length
  · have e : (uintB s.length ++ s).take k = (uintB s.length).take k := List.take_append_of_le_length (by omega)
    rw [e, readU_cut _ _ hs h, if_pos (by decide)]
  · obtain ⟨j, rfl⟩ : ∃ j, k = (uintB s.length).length + j := ⟨k - (uintB s.length).length, by omega⟩
    have e : (uintB s.length ++ s).take ((uintB s.length).length + j) = uintB s.length ++ s.take j := List.take_length_add_append j
    have h1 := readU_back [] (s.take j) s.length hs
    rw [List.nil_append] at h1
    have h2 : readU (uintB s.length ++ s.take j) 0 = (s.length, (uintB s.length).length, 0) := by
      rw [show (0 : Int) = ((([] : List UInt8).length : Nat) : Int) from rfl, h1]; simp
    rw [e, h2, if_neg (by simp), if_neg (by show ¬ ((s.length : Int) < (s.length : Int)); omega), if_pos (by
      show (uintB s.length ++ s.take j).length - (uintB s.length).length < s.length
      rw [List.length_append, List.length_take]; omega)]

theorem cutF_mid (a b c : List UInt8) {k m : Nat} (hk : k = a.length) (hm : m = b.length) : cutF (a ++ b ++ c) k m = b := by
  subst hk; subst hm
  unfold cutF
  rw [List.append_assoc, List.drop_left' rfl, List.take_left' rfl]
theorem cutF_take (X : List UInt8) {j m k : Nat} (h : j + m ≤ k) : cutF (X.take k) j m = cutF X j m := by
  unfold cutF
  rw [List.drop_take, List.take_take, Nat.min_eq_left (by omega)]
theorem numF_cut (X : List UInt8) (k : Nat) : numF X k = numF (cutF X k 4) 0 := by
  unfold numF cutF
  simp [List.getElem?_drop]
theorem numF_be4 (n : Nat) (h : n < 4294967296) : numF (be4 n) 0 = n := by
  unfold numF be4 numB
  simp
  omega
theorem frame_parts (p s r : List UInt8) : (p ++ frameB s ++ r = p ++ be4 s.length ++ (lowB (sumL (be4 s.length)) ++ s ++ lowB (sumL s) ++ r))
    ∧ (p ++ frameB s ++ r = (p ++ be4 s.length) ++ lowB (sumL (be4 s.length)) ++ (s ++ lowB (sumL s) ++ r))
    ∧ (p ++ frameB s ++ r = (p ++ be4 s.length ++ lowB (sumL (be4 s.length))) ++ s ++ (lowB (sumL s) ++ r))
    ∧ (p ++ frameB s ++ r = (p ++ be4 s.length ++ lowB (sumL (be4 s.length)) ++ s) ++ lowB (sumL s) ++ r) := by
  unfold frameB headF
  refine ⟨?_, ?_, ?_, ?_⟩ <;> simp
theorem readF_back (p s r : List UInt8) (hs : s.length ≤ 1048576) : readF (p ++ frameB s ++ r) p.length = (s, p.length + (s.length + 12), 0) := by
  obtain ⟨q1, q2, q3, q4⟩ := frame_parts p s r
  have c1 : cutF (p ++ frameB s ++ r) p.length 4 = be4 s.length := by rw [q1]; exact cutF_mid _ _ _ rfl rfl
  have c2 : cutF (p ++ frameB s ++ r) (p.length + 4) 4 = lowB (sumL (be4 s.length)) := by rw [q2]; exact cutF_mid _ _ _ (by rw [List.length_append]; rfl) rfl
  have c3 : cutF (p ++ frameB s ++ r) (p.length + 8) s.length = s := by rw [q3]; exact cutF_mid _ _ _ (by rw [List.length_append, List.length_append]; rfl) rfl
  have c4 : cutF (p ++ frameB s ++ r) (p.length + 8 + s.length) 4 = lowB (sumL s) := by rw [q4]; exact cutF_mid _ _ _ (by rw [List.length_append, List.length_append, List.length_append]; rfl) rfl
  have hn : numF (p ++ frameB s ++ r) p.length = s.length := by rw [numF_cut, c1, numF_be4 _ (by omega)]
  have hl : (p ++ frameB s ++ r).length = p.length + (s.length + 12) + r.length := by rw [List.length_append, List.length_append, frameB_length]
  have b2 : ∀ k u, isB (p ++ frameB s ++ r) k u = (cutF (p ++ frameB s ++ r) k 4 == lowB u) := fun _ _ => rfl
  unfold readF
  rw [b2, b2, hn, c1, c2, c3, c4, hl, if_neg (by omega), if_neg (by simp), if_neg (by omega), if_neg (by omega), if_neg (by simp)]
  simp only [Prod.mk.injEq, true_and, and_true]
  omega
theorem readFA_back (p s r : List UInt8) (hs : s.length ≤ 1048576) : readFA (p ++ frameB s ++ r) (p.length : Int) = (s, p.length + (frameB s).length, 0) := by
  unfold readFA
  rw [if_neg (by simp only [List.length_append]; omega), Int.toNat_natCast, readF_back p s r hs, frameB_length]
theorem readFA_cut (s : List UInt8) (k : Nat) (hs : s.length ≤ 1048576) (hk : k < (frameB s).length) : readFA ((frameB s).take k) 0 = ([], 0, 10) := by
  rw [frameB_length] at hk
  unfold readFA
  rw [if_neg (by omega)]
  show readF ((frameB s).take k) 0 = _
  have hl : ((frameB s).take k).length = k := by rw [List.length_take, frameB_length]; omega
  unfold readF
  by_cases h8 : k < 8
  · rw [if_pos (by omega)]
  obtain ⟨q1, q2, _, _⟩ := frame_parts [] s []
  rw [List.append_nil, List.nil_append, List.nil_append] at q1
  rw [List.append_nil, List.nil_append, List.nil_append] at q2
  have c1 : cutF ((frameB s).take k) 0 4 = be4 s.length := by rw [cutF_take _ (by omega), q1]; exact cutF_mid [] _ _ rfl rfl
  have c2 : cutF ((frameB s).take k) (0 + 4) 4 = lowB (sumL (be4 s.length)) := by rw [cutF_take _ (by omega), q2]; exact cutF_mid _ _ _ rfl rfl
  have hn : numF ((frameB s).take k) 0 = s.length := by rw [numF_cut, c1, numF_be4 _ (by omega)]
  have b2 : ∀ j u, isB ((frameB s).take k) j u = (cutF ((frameB s).take k) j 4 == lowB u) := fun _ _ => rfl
  rw [b2, b2, hn, c1, c2, hl, if_neg (by omega), if_neg (by simp), if_neg (by omega), if_pos (by omega)]
end Go.Proofs.YtbcljgcilbfblaaDoor
