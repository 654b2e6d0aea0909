/-
  Whatever a Read reads is written just so. No program in sight.
-/
import Derived.Test.YtkkfiffgldhahaaDoorWireP8
namespace Go.Proofs.YtkkfiffgldhahaaDoor
open Go.RowKit

theorem cutS_app (l : List UInt8) {a q p : Nat} (h1 : a ≤ q) (h2 : q ≤ p) : cutS l a (q - a) ++ cutS l q (p - q) = cutS l a (p - a) := by
  unfold cutS
  have e : l.drop q = (l.drop a).drop (q - a) := by rw [List.drop_drop]; congr 1; omega
  rw [e, show p - a = (q - a) + (p - q) from by omega, List.take_add]
theorem rdU_canon : ∀ (l : List UInt8) (i v : Nat), (rdU l i v).2.2 = 0 → ∃ V, (rdU l i v).1 = v + V * 2 ^ (7 * i) ∧ uintB V = l.take ((rdU l i v).2.1 - i) ∧ (V ≠ 0 ∨ i = 0) ∧ i < (rdU l i v).2.1 := by
  intro l
  induction l with
  | nil => intro i v h; cases h
  | cons c r ih =>
    intro i v h
    unfold rdU at h ⊢
    split at h
    · cases h
    · rename_i h1
      rw [if_neg h1]
      split at h
      · rename_i h2
        rw [if_pos h2]
        split at h
        · cases h
        · rename_i h3
          rw [if_neg h3]
          refine ⟨c.toNat, ?_, ?_, by omega, by simp⟩
          · show v + c.toNat % 128 * 2 ^ (7 * i) = _
            rw [Nat.mod_eq_of_lt h2]
          · show uintB c.toNat = (c :: r).take (i + 1 - i)
            rw [Nat.add_sub_cancel_left, uintB_lt h2]
            simp
      · rename_i h2
        rw [if_neg h2]
        obtain ⟨V, e1, e2, e3, e4⟩ := ih _ _ h
        have hc := c.toNat_lt
        refine ⟨c.toNat % 128 + 128 * V, ?_, ?_, by omega, by omega⟩
        · rw [e1, pow7_step, Nat.add_mul, Nat.mul_comm 128 V, Nat.mul_assoc, Nat.add_assoc]
        · rw [uintB_ge (by omega), show (c.toNat % 128 + 128 * V) % 128 + 128 = c.toNat from by omega, show (c.toNat % 128 + 128 * V) / 128 = V from by omega, e2]
          generalize (rdU r (i + 1) (v + c.toNat % 128 * 2 ^ (7 * i))).2.1 = q at e4 ⊢
          rw [show q - i = (q - (i + 1)) + 1 from by omega, List.take_succ_cons]
          congr 1
          exact UInt8.toNat_inj.1 (by rw [UInt8.toNat_ofNat']; omega)
theorem readU_canon (l : List UInt8) (a : Int) (h : (readU l a).2.2 = 0) : uintB (readU l a).1 = cutS l a.toNat ((readU l a).2.1 - a.toNat) := by
  unfold readU at h ⊢
  split at h
  · cases h
  · rename_i h1
    rw [if_neg h1]
    split at h
    · rename_i h2
      rw [if_pos h2]
      obtain ⟨V, e1, e2, _, _⟩ := rdU_canon _ _ _ h2
      show uintB (rdU (l.drop a.toNat) 0 0).1 = cutS l a.toNat (a.toNat + (rdU (l.drop a.toNat) 0 0).2.1 - a.toNat)
      rw [e1, Nat.add_sub_cancel_left]
      simp only [Nat.mul_zero, Nat.pow_zero, Nat.mul_one, Nat.zero_add]
      rw [e2, Nat.sub_zero]
      rfl
    · rename_i h2
      exact absurd h h2
theorem cutS_len (l : List UInt8) {k m : Nat} (h : k + m ≤ l.length) : (cutS l k m).length = m := by unfold cutS; rw [List.length_take, List.length_drop]; omega
theorem readBy_end (l : List UInt8) (a most : Int) (h : (readBy l a most).2.2 = 0) : uintB (readBy l a most).1.length ++ (readBy l a most).1 = cutS l a.toNat ((readBy l a most).2.1 - a.toNat) ∧ (readBy l a most).2.1 ≤ l.length ∧ 0 ≤ a ∧ a.toNat < (readBy l a most).2.1 ∧ (readBy l a most).1.length ≤ l.length := by
  unfold readBy at h ⊢
  split at h
  · cases h
  · rename_i h1
    rw [if_neg h1]
    split at h
    · rename_i h2; exact absurd h h2
    · rename_i h2
      rw [if_neg h2]
      split at h
      · cases h
      · rename_i h3
        rw [if_neg h3]
        split at h
        · cases h
        · rename_i h4
          rw [if_neg h4]
          have hu : (readU l a).2.2 = 0 := by omega
          obtain ⟨e1, e2, e3⟩ := readU_end l a hu
          have e4 := readU_canon l a hu
          generalize readU l a = r at *
          have hl := cutS_len l (k := r.2.1) (m := r.1) (by omega)
          refine ⟨?_, by show r.2.1 + r.1 ≤ _; omega, e2, by show _ < r.2.1 + r.1; omega, by show (cutS l r.2.1 r.1).length ≤ _; omega⟩
          show uintB (cutS l r.2.1 r.1).length ++ cutS l r.2.1 r.1 = cutS l a.toNat (r.2.1 + r.1 - a.toNat)
          rw [hl, e4, ← cutS_app l (a := a.toNat) (q := r.2.1) (p := r.2.1 + r.1) (by omega) (by omega), Nat.add_sub_cancel_left]
theorem be4_num (x2 x3 x4 x5 : UInt8) : be4 (numB x2 x3 x4 x5) = [x2, x3, x4, x5] := by
  have h2 := x2.toNat_lt; have h3 := x3.toNat_lt; have h4 := x4.toNat_lt; have h5 := x5.toNat_lt
  unfold be4 numB
  have q : ∀ (x : UInt8) (v : Nat), v % 256 = x.toNat → UInt8.ofNat v = x := fun x v hv => UInt8.toNat_inj.1 (by rw [UInt8.toNat_ofNat']; exact hv)
  rw [q x2 _ (by omega), q x3 _ (by omega), q x4 _ (by omega), q x5 _ (by omega)]
theorem cut_four (l : List UInt8) (k : Nat) (h : k + 4 ≤ l.length) : cutS l k 4 = [l[k]?.getD 0, l[k + 1]?.getD 0, l[k + 2]?.getD 0, l[k + 3]?.getD 0] := by
  unfold cutS
  apply List.ext_getElem?
  intro i
  match i with
  | 0 => rw [List.getElem?_take_of_lt (by omega), List.getElem?_drop, Nat.add_zero, List.getElem?_eq_getElem (by omega)]; rfl
  | 1 => rw [List.getElem?_take_of_lt (by omega), List.getElem?_drop, List.getElem?_eq_getElem (by omega)]; rfl
  | 2 => rw [List.getElem?_take_of_lt (by omega), List.getElem?_drop, List.getElem?_eq_getElem (by omega)]; rfl
  | 3 => rw [List.getElem?_take_of_lt (by omega), List.getElem?_drop, List.getElem?_eq_getElem (by omega)]; rfl
  | i + 4 => rw [List.getElem?_eq_none (by rw [List.length_take]; omega)]; rfl
theorem be4_cut (l : List UInt8) (k : Nat) (h : k + 4 ≤ l.length) : be4 (numF l k) = cutS l k 4 := by
  rw [cut_four l k h]; exact be4_num _ _ _ _
theorem isB_cut {l : List UInt8} {k s : Nat} (h : ¬ isB l k s = false) : lowB s = cutS l k 4 := by
  unfold isB at h
  rw [Bool.not_eq_false, beq_iff_eq] at h
  exact h.symm
theorem readF_end (l : List UInt8) (k : Nat) (h : (readF l k).2.2 = 0) : frameB (readF l k).1 = cutS l k ((readF l k).2.1 - k) ∧ (readF l k).2.1 ≤ l.length ∧ k < (readF l k).2.1 ∧ (readF l k).1.length ≤ 1048576 := by
  unfold readF at h ⊢
  by_cases h1 : l.length < k + 8
  · rw [if_pos h1] at h; exact absurd h (by decide)
  rw [if_neg h1] at h ⊢
  by_cases h2 : isB l (k + 4) (sumL (cutF l k 4)) = false
  · rw [if_pos h2] at h; exact absurd h (by decide)
  rw [if_neg h2] at h ⊢
  by_cases h3 : 1048576 < numF l k
  · rw [if_pos h3] at h; exact absurd h (by decide)
  rw [if_neg h3] at h ⊢
  by_cases h4 : l.length < k + 8 + numF l k + 4
  · rw [if_pos h4] at h; exact absurd h (by decide)
  rw [if_neg h4] at h ⊢
  by_cases h5 : isB l (k + 8 + numF l k) (sumL (cutF l (k + 8) (numF l k))) = false
  · rw [if_pos h5] at h; exact absurd h (by decide)
  rw [if_neg h5]
  have b1 := be4_cut l k (by omega)
  have b2 := isB_cut h2
  have b3 := isB_cut h5
  generalize numF l k = m at *
  have hl : (cutF l (k + 8) m).length = m := cutS_len l (by omega)
  refine ⟨?_, by show k + 8 + m + 4 ≤ _; omega, by show k < k + 8 + m + 4; omega, by show (cutF l (k + 8) m).length ≤ _; omega⟩
  show frameB (cutF l (k + 8) m) = cutS l k (k + 8 + m + 4 - k)
  unfold frameB headF
  rw [hl, b1, b3, show lowB (sumL (cutS l k 4)) = cutS l (k + 4) 4 from b2]
  show cutS l k 4 ++ cutS l (k + 4) 4 ++ cutS l (k + 8) m ++ cutS l (k + 8 + m) 4 = _
  have a1 := cutS_app l (a := k) (q := k + 4) (p := k + 8) (by omega) (by omega)
  have a2 := cutS_app l (a := k) (q := k + 8) (p := k + 8 + m) (by omega) (by omega)
  have a3 := cutS_app l (a := k) (q := k + 8 + m) (p := k + 8 + m + 4) (by omega) (by omega)
  rw [show k + 4 - k = 4 from by omega, show k + 8 - (k + 4) = 4 from by omega] at a1
  rw [show k + 8 + m - (k + 8) = m from by omega] at a2
  rw [show k + 8 + m + 4 - (k + 8 + m) = 4 from by omega] at a3
  rw [a1, a2, a3]
theorem readFA_end (l : List UInt8) (a : Int) (h : (readFA l a).2.2 = 0) : frameB (readFA l a).1 = cutS l a.toNat ((readFA l a).2.1 - a.toNat) ∧ (readFA l a).2.1 ≤ l.length ∧ 0 ≤ a ∧ a.toNat < (readFA l a).2.1 ∧ (readFA l a).1.length ≤ 1048576 := by
  unfold readFA at h ⊢
  by_cases h1 : a < 0 ∨ (l.length : Int) < a
  · rw [if_pos h1] at h; exact absurd h (by decide)
  rw [if_neg h1] at h ⊢
  obtain ⟨e1, e2, e3, e4⟩ := readF_end l a.toNat h
  exact ⟨e1, e2, by omega, e3, e4⟩
end Go.Proofs.YtkkfiffgldhahaaDoor
