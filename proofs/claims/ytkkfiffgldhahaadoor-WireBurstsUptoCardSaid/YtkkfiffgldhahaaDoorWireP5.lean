/-
  What the check sum tells of bits that follow one another. No program in sight.
-/
import Derived.Test.YtkkfiffgldhahaaDoorWireP4
namespace Go.Proofs.YtkkfiffgldhahaaDoor
open Go.RowKit

theorem dls_cons (n : Nat) (z : Int) (zs : List Int) : dls n (z :: zs) = dl n z ^^^ dls n zs := by
  show (z :: zs).foldl (fun a z => a ^^^ dl n z) 0 = _
  rw [List.foldl_cons, foldl_xor_from, Nat.zero_xor]; rfl
theorem flipsB_out (zs : List Int) : ∀ l : List UInt8, (∀ z ∈ zs, ¬(0 ≤ z ∧ z < 8 * (l.length : Int))) → flipsB l zs = l := by
  induction zs with
  | nil => intro l _; rfl
  | cons z zs ih =>
    intro l h
    show flipsB (flipB l z) zs = l
    rw [flipB_out (h z (by simp))]
    exact ih l fun y hy => h y (by simp [hy])
theorem burst_sum (n b : Nat) (hb : b ≤ 8 * n) : ∀ ys : List Int, ys.Nodup → (∀ z ∈ ys, 0 ≤ z ∧ z < 8 * (n : Int) → (b : Int) ≤ z ∧ z < (b : Int) + 32) →
    ∃ Q : Nat, Q < 4294967296 ∧ dls n ys = rIter (8 * n - b) Q ∧ ∀ t : Nat, Q.testBit t = true ↔ (((b : Int) + (t : Int)) ∈ ys ∧ b + t < 8 * n) := by
  intro ys
  induction ys with
  | nil => intro _ _; exact ⟨0, by decide, (rIter_zero _).symm, fun t => by simp⟩
  | cons z ys ih =>
    intro hnd hw
    have hnd := List.nodup_cons.1 hnd
    obtain ⟨Q, hQ, hd, hbit⟩ := ih hnd.2 fun y hy => hw y (by simp [hy])
    rw [dls_cons, hd]
    by_cases hin : 0 ≤ z ∧ z < 8 * (n : Int)
    · obtain ⟨h1, h2⟩ := hw z (by simp) hin
      obtain ⟨s, rfl⟩ : ∃ s : Nat, z = (b : Int) + (s : Int) := ⟨(z - b).toNat, by omega⟩
      have hs : s < 32 := by omega
      have e : dl n ((b : Int) + (s : Int)) = rIter (8 * n - b) (2 ^ s) := by
        unfold dl
        rw [if_pos hin, show ((b : Int) + (s : Int)).toNat = b + s from by omega]
        have h3 := rIter_pow s 0
        rw [Nat.add_zero, Nat.pow_zero] at h3
        rw [show 8 * n - b = s + (8 * n - (b + s)) from by omega, rIter_add, h3]
      have hp : 2 ^ s < 4294967296 := by
        have : 2 ^ s < 2 ^ 32 := Nat.pow_lt_pow_right (by decide) hs
        omega
      refine ⟨2 ^ s ^^^ Q, Nat.xor_lt_two_pow (n := 32) hp hQ, by rw [e, rIter_xor], fun t => ?_⟩
      rw [Nat.testBit_xor, Nat.testBit_two_pow]
      by_cases hst : s = t
      · subst hst
        have hq : Q.testBit s = false := by
          cases hq : Q.testBit s
          · rfl
          · exact absurd ((hbit s).1 hq).1 hnd.1
        rw [hq]
        simp; omega
      · have hne : ((b : Int) + (t : Int)) ≠ (b : Int) + (s : Int) := by omega
        rw [show decide (s = t) = false from decide_eq_false hst, Bool.false_xor, hbit t]
        simp [hne]
    · have e : dl n z = 0 := by unfold dl; rw [if_neg hin]
      refine ⟨Q, hQ, by rw [e, Nat.zero_xor], fun t => ?_⟩
      rw [hbit t]
      constructor
      · exact fun ⟨h1, h2⟩ => ⟨by simp [h1], h2⟩
      · rintro ⟨h1, h2⟩
        rcases List.mem_cons.1 h1 with h3 | h3
        · exact absurd (by rw [← h3]; omega) hin
        · exact ⟨h3, h2⟩
/-- Bits within 32 that follow one another: what they do to the sum is not 0, or they do nothing. -/
theorem burst_told (l : List UInt8) (b : Nat) (ys : List Int) (hnd : ys.Nodup) (hw : ∀ z ∈ ys, 0 ≤ z ∧ z < 8 * (l.length : Int) → (b : Int) ≤ z ∧ z < (b : Int) + 32) (h : flipsB l ys ≠ l) : dls l.length ys ≠ 0 := by
  obtain ⟨z, hz, hin⟩ : ∃ z ∈ ys, 0 ≤ z ∧ z < 8 * (l.length : Int) := by
    rcases Classical.em (∃ z ∈ ys, 0 ≤ z ∧ z < 8 * (l.length : Int)) with h' | h'
    · exact h'
    · exact absurd (flipsB_out ys l fun z hz hc => h' ⟨z, hz, hc⟩) h
  obtain ⟨h1, h2⟩ := hw z hz hin
  obtain ⟨Q, hQ, hd, hbit⟩ := burst_sum l.length b (by omega) ys hnd hw
  obtain ⟨s, rfl⟩ : ∃ s : Nat, z = (b : Int) + (s : Int) := ⟨(z - b).toNat, by omega⟩
  rw [hd]
  intro h0
  have h3 := rIter_eq_zero _ hQ h0
  have h4 := (hbit s).2 ⟨hz, by omega⟩
  rw [h3] at h4
  simp at h4

/-- The bits that the pattern says, the first k of it. -/
def bz (a hi P k : Nat) : List Int := ((List.range k).filter fun i => decide (a + i < hi) && P.testBit i).map fun i => ((a + i : Nat) : Int)
theorem bz_succ (a hi P k : Nat) : bz a hi P (k + 1) = bz a hi P k ++ if a + k < hi ∧ P.testBit k = true then [((a + k : Nat) : Int)] else [] := by
  unfold bz
  rw [List.range_succ, List.filter_append, List.map_append]
  congr 1
  by_cases h : a + k < hi ∧ P.testBit k = true
  · rw [if_pos h]
    simp [h.1, h.2]
  · rw [if_neg h]
    have : (decide (a + k < hi) && P.testBit k) = false := by
      cases hc : (decide (a + k < hi) && P.testBit k)
      · rfl
      · simp at hc; exact absurd hc h
    simp [this]
theorem bz_nodup (a hi P k : Nat) : (bz a hi P k).Nodup := by
  unfold bz
  refine List.Pairwise.map _ (fun i j h => ?_) (List.Pairwise.filter _ List.nodup_range)
  intro e
  apply h
  omega
theorem bz_mem {a hi P k : Nat} {z : Int} (h : z ∈ bz a hi P k) : (a : Int) ≤ z ∧ z < (a : Int) + k := by
  unfold bz at h
  obtain ⟨i, hi, rfl⟩ := List.mem_map.1 h
  have := List.mem_range.1 (List.mem_filter.1 hi).1
  omega
theorem pat_walk (P j : Nat) (hP : P < 4294967296) : (bits .and .u32 ((P : Int) / 2 ^ j) 1 == 1) = P.testBit j := by
  have hp : 1 ≤ 2 ^ j := Nat.one_le_two_pow
  have h1 : P / 2 ^ j ≤ P := Nat.div_le_self _ _
  rw [show (P : Int) / 2 ^ j = ((P / 2 ^ j : Nat) : Int) from by rw [Int.natCast_ediv, Int.natCast_pow]; rfl, show (1 : Int) = ((1 : Nat) : Int) from rfl, u32_and_nat _ _ (by omega) (by omega), Nat.and_one_is_mod]
  rw [Nat.testBit_eq_decide_div_mod_eq, Bool.eq_iff_iff, beq_iff_eq, decide_eq_true_iff]
  omega
theorem frame_burst (l : List UInt8) (a hi P : Nat) (r : List UInt8) (hl : l.length ≤ 1048576) (hne : flipsB (frameB l) (bz a hi P 32) ≠ frameB l) : readFA (flipsB (frameB l) (bz a hi P 32) ++ r) 0 = ([], 0, 12) := by
  refine frame_told l _ r hl hne fun D ys hD hys h => ?_
  rcases hys with rfl | rfl
  · refine burst_told D a _ (bz_nodup a hi P 32) (fun z hz _ => ?_) h
    have := bz_mem hz
    omega
  · refine burst_told D (a - 64) _ (List.Pairwise.map _ (fun i j h => by omega) (bz_nodup a hi P 32)) (fun z hz hin => ?_) h
    obtain ⟨y, hy, rfl⟩ := List.mem_map.1 hz
    have := bz_mem hy
    omega

end Go.Proofs.YtkkfiffgldhahaaDoor
