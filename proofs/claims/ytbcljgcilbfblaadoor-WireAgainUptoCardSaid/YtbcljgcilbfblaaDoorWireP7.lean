/-
  Byte strings in order, numbers in order. No program in sight.
-/
import Derived.Test.YtbcljgcilbfblaaDoorWireP6
namespace Go.Proofs.YtbcljgcilbfblaaDoor
open Go.RowKit

/-- -1, 0, 1: byte by byte, a beginning ahead. -/
def cmpB : List UInt8 → List UInt8 → Int
  | [], [] => 0
  | [], _ :: _ => -1
  | _ :: _, [] => 1
  | x :: a, y :: b => if x.toNat < y.toNat then -1 else if y.toNat < x.toNat then 1 else cmpB a b
theorem cmpB_self (a : List UInt8) : cmpB a a = 0 := by
  induction a with
  | nil => rfl
  | cons x a ih => unfold cmpB; rw [if_neg (by omega), if_neg (by omega)]; exact ih
theorem cmpB_val (a : List UInt8) : ∀ b, cmpB a b = -1 ∨ cmpB a b = 0 ∨ cmpB a b = 1 := by
  induction a with
  | nil => intro b; cases b <;> simp [cmpB]
  | cons x a ih =>
    intro b
    cases b with
    | nil => simp [cmpB]
    | cons y b =>
      unfold cmpB
      split
      · exact .inl rfl
      · split
        · exact .inr (.inr rfl)
        · exact ih b
/-- Where k bytes are alike. -/
theorem cmpB_drop (a b : List UInt8) : ∀ k, a.take k = b.take k → cmpB (a.drop k) (b.drop k) = cmpB a b := by
  intro k
  induction k generalizing a b with
  | zero => intro _; rfl
  | succ k ih =>
    intro h
    cases a with
    | nil =>
      cases b with
      | nil => rfl
      | cons y b => simp at h
    | cons x a =>
      cases b with
      | nil => simp at h
      | cons y b =>
        simp only [List.take_succ_cons, List.cons.injEq] at h
        obtain ⟨rfl, h⟩ := h
        rw [List.drop_succ_cons, List.drop_succ_cons, ih a b h]
        conv => rhs; unfold cmpB
        rw [if_neg (by omega), if_neg (by omega)]
/-- A byte string so that it sorts. -/
def ordC (c : UInt8) : List UInt8 := if c.toNat = 0 then [0, 255] else [c]
def ordB (l : List UInt8) : List UInt8 := l.flatMap ordC ++ [0, 1]
theorem ordC_len (c : UInt8) : (ordC c).length ≤ 2 ∧ 1 ≤ (ordC c).length := by unfold ordC; split <;> simp
theorem ordF_len (l : List UInt8) : (l.flatMap ordC).length ≤ 2 * l.length := by
  induction l with
  | nil => simp
  | cons c l ih => rw [List.flatMap_cons, List.length_append, List.length_cons]; have := ordC_len c; omega
theorem ordB_len (l : List UInt8) : (ordB l).length ≤ 2 * l.length + 2 := by unfold ordB; rw [List.length_append, show ([0, 1] : List UInt8).length = 2 from rfl]; have := ordF_len l; omega
theorem cmpB_skip (x : UInt8) (a b : List UInt8) : cmpB (x :: a) (x :: b) = cmpB a b := by
  conv => lhs; unfold cmpB
  rw [if_neg (by omega), if_neg (by omega)]
theorem cmpB_lt {x y : UInt8} (h : x.toNat < y.toNat) (a b : List UInt8) : cmpB (x :: a) (y :: b) = -1 := by
  unfold cmpB; rw [if_pos h]
theorem cmpB_gt {x y : UInt8} (h : y.toNat < x.toNat) (a b : List UInt8) : cmpB (x :: a) (y :: b) = 1 := by
  unfold cmpB; rw [if_neg (by omega), if_pos h]
/-- Written so, byte strings sort as they did, whatever is laid behind. -/
theorem ord_sorts (a : List UInt8) : ∀ b x y : List UInt8, cmpB (ordB a ++ x) (ordB b ++ y) = if cmpB a b = 0 then cmpB x y else cmpB a b := by
  induction a with
  | nil =>
    intro b x y
    cases b with
    | nil =>
      show cmpB (0 :: 1 :: x) (0 :: 1 :: y) = _
      rw [cmpB_skip, cmpB_skip]; rfl
    | cons d b =>
      show cmpB (0 :: 1 :: x) ((ordC d ++ b.flatMap ordC) ++ [0, 1] ++ y) = -1
      unfold ordC
      split
      · show cmpB (0 :: 1 :: x) (0 :: 255 :: _) = -1
        rw [cmpB_skip, cmpB_lt (by decide)]
      · exact cmpB_lt (by show 0 < d.toNat; omega) _ _
  | cons c a ih =>
    intro b x y
    cases b with
    | nil =>
      show cmpB ((ordC c ++ a.flatMap ordC) ++ [0, 1] ++ x) (0 :: 1 :: y) = 1
      unfold ordC
      split
      · show cmpB (0 :: 255 :: _) (0 :: 1 :: y) = 1
        rw [cmpB_skip, cmpB_gt (by decide)]
      · exact cmpB_gt (by show 0 < c.toNat; omega) _ _
    | cons d b =>
      have e1 : ordB (c :: a) ++ x = ordC c ++ (ordB a ++ x) := by unfold ordB; simp
      have e2 : ordB (d :: b) ++ y = ordC d ++ (ordB b ++ y) := by unfold ordB; simp
      rw [e1, e2]
      rcases Nat.lt_trichotomy c.toNat d.toNat with h | h | h
      · rw [cmpB_lt h, if_neg (by decide)]
        unfold ordC
        rw [if_neg (show ¬ d.toNat = 0 by omega)]
        split
        · exact cmpB_lt (by show 0 < d.toNat; omega) _ _
        · exact cmpB_lt h _ _
      · obtain rfl := UInt8.toNat_inj.1 h
        rw [cmpB_skip]
        unfold ordC
        split
        · show cmpB (0 :: 255 :: (ordB a ++ x)) (0 :: 255 :: (ordB b ++ y)) = _
          rw [cmpB_skip, cmpB_skip, ih]
        · show cmpB (c :: (ordB a ++ x)) (c :: (ordB b ++ y)) = _
          rw [cmpB_skip, ih]
      · rw [cmpB_gt h, if_neg (by decide)]
        unfold ordC
        rw [if_neg (show ¬ c.toNat = 0 by omega)]
        split
        · exact cmpB_gt (by show 0 < c.toNat; omega) _ _
        · exact cmpB_gt h _ _
theorem ord_same (a b : List UInt8) : cmpB (ordB a) (ordB b) = cmpB a b := by
  have h := ord_sorts a b [] []
  rw [List.append_nil, List.append_nil] at h
  rw [h]
  split
  · rename_i h0; rw [h0]; rfl
  · rfl
def begB (p q : List UInt8) : Bool := decide (p.length ≤ q.length) && (p == q.take p.length)
theorem ord_begins (a b : List UInt8) (h : cmpB a b ≠ 0) : begB (ordB a) (ordB b) = false := by
  cases hb : begB (ordB a) (ordB b)
  · rfl
  · unfold begB at hb
    simp only [Bool.and_eq_true, decide_eq_true_eq, beq_iff_eq] at hb
    have e : ordB b = ordB a ++ (ordB b).drop (ordB a).length := by
      conv => lhs; rw [← List.take_append_drop (ordB a).length (ordB b), ← hb.2]
    have h1 := ord_sorts a b ((ordB b).drop (ordB a).length) []
    rw [← e, List.append_nil, cmpB_self, if_neg h] at h1
    exact absurd h1.symm h
theorem cmpB_swap (a : List UInt8) : ∀ b, cmpB b a = - cmpB a b := by
  induction a with
  | nil => intro b; cases b <;> rfl
  | cons x a ih =>
    intro b
    cases b with
    | nil => rfl
    | cons y b =>
      rcases Nat.lt_trichotomy x.toNat y.toNat with h | h | h
      · rw [cmpB_lt h, cmpB_gt h]; rfl
      · obtain rfl := UInt8.toNat_inj.1 h
        rw [cmpB_skip, cmpB_skip, ih]
      · rw [cmpB_gt h, cmpB_lt h]

/-- A number in eight bytes, so many of them written from the last on. -/
def rTo (v j : Nat) : List UInt8 := (List.range 8).map fun t => if 8 - j ≤ t then UInt8.ofNat (v / 256 ^ (7 - t)) else 0
def risB (v : Nat) : List UInt8 := rTo v 8
theorem rTo_len (v j : Nat) : (rTo v j).length = 8 := by simp [rTo]
theorem rTo_succ (v j : Nat) (hj : j < 8) : rTo v (j + 1) = (rTo v j).set (7 - j) (UInt8.ofNat (v / 256 ^ j)) := by
  apply List.ext_getElem?
  intro t
  rw [List.getElem?_set]
  unfold rTo
  by_cases ht : t < 8
  · rw [List.getElem?_map, List.getElem?_range ht, List.getElem?_map, List.getElem?_range ht]
    simp only [Option.map_some, List.length_map, List.length_range]
    by_cases e : 7 - j = t
    · rw [if_pos e, if_pos (by omega), if_pos (by omega), show 7 - t = j from by omega]
    · rw [if_neg e]
      by_cases h : 8 - j ≤ t
      · rw [if_pos h, if_pos (by omega)]
      · rw [if_neg h, if_neg (by omega)]
  · rw [List.getElem?_eq_none (by simp; omega), if_neg (by omega), List.getElem?_eq_none (by simp; omega)]
/-- The number of bytes, the highest first. -/
def big (l : List UInt8) : Nat := l.foldl (fun a c => a * 256 + c.toNat) 0
theorem big_from (l : List UInt8) : ∀ a, l.foldl (fun a c => a * 256 + c.toNat) a = a * 256 ^ l.length + big l := by
  induction l with
  | nil => intro a; simp [big]
  | cons c l ih =>
    intro a
    rw [List.foldl_cons, ih]
    unfold big
    rw [List.foldl_cons, ih (0 * 256 + c.toNat), List.length_cons, Nat.pow_succ, Nat.add_mul, Nat.add_mul]
    simp only [Nat.zero_mul, Nat.zero_add]
    rw [Nat.mul_assoc, Nat.mul_comm 256]
    unfold big
    omega
theorem big_cons (c : UInt8) (l : List UInt8) : big (c :: l) = c.toNat * 256 ^ l.length + big l := by
  show (c :: l).foldl (fun a c => a * 256 + c.toNat) 0 = _
  rw [List.foldl_cons, big_from]; simp
theorem big_lt (l : List UInt8) : big l < 256 ^ l.length := by
  induction l with
  | nil => simp [big]
  | cons c l ih =>
    rw [big_cons, List.length_cons, Nat.pow_succ]
    have hc := c.toNat_lt
    have h1 : c.toNat ≤ 255 := by omega
    have := Nat.mul_le_mul_right (256 ^ l.length) h1
    omega
/-- Bytes of one length sort as their numbers do. -/
theorem cmp_big : ∀ (a b : List UInt8), a.length = b.length → cmpB a b = if big a < big b then -1 else if big b < big a then 1 else 0 := by
  intro a
  induction a with
  | nil =>
    intro b h
    cases b with
    | nil => rfl
    | cons _ _ => cases h
  | cons x a ih =>
    intro b h
    cases b with
    | nil => cases h
    | cons y b =>
      have hl : a.length = b.length := by simpa using h
      have ha := big_lt a
      have hb := big_lt b
      rw [hl] at ha
      rw [big_cons, big_cons, hl]
      rcases Nat.lt_trichotomy x.toNat y.toNat with h1 | h1 | h1
      · have h2 := Nat.mul_le_mul_right (256 ^ b.length) (show x.toNat + 1 ≤ y.toNat from h1)
        rw [Nat.add_mul, Nat.one_mul] at h2
        rw [cmpB_lt h1, if_pos (by omega)]
      · obtain rfl := UInt8.toNat_inj.1 h1
        rw [cmpB_skip, ih b hl]
        by_cases h3 : big a < big b
        · rw [if_pos h3, if_pos (by omega)]
        · by_cases h4 : big b < big a
          · rw [if_neg h3, if_pos h4, if_neg (by omega), if_pos (by omega)]
          · rw [if_neg h3, if_neg h4, if_neg (by omega), if_neg (by omega)]
      · have h2 := Nat.mul_le_mul_right (256 ^ b.length) (show y.toNat + 1 ≤ x.toNat from h1)
        rw [Nat.add_mul, Nat.one_mul] at h2
        rw [cmpB_gt h1, if_neg (by omega), if_pos (by omega)]
theorem risB_big (v : Nat) (h : v < 18446744073709551616) : big (risB v) = v := by
  have e : risB v = [UInt8.ofNat (v / 72057594037927936), UInt8.ofNat (v / 281474976710656), UInt8.ofNat (v / 1099511627776), UInt8.ofNat (v / 4294967296), UInt8.ofNat (v / 16777216), UInt8.ofNat (v / 65536), UInt8.ofNat (v / 256), UInt8.ofNat v] := by
    simp [risB, rTo, List.range_succ]
  rw [e]
  unfold big
  simp only [List.foldl_cons, List.foldl_nil, UInt8.toNat_ofNat']
  omega
theorem ris_sorts (m n : Nat) (hm : m < 18446744073709551616) (hn : n < 18446744073709551616) : cmpB (risB m) (risB n) = if m < n then -1 else if n < m then 1 else 0 := by
  rw [cmp_big _ _ (by unfold risB; rw [rTo_len, rTo_len]), risB_big m hm, risB_big n hn]

end Go.Proofs.YtbcljgcilbfblaaDoor
