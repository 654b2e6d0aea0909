/-
  What the three other Reads answer, and that they read what the writers write. No program in sight.
-/
import Derived.Test.YtbcljgcilbfblaaDoorWireP7
namespace Go.Proofs.YtbcljgcilbfblaaDoor
open Go.RowKit

def addO (x : UInt8) (j : Nat) (r : List UInt8 × Nat × Nat) : List UInt8 × Nat × Nat := if r.2.2 = 0 then (x :: r.1, r.2.1 + j, 0) else ([], 0, r.2.2)
/-- What ReadOrdered makes of what lies ahead of it: bytes, how many it took, the error. -/
def rdO : List UInt8 → List UInt8 × Nat × Nat
  | [] => ([], 0, 10)
  | [_] => ([], 0, 10)
  | c :: d :: t => if c.toNat = 0 then (if d.toNat = 1 then ([], 2, 0) else if d.toNat = 255 then addO 0 2 (rdO t) else ([], 0, 11)) else addO c 1 (rdO (d :: t))
theorem rdO_ne {c : UInt8} (h : c.toNat ≠ 0) (t : List UInt8) : rdO (c :: t) = addO c 1 (rdO t) := by
  cases t with
  | nil => rfl
  | cons d t => conv => lhs; unfold rdO
                rw [if_neg h]
theorem rdO_one {c d : UInt8} (h : c.toNat = 0) (h1 : d.toNat = 1) (t : List UInt8) : rdO (c :: d :: t) = ([], 2, 0) := by
  conv => lhs; unfold rdO
  rw [if_pos h, if_pos h1]
theorem rdO_zero {c d : UInt8} (h : c.toNat = 0) (h1 : d.toNat = 255) (t : List UInt8) : rdO (c :: d :: t) = addO 0 2 (rdO t) := by
  conv => lhs; unfold rdO
  rw [if_pos h, if_neg (by omega), if_pos h1]
theorem rdO_form {c d : UInt8} (h : c.toNat = 0) (h1 : d.toNat ≠ 1) (h2 : d.toNat ≠ 255) (t : List UInt8) : rdO (c :: d :: t) = ([], 0, 11) := by
  conv => lhs; unfold rdO
  rw [if_pos h, if_neg h1, if_neg h2]
theorem ordB_cons (c : UInt8) (s : List UInt8) : ordB (c :: s) = ordC c ++ ordB s := by unfold ordB; simp
theorem ordC_zero : ordC 0 = [0, 255] := rfl
theorem ordC_ne {c : UInt8} (h : c.toNat ≠ 0) : ordC c = [c] := by unfold ordC; rw [if_neg h]
theorem rdO_ord : ∀ (n : Nat) (l : List UInt8), l.length ≤ n → (rdO l).2.2 = 0 → ordB (rdO l).1 = l.take (rdO l).2.1 ∧ (rdO l).2.1 ≤ l.length ∧ 2 ≤ (rdO l).2.1 ∧ (rdO l).1.length ≤ l.length := by
  intro n
  induction n with
  | zero =>
    intro l hl h
    obtain rfl := List.eq_nil_of_length_eq_zero (show l.length = 0 by omega)
    exact absurd h (by decide)
  | succ n ih =>
    intro l hl h
    match l, hl, h with
    | [], _, h => exact absurd h (by decide)
    | [c], _, h => exact absurd h (by show ¬ (10 = 0); decide)
    | c :: d :: t, hl, h =>
      simp only [List.length_cons] at hl
      by_cases hc : c.toNat = 0
      · by_cases h1 : d.toNat = 1
        · rw [rdO_one hc h1]
          obtain rfl := UInt8.toNat_inj.1 (show c.toNat = (0 : UInt8).toNat from hc)
          obtain rfl := UInt8.toNat_inj.1 (show d.toNat = (1 : UInt8).toNat from h1)
          exact ⟨rfl, by simp, by simp, by simp⟩
        · by_cases h2 : d.toNat = 255
          · rw [rdO_zero hc h2] at h ⊢
            have h0 : (rdO t).2.2 = 0 := by unfold addO at h; split at h <;> assumption
            obtain ⟨e1, e2, e3, e4⟩ := ih t (by omega) h0
            obtain rfl := UInt8.toNat_inj.1 (show c.toNat = (0 : UInt8).toNat from hc)
            obtain rfl := UInt8.toNat_inj.1 (show d.toNat = (255 : UInt8).toNat from h2)
            unfold addO
            rw [if_pos h0]
            refine ⟨?_, by simp <;> omega, by simp <;> omega, by simp <;> omega⟩
            show ordB (0 :: (rdO t).1) = _
            rw [ordB_cons, ordC_zero, e1]
            simp
          · rw [rdO_form hc h1 h2] at h
            exact absurd h (by show ¬ (11 = 0); decide)
      · rw [rdO_ne hc] at h ⊢
        have h0 : (rdO (d :: t)).2.2 = 0 := by unfold addO at h; split at h <;> assumption
        obtain ⟨e1, e2, e3, e4⟩ := ih (d :: t) (by simp; omega) h0
        unfold addO
        rw [if_pos h0]
        refine ⟨?_, by simp only [List.length_cons] at e2 ⊢; omega, by show 2 ≤ _ + 1; omega, by simp only [List.length_cons] at e4 ⊢; omega⟩
        show ordB (c :: (rdO (d :: t)).1) = _
        rw [ordB_cons, ordC_ne hc, e1]
        simp
theorem rdO_back (s : List UInt8) : ∀ r, rdO (ordB s ++ r) = (s, (ordB s).length, 0) := by
  induction s with
  | nil => intro r; exact rdO_one rfl rfl r
  | cons c s ih =>
    intro r
    rw [ordB_cons]
    by_cases hc : c.toNat = 0
    · obtain rfl := UInt8.toNat_inj.1 (show c.toNat = (0 : UInt8).toNat from hc)
      rw [ordC_zero]
      show rdO (0 :: 255 :: (ordB s ++ r)) = _
      rw [rdO_zero rfl rfl, ih]
      rfl
    · rw [ordC_ne hc]
      show rdO (c :: (ordB s ++ r)) = _
      rw [rdO_ne hc, ih]
      rfl
theorem rdO_cut (s : List UInt8) : ∀ k, k < (ordB s).length → rdO ((ordB s).take k) = ([], 0, 10) := by
  induction s with
  | nil =>
    intro k hk
    match k, hk with
    | 0, _ => rfl
    | 1, _ => rfl
    | k + 2, hk => exact absurd hk (by show ¬ (k + 2 < 2); omega)
  | cons c s ih =>
    intro k hk
    rw [ordB_cons] at hk ⊢
    by_cases hc : c.toNat = 0
    · obtain rfl := UInt8.toNat_inj.1 (show c.toNat = (0 : UInt8).toNat from hc)
      rw [ordC_zero] at hk ⊢
      match k, hk with
      | 0, _ => rfl
      | 1, _ => rfl
      | k + 2, hk =>
        show rdO (0 :: 255 :: (ordB s).take k) = _
        rw [rdO_zero rfl rfl, ih k (by simp at hk; omega)]
        rfl
    · rw [ordC_ne hc] at hk ⊢
      match k, hk with
      | 0, _ => rfl
      | k + 1, hk =>
        show rdO (c :: (ordB s).take k) = _
        rw [rdO_ne hc, ih k (by simp at hk; omega)]
        rfl
def glO (out : List UInt8) (k : Nat) (r : List UInt8 × Nat × Nat) : List UInt8 × Nat × Nat := if r.2.2 = 0 then (out ++ r.1, k + r.2.1, 0) else ([], 0, r.2.2)
theorem glO_add (out : List UInt8) (k : Nat) (x : UInt8) (j : Nat) (r : List UInt8 × Nat × Nat) : glO out k (addO x j r) = glO (out ++ [x]) (k + j) r := by
  unfold glO addO
  by_cases h : r.2.2 = 0
  · simp [h]; omega
  · simp [h]
def readO (l : List UInt8) (a : Int) : List UInt8 × Nat × Nat := if a < 0 ∨ (l.length : Int) < a then ([], 0, 1) else glO [] a.toNat (rdO (l.drop a.toNat))
theorem readO_in {l : List UInt8} {k : Nat} (h : k ≤ l.length) : readO l (k : Int) = glO [] k (rdO (l.drop k)) := by
  unfold readO; rw [if_neg (by omega)]; rfl
theorem readO_end (l : List UInt8) (a : Int) (h : (readO l a).2.2 = 0) : ordB (readO l a).1 = cutS l a.toNat ((readO l a).2.1 - a.toNat) ∧ (readO l a).2.1 ≤ l.length ∧ 0 ≤ a ∧ a.toNat < (readO l a).2.1 ∧ (readO l a).1.length ≤ l.length := by
  unfold readO at h ⊢
  by_cases ha : a < 0 ∨ (l.length : Int) < a
  · rw [if_pos ha] at h; exact absurd h (by decide)
  · rw [if_neg ha] at h ⊢
    have h0 : (rdO (l.drop a.toNat)).2.2 = 0 := by unfold glO at h; split at h <;> assumption
    obtain ⟨e1, e2, e3, e4⟩ := rdO_ord _ (l.drop a.toNat) (Nat.le_refl _) h0
    unfold glO
    rw [if_pos h0]
    rw [List.length_drop] at e2 e4
    refine ⟨?_, by simp; omega, by omega, by simp; omega, by simp; omega⟩
    show ordB ([] ++ (rdO (l.drop a.toNat)).1) = cutS l a.toNat (a.toNat + (rdO (l.drop a.toNat)).2.1 - a.toNat)
    rw [List.nil_append, e1, Nat.add_sub_cancel_left]
    rfl
theorem readO_back (p s r : List UInt8) : readO (p ++ ordB s ++ r) (p.length : Int) = (s, p.length + (ordB s).length, 0) := by
  rw [readO_in (by simp <;> omega), List.append_assoc, List.drop_left, rdO_back]
  unfold glO
  rw [if_pos rfl, List.nil_append]
theorem readO_cut (s : List UInt8) (k : Nat) (h : k < (ordB s).length) : readO ((ordB s).take k) 0 = ([], 0, 10) := by
  rw [show (0 : Int) = ((0 : Nat) : Int) from rfl, readO_in (by omega), List.drop_zero, rdO_cut s k h]
  rfl

theorem big_snoc (l : List UInt8) (c : UInt8) : big (l ++ [c]) = big l * 256 + c.toNat := by simp [big, List.foldl_append]
theorem big_top {c : UInt8} {t : List UInt8} (hc : c.toNat ≤ 127) (ht : t.length ≤ 6) : big (c :: t) < 36028797018963968 := by
  have h1 := big_lt t
  rw [big_cons]
  have h2 := Nat.pow_le_pow_right (show 0 < 256 by decide) ht
  have h3 : c.toNat * 256 ^ t.length ≤ 127 * 256 ^ t.length := Nat.mul_le_mul_right _ hc
  have h4 : (256 : Nat) ^ 6 = 281474976710656 := by decide
  omega
theorem big_take {l : List UInt8} (h0 : (l[0]?.getD 0).toNat ≤ 127) {j : Nat} (hj : j ≤ 7) : big (l.take j) < 36028797018963968 := by
  cases j with
  | zero => simp [big]
  | succ j =>
    cases l with
    | nil => simp [big]
    | cons c t =>
      rw [List.take_succ_cons]
      exact big_top h0 (by rw [List.length_take]; omega)
theorem or_step (N : Nat) (c : UInt8) (h : N < 36028797018963968) : bits .or .i64 ((N : Int) * 256) (c.toNat : Int) = ((N * 256 + c.toNat : Nat) : Int) := by
  have hc := c.toNat_lt
  rw [show (N : Int) * 256 = ((N * 256 : Nat) : Int) from by omega, i64_or_nat _ _ (by omega) (by omega), shl_or4 N c.toNat 8 hc]
theorem big_risB {l : List UInt8} (h : l.length = 8) : risB (big l) = l := by
  have e : ∀ v, risB v = [UInt8.ofNat (v / 72057594037927936), UInt8.ofNat (v / 281474976710656), UInt8.ofNat (v / 1099511627776), UInt8.ofNat (v / 4294967296), UInt8.ofNat (v / 16777216), UInt8.ofNat (v / 65536), UInt8.ofNat (v / 256), UInt8.ofNat v] := by
    intro v; simp [risB, rTo, List.range_succ]
  match l, h with
  | [x1, x2, x3, x4, x5, x6, x7, x8], _ =>
    rw [e]
    have h1 := x1.toNat_lt; have h2 := x2.toNat_lt; have h3 := x3.toNat_lt; have h4 := x4.toNat_lt; have h5 := x5.toNat_lt; have h6 := x6.toNat_lt; have h7 := x7.toNat_lt; have h8 := x8.toNat_lt
    have hb : big [x1, x2, x3, x4, x5, x6, x7, x8] = ((((((x1.toNat * 256 + x2.toNat) * 256 + x3.toNat) * 256 + x4.toNat) * 256 + x5.toNat) * 256 + x6.toNat) * 256 + x7.toNat) * 256 + x8.toNat := by
      simp [big]
    have q : ∀ (x : UInt8) (v : Nat), v % 256 = x.toNat → UInt8.ofNat v = x := fun x v hv => UInt8.toNat_inj.1 (by rw [UInt8.toNat_ofNat']; exact hv)
    rw [q x1 _ (by rw [hb]; omega), q x2 _ (by rw [hb]; omega), q x3 _ (by rw [hb]; omega), q x4 _ (by rw [hb]; omega), q x5 _ (by rw [hb]; omega), q x6 _ (by rw [hb]; omega), q x7 _ (by rw [hb]; omega), q x8 _ (by rw [hb]; omega)]
def readR (l : List UInt8) (a : Int) : Nat × Nat × Nat :=
  if a < 0 ∨ (l.length : Int) < a then (0, 0, 1) else if l.length < a.toNat + 8 then (0, 0, 10) else if 127 < (l[a.toNat]?.getD 0).toNat then (0, 0, 13) else (big (cutS l a.toNat 8), a.toNat + 8, 0)
theorem big_half {l : List UInt8} (h : l.length = 8) (h0 : (l[0]?.getD 0).toNat ≤ 127) : big l < 9223372036854775808 := by
  match l, h with
  | c :: t, h =>
    have h1 := big_lt t
    have h2 : t.length = 7 := by simpa using h
    have h3 : c.toNat ≤ 127 := h0
    rw [big_cons, h2]
    rw [h2] at h1
    have h4 : (256 : Nat) ^ 7 = 72057594037927936 := by decide
    omega
theorem readR_end (l : List UInt8) (a : Int) (h : (readR l a).2.2 = 0) : risB (readR l a).1 = cutS l a.toNat ((readR l a).2.1 - a.toNat) ∧ (readR l a).2.1 ≤ l.length ∧ 0 ≤ a ∧ a.toNat < (readR l a).2.1 ∧ (readR l a).1 < 9223372036854775808 := by
  unfold readR at h ⊢
  by_cases ha : a < 0 ∨ (l.length : Int) < a
  · rw [if_pos ha] at h; exact absurd h (by decide)
  rw [if_neg ha] at h ⊢
  by_cases hb : l.length < a.toNat + 8
  · rw [if_pos hb] at h; exact absurd h (by decide)
  rw [if_neg hb] at h ⊢
  by_cases hc : 127 < (l[a.toNat]?.getD 0).toNat
  · rw [if_pos hc] at h; exact absurd h (by decide)
  rw [if_neg hc]
  have hl : (cutS l a.toNat 8).length = 8 := by unfold cutS; rw [List.length_take, List.length_drop]; omega
  refine ⟨?_, by show a.toNat + 8 ≤ _; omega, by omega, by show _ < a.toNat + 8; omega, ?_⟩
  · show risB (big (cutS l a.toNat 8)) = cutS l a.toNat (a.toNat + 8 - a.toNat)
    rw [Nat.add_sub_cancel_left, big_risB hl]
  · refine big_half hl ?_
    have e : (cutS l a.toNat 8)[0]? = l[a.toNat]? := by unfold cutS; rw [List.getElem?_take_of_lt (by omega), List.getElem?_drop, Nat.add_zero]
    rw [e]; omega
theorem risB_head (v : Nat) (hv : v < 9223372036854775808) (r : List UInt8) : (((risB v) ++ r)[0]?.getD 0).toNat ≤ 127 := by
  have e : risB v ++ r = UInt8.ofNat (v / 72057594037927936) :: ([UInt8.ofNat (v / 281474976710656), UInt8.ofNat (v / 1099511627776), UInt8.ofNat (v / 4294967296), UInt8.ofNat (v / 16777216), UInt8.ofNat (v / 65536), UInt8.ofNat (v / 256), UInt8.ofNat v] ++ r) := by
    simp [risB, rTo, List.range_succ]
  rw [e]
  show (UInt8.ofNat (v / 72057594037927936)).toNat ≤ 127
  rw [UInt8.toNat_ofNat']; omega
theorem readR_back (p r : List UInt8) (v : Nat) (hv : v < 9223372036854775808) : readR (p ++ risB v ++ r) (p.length : Int) = (v, p.length + 8, 0) := by
  have hl : (risB v).length = 8 := rTo_len v 8
  unfold readR
  rw [if_neg (by simp; omega), Int.toNat_natCast, if_neg (by simp only [List.length_append, hl]; omega)]
  have e : (p ++ risB v ++ r)[p.length]? = (risB v ++ r)[0]? := by rw [List.append_assoc, List.getElem?_append_right (Nat.le_refl _), Nat.sub_self]
  rw [e, if_neg (by have := risB_head v hv r; omega)]
  have c : cutS (p ++ risB v ++ r) p.length 8 = risB v := by unfold cutS; rw [List.append_assoc, List.drop_left, ← hl, List.take_left]
  rw [c, risB_big v (by omega)]
theorem readR_cut (v k : Nat) (h : k < 8) : readR ((risB v).take k) 0 = (0, 0, 10) := by
  have hl : (risB v).length = 8 := rTo_len v 8
  unfold readR
  rw [if_neg (by omega), if_pos (by rw [List.length_take, hl]; show min k 8 < 0 + 8; omega)]
def readFl (l : List UInt8) (a : Int) : Nat × Nat × Nat := if (readR l a).2.2 = 0 then (9223372036854775807 - (readR l a).1, (readR l a).2.1, 0) else (0, 0, (readR l a).2.2)
theorem readFl_end (l : List UInt8) (a : Int) (h : (readFl l a).2.2 = 0) : risB (9223372036854775807 - (readFl l a).1) = cutS l a.toNat ((readFl l a).2.1 - a.toNat) ∧ (readFl l a).2.1 ≤ l.length ∧ 0 ≤ a ∧ a.toNat < (readFl l a).2.1 ∧ (readFl l a).1 < 9223372036854775808 := by
  unfold readFl at h ⊢
  by_cases h0 : (readR l a).2.2 = 0
  · rw [if_pos h0]
    obtain ⟨e1, e2, e3, e4, e5⟩ := readR_end l a h0
    refine ⟨?_, e2, e3, e4, by show 9223372036854775807 - (readR l a).1 < _; omega⟩
    show risB (9223372036854775807 - (9223372036854775807 - (readR l a).1)) = _
    rw [show 9223372036854775807 - (9223372036854775807 - (readR l a).1) = (readR l a).1 from by omega, e1]
  · rw [if_neg h0] at h; exact absurd h h0
theorem readFl_back (p r : List UInt8) (v : Nat) (hv : v < 9223372036854775808) : readFl (p ++ risB (9223372036854775807 - v) ++ r) (p.length : Int) = (v, p.length + 8, 0) := by
  unfold readFl
  rw [readR_back p r _ (by omega), if_pos rfl]
  show (9223372036854775807 - (9223372036854775807 - v), _, _) = _
  rw [show 9223372036854775807 - (9223372036854775807 - v) = v from by omega]
theorem readFl_cut (v k : Nat) (h : k < 8) : readFl ((risB v).take k) 0 = (0, 0, 10) := by
  unfold readFl
  rw [readR_cut v k h, if_neg (by decide)]

end Go.Proofs.YtbcljgcilbfblaaDoor
