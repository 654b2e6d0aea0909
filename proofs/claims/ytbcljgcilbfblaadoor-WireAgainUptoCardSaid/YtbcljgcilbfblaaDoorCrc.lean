/-
  The check sum on lists of bytes: a bit's step, a byte's step; it is linear; what it tells. No program in sight.
-/
namespace Go.Proofs.YtbcljgcilbfblaaDoor

/-- One bit of the sum. -/
def rStep (c : Nat) : Nat := (c >>> 1) ^^^ (if c.testBit 0 then 2197175160 else 0)
def rIter : Nat → Nat → Nat
  | 0, c => c
  | n + 1, c => rIter n (rStep c)
theorem rIter_add (m n c : Nat) : rIter (m + n) c = rIter n (rIter m c) := by
  induction m generalizing c with
  | zero => rw [Nat.zero_add]; rfl
  | succ m ih => rw [Nat.succ_add]; exact ih _
theorem rIter_succ (n c : Nat) : rIter (n + 1) c = rStep (rIter n c) := rIter_add n 1 c
theorem rStep_lt {c : Nat} (h : c < 4294967296) : rStep c < 4294967296 := by
  unfold rStep
  refine Nat.xor_lt_two_pow (n := 32) ?_ ?_
  · rw [Nat.shiftRight_eq_div_pow]; omega
  · split <;> omega
theorem rIter_lt (n : Nat) : ∀ {c : Nat}, c < 4294967296 → rIter n c < 4294967296 := by
  induction n with
  | zero => exact fun h => h
  | succ n ih => exact fun h => ih (rStep_lt h)
theorem rStep_xor (a b : Nat) : rStep (a ^^^ b) = rStep a ^^^ rStep b := by
  unfold rStep
  rw [Nat.shiftRight_xor_distrib, Nat.testBit_xor]
  cases a.testBit 0 <;> cases b.testBit 0 <;> simp
  · ac_rfl
  · ac_rfl
  · rw [show a >>> 1 ^^^ 2197175160 ^^^ (b >>> 1 ^^^ 2197175160) = a >>> 1 ^^^ b >>> 1 ^^^ (2197175160 ^^^ 2197175160) from by ac_rfl, Nat.xor_self, Nat.xor_zero]
theorem rIter_xor (n a b : Nat) : rIter n (a ^^^ b) = rIter n a ^^^ rIter n b := by
  induction n generalizing a b with
  | zero => rfl
  | succ n ih => show rIter n (rStep _) = _; rw [rStep_xor, ih]; rfl
theorem rIter_zero (n : Nat) : rIter n 0 = 0 := by
  induction n with
  | zero => rfl
  | succ n ih => exact ih
theorem rStep_eq_zero {c : Nat} (h : c < 4294967296) (h0 : rStep c = 0) : c = 0 := by
  unfold rStep at h0
  have h1 : c >>> 1 < 2147483648 := by rw [Nat.shiftRight_eq_div_pow]; omega
  cases hb : c.testBit 0
  · rw [hb] at h0
    simp at h0
    rw [Nat.shiftRight_eq_div_pow] at h0
    rw [Nat.testBit_zero] at hb
    simp at hb
    omega
  · rw [hb] at h0
    have h2 : (c >>> 1 ^^^ 2197175160).testBit 31 = true := by
      rw [Nat.testBit_xor, Nat.testBit_lt_two_pow (i := 31) (by simpa using h1)]; decide
    simp only [if_true] at h0
    rw [h0] at h2
    simp at h2
theorem rIter_eq_zero (n : Nat) : ∀ {c : Nat}, c < 4294967296 → rIter n c = 0 → c = 0 := by
  induction n with
  | zero => exact fun _ h => h
  | succ n ih => exact fun h h0 => rStep_eq_zero h (ih (rStep_lt h) h0)

/-- The parity of the bits: kept by a step. -/
def par (c : Nat) : Bool := (List.range 32).foldl (fun b i => b ^^ c.testBit i) false
theorem foldl_xor_start (l : List Nat) (f : Nat → Bool) (b : Bool) : l.foldl (fun b i => b ^^ f i) b = (b ^^ l.foldl (fun b i => b ^^ f i) false) := by
  induction l generalizing b with
  | nil => simp
  | cons x l ih => rw [List.foldl_cons, ih, List.foldl_cons, ih (false ^^ f x)]; simp
theorem foldl_xor_two (l : List Nat) (f g : Nat → Bool) : l.foldl (fun b i => b ^^ (f i ^^ g i)) false = (l.foldl (fun b i => b ^^ f i) false ^^ l.foldl (fun b i => b ^^ g i) false) := by
  induction l with
  | nil => rfl
  | cons x l ih =>
    rw [List.foldl_cons, List.foldl_cons, List.foldl_cons, foldl_xor_start, ih, foldl_xor_start l f (false ^^ f x), foldl_xor_start l g (false ^^ g x)]
    generalize l.foldl (fun b i => b ^^ f i) false = p
    generalize l.foldl (fun b i => b ^^ g i) false = q
    cases f x <;> cases g x <;> cases p <;> cases q <;> rfl
theorem par_xor (a b : Nat) : par (a ^^^ b) = (par a ^^ par b) := by
  unfold par
  simp only [Nat.testBit_xor]
  exact foldl_xor_two _ _ _
theorem par_shift (c : Nat) (h : c < 4294967296) : par (c >>> 1) = (par c ^^ c.testBit 0) := by
  have h32 : c.testBit 32 = false := Nat.testBit_lt_two_pow (by omega)
  unfold par
  simp only [Nat.testBit_shiftRight]
  have e : List.range 32 = [0,1,2,3,4,5,6,7,8,9,10,11,12,13,14,15,16,17,18,19,20,21,22,23,24,25,26,27,28,29,30,31] := rfl
  rw [e]
  simp only [List.foldl_cons, List.foldl_nil, Nat.reduceAdd, h32]
  generalize c.testBit 0 = b0
  cases b0 <;> simp
theorem par_step {c : Nat} (h : c < 4294967296) : par (rStep c) = par c := by
  unfold rStep
  rw [par_xor, par_shift c h]
  cases c.testBit 0
  · simp [show par 0 = false from by decide]
  · simp [show par 2197175160 = true from by decide +kernel]
theorem par_iter (n : Nat) : ∀ {c : Nat}, c < 4294967296 → par (rIter n c) = par c := by
  induction n with
  | zero => exact fun _ => rfl
  | succ n ih => exact fun h => (ih (rStep_lt h)).trans (par_step h)
theorem par_one (n : Nat) : par (rIter n 1) = true := (par_iter n (by omega)).trans (by decide)

/-! The order of a step: a prime. -/
/-- A linear map on words, by its columns. -/
def colsAt (M : List Nat) (v : Nat) : Nat := (List.range 32).foldl (fun s i => s ^^^ (if v.testBit i then M[i]?.getD 0 else 0)) 0
def sqr (M : List Nat) : List Nat := M.map (colsAt M)
def cols0 : List Nat := (List.range 32).map fun i => rStep (2 ^ i)
def colsN : Nat → List Nat
  | 0 => cols0
  | k + 1 => sqr (colsN k)
theorem bits_sum (v : Nat) (h : v < 4294967296) : (List.range 32).foldl (fun s i => s ^^^ (if v.testBit i then 2 ^ i else 0)) 0 = v := by
  have key : ∀ n, (List.range n).foldl (fun s i => s ^^^ (if v.testBit i then 2 ^ i else 0)) 0 = v % 2 ^ n := by
    intro n
    induction n with
    | zero => simp [Nat.mod_one]
    | succ n ih =>
      rw [List.range_succ, List.foldl_append, ih, List.foldl_cons, List.foldl_nil]
      apply Nat.eq_of_testBit_eq
      intro j
      rw [Nat.testBit_xor, Nat.testBit_mod_two_pow, Nat.testBit_mod_two_pow]
      by_cases hj : j = n
      · subst hj
        cases hv : v.testBit j <;> simp
      · have : (if v.testBit n = true then 2 ^ n else 0).testBit j = false := by
          split
          · rw [Nat.testBit_two_pow]; simp; omega
          · simp
        rw [this, Bool.xor_false]
        by_cases h1 : j < n
        · simp [h1, Nat.lt_succ_of_lt h1]
        · have : ¬ j < n + 1 := by omega
          simp [h1, this]
  rw [key 32, Nat.mod_eq_of_lt (by omega)]
theorem foldl_lin (f : Nat → Nat) (hx : ∀ a b, f (a ^^^ b) = f a ^^^ f b) (l : List Nat) (g : Nat → Nat) (s : Nat) : f (l.foldl (fun s i => s ^^^ g i) s) = l.foldl (fun s i => s ^^^ f (g i)) (f s) := by
  induction l generalizing s with
  | nil => rfl
  | cons x l ih => rw [List.foldl_cons, List.foldl_cons, ih, hx]
theorem colsAt_lin (M : List Nat) (f : Nat → Nat) (h0 : f 0 = 0) (hx : ∀ a b, f (a ^^^ b) = f a ^^^ f b) (hM : ∀ i, i < 32 → M[i]? = some (f (2 ^ i))) (v : Nat) (hv : v < 4294967296) : colsAt M v = f v := by
  have e := congrArg f (bits_sum v hv)
  rw [foldl_lin f hx, h0] at e
  rw [← e]
  unfold colsAt
  have : ∀ (l : List Nat) (s : Nat), (∀ i ∈ l, i < 32) → l.foldl (fun s i => s ^^^ (if v.testBit i then M[i]?.getD 0 else 0)) s = l.foldl (fun s i => s ^^^ f (if v.testBit i then 2 ^ i else 0)) s := by
    intro l
    induction l with
    | nil => intro s _; rfl
    | cons x l ih =>
      intro s hl
      rw [List.foldl_cons, List.foldl_cons, ih _ (fun i hi => hl i (by simp [hi]))]
      congr 2
      split
      · rw [hM x (hl x (by simp))]; rfl
      · exact h0.symm
  exact this _ 0 fun i hi => by simpa using hi
theorem colsN_at (k : Nat) : ∀ i, i < 32 → (colsN k)[i]? = some (rIter (2 ^ k) (2 ^ i)) := by
  induction k with
  | zero =>
    intro i hi
    show cols0[i]? = _
    unfold cols0
    rw [List.getElem?_map, List.getElem?_range hi]; rfl
  | succ k ih =>
    intro i hi
    show (sqr (colsN k))[i]? = _
    unfold sqr
    rw [List.getElem?_map, ih i hi, Option.map_some]
    congr 1
    rw [colsAt_lin (colsN k) (rIter (2 ^ k)) (rIter_zero _) (rIter_xor _) ih _ (rIter_lt _ (by
      have : 2 ^ i < 2 ^ 32 := Nat.pow_lt_pow_right (by decide) hi
      simpa using this)), ← rIter_add]
    congr 1
    rw [Nat.pow_succ]; omega
theorem cols31 : (colsN 31)[0]? = some (rStep 1) := by decide +kernel
theorem rStep_inj {a b : Nat} (ha : a < 4294967296) (hb : b < 4294967296) (h : rStep a = rStep b) : a = b := by
  have h1 : rStep (a ^^^ b) = 0 := by rw [rStep_xor, h, Nat.xor_self]
  have h2 := rStep_eq_zero (Nat.xor_lt_two_pow (n := 32) ha hb) h1
  exact Nat.eq_of_testBit_eq fun i => by
    have := congrArg (fun z => z.testBit i) h2
    simpa [Nat.testBit_xor] using this
theorem rIter_inj (n : Nat) : ∀ {a b : Nat}, a < 4294967296 → b < 4294967296 → rIter n a = rIter n b → a = b := by
  induction n with
  | zero => exact fun _ _ h => h
  | succ n ih => exact fun ha hb h => rStep_inj ha hb (ih (rStep_lt ha) (rStep_lt hb) h)
theorem ord_big (n : Nat) (hn : 2 ^ 31 = n + 1) : rIter n 1 = 1 := by
  have h := colsN_at 31 0 (by decide)
  rw [cols31, hn, rIter_succ] at h
  exact (rStep_inj (by decide) (rIter_lt _ (by decide)) (Option.some.inj h)).symm

/-- No divisor: tried one by one. -/
def tries (n : Nat) : Nat → Bool
  | 0 => true
  | k + 1 => (k < 2 || n % k != 0) && tries n k
theorem tries_no {n m : Nat} (h : tries n m = true) : ∀ k, k < m → 2 ≤ k → n % k ≠ 0 := by
  induction m with
  | zero => intro k hk; omega
  | succ m ih =>
    intro k hk h2
    simp only [tries, Bool.and_eq_true, Bool.or_eq_true, decide_eq_true_eq, bne_iff_ne] at h
    rcases Nat.lt_succ_iff_lt_or_eq.1 hk with h1 | rfl
    · exact ih h.2 k h1 h2
    · rcases h.1 with h3 | h3
      · omega
      · exact h3
theorem tried : tries 2147483647 46342 = true := by decide +kernel
theorem prime31 {g : Nat} (h : g ∣ 2147483647) (h2 : 2 ≤ g) (h3 : g < 2147483647) : False := by
  obtain ⟨q, hq⟩ := h
  by_cases hg : g < 46342
  · exact tries_no tried g hg h2 (by rw [hq]; exact Nat.mul_mod_right g q)
  · have hq2 : 2 ≤ q := by
      rcases (show q = 0 ∨ q = 1 ∨ 2 ≤ q by omega) with rfl | rfl | h
      · omega
      · omega
      · exact h
    have hq3 : q < 46342 := by
      rcases Nat.lt_or_ge q 46342 with h | h
      · exact h
      · have := Nat.mul_le_mul (show 46342 ≤ g by omega) h
        omega
    exact tries_no tried q hq3 hq2 (by rw [hq]; exact Nat.mul_mod_left g q)
theorem rIter_mul (d k : Nat) (h : rIter d 1 = 1) : rIter (d * k) 1 = 1 := by
  induction k with
  | zero => rfl
  | succ k ih => rw [Nat.mul_succ, rIter_add, ih, h]
theorem ord_gcd (fuel : Nat) : ∀ a b : Nat, a + b ≤ fuel → rIter a 1 = 1 → rIter b 1 = 1 → rIter (Nat.gcd a b) 1 = 1 := by
  induction fuel with
  | zero => intro a b h _ _; obtain rfl : a = 0 := by omega
            obtain rfl : b = 0 := by omega
            rfl
  | succ f ih =>
    intro a b h ha hb
    rcases Nat.eq_zero_or_pos a with rfl | h0
    · rw [Nat.gcd_zero_left]; exact hb
    · rw [Nat.gcd_rec]
      have hm : rIter (b % a) 1 = 1 := by
        have e := Nat.div_add_mod b a
        rw [← e, rIter_add, rIter_mul a _ ha] at hb
        exact hb
      by_cases hba : b < a
      · rw [Nat.mod_eq_of_lt hba]
        rcases Nat.eq_zero_or_pos b with rfl | hb0
        · rw [Nat.gcd_zero_left]; exact ha
        · rw [Nat.gcd_rec]
          have hm2 : rIter (a % b) 1 = 1 := by
            have e := Nat.div_add_mod a b
            rw [← e, rIter_add, rIter_mul b _ hb] at ha
            exact ha
          have := Nat.mod_lt a hb0
          exact ih _ _ (by omega) hm2 hb
      · have := Nat.mod_lt b h0
        exact ih _ _ (by omega) hm ha
theorem ord_no {d : Nat} (h1 : 1 ≤ d) (h2 : d < 2147483647) : rIter d 1 ≠ 1 := by
  intro h
  have hg := ord_gcd _ d 2147483647 (Nat.le_refl _) h (ord_big _ (by decide))
  have hd : Nat.gcd d 2147483647 ∣ 2147483647 := Nat.gcd_dvd_right _ _
  have hle : Nat.gcd d 2147483647 ≤ d := Nat.gcd_le_left _ h1
  have hpos : 0 < Nat.gcd d 2147483647 := Nat.gcd_pos_of_pos_left _ h1
  rcases (show Nat.gcd d 2147483647 = 1 ∨ 2 ≤ Nat.gcd d 2147483647 by omega) with e | e
  · rw [e] at hg
    exact absurd hg (by decide)
  · exact prime31 hd e (by omega)
theorem two_no {a b : Nat} (h : a < b) (hb : b < 2147483647) : rIter a 1 ^^^ rIter b 1 ≠ 0 := by
  intro h0
  have e : rIter a 1 = rIter b 1 := Nat.eq_of_testBit_eq fun i => by
    have := congrArg (fun z => z.testBit i) h0
    simpa [Nat.testBit_xor] using this
  rw [show b = (b - a) + a from by omega, rIter_add] at e
  exact ord_no (d := b - a) (by omega) (by omega) (rIter_inj a (by decide) (rIter_lt _ (by decide)) e).symm
theorem three_no (a b c : Nat) : rIter a 1 ^^^ rIter b 1 ^^^ rIter c 1 ≠ 0 := by
  intro h0
  have := congrArg par h0
  rw [par_xor, par_xor, par_one, par_one, par_one] at this
  revert this
  decide
theorem one_no (a : Nat) : rIter a 1 ≠ 0 := fun h => absurd (rIter_eq_zero a (by decide) h) (by decide)
end Go.Proofs.YtbcljgcilbfblaaDoor
