/-
  Laid together by merge.py: Crc, Kit, Bytes, WireP, WireP2, WireP6, WireP7, WireP8, WireP9, CellP, Kit2, Kit3, Kit4, WireW1, WireW2, CellW1, Kit12, CellW2, Kit5, Kit6, Kit7, Kit8, Kit9.
-/
import Derived.WalkKit
import Derived.WalkSpells
import Derived.WalkLawsBesides
import Derived.Deep.AppendLies
import Derived.Deep.Draws
import Derived.Maps.AppendAt
import Derived.Lib.Hide
import Derived.Deep.QuietTactic
import Derived.BigQuiet
import Derived.Laws.CopyOwn
import Derived.Laws.BitsAllLaws
import Derived.Laws.IdiomStrings
import Derived.Test.YtmigjipfomfacaaDoorRows
import Derived.Deep.RegionWith
import Derived.Deep.RegionLaw
import Derived.Lib.BytesEntry
import Derived.Lib.Bytealg
import Derived.Laws.Externs
import Derived.Laws.EntriesVeiled
import Derived.Laws.OwnMore
namespace Go.Proofs.YtmigjipfomfacaaDoor
def rStep (c : Nat) : Nat := (c >>> 1) ^^^ (if c.testBit 0 then 2197175160 else 0)
def rIter : Nat → Nat → Nat
  | 0, c => c
  | n + 1, c => rIter n (rStep c)
theorem rIter_add (m n c : Nat) : rIter (m + n) c = rIter n (rIter m c) := by
  induction m generalizing c with
  | zero => rw [Nat.zero_add]; rfl
  | succ m ih => rw [Nat.succ_add]; exact ih _
theorem rIter_succ (n c : Nat) : rIter (n + 1) c = rStep (rIter n c) := rIter_add n 1 c
theorem rStep_lt {c : Nat} (h : c < 4294967296) : rStep c < 4294967296 := by
  unfold rStep
  refine Nat.xor_lt_two_pow (n := 32) ?_ ?_
  · rw [Nat.shiftRight_eq_div_pow]; omega
  · split <;> omega
theorem rIter_lt (n : Nat) : ∀ {c : Nat}, c < 4294967296 → rIter n c < 4294967296 := by
  induction n with
  | zero => exact fun h => h
  | succ n ih => exact fun h => ih (rStep_lt h)
theorem rStep_xor (a b : Nat) : rStep (a ^^^ b) = rStep a ^^^ rStep b := by
  unfold rStep
  rw [Nat.shiftRight_xor_distrib, Nat.testBit_xor]
  cases a.testBit 0 <;> cases b.testBit 0 <;> simp
  · ac_rfl
  · ac_rfl
  · rw [show a >>> 1 ^^^ 2197175160 ^^^ (b >>> 1 ^^^ 2197175160) = a >>> 1 ^^^ b >>> 1 ^^^ (2197175160 ^^^ 2197175160) from by ac_rfl, Nat.xor_self, Nat.xor_zero]
theorem rIter_xor (n a b : Nat) : rIter n (a ^^^ b) = rIter n a ^^^ rIter n b := by
  induction n generalizing a b with
  | zero => rfl
  | succ n ih => show rIter n (rStep _) = _; rw [rStep_xor, ih]; rfl
theorem rIter_zero (n : Nat) : rIter n 0 = 0 := by
  induction n with
  | zero => rfl
  | succ n ih => exact ih
theorem rStep_eq_zero {c : Nat} (h : c < 4294967296) (h0 : rStep c = 0) : c = 0 := by
  unfold rStep at h0
  have h1 : c >>> 1 < 2147483648 := by rw [Nat.shiftRight_eq_div_pow]; omega
  cases hb : c.testBit 0
  · rw [hb] at h0
    simp at h0
    rw [Nat.shiftRight_eq_div_pow] at h0
    rw [Nat.testBit_zero] at hb
    simp at hb
    omega
  · rw [hb] at h0
    have h2 : (c >>> 1 ^^^ 2197175160).testBit 31 = true := by
      rw [Nat.testBit_xor, Nat.testBit_lt_two_pow (i := 31) (by simpa using h1)]; decide
    simp only [if_true] at h0
    rw [h0] at h2
    simp at h2
theorem rIter_eq_zero (n : Nat) : ∀ {c : Nat}, c < 4294967296 → rIter n c = 0 → c = 0 := by
  induction n with
  | zero => exact fun _ h => h
  | succ n ih => exact fun h h0 => rStep_eq_zero h (ih (rStep_lt h) h0)
def par (c : Nat) : Bool := (List.range 32).foldl (fun b i => b ^^ c.testBit i) false
theorem foldl_xor_start (l : List Nat) (f : Nat → Bool) (b : Bool) : l.foldl (fun b i => b ^^ f i) b = (b ^^ l.foldl (fun b i => b ^^ f i) false) := by
  induction l generalizing b with
  | nil => simp
  | cons x l ih => rw [List.foldl_cons, ih, List.foldl_cons, ih (false ^^ f x)]; simp
theorem foldl_xor_two (l : List Nat) (f g : Nat → Bool) : l.foldl (fun b i => b ^^ (f i ^^ g i)) false = (l.foldl (fun b i => b ^^ f i) false ^^ l.foldl (fun b i => b ^^ g i) false) := by
  induction l with
  | nil => rfl
  | cons x l ih =>
    rw [List.foldl_cons, List.foldl_cons, List.foldl_cons, foldl_xor_start, ih, foldl_xor_start l f (false ^^ f x), foldl_xor_start l g (false ^^ g x)]
    generalize l.foldl (fun b i => b ^^ f i) false = p
    generalize l.foldl (fun b i => b ^^ g i) false = q
    cases f x <;> cases g x <;> cases p <;> cases q <;> rfl
theorem par_xor (a b : Nat) : par (a ^^^ b) = (par a ^^ par b) := by
  unfold par
  simp only [Nat.testBit_xor]
  exact foldl_xor_two _ _ _
theorem par_shift (c : Nat) (h : c < 4294967296) : par (c >>> 1) = (par c ^^ c.testBit 0) := by
  have h32 : c.testBit 32 = false := Nat.testBit_lt_two_pow (by omega)
  unfold par
  simp only [Nat.testBit_shiftRight]
  have e : List.range 32 = [0,1,2,3,4,5,6,7,8,9,10,11,12,13,14,15,16,17,18,19,20,21,22,23,24,25,26,27,28,29,30,31] := rfl
  rw [e]
  simp only [List.foldl_cons, List.foldl_nil, Nat.reduceAdd, h32]
  generalize c.testBit 0 = b0
  cases b0 <;> simp
theorem par_step {c : Nat} (h : c < 4294967296) : par (rStep c) = par c := by
  unfold rStep
  rw [par_xor, par_shift c h]
  cases c.testBit 0
  · simp [show par 0 = false from by decide]
  · simp [show par 2197175160 = true from by decide +kernel]
theorem par_iter (n : Nat) : ∀ {c : Nat}, c < 4294967296 → par (rIter n c) = par c := by
  induction n with
  | zero => exact fun _ => rfl
  | succ n ih => exact fun h => (ih (rStep_lt h)).trans (par_step h)
theorem par_one (n : Nat) : par (rIter n 1) = true := (par_iter n (by omega)).trans (by decide)
def colsAt (M : List Nat) (v : Nat) : Nat := (List.range 32).foldl (fun s i => s ^^^ (if v.testBit i then M[i]?.getD 0 else 0)) 0
def sqr (M : List Nat) : List Nat := M.map (colsAt M)
def cols0 : List Nat := (List.range 32).map fun i => rStep (2 ^ i)
def colsN : Nat → List Nat
  | 0 => cols0
  | k + 1 => sqr (colsN k)
theorem bits_sum (v : Nat) (h : v < 4294967296) : (List.range 32).foldl (fun s i => s ^^^ (if v.testBit i then 2 ^ i else 0)) 0 = v := by
  have key : ∀ n, (List.range n).foldl (fun s i => s ^^^ (if v.testBit i then 2 ^ i else 0)) 0 = v % 2 ^ n := by
    intro n
    induction n with
    | zero => simp [Nat.mod_one]
    | succ n ih =>
      rw [List.range_succ, List.foldl_append, ih, List.foldl_cons, List.foldl_nil]
      apply Nat.eq_of_testBit_eq
      intro j
      rw [Nat.testBit_xor, Nat.testBit_mod_two_pow, Nat.testBit_mod_two_pow]
      by_cases hj : j = n
      · subst hj
        cases hv : v.testBit j <;> simp
      · have : (if v.testBit n = true then 2 ^ n else 0).testBit j = false := by
          split
          · rw [Nat.testBit_two_pow]; simp; omega
          · simp
        rw [this, Bool.xor_false]
        by_cases h1 : j < n
        · simp [h1, Nat.lt_succ_of_lt h1]
        · have : ¬ j < n + 1 := by omega
          simp [h1, this]
  rw [key 32, Nat.mod_eq_of_lt (by omega)]
theorem foldl_lin (f : Nat → Nat) (hx : ∀ a b, f (a ^^^ b) = f a ^^^ f b) (l : List Nat) (g : Nat → Nat) (s : Nat) : f (l.foldl (fun s i => s ^^^ g i) s) = l.foldl (fun s i => s ^^^ f (g i)) (f s) := by
  induction l generalizing s with
  | nil => rfl
  | cons x l ih => rw [List.foldl_cons, List.foldl_cons, ih, hx]
theorem colsAt_lin (M : List Nat) (f : Nat → Nat) (h0 : f 0 = 0) (hx : ∀ a b, f (a ^^^ b) = f a ^^^ f b) (hM : ∀ i, i < 32 → M[i]? = some (f (2 ^ i))) (v : Nat) (hv : v < 4294967296) : colsAt M v = f v := by
  have e := congrArg f (bits_sum v hv)
  rw [foldl_lin f hx, h0] at e
  rw [← e]
  unfold colsAt
  have : ∀ (l : List Nat) (s : Nat), (∀ i ∈ l, i < 32) → l.foldl (fun s i => s ^^^ (if v.testBit i then M[i]?.getD 0 else 0)) s = l.foldl (fun s i => s ^^^ f (if v.testBit i then 2 ^ i else 0)) s := by
    intro l
    induction l with
    | nil => intro s _; rfl
    | cons x l ih =>
      intro s hl
      rw [List.foldl_cons, List.foldl_cons, ih _ (fun i hi => hl i (by simp [hi]))]
      congr 2
      split
      · rw [hM x (hl x (by simp))]; rfl
      · exact h0.symm
  exact this _ 0 fun i hi => by simpa using hi
theorem colsN_at (k : Nat) : ∀ i, i < 32 → (colsN k)[i]? = some (rIter (2 ^ k) (2 ^ i)) := by
  induction k with
  | zero =>
    intro i hi
    show cols0[i]? = _
    unfold cols0
    rw [List.getElem?_map, List.getElem?_range hi]; rfl
  | succ k ih =>
    intro i hi
    show (sqr (colsN k))[i]? = _
    unfold sqr
    rw [List.getElem?_map, ih i hi, Option.map_some]
    congr 1
    rw [colsAt_lin (colsN k) (rIter (2 ^ k)) (rIter_zero _) (rIter_xor _) ih _ (rIter_lt _ (by
      have : 2 ^ i < 2 ^ 32 := Nat.pow_lt_pow_right (by decide) hi
      simpa using this)), ← rIter_add]
    congr 1
    rw [Nat.pow_succ]; omega
theorem cols31 : (colsN 31)[0]? = some (rStep 1) := by decide +kernel
theorem rStep_inj {a b : Nat} (ha : a < 4294967296) (hb : b < 4294967296) (h : rStep a = rStep b) : a = b := by
  have h1 : rStep (a ^^^ b) = 0 := by rw [rStep_xor, h, Nat.xor_self]
  have h2 := rStep_eq_zero (Nat.xor_lt_two_pow (n := 32) ha hb) h1
  exact Nat.eq_of_testBit_eq fun i => by
    have := congrArg (fun z => z.testBit i) h2
    simpa [Nat.testBit_xor] using this
theorem rIter_inj (n : Nat) : ∀ {a b : Nat}, a < 4294967296 → b < 4294967296 → rIter n a = rIter n b → a = b := by
  induction n with
  | zero => exact fun _ _ h => h
  | succ n ih => exact fun ha hb h => rStep_inj ha hb (ih (rStep_lt ha) (rStep_lt hb) h)
theorem ord_big (n : Nat) (hn : 2 ^ 31 = n + 1) : rIter n 1 = 1 := by
  have h := colsN_at 31 0 (by decide)
  rw [cols31, hn, rIter_succ] at h
  exact (rStep_inj (by decide) (rIter_lt _ (by decide)) (Option.some.inj h)).symm
def tries (n : Nat) : Nat → Bool
  | 0 => true
  | k + 1 => (k < 2 || n % k != 0) && tries n k
theorem tries_no {n m : Nat} (h : tries n m = true) : ∀ k, k < m → 2 ≤ k → n % k ≠ 0 := by
  induction m with
  | zero => intro k hk; omega
  | succ m ih =>
    intro k hk h2
    simp only [tries, Bool.and_eq_true, Bool.or_eq_true, decide_eq_true_eq, bne_iff_ne] at h
    rcases Nat.lt_succ_iff_lt_or_eq.1 hk with h1 | rfl
    · exact ih h.2 k h1 h2
    · rcases h.1 with h3 | h3
      · omega
      · exact h3
theorem tried : tries 2147483647 46342 = true := by decide +kernel
theorem prime31 {g : Nat} (h : g ∣ 2147483647) (h2 : 2 ≤ g) (h3 : g < 2147483647) : False := by
  obtain ⟨q, hq⟩ := h
  by_cases hg : g < 46342
  · exact tries_no tried g hg h2 (by rw [hq]; exact Nat.mul_mod_right g q)
  · have hq2 : 2 ≤ q := by
      rcases (show q = 0 ∨ q = 1 ∨ 2 ≤ q by omega) with rfl | rfl | h
      · omega
      · omega
      · exact h
    have hq3 : q < 46342 := by
      rcases Nat.lt_or_ge q 46342 with h | h
      · exact h
      · have := Nat.mul_le_mul (show 46342 ≤ g by omega) h
        omega
    exact tries_no tried q hq3 hq2 (by rw [hq]; exact Nat.mul_mod_left g q)
theorem rIter_mul (d k : Nat) (h : rIter d 1 = 1) : rIter (d * k) 1 = 1 := by
  induction k with
  | zero => rfl
  | succ k ih => rw [Nat.mul_succ, rIter_add, ih, h]
theorem ord_gcd (fuel : Nat) : ∀ a b : Nat, a + b ≤ fuel → rIter a 1 = 1 → rIter b 1 = 1 → rIter (Nat.gcd a b) 1 = 1 := by
  induction fuel with
  | zero => intro a b h _ _; obtain rfl : a = 0 := by omega
            obtain rfl : b = 0 := by omega
            rfl
  | succ f ih =>
    intro a b h ha hb
    rcases Nat.eq_zero_or_pos a with rfl | h0
    · rw [Nat.gcd_zero_left]; exact hb
    · rw [Nat.gcd_rec]
      have hm : rIter (b % a) 1 = 1 := by
        have e := Nat.div_add_mod b a
        rw [← e, rIter_add, rIter_mul a _ ha] at hb
        exact hb
      by_cases hba : b < a
      · rw [Nat.mod_eq_of_lt hba]
        rcases Nat.eq_zero_or_pos b with rfl | hb0
        · rw [Nat.gcd_zero_left]; exact ha
        · rw [Nat.gcd_rec]
          have hm2 : rIter (a % b) 1 = 1 := by
            have e := Nat.div_add_mod a b
            rw [← e, rIter_add, rIter_mul b _ hb] at ha
            exact ha
          have := Nat.mod_lt a hb0
          exact ih _ _ (by omega) hm2 hb
      · have := Nat.mod_lt b h0
        exact ih _ _ (by omega) hm ha
theorem ord_no {d : Nat} (h1 : 1 ≤ d) (h2 : d < 2147483647) : rIter d 1 ≠ 1 := by
  intro h
  have hg := ord_gcd _ d 2147483647 (Nat.le_refl _) h (ord_big _ (by decide))
  have hd : Nat.gcd d 2147483647 ∣ 2147483647 := Nat.gcd_dvd_right _ _
  have hle : Nat.gcd d 2147483647 ≤ d := Nat.gcd_le_left _ h1
  have hpos : 0 < Nat.gcd d 2147483647 := Nat.gcd_pos_of_pos_left _ h1
  rcases (show Nat.gcd d 2147483647 = 1 ∨ 2 ≤ Nat.gcd d 2147483647 by omega) with e | e
  · rw [e] at hg
    exact absurd hg (by decide)
  · exact prime31 hd e (by omega)
theorem two_no {a b : Nat} (h : a < b) (hb : b < 2147483647) : rIter a 1 ^^^ rIter b 1 ≠ 0 := by
  intro h0
  have e : rIter a 1 = rIter b 1 := Nat.eq_of_testBit_eq fun i => by
    have := congrArg (fun z => z.testBit i) h0
    simpa [Nat.testBit_xor] using this
  rw [show b = (b - a) + a from by omega, rIter_add] at e
  exact ord_no (d := b - a) (by omega) (by omega) (rIter_inj a (by decide) (rIter_lt _ (by decide)) e).symm
theorem three_no (a b c : Nat) : rIter a 1 ^^^ rIter b 1 ^^^ rIter c 1 ≠ 0 := by
  intro h0
  have := congrArg par h0
  rw [par_xor, par_xor, par_one, par_one, par_one] at this
  revert this
  decide
theorem one_no (a : Nat) : rIter a 1 ≠ 0 := fun h => absurd (rIter_eq_zero a (by decide) h) (by decide)
end Go.Proofs.YtmigjipfomfacaaDoor
namespace Go.Proofs.YtmigjipfomfacaaDoor
open Go.RowKit
theorem ret_int {k : IntKind} {a b : Int} (h : a = b) : Ending.returned (.int k a) = .returned (.int k b) := by rw [h]
theorem ret_bool {a b : Bool} (h : a = b) : Ending.returned (.bool a) = .returned (.bool b) := by rw [h]
def Reads (w : World) (B size : Nat) (A : Option Addr) (n : Nat) (xs : List Value) : Prop :=
  xs.length = n * size ∧ (0 < n → ∃ b o, A = some ⟨b, o, none⟩ ∧ b < B ∧ ∀ j u, xs[j]? = some u → w.cell? ⟨b, o + j, none⟩ = some u)
section
variable {w w' : World} {B B' size n : Nat} {A : Option Addr} {xs : List Value}
theorem Reads.nil : Reads w B size A 0 [] := ⟨by simp, fun h => absurd h (by omega)⟩
theorem Reads.keep (h : Reads w B size A n xs) (hk : ∀ p : Addr, p.block < B → w'.cell? p = w.cell? p) : Reads w' B size A n xs :=
  ⟨h.1, fun hn => by
    obtain ⟨b, o, e, hb, hc⟩ := h.2 hn
    exact ⟨b, o, e, hb, fun j u hu => (hk _ hb).trans (hc j u hu)⟩⟩
theorem Reads.more (h : Reads w B size A n xs) (hB : B ≤ B') : Reads w B' size A n xs :=
  ⟨h.1, fun hn => by
    obtain ⟨b, o, e, hb, hc⟩ := h.2 hn
    exact ⟨b, o, e, by omega, hc⟩⟩
theorem Reads.below (h : Reads w B size A n xs) (hb : Below B w w') : Reads w' B size A n xs := h.keep fun _ hp => hb.cell hp
theorem Reads.alloc (h : Reads w B size A n xs) (hB : B ≤ w.heap.size) (o : Obj) : Reads (w.alloc o) B size A n xs := h.keep fun p hp => World.cell?_alloc_lt w o p (by omega)
theorem Reads.drew (h : Reads w B size A n xs) : Reads w.drew B size A n xs := h
theorem Reads.grown (h : Reads w B size A n xs) {row : Option Nat} (hg : w.grownBy w' row) (hB : B ≤ w.heap.size) (hr : ∀ g, row = some g → B ≤ g) : Reads w' B size A n xs :=
  h.keep fun p hp => World.cell?_of_block (hg.block p.block (by omega) (fun e => by have := hr _ e.symm; omega))
theorem Reads.take (h : Reads w B size A n xs) {m : Nat} (hm : m ≤ n) : Reads w B size A m (xs.take (m * size)) :=
  ⟨by rw [List.length_take, h.1, Nat.min_eq_left (Nat.mul_le_mul_right _ hm)], fun h0 => by
    obtain ⟨b, o, e, hb, hc⟩ := h.2 (by omega)
    exact ⟨b, o, e, hb, fun j u hu => hc j u (by rw [List.getElem?_take] at hu; split at hu <;> simp_all)⟩⟩
theorem Reads.new (w : World) (c : Array Value) (t : TypeId) (size n : Nat) (h : c.size = n * size) : Reads (w.alloc (.cells c t)) (w.heap.size + 1) size (some ⟨w.heap.size, 0, none⟩) n c.toList :=
  ⟨by simpa using h, fun _ => ⟨w.heap.size, 0, rfl, by omega, fun j u hu => by simpa using hu⟩⟩
theorem Reads.own {base : Nat} {e : TypeId} {c : Nat} (h : w.ownsRow base e size (.slice A n c) n xs) : Reads w w.heap.size size A n xs := by
  refine ⟨h.1, fun hn => ?_⟩
  rcases h.2 with ⟨hv, h0⟩ | ⟨g, cap, cur, hv, hb, hg, _⟩
  · omega
  · have hA : A = some ⟨g, 0, none⟩ := by injection hv
    subst hA
    refine ⟨g, 0, rfl, (Array.getElem?_eq_some_iff.1 hg).1, fun j u hu => ?_⟩
    have := h.cells (g := g) rfl j u hu
    rw [Nat.zero_add]
    unfold Addr.add at this
    split at this
    · rename_i h0; subst h0; exact this
    · simpa using this
end
structure SliceOf (P : Program) (t e : TypeId) (size bytes : Nat) : Prop where
  slice : P.underlying t = some (.slice e)
  info : ∃ i z, P.info? e = some i ∧ i.zero = some z ∧ i.size = size ∧ i.bytes = bytes ∧ z.cells.size = size
  pos : 0 < size
theorem SliceOf.mk' {P : Program} {t e : TypeId} {size bytes : Nat} {z : Value} (h : P.underlying t = some (.slice e)) (hi : (P.info? e).map (fun i => (i.zero, i.size, i.bytes)) = some (some z, size, bytes)) (hz : z.cells.size = size) (hp : 0 < size) : SliceOf P t e size bytes := by
  obtain ⟨i, h1, h2, h3, h4⟩ := info_parts hi
  exact ⟨h, ⟨i, z, h1, h2, h3, h4, hz⟩, hp⟩
section
variable {P : Program} (w : World)
theorem run_append_of_nil (base : Nat) (t ty e : TypeId) (i : TypeInfo) (size : Nat) (ht : P.underlying t = some (.slice e)) (hi : P.info? e = some i)
    (v : Value) (n : Nat) (xs : List Value) (hown : w.ownsRow base e size v n xs) (c : Nat) : (Builtin.append_ #[t, t] ty #[v, .slice none 0 c]).run P w = .ok v w := by
  rcases hown.2 with ⟨rfl, rfl⟩ | ⟨g, cap, cur, rfl, _, _, hnc, _⟩
  · simp [Builtin.append_, run_underlying ht, sizeOf, typeInfo, hi, Builtin.lenOf, Builtin.firstCells]
  · simp [Builtin.append_, run_underlying ht, sizeOf, typeInfo, hi, Builtin.lenOf, Builtin.firstCells, hnc, storeCells]
theorem run_append_reads {t ty e : TypeId} {size bytes : Nat} (hs : SliceOf P t e size bytes) (base : Nat) (v : Value) (n : Nat) (xs : List Value) (hown : w.ownsRow base e size v n xs)
    (B : Nat) (A : Option Addr) (m c : Nat) (news : List Value) (hr : Reads w B size A m news) (h1 : ∀ u ∈ news, u.oneCell' = true)
    (h63 : n + m ≤ maxLen) (hbytes : (n + m) * bytes ≤ 140737488355328) (hbase : base ≤ w.heap.size) :
    ∃ v' w', (Builtin.append_ #[t, t] ty #[v, .slice A m c]).run P w = .ok v' w' ∧ w'.ownsRow base e size v' (n + m) (xs ++ news) ∧ w.grownBy w' v.ownBlock ∧
      (v'.ownBlock = v.ownBlock ∨ v'.ownBlock = some w.heap.size) := by
  obtain ⟨ht, ⟨i, z, hi, hz, hsize, hby, hzs⟩, hsz⟩ := hs
  rcases A with _ | ad
  · have hm : m = 0 := by
      rcases Nat.eq_zero_or_pos m with h0 | h0
      · exact h0
      · obtain ⟨b, o, h, _⟩ := hr.2 h0
        cases h
    subst hm
    have hn : news = [] := List.eq_nil_of_length_eq_zero (by simpa using hr.1)
    subst hn
    exact ⟨v, w, run_append_of_nil w base t ty e i size ht hi v n xs hown c, by simpa using hown, World.grownBy.refl w _, .inl rfl⟩
  · have hcells : ∀ j u, news[j]? = some u → w.cell? (ad.add j) = some u := by
      intro j u hu
      rcases Nat.eq_zero_or_pos m with h0 | h0
      · subst h0
        have hn : news = [] := List.eq_nil_of_length_eq_zero (by simpa using hr.1)
        subst hn
        simp at hu
      · obtain ⟨b, o, h, _, hc⟩ := hr.2 h0
        injection h with h
        subst h
        have := hc j u hu
        unfold Addr.add
        split
        · rename_i h0; subst h0; exact this
        · exact this
    obtain ⟨v', w', hrun, h2, h3, _, h5⟩ := run_append_own_at (P := P) w base t ty e i z size bytes ht hi hz hsize hby hzs hsz v n xs hown ad m c news hr.1 hcells h1 h63 hbytes hbase
    exact ⟨v', w', hrun, h2, h3, h5⟩
theorem wp_append_reads {o : Oper} {a : Act} {K : Act → World → Prop} {Q : Exit → Act → World → Prop} (s x : Operand) {t e : TypeId} {size bytes : Nat}
    (ho : o.op = .call { callee := .builtin .append, args := #[s, x], argTypes := #[t, t] }) (hS : SliceOf P t e size bytes)
    (base : Nat) (v : Value) (n : Nat) (xs : List Value) (hs : a.eval s = v) (hown : w.ownsRow base e size v n xs)
    (B : Nat) (A : Option Addr) (m c : Nat) (news : List Value) (hx : a.eval x = .slice A m c) (hr : Reads w B size A m news) (h1 : ∀ u ∈ news, u.oneCell' = true)
    (h63 : n + m ≤ maxLen) (hbytes : (n + m) * bytes ≤ 140737488355328) (hbase : base ≤ w.heap.size)
    (h : ∀ v' w', w'.ownsRow base e size v' (n + m) (xs ++ news) → w.grownBy w' v.ownBlock → (v'.ownBlock = v.ownBlock ∨ v'.ownBlock = some w.heap.size) → K (a.put o.dst v') w') : o.wp P a w K Q := by
  obtain ⟨v', w', hrun, h2, h3, h4⟩ := run_append_reads (P := P) w (ty := o.type) hS base v n xs hown B A m c news hr h1 h63 hbytes hbase
  unfold Oper.wp execOp
  simp only [ho, resolve, invoke, builtin, Sem.run_bind, Sem.run_pure, Result.andThen_ok, List.map_toArray, List.map_cons, List.map_nil, hs, hx, hrun]
  exact h v' w' h2 h3 h4
theorem wpList_append_reads {ops : Array Oper} {rest : List Oper} {o : Oper} {a : Act} {Q : Exit → Act → World → Prop} (hgd : o.guard = none) (s x : Operand) {t e : TypeId} {size bytes : Nat}
    (ho : o.op = .call { callee := .builtin .append, args := #[s, x], argTypes := #[t, t] }) (hS : SliceOf P t e size bytes)
    (base : Nat) (v : Value) (n : Nat) (xs : List Value) (hs : a.eval s = v) (hown : w.ownsRow base e size v n xs)
    (B : Nat) (A : Option Addr) (m c : Nat) (news : List Value) (hx : a.eval x = .slice A m c) (hr : Reads w B size A m news) (h1 : ∀ u ∈ news, u.oneCell' = true)
    (h63 : n + m ≤ maxLen) (hbytes : (n + m) * bytes ≤ 140737488355328) (hbase : base ≤ w.heap.size)
    (h : ∀ v' w', w'.ownsRow base e size v' (n + m) (xs ++ news) → w.grownBy w' v.ownBlock → (v'.ownBlock = v.ownBlock ∨ v'.ownBlock = some w.heap.size) → wpList P ops Q rest (a.put o.dst v') w') : wpList P ops Q (o :: rest) a w :=
  wpList_plain hgd fun _ hK => wp_append_reads w s x ho hS base v n xs hs hown B A m c news hx hr h1 h63 hbytes hbase fun v' w' h2 h3 h4 => hK _ _ (h v' w' h2 h3 h4)
end
theorem own_form {w : World} {base e size n : Nat} {v : Value} {xs : List Value} (h : w.ownsRow base e size v n xs) (hn : 0 < n) :
    ∃ g cap, v = .slice (some ⟨g, 0, none⟩) n cap ∧ base ≤ g ∧ g < w.heap.size ∧ n ≤ cap ∧ cap ≤ maxLen := by
  rcases h.2 with ⟨_, h0⟩ | ⟨g, cap, cur, hv, hb, hg, hc, hm, _⟩
  · omega
  · exact ⟨g, cap, hv, hb, (Array.getElem?_eq_some_iff.1 hg).1, hc, hm⟩
theorem below_app {B : Nat} {a w w' : World} {v : Value} {e size n base : Nat} {xs : List Value} (h : Below B a w) (hown : w.ownsRow base e size v n xs) (hg : w.grownBy w' v.ownBlock) (hB : B ≤ w.heap.size) (hb : B ≤ base) : Below B a w' :=
  h.grown hg hB fun k hk => Nat.le_trans hb (hown.lt k hk).1
theorem grown_trans {a b c : World} {r : Option Nat} (h : a.grownBy b r) (k : b.grownBy c r) : a.grownBy c r :=
  ⟨k.os.trans h.os, k.tape.trans h.tape, k.output.trans h.output, Nat.le_trans h.size k.size, fun i hi hr => (k.block i (Nat.lt_of_lt_of_le hi h.size) hr).trans (h.block i hi hr)⟩
theorem below_grown {a b : World} (h : Below a.heap.size a b) (r : Option Nat) : a.grownBy b r := ⟨h.os, h.tape, h.output, h.size, fun i hi _ => h.block i hi⟩
theorem grown_below {a b : World} {r : Option Nat} (h : a.grownBy b r) {B : Nat} (hB : B ≤ a.heap.size) (hr : ∀ k, r = some k → B ≤ k) : Below B a b :=
  (Below.refl B a).grown h hB hr
theorem own_below {w w' : World} {base e size n : Nat} {v : Value} {xs : List Value} (h : w.ownsRow base e size v n xs) (hb : Below w.heap.size w w') : w'.ownsRow base e size v n xs := by
  refine h.kept (below_grown hb none) ?_
  cases hv : v.ownBlock <;> simp
structure Later (W : World) where
  w : World
  h : Below W.heap.size W w
def Later.now (W : World) : Later W := ⟨W, Below.refl _ _⟩
instance (W : World) : Nonempty (Later W) := ⟨Later.now W⟩
def Later.then {W : World} (L : Later W) {w' : World} (h : Below L.w.heap.size L.w w') : Later W := ⟨w', L.h.trans (h.mono L.h.size)⟩
theorem Later.cell {W : World} (L : Later W) {p : Addr} (v : Value) (h : W.cell? p = some v) : L.w.cell? p = some v :=
  (L.h.cell (World.block_lt_of_cell? W p h)).trans h
theorem Later.calls {P : Program} {f : FuncId} {args : Array Value} {W : World} {L : Later W} {v : Value}
    (h : Calls P f args L.w fun e w' => e = .returned v ∧ Below L.w.heap.size L.w w') : Calls P f args L.w fun e w'' => e = .returned v ∧ ∃ L' : Later W, w'' = L'.w :=
  h.mono fun _ _ ⟨he, hb⟩ => ⟨he, L.then hb, rfl⟩
theorem Later.calls_same {P : Program} {f : FuncId} {args : Array Value} {W : World} {L : Later W} {v : Value}
    (h : Calls P f args L.w fun e w' => e = .returned v ∧ L.w = w') : Calls P f args L.w fun e w'' => e = .returned v ∧ ∃ L' : Later W, w'' = L'.w :=
  h.mono fun _ _ ⟨he, hb⟩ => ⟨he, L, hb.symm⟩
theorem cell_alloc_old {w : World} {p : Addr} {v : Value} {o : Obj} (h : w.cell? p = some v) : (w.alloc o).cell? p = some v :=
  (World.cell?_alloc_lt w o p (World.block_lt_of_cell? w p h)).trans h
theorem cell_set_far {w : World} {p q : Addr} {v u : Value} (h : w.cell? p = some v) (hne : q.block ≠ p.block) : (w.setCell q u).cell? p = some v :=
  (World.cell?_setCell_other w q p u (fun e => hne (by rw [e]))).trans h
theorem cell_below {w w' : World} {p : Addr} {v : Value} (hb : Below w.heap.size w w') (h : w.cell? p = some v) : w'.cell? p = some v :=
  (hb.cell (World.block_lt_of_cell? w p h)).trans h
theorem bcells {W w1 : World} (hb : Below W.heap.size W w1) : (∀ b o, b < W.heap.size → w1.cell? ⟨b, o, none⟩ = W.cell? ⟨b, o, none⟩) ∧ (∀ b o, b < W.heap.size → w1.frozen? ⟨b, o, none⟩ = W.frozen? ⟨b, o, none⟩) ∧ (∀ b, b < W.heap.size → b < w1.heap.size) :=
  ⟨fun b o h => hb.cell (p := ⟨b, o, none⟩) h, fun b o h => hb.frozen (p := ⟨b, o, none⟩) h, fun _ h => Nat.lt_of_lt_of_le h hb.size⟩
theorem keep_call {w x w1 : World} {p : Addr} {v : Value} (hb : Below x.heap.size x w1) (h : x.cell? p = some v ∧ Below w.heap.size w x) : w1.cell? p = some v ∧ Below w.heap.size w w1 :=
  ⟨(hb.cell (World.block_lt_of_cell? x p h.1)).trans h.1, h.2.trans (hb.mono h.2.size)⟩
theorem keep_alloc {w x : World} {p : Addr} {v : Value} {o : Obj} (h : x.cell? p = some v ∧ Below w.heap.size w x) : (x.alloc o).cell? p = some v ∧ Below w.heap.size w (x.alloc o) :=
  ⟨(World.cell?_alloc_lt x o p (World.block_lt_of_cell? x p h.1)).trans h.1, h.2.alloc h.2.size o⟩
theorem keep_set {w x : World} {p q : Addr} {v u : Value} (h : x.cell? p = some v ∧ Below w.heap.size w x) (hq : w.heap.size ≤ q.block) (hne : q.block ≠ p.block) : (x.setCell q u).cell? p = some v ∧ Below w.heap.size w (x.setCell q u) :=
  ⟨(World.cell?_setCell_other x q p u (fun e => hne (e ▸ rfl))).trans h.1, h.2.setCell hq u⟩
theorem wp_region_later {P : Program} {id : Nat} {Q : Exit → Act → World → Prop} {a : Act} {w : World} {l : List Oper} (hm : P.follows .mixedOrders = true) (hB : Region.lexB .any l.toArray = true)
    (h : wpQuiet P l.toArray (fun w' => ∃ L : Later w, w' = L.w) (fun a' => ∀ L : Later w, Q .normal a' L.w) l a) : (Code.region id l.toArray true).wp P Q a w := by
  refine wp_region_quiet (C := fun w' => ∃ L : Later w, w' = L.w) hm hB ⟨⟨{ w with drawn := w.drawn + 1 }, ⟨rfl, rfl, rfl, Nat.le_refl _, fun _ _ => rfl⟩⟩, rfl⟩ ?_
  have e : (fun a' => ∀ w', (∃ L : Later w, w' = L.w) → Q .normal a' w') = (fun a' => ∀ L : Later w, Q .normal a' L.w) :=
    funext fun a' => propext ⟨fun h L => h _ ⟨L, rfl⟩, fun h w' ⟨L, e⟩ => e ▸ h L⟩
  rw [e]
  exact h
section
variable {P : Program}
theorem wpList_copy_reads {w : World} {ops : Array Oper} {rest : List Oper} {o : Oper} {a : Act} {Q : Exit → Act → World → Prop} (hgd : o.guard = none) (d s : Operand) {t e : TypeId} {bytes : Nat}
    (ho : o.op = .call { callee := .builtin .copy, args := #[d, s], argTypes := #[t, t] }) (hS : SliceOf P t e 1 bytes) (base g n cap : Nat) (cur : List Value) (hd : a.eval d = .slice (some ⟨g, 0, none⟩) n cap)
    (hown : w.ownsRow base e 1 (.slice (some ⟨g, 0, none⟩) n cap) n cur) (B : Nat) (A : Option Addr) (m c : Nat) (src : List Value) (hs : a.eval s = .slice A m c) (hr : Reads w B 1 A m src) (hmn : m ≤ n) (h1 : ∀ u ∈ src, u.oneCell' = true)
    (h : ∀ w', w'.ownsRow base e 1 (.slice (some ⟨g, 0, none⟩) n cap) n (src ++ cur.drop m) → w.grownBy w' (some g) → wpList P ops Q rest (a.put o.dst (goInt m)) w') : wpList P ops Q (o :: rest) a w := by
  obtain ⟨ht, ⟨i, z, hi, _, hsize, _, _⟩, _⟩ := hS
  have hsz : (P.info? e).map (·.size) = some 1 := by rw [hi]; simp [hsize]
  have hl : src.length = m := by have := hr.1; omega
  by_cases h0 : m = 0
  · subst h0
    have hsrc : src = [] := List.eq_nil_of_length_eq_zero hl
    subst hsrc
    exact wpList_copy_nothing hgd d s t t ho e ht hsz _ A n cap 0 c hd hs (by simp) (h w (by simpa using hown) (World.grownBy.refl _ _))
  · obtain ⟨b, of, rfl, hb, hc⟩ := hr.2 (by omega)
    rcases hown.2 with ⟨h', _⟩ | ⟨g', cap', curA, h', hbg, hg, hnc, hcm, hcs, htk⟩
    · cases h'
    · injection h' with h1' h2' h3'
      injection h1' with h1'; injection h1' with h1'
      subst h1'; subst h3'
      rw [Nat.mul_one] at hcs htk
      refine wpList_copy_own hgd d s t t ho e ht hsz g 0 n cap ⟨b, of, none⟩ m c hd hs curA e hg src (by rw [hl]; exact (Nat.min_eq_left hmn).symm) (fun j v hv => ?_) (by omega) h1 ?_
      · have := hc j v hv
        unfold Addr.add
        split
        · rename_i hj; subst hj; exact this
        · exact this
      · rw [hl]
        refine h _ ⟨?_, .inr ⟨g, cap, _, rfl, hbg, setRow_heap w g curA _ e _ hg, hnc, hcm, ?_, ?_⟩⟩ ⟨rfl, rfl, rfl, by simp [World.setRow], fun k _ hk => setRow_other w g k _ (fun e => hk (by rw [e]))⟩
        · have := hown.1
          simp only [List.length_append, List.length_drop]; omega
        · simp only [List.size_toArray, List.length_append, List.length_take, List.length_drop, Array.length_toList]; omega
        · rw [Nat.mul_one, ← htk]
          simp only [List.take_zero, List.nil_append, Nat.zero_add]
          rw [List.take_append, List.take_of_length_le (by omega), List.drop_take, hl]
end
end Go.Proofs.YtmigjipfomfacaaDoor
namespace Go.Proofs.YtmigjipfomfacaaDoor
open Go.RowKit
def u8v (c : UInt8) : Value := .int .u8 (c.toNat : Int)
def u8s (l : List UInt8) : List Value := l.map u8v
theorem u8s_length (l : List UInt8) : (u8s l).length = l.length := by simp [u8s]
theorem u8s_append (a b : List UInt8) : u8s (a ++ b) = u8s a ++ u8s b := by simp [u8s]
theorem u8s_one (l : List UInt8) : ∀ u ∈ u8s l, u.oneCell' = true := by
  intro u hu
  obtain ⟨c, _, rfl⟩ := List.mem_map.1 hu
  rfl
theorem u8s_at {l : List UInt8} {k : Nat} {c : UInt8} (h : l[k]? = some c) : (u8s l)[k]? = some (.int .u8 (c.toNat : Int)) := by
  simp [u8s, h, u8v]
def RB (w : World) (B : Nat) (A : Option Addr) (n : Nat) (l : List UInt8) : Prop := Reads w B 1 A n (u8s l)
section
variable {w w' : World} {B B' n : Nat} {A : Option Addr} {l : List UInt8}
theorem RB.len (h : RB w B A n l) : l.length = n := by have := h.1; rw [u8s_length, Nat.mul_one] at this; exact this
theorem RB.mk' (hn : l.length = n) (h : 0 < n → ∃ b o, A = some ⟨b, o, none⟩ ∧ b < B ∧ ∀ j c, l[j]? = some c → w.cell? ⟨b, o + j, none⟩ = some (.int .u8 (c.toNat : Int))) : RB w B A n l :=
  ⟨by rw [u8s_length, Nat.mul_one]; exact hn, fun h0 => by
    obtain ⟨b, o, e, hb, hc⟩ := h h0
    refine ⟨b, o, e, hb, fun j u hu => ?_⟩
    simp only [u8s, List.getElem?_map, Option.map_eq_some_iff] at hu
    obtain ⟨c, hj, rfl⟩ := hu
    exact hc j c hj⟩
theorem RB.nil : RB w B A 0 [] := Reads.nil
theorem RB.at_ (h : RB w B A n l) {k : Nat} (hk : k < n) : ∃ b o c, A = some ⟨b, o, none⟩ ∧ b < B ∧ l[k]? = some c ∧ w.cell? ⟨b, o + k, none⟩ = some (.int .u8 (c.toNat : Int)) := by
  obtain ⟨b, o, e, hb, hc⟩ := h.2 (by omega)
  have hl := h.len
  have hk' : l[k]? = some (l[k]'(by omega)) := List.getElem?_eq_getElem (by omega)
  exact ⟨b, o, _, e, hb, hk', hc k _ (u8s_at hk')⟩
theorem RB.cell {b o : Nat} (h : RB w B (some ⟨b, o, none⟩) n l) {k : Nat} {c : UInt8} (hc : l[k]? = some c) : w.cell? ⟨b, o + k, none⟩ = some (.int .u8 (c.toNat : Int)) := by
  have hk : k < l.length := (List.getElem?_eq_some_iff.1 hc).1
  obtain ⟨b', o', e, _, h'⟩ := h.2 (by have := h.len; omega)
  injection e with e; injection e with e1 e2
  subst e1; subst e2
  exact h' k _ (u8s_at hc)
theorem RB.more (h : RB w B A n l) (hB : B ≤ B') : RB w B' A n l := Reads.more h hB
theorem RB.below (h : RB w B A n l) (hb : Below B w w') : RB w' B A n l := Reads.below h hb
theorem RB.later (h : RB w w.heap.size A n l) (hb : Below w.heap.size w w') : RB w' w'.heap.size A n l := (h.below hb).more hb.size
theorem RB.own {base : Nat} {e : TypeId} {c : Nat} (h : w.ownsRow base e 1 (.slice A n c) n (u8s l)) : RB w w.heap.size A n l := Reads.own h
theorem RB.take (h : RB w B A n l) {m : Nat} (hm : m ≤ n) : RB w B A m (l.take m) := by
  have := Reads.take h hm
  rwa [Nat.mul_one, show (u8s l).take m = u8s (l.take m) from by simp [u8s]] at this
theorem RB.drop (h : RB w B A n l) {k cap : Nat} (hk : k ≤ n) (hc : n ≤ cap) : RB w B (if cap = k then A else A.map (·.add k)) (n - k) (l.drop k) := by
  refine RB.mk' (by rw [List.length_drop, h.len]) fun hn => ?_
  obtain ⟨b, o, rfl, hb, hcell⟩ := h.2 (by omega)
  rw [if_neg (by omega)]
  refine ⟨b, o + k, ?_, hb, fun j c hj => ?_⟩
  · simp only [Option.map_some]
    unfold Addr.add
    split
    · rename_i h0; subst h0; rfl
    · rfl
  · rw [Nat.add_assoc]
    rw [List.getElem?_drop] at hj
    exact hcell _ _ (u8s_at hj)
end
theorem take_snoc {α : Type} {l : List α} {k : Nat} {c : α} (h : l[k]? = some c) : l.take (k + 1) = l.take k ++ [c] := by
  obtain ⟨hk, e⟩ := List.getElem?_eq_some_iff.1 h
  rw [List.take_succ_eq_append_getElem hk, e]
theorem take_all {α : Type} {l : List α} {k : Nat} (h : l.length ≤ k) : l.take k = l := List.take_of_length_le h
def RBs (w : World) (B : Nat) (A : Option Addr) (n : Nat) (ks : List (List UInt8)) : Prop :=
  ∃ vs : List Value, Reads w B 1 A n vs ∧ vs.length = ks.length ∧ ∀ (i : Nat) (k : List UInt8), ks[i]? = some k → ∃ (a : Option Addr) (c : Nat), vs[i]? = some (.slice a k.length c) ∧ k.length ≤ c ∧ c ≤ 9223372036854775807 ∧ (a = none → c = 0) ∧ RB w B a k.length k
section
variable {w w' : World} {B B' n : Nat} {A : Option Addr} {ks : List (List UInt8)}
theorem RBs.len (h : RBs w B A n ks) : ks.length = n := by obtain ⟨vs, h1, h2, _⟩ := h; have := h1.1; omega
theorem RBs.below (h : RBs w B A n ks) (hb : Below B w w') : RBs w' B A n ks := by
  obtain ⟨vs, h1, h2, h3⟩ := h
  exact ⟨vs, h1.below hb, h2, fun i k hk => by obtain ⟨a, c, q1, q2, q3, q4, q5⟩ := h3 i k hk; exact ⟨a, c, q1, q2, q3, q4, q5.below hb⟩⟩
theorem RBs.more (h : RBs w B A n ks) (hB : B ≤ B') : RBs w B' A n ks := by
  obtain ⟨vs, h1, h2, h3⟩ := h
  exact ⟨vs, h1.more hB, h2, fun i k hk => by obtain ⟨a, c, q1, q2, q3, q4, q5⟩ := h3 i k hk; exact ⟨a, c, q1, q2, q3, q4, q5.more hB⟩⟩
theorem RBs.later (h : RBs w w.heap.size A n ks) (hb : Below w.heap.size w w') : RBs w' w'.heap.size A n ks := (h.below hb).more hb.size
theorem RBs.at_ (h : RBs w B A n ks) {i : Nat} (hi : i < n) : ∃ b o k a c, A = some ⟨b, o, none⟩ ∧ b < B ∧ ks[i]? = some k ∧ w.cell? ⟨b, o + i, none⟩ = some (.slice a k.length c) ∧ k.length ≤ c ∧ c ≤ 9223372036854775807 ∧ (a = none → c = 0) ∧ RB w B a k.length k := by
  have hl := h.len
  obtain ⟨vs, h1, h2, h3⟩ := h
  obtain ⟨b, o, e, hb, hc⟩ := h1.2 (by omega)
  have hk : ks[i]? = some (ks[i]'(by omega)) := List.getElem?_eq_getElem (by omega)
  obtain ⟨a, c, q1, q2, q3, q4, q5⟩ := h3 i _ hk
  exact ⟨b, o, _, a, c, e, hb, hk, hc i _ q1, q2, q3, q4, q5⟩
end
end Go.Proofs.YtmigjipfomfacaaDoor
namespace Go.Proofs.YtmigjipfomfacaaDoor
open Go.RowKit
def tabL : List Nat := [0, 274646895, 549293790, 820201905, 1098587580, 1361435347, 1640403810, 1905808397, 2197175160, 2460548119, 2722870694, 2987750089, 3280807620, 3553878443, 3811616794, 4084100981]
def tabN (i : Nat) : Nat := tabL[i]?.getD 0
theorem tab_iter : ∀ i : Fin 16, rIter 4 i.val = tabN i.val := by decide +kernel
theorem tabN_lt : ∀ i : Fin 16, tabN i.val < 4294967296 := by decide +kernel
theorem rStep_even (c : Nat) : rStep (2 * c) = c := by
  unfold rStep
  have : (2 * c).testBit 0 = false := by simp [Nat.testBit_zero]
  rw [this, Nat.shiftRight_eq_div_pow]; simp
theorem rIter_four (c : Nat) : rIter 4 c = (c / 16) ^^^ tabN (c % 16) := by
  have e : c = (16 * (c / 16)) ^^^ (c % 16) := by
    have h := Nat.shiftLeft_add_eq_or_of_lt (a := c / 16) (b := c % 16) (i := 4) (by omega)
    apply Nat.eq_of_testBit_eq
    intro j
    rw [Nat.testBit_xor, show 16 * (c / 16) = (c / 16) <<< 4 from by rw [Nat.shiftLeft_eq]; omega, Nat.testBit_shiftLeft, show (16 : Nat) = 2 ^ 4 from rfl, Nat.testBit_mod_two_pow, Nat.testBit_div_two_pow]
    by_cases hj : 4 ≤ j
    · have : ¬ j < 4 := by omega
      simp [hj, this]
    · have : j < 4 := by omega
      simp [hj, this]
  have e2 : rIter 4 (16 * (c / 16)) = c / 16 := by
    show rStep (rStep (rStep (rStep _))) = _
    rw [show 16 * (c / 16) = 2 * (2 * (2 * (2 * (c / 16)))) from by omega, rStep_even, rStep_even, rStep_even, rStep_even]
  have e3 : rIter 4 (c % 16) = tabN (c % 16) := tab_iter ⟨c % 16, by omega⟩
  calc rIter 4 c = rIter 4 ((16 * (c / 16)) ^^^ (c % 16)) := by rw [← e]
    _ = _ := by rw [rIter_xor, e2, e3]
def crcB (c : Nat) (b : UInt8) : Nat := rIter 8 (c ^^^ b.toNat)
def crcL (c : Nat) (l : List UInt8) : Nat := l.foldl crcB c
theorem crcL_snoc (c : Nat) (l : List UInt8) (b : UInt8) : crcL c (l ++ [b]) = crcB (crcL c l) b := by simp [crcL, List.foldl_append]
theorem crcL_app (c : Nat) (l m : List UInt8) : crcL c (l ++ m) = crcL (crcL c l) m := by simp [crcL, List.foldl_append]
theorem crcB_lt {c : Nat} (h : c < 4294967296) (b : UInt8) : crcB c b < 4294967296 :=
  rIter_lt 8 (Nat.xor_lt_two_pow (n := 32) h (by have := b.toNat_lt; omega))
theorem crcL_lt (l : List UInt8) : ∀ {c : Nat}, c < 4294967296 → crcL c l < 4294967296 := by
  induction l with
  | nil => exact fun h => h
  | cons b l ih => exact fun h => ih (crcB_lt h b)
def sumL (l : List UInt8) : Nat := 4294967295 - crcL 4294967295 l
theorem sumL_lt (l : List UInt8) : sumL l < 4294967296 := by unfold sumL; omega
def nib1 (c : Nat) (b : UInt8) : Nat := (c ^^^ b.toNat) % 16
def mid (c : Nat) (b : UInt8) : Nat := (c / 16) ^^^ tabN (nib1 c b)
def nib2 (c : Nat) (b : UInt8) : Nat := (mid c b ^^^ b.toNat / 16) % 16
theorem nib1_lt (c : Nat) (b : UInt8) : nib1 c b < 16 := Nat.mod_lt _ (by decide)
theorem nib2_lt (c : Nat) (b : UInt8) : nib2 c b < 16 := Nat.mod_lt _ (by decide)
theorem mid_lt {c : Nat} (h : c < 4294967296) (b : UInt8) : mid c b < 4294967296 :=
  Nat.xor_lt_two_pow (n := 32) (by omega) (tabN_lt ⟨_, nib1_lt c b⟩)
theorem xor_mod16 (a b : Nat) : (a ^^^ b) % 16 = (a % 16) ^^^ (b % 16) := by
  rw [show (16 : Nat) = 2 ^ 4 from rfl]
  apply Nat.eq_of_testBit_eq
  intro j
  simp only [Nat.testBit_mod_two_pow, Nat.testBit_xor]
  cases decide (j < 4) <;> simp
theorem xor_div16 (a b : Nat) : (a ^^^ b) / 16 = (a / 16) ^^^ (b / 16) := by
  rw [show (16 : Nat) = 2 ^ 4 from rfl]
  apply Nat.eq_of_testBit_eq
  intro j
  simp only [Nat.testBit_div_two_pow, Nat.testBit_xor]
theorem crcB_mid (c : Nat) (b : UInt8) : crcB c b = (mid c b / 16) ^^^ tabN (nib2 c b) := by
  have hb := b.toNat_lt
  have e1 : rIter 4 (c ^^^ b.toNat) = mid c b ^^^ b.toNat / 16 := by
    rw [rIter_four, xor_div16]
    unfold mid nib1
    ac_rfl
  have : crcB c b = rIter 4 (rIter 4 (c ^^^ b.toNat)) := rIter_add 4 4 _
  rw [this, e1, rIter_four, xor_div16, show b.toNat / 16 / 16 = 0 from by omega, Nat.xor_zero]
  rfl
theorem and15_walk (a : Nat) (h : a < 256) : bits .and .u8 (a : Int) 15 = ((a % 16 : Nat) : Int) := by
  rw [show (15 : Int) = ((15 : Nat) : Int) from rfl, u8_and_nat _ _ h (by omega), show (15 : Nat) = 2 ^ 4 - 1 from rfl, Nat.and_two_pow_sub_one_eq_mod]
theorem nib1_walk (c : Nat) (b : UInt8) : bits .and .u8 (bits .xor .u8 ((c : Int) % 256) (b.toNat : Int)) 15 = ((nib1 c b : Nat) : Int) := by
  have hb := b.toNat_lt
  have e : (c : Int) % 256 = ((c % 256 : Nat) : Int) := by omega
  have hx : (c % 256) ^^^ b.toNat < 256 := Nat.xor_lt_two_pow (n := 8) (by omega) (by omega)
  rw [e, u8_xor_nat _ _ (by omega) (by omega), and15_walk _ hx]
  unfold nib1
  rw [xor_mod16, xor_mod16 c, show c % 256 % 16 = c % 16 from by omega]
theorem nib2_walk (c : Nat) (b : UInt8) : bits .and .u8 (bits .xor .u8 ((mid c b : Int) % 256) ((b.toNat : Int) / 16)) 15 = ((nib2 c b : Nat) : Int) := by
  have hb := b.toNat_lt
  have e : (mid c b : Int) % 256 = ((mid c b % 256 : Nat) : Int) := by omega
  have e2 : (b.toNat : Int) / 16 = ((b.toNat / 16 : Nat) : Int) := by omega
  have hx : (mid c b % 256) ^^^ (b.toNat / 16) < 256 := Nat.xor_lt_two_pow (n := 8) (by omega) (by omega)
  rw [e, e2, u8_xor_nat _ _ (by omega) (by omega), and15_walk _ hx]
  unfold nib2
  rw [xor_mod16, xor_mod16 (mid c b), show mid c b % 256 % 16 = mid c b % 16 from by omega]
theorem mid_walk (c : Nat) (b : UInt8) (h : c < 4294967296) : bits .xor .u32 ((c : Int) / 16) ((tabN (nib1 c b) : Nat) : Int) = ((mid c b : Nat) : Int) := by
  rw [show (c : Int) / 16 = ((c / 16 : Nat) : Int) from by omega, u32_xor_nat _ _ (by omega) (tabN_lt ⟨_, nib1_lt c b⟩)]; rfl
theorem crcB_walk (c : Nat) (b : UInt8) (h : c < 4294967296) : bits .xor .u32 ((mid c b : Int) / 16) ((tabN (nib2 c b) : Nat) : Int) = ((crcB c b : Nat) : Int) := by
  have := mid_lt h b
  rw [show (mid c b : Int) / 16 = ((mid c b / 16 : Nat) : Int) from by omega, u32_xor_nat _ _ (by omega) (tabN_lt ⟨_, nib2_lt c b⟩), crcB_mid]
theorem not_u32 {C : Nat} (h : C < 4294967296) : bits .xor .u32 IntKind.u32.max (C : Int) = ((4294967295 - C : Nat) : Int) := by
  show bits .xor .u32 ((4294967295 : Nat) : Int) (C : Int) = _
  rw [u32_xor_nat _ _ (by omega) h]
  congr 1
  apply Nat.eq_of_testBit_eq
  intro j
  have h1 := Nat.testBit_two_pow_sub_succ (x := 0) (n := 32) (by omega) j
  have h2 := Nat.testBit_two_pow_sub_succ (x := C) (n := 32) (by omega) j
  rw [show (2 : Nat) ^ 32 - (0 + 1) = 4294967295 from rfl] at h1
  rw [show (2 : Nat) ^ 32 - (C + 1) = 4294967295 - C from by omega] at h2
  rw [Nat.testBit_xor, h1, h2]
  by_cases hj : j < 32
  · simp [hj]
  · have : C.testBit j = false := Nat.testBit_lt_two_pow (Nat.lt_of_lt_of_le h (by
      have : 2 ^ 32 ≤ 2 ^ j := Nat.pow_le_pow_right (by decide) (by omega)
      simpa using this))
    simp [hj, this]
def lowB (s : Nat) : List UInt8 := [UInt8.ofNat s, UInt8.ofNat (s / 256), UInt8.ofNat (s / 65536), UInt8.ofNat (s / 16777216)]
theorem u8v_mod (s : Nat) : u8v (UInt8.ofNat s) = .int .u8 ((s : Int) % 256) := by
  unfold u8v
  rw [UInt8.toNat_ofNat', Int.natCast_emod]; rfl
def TabAt (b : Nat) (w : World) : Prop := b < w.heap.size ∧ ∀ i, i < 16 → w.cell? ⟨b, i, none⟩ = some (.int .u32 (tabN i))
theorem TabAt.later {b : Nat} {w w' : World} (h : TabAt b w) (hb : Below w.heap.size w w') : TabAt b w' :=
  ⟨Nat.lt_of_lt_of_le h.1 hb.size, fun i hi => (hb.cell (p := ⟨b, i, none⟩) h.1).trans (h.2 i hi)⟩
theorem TabAt.below {b B : Nat} {w w' : World} (h : TabAt b w) (hB : b < B) (hb : Below B w w') : TabAt b w' :=
  ⟨Nat.lt_of_lt_of_le h.1 hb.size, fun i hi => (hb.cell (p := ⟨b, i, none⟩) hB).trans (h.2 i hi)⟩
def be4 (n : Nat) : List UInt8 := [UInt8.ofNat (n / 16777216), UInt8.ofNat (n / 65536), UInt8.ofNat (n / 256), UInt8.ofNat n]
def headF (n : Nat) : List UInt8 := be4 n ++ lowB (sumL (be4 n))
def frameB (l : List UInt8) : List UInt8 := headF l.length ++ l ++ lowB (sumL l)
theorem frameB_length (l : List UInt8) : (frameB l).length = l.length + 12 := by
  simp [frameB, headF, be4, lowB]
def frameE (l : List UInt8) : Int := if l.length ≤ 1048576 then 0 else 2
def frameR (l : List UInt8) : List UInt8 := if l.length ≤ 1048576 then frameB l else []
theorem i64_or_nat (a b : Nat) (ha : a < 9223372036854775808) (hb : b < 9223372036854775808) : bits .or .i64 (a : Int) (b : Int) = ((a ||| b : Nat) : Int) := by
  have hx : a ||| b < 2 ^ 63 := Nat.or_lt_two_pow (by omega) (by omega)
  show IntKind.i64.wrap ((BitVec.ofInt 64 (a : Int) ||| BitVec.ofInt 64 (b : Int)).toNat : Int) = _
  rw [BitVec.toNat_or, ofInt_u64 a (by omega), ofInt_u64 b (by omega), IntKind.wrap_i64]
  omega
def numB (x2 x3 x4 x5 : UInt8) : Nat := ((x2.toNat * 256 + x3.toNat) * 256 + x4.toNat) * 256 + x5.toNat
theorem numB_lt (x2 x3 x4 x5 : UInt8) : numB x2 x3 x4 x5 < 4294967296 := by
  have := x2.toNat_lt; have := x3.toNat_lt; have := x4.toNat_lt; have := x5.toNat_lt
  unfold numB; omega
theorem shl_or4 (a b k : Nat) (h : b < 2 ^ k) : (a * 2 ^ k) ||| b = a * 2 ^ k + b := by
  rw [← Nat.shiftLeft_eq, Nat.shiftLeft_add_eq_or_of_lt h]
theorem numB_or (x2 x3 x4 x5 : UInt8) : ((x2.toNat * 16777216 ||| x3.toNat * 65536) ||| x4.toNat * 256) ||| x5.toNat = numB x2 x3 x4 x5 := by
  have h2 := x2.toNat_lt; have h3 := x3.toNat_lt; have h4 := x4.toNat_lt; have h5 := x5.toNat_lt
  unfold numB
  have e1 : x2.toNat * 16777216 ||| x3.toNat * 65536 = (x2.toNat * 256 + x3.toNat) * 65536 := by
    have := shl_or4 x2.toNat (x3.toNat * 65536) 24 (by omega)
    rw [show (2 : Nat) ^ 24 = 16777216 from rfl] at this
    rw [this]; omega
  have e2 : (x2.toNat * 256 + x3.toNat) * 65536 ||| x4.toNat * 256 = ((x2.toNat * 256 + x3.toNat) * 256 + x4.toNat) * 256 := by
    have := shl_or4 (x2.toNat * 256 + x3.toNat) (x4.toNat * 256) 16 (by omega)
    rw [show (2 : Nat) ^ 16 = 65536 from rfl] at this
    rw [this]; omega
  have e3 := shl_or4 ((x2.toNat * 256 + x3.toNat) * 256 + x4.toNat) x5.toNat 8 (by omega)
  rw [show (2 : Nat) ^ 8 = 256 from rfl] at e3
  rw [e1, e2, e3]
theorem numB_bits (x2 x3 x4 x5 : UInt8) : bits .or .i64 (bits .or .i64 (bits .or .i64 ((x2.toNat : Int) * 16777216) ((x3.toNat : Int) * 65536)) ((x4.toNat : Int) * 256)) (x5.toNat : Int) = ((numB x2 x3 x4 x5 : Nat) : Int) := by
  have h2 := x2.toNat_lt; have h3 := x3.toNat_lt; have h4 := x4.toNat_lt; have h5 := x5.toNat_lt
  rw [show (x2.toNat : Int) * 16777216 = ((x2.toNat * 16777216 : Nat) : Int) from by omega, show (x3.toNat : Int) * 65536 = ((x3.toNat * 65536 : Nat) : Int) from by omega, show (x4.toNat : Int) * 256 = ((x4.toNat * 256 : Nat) : Int) from by omega]
  have l1 := Nat.or_lt_two_pow (n := 32) (x := x2.toNat * 16777216) (y := x3.toNat * 65536) (by omega) (by omega)
  have l2 := Nat.or_lt_two_pow (n := 32) (x := x2.toNat * 16777216 ||| x3.toNat * 65536) (y := x4.toNat * 256) l1 (by omega)
  rw [i64_or_nat _ _ (by omega) (by omega), i64_or_nat _ _ (by omega) (by omega), i64_or_nat _ _ (by omega) (by omega), numB_or]
theorem wrap64_id {x : Int} (h1 : -9223372036854775808 ≤ x) (h2 : x < 9223372036854775808) : wrap64 x = x := by unfold wrap64; omega
theorem numB_walk (x2 x3 x4 x5 : UInt8) : bits .or .i64 (bits .or .i64 (bits .or .i64 (wrap64 (wrap64 (x2.toNat : Int) * 16777216)) (wrap64 (wrap64 (x3.toNat : Int) * 65536))) (wrap64 (wrap64 (x4.toNat : Int) * 256))) (wrap64 (x5.toNat : Int)) = ((numB x2 x3 x4 x5 : Nat) : Int) := by
  have h2 := x2.toNat_lt; have h3 := x3.toNat_lt; have h4 := x4.toNat_lt; have h5 := x5.toNat_lt
  rw [wrap64_id (x := (x2.toNat : Int)) (by omega) (by omega), wrap64_id (x := (x3.toNat : Int)) (by omega) (by omega), wrap64_id (x := (x4.toNat : Int)) (by omega) (by omega), wrap64_id (x := (x5.toNat : Int)) (by omega) (by omega),
    wrap64_id (by omega) (by omega), wrap64_id (by omega) (by omega), wrap64_id (by omega) (by omega), numB_bits]
def isB (l : List UInt8) (k s : Nat) : Bool := (l.drop k).take 4 == lowB s
def numF (l : List UInt8) (k : Nat) : Nat := numB (l[k]?.getD 0) (l[k + 1]?.getD 0) (l[k + 2]?.getD 0) (l[k + 3]?.getD 0)
theorem numF_lt (l : List UInt8) (k : Nat) : numF l k < 4294967296 := numB_lt _ _ _ _
def cutF (l : List UInt8) (k m : Nat) : List UInt8 := (l.drop k).take m
def readF (l : List UInt8) (k : Nat) : List UInt8 × Nat × Nat :=
  if l.length < k + 8 then ([], 0, 10)
  else if isB l (k + 4) (sumL (cutF l k 4)) = false then ([], 0, 12)
  else if 1048576 < numF l k then ([], 0, 13)
  else if l.length < k + 8 + numF l k + 4 then ([], 0, 10)
  else if isB l (k + 8 + numF l k) (sumL (cutF l (k + 8) (numF l k))) = false then ([], 0, 12)
  else (cutF l (k + 8) (numF l k), k + 8 + numF l k + 4, 0)
def readFA (l : List UInt8) (a : Int) : List UInt8 × Nat × Nat := if a < 0 ∨ (l.length : Int) < a then ([], 0, 1) else readF l a.toNat
end Go.Proofs.YtmigjipfomfacaaDoor
namespace Go.Proofs.YtmigjipfomfacaaDoor
open Go.RowKit
def uintF : Nat → Nat → List UInt8
  | 0, v => [UInt8.ofNat v]
  | k + 1, v => if v < 128 then [UInt8.ofNat v] else UInt8.ofNat (v % 128 + 128) :: uintF k (v / 128)
def uintB (v : Nat) : List UInt8 := uintF v v
theorem uintF_same : ∀ (f g v : Nat), v ≤ f → v ≤ g → uintF f v = uintF g v := by
  intro f
  induction f with
  | zero =>
    intro g v h1 h2
    obtain rfl : v = 0 := by omega
    cases g <;> rfl
  | succ f ih =>
    intro g v h1 h2
    cases g with
    | zero =>
      obtain rfl : v = 0 := by omega
      rfl
    | succ g =>
      simp only [uintF]
      split
      · rfl
      · rw [ih g (v / 128) (by omega) (by omega)]
theorem uintB_lt {v : Nat} (h : v < 128) : uintB v = [UInt8.ofNat v] := by
  unfold uintB
  cases v with
  | zero => rfl
  | succ v => simp only [uintF]; rw [if_pos h]
theorem uintB_ge {v : Nat} (h : 128 ≤ v) : uintB v = UInt8.ofNat (v % 128 + 128) :: uintB (v / 128) := by
  unfold uintB
  cases v with
  | zero => omega
  | succ v =>
    simp only [uintF]
    rw [if_neg (by omega), uintF_same v ((v + 1) / 128) _ (by omega) (Nat.le_refl _)]
theorem uintB_len : ∀ (k v : Nat), v < 128 ^ (k + 1) → (uintB v).length ≤ k + 1 := by
  intro k
  induction k with
  | zero => intro v h; rw [uintB_lt (by simpa using h)]; simp
  | succ k ih =>
    intro v h
    by_cases hv : v < 128
    · rw [uintB_lt hv]; simp
    · rw [uintB_ge (by omega), List.length_cons]
      have := ih (v / 128) (Nat.div_lt_of_lt_mul (by rw [Nat.pow_succ] at h; omega))
      omega
theorem uintB_ten {v : Nat} (h : v < 18446744073709551616) : (uintB v).length ≤ 10 := uintB_len 9 v (Nat.lt_trans h (by decide))
theorem uintB_pos (v : Nat) : 0 < (uintB v).length := by
  by_cases h : v < 128
  · rw [uintB_lt h]; simp
  · rw [uintB_ge (by omega)]; simp
theorem or128_fin : ∀ x : Fin 256, x.val ||| 128 = x.val % 128 + 128 := by decide +kernel
theorem or128_walk (V : Nat) : bits .or .u8 ((V : Int) % 256) 128 = (V : Int) % 128 + 128 := by
  rw [show (V : Int) % 256 = ((V % 256 : Nat) : Int) from by omega, show (128 : Int) = ((128 : Nat) : Int) from rfl, u8_or_nat _ _ (by omega) (by omega), or128_fin ⟨V % 256, by omega⟩]
  show ((V % 256 % 128 + 128 : Nat) : Int) = _
  omega
theorem u8v_or (V : Nat) : u8v (UInt8.ofNat (V % 128 + 128)) = .int .u8 ((V : Int) % 128 + 128) := by
  unfold u8v
  rw [UInt8.toNat_ofNat', Nat.mod_eq_of_lt (by omega)]; congr 1
def rdU : List UInt8 → Nat → Nat → Nat × Nat × Nat
  | [], _, _ => (0, 0, 10)
  | c :: r, i, v =>
    if i = 9 ∧ 1 < c.toNat then (0, 0, 13)
    else if c.toNat < 128 then (if c.toNat = 0 ∧ 0 < i then (0, 0, 11) else (v + c.toNat % 128 * 2 ^ (7 * i), i + 1, 0))
    else rdU r (i + 1) (v + c.toNat % 128 * 2 ^ (7 * i))
def readU (l : List UInt8) (a : Int) : Nat × Nat × Nat :=
  if a < 0 ∨ (l.length : Int) < a then (0, 0, 1)
  else if (rdU (l.drop a.toNat) 0 0).2.2 = 0 then ((rdU (l.drop a.toNat) 0 0).1, a.toNat + (rdU (l.drop a.toNat) 0 0).2.1, 0) else (0, 0, (rdU (l.drop a.toNat) 0 0).2.2)
theorem and127_walk (x : UInt8) : bits .and .u8 (x.toNat : Int) 127 = ((x.toNat % 128 : Nat) : Int) := by
  have := x.toNat_lt
  rw [show (127 : Int) = ((127 : Nat) : Int) from rfl, u8_and_nat _ _ (by omega) (by omega), show (127 : Nat) = 2 ^ 7 - 1 from rfl, Nat.and_two_pow_sub_one_eq_mod]
theorem pow7_le {j : Nat} (h : j ≤ 8) : 2 ^ (7 * j) ≤ 72057594037927936 := by
  have : 2 ^ (7 * j) ≤ 2 ^ 56 := Nat.pow_le_pow_right (by decide) (by omega)
  simpa using this
theorem rd_core (V y m : Nat) (hm : m ≤ 63) (hV : V < 2 ^ m) (hy : y * 2 ^ m < 18446744073709551616) : bits .or .u64 (V : Int) (IntKind.u64.wrap (IntKind.u64.wrap (y : Int) * 2 ^ m)) = ((V + y * 2 ^ m : Nat) : Int) := by
  have hp : 1 ≤ 2 ^ m := Nat.one_le_two_pow
  have hy1 : y < 18446744073709551616 := Nat.lt_of_le_of_lt (Nat.le_mul_of_pos_right y (by omega)) hy
  have e1 : IntKind.u64.wrap (y : Int) = (y : Int) := by rw [IntKind.wrap_u64]; omega
  have e2 : (y : Int) * 2 ^ m = ((y * 2 ^ m : Nat) : Int) := by rw [Int.natCast_mul, Int.natCast_pow]; rfl
  rw [e1, e2]
  have e3 : IntKind.u64.wrap ((y * 2 ^ m : Nat) : Int) = ((y * 2 ^ m : Nat) : Int) := by rw [IntKind.wrap_u64]; omega
  have hV2 : V < 18446744073709551616 := by
    have : 2 ^ m ≤ 2 ^ 63 := Nat.pow_le_pow_right (by decide) hm
    omega
  rw [e3, u64_or_nat V _ hV2 hy, Nat.or_comm, shl_or4 y V m hV, Nat.add_comm]
theorem rd_step (V j : Nat) (x : UInt8) (hj : j ≤ 8) (hV : V < 2 ^ (7 * j)) : bits .or .u64 (V : Int) (IntKind.u64.wrap (IntKind.u64.wrap (bits .and .u8 (x.toNat : Int) 127) * 2 ^ (7 * j))) = ((V + x.toNat % 128 * 2 ^ (7 * j) : Nat) : Int) := by
  rw [and127_walk]
  refine rd_core V _ _ (by omega) hV ?_
  have h1 := pow7_le hj
  have h2 : x.toNat % 128 ≤ 127 := by omega
  have := Nat.mul_le_mul h2 h1
  omega
theorem rd_next (V j x : Nat) (hV : V < 2 ^ (7 * j)) : V + x % 128 * 2 ^ (7 * j) < 2 ^ (7 * (j + 1)) := by
  have h2 : x % 128 ≤ 127 := by omega
  have := Nat.mul_le_mul_right (2 ^ (7 * j)) h2
  rw [show 7 * (j + 1) = 7 * j + 7 from by omega, Nat.pow_add]
  omega
theorem rd_last (V : Nat) (x : UInt8) (hx : x.toNat ≤ 1) (hV : V < 2 ^ 63) : bits .or .u64 (V : Int) (IntKind.u64.wrap (IntKind.u64.wrap (bits .and .u8 (x.toNat : Int) 127) * 9223372036854775808)) = ((V + x.toNat % 128 * 2 ^ (7 * 9) : Nat) : Int) := by
  rw [and127_walk, show (9223372036854775808 : Int) = 2 ^ 63 from by decide]
  refine rd_core V _ 63 (by omega) hV ?_
  have h2 : x.toNat % 128 ≤ 1 := by omega
  have := Nat.mul_le_mul_right (2 ^ 63) h2
  omega
theorem readU_at {l : List UInt8} {k j V : Nat} {r : Nat × Nat × Nat} (hk : k ≤ l.length) (hI : rdU (l.drop (k + j)) j V = rdU (l.drop k) 0 0) (hr : rdU (l.drop (k + j)) j V = r) : readU l (k : Int) = if r.2.2 = 0 then (r.1, k + r.2.1, 0) else (0, 0, r.2.2) := by
  unfold readU
  rw [if_neg (by omega), Int.toNat_natCast, ← hI, hr]
end Go.Proofs.YtmigjipfomfacaaDoor
namespace Go.Proofs.YtmigjipfomfacaaDoor
open Go.RowKit
theorem pow7_step (i : Nat) : 2 ^ (7 * (i + 1)) = 128 * 2 ^ (7 * i) := by
  rw [show 7 * (i + 1) = 7 * i + 7 from by omega, Nat.pow_add]; omega
theorem rdU_uintB (r : List UInt8) : ∀ (f i V a : Nat), i + f = 9 → V * 2 ^ (7 * i) < 18446744073709551616 → (V ≠ 0 ∨ i = 0) → rdU (uintB V ++ r) i a = (a + V * 2 ^ (7 * i), i + (uintB V).length, 0) := by
  intro f
  induction f with
  | zero =>
    intro i V a hi hV h0
    obtain rfl : i = 9 := by omega
    have hV1 : V ≤ 1 := by
      have : (2 : Nat) ^ (7 * 9) = 9223372036854775808 := by decide
      rw [this] at hV
      omega
    rw [uintB_lt (by omega)]
    show rdU (UInt8.ofNat V :: r) 9 a = _
    unfold rdU
    have e : (UInt8.ofNat V).toNat = V := by rw [UInt8.toNat_ofNat', Nat.mod_eq_of_lt (by omega)]
    rw [e, if_neg (by omega), if_pos (by omega), if_neg (by omega), Nat.mod_eq_of_lt (by omega)]; rfl
  | succ f ih =>
    intro i V a hi hV h0
    by_cases h : V < 128
    · rw [uintB_lt h]
      show rdU (UInt8.ofNat V :: r) i a = _
      unfold rdU
      have e : (UInt8.ofNat V).toNat = V := by rw [UInt8.toNat_ofNat', Nat.mod_eq_of_lt (by omega)]
      rw [e, if_neg (by omega), if_pos h, if_neg (by omega), Nat.mod_eq_of_lt h]; rfl
    · rw [uintB_ge (by omega)]
      show rdU (UInt8.ofNat (V % 128 + 128) :: (uintB (V / 128) ++ r)) i a = _
      have e : (UInt8.ofNat (V % 128 + 128)).toNat = V % 128 + 128 := by rw [UInt8.toNat_ofNat', Nat.mod_eq_of_lt (by omega)]
      have e2 : V / 128 * 2 ^ (7 * (i + 1)) + V % 128 * 2 ^ (7 * i) = V * 2 ^ (7 * i) := by
        rw [pow7_step, ← Nat.mul_assoc, ← Nat.add_mul, Nat.div_add_mod']
      rw [rdU, e, if_neg (by omega), if_neg (by omega), ih (i + 1) (V / 128) _ (by omega) (by omega) (by omega), List.length_cons]
      rw [show (V % 128 + 128) % 128 = V % 128 from by omega]
      simp only [Prod.mk.injEq]
      exact ⟨by omega, by omega, trivial⟩
theorem readU_back (p r : List UInt8) (v : Nat) (hv : v < 18446744073709551616) : readU (p ++ uintB v ++ r) (p.length : Int) = (v, p.length + (uintB v).length, 0) := by
  unfold readU
  have hl : ¬((p.length : Int) < 0 ∨ ((p ++ uintB v ++ r).length : Int) < (p.length : Int)) := by
    simp only [List.length_append]; omega
  rw [if_neg hl, Int.toNat_natCast, List.append_assoc, List.drop_left' rfl, rdU_uintB r 9 0 v 0 rfl (by simpa using hv) (.inr rfl)]
  simp
def cutS (l : List UInt8) (k m : Nat) : List UInt8 := (l.drop k).take m
def readBy (l : List UInt8) (a most : Int) : List UInt8 × Nat × Nat :=
  if a < 0 ∨ (l.length : Int) < a ∨ most < 0 then ([], 0, 1)
  else if (readU l a).2.2 ≠ 0 then ([], 0, (readU l a).2.2)
  else if most < ((readU l a).1 : Int) then ([], 0, 13)
  else if l.length - (readU l a).2.1 < (readU l a).1 then ([], 0, 10)
  else (cutS l (readU l a).2.1 (readU l a).1, (readU l a).2.1 + (readU l a).1, 0)
theorem rdU_end : ∀ (l : List UInt8) (i v : Nat), (rdU l i v).2.2 = 0 → (rdU l i v).2.1 ≤ i + l.length ∧ i + 1 ≤ (rdU l i v).2.1 := by
  intro l
  induction l with
  | nil => intro i v h; cases h
  | cons c r ih =>
    intro i v h
    unfold rdU at h ⊢
    split at h
    · cases h
    · rename_i h1
      rw [if_neg h1]
      split at h
      · rename_i h2
        rw [if_pos h2]
        split at h
        · cases h
        · rename_i h3
          rw [if_neg h3]
          simp
      · rename_i h2
        rw [if_neg h2]
        have := ih _ _ h
        rw [List.length_cons]
        omega
theorem readU_end (l : List UInt8) (a : Int) (h : (readU l a).2.2 = 0) : (readU l a).2.1 ≤ l.length ∧ 0 ≤ a ∧ a.toNat < (readU l a).2.1 := by
  unfold readU at h ⊢
  split at h
  · cases h
  · rename_i h1
    rw [if_neg h1]
    split at h
    · rename_i h2
      rw [if_pos h2]
      have := rdU_end _ _ _ h2
      rw [List.length_drop] at this
      simp only
      omega
    · rename_i h2
      exact absurd h h2
theorem rdU_val : ∀ (l : List UInt8) (i v : Nat), i ≤ 9 → v < 2 ^ (7 * i) → (rdU l i v).1 < 18446744073709551616 := by
  intro l
  induction l with
  | nil => intro i v _ _; show 0 < _; omega
  | cons c r ih =>
    intro i v hi hv
    have hc := c.toNat_lt
    unfold rdU
    split
    · show 0 < _; omega
    · rename_i h1
      split
      · rename_i h2
        split
        · show 0 < _; omega
        · simp only
          by_cases h9 : i = 9
          · subst h9
            have : (2 : Nat) ^ (7 * 9) = 9223372036854775808 := by decide
            rw [this] at hv ⊢
            have : c.toNat % 128 ≤ 1 := by omega
            omega
          · have h3 := rd_next v i c.toNat hv
            have h4 : 2 ^ (7 * (i + 1)) ≤ 2 ^ 63 := Nat.pow_le_pow_right (by decide) (by omega)
            omega
      · rename_i h2
        refine ih (i + 1) _ ?_ (rd_next v i c.toNat hv)
        by_cases h9 : i = 9
        · omega
        · omega
theorem readU_val (l : List UInt8) (a : Int) : (readU l a).1 < 18446744073709551616 := by
  unfold readU
  split
  · show 0 < _; omega
  · split
    · exact rdU_val _ 0 0 (by omega) (by decide)
    · show 0 < _; omega
theorem readBy_back (p r b : List UInt8) (most : Int) (hb : b.length < 18446744073709551616) (hm : (b.length : Int) ≤ most) : readBy (p ++ (uintB b.length ++ b) ++ r) (p.length : Int) most = (b, p.length + (uintB b.length ++ b).length, 0) := by
  have h := readU_back p (b ++ r) b.length hb
  have e : p ++ uintB b.length ++ (b ++ r) = p ++ (uintB b.length ++ b) ++ r := by simp
  rw [e] at h
  unfold readBy
  rw [h]
  have h1 : ¬((p.length : Int) < 0 ∨ ((p ++ (uintB b.length ++ b) ++ r).length : Int) < (p.length : Int) ∨ most < 0) := by
    simp only [List.length_append]; omega
  rw [if_neg h1, if_neg (by simp), if_neg (by omega), if_neg (by simp only [List.length_append]; omega)]
  have c : cutS (p ++ (uintB b.length ++ b) ++ r) (p.length + (uintB b.length).length) b.length = b := by
    unfold cutS
    rw [show p ++ (uintB b.length ++ b) ++ r = (p ++ uintB b.length) ++ (b ++ r) from by simp, List.drop_left' (by simp), List.take_left' rfl]
  simp only
  rw [c, List.length_append]
  simp; omega
end Go.Proofs.YtmigjipfomfacaaDoor
namespace Go.Proofs.YtmigjipfomfacaaDoor
open Go.RowKit
def cmpB : List UInt8 → List UInt8 → Int
  | [], [] => 0
  | [], _ :: _ => -1
  | _ :: _, [] => 1
  | x :: a, y :: b => if x.toNat < y.toNat then -1 else if y.toNat < x.toNat then 1 else cmpB a b
theorem cmpB_self (a : List UInt8) : cmpB a a = 0 := by
  induction a with
  | nil => rfl
  | cons x a ih => unfold cmpB; rw [if_neg (by omega), if_neg (by omega)]; exact ih
theorem cmpB_val (a : List UInt8) : ∀ b, cmpB a b = -1 ∨ cmpB a b = 0 ∨ cmpB a b = 1 := by
  induction a with
  | nil => intro b; cases b <;> simp [cmpB]
  | cons x a ih =>
    intro b
    cases b with
    | nil => simp [cmpB]
    | cons y b =>
      unfold cmpB
      split
      · exact .inl rfl
      · split
        · exact .inr (.inr rfl)
        · exact ih b
theorem cmpB_drop (a b : List UInt8) : ∀ k, a.take k = b.take k → cmpB (a.drop k) (b.drop k) = cmpB a b := by
  intro k
  induction k generalizing a b with
  | zero => intro _; rfl
  | succ k ih =>
    intro h
    cases a with
    | nil =>
      cases b with
      | nil => rfl
      | cons y b => simp at h
    | cons x a =>
      cases b with
      | nil => simp at h
      | cons y b =>
        simp only [List.take_succ_cons, List.cons.injEq] at h
        obtain ⟨rfl, h⟩ := h
        rw [List.drop_succ_cons, List.drop_succ_cons, ih a b h]
        conv => rhs; unfold cmpB
        rw [if_neg (by omega), if_neg (by omega)]
def ordC (c : UInt8) : List UInt8 := if c.toNat = 0 then [0, 255] else [c]
def ordB (l : List UInt8) : List UInt8 := l.flatMap ordC ++ [0, 1]
theorem ordC_len (c : UInt8) : (ordC c).length ≤ 2 ∧ 1 ≤ (ordC c).length := by unfold ordC; split <;> simp
theorem ordF_len (l : List UInt8) : (l.flatMap ordC).length ≤ 2 * l.length := by
  induction l with
  | nil => simp
  | cons c l ih => rw [List.flatMap_cons, List.length_append, List.length_cons]; have := ordC_len c; omega
theorem ordB_len (l : List UInt8) : (ordB l).length ≤ 2 * l.length + 2 := by unfold ordB; rw [List.length_append, show ([0, 1] : List UInt8).length = 2 from rfl]; have := ordF_len l; omega
theorem cmpB_skip (x : UInt8) (a b : List UInt8) : cmpB (x :: a) (x :: b) = cmpB a b := by
  conv => lhs; unfold cmpB
  rw [if_neg (by omega), if_neg (by omega)]
theorem cmpB_lt {x y : UInt8} (h : x.toNat < y.toNat) (a b : List UInt8) : cmpB (x :: a) (y :: b) = -1 := by
  unfold cmpB; rw [if_pos h]
theorem cmpB_gt {x y : UInt8} (h : y.toNat < x.toNat) (a b : List UInt8) : cmpB (x :: a) (y :: b) = 1 := by
  unfold cmpB; rw [if_neg (by omega), if_pos h]
theorem ord_sorts (a : List UInt8) : ∀ b x y : List UInt8, cmpB (ordB a ++ x) (ordB b ++ y) = if cmpB a b = 0 then cmpB x y else cmpB a b := by
  induction a with
  | nil =>
    intro b x y
    cases b with
    | nil =>
      show cmpB (0 :: 1 :: x) (0 :: 1 :: y) = _
      rw [cmpB_skip, cmpB_skip]; rfl
    | cons d b =>
      show cmpB (0 :: 1 :: x) ((ordC d ++ b.flatMap ordC) ++ [0, 1] ++ y) = -1
      unfold ordC
      split
      · show cmpB (0 :: 1 :: x) (0 :: 255 :: _) = -1
        rw [cmpB_skip, cmpB_lt (by decide)]
      · exact cmpB_lt (by show 0 < d.toNat; omega) _ _
  | cons c a ih =>
    intro b x y
    cases b with
    | nil =>
      show cmpB ((ordC c ++ a.flatMap ordC) ++ [0, 1] ++ x) (0 :: 1 :: y) = 1
      unfold ordC
      split
      · show cmpB (0 :: 255 :: _) (0 :: 1 :: y) = 1
        rw [cmpB_skip, cmpB_gt (by decide)]
      · exact cmpB_gt (by show 0 < c.toNat; omega) _ _
    | cons d b =>
      have e1 : ordB (c :: a) ++ x = ordC c ++ (ordB a ++ x) := by unfold ordB; simp
      have e2 : ordB (d :: b) ++ y = ordC d ++ (ordB b ++ y) := by unfold ordB; simp
      rw [e1, e2]
      rcases Nat.lt_trichotomy c.toNat d.toNat with h | h | h
      · rw [cmpB_lt h, if_neg (by decide)]
        unfold ordC
        rw [if_neg (show ¬ d.toNat = 0 by omega)]
        split
        · exact cmpB_lt (by show 0 < d.toNat; omega) _ _
        · exact cmpB_lt h _ _
      · obtain rfl := UInt8.toNat_inj.1 h
        rw [cmpB_skip]
        unfold ordC
        split
        · show cmpB (0 :: 255 :: (ordB a ++ x)) (0 :: 255 :: (ordB b ++ y)) = _
          rw [cmpB_skip, cmpB_skip, ih]
        · show cmpB (c :: (ordB a ++ x)) (c :: (ordB b ++ y)) = _
          rw [cmpB_skip, ih]
      · rw [cmpB_gt h, if_neg (by decide)]
        unfold ordC
        rw [if_neg (show ¬ c.toNat = 0 by omega)]
        split
        · exact cmpB_gt (by show 0 < c.toNat; omega) _ _
        · exact cmpB_gt h _ _
theorem ord_same (a b : List UInt8) : cmpB (ordB a) (ordB b) = cmpB a b := by
  have h := ord_sorts a b [] []
  rw [List.append_nil, List.append_nil] at h
  rw [h]
  split
  · rename_i h0; rw [h0]; rfl
  · rfl
def begB (p q : List UInt8) : Bool := decide (p.length ≤ q.length) && (p == q.take p.length)
theorem ord_begins (a b : List UInt8) (h : cmpB a b ≠ 0) : begB (ordB a) (ordB b) = false := by
  cases hb : begB (ordB a) (ordB b)
  · rfl
  · unfold begB at hb
    simp only [Bool.and_eq_true, decide_eq_true_eq, beq_iff_eq] at hb
    have e : ordB b = ordB a ++ (ordB b).drop (ordB a).length := by
      conv => lhs; rw [← List.take_append_drop (ordB a).length (ordB b), ← hb.2]
    have h1 := ord_sorts a b ((ordB b).drop (ordB a).length) []
    rw [← e, List.append_nil, cmpB_self, if_neg h] at h1
    exact absurd h1.symm h
theorem cmpB_swap (a : List UInt8) : ∀ b, cmpB b a = - cmpB a b := by
  induction a with
  | nil => intro b; cases b <;> rfl
  | cons x a ih =>
    intro b
    cases b with
    | nil => rfl
    | cons y b =>
      rcases Nat.lt_trichotomy x.toNat y.toNat with h | h | h
      · rw [cmpB_lt h, cmpB_gt h]; rfl
      · obtain rfl := UInt8.toNat_inj.1 h
        rw [cmpB_skip, cmpB_skip, ih]
      · rw [cmpB_gt h, cmpB_lt h]
def rTo (v j : Nat) : List UInt8 := (List.range 8).map fun t => if 8 - j ≤ t then UInt8.ofNat (v / 256 ^ (7 - t)) else 0
def risB (v : Nat) : List UInt8 := rTo v 8
theorem rTo_len (v j : Nat) : (rTo v j).length = 8 := by simp [rTo]
theorem rTo_succ (v j : Nat) (hj : j < 8) : rTo v (j + 1) = (rTo v j).set (7 - j) (UInt8.ofNat (v / 256 ^ j)) := by
  apply List.ext_getElem?
  intro t
  rw [List.getElem?_set]
  unfold rTo
  by_cases ht : t < 8
  · rw [List.getElem?_map, List.getElem?_range ht, List.getElem?_map, List.getElem?_range ht]
    simp only [Option.map_some, List.length_map, List.length_range]
    by_cases e : 7 - j = t
    · rw [if_pos e, if_pos (by omega), if_pos (by omega), show 7 - t = j from by omega]
    · rw [if_neg e]
      by_cases h : 8 - j ≤ t
      · rw [if_pos h, if_pos (by omega)]
      · rw [if_neg h, if_neg (by omega)]
  · rw [List.getElem?_eq_none (by simp; omega), if_neg (by omega), List.getElem?_eq_none (by simp; omega)]
def big (l : List UInt8) : Nat := l.foldl (fun a c => a * 256 + c.toNat) 0
theorem big_from (l : List UInt8) : ∀ a, l.foldl (fun a c => a * 256 + c.toNat) a = a * 256 ^ l.length + big l := by
  induction l with
  | nil => intro a; simp [big]
  | cons c l ih =>
    intro a
    rw [List.foldl_cons, ih]
    unfold big
    rw [List.foldl_cons, ih (0 * 256 + c.toNat), List.length_cons, Nat.pow_succ, Nat.add_mul, Nat.add_mul]
    simp only [Nat.zero_mul, Nat.zero_add]
    rw [Nat.mul_assoc, Nat.mul_comm 256]
    unfold big
    omega
theorem big_cons (c : UInt8) (l : List UInt8) : big (c :: l) = c.toNat * 256 ^ l.length + big l := by
  show (c :: l).foldl (fun a c => a * 256 + c.toNat) 0 = _
  rw [List.foldl_cons, big_from]; simp
theorem big_lt (l : List UInt8) : big l < 256 ^ l.length := by
  induction l with
  | nil => simp [big]
  | cons c l ih =>
    rw [big_cons, List.length_cons, Nat.pow_succ]
    have hc := c.toNat_lt
    have h1 : c.toNat ≤ 255 := by omega
    have := Nat.mul_le_mul_right (256 ^ l.length) h1
    omega
theorem cmp_big : ∀ (a b : List UInt8), a.length = b.length → cmpB a b = if big a < big b then -1 else if big b < big a then 1 else 0 := by
  intro a
  induction a with
  | nil =>
    intro b h
    cases b with
    | nil => rfl
    | cons _ _ => cases h
  | cons x a ih =>
    intro b h
    cases b with
    | nil => cases h
    | cons y b =>
      have hl : a.length = b.length := by simpa using h
      have ha := big_lt a
      have hb := big_lt b
      rw [hl] at ha
      rw [big_cons, big_cons, hl]
      rcases Nat.lt_trichotomy x.toNat y.toNat with h1 | h1 | h1
      · have h2 := Nat.mul_le_mul_right (256 ^ b.length) (show x.toNat + 1 ≤ y.toNat from h1)
        rw [Nat.add_mul, Nat.one_mul] at h2
        rw [cmpB_lt h1, if_pos (by omega)]
      · obtain rfl := UInt8.toNat_inj.1 h1
        rw [cmpB_skip, ih b hl]
        by_cases h3 : big a < big b
        · rw [if_pos h3, if_pos (by omega)]
        · by_cases h4 : big b < big a
          · rw [if_neg h3, if_pos h4, if_neg (by omega), if_pos (by omega)]
          · rw [if_neg h3, if_neg h4, if_neg (by omega), if_neg (by omega)]
      · have h2 := Nat.mul_le_mul_right (256 ^ b.length) (show y.toNat + 1 ≤ x.toNat from h1)
        rw [Nat.add_mul, Nat.one_mul] at h2
        rw [cmpB_gt h1, if_neg (by omega), if_pos (by omega)]
theorem risB_big (v : Nat) (h : v < 18446744073709551616) : big (risB v) = v := by
  have e : risB v = [UInt8.ofNat (v / 72057594037927936), UInt8.ofNat (v / 281474976710656), UInt8.ofNat (v / 1099511627776), UInt8.ofNat (v / 4294967296), UInt8.ofNat (v / 16777216), UInt8.ofNat (v / 65536), UInt8.ofNat (v / 256), UInt8.ofNat v] := by
    simp [risB, rTo, List.range_succ]
  rw [e]
  unfold big
  simp only [List.foldl_cons, List.foldl_nil, UInt8.toNat_ofNat']
  omega
theorem ris_sorts (m n : Nat) (hm : m < 18446744073709551616) (hn : n < 18446744073709551616) : cmpB (risB m) (risB n) = if m < n then -1 else if n < m then 1 else 0 := by
  rw [cmp_big _ _ (by unfold risB; rw [rTo_len, rTo_len]), risB_big m hm, risB_big n hn]
end Go.Proofs.YtmigjipfomfacaaDoor
namespace Go.Proofs.YtmigjipfomfacaaDoor
open Go.RowKit
def addO (x : UInt8) (j : Nat) (r : List UInt8 × Nat × Nat) : List UInt8 × Nat × Nat := if r.2.2 = 0 then (x :: r.1, r.2.1 + j, 0) else ([], 0, r.2.2)
def rdO : List UInt8 → List UInt8 × Nat × Nat
  | [] => ([], 0, 10)
  | [_] => ([], 0, 10)
  | c :: d :: t => if c.toNat = 0 then (if d.toNat = 1 then ([], 2, 0) else if d.toNat = 255 then addO 0 2 (rdO t) else ([], 0, 11)) else addO c 1 (rdO (d :: t))
theorem rdO_ne {c : UInt8} (h : c.toNat ≠ 0) (t : List UInt8) : rdO (c :: t) = addO c 1 (rdO t) := by
  cases t with
  | nil => rfl
  | cons d t => conv => lhs; unfold rdO
                rw [if_neg h]
theorem rdO_one {c d : UInt8} (h : c.toNat = 0) (h1 : d.toNat = 1) (t : List UInt8) : rdO (c :: d :: t) = ([], 2, 0) := by
  conv => lhs; unfold rdO
  rw [if_pos h, if_pos h1]
theorem rdO_zero {c d : UInt8} (h : c.toNat = 0) (h1 : d.toNat = 255) (t : List UInt8) : rdO (c :: d :: t) = addO 0 2 (rdO t) := by
  conv => lhs; unfold rdO
  rw [if_pos h, if_neg (by omega), if_pos h1]
theorem rdO_form {c d : UInt8} (h : c.toNat = 0) (h1 : d.toNat ≠ 1) (h2 : d.toNat ≠ 255) (t : List UInt8) : rdO (c :: d :: t) = ([], 0, 11) := by
  conv => lhs; unfold rdO
  rw [if_pos h, if_neg h1, if_neg h2]
theorem ordB_cons (c : UInt8) (s : List UInt8) : ordB (c :: s) = ordC c ++ ordB s := by unfold ordB; simp
theorem ordC_zero : ordC 0 = [0, 255] := rfl
theorem ordC_ne {c : UInt8} (h : c.toNat ≠ 0) : ordC c = [c] := by unfold ordC; rw [if_neg h]
theorem rdO_ord : ∀ (n : Nat) (l : List UInt8), l.length ≤ n → (rdO l).2.2 = 0 → ordB (rdO l).1 = l.take (rdO l).2.1 ∧ (rdO l).2.1 ≤ l.length ∧ 2 ≤ (rdO l).2.1 ∧ (rdO l).1.length ≤ l.length := by
  intro n
  induction n with
  | zero =>
    intro l hl h
    obtain rfl := List.eq_nil_of_length_eq_zero (show l.length = 0 by omega)
    exact absurd h (by decide)
  | succ n ih =>
    intro l hl h
    match l, hl, h with
    | [], _, h => exact absurd h (by decide)
    | [c], _, h => exact absurd h (by show ¬ (10 = 0); decide)
    | c :: d :: t, hl, h =>
      simp only [List.length_cons] at hl
      by_cases hc : c.toNat = 0
      · by_cases h1 : d.toNat = 1
        · rw [rdO_one hc h1]
          obtain rfl := UInt8.toNat_inj.1 (show c.toNat = (0 : UInt8).toNat from hc)
          obtain rfl := UInt8.toNat_inj.1 (show d.toNat = (1 : UInt8).toNat from h1)
          exact ⟨rfl, by simp, by simp, by simp⟩
        · by_cases h2 : d.toNat = 255
          · rw [rdO_zero hc h2] at h ⊢
            have h0 : (rdO t).2.2 = 0 := by unfold addO at h; split at h <;> assumption
            obtain ⟨e1, e2, e3, e4⟩ := ih t (by omega) h0
            obtain rfl := UInt8.toNat_inj.1 (show c.toNat = (0 : UInt8).toNat from hc)
            obtain rfl := UInt8.toNat_inj.1 (show d.toNat = (255 : UInt8).toNat from h2)
            unfold addO
            rw [if_pos h0]
            refine ⟨?_, by simp <;> omega, by simp <;> omega, by simp <;> omega⟩
            show ordB (0 :: (rdO t).1) = _
            rw [ordB_cons, ordC_zero, e1]
            simp
          · rw [rdO_form hc h1 h2] at h
            exact absurd h (by show ¬ (11 = 0); decide)
      · rw [rdO_ne hc] at h ⊢
        have h0 : (rdO (d :: t)).2.2 = 0 := by unfold addO at h; split at h <;> assumption
        obtain ⟨e1, e2, e3, e4⟩ := ih (d :: t) (by simp; omega) h0
        unfold addO
        rw [if_pos h0]
        refine ⟨?_, by simp only [List.length_cons] at e2 ⊢; omega, by show 2 ≤ _ + 1; omega, by simp only [List.length_cons] at e4 ⊢; omega⟩
        show ordB (c :: (rdO (d :: t)).1) = _
        rw [ordB_cons, ordC_ne hc, e1]
        simp
theorem rdO_back (s : List UInt8) : ∀ r, rdO (ordB s ++ r) = (s, (ordB s).length, 0) := by
  induction s with
  | nil => intro r; exact rdO_one rfl rfl r
  | cons c s ih =>
    intro r
    rw [ordB_cons]
    by_cases hc : c.toNat = 0
    · obtain rfl := UInt8.toNat_inj.1 (show c.toNat = (0 : UInt8).toNat from hc)
      rw [ordC_zero]
      show rdO (0 :: 255 :: (ordB s ++ r)) = _
      rw [rdO_zero rfl rfl, ih]
      rfl
    · rw [ordC_ne hc]
      show rdO (c :: (ordB s ++ r)) = _
      rw [rdO_ne hc, ih]
      rfl
theorem rdO_cut (s : List UInt8) : ∀ k, k < (ordB s).length → rdO ((ordB s).take k) = ([], 0, 10) := by
  induction s with
  | nil =>
    intro k hk
    match k, hk with
    | 0, _ => rfl
    | 1, _ => rfl
    | k + 2, hk => exact absurd hk (by show ¬ (k + 2 < 2); omega)
  | cons c s ih =>
    intro k hk
    rw [ordB_cons] at hk ⊢
    by_cases hc : c.toNat = 0
    · obtain rfl := UInt8.toNat_inj.1 (show c.toNat = (0 : UInt8).toNat from hc)
      rw [ordC_zero] at hk ⊢
      match k, hk with
      | 0, _ => rfl
      | 1, _ => rfl
      | k + 2, hk =>
        show rdO (0 :: 255 :: (ordB s).take k) = _
        rw [rdO_zero rfl rfl, ih k (by simp at hk; omega)]
        rfl
    · rw [ordC_ne hc] at hk ⊢
      match k, hk with
      | 0, _ => rfl
      | k + 1, hk =>
        show rdO (c :: (ordB s).take k) = _
        rw [rdO_ne hc, ih k (by simp at hk; omega)]
        rfl
def glO (out : List UInt8) (k : Nat) (r : List UInt8 × Nat × Nat) : List UInt8 × Nat × Nat := if r.2.2 = 0 then (out ++ r.1, k + r.2.1, 0) else ([], 0, r.2.2)
theorem glO_add (out : List UInt8) (k : Nat) (x : UInt8) (j : Nat) (r : List UInt8 × Nat × Nat) : glO out k (addO x j r) = glO (out ++ [x]) (k + j) r := by
  unfold glO addO
  by_cases h : r.2.2 = 0
  · simp [h]; omega
  · simp [h]
def readO (l : List UInt8) (a : Int) : List UInt8 × Nat × Nat := if a < 0 ∨ (l.length : Int) < a then ([], 0, 1) else glO [] a.toNat (rdO (l.drop a.toNat))
theorem readO_in {l : List UInt8} {k : Nat} (h : k ≤ l.length) : readO l (k : Int) = glO [] k (rdO (l.drop k)) := by
  unfold readO; rw [if_neg (by omega)]; rfl
theorem readO_end (l : List UInt8) (a : Int) (h : (readO l a).2.2 = 0) : ordB (readO l a).1 = cutS l a.toNat ((readO l a).2.1 - a.toNat) ∧ (readO l a).2.1 ≤ l.length ∧ 0 ≤ a ∧ a.toNat < (readO l a).2.1 ∧ (readO l a).1.length ≤ l.length := by
  unfold readO at h ⊢
  by_cases ha : a < 0 ∨ (l.length : Int) < a
  · rw [if_pos ha] at h; exact absurd h (by decide)
  · rw [if_neg ha] at h ⊢
    have h0 : (rdO (l.drop a.toNat)).2.2 = 0 := by unfold glO at h; split at h <;> assumption
    obtain ⟨e1, e2, e3, e4⟩ := rdO_ord _ (l.drop a.toNat) (Nat.le_refl _) h0
    unfold glO
    rw [if_pos h0]
    rw [List.length_drop] at e2 e4
    refine ⟨?_, by simp; omega, by omega, by simp; omega, by simp; omega⟩
    show ordB ([] ++ (rdO (l.drop a.toNat)).1) = cutS l a.toNat (a.toNat + (rdO (l.drop a.toNat)).2.1 - a.toNat)
    rw [List.nil_append, e1, Nat.add_sub_cancel_left]
    rfl
theorem readO_back (p s r : List UInt8) : readO (p ++ ordB s ++ r) (p.length : Int) = (s, p.length + (ordB s).length, 0) := by
  rw [readO_in (by simp <;> omega), List.append_assoc, List.drop_left, rdO_back]
  unfold glO
  rw [if_pos rfl, List.nil_append]
theorem readO_cut (s : List UInt8) (k : Nat) (h : k < (ordB s).length) : readO ((ordB s).take k) 0 = ([], 0, 10) := by
  rw [show (0 : Int) = ((0 : Nat) : Int) from rfl, readO_in (by omega), List.drop_zero, rdO_cut s k h]
  rfl
theorem big_snoc (l : List UInt8) (c : UInt8) : big (l ++ [c]) = big l * 256 + c.toNat := by simp [big, List.foldl_append]
theorem big_top {c : UInt8} {t : List UInt8} (hc : c.toNat ≤ 127) (ht : t.length ≤ 6) : big (c :: t) < 36028797018963968 := by
  have h1 := big_lt t
  rw [big_cons]
  have h2 := Nat.pow_le_pow_right (show 0 < 256 by decide) ht
  have h3 : c.toNat * 256 ^ t.length ≤ 127 * 256 ^ t.length := Nat.mul_le_mul_right _ hc
  have h4 : (256 : Nat) ^ 6 = 281474976710656 := by decide
  omega
theorem big_take {l : List UInt8} (h0 : (l[0]?.getD 0).toNat ≤ 127) {j : Nat} (hj : j ≤ 7) : big (l.take j) < 36028797018963968 := by
  cases j with
  | zero => simp [big]
  | succ j =>
    cases l with
    | nil => simp [big]
    | cons c t =>
      rw [List.take_succ_cons]
      exact big_top h0 (by rw [List.length_take]; omega)
theorem or_step (N : Nat) (c : UInt8) (h : N < 36028797018963968) : bits .or .i64 ((N : Int) * 256) (c.toNat : Int) = ((N * 256 + c.toNat : Nat) : Int) := by
  have hc := c.toNat_lt
  rw [show (N : Int) * 256 = ((N * 256 : Nat) : Int) from by omega, i64_or_nat _ _ (by omega) (by omega), shl_or4 N c.toNat 8 hc]
theorem big_risB {l : List UInt8} (h : l.length = 8) : risB (big l) = l := by
  have e : ∀ v, risB v = [UInt8.ofNat (v / 72057594037927936), UInt8.ofNat (v / 281474976710656), UInt8.ofNat (v / 1099511627776), UInt8.ofNat (v / 4294967296), UInt8.ofNat (v / 16777216), UInt8.ofNat (v / 65536), UInt8.ofNat (v / 256), UInt8.ofNat v] := by
    intro v; simp [risB, rTo, List.range_succ]
  match l, h with
  | [x1, x2, x3, x4, x5, x6, x7, x8], _ =>
    rw [e]
    have h1 := x1.toNat_lt; have h2 := x2.toNat_lt; have h3 := x3.toNat_lt; have h4 := x4.toNat_lt; have h5 := x5.toNat_lt; have h6 := x6.toNat_lt; have h7 := x7.toNat_lt; have h8 := x8.toNat_lt
    have hb : big [x1, x2, x3, x4, x5, x6, x7, x8] = ((((((x1.toNat * 256 + x2.toNat) * 256 + x3.toNat) * 256 + x4.toNat) * 256 + x5.toNat) * 256 + x6.toNat) * 256 + x7.toNat) * 256 + x8.toNat := by
      simp [big]
    have q : ∀ (x : UInt8) (v : Nat), v % 256 = x.toNat → UInt8.ofNat v = x := fun x v hv => UInt8.toNat_inj.1 (by rw [UInt8.toNat_ofNat']; exact hv)
    rw [q x1 _ (by rw [hb]; omega), q x2 _ (by rw [hb]; omega), q x3 _ (by rw [hb]; omega), q x4 _ (by rw [hb]; omega), q x5 _ (by rw [hb]; omega), q x6 _ (by rw [hb]; omega), q x7 _ (by rw [hb]; omega), q x8 _ (by rw [hb]; omega)]
def readR (l : List UInt8) (a : Int) : Nat × Nat × Nat :=
  if a < 0 ∨ (l.length : Int) < a then (0, 0, 1) else if l.length < a.toNat + 8 then (0, 0, 10) else if 127 < (l[a.toNat]?.getD 0).toNat then (0, 0, 13) else (big (cutS l a.toNat 8), a.toNat + 8, 0)
theorem big_half {l : List UInt8} (h : l.length = 8) (h0 : (l[0]?.getD 0).toNat ≤ 127) : big l < 9223372036854775808 := by
  match l, h with
  | c :: t, h =>
    have h1 := big_lt t
    have h2 : t.length = 7 := by simpa using h
    have h3 : c.toNat ≤ 127 := h0
    rw [big_cons, h2]
    rw [h2] at h1
    have h4 : (256 : Nat) ^ 7 = 72057594037927936 := by decide
    omega
theorem readR_end (l : List UInt8) (a : Int) (h : (readR l a).2.2 = 0) : risB (readR l a).1 = cutS l a.toNat ((readR l a).2.1 - a.toNat) ∧ (readR l a).2.1 ≤ l.length ∧ 0 ≤ a ∧ a.toNat < (readR l a).2.1 ∧ (readR l a).1 < 9223372036854775808 := by
  unfold readR at h ⊢
  by_cases ha : a < 0 ∨ (l.length : Int) < a
  · rw [if_pos ha] at h; exact absurd h (by decide)
  rw [if_neg ha] at h ⊢
  by_cases hb : l.length < a.toNat + 8
  · rw [if_pos hb] at h; exact absurd h (by decide)
  rw [if_neg hb] at h ⊢
  by_cases hc : 127 < (l[a.toNat]?.getD 0).toNat
  · rw [if_pos hc] at h; exact absurd h (by decide)
  rw [if_neg hc]
  have hl : (cutS l a.toNat 8).length = 8 := by unfold cutS; rw [List.length_take, List.length_drop]; omega
  refine ⟨?_, by show a.toNat + 8 ≤ _; omega, by omega, by show _ < a.toNat + 8; omega, ?_⟩
  · show risB (big (cutS l a.toNat 8)) = cutS l a.toNat (a.toNat + 8 - a.toNat)
    rw [Nat.add_sub_cancel_left, big_risB hl]
  · refine big_half hl ?_
    have e : (cutS l a.toNat 8)[0]? = l[a.toNat]? := by unfold cutS; rw [List.getElem?_take_of_lt (by omega), List.getElem?_drop, Nat.add_zero]
    rw [e]; omega
theorem risB_head (v : Nat) (hv : v < 9223372036854775808) (r : List UInt8) : (((risB v) ++ r)[0]?.getD 0).toNat ≤ 127 := by
  have e : risB v ++ r = UInt8.ofNat (v / 72057594037927936) :: ([UInt8.ofNat (v / 281474976710656), UInt8.ofNat (v / 1099511627776), UInt8.ofNat (v / 4294967296), UInt8.ofNat (v / 16777216), UInt8.ofNat (v / 65536), UInt8.ofNat (v / 256), UInt8.ofNat v] ++ r) := by
    simp [risB, rTo, List.range_succ]
  rw [e]
  show (UInt8.ofNat (v / 72057594037927936)).toNat ≤ 127
  rw [UInt8.toNat_ofNat']; omega
theorem readR_back (p r : List UInt8) (v : Nat) (hv : v < 9223372036854775808) : readR (p ++ risB v ++ r) (p.length : Int) = (v, p.length + 8, 0) := by
  have hl : (risB v).length = 8 := rTo_len v 8
  unfold readR
  rw [if_neg (by simp; omega), Int.toNat_natCast, if_neg (by simp only [List.length_append, hl]; omega)]
  have e : (p ++ risB v ++ r)[p.length]? = (risB v ++ r)[0]? := by rw [List.append_assoc, List.getElem?_append_right (Nat.le_refl _), Nat.sub_self]
  rw [e, if_neg (by have := risB_head v hv r; omega)]
  have c : cutS (p ++ risB v ++ r) p.length 8 = risB v := by unfold cutS; rw [List.append_assoc, List.drop_left, ← hl, List.take_left]
  rw [c, risB_big v (by omega)]
theorem readR_cut (v k : Nat) (h : k < 8) : readR ((risB v).take k) 0 = (0, 0, 10) := by
  have hl : (risB v).length = 8 := rTo_len v 8
  unfold readR
  rw [if_neg (by omega), if_pos (by rw [List.length_take, hl]; show min k 8 < 0 + 8; omega)]
def readFl (l : List UInt8) (a : Int) : Nat × Nat × Nat := if (readR l a).2.2 = 0 then (9223372036854775807 - (readR l a).1, (readR l a).2.1, 0) else (0, 0, (readR l a).2.2)
theorem readFl_end (l : List UInt8) (a : Int) (h : (readFl l a).2.2 = 0) : risB (9223372036854775807 - (readFl l a).1) = cutS l a.toNat ((readFl l a).2.1 - a.toNat) ∧ (readFl l a).2.1 ≤ l.length ∧ 0 ≤ a ∧ a.toNat < (readFl l a).2.1 ∧ (readFl l a).1 < 9223372036854775808 := by
  unfold readFl at h ⊢
  by_cases h0 : (readR l a).2.2 = 0
  · rw [if_pos h0]
    obtain ⟨e1, e2, e3, e4, e5⟩ := readR_end l a h0
    refine ⟨?_, e2, e3, e4, by show 9223372036854775807 - (readR l a).1 < _; omega⟩
    show risB (9223372036854775807 - (9223372036854775807 - (readR l a).1)) = _
    rw [show 9223372036854775807 - (9223372036854775807 - (readR l a).1) = (readR l a).1 from by omega, e1]
  · rw [if_neg h0] at h; exact absurd h h0
theorem readFl_back (p r : List UInt8) (v : Nat) (hv : v < 9223372036854775808) : readFl (p ++ risB (9223372036854775807 - v) ++ r) (p.length : Int) = (v, p.length + 8, 0) := by
  unfold readFl
  rw [readR_back p r _ (by omega), if_pos rfl]
  show (9223372036854775807 - (9223372036854775807 - v), _, _) = _
  rw [show 9223372036854775807 - (9223372036854775807 - v) = v from by omega]
theorem readFl_cut (v k : Nat) (h : k < 8) : readFl ((risB v).take k) 0 = (0, 0, 10) := by
  unfold readFl
  rw [readR_cut v k h, if_neg (by decide)]
end Go.Proofs.YtmigjipfomfacaaDoor
namespace Go.Proofs.YtmigjipfomfacaaDoor
open Go.RowKit
theorem cutS_app (l : List UInt8) {a q p : Nat} (h1 : a ≤ q) (h2 : q ≤ p) : cutS l a (q - a) ++ cutS l q (p - q) = cutS l a (p - a) := by
  unfold cutS
  have e : l.drop q = (l.drop a).drop (q - a) := by rw [List.drop_drop]; congr 1; omega
  rw [e, show p - a = (q - a) + (p - q) from by omega, List.take_add]
theorem rdU_canon : ∀ (l : List UInt8) (i v : Nat), (rdU l i v).2.2 = 0 → ∃ V, (rdU l i v).1 = v + V * 2 ^ (7 * i) ∧ uintB V = l.take ((rdU l i v).2.1 - i) ∧ (V ≠ 0 ∨ i = 0) ∧ i < (rdU l i v).2.1 := by
  intro l
  induction l with
  | nil => intro i v h; cases h
  | cons c r ih =>
    intro i v h
    unfold rdU at h ⊢
    split at h
    · cases h
    · rename_i h1
      rw [if_neg h1]
      split at h
      · rename_i h2
        rw [if_pos h2]
        split at h
        · cases h
        · rename_i h3
          rw [if_neg h3]
          refine ⟨c.toNat, ?_, ?_, by omega, by simp⟩
          · show v + c.toNat % 128 * 2 ^ (7 * i) = _
            rw [Nat.mod_eq_of_lt h2]
          · show uintB c.toNat = (c :: r).take (i + 1 - i)
            rw [Nat.add_sub_cancel_left, uintB_lt h2]
            simp
      · rename_i h2
        rw [if_neg h2]
        obtain ⟨V, e1, e2, e3, e4⟩ := ih _ _ h
        have hc := c.toNat_lt
        refine ⟨c.toNat % 128 + 128 * V, ?_, ?_, by omega, by omega⟩
        · rw [e1, pow7_step, Nat.add_mul, Nat.mul_comm 128 V, Nat.mul_assoc, Nat.add_assoc]
        · rw [uintB_ge (by omega), show (c.toNat % 128 + 128 * V) % 128 + 128 = c.toNat from by omega, show (c.toNat % 128 + 128 * V) / 128 = V from by omega, e2]
          generalize (rdU r (i + 1) (v + c.toNat % 128 * 2 ^ (7 * i))).2.1 = q at e4 ⊢
          rw [show q - i = (q - (i + 1)) + 1 from by omega, List.take_succ_cons]
          congr 1
          exact UInt8.toNat_inj.1 (by rw [UInt8.toNat_ofNat']; omega)
theorem readU_canon (l : List UInt8) (a : Int) (h : (readU l a).2.2 = 0) : uintB (readU l a).1 = cutS l a.toNat ((readU l a).2.1 - a.toNat) := by
  unfold readU at h ⊢
  split at h
  · cases h
  · rename_i h1
    rw [if_neg h1]
    split at h
    · rename_i h2
      rw [if_pos h2]
      obtain ⟨V, e1, e2, _, _⟩ := rdU_canon _ _ _ h2
      show uintB (rdU (l.drop a.toNat) 0 0).1 = cutS l a.toNat (a.toNat + (rdU (l.drop a.toNat) 0 0).2.1 - a.toNat)
      rw [e1, Nat.add_sub_cancel_left]
      simp only [Nat.mul_zero, Nat.pow_zero, Nat.mul_one, Nat.zero_add]
      rw [e2, Nat.sub_zero]
      rfl
    · rename_i h2
      exact absurd h h2
theorem cutS_len (l : List UInt8) {k m : Nat} (h : k + m ≤ l.length) : (cutS l k m).length = m := by unfold cutS; rw [List.length_take, List.length_drop]; omega
theorem readBy_end (l : List UInt8) (a most : Int) (h : (readBy l a most).2.2 = 0) : uintB (readBy l a most).1.length ++ (readBy l a most).1 = cutS l a.toNat ((readBy l a most).2.1 - a.toNat) ∧ (readBy l a most).2.1 ≤ l.length ∧ 0 ≤ a ∧ a.toNat < (readBy l a most).2.1 ∧ (readBy l a most).1.length ≤ l.length := by
  unfold readBy at h ⊢
  split at h
  · cases h
  · rename_i h1
    rw [if_neg h1]
    split at h
    · rename_i h2; exact absurd h h2
    · rename_i h2
      rw [if_neg h2]
      split at h
      · cases h
      · rename_i h3
        rw [if_neg h3]
        split at h
        · cases h
        · rename_i h4
          rw [if_neg h4]
          have hu : (readU l a).2.2 = 0 := by omega
          obtain ⟨e1, e2, e3⟩ := readU_end l a hu
          have e4 := readU_canon l a hu
          generalize readU l a = r at *
          have hl := cutS_len l (k := r.2.1) (m := r.1) (by omega)
          refine ⟨?_, by show r.2.1 + r.1 ≤ _; omega, e2, by show _ < r.2.1 + r.1; omega, by show (cutS l r.2.1 r.1).length ≤ _; omega⟩
          show uintB (cutS l r.2.1 r.1).length ++ cutS l r.2.1 r.1 = cutS l a.toNat (r.2.1 + r.1 - a.toNat)
          rw [hl, e4, ← cutS_app l (a := a.toNat) (q := r.2.1) (p := r.2.1 + r.1) (by omega) (by omega), Nat.add_sub_cancel_left]
theorem be4_num (x2 x3 x4 x5 : UInt8) : be4 (numB x2 x3 x4 x5) = [x2, x3, x4, x5] := by
  have h2 := x2.toNat_lt; have h3 := x3.toNat_lt; have h4 := x4.toNat_lt; have h5 := x5.toNat_lt
  unfold be4 numB
  have q : ∀ (x : UInt8) (v : Nat), v % 256 = x.toNat → UInt8.ofNat v = x := fun x v hv => UInt8.toNat_inj.1 (by rw [UInt8.toNat_ofNat']; exact hv)
  rw [q x2 _ (by omega), q x3 _ (by omega), q x4 _ (by omega), q x5 _ (by omega)]
theorem cut_four (l : List UInt8) (k : Nat) (h : k + 4 ≤ l.length) : cutS l k 4 = [l[k]?.getD 0, l[k + 1]?.getD 0, l[k + 2]?.getD 0, l[k + 3]?.getD 0] := by
  unfold cutS
  apply List.ext_getElem?
  intro i
  match i with
  | 0 => rw [List.getElem?_take_of_lt (by omega), List.getElem?_drop, Nat.add_zero, List.getElem?_eq_getElem (by omega)]; rfl
  | 1 => rw [List.getElem?_take_of_lt (by omega), List.getElem?_drop, List.getElem?_eq_getElem (by omega)]; rfl
  | 2 => rw [List.getElem?_take_of_lt (by omega), List.getElem?_drop, List.getElem?_eq_getElem (by omega)]; rfl
  | 3 => rw [List.getElem?_take_of_lt (by omega), List.getElem?_drop, List.getElem?_eq_getElem (by omega)]; rfl
  | i + 4 => rw [List.getElem?_eq_none (by rw [List.length_take]; omega)]; rfl
theorem be4_cut (l : List UInt8) (k : Nat) (h : k + 4 ≤ l.length) : be4 (numF l k) = cutS l k 4 := by
  rw [cut_four l k h]; exact be4_num _ _ _ _
theorem isB_cut {l : List UInt8} {k s : Nat} (h : ¬ isB l k s = false) : lowB s = cutS l k 4 := by
  unfold isB at h
  rw [Bool.not_eq_false, beq_iff_eq] at h
  exact h.symm
theorem readF_end (l : List UInt8) (k : Nat) (h : (readF l k).2.2 = 0) : frameB (readF l k).1 = cutS l k ((readF l k).2.1 - k) ∧ (readF l k).2.1 ≤ l.length ∧ k < (readF l k).2.1 ∧ (readF l k).1.length ≤ 1048576 := by
  unfold readF at h ⊢
  by_cases h1 : l.length < k + 8
  · rw [if_pos h1] at h; exact absurd h (by decide)
  rw [if_neg h1] at h ⊢
  by_cases h2 : isB l (k + 4) (sumL (cutF l k 4)) = false
  · rw [if_pos h2] at h; exact absurd h (by decide)
  rw [if_neg h2] at h ⊢
  by_cases h3 : 1048576 < numF l k
  · rw [if_pos h3] at h; exact absurd h (by decide)
  rw [if_neg h3] at h ⊢
  by_cases h4 : l.length < k + 8 + numF l k + 4
  · rw [if_pos h4] at h; exact absurd h (by decide)
  rw [if_neg h4] at h ⊢
  by_cases h5 : isB l (k + 8 + numF l k) (sumL (cutF l (k + 8) (numF l k))) = false
  · rw [if_pos h5] at h; exact absurd h (by decide)
  rw [if_neg h5]
  have b1 := be4_cut l k (by omega)
  have b2 := isB_cut h2
  have b3 := isB_cut h5
  generalize numF l k = m at *
  have hl : (cutF l (k + 8) m).length = m := cutS_len l (by omega)
  refine ⟨?_, by show k + 8 + m + 4 ≤ _; omega, by show k < k + 8 + m + 4; omega, by show (cutF l (k + 8) m).length ≤ _; omega⟩
  show frameB (cutF l (k + 8) m) = cutS l k (k + 8 + m + 4 - k)
  unfold frameB headF
  rw [hl, b1, b3, show lowB (sumL (cutS l k 4)) = cutS l (k + 4) 4 from b2]
  show cutS l k 4 ++ cutS l (k + 4) 4 ++ cutS l (k + 8) m ++ cutS l (k + 8 + m) 4 = _
  have a1 := cutS_app l (a := k) (q := k + 4) (p := k + 8) (by omega) (by omega)
  have a2 := cutS_app l (a := k) (q := k + 8) (p := k + 8 + m) (by omega) (by omega)
  have a3 := cutS_app l (a := k) (q := k + 8 + m) (p := k + 8 + m + 4) (by omega) (by omega)
  rw [show k + 4 - k = 4 from by omega, show k + 8 - (k + 4) = 4 from by omega] at a1
  rw [show k + 8 + m - (k + 8) = m from by omega] at a2
  rw [show k + 8 + m + 4 - (k + 8 + m) = 4 from by omega] at a3
  rw [a1, a2, a3]
theorem readFA_end (l : List UInt8) (a : Int) (h : (readFA l a).2.2 = 0) : frameB (readFA l a).1 = cutS l a.toNat ((readFA l a).2.1 - a.toNat) ∧ (readFA l a).2.1 ≤ l.length ∧ 0 ≤ a ∧ a.toNat < (readFA l a).2.1 ∧ (readFA l a).1.length ≤ 1048576 := by
  unfold readFA at h ⊢
  by_cases h1 : a < 0 ∨ (l.length : Int) < a
  · rw [if_pos h1] at h; exact absurd h (by decide)
  rw [if_neg h1] at h ⊢
  obtain ⟨e1, e2, e3, e4⟩ := readF_end l a.toNat h
  exact ⟨e1, e2, by omega, e3, e4⟩
end Go.Proofs.YtmigjipfomfacaaDoor
namespace Go.Proofs.YtmigjipfomfacaaDoor
open Go.RowKit
structure Ent where
  row : List UInt8
  fam : Int
  qual : List UInt8
  ts : Int
  seq : Int
  kind : Int
  val : List UInt8
def checkN (r : Nat) (f : Int) (q : Nat) (t s k : Int) (v : Nat) : Int :=
  if r < 1 ∨ 256 < r then 20 else if f < 0 ∨ 7 < f then 21 else if 256 < q ∨ (k = 5 ∧ 0 < q) then 22 else if t < 1 ∨ 1099511627776 < t then 23
  else if s < 0 ∨ 17592186044431 < s then 24 else if k < 1 ∨ 5 < k then 25 else if 4096 < v ∨ (k ≠ 1 ∧ 0 < v) then 26 else 0
def checkE (e : Ent) : Int := checkN e.row.length e.fam e.qual.length e.ts e.seq e.kind e.val.length
structure OkE (e : Ent) : Prop where
  row : 1 ≤ e.row.length ∧ e.row.length ≤ 256
  fam : 0 ≤ e.fam ∧ e.fam ≤ 7
  qual : e.qual.length ≤ 256 ∧ (e.kind = 5 → e.qual = [])
  ts : 1 ≤ e.ts ∧ e.ts ≤ 1099511627776
  seq : 0 ≤ e.seq ∧ e.seq ≤ 17592186044431
  kind : 1 ≤ e.kind ∧ e.kind ≤ 5
  val : e.val.length ≤ 4096 ∧ (e.kind ≠ 1 → e.val = [])
theorem checkN_ok {r : Nat} {f : Int} {q : Nat} {t s k : Int} {v : Nat} (h : checkN r f q t s k v = 0) :
    ¬ (r < 1 ∨ 256 < r) ∧ ¬ (f < 0 ∨ 7 < f) ∧ ¬ (256 < q ∨ (k = 5 ∧ 0 < q)) ∧ ¬ (t < 1 ∨ 1099511627776 < t) ∧ ¬ (s < 0 ∨ 17592186044431 < s) ∧ ¬ (k < 1 ∨ 5 < k) ∧ ¬ (4096 < v ∨ (k ≠ 1 ∧ 0 < v)) := by
  unfold checkN at h
  repeat' split at h
  all_goals first | exact absurd h (by decide) | exact ⟨by assumption, by assumption, by assumption, by assumption, by assumption, by assumption, by assumption⟩
theorem ok_of {e : Ent} (h : checkE e = 0) : OkE e := by
  obtain ⟨h1, h2, h3, h4, h5, h6, h7⟩ := checkN_ok h
  refine ⟨by omega, by omega, ⟨by omega, fun hk => List.eq_nil_of_length_eq_zero ?_⟩, by omega, by omega, by omega, ⟨by omega, fun hk => List.eq_nil_of_length_eq_zero ?_⟩⟩
  · have := fun hp => h3 (.inr ⟨hk, hp⟩); omega
  · have := fun hp => h7 (.inr ⟨hk, hp⟩); omega
theorem of_ok {e : Ent} (h : OkE e) : checkE e = 0 := by
  obtain ⟨h1, h2, ⟨h3, h3'⟩, h4, h5, h6, h7, h7'⟩ := h
  unfold checkE checkN
  rw [if_neg (by omega), if_neg (by omega), if_neg, if_neg (by omega), if_neg (by omega), if_neg (by omega), if_neg]
  · rintro (h | ⟨h, h'⟩)
    · omega
    · rw [h7' h] at h'; simp at h'
  · rintro (h | ⟨h, h'⟩)
    · omega
    · rw [h3' h] at h'; simp at h'
def seqC (a b : Int) : Int := if a = 0 then b else a
def cmpI (a b : Int) : Int := if a < b then -1 else if b < a then 1 else 0
def firstI (x y : Bool) : Int := if x = y then 0 else if x then -1 else 1
def cmpE (a b : Ent) : Int :=
  seqC (cmpB a.row b.row) (seqC (cmpI a.fam b.fam) (seqC (firstI (a.kind == 5) (b.kind == 5)) (seqC (cmpB a.qual b.qual) (seqC (firstI (a.kind == 4) (b.kind == 4))
    (seqC (cmpI b.ts a.ts) (seqC (cmpI b.seq a.seq) (cmpI a.kind b.kind)))))))
structure Ord3 (c : Ent → Ent → Int) : Prop where
  swap : ∀ a b, c b a = - c a b
  trans : ∀ a b d, c a b ≤ 0 → c b d ≤ 0 → c a d ≤ 0
  eq : ∀ a b d, c a b = 0 → c a d = c b d
theorem Ord3.seq {c1 c2 : Ent → Ent → Int} (h1 : Ord3 c1) (h2 : Ord3 c2) : Ord3 fun a b => seqC (c1 a b) (c2 a b) := by
  refine ⟨fun a b => ?_, fun a b d hab hbd => ?_, fun a b d hab => ?_⟩
  · have e1 := h1.swap a b; have e2 := h2.swap a b
    simp only [seqC, e1, e2]
    split <;> split <;> omega
  · simp only [seqC] at hab hbd ⊢
    have q1 : c1 a b ≤ 0 := by split at hab <;> omega
    have q2 : c1 b d ≤ 0 := by split at hbd <;> omega
    have q3 := h1.trans a b d q1 q2
    by_cases h0 : c1 a d = 0
    · have e1 := h1.eq a d b h0
      have e2 := h1.swap b d
      have z1 : c1 a b = 0 := by omega
      have z2 : c1 b d = 0 := by omega
      rw [if_pos z1] at hab
      rw [if_pos z2] at hbd
      rw [if_pos h0]
      exact h2.trans a b d hab hbd
    · rw [if_neg h0]; exact q3
  · simp only [seqC] at hab ⊢
    have z1 : c1 a b = 0 := by split at hab <;> omega
    rw [if_pos z1] at hab
    rw [h1.eq a b d z1, h2.eq a b d hab]
theorem cmpB_zero : ∀ a b : List UInt8, cmpB a b = 0 → a = b := by
  intro a
  induction a with
  | nil => intro b h; cases b with
    | nil => rfl
    | cons y b => simp [cmpB] at h
  | cons x a ih =>
    intro b h
    cases b with
    | nil => simp [cmpB] at h
    | cons y b =>
      unfold cmpB at h
      split at h
      · exact absurd h (by decide)
      · split at h
        · exact absurd h (by decide)
        · rw [ih b h, show x = y from UInt8.toNat_inj.1 (by omega)]
theorem cmpB_trans : ∀ a b d : List UInt8, cmpB a b ≤ 0 → cmpB b d ≤ 0 → cmpB a d ≤ 0 := by
  intro a
  induction a with
  | nil => intro b d _ _; cases d <;> simp [cmpB]
  | cons x a ih =>
    intro b d h1 h2
    cases b with
    | nil => simp [cmpB] at h1
    | cons y b =>
      cases d with
      | nil => simp [cmpB] at h2
      | cons z d =>
        unfold cmpB at h1 h2 ⊢
        split at h1
        · split at h2
          · rw [if_pos (by omega)]; decide
          · split at h2
            · exact absurd h2 (by decide)
            · rw [if_pos (by omega)]; decide
        · split at h1
          · exact absurd h1 (by decide)
          · split at h2
            · rw [if_pos (by omega)]; decide
            · split at h2
              · exact absurd h2 (by decide)
              · rw [if_neg (by omega), if_neg (by omega)]; exact ih b d h1 h2
theorem ord_bytes (f : Ent → List UInt8) : Ord3 fun a b => cmpB (f a) (f b) :=
  ⟨fun a b => cmpB_swap _ _, fun a b d h1 h2 => cmpB_trans _ _ _ h1 h2, fun a b d h => by show cmpB (f a) (f d) = cmpB (f b) (f d); rw [cmpB_zero _ _ h]⟩
theorem ord_int (f : Ent → Int) : Ord3 fun a b => cmpI (f a) (f b) :=
  ⟨fun a b => by simp only [cmpI]; (repeat' split) <;> omega, fun a b d h1 h2 => by simp only [cmpI] at *; (repeat' split) <;> (repeat' split at h1) <;> (repeat' split at h2) <;> omega,
    fun a b d h => by simp only [cmpI] at *; (repeat' split) <;> (repeat' split at h) <;> omega⟩
theorem ord_tni (f : Ent → Int) : Ord3 fun a b => cmpI (f b) (f a) :=
  ⟨fun a b => by simp only [cmpI]; (repeat' split) <;> omega, fun a b d h1 h2 => by simp only [cmpI] at *; (repeat' split) <;> (repeat' split at h1) <;> (repeat' split at h2) <;> omega,
    fun a b d h => by simp only [cmpI] at *; (repeat' split) <;> (repeat' split at h) <;> omega⟩
theorem ord_first (f : Ent → Bool) : Ord3 fun a b => firstI (f a) (f b) :=
  ⟨fun a b => by cases f a <;> cases f b <;> decide, fun a b d => by cases f a <;> cases f b <;> cases f d <;> decide, fun a b d => by cases f a <;> cases f b <;> cases f d <;> decide⟩
theorem ord_E : Ord3 cmpE :=
  (ord_bytes Ent.row).seq ((ord_int Ent.fam).seq ((ord_first fun e => e.kind == 5).seq ((ord_bytes Ent.qual).seq ((ord_first fun e => e.kind == 4).seq
    ((ord_tni Ent.ts).seq ((ord_tni Ent.seq).seq (ord_int Ent.kind)))))))
theorem cmpE_self (a : Ent) : cmpE a a = 0 := by have := ord_E.swap a a; omega
def flg (b : Bool) : UInt8 := if b then 0 else 1
def numK (t : Int) : List UInt8 := risB (9223372036854775807 - t.toNat)
def qualK (e : Ent) : List UInt8 := if e.kind = 5 then [] else ordB e.qual ++ [flg (e.kind == 4)]
def tailK (e : Ent) : List UInt8 := numK e.ts ++ (numK e.seq ++ [UInt8.ofNat e.kind.toNat])
def keyE (e : Ent) : List UInt8 := ordB e.row ++ (UInt8.ofNat e.fam.toNat :: flg (e.kind == 5) :: (qualK e ++ tailK e))
theorem risB_len (v : Nat) : (risB v).length = 8 := rTo_len v 8
theorem cmpB_cc (c d : UInt8) (x y : List UInt8) : cmpB (c :: x) (d :: y) = if c.toNat < d.toNat then -1 else if d.toNat < c.toNat then 1 else cmpB x y := by rw [cmpB]
theorem cmp_app : ∀ (a b : List UInt8), a.length = b.length → ∀ x y, cmpB (a ++ x) (b ++ y) = seqC (cmpB a b) (cmpB x y)
  | [], [], _, x, y => by simp [seqC, cmpB]
  | [], _ :: _, h, _, _ => by simp at h
  | _ :: _, [], h, _, _ => by simp at h
  | c :: a, d :: b, h, x, y => by
    have ih := cmp_app a b (by simpa using h) x y
    rw [List.cons_append, List.cons_append, cmpB_cc, cmpB_cc]
    split
    · rfl
    · split
      · rfl
      · exact ih
theorem cmp_ord (a b x y : List UInt8) : cmpB (ordB a ++ x) (ordB b ++ y) = seqC (cmpB a b) (cmpB x y) := ord_sorts a b x y
theorem cmp_one (c d : UInt8) (x y : List UInt8) : cmpB (c :: x) (d :: y) = seqC (cmpI c.toNat d.toNat) (cmpB x y) := by
  rw [cmpB_cc]
  unfold cmpI seqC
  by_cases h1 : c.toNat < d.toNat
  · have h1' : (c.toNat : Int) < d.toNat := by omega
    simp only [if_pos h1, if_pos h1']; rfl
  · have h1' : ¬ (c.toNat : Int) < d.toNat := by omega
    simp only [if_neg h1, if_neg h1']
    by_cases h2 : d.toNat < c.toNat
    · have h2' : (d.toNat : Int) < c.toNat := by omega
      simp only [if_pos h2, if_pos h2']; rfl
    · have h2' : ¬ (d.toNat : Int) < c.toNat := by omega
      simp only [if_neg h2, if_neg h2']; rfl
theorem byte_val {t : Int} (h0 : 0 ≤ t) (h1 : t ≤ 255) : ((UInt8.ofNat t.toNat).toNat : Int) = t := by
  rw [UInt8.toNat_ofNat']; omega
theorem cmp_num {a b : Int} (ha : 0 ≤ a) (hb : 0 ≤ b) (ha' : a ≤ 17592186044431) (hb' : b ≤ 17592186044431) : cmpB (numK a) (numK b) = cmpI b a := by
  unfold numK cmpI
  rw [ris_sorts _ _ (by omega) (by omega)]
  by_cases h1 : b < a
  · rw [if_pos h1, if_pos (by omega)]
  · rw [if_neg h1, if_neg (by omega)]
    by_cases h2 : a < b
    · rw [if_pos h2, if_pos (by omega)]
    · rw [if_neg h2, if_neg (by omega)]
theorem cmp_flg (x y : Bool) : cmpI (flg x).toNat (flg y).toNat = firstI x y := by cases x <;> cases y <;> decide
theorem seqC_zero (a : Int) : seqC a 0 = a := by unfold seqC; split <;> omega
theorem seqC_assoc (a b c : Int) : seqC (seqC a b) c = seqC a (seqC b c) := by unfold seqC; (repeat' split) <;> omega
theorem tail_sorts {a b : Ent} (ha : OkE a) (hb : OkE b) : cmpB (tailK a) (tailK b) = seqC (cmpI b.ts a.ts) (seqC (cmpI b.seq a.seq) (cmpI a.kind b.kind)) := by
  have t1 := ha.ts; have t2 := hb.ts; have s1 := ha.seq; have s2 := hb.seq; have k1 := ha.kind; have k2 := hb.kind
  unfold tailK
  rw [cmp_app _ _ (by unfold numK; rw [risB_len, risB_len]), cmp_app _ _ (by unfold numK; rw [risB_len, risB_len]), cmp_num (by omega) (by omega) (by omega) (by omega), cmp_num (by omega) (by omega) (by omega) (by omega),
    cmp_one, byte_val (by omega) (by omega), byte_val (by omega) (by omega), show cmpB ([] : List UInt8) [] = 0 from rfl, seqC_zero]
theorem key_sorts {a b : Ent} (ha : OkE a) (hb : OkE b) : cmpB (keyE a) (keyE b) = cmpE a b := by
  have f1 := ha.fam; have f2 := hb.fam
  have hq : seqC (firstI (a.kind == 5) (b.kind == 5)) (cmpB (qualK a ++ tailK a) (qualK b ++ tailK b)) =
      seqC (firstI (a.kind == 5) (b.kind == 5)) (seqC (cmpB a.qual b.qual) (seqC (firstI (a.kind == 4) (b.kind == 4)) (cmpB (tailK a) (tailK b)))) := by
    unfold qualK
    by_cases h1 : a.kind = 5
    · by_cases h2 : b.kind = 5
      · rw [if_pos h1, if_pos h2, ha.qual.2 h1, hb.qual.2 h2, h1, h2]
        simp [seqC, firstI, cmpB]
      · rw [show (a.kind == 5) = true from by simpa using h1, show (b.kind == 5) = false from by simpa using h2]
        simp [seqC, firstI]
    · by_cases h2 : b.kind = 5
      · rw [show (a.kind == 5) = false from by simpa using h1, show (b.kind == 5) = true from by simpa using h2]
        simp [seqC, firstI]
      · rw [if_neg h1, if_neg h2, List.append_assoc, List.append_assoc, cmp_ord, List.singleton_append, List.singleton_append, cmp_one, cmp_flg]
  unfold keyE cmpE
  rw [cmp_ord, cmp_one, cmp_one, cmp_flg, byte_val (by omega) (by omega), byte_val (by omega) (by omega), hq, tail_sorts ha hb]
theorem numK_len (t : Int) : (numK t).length = 8 := risB_len _
theorem tailK_len (e : Ent) : (tailK e).length = 17 := by unfold tailK; simp [numK_len]
theorem qualK_len (e : Ent) : (qualK e).length ≤ 2 * e.qual.length + 3 := by
  unfold qualK
  split
  · simp
  · have := ordB_len e.qual; simp; omega
theorem keyE_len {e : Ent} (h : OkE e) : (keyE e).length ≤ 1048 := by
  have h1 := ordB_len e.row; have h2 := qualK_len e; have h3 := tailK_len e; have h4 := h.row; have h5 := h.qual.1
  unfold keyE
  simp only [List.length_append, List.length_cons]
  omega
theorem keyE_len2 (e : Ent) : (keyE e).length ≤ 2 * e.row.length + 2 * e.qual.length + 24 := by
  have h1 := ordB_len e.row; have h2 := qualK_len e; have h3 := tailK_len e
  unfold keyE
  simp only [List.length_append, List.length_cons]
  omega
def KeyE (e : Ent) : List UInt8 × Int := if checkE e = 0 then (keyE e, 0) else ([], checkE e)
end Go.Proofs.YtmigjipfomfacaaDoor
namespace Go.Proofs.YtmigjipfomfacaaDoor
open Go.RowKit
section
variable {P : Program} {w : World}
theorem run_string_RB {B n : Nat} {A : Option Addr} {l : List UInt8} (c : Nat) (h : RB w B A n l) {src dst e : TypeId} (hs : P.underlying src = some (.slice e)) (he : P.underlying e = some (.int .u8)) (hd : P.underlying dst = some .string) :
    (convert src dst (.slice A n c)).run P w = .ok (.string ⟨l.toArray⟩) w := by
  have hl := h.len
  cases A with
  | none =>
    have hn : n = 0 := by
      rcases Nat.eq_zero_or_pos n with h0 | h0
      · exact h0
      · obtain ⟨_, _, e, _⟩ := h.2 h0
        cases e
    have hl0 : l = [] := List.eq_nil_of_length_eq_zero (by omega)
    subst hl0
    rw [run_convert_bytes_string w src dst e none n c hs he hd]
    rfl
  | some ad =>
    subst hl
    refine run_convert_bytes_back w src dst e ad c l hs he hd fun j hj => ?_
    obtain ⟨b, o, e, _, hc⟩ := h.2 (by omega)
    injection e with e
    subst e
    have := hc j _ (u8s_at (List.getElem?_eq_getElem hj))
    unfold Addr.add
    split
    · rename_i h0; subst h0; exact this
    · exact this
theorem bytes_reads (s : ByteArray) (cap : Nat) (t : TypeId) (fr : Nat × Nat) : RB (w.alloc (.cells (bytesRow s cap) t fr)) (w.heap.size + 1) (some ⟨w.heap.size, 0, none⟩) s.size s.data.toList := by
  refine RB.mk' (by rw [Array.length_toList]; rfl) fun _ => ⟨w.heap.size, 0, rfl, by omega, fun j c hj => ?_⟩
  rw [Nat.zero_add, World.cell?_alloc_mark]
  have hlt : j < s.data.size := by
    have := (List.getElem?_eq_some_iff.1 hj).1
    simpa using this
  rw [bytesRow_at s cap j hlt]
  rw [Array.getElem?_toList, Array.getElem?_eq_getElem hlt] at hj
  injection hj with hj
  rw [hj]
variable {ops : Array Oper} {rest : List Oper} {o : Oper} {a : Act} {Q : Exit → Act → World → Prop}
theorem wpList_string_reads (hg : o.guard = none) (x : Operand) (src dst e : TypeId) (hop : o.op = Op.convert src dst x) (hs : P.underlying src = some (.slice e)) (he : P.underlying e = some (.int .u8)) (hd : P.underlying dst = some .string)
    {B n c : Nat} {A : Option Addr} {l : List UInt8} (hx : a.eval x = .slice A n c) (h : RB w B A n l)
    (hK : wpList P ops Q rest (a.put o.dst (.string ⟨l.toArray⟩)) w) : wpList P ops Q (o :: rest) a w := by
  refine wpList_plain hg fun K' hK' => ?_
  have hrun := run_string_RB (P := P) (w := w) c h hs he hd
  unfold Oper.wp
  simp [execOp, hop, hx, hrun, Result.andThen]
  exact hK' _ _ hK
theorem wpList_bytes_of (hg : o.guard = none) (x : Operand) (src dst e : TypeId) (hop : o.op = Op.convert src dst x) (hs : P.underlying src = some .string) (hd : P.underlying dst = some (.slice e)) (he : P.underlying e = some (.int .u8))
    (s : ByteArray) (hx : a.eval x = .string s)
    (hK : ∀ cap w', RB w' w'.heap.size (some ⟨w.heap.size, 0, none⟩) s.size s.data.toList → w.grownBy w' none → w'.heap.size = w.heap.size + 1 → wpList P ops Q rest (a.put o.dst (.slice (some ⟨w.heap.size, 0, none⟩) s.size cap)) w') :
    wpList P ops Q (o :: rest) a w := by
  refine wpList_plain hg fun K' hK' => ?_
  have hrun := run_bytes_of_string (P := P) w src dst e s hs hd he
  unfold Oper.wp
  simp [execOp, hop, hx, hrun, Result.andThen]
  refine hK' _ _ (hK _ _ ?_ (by have h := World.grownBy_alloc w.drew (.cells (bytesRow s (grownCap w s.size 0 e)) e ((bytesRow s (grownCap w s.size 0 e)).size, (bytesRow s (grownCap w s.size 0 e)).size + 1)) none; exact ⟨h.os, h.tape, h.output, h.size, h.block⟩) (by simp))
  have := bytes_reads (w := w.drew) s (grownCap w s.size 0 e) e ((bytesRow s (grownCap w s.size 0 e)).size, (bytesRow s (grownCap w s.size 0 e)).size + 1)
  simpa using this
end
end Go.Proofs.YtmigjipfomfacaaDoor
namespace Go.Proofs.YtmigjipfomfacaaDoor
open Go.RowKit
def KV (w : World) (B : Nat) (vs : List Value) (ks : List (List UInt8)) : Prop :=
  vs.length = ks.length ∧ ∀ (i : Nat) (k : List UInt8), ks[i]? = some k → ∃ (a : Option Addr) (c : Nat), vs[i]? = some (.slice a k.length c) ∧ k.length ≤ c ∧ c ≤ 9223372036854775807 ∧ (a = none → c = 0) ∧ RB w B a k.length k
section
variable {w w' : World} {B B' n : Nat} {A : Option Addr} {vs us : List Value} {ks js : List (List UInt8)}
theorem RBs.kv (h : RBs w B A n ks) : ∃ vs, Reads w B 1 A n vs ∧ KV w B vs ks := by
  obtain ⟨vs, h1, h2, h3⟩ := h
  exact ⟨vs, h1, h2, h3⟩
theorem KV.rbs (h : KV w B vs ks) (hr : Reads w B 1 A n vs) : RBs w B A n ks := ⟨vs, hr, h.1, h.2⟩
theorem KV.nil : KV w B [] [] := ⟨rfl, fun i k h => by simp at h⟩
theorem KV.below (h : KV w B vs ks) (hb : Below B w w') : KV w' B vs ks :=
  ⟨h.1, fun i k hk => by obtain ⟨a, c, q1, q2, q3, q4, q5⟩ := h.2 i k hk; exact ⟨a, c, q1, q2, q3, q4, q5.below hb⟩⟩
theorem KV.more (h : KV w B vs ks) (hB : B ≤ B') : KV w B' vs ks :=
  ⟨h.1, fun i k hk => by obtain ⟨a, c, q1, q2, q3, q4, q5⟩ := h.2 i k hk; exact ⟨a, c, q1, q2, q3, q4, q5.more hB⟩⟩
theorem KV.later (h : KV w w.heap.size vs ks) (hb : Below w.heap.size w w') : KV w' w'.heap.size vs ks := (h.below hb).more hb.size
theorem KV.app (h : KV w B vs ks) (h' : KV w B us js) : KV w B (vs ++ us) (ks ++ js) := by
  refine ⟨by rw [List.length_append, List.length_append, h.1, h'.1], fun i k hk => ?_⟩
  rw [List.getElem?_append] at hk ⊢
  rw [h.1]
  split at hk
  · rename_i hi
    rw [if_pos hi]
    exact h.2 i k hk
  · rename_i hi
    rw [if_neg hi]
    exact h'.2 _ k hk
theorem KV.take (h : KV w B vs ks) (m : Nat) : KV w B (vs.take m) (ks.take m) := by
  refine ⟨by rw [List.length_take, List.length_take, h.1], fun i k hk => ?_⟩
  rw [List.getElem?_take] at hk ⊢
  split at hk
  · rename_i hi
    rw [if_pos hi]; exact h.2 i k hk
  · cases hk
theorem KV.drop (h : KV w B vs ks) (m : Nat) : KV w B (vs.drop m) (ks.drop m) := by
  refine ⟨by rw [List.length_drop, List.length_drop, h.1], fun i k hk => ?_⟩
  rw [List.getElem?_drop] at hk ⊢
  exact h.2 _ k hk
theorem KV.cons {v : Value} {k : List UInt8} (h : KV w B vs ks) (hv : ∃ (a : Option Addr) (c : Nat), v = .slice a k.length c ∧ k.length ≤ c ∧ c ≤ 9223372036854775807 ∧ (a = none → c = 0) ∧ RB w B a k.length k) : KV w B (v :: vs) (k :: ks) := by
  refine ⟨by simp [h.1], fun i x hx => ?_⟩
  cases i with
  | zero =>
    injection hx with hx; subst hx
    obtain ⟨a, c, rfl, q⟩ := hv
    exact ⟨a, c, rfl, q⟩
  | succ i => exact h.2 i x hx
theorem KV.one (h : KV w B vs ks) : ∀ u ∈ vs, u.oneCell' = true := by
  intro u hu
  obtain ⟨i, hi⟩ := List.getElem?_of_mem hu
  have hlt := (List.getElem?_eq_some_iff.1 hi).1
  obtain ⟨a, c, q, _⟩ := h.2 i _ (List.getElem?_eq_getElem (by rw [← h.1]; exact hlt))
  rw [q] at hi
  injection hi with hi
  subst hi; rfl
theorem Reads.drop1 (h : Reads w B 1 A n vs) {k cap : Nat} (hk : k ≤ n) (hc : n ≤ cap) : Reads w B 1 (if cap = k then A else A.map (·.add k)) (n - k) (vs.drop k) := by
  refine ⟨by rw [List.length_drop, h.1]; omega, fun hn => ?_⟩
  obtain ⟨b, o, rfl, hb, hcell⟩ := h.2 (by omega)
  rw [if_neg (by omega)]
  refine ⟨b, o + k, ?_, hb, fun j u hj => ?_⟩
  · simp only [Option.map_some]
    unfold Addr.add
    split
    · rename_i h0; subst h0; rfl
    · rfl
  · rw [Nat.add_assoc]
    rw [List.getElem?_drop] at hj
    exact hcell _ _ hj
theorem Reads.take1 (h : Reads w B 1 A n vs) {m : Nat} (hm : m ≤ n) : Reads w B 1 A m (vs.take m) := by
  have := Reads.take h hm
  rwa [Nat.mul_one] at this
end
theorem own_slice {w : World} {base e size n : Nat} {v : Value} {xs : List Value} (h : w.ownsRow base e size v n xs) :
    ∃ (A : Option Addr) (c : Nat), v = .slice A n c ∧ n ≤ c ∧ c ≤ maxLen ∧ (A = none → c = 0) ∧ Reads w w.heap.size size A n xs := by
  rcases h.2 with ⟨rfl, h0⟩ | ⟨g, cap, cur, hv, hb, hg, hc, hm, _⟩
  · subst h0
    exact ⟨none, 0, rfl, Nat.le_refl _, Nat.zero_le _, fun _ => rfl, Reads.own h⟩
  · subst hv
    exact ⟨_, cap, rfl, hc, hm, (fun e => nomatch e), Reads.own h⟩
theorem own_nil (w : World) (base e size : Nat) : w.ownsRow base e size (.slice none 0 0) 0 [] := ⟨by simp, .inl ⟨rfl, rfl⟩⟩
end Go.Proofs.YtmigjipfomfacaaDoor
namespace Go.Proofs.YtmigjipfomfacaaDoor
open Go.RowKit
def OwnB (T : TypeId) (base : Nat) (w : World) (A : Option Addr) (c : Nat) (l : List UInt8) : Prop := w.ownsRow base T 1 (.slice A l.length c) l.length (u8s l)
section
variable {T : TypeId} {base B : Nat} {w w' : World} {A : Option Addr} {c n : Nat} {l : List UInt8}
theorem OwnB.rb (h : OwnB T base w A c l) : RB w w.heap.size A l.length l := RB.own h
theorem OwnB.later (h : OwnB T base w A c l) (hb : Below w.heap.size w w') : OwnB T base w' A c l := own_below h hb
theorem OwnB.rebase {base' : Nat} (h : OwnB T base w A c l) (hb : base' ≤ base) : OwnB T base' w A c l := by
  refine ⟨h.1, ?_⟩
  rcases h.2 with h' | ⟨g, cap, cur, h1, h2, h3⟩
  · exact .inl h'
  · exact .inr ⟨g, cap, cur, h1, Nat.le_trans hb h2, h3⟩
theorem OwnB.cap (h : OwnB T base w A c l) : l.length ≤ c ∧ c ≤ maxLen ∧ (A = none → c = 0) := by
  obtain ⟨A', c', e, h1, h2, h3, _⟩ := own_slice h
  injection e with e1 _ e2
  subst e1; subst e2
  exact ⟨h1, h2, h3⟩
theorem own_bytes {v : Value} (h : w.ownsRow base T 1 v n (u8s l)) : ∃ A c, v = .slice A l.length c ∧ OwnB T base w A c l := by
  have hn : l.length = n := by have := h.1; rw [u8s_length] at this; omega
  subst hn
  obtain ⟨A, c, rfl, _⟩ := own_slice h
  exact ⟨A, c, rfl, h⟩
theorem own_named {v : Value} (h : w.ownsRow base T 1 v n (u8s l)) : ∃ L A c, Hid (L = l) ∧ Hid (L.length = n) ∧ v = .slice A L.length c ∧ OwnB T base w A c L := by
  obtain ⟨A, c, e, ho⟩ := own_bytes h
  exact ⟨l, A, c, Lib.hid rfl, Lib.hid (by have := h.1; rw [u8s_length] at this; omega), e, ho⟩
def BytesPost (T : TypeId) (l : List UInt8) (w : World) (e : Ending) (w' : World) : Prop :=
  ∃ A c, e = .returned (.slice A l.length c) ∧ OwnB T w.heap.size w' A c l ∧ Below w.heap.size w w'
theorem bytes_post {v : Value} (h : w'.ownsRow w.heap.size T 1 v n (u8s l)) (hb : Below w.heap.size w w') : BytesPost T l w (.returned v) w' := by
  obtain ⟨A, c, rfl, ho⟩ := own_bytes h
  exact ⟨A, c, rfl, ho, hb⟩
def BytesPost2 (T : TypeId) (l : List UInt8) (k : Int) (w : World) (e : Ending) (w' : World) : Prop :=
  ∃ A c, e = .returned (.tuple #[.slice A l.length c, .int .i64 k]) ∧ OwnB T w.heap.size w' A c l ∧ Below w.heap.size w w'
theorem bytes_post2 {v : Value} {k : Int} (h : w'.ownsRow w.heap.size T 1 v n (u8s l)) (hb : Below w.heap.size w w') : BytesPost2 T l k w (.returned (.tuple #[v, .int .i64 k])) w' := by
  obtain ⟨A, c, rfl, ho⟩ := own_bytes h
  exact ⟨A, c, rfl, ho, hb⟩
theorem bytes_none2 {k : Int} (hb : Below w.heap.size w w') : BytesPost2 T [] k w (.returned (.tuple #[.slice none 0 0, .int .i64 k])) w' := bytes_post2 (n := 0) (own_nil _ _ _ _) hb
def BytesPost3 (T : TypeId) (l : List UInt8) (p k : Int) (w : World) (e : Ending) (w' : World) : Prop :=
  ∃ A c, e = .returned (.tuple #[.slice A l.length c, .int .i64 p, .int .i64 k]) ∧ OwnB T w.heap.size w' A c l ∧ Below w.heap.size w w'
theorem bytes_post3 {v : Value} {p k : Int} (h : w'.ownsRow w.heap.size T 1 v n (u8s l)) (hb : Below w.heap.size w w') : BytesPost3 T l p k w (.returned (.tuple #[v, .int .i64 p, .int .i64 k])) w' := by
  obtain ⟨A, c, rfl, ho⟩ := own_bytes h
  exact ⟨A, c, rfl, ho, hb⟩
theorem bytes_none3 {p k : Int} (hb : Below w.heap.size w w') : BytesPost3 T [] p k w (.returned (.tuple #[.slice none 0 0, .int .i64 p, .int .i64 k])) w' := bytes_post3 (n := 0) (own_nil _ _ _ _) hb
end
theorem below_grown_drew {w w1 : World} (h : w.drew.grownBy w1 none) : Below w.heap.size w w1 := ((Below.refl w.heap.size w).drew).grown h (Nat.le_refl _) (by simp)
theorem below_grown_none {w w1 : World} (h : w.grownBy w1 none) : Below w.heap.size w w1 := (Below.refl w.heap.size w).grown h (Nat.le_refl _) (by simp)
theorem below_drewN {B n : Nat} {w w1 : World} (h : Below B w w1) : Below B w (w1.drewN n) := ⟨h.os, h.tape, h.output, h.size, h.block⟩
theorem i64_sum {x : Int} (h1 : -9223372036854775808 ≤ x) (h2 : x ≤ 9223372036854775807) : IntKind.i64.wrap x = x := IntWalk.i64_in _ ⟨h1, h2⟩
theorem reads_lit (w : World) (C : Array Value) (l : List UInt8) (t : TypeId) (fr : Nat × Nat) (hC : C.toList = u8s l) : RB (w.alloc (.cells C t fr)) (w.heap.size + 1) (some ⟨w.heap.size, 0, none⟩) l.length l :=
  RB.mk' rfl fun _ => ⟨_, 0, rfl, by omega, fun j c hj => by
    rw [Nat.zero_add, World.cell?_alloc_mark, ← Array.getElem?_toList, hC]
    exact u8s_at hj⟩
theorem rbs_one (w : World) (A : Option Addr) (n c : Nat) (l : List UInt8) (t : TypeId) (fr : Nat × Nat) (h1 : n ≤ c) (h2 : c ≤ 9223372036854775807) (h3 : A = none → c = 0) (hr : RB w w.heap.size A n l) :
    RBs (w.alloc (.cells #[.slice A n c] t fr)) (w.heap.size + 1) (some ⟨w.heap.size, 0, none⟩) 1 [l] := by
  obtain rfl := hr.len
  have hb : Below w.heap.size w (w.alloc (.cells #[.slice A l.length c] t fr)) := (Below.refl _ _).alloc (Nat.le_refl _) _
  refine (KV.nil.cons ⟨A, c, rfl, h1, h2, h3, (hr.below hb).more (by omega)⟩).rbs ⟨rfl, fun _ => ⟨_, 0, rfl, by omega, fun j u hu => ?_⟩⟩
  rw [Nat.zero_add, World.cell?_alloc_mark, ← Array.getElem?_toList]
  exact hu
theorem OwnB.one {T : TypeId} {base : Nat} {w : World} {A : Option Addr} {c : Nat} {l : List UInt8} (h : OwnB T base w A c l) (t : TypeId) (fr : Nat × Nat) :
    RBs (w.alloc (.cells #[.slice A l.length c] t fr)) (w.heap.size + 1) (some ⟨w.heap.size, 0, none⟩) 1 [l] := by
  obtain ⟨h1, h2, h3⟩ := h.cap
  unfold maxLen at h2
  exact rbs_one w A l.length c l t fr h1 h2 h3 h.rb
structure Sl (w : World) (A : Option Addr) (n c : Nat) (l : List UInt8) : Prop where
  rb : RB w w.heap.size A n l
  cap : n ≤ c
  lim : c ≤ 9223372036854775807
  nil : A = none → c = 0
section
variable {T : TypeId} {base : Nat} {w w' : World} {A : Option Addr} {c n m : Nat} {l : List UInt8}
theorem Sl.later (h : Sl w A n c l) (hb : Below w.heap.size w w') : Sl w' A n c l := ⟨h.rb.later hb, h.cap, h.lim, h.nil⟩
theorem Sl.len (h : Sl w A n c l) : l.length = n := h.rb.len
theorem Sl.le (h : Sl w A n c l) : n ≤ 9223372036854775807 := Nat.le_trans h.cap h.lim
theorem Sl.one (h : Sl w A n c l) (t : TypeId) (fr : Nat × Nat) : RBs (w.alloc (.cells #[.slice A n c] t fr)) (w.alloc (.cells #[.slice A n c] t fr)).heap.size (some ⟨w.heap.size, 0, none⟩) 1 [l] :=
  (rbs_one w A n c l t fr h.cap h.lim h.nil h.rb).more (by simp)
theorem Sl.take (h : Sl w A n c l) (hm : m ≤ n) : Sl w A m c (l.take m) := ⟨h.rb.take hm, Nat.le_trans hm h.cap, h.lim, h.nil⟩
theorem Sl.drop {k : Nat} (h : Sl w A n c l) (hk : k ≤ n) (hc : k < c) : Sl w (A.map (·.add k)) (n - k) (c - k) (l.drop k) := by
  have h1 := h.rb.drop (k := k) (cap := c) hk h.cap
  rw [if_neg (by omega)] at h1
  refine ⟨h1, by have := h.cap; omega, by have := h.lim; omega, fun e => ?_⟩
  cases A with
  | none => have := h.nil rfl; omega
  | some _ => cases e
theorem Sl.own (h : OwnB T base w A c l) : Sl w A l.length c l := by
  obtain ⟨h1, h2, h3⟩ := h.cap
  unfold maxLen at h2
  exact ⟨h.rb, h1, h2, h3⟩
theorem BytesPost.at_ {e : Ending} (h : BytesPost T l w e w') (hn : l.length = n) : ∃ A c, e = .returned (.slice A n c) ∧ Sl w' A n c l ∧ OwnB T w.heap.size w' A c l ∧ Below w.heap.size w w' := by
  subst hn
  obtain ⟨A, c, rfl, ho, hb⟩ := h
  exact ⟨A, c, rfl, Sl.own ho, ho, hb⟩
theorem BytesPost2.at_ {e : Ending} {k k' : Int} (h : BytesPost2 T l k w e w') (hn : l.length = n) (hk : k = k') : ∃ A c, e = .returned (.tuple #[.slice A n c, .int .i64 k']) ∧ Sl w' A n c l ∧ OwnB T w.heap.size w' A c l ∧ Below w.heap.size w w' := by
  subst hn; subst hk
  obtain ⟨A, c, rfl, ho, hb⟩ := h
  exact ⟨A, c, rfl, Sl.own ho, ho, hb⟩
theorem BytesPost3.at_ {e : Ending} {p p' k k' : Int} (h : BytesPost3 T l p k w e w') (hn : l.length = n) (hp : p = p') (hk : k = k') : ∃ A c, e = .returned (.tuple #[.slice A n c, .int .i64 p', .int .i64 k']) ∧ Sl w' A n c l ∧ OwnB T w.heap.size w' A c l ∧ Below w.heap.size w w' := by
  subst hn; subst hp; subst hk
  obtain ⟨A, c, rfl, ho, hb⟩ := h
  exact ⟨A, c, rfl, Sl.own ho, ho, hb⟩
theorem Sl.lit (w : World) (C : Array Value) (l : List UInt8) (t : TypeId) (fr : Nat × Nat) (hC : C.toList = u8s l) (hn : l.length = n) (hc : n ≤ 9223372036854775807) : Sl (w.alloc (.cells C t fr)) (some ⟨w.heap.size, 0, none⟩) n n l := by
  subst hn
  exact ⟨(reads_lit w C l t fr hC).more (by simp), Nat.le_refl _, hc, fun e => nomatch e⟩
end
theorem Sl.cons {w : World} {A : Option Addr} {n c : Nat} {l : List UInt8} {vs : List Value} {ks : List (List UInt8)} (h : Sl w A n c l) (hk : KV w w.heap.size vs ks) : KV w w.heap.size (.slice A n c :: vs) (l :: ks) := by
  obtain rfl := h.len
  exact hk.cons ⟨A, c, rfl, h.cap, h.lim, h.nil, h.rb⟩
theorem Sl.none (w : World) : Sl w none 0 0 [] := ⟨RB.nil, Nat.le_refl _, by omega, fun _ => rfl⟩
theorem kv_lit (w : World) (C : Array Value) (ks : List (List UInt8)) (n : Nat) (t : TypeId) (fr : Nat × Nat) (h : KV w w.heap.size C.toList ks) (hn : ks.length = n) :
    RBs (w.alloc (.cells C t fr)) (w.alloc (.cells C t fr)).heap.size (some ⟨w.heap.size, 0, none⟩) n ks := by
  subst hn
  have hb : Below w.heap.size w (w.alloc (.cells C t fr)) := (Below.refl _ _).alloc (Nat.le_refl _) _
  have hC : C.toList.length = ks.length := h.1
  refine ((h.below hb).more (by simp)).rbs ⟨by rw [hC]; omega, fun _ => ⟨_, 0, rfl, by simp, fun j u hu => ?_⟩⟩
  rw [Nat.zero_add, World.cell?_alloc_mark, ← Array.getElem?_toList]
  exact hu
end Go.Proofs.YtmigjipfomfacaaDoor
namespace Go.Proofs.YtmigjipfomfacaaDoor
open Go.RowKit
set_option maxRecDepth 100000 in
set_option maxHeartbeats 1000000 in
theorem sum_any (ks : List (List UInt8)) (A : Option Addr) (n c : Nat) (w : World) (hn : n ≤ 9223372036854775807) (hr : RBs w w.heap.size A n ks) (ht : TabAt 0 w) :
    Calls Tryd.prog 67 #[.slice A n c] w fun e w' => e = .returned (.int .u32 (sumL ks.flatten)) ∧ w = w' := by
  have hlen := hr.len
  have HT := Lib.hid ht
  have HR := Lib.hid hr
  have hsg : IntKind.u32.signed = false := rfl
  clear hr ht
  go_enter Tryd.func67, Tryd.ntmps67
  go_wp2
  go_loop [3, 10] (fun s i => ∃ k : Nat, k ≤ n ∧ i = .int .i64 k ∧ ∃ C : Nat, C < 4294967296 ∧ s = .int .u32 C ∧ Hid (C = crcL 4294967295 (ks.take k).flatten)) (fun _ i => n - (intOf i).toNat)
  case atStart => exact ⟨0, Nat.zero_le _, rfl, 4294967295, by omega, rfl, Lib.hid rfl⟩
  case round =>
    obtain ⟨k, hk, rfl, C, hC, rfl, HC⟩ := hrel
    by_cases hlt : k < n
    case neg =>
      have E : Hid (bits .xor .u32 IntKind.u32.max (C : Int) = (sumL ks.flatten : Int)) := Lib.hid (by
        rw [not_u32 hC, HC.out, take_all (by omega)]; rfl)
      go_wp2
      go_ret
      exact ⟨by rw [← E.out]; rfl, rfl⟩
    obtain ⟨b, o, x, a, ck, rfl, hb, hx, hcell, hxc, hck, _, hrb⟩ := HR.out.at_ hlt
    go_wp2
    go_loop [3, 16] (fun s i => ∃ j : Nat, j ≤ x.length ∧ i = .int .i64 j ∧ ∃ D : Nat, D < 4294967296 ∧ s = .int .u32 D ∧ Hid (D = crcL C (x.take j))) (fun _ i => x.length - (intOf i).toNat)
    case atStart => exact ⟨0, Nat.zero_le _, rfl, C, hC, rfl, Lib.hid rfl⟩
    case round =>
      obtain ⟨j, hj, rfl, D, hD, rfl, HD⟩ := hrel
      by_cases hjl : j < x.length
      case neg =>
        have HN : Hid (D = crcL 4294967295 (ks.take (k + 1)).flatten) := Lib.hid (by
          rw [HD.out, take_all (by omega), HC.out, take_snoc hx, List.flatten_append, crcL_app]; simp)
        go_wp2
        go_round
        case rel => exact ⟨k + 1, by omega, by go_num, D, hD, rfl, HN⟩
        case measure => simp [intOf]; omega
      obtain ⟨b2, o2, y, rfl, hb2, hy, hcy⟩ := hrb.at_ hjl
      have e1 := nib1_walk D y
      have e2 := mid_walk D y hD
      have e3 := nib2_walk D y
      have e4 := crcB_walk D y hD
      have t1 := HT.out.2 _ (nib1_lt D y)
      have t2 := HT.out.2 _ (nib2_lt D y)
      have l1 := nib1_lt D y
      have l2 := nib2_lt D y
      go_wp2
      go_round
      case rel => exact ⟨j + 1, by omega, by go_num, crcB D y, crcB_lt hD y, rfl, Lib.hid (by rw [take_snoc hy, crcL_snoc, ← HD.out])⟩
      case measure => simp [intOf]; omega
end Go.Proofs.YtmigjipfomfacaaDoor
namespace Go.Proofs.YtmigjipfomfacaaDoor
open Go.RowKit
theorem Tryd.u8s' : SliceOf Tryd.prog 24 5 1 1 := SliceOf.mk' (z := .int .u8 0) Tryd.underlying24 (by kernel_rfl) rfl (by decide)
def outB (n : Nat) (a : Int) : Bool := decide (a < 0) || decide ((n : Int) < a)
theorem outB_no {n : Nat} {a : Int} (h1 : 0 ≤ a) (h2 : a ≤ n) : outB n a = false := by
  unfold outB; simp; omega
theorem outB_neg {n : Nat} {a : Int} (h : a < 0) : outB n a = true := by unfold outB; simp [h]
theorem outB_big {n : Nat} {a : Int} (h : (n : Int) < a) : outB n a = true := by unfold outB; simp [h]
set_option maxRecDepth 100000 in
theorem outside_any (A : Option Addr) (n c : Nat) (a : Int) (w : World) : Calls Tryd.prog 93 #[.slice A n c, .int .i64 a] w fun e w' => e = .returned (.bool (outB n a)) ∧ w = w' := by
  by_cases h : a < 0
  · have H := Lib.hid (outB_neg (n := n) h)
    have hd : decide (a < 0) = true := decide_eq_true h
    go_enter Tryd.func93, Tryd.ntmps93
    go_wp2
    go_ret
    exact ⟨by rw [H.out]; rfl, rfl⟩
  · have hd : decide (a < 0) = false := decide_eq_false h
    have H : Hid (outB n a = decide ((n : Int) < a)) := Lib.hid (by unfold outB; rw [hd]; rfl)
    go_enter Tryd.func93, Tryd.ntmps93
    go_wp2
    go_ret
    exact ⟨by rw [H.out]; rfl, rfl⟩
set_option maxRecDepth 100000 in
theorem equal_any (a b : List UInt8) (A B : Option Addr) (n c m d : Nat) (w : World) (ha : RB w w.heap.size A n a) (hb : RB w w.heap.size B m b) :
    Calls Tryd.prog 46 #[.slice A n c, .slice B m d] w fun e w' => e = .returned (.bool (a == b)) ∧ w = w' := by
  have tok1 : True := trivial
  go_enter Tryd.func46, Tryd.ntmps46
  go_wp2_with (first
    | (have _t := tok1; refine wpList_string_reads rfl _ 24 9 5 rfl Tryd.underlying24 Tryd.underlying5 Tryd.underlying9 rfl ha ?_; clear tok1)
    | (refine wpList_string_reads rfl _ 24 9 5 rfl Tryd.underlying24 Tryd.underlying5 Tryd.underlying9 rfl hb ?_))
  go_ret
  exact ⟨rfl, rfl⟩
set_option maxRecDepth 100000 in
set_option maxHeartbeats 400000 in
theorem clone_any (l : List UInt8) (A : Option Addr) (n c : Nat) (w : World) (hn : n ≤ 140737488355328) (hA : A = none → c = 0) (hr : RB w w.heap.size A n l) :
    Calls Tryd.prog 94 #[.slice A n c] w (BytesPost 5 l w) := by
  have hl := hr.len
  have hnil := fun (w' : World) => Lib.run_eql_slice_nil (P := Tryd.prog) w' 24 5 A n c 0 0 Tryd.underlying24
  cases A with
  | none =>
    obtain rfl := hA rfl
    have hn0 : n = 0 := by
      rcases Nat.eq_zero_or_pos n with h0 | h0
      · exact h0
      · obtain ⟨_, _, e, _⟩ := hr.2 h0
        cases e
    subst hn0
    have H : Hid (BytesPost 5 l w (.returned (.slice none 0 0)) w) := Lib.hid (by
      have hl0 : l = [] := List.eq_nil_of_length_eq_zero hl
      subst hl0
      exact bytes_post (n := 0) (own_nil _ _ _ _) (Below.refl _ _))
    clear hr hl
    go_enter Tryd.func94, Tryd.ntmps94
    go_wp2
    go_ret
    exact H.out
  | some ad =>
    have O1 := Lib.hid (u8s_one l)
    have HO : Hid ((w.alloc (.cells #[] 5)).ownsRow w.heap.size 5 1 (.slice (some ⟨w.heap.size, 0, none⟩) 0 0) 0 []) := Lib.hid (World.ownsRow_made w #[] 0 (Nat.le_refl _) (by decide) rfl)
    have HR : Hid (RB (w.alloc (.cells #[] 5)) w.heap.size (some ad) n l) := Lib.hid (Reads.alloc hr (Nat.le_refl _) _)
    clear hr hA
    go_enter Tryd.func94, Tryd.ntmps94
    go_wp2_with (at_builtin; refine wpList_append_reads _ rfl (.tmp 5) (.tmp 6) rfl Tryd.u8s' w.heap.size (.slice (some ⟨w.heap.size, 0, none⟩) 0 0) 0 [] rfl HO.out w.heap.size (some ad) n c (u8s l) rfl HR.out O1.out (by unfold maxLen; omega) (by omega) (by simp) ?_; intro v1 w1 hown1 hg1 hat1)
    go_ret
    rw [List.nil_append] at hown1
    exact bytes_post hown1 (below_app ((Below.refl _ _).alloc (Nat.le_refl _) _) HO.out hg1 (by simp) (Nat.le_refl _))
end Go.Proofs.YtmigjipfomfacaaDoor
namespace Go.Proofs.YtmigjipfomfacaaDoor
open Go.RowKit
def outI (n lo hi : Int) : Bool := decide (n < lo) || decide (hi < n)
set_option maxRecDepth 100000 in
set_option maxHeartbeats 1000000 in
theorem cOutside_any (n lo hi : Int) (w : World) : Calls Tryd.prog 85 #[.int .i64 n, .int .i64 lo, .int .i64 hi] w fun e w' => e = .returned (.bool (outI n lo hi)) ∧ w = w' := by
  unfold outI
  by_cases h : n < lo
  · have hd : decide (n < lo) = true := decide_eq_true h
    go_enter Tryd.func85, Tryd.ntmps85
    go_wp2
    go_ret
    exact ⟨by simp [hd], rfl⟩
  · have hd : decide (n < lo) = false := decide_eq_false h
    go_enter Tryd.func85, Tryd.ntmps85
    go_wp2
    go_ret
    exact ⟨by simp, rfl⟩
theorem hid_iff {p : Prop} : Hid p ↔ p := ⟨Hid.out, Lib.hid⟩
theorem outI_pos {n lo hi : Int} (h : outI n lo hi = true) : n < lo ∨ hi < n := by unfold outI at h; simpa using h
theorem outI_neg {n lo hi : Int} (h : ¬ outI n lo hi = true) : outI n lo hi = false := by simpa using h
theorem outI_no {n lo hi : Int} (h : outI n lo hi = false) : ¬ (n < lo ∨ hi < n) := by unfold outI at h; simp at h; omega
theorem long_no {m : Nat} {x k y : Int} (z : Nat) (hz : x = (z : Int)) (h : decide (x < (m : Int)) = false) (hk : (decide (k = y) && decide (0 < (m : Int))) = false) : ¬ (z < m ∨ (k = y ∧ 0 < m)) := by
  simp at h hk
  rintro (h' | ⟨h1, h2⟩)
  · omega
  · have := hk h1; omega
set_option maxRecDepth 100000 in
set_option maxHeartbeats 4000000 in
theorem check_any (A : Option Addr) (n c : Nat) (f : Int) (B : Option Addr) (m d : Nat) (t s k : Int) (D : Option Addr) (v q : Nat) (w : World) :
    Calls Tryd.prog 51 #[.agg #[.slice A n c, .int .i64 f, .slice B m d, .int .i64 t, .int .i64 s, .int .i64 k, .slice D v q]] w fun e w' => e = .returned (.int .i64 (checkN n f m t s k v)) ∧ Below w.heap.size w w' := by
  have HB : Hid (∀ o, Below w.heap.size w (w.alloc o)) := Lib.hid fun o => (Below.refl _ w).alloc (Nat.le_refl _) o
  go_enter Tryd.func51, Tryd.ntmps51
  by_cases h0 : outI n 1 256 = true
  · have o0 := Lib.hid (outI_pos h0)
    go_wp2_with (go_at_call 85; refine (cOutside_any _ _ _ _).mono ?_; rintro e w' ⟨rfl, rfl⟩)
    go_ret
    refine ⟨?_, HB.out _⟩
    clear HB
    have HZ : checkN n f m t s k v = 20 := by
      simp only [hid_iff] at *
      unfold checkN
      (repeat' split) <;> first | rfl | omega
    rw [HZ]; rfl
  have p0 := Lib.hid (outI_no (outI_neg h0))
  replace h0 := outI_neg h0
  by_cases h1 : outI f 0 7 = true
  · have o1 := Lib.hid (outI_pos h1)
    go_wp2_with (go_at_call 85; refine (cOutside_any _ _ _ _).mono ?_; rintro e w' ⟨rfl, rfl⟩)
    go_ret
    refine ⟨?_, HB.out _⟩
    clear HB
    have HZ : checkN n f m t s k v = 21 := by
      simp only [hid_iff] at *
      unfold checkN
      (repeat' split) <;> first | rfl | omega
    rw [HZ]; rfl
  have p1 := Lib.hid (outI_no (outI_neg h1))
  replace h1 := outI_neg h1
  by_cases h2 : 256 < m
  · have d1 : decide ((256 : Int) < (m : Int)) = true := decide_eq_true (by omega)
    have d1n : decide (256 < m) = true := decide_eq_true h2
    go_wp2_with (go_at_call 85; refine (cOutside_any _ _ _ _).mono ?_; rintro e w' ⟨rfl, rfl⟩)
    go_ret
    refine ⟨?_, HB.out _⟩
    clear HB
    have HZ : checkN n f m t s k v = 22 := by
      simp only [hid_iff] at *
      unfold checkN
      (repeat' split) <;> first | rfl | omega
    rw [HZ]; rfl
  have da2 : decide ((256 : Int) < (m : Int)) = false := decide_eq_false (by omega)
  have db2 : decide (256 < m) = false := decide_eq_false h2
  by_cases k2 : k = 5
  · have e2 : (k == 5) = true := by simpa using k2
    replace k2 := Lib.hid k2
    by_cases l2 : 0 < m
    · have d1 : decide ((0 : Int) < (m : Int)) = true := decide_eq_true (by omega)
      have d1n : decide (0 < m) = true := decide_eq_true l2
      go_wp2_with (go_at_call 85; refine (cOutside_any _ _ _ _).mono ?_; rintro e w' ⟨rfl, rfl⟩)
      go_ret
      refine ⟨?_, HB.out _⟩
      clear HB
      have HZ : checkN n f m t s k v = 22 := by
        simp only [hid_iff] at *
        unfold checkN
        (repeat' split) <;> first | rfl | omega
      rw [HZ]; rfl
    have dc2 : decide ((0 : Int) < (m : Int)) = false := decide_eq_false (by omega)
    have dd2 : decide (0 < m) = false := decide_eq_false l2
    by_cases h3 : outI t 1 1099511627776 = true
    · have o3 := Lib.hid (outI_pos h3)
      go_wp2_with (go_at_call 85; refine (cOutside_any _ _ _ _).mono ?_; rintro e w' ⟨rfl, rfl⟩)
      go_ret
      refine ⟨?_, HB.out _⟩
      clear HB
      have HZ : checkN n f m t s k v = 23 := by
        simp only [hid_iff] at *
        unfold checkN
        (repeat' split) <;> first | rfl | omega
      rw [HZ]; rfl
    have p3 := Lib.hid (outI_no (outI_neg h3))
    replace h3 := outI_neg h3
    by_cases h4 : outI s 0 17592186044431 = true
    · have o4 := Lib.hid (outI_pos h4)
      go_wp2_with (go_at_call 85; refine (cOutside_any _ _ _ _).mono ?_; rintro e w' ⟨rfl, rfl⟩)
      go_ret
      refine ⟨?_, HB.out _⟩
      clear HB
      have HZ : checkN n f m t s k v = 24 := by
        simp only [hid_iff] at *
        unfold checkN
        (repeat' split) <;> first | rfl | omega
      rw [HZ]; rfl
    have p4 := Lib.hid (outI_no (outI_neg h4))
    replace h4 := outI_neg h4
    by_cases h5 : outI k 1 5 = true
    · have o5 := Lib.hid (outI_pos h5)
      go_wp2_with (go_at_call 85; refine (cOutside_any _ _ _ _).mono ?_; rintro e w' ⟨rfl, rfl⟩)
      go_ret
      refine ⟨?_, HB.out _⟩
      clear HB
      have HZ : checkN n f m t s k v = 25 := by
        simp only [hid_iff] at *
        unfold checkN
        (repeat' split) <;> first | rfl | omega
      rw [HZ]; rfl
    have p5 := Lib.hid (outI_no (outI_neg h5))
    replace h5 := outI_neg h5
    by_cases h6 : 4096 < v
    · have d1 : decide ((4096 : Int) < (v : Int)) = true := decide_eq_true (by omega)
      have d1n : decide (4096 < v) = true := decide_eq_true h6
      go_wp2_with (go_at_call 85; refine (cOutside_any _ _ _ _).mono ?_; rintro e w' ⟨rfl, rfl⟩)
      go_ret
      refine ⟨?_, HB.out _⟩
      clear HB
      have HZ : checkN n f m t s k v = 26 := by
        simp only [hid_iff] at *
        unfold checkN
        (repeat' split) <;> first | rfl | omega
      rw [HZ]; rfl
    have da6 : decide ((4096 : Int) < (v : Int)) = false := decide_eq_false (by omega)
    have db6 : decide (4096 < v) = false := decide_eq_false h6
    by_cases k6 : ¬ k = 1
    · have e6 : (k != 1) = true := by simpa using k6
      replace k6 := Lib.hid k6
      by_cases l6 : 0 < v
      · have d1 : decide ((0 : Int) < (v : Int)) = true := decide_eq_true (by omega)
        have d1n : decide (0 < v) = true := decide_eq_true l6
        go_wp2_with (go_at_call 85; refine (cOutside_any _ _ _ _).mono ?_; rintro e w' ⟨rfl, rfl⟩)
        go_ret
        refine ⟨?_, HB.out _⟩
        clear HB
        have HZ : checkN n f m t s k v = 26 := by
          simp only [hid_iff] at *
          unfold checkN
          (repeat' split) <;> first | rfl | omega
        rw [HZ]; rfl
      have dc6 : decide ((0 : Int) < (v : Int)) = false := decide_eq_false (by omega)
      have dd6 : decide (0 < v) = false := decide_eq_false l6
      go_wp2_with (go_at_call 85; refine (cOutside_any _ _ _ _).mono ?_; rintro e w' ⟨rfl, rfl⟩)
      go_ret
      refine ⟨?_, HB.out _⟩
      clear HB
      have HZ : checkN n f m t s k v = 0 := by
        simp only [hid_iff] at *
        unfold checkN
        (repeat' split) <;> first | rfl | omega
      rw [HZ]; rfl
    have e6 : (k != 1) = false := by simpa using k6
    replace k6 := Lib.hid k6
    go_wp2_with (go_at_call 85; refine (cOutside_any _ _ _ _).mono ?_; rintro e w' ⟨rfl, rfl⟩)
    go_ret
    refine ⟨?_, HB.out _⟩
    clear HB
    have HZ : checkN n f m t s k v = 0 := by
      simp only [hid_iff] at *
      unfold checkN
      (repeat' split) <;> first | rfl | omega
    rw [HZ]; rfl
  have e2 : (k == 5) = false := by simpa using k2
  replace k2 := Lib.hid k2
  by_cases h3 : outI t 1 1099511627776 = true
  · have o3 := Lib.hid (outI_pos h3)
    go_wp2_with (go_at_call 85; refine (cOutside_any _ _ _ _).mono ?_; rintro e w' ⟨rfl, rfl⟩)
    go_ret
    refine ⟨?_, HB.out _⟩
    clear HB
    have HZ : checkN n f m t s k v = 23 := by
      simp only [hid_iff] at *
      unfold checkN
      (repeat' split) <;> first | rfl | omega
    rw [HZ]; rfl
  have p3 := Lib.hid (outI_no (outI_neg h3))
  replace h3 := outI_neg h3
  by_cases h4 : outI s 0 17592186044431 = true
  · have o4 := Lib.hid (outI_pos h4)
    go_wp2_with (go_at_call 85; refine (cOutside_any _ _ _ _).mono ?_; rintro e w' ⟨rfl, rfl⟩)
    go_ret
    refine ⟨?_, HB.out _⟩
    clear HB
    have HZ : checkN n f m t s k v = 24 := by
      simp only [hid_iff] at *
      unfold checkN
      (repeat' split) <;> first | rfl | omega
    rw [HZ]; rfl
  have p4 := Lib.hid (outI_no (outI_neg h4))
  replace h4 := outI_neg h4
  by_cases h5 : outI k 1 5 = true
  · have o5 := Lib.hid (outI_pos h5)
    go_wp2_with (go_at_call 85; refine (cOutside_any _ _ _ _).mono ?_; rintro e w' ⟨rfl, rfl⟩)
    go_ret
    refine ⟨?_, HB.out _⟩
    clear HB
    have HZ : checkN n f m t s k v = 25 := by
      simp only [hid_iff] at *
      unfold checkN
      (repeat' split) <;> first | rfl | omega
    rw [HZ]; rfl
  have p5 := Lib.hid (outI_no (outI_neg h5))
  replace h5 := outI_neg h5
  by_cases h6 : 4096 < v
  · have d1 : decide ((4096 : Int) < (v : Int)) = true := decide_eq_true (by omega)
    have d1n : decide (4096 < v) = true := decide_eq_true h6
    go_wp2_with (go_at_call 85; refine (cOutside_any _ _ _ _).mono ?_; rintro e w' ⟨rfl, rfl⟩)
    go_ret
    refine ⟨?_, HB.out _⟩
    clear HB
    have HZ : checkN n f m t s k v = 26 := by
      simp only [hid_iff] at *
      unfold checkN
      (repeat' split) <;> first | rfl | omega
    rw [HZ]; rfl
  have da6 : decide ((4096 : Int) < (v : Int)) = false := decide_eq_false (by omega)
  have db6 : decide (4096 < v) = false := decide_eq_false h6
  by_cases k6 : ¬ k = 1
  · have e6 : (k != 1) = true := by simpa using k6
    replace k6 := Lib.hid k6
    by_cases l6 : 0 < v
    · have d1 : decide ((0 : Int) < (v : Int)) = true := decide_eq_true (by omega)
      have d1n : decide (0 < v) = true := decide_eq_true l6
      go_wp2_with (go_at_call 85; refine (cOutside_any _ _ _ _).mono ?_; rintro e w' ⟨rfl, rfl⟩)
      go_ret
      refine ⟨?_, HB.out _⟩
      clear HB
      have HZ : checkN n f m t s k v = 26 := by
        simp only [hid_iff] at *
        unfold checkN
        (repeat' split) <;> first | rfl | omega
      rw [HZ]; rfl
    have dc6 : decide ((0 : Int) < (v : Int)) = false := decide_eq_false (by omega)
    have dd6 : decide (0 < v) = false := decide_eq_false l6
    go_wp2_with (go_at_call 85; refine (cOutside_any _ _ _ _).mono ?_; rintro e w' ⟨rfl, rfl⟩)
    go_ret
    refine ⟨?_, HB.out _⟩
    clear HB
    have HZ : checkN n f m t s k v = 0 := by
      simp only [hid_iff] at *
      unfold checkN
      (repeat' split) <;> first | rfl | omega
    rw [HZ]; rfl
  have e6 : (k != 1) = false := by simpa using k6
  replace k6 := Lib.hid k6
  go_wp2_with (go_at_call 85; refine (cOutside_any _ _ _ _).mono ?_; rintro e w' ⟨rfl, rfl⟩)
  go_ret
  refine ⟨?_, HB.out _⟩
  clear HB
  have HZ : checkN n f m t s k v = 0 := by
    simp only [hid_iff] at *
    unfold checkN
    (repeat' split) <;> first | rfl | omega
  rw [HZ]; rfl
end Go.Proofs.YtmigjipfomfacaaDoor
namespace Go.Proofs.YtmigjipfomfacaaDoor
open Go.RowKit
theorem run_sizeOf_of {P : Program} {t : TypeId} {n : Nat} (h : (P.info? t).map (·.size) = some n) (w : World) : (sizeOf t).run P w = .ok n w := by
  cases hd : P.info? t with
  | none => rw [hd] at h; cases h
  | some i =>
    rw [hd] at h
    injection h with h
    simp [sizeOf, typeInfo, hd, h]
theorem run_isAgg_of {P : Program} {t : TypeId} {b : Bool} (h : (P.underlying t).map (fun d => match d with | .struct _ | .array _ _ => true | _ => false) = some b) (w : World) : (isAgg t).run P w = .ok b w := by
  cases hd : P.underlying t with
  | none => rw [hd] at h; cases h
  | some d =>
    rw [hd] at h
    unfold isAgg
    rw [Sem.run_bind, run_underlying hd w]
    cases d <;> simp_all
theorem run_index_arr {P : Program} (w : World) (t e : TypeId) (n : Nat) (cs : Array Value) (k : Nat) (v : Value) (ht : P.underlying t = some (.array n e)) (hs : (P.info? e).map (·.size) = some 1)
    (ha : (P.underlying e).map (fun d => match d with | .struct _ | .array _ _ => true | _ => false) = some false) (hk : k < n) (hv : cs[k]? = some v) :
    (Instr.index t (.agg cs) (.int .i64 (k : Int))).run P w = .ok v w := by
  have hs := run_sizeOf_of hs w
  have ha := run_isAgg_of ha w
  unfold Instr.index
  simp [asIntOf, Sem.run_bind, run_underlying ht, hs, part, ha, hk, hv]
end Go.Proofs.YtmigjipfomfacaaDoor
namespace Go.Proofs.YtmigjipfomfacaaDoor
open Go.RowKit
section
variable {P : Program} {w : World}
theorem ints_back (l : List UInt8) : Lib.bytesOf (l.map fun c => (c.toNat : Int)) = l := by
  unfold Lib.bytesOf
  rw [List.map_map]
  conv => rhs; rw [← List.map_id l]
  exact List.map_congr_left fun x _ => by simp
theorem run_bytesOf_RB {B n : Nat} {A : Option Addr} {l : List UInt8} (c : Nat) (h : RB w B A n l) : (Extern.Bytes.bytesOf (.slice A n c)).run P w = .ok ⟨l.toArray⟩ w := by
  have hl := h.len
  cases A with
  | none =>
    have hn : n = 0 := by
      rcases Nat.eq_zero_or_pos n with h0 | h0
      · exact h0
      · obtain ⟨_, _, e, _⟩ := h.2 h0
        cases e
    have hl0 : l = [] := List.eq_nil_of_length_eq_zero (by omega)
    subst hl0
    rfl
  | some ad =>
    have h1 := Lib.run_loadBytesX (P := P) (w := w) (l.map fun c => (c.toNat : Int)) ad .empty (fun j x hj => by
      rw [List.getElem?_map] at hj
      cases hx : l[j]? with
      | none => rw [hx] at hj; cases hj
      | some y =>
        rw [hx] at hj
        injection hj with hj
        subst hj
        have hjl : j < l.length := (List.getElem?_eq_some_iff.1 hx).1
        obtain ⟨b, o, e, _, hc⟩ := h.2 (by omega)
        injection e with e
        subst e
        have := hc j _ (u8s_at hx)
        unfold Addr.add
        split
        · rename_i h0; subst h0; exact this
        · exact this)
    rw [List.length_map, hl, ints_back] at h1
    have he : (⟨ByteArray.empty.data ++ l.toArray⟩ : ByteArray) = ⟨l.toArray⟩ := by
      apply ByteArray.ext
      show (#[] : Array UInt8) ++ l.toArray = l.toArray
      simp
    rw [he] at h1
    exact h1
theorem compareBytes_eq : ∀ a b : List UInt8, Lib.compareBytes a b = cmpB a b
  | [], [] => rfl
  | [], _ :: _ => rfl
  | _ :: _, [] => rfl
  | x :: a, y :: b => by
    rw [cmpB_cc, Lib.compareBytes, compareBytes_eq a b]
    by_cases h : x < y
    · rw [if_pos h, if_pos (UInt8.lt_iff_toNat_lt.1 h)]
    · rw [if_neg h, if_neg (fun h' => h (UInt8.lt_iff_toNat_lt.2 h'))]
      by_cases h2 : y < x
      · rw [if_pos h2, if_pos (UInt8.lt_iff_toNat_lt.1 h2)]
      · rw [if_neg h2, if_neg (fun h' => h2 (UInt8.lt_iff_toNat_lt.2 h'))]
theorem run_compare_RB {B B' n m : Nat} {A A' : Option Addr} {a b : List UInt8} (c d : Nat) (ha : RB w B A n a) (hb : RB w B' A' m b) :
    (Extern.BytealgCompare.compare #[.slice A n c, .slice A' m d]).run P w = .ok (.int .i64 (cmpB a b)) w := by
  change Sem.run P (do pure (goInt (Extern.BytealgCompare.cmp (← Extern.Bytes.bytesOf (.slice A n c)) (← Extern.Bytes.bytesOf (.slice A' m d))))) w = _
  simp only [Sem.run_bind, Sem.run_pure, run_bytesOf_RB c ha, run_bytesOf_RB d hb, Result.andThen]
  rw [Lib.cmp_eq, compareBytes_eq]
  rfl
end
set_option maxRecDepth 100000 in
set_option maxHeartbeats 1000000 in
theorem bcmp_any (a b : List UInt8) (A B : Option Addr) (n c m d : Nat) (w : World) (ha : RB w w.heap.size A n a) (hb : RB w w.heap.size B m b) :
    Calls Tryd.prog 50 #[.slice A n c, .slice B m d] w fun e w' => e = .returned (.int .i64 (cmpB a b)) ∧ w = w' := by
  go_enter Tryd.func50, Tryd.ntmps50
  go_wp2
  rw [run_callFunc_extern Tryd.func84 (by kernel_rfl) (by kernel_rfl) (by kernel_rfl) (e := Extern.BytealgCompare.compare) (by kernel_rfl), run_compare_RB c d ha hb]
  simp only [Result.andThen]
  rw [Oper.upon_value]
  go_wp2
  go_ret
  exact ⟨rfl, rfl⟩
set_option maxRecDepth 100000 in
theorem isNaN_any (x : Int) (w : World) : Calls Tryd.prog 113 #[.int .i64 x] w fun e w' => e = .returned (.bool false) ∧ w = w' := by
  go_enter Tryd.func113, Tryd.ntmps113
  go_wp2
  go_ret
  exact ⟨by simp, rfl⟩
set_option maxRecDepth 100000 in
set_option maxHeartbeats 1000000 in
theorem icmp_any (x y : Int) (w : World) : Calls Tryd.prog 102 #[.int .i64 x, .int .i64 y] w fun e w' => e = .returned (.int .i64 (cmpI x y)) ∧ w = w' := by
  go_enter Tryd.func102, Tryd.ntmps102
  go_wp2_with (go_at_call 113; refine (isNaN_any _ _).mono ?_; rintro e w' ⟨rfl, rfl⟩)
  all_goals (go_ret; refine ⟨ret_int ?_, rfl⟩; unfold cmpI; (repeat' split) <;> first | rfl | (exfalso; omega))
set_option maxRecDepth 100000 in
set_option maxHeartbeats 1000000 in
theorem cFirst_any (z : Int) (A : Option Addr) (n c : Nat) (f : Int) (B : Option Addr) (m d : Nat) (t s k : Int) (D : Option Addr) (v q : Nat) (A' : Option Addr) (n' c' : Nat) (f' : Int) (B' : Option Addr) (m' d' : Nat) (t' s' k' : Int) (D' : Option Addr) (v' q' : Nat) (w : World) :
    Calls Tryd.prog 104 #[.int .i64 z, .agg #[.slice A n c, .int .i64 f, .slice B m d, .int .i64 t, .int .i64 s, .int .i64 k, .slice D v q], .agg #[.slice A' n' c', .int .i64 f', .slice B' m' d', .int .i64 t', .int .i64 s', .int .i64 k', .slice D' v' q']] w fun e w' => e = .returned (.int .i64 (firstI (k == z) (k' == z))) ∧ Below w.heap.size w w' := by
  have HB : Hid (∀ o o', Below w.heap.size w ((w.alloc o).alloc o')) := Lib.hid fun o o' => ((Below.refl _ w).alloc (Nat.le_refl _) o).alloc (by simp) o'
  unfold firstI
  generalize h1 : (k == z) = x
  generalize h2 : (k' == z) = y
  cases x <;> cases y <;> (
    go_enter Tryd.func104, Tryd.ntmps104
    go_wp2_with (go_quiet (fail))
    go_ret
    exact ⟨rfl, below_drewN (HB.out _ _)⟩)
abbrev entV (A : Option Addr) (n c : Nat) (B : Option Addr) (m d : Nat) (D : Option Addr) (v q : Nat) (e : Ent) : Value := .agg #[.slice A n c, .int .i64 e.fam, .slice B m d, .int .i64 e.ts, .int .i64 e.seq, .int .i64 e.kind, .slice D v q]
structure En (w : World) (A : Option Addr) (n c : Nat) (B : Option Addr) (m d : Nat) (D : Option Addr) (v q : Nat) (e : Ent) : Prop where
  row : Sl w A n c e.row
  qual : Sl w B m d e.qual
  val : Sl w D v q e.val
theorem En.later {w w' : World} {A : Option Addr} {n c : Nat} {B : Option Addr} {m d : Nat} {D : Option Addr} {v q : Nat} {e : Ent} (h : En w A n c B m d D v q e) (hb : Below w.heap.size w w') : En w' A n c B m d D v q e := ⟨h.row.later hb, h.qual.later hb, h.val.later hb⟩
def stepC (a b : Ent) : Nat → Int
  | 0 => cmpB a.row b.row
  | 1 => cmpI a.fam b.fam
  | 2 => firstI (a.kind == 5) (b.kind == 5)
  | 3 => cmpB a.qual b.qual
  | 4 => firstI (a.kind == 4) (b.kind == 4)
  | 5 => cmpI b.ts a.ts
  | 6 => cmpI b.seq a.seq
  | _ => cmpI a.kind b.kind
theorem below_up {a b c : World} (h : Below a.heap.size a b) (k : Below b.heap.size b c) : Below a.heap.size a c := h.trans (k.mono h.size)
theorem two_boxes (w : World) : ∀ o o', Below w.heap.size w ((w.alloc o).alloc o') := fun o o' => ((Below.refl _ w).alloc (Nat.le_refl _) o).alloc (by simp) o'
set_option maxRecDepth 100000 in
set_option maxHeartbeats 1000000 in
theorem step1_any (a b : Ent) (A : Option Addr) (n c : Nat) (B : Option Addr) (m d : Nat) (D : Option Addr) (v q : Nat) (A' : Option Addr) (n' c' : Nat) (B' : Option Addr) (m' d' : Nat) (D' : Option Addr) (v' q' : Nat) (w : World) (ha : En w A n c B m d D v q a) (hb : En w A' n' c' B' m' d' D' v' q' b) :
    Calls Tryd.prog 100 #[entV A n c B m d D v q a, entV A' n' c' B' m' d' D' v' q' b] w fun e w1 => e = .returned (.int .i64 (stepC a b 0)) ∧ Below w.heap.size w w1 := by
  unfold entV
  have HB := Lib.hid (two_boxes w)
  have H1 : Hid (∀ w1, Below w.heap.size w w1 → Sl w1 A n c a.row) := Lib.hid fun w1 h => (ha.later h).row
  have H2 : Hid (∀ w1, Below w.heap.size w w1 → Sl w1 A' n' c' b.row) := Lib.hid fun w1 h => (hb.later h).row
  clear ha hb
  go_enter Tryd.func100, Tryd.ntmps100
  go_wp2_with (go_at_call 50; go_must (refine (bcmp_any a.row b.row _ _ _ _ _ _ _ (H1.out _ (HB.out _ _)).rb (H2.out _ (HB.out _ _)).rb).mono ?_; rintro e w1 ⟨rfl, rfl⟩))
  go_ret
  exact ⟨rfl, HB.out _ _⟩
set_option maxRecDepth 100000 in
set_option maxHeartbeats 1000000 in
theorem step2_any (a b : Ent) (A : Option Addr) (n c : Nat) (B : Option Addr) (m d : Nat) (D : Option Addr) (v q : Nat) (A' : Option Addr) (n' c' : Nat) (B' : Option Addr) (m' d' : Nat) (D' : Option Addr) (v' q' : Nat) (w : World) (_ha : En w A n c B m d D v q a) (_hb : En w A' n' c' B' m' d' D' v' q' b) :
    Calls Tryd.prog 101 #[entV A n c B m d D v q a, entV A' n' c' B' m' d' D' v' q' b] w fun e w1 => e = .returned (.int .i64 (stepC a b 1)) ∧ Below w.heap.size w w1 := by
  unfold entV
  have HB := Lib.hid (two_boxes w)
  clear _ha _hb
  go_enter Tryd.func101, Tryd.ntmps101
  go_wp2_with (go_at_call 102; go_must (refine (icmp_any _ _ _).mono ?_; rintro e w1 ⟨rfl, rfl⟩))
  go_ret
  exact ⟨rfl, HB.out _ _⟩
set_option maxRecDepth 100000 in
set_option maxHeartbeats 1000000 in
theorem step3_any (a b : Ent) (A : Option Addr) (n c : Nat) (B : Option Addr) (m d : Nat) (D : Option Addr) (v q : Nat) (A' : Option Addr) (n' c' : Nat) (B' : Option Addr) (m' d' : Nat) (D' : Option Addr) (v' q' : Nat) (w : World) (_ha : En w A n c B m d D v q a) (_hb : En w A' n' c' B' m' d' D' v' q' b) :
    Calls Tryd.prog 103 #[entV A n c B m d D v q a, entV A' n' c' B' m' d' D' v' q' b] w fun e w1 => e = .returned (.int .i64 (stepC a b 2)) ∧ Below w.heap.size w w1 := by
  unfold entV
  have HB := Lib.hid (two_boxes w)
  clear _ha _hb
  go_enter Tryd.func103, Tryd.ntmps103
  go_wp2_with (go_at_call 104; go_must (refine (cFirst_any _ _ _ _ _ _ _ _ _ _ _ _ _ _ _ _ _ _ _ _ _ _ _ _ _ _ _ _).mono ?_; rintro e w1 ⟨rfl, hb1⟩; have HB1 := Lib.hid (below_up (HB.out _ _) hb1); clear hb1))
  go_ret
  exact ⟨rfl, HB1.out⟩
set_option maxRecDepth 100000 in
set_option maxHeartbeats 1000000 in
theorem step4_any (a b : Ent) (A : Option Addr) (n c : Nat) (B : Option Addr) (m d : Nat) (D : Option Addr) (v q : Nat) (A' : Option Addr) (n' c' : Nat) (B' : Option Addr) (m' d' : Nat) (D' : Option Addr) (v' q' : Nat) (w : World) (ha : En w A n c B m d D v q a) (hb : En w A' n' c' B' m' d' D' v' q' b) :
    Calls Tryd.prog 105 #[entV A n c B m d D v q a, entV A' n' c' B' m' d' D' v' q' b] w fun e w1 => e = .returned (.int .i64 (stepC a b 3)) ∧ Below w.heap.size w w1 := by
  unfold entV
  have HB := Lib.hid (two_boxes w)
  have H1 : Hid (∀ w1, Below w.heap.size w w1 → Sl w1 B m d a.qual) := Lib.hid fun w1 h => (ha.later h).qual
  have H2 : Hid (∀ w1, Below w.heap.size w w1 → Sl w1 B' m' d' b.qual) := Lib.hid fun w1 h => (hb.later h).qual
  clear ha hb
  go_enter Tryd.func105, Tryd.ntmps105
  go_wp2_with (go_at_call 50; go_must (refine (bcmp_any a.qual b.qual _ _ _ _ _ _ _ (H1.out _ (HB.out _ _)).rb (H2.out _ (HB.out _ _)).rb).mono ?_; rintro e w1 ⟨rfl, rfl⟩))
  go_ret
  exact ⟨rfl, HB.out _ _⟩
set_option maxRecDepth 100000 in
set_option maxHeartbeats 1000000 in
theorem step5_any (a b : Ent) (A : Option Addr) (n c : Nat) (B : Option Addr) (m d : Nat) (D : Option Addr) (v q : Nat) (A' : Option Addr) (n' c' : Nat) (B' : Option Addr) (m' d' : Nat) (D' : Option Addr) (v' q' : Nat) (w : World) (_ha : En w A n c B m d D v q a) (_hb : En w A' n' c' B' m' d' D' v' q' b) :
    Calls Tryd.prog 106 #[entV A n c B m d D v q a, entV A' n' c' B' m' d' D' v' q' b] w fun e w1 => e = .returned (.int .i64 (stepC a b 4)) ∧ Below w.heap.size w w1 := by
  unfold entV
  have HB := Lib.hid (two_boxes w)
  clear _ha _hb
  go_enter Tryd.func106, Tryd.ntmps106
  go_wp2_with (go_at_call 104; go_must (refine (cFirst_any _ _ _ _ _ _ _ _ _ _ _ _ _ _ _ _ _ _ _ _ _ _ _ _ _ _ _ _).mono ?_; rintro e w1 ⟨rfl, hb1⟩; have HB1 := Lib.hid (below_up (HB.out _ _) hb1); clear hb1))
  go_ret
  exact ⟨rfl, HB1.out⟩
set_option maxRecDepth 100000 in
set_option maxHeartbeats 1000000 in
theorem step6_any (a b : Ent) (A : Option Addr) (n c : Nat) (B : Option Addr) (m d : Nat) (D : Option Addr) (v q : Nat) (A' : Option Addr) (n' c' : Nat) (B' : Option Addr) (m' d' : Nat) (D' : Option Addr) (v' q' : Nat) (w : World) (_ha : En w A n c B m d D v q a) (_hb : En w A' n' c' B' m' d' D' v' q' b) :
    Calls Tryd.prog 107 #[entV A n c B m d D v q a, entV A' n' c' B' m' d' D' v' q' b] w fun e w1 => e = .returned (.int .i64 (stepC a b 5)) ∧ Below w.heap.size w w1 := by
  unfold entV
  have HB := Lib.hid (two_boxes w)
  clear _ha _hb
  go_enter Tryd.func107, Tryd.ntmps107
  go_wp2_with (go_at_call 102; go_must (refine (icmp_any _ _ _).mono ?_; rintro e w1 ⟨rfl, rfl⟩))
  go_ret
  exact ⟨rfl, HB.out _ _⟩
set_option maxRecDepth 100000 in
set_option maxHeartbeats 1000000 in
theorem step7_any (a b : Ent) (A : Option Addr) (n c : Nat) (B : Option Addr) (m d : Nat) (D : Option Addr) (v q : Nat) (A' : Option Addr) (n' c' : Nat) (B' : Option Addr) (m' d' : Nat) (D' : Option Addr) (v' q' : Nat) (w : World) (_ha : En w A n c B m d D v q a) (_hb : En w A' n' c' B' m' d' D' v' q' b) :
    Calls Tryd.prog 108 #[entV A n c B m d D v q a, entV A' n' c' B' m' d' D' v' q' b] w fun e w1 => e = .returned (.int .i64 (stepC a b 6)) ∧ Below w.heap.size w w1 := by
  unfold entV
  have HB := Lib.hid (two_boxes w)
  clear _ha _hb
  go_enter Tryd.func108, Tryd.ntmps108
  go_wp2_with (go_at_call 102; go_must (refine (icmp_any _ _ _).mono ?_; rintro e w1 ⟨rfl, rfl⟩))
  go_ret
  exact ⟨rfl, HB.out _ _⟩
set_option maxRecDepth 100000 in
set_option maxHeartbeats 1000000 in
theorem step8_any (a b : Ent) (A : Option Addr) (n c : Nat) (B : Option Addr) (m d : Nat) (D : Option Addr) (v q : Nat) (A' : Option Addr) (n' c' : Nat) (B' : Option Addr) (m' d' : Nat) (D' : Option Addr) (v' q' : Nat) (w : World) (_ha : En w A n c B m d D v q a) (_hb : En w A' n' c' B' m' d' D' v' q' b) :
    Calls Tryd.prog 109 #[entV A n c B m d D v q a, entV A' n' c' B' m' d' D' v' q' b] w fun e w1 => e = .returned (.int .i64 (stepC a b 7)) ∧ Below w.heap.size w w1 := by
  unfold entV
  have HB := Lib.hid (two_boxes w)
  clear _ha _hb
  go_enter Tryd.func109, Tryd.ntmps109
  go_wp2_with (go_at_call 102; go_must (refine (icmp_any _ _ _).mono ?_; rintro e w1 ⟨rfl, rfl⟩))
  go_ret
  exact ⟨rfl, HB.out _ _⟩
set_option maxRecDepth 100000 in
set_option maxHeartbeats 1000000 in
theorem steps_any (w : World) : Calls Tryd.prog 90 #[] w fun e w1 => e = .returned (.agg #[.func (.func 100) #[] #[], .func (.func 101) #[] #[], .func (.func 103) #[] #[], .func (.func 105) #[] #[], .func (.func 106) #[] #[], .func (.func 107) #[] #[], .func (.func 108) #[] #[], .func (.func 109) #[] #[]]) ∧ Below w.heap.size w w1 := by
  go_enter Tryd.func90, Tryd.ntmps90
  go_wp2
  (try simp only [Exit.inBlock, Exit.then])
  refine bodyPost_ret (results_cell_row rfl _ _ w.heap.size 121 _ (0, 0) (.array 8 85) rfl (heap_alloc_new _ _) (by kernel_rfl) rfl (by kernel_rfl)) rfl ?_
  exact ⟨rfl, (Below.refl _ w).alloc (Nat.le_refl _) _⟩
theorem cmpE_first (a b : Ent) (k : Nat) (hk : k < 8) (h : ∀ i, i < k → stepC a b i = 0) (hn : stepC a b k ≠ 0) : stepC a b k = cmpE a b := by
  have z : ∀ i, i < k → stepC a b i = 0 := h
  have hc : cmpE a b = seqC (stepC a b 0) (seqC (stepC a b 1) (seqC (stepC a b 2) (seqC (stepC a b 3) (seqC (stepC a b 4) (seqC (stepC a b 5) (seqC (stepC a b 6) (stepC a b 7))))))) := rfl
  rw [hc]
  have hk' : k = 0 ∨ k = 1 ∨ k = 2 ∨ k = 3 ∨ k = 4 ∨ k = 5 ∨ k = 6 ∨ k = 7 := by omega
  rcases hk' with rfl | rfl | rfl | rfl | rfl | rfl | rfl | rfl
  · simp only [seqC, if_neg hn]
  · simp only [seqC, z 0 (by decide), if_true, if_neg hn]
  · simp only [seqC, z 0 (by decide), z 1 (by decide), if_true, if_neg hn]
  · simp only [seqC, z 0 (by decide), z 1 (by decide), z 2 (by decide), if_true, if_neg hn]
  · simp only [seqC, z 0 (by decide), z 1 (by decide), z 2 (by decide), z 3 (by decide), if_true, if_neg hn]
  · simp only [seqC, z 0 (by decide), z 1 (by decide), z 2 (by decide), z 3 (by decide), z 4 (by decide), if_true, if_neg hn]
  · simp only [seqC, z 0 (by decide), z 1 (by decide), z 2 (by decide), z 3 (by decide), z 4 (by decide), z 5 (by decide), if_true, if_neg hn]
  · simp only [seqC, z 0 (by decide), z 1 (by decide), z 2 (by decide), z 3 (by decide), z 4 (by decide), z 5 (by decide), z 6 (by decide), if_true]
theorem cmpE_none (a b : Ent) (h : ∀ i, i < 8 → stepC a b i = 0) : cmpE a b = 0 := by
  have hc : cmpE a b = seqC (stepC a b 0) (seqC (stepC a b 1) (seqC (stepC a b 2) (seqC (stepC a b 3) (seqC (stepC a b 4) (seqC (stepC a b 5) (seqC (stepC a b 6) (stepC a b 7))))))) := rfl
  rw [hc]
  simp only [seqC, h 0 (by decide), h 1 (by decide), h 2 (by decide), h 3 (by decide), h 4 (by decide), h 5 (by decide), h 6 (by decide), h 7 (by decide), if_true]
structure Two (w : World) (T : TypeId) (c1 c2 : Array Value) (x : World) : Prop where
  up : Below w.heap.size w x
  at1 : ∀ i v, c1[i]? = some v → x.cell? ⟨w.heap.size, i, none⟩ = some v
  at2 : ∀ i v, c2[i]? = some v → x.cell? ⟨w.heap.size + 1, i, none⟩ = some v
  size : w.heap.size + 2 ≤ x.heap.size
theorem Two.new (w : World) (T : TypeId) (c1 c2 : Array Value) : Two w T c1 c2 ((w.alloc (.cells c1 T)).alloc (.cells c2 T)) := by
  have s1 : (w.alloc (.cells c1 T)).heap.size = w.heap.size + 1 := by show (w.heap.push _).size = _; simp
  refine ⟨two_boxes w _ _, fun i v h => ?_, fun i v h => ?_, by show _ ≤ ((w.heap.push _).push _).size; simp⟩
  · rw [World.cell?_alloc_lt _ _ _ (by rw [s1]; exact Nat.lt_succ_self _)]
    simpa using h
  · rw [← s1]; simpa using h
theorem Two.later {w x y : World} {T : TypeId} {c1 c2 : Array Value} (h : Two w T c1 c2 x) (k : Below x.heap.size x y) : Two w T c1 c2 y := by
  have hs := h.size
  exact ⟨h.up.trans (k.mono h.up.size), fun i v e => (k.cell (p := ⟨w.heap.size, i, none⟩) (by show w.heap.size < x.heap.size; omega)).trans (h.at1 i v e),
    fun i v e => (k.cell (p := ⟨w.heap.size + 1, i, none⟩) (by show w.heap.size + 1 < x.heap.size; omega)).trans (h.at2 i v e), Nat.le_trans hs k.size⟩
theorem boxed1 {w x : World} {T : TypeId} {c1 c2 : Array Value} (h : Two w T c1 c2 x) {i : Nat} {v : Value} (e : c1[i]? = some v) : x.cell? ⟨w.heap.size, i, none⟩ = some v := h.at1 i v e
theorem boxed2 {w x : World} {T : TypeId} {c1 c2 : Array Value} (h : Two w T c1 c2 x) {i : Nat} {v : Value} (e : c2[i]? = some v) : x.cell? ⟨w.heap.size + 1, i, none⟩ = some v := h.at2 i v e
theorem below_keep2 {w x y : World} {T : TypeId} {c1 c2 : Array Value} (h : Two w T c1 c2 x) (k : Below x.heap.size x y) : Two w T c1 c2 y := h.later k
theorem below_of_two {w x : World} {T : TypeId} {c1 c2 : Array Value} (h : Two w T c1 c2 x) : Below w.heap.size w x := h.up
theorem idx0 (w : World) : (Instr.index 121 (.agg #[.func (.func 100) #[] #[], .func (.func 101) #[] #[], .func (.func 103) #[] #[], .func (.func 105) #[] #[], .func (.func 106) #[] #[], .func (.func 107) #[] #[], .func (.func 108) #[] #[], .func (.func 109) #[] #[]]) (.int .i64 0)).run Tryd.prog w = .ok (.func (.func 100) #[] #[]) w := run_index_arr w _ 85 8 _ 0 _ (by kernel_rfl) (by kernel_rfl) (by kernel_rfl) (by decide) rfl
theorem idx1 (w : World) : (Instr.index 121 (.agg #[.func (.func 100) #[] #[], .func (.func 101) #[] #[], .func (.func 103) #[] #[], .func (.func 105) #[] #[], .func (.func 106) #[] #[], .func (.func 107) #[] #[], .func (.func 108) #[] #[], .func (.func 109) #[] #[]]) (.int .i64 1)).run Tryd.prog w = .ok (.func (.func 101) #[] #[]) w := run_index_arr w _ 85 8 _ 1 _ (by kernel_rfl) (by kernel_rfl) (by kernel_rfl) (by decide) rfl
theorem idx2 (w : World) : (Instr.index 121 (.agg #[.func (.func 100) #[] #[], .func (.func 101) #[] #[], .func (.func 103) #[] #[], .func (.func 105) #[] #[], .func (.func 106) #[] #[], .func (.func 107) #[] #[], .func (.func 108) #[] #[], .func (.func 109) #[] #[]]) (.int .i64 2)).run Tryd.prog w = .ok (.func (.func 103) #[] #[]) w := run_index_arr w _ 85 8 _ 2 _ (by kernel_rfl) (by kernel_rfl) (by kernel_rfl) (by decide) rfl
theorem idx3 (w : World) : (Instr.index 121 (.agg #[.func (.func 100) #[] #[], .func (.func 101) #[] #[], .func (.func 103) #[] #[], .func (.func 105) #[] #[], .func (.func 106) #[] #[], .func (.func 107) #[] #[], .func (.func 108) #[] #[], .func (.func 109) #[] #[]]) (.int .i64 3)).run Tryd.prog w = .ok (.func (.func 105) #[] #[]) w := run_index_arr w _ 85 8 _ 3 _ (by kernel_rfl) (by kernel_rfl) (by kernel_rfl) (by decide) rfl
theorem idx4 (w : World) : (Instr.index 121 (.agg #[.func (.func 100) #[] #[], .func (.func 101) #[] #[], .func (.func 103) #[] #[], .func (.func 105) #[] #[], .func (.func 106) #[] #[], .func (.func 107) #[] #[], .func (.func 108) #[] #[], .func (.func 109) #[] #[]]) (.int .i64 4)).run Tryd.prog w = .ok (.func (.func 106) #[] #[]) w := run_index_arr w _ 85 8 _ 4 _ (by kernel_rfl) (by kernel_rfl) (by kernel_rfl) (by decide) rfl
theorem idx5 (w : World) : (Instr.index 121 (.agg #[.func (.func 100) #[] #[], .func (.func 101) #[] #[], .func (.func 103) #[] #[], .func (.func 105) #[] #[], .func (.func 106) #[] #[], .func (.func 107) #[] #[], .func (.func 108) #[] #[], .func (.func 109) #[] #[]]) (.int .i64 5)).run Tryd.prog w = .ok (.func (.func 107) #[] #[]) w := run_index_arr w _ 85 8 _ 5 _ (by kernel_rfl) (by kernel_rfl) (by kernel_rfl) (by decide) rfl
theorem idx6 (w : World) : (Instr.index 121 (.agg #[.func (.func 100) #[] #[], .func (.func 101) #[] #[], .func (.func 103) #[] #[], .func (.func 105) #[] #[], .func (.func 106) #[] #[], .func (.func 107) #[] #[], .func (.func 108) #[] #[], .func (.func 109) #[] #[]]) (.int .i64 6)).run Tryd.prog w = .ok (.func (.func 108) #[] #[]) w := run_index_arr w _ 85 8 _ 6 _ (by kernel_rfl) (by kernel_rfl) (by kernel_rfl) (by decide) rfl
theorem idx7 (w : World) : (Instr.index 121 (.agg #[.func (.func 100) #[] #[], .func (.func 101) #[] #[], .func (.func 103) #[] #[], .func (.func 105) #[] #[], .func (.func 106) #[] #[], .func (.func 107) #[] #[], .func (.func 108) #[] #[], .func (.func 109) #[] #[]]) (.int .i64 7)).run Tryd.prog w = .ok (.func (.func 109) #[] #[]) w := run_index_arr w _ 85 8 _ 7 _ (by kernel_rfl) (by kernel_rfl) (by kernel_rfl) (by decide) rfl
theorem Hid.map {p q : Prop} (h : Hid p) (f : p → q) : Hid q := Lib.hid (f h.out)
set_option maxRecDepth 100000 in
set_option maxHeartbeats 4000000 in
theorem compare_any (a b : Ent) (A : Option Addr) (n c : Nat) (B : Option Addr) (m d : Nat) (D : Option Addr) (v q : Nat) (A' : Option Addr) (n' c' : Nat) (B' : Option Addr) (m' d' : Nat) (D' : Option Addr) (v' q' : Nat) (w : World) (ha : En w A n c B m d D v q a) (hb : En w A' n' c' B' m' d' D' v' q' b) :
    Calls Tryd.prog 61 #[entV A n c B m d D v q a, entV A' n' c' B' m' d' D' v' q' b] w fun e w1 => e = .returned (.int .i64 (cmpE a b)) ∧ Below w.heap.size w w1 := by
  have HA : Hid (∀ w1, Below w.heap.size w w1 → En w1 A n c B m d D v q a) := Lib.hid fun _ h => ha.later h
  have HC : Hid (∀ w1, Below w.heap.size w w1 → En w1 A' n' c' B' m' d' D' v' q' b) := Lib.hid fun _ h => hb.later h
  have HT := Lib.hid (Two.new w 37 #[.slice A n c, .int .i64 a.fam, .slice B m d, .int .i64 a.ts, .int .i64 a.seq, .int .i64 a.kind, .slice D v q] #[.slice A' n' c', .int .i64 b.fam, .slice B' m' d', .int .i64 b.ts, .int .i64 b.seq, .int .i64 b.kind, .slice D' v' q'])
  unfold entV
  clear ha hb
  go_enter Tryd.func61, Tryd.ntmps61
  go_wp2_with (go_at_call 90; refine (steps_any _).mono ?_; rintro e w1 ⟨rfl, hb1⟩; have HB1 := Lib.hid (below_keep2 HT.out hb1); clear hb1 HT)
  go_loopw [9] (fun i wr => ∃ k : Nat, k ≤ 8 ∧ i = .int .i64 k ∧ Hid (∀ i, i < k → stepC a b i = 0) ∧ Hid (Two w 37 #[.slice A n c, .int .i64 a.fam, .slice B m d, .int .i64 a.ts, .int .i64 a.seq, .int .i64 a.kind, .slice D v q] #[.slice A' n' c', .int .i64 b.fam, .slice B' m' d', .int .i64 b.ts, .int .i64 b.seq, .int .i64 b.kind, .slice D' v' q'] wr)) (fun i _ => 8 - (intOf i).toNat)
  case atStart => exact ⟨0, by decide, rfl, Lib.hid fun i hi => absurd hi (Nat.not_lt_zero _), HB1⟩
  case round =>
    obtain ⟨k, hk, hi, HF, HW⟩ := hrel
    have HE := Lib.hid (below_of_two HW.out)
    have c10 := boxed1 HW.out (i := 0) (v := .slice A n c) rfl
    have c20 := boxed2 HW.out (i := 0) (v := .slice A' n' c') rfl
    have c11 := boxed1 HW.out (i := 1) (v := .int .i64 a.fam) rfl
    have c21 := boxed2 HW.out (i := 1) (v := .int .i64 b.fam) rfl
    have c12 := boxed1 HW.out (i := 2) (v := .slice B m d) rfl
    have c22 := boxed2 HW.out (i := 2) (v := .slice B' m' d') rfl
    have c13 := boxed1 HW.out (i := 3) (v := .int .i64 a.ts) rfl
    have c23 := boxed2 HW.out (i := 3) (v := .int .i64 b.ts) rfl
    have c14 := boxed1 HW.out (i := 4) (v := .int .i64 a.seq) rfl
    have c24 := boxed2 HW.out (i := 4) (v := .int .i64 b.seq) rfl
    have c15 := boxed1 HW.out (i := 5) (v := .int .i64 a.kind) rfl
    have c25 := boxed2 HW.out (i := 5) (v := .int .i64 b.kind) rfl
    have c16 := boxed1 HW.out (i := 6) (v := .slice D v q) rfl
    have c26 := boxed2 HW.out (i := 6) (v := .slice D' v' q') rfl
    clear HB1
    have hk' : k = 0 ∨ k = 1 ∨ k = 2 ∨ k = 3 ∨ k = 4 ∨ k = 5 ∨ k = 6 ∨ k = 7 ∨ k = 8 := by omega
    clear hk
    rcases hk' with rfl | rfl | rfl | rfl | rfl | rfl | rfl | rfl | rfl
    case inr.inr.inr.inr.inr.inr.inr.inr =>
      replace hi : _ = Value.int .i64 8 := hi
      subst hi
      have HZ := Lib.hid (cmpE_none a b HF.out)
      clear HF HA HC
      go_wp2
      go_ret
      exact ⟨by rw [HZ.out]; rfl, below_of_two HW.out⟩
    case inl =>
      replace hi : _ = Value.int .i64 0 := hi
      subst hi
      have S : ∀ (z : Unit) (_ : Hid True), Calls Tryd.prog 100 #[.agg #[.slice A n c, .int .i64 a.fam, .slice B m d, .int .i64 a.ts, .int .i64 a.seq, .int .i64 a.kind, .slice D v q], .agg #[.slice A' n' c', .int .i64 b.fam, .slice B' m' d', .int .i64 b.ts, .int .i64 b.seq, .int .i64 b.kind, .slice D' v' q']] wr (fun e w1 => e = .returned (.int .i64 (stepC a b 0)) ∧ Below wr.heap.size wr w1) := fun _ _ => step1_any a b _ _ _ _ _ _ _ _ _ _ _ _ _ _ _ _ _ _ wr (HA.out wr HE.out) (HC.out wr HE.out)
      clear HA HC
      have ix := fun w => idx0 w
      by_cases hz : stepC a b 0 = 0
      · have HZ : Hid (∀ i, i < 1 → stepC a b i = 0) := Lib.hid fun i hi => if h : i = 0 then h ▸ hz else HF.out i (by omega)
        rw [hz] at S
        clear hz HF
        go_wp2_with (go_at_call 100; go_must (refine (S () (Lib.hid trivial)).mono ?_); rintro e w2 ⟨rfl, hb2⟩; have HB2 := Lib.hid (below_keep2 HW.out hb2); clear hb2)
        go_roundw
        case measure => decide
        case rel => exact ⟨1, by omega, rfl, HZ, HB2⟩
      · have HZ := Lib.hid (cmpE_first a b 0 (by decide) HF.out hz)
        have t1 : (stepC a b 0 == 0) = false := by simpa using hz
        have t2 : (stepC a b 0 != 0) = true := by simpa using hz
        clear HF hz
        generalize stepC a b 0 = z at S t1 t2 HZ
        go_wp2_with (go_at_call 100; go_must (refine (S () (Lib.hid trivial)).mono ?_); rintro e w2 ⟨rfl, hb2⟩; have HB2 := Lib.hid (below_keep2 HW.out hb2); clear hb2)
        go_ret
        exact ⟨by rw [← HZ.out]; rfl, below_of_two HB2.out⟩
    case inr.inl =>
      replace hi : _ = Value.int .i64 1 := hi
      subst hi
      have S : ∀ (z : Unit) (_ : Hid True), Calls Tryd.prog 101 #[.agg #[.slice A n c, .int .i64 a.fam, .slice B m d, .int .i64 a.ts, .int .i64 a.seq, .int .i64 a.kind, .slice D v q], .agg #[.slice A' n' c', .int .i64 b.fam, .slice B' m' d', .int .i64 b.ts, .int .i64 b.seq, .int .i64 b.kind, .slice D' v' q']] wr (fun e w1 => e = .returned (.int .i64 (stepC a b 1)) ∧ Below wr.heap.size wr w1) := fun _ _ => step2_any a b _ _ _ _ _ _ _ _ _ _ _ _ _ _ _ _ _ _ wr (HA.out wr HE.out) (HC.out wr HE.out)
      clear HA HC
      have ix := fun w => idx1 w
      by_cases hz : stepC a b 1 = 0
      · have HZ : Hid (∀ i, i < 2 → stepC a b i = 0) := Lib.hid fun i hi => if h : i = 1 then h ▸ hz else HF.out i (by omega)
        rw [hz] at S
        clear hz HF
        go_wp2_with (go_at_call 101; go_must (refine (S () (Lib.hid trivial)).mono ?_); rintro e w2 ⟨rfl, hb2⟩; have HB2 := Lib.hid (below_keep2 HW.out hb2); clear hb2)
        go_roundw
        case measure => decide
        case rel => exact ⟨2, by omega, rfl, HZ, HB2⟩
      · have HZ := Lib.hid (cmpE_first a b 1 (by decide) HF.out hz)
        have t1 : (stepC a b 1 == 0) = false := by simpa using hz
        have t2 : (stepC a b 1 != 0) = true := by simpa using hz
        clear HF hz
        generalize stepC a b 1 = z at S t1 t2 HZ
        go_wp2_with (go_at_call 101; go_must (refine (S () (Lib.hid trivial)).mono ?_); rintro e w2 ⟨rfl, hb2⟩; have HB2 := Lib.hid (below_keep2 HW.out hb2); clear hb2)
        go_ret
        exact ⟨by rw [← HZ.out]; rfl, below_of_two HB2.out⟩
    case inr.inr.inl =>
      replace hi : _ = Value.int .i64 2 := hi
      subst hi
      have S : ∀ (z : Unit) (_ : Hid True), Calls Tryd.prog 103 #[.agg #[.slice A n c, .int .i64 a.fam, .slice B m d, .int .i64 a.ts, .int .i64 a.seq, .int .i64 a.kind, .slice D v q], .agg #[.slice A' n' c', .int .i64 b.fam, .slice B' m' d', .int .i64 b.ts, .int .i64 b.seq, .int .i64 b.kind, .slice D' v' q']] wr (fun e w1 => e = .returned (.int .i64 (stepC a b 2)) ∧ Below wr.heap.size wr w1) := fun _ _ => step3_any a b _ _ _ _ _ _ _ _ _ _ _ _ _ _ _ _ _ _ wr (HA.out wr HE.out) (HC.out wr HE.out)
      clear HA HC
      have ix := fun w => idx2 w
      by_cases hz : stepC a b 2 = 0
      · have HZ : Hid (∀ i, i < 3 → stepC a b i = 0) := Lib.hid fun i hi => if h : i = 2 then h ▸ hz else HF.out i (by omega)
        rw [hz] at S
        clear hz HF
        go_wp2_with (go_at_call 103; go_must (refine (S () (Lib.hid trivial)).mono ?_); rintro e w2 ⟨rfl, hb2⟩; have HB2 := Lib.hid (below_keep2 HW.out hb2); clear hb2)
        go_roundw
        case measure => decide
        case rel => exact ⟨3, by omega, rfl, HZ, HB2⟩
      · have HZ := Lib.hid (cmpE_first a b 2 (by decide) HF.out hz)
        have t1 : (stepC a b 2 == 0) = false := by simpa using hz
        have t2 : (stepC a b 2 != 0) = true := by simpa using hz
        clear HF hz
        generalize stepC a b 2 = z at S t1 t2 HZ
        go_wp2_with (go_at_call 103; go_must (refine (S () (Lib.hid trivial)).mono ?_); rintro e w2 ⟨rfl, hb2⟩; have HB2 := Lib.hid (below_keep2 HW.out hb2); clear hb2)
        go_ret
        exact ⟨by rw [← HZ.out]; rfl, below_of_two HB2.out⟩
    case inr.inr.inr.inl =>
      replace hi : _ = Value.int .i64 3 := hi
      subst hi
      have S : ∀ (z : Unit) (_ : Hid True), Calls Tryd.prog 105 #[.agg #[.slice A n c, .int .i64 a.fam, .slice B m d, .int .i64 a.ts, .int .i64 a.seq, .int .i64 a.kind, .slice D v q], .agg #[.slice A' n' c', .int .i64 b.fam, .slice B' m' d', .int .i64 b.ts, .int .i64 b.seq, .int .i64 b.kind, .slice D' v' q']] wr (fun e w1 => e = .returned (.int .i64 (stepC a b 3)) ∧ Below wr.heap.size wr w1) := fun _ _ => step4_any a b _ _ _ _ _ _ _ _ _ _ _ _ _ _ _ _ _ _ wr (HA.out wr HE.out) (HC.out wr HE.out)
      clear HA HC
      have ix := fun w => idx3 w
      by_cases hz : stepC a b 3 = 0
      · have HZ : Hid (∀ i, i < 4 → stepC a b i = 0) := Lib.hid fun i hi => if h : i = 3 then h ▸ hz else HF.out i (by omega)
        rw [hz] at S
        clear hz HF
        go_wp2_with (go_at_call 105; go_must (refine (S () (Lib.hid trivial)).mono ?_); rintro e w2 ⟨rfl, hb2⟩; have HB2 := Lib.hid (below_keep2 HW.out hb2); clear hb2)
        go_roundw
        case measure => decide
        case rel => exact ⟨4, by omega, rfl, HZ, HB2⟩
      · have HZ := Lib.hid (cmpE_first a b 3 (by decide) HF.out hz)
        have t1 : (stepC a b 3 == 0) = false := by simpa using hz
        have t2 : (stepC a b 3 != 0) = true := by simpa using hz
        clear HF hz
        generalize stepC a b 3 = z at S t1 t2 HZ
        go_wp2_with (go_at_call 105; go_must (refine (S () (Lib.hid trivial)).mono ?_); rintro e w2 ⟨rfl, hb2⟩; have HB2 := Lib.hid (below_keep2 HW.out hb2); clear hb2)
        go_ret
        exact ⟨by rw [← HZ.out]; rfl, below_of_two HB2.out⟩
    case inr.inr.inr.inr.inl =>
      replace hi : _ = Value.int .i64 4 := hi
      subst hi
      have S : ∀ (z : Unit) (_ : Hid True), Calls Tryd.prog 106 #[.agg #[.slice A n c, .int .i64 a.fam, .slice B m d, .int .i64 a.ts, .int .i64 a.seq, .int .i64 a.kind, .slice D v q], .agg #[.slice A' n' c', .int .i64 b.fam, .slice B' m' d', .int .i64 b.ts, .int .i64 b.seq, .int .i64 b.kind, .slice D' v' q']] wr (fun e w1 => e = .returned (.int .i64 (stepC a b 4)) ∧ Below wr.heap.size wr w1) := fun _ _ => step5_any a b _ _ _ _ _ _ _ _ _ _ _ _ _ _ _ _ _ _ wr (HA.out wr HE.out) (HC.out wr HE.out)
      clear HA HC
      have ix := fun w => idx4 w
      by_cases hz : stepC a b 4 = 0
      · have HZ : Hid (∀ i, i < 5 → stepC a b i = 0) := Lib.hid fun i hi => if h : i = 4 then h ▸ hz else HF.out i (by omega)
        rw [hz] at S
        clear hz HF
        go_wp2_with (go_at_call 106; go_must (refine (S () (Lib.hid trivial)).mono ?_); rintro e w2 ⟨rfl, hb2⟩; have HB2 := Lib.hid (below_keep2 HW.out hb2); clear hb2)
        go_roundw
        case measure => decide
        case rel => exact ⟨5, by omega, rfl, HZ, HB2⟩
      · have HZ := Lib.hid (cmpE_first a b 4 (by decide) HF.out hz)
        have t1 : (stepC a b 4 == 0) = false := by simpa using hz
        have t2 : (stepC a b 4 != 0) = true := by simpa using hz
        clear HF hz
        generalize stepC a b 4 = z at S t1 t2 HZ
        go_wp2_with (go_at_call 106; go_must (refine (S () (Lib.hid trivial)).mono ?_); rintro e w2 ⟨rfl, hb2⟩; have HB2 := Lib.hid (below_keep2 HW.out hb2); clear hb2)
        go_ret
        exact ⟨by rw [← HZ.out]; rfl, below_of_two HB2.out⟩
    case inr.inr.inr.inr.inr.inl =>
      replace hi : _ = Value.int .i64 5 := hi
      subst hi
      have S : ∀ (z : Unit) (_ : Hid True), Calls Tryd.prog 107 #[.agg #[.slice A n c, .int .i64 a.fam, .slice B m d, .int .i64 a.ts, .int .i64 a.seq, .int .i64 a.kind, .slice D v q], .agg #[.slice A' n' c', .int .i64 b.fam, .slice B' m' d', .int .i64 b.ts, .int .i64 b.seq, .int .i64 b.kind, .slice D' v' q']] wr (fun e w1 => e = .returned (.int .i64 (stepC a b 5)) ∧ Below wr.heap.size wr w1) := fun _ _ => step6_any a b _ _ _ _ _ _ _ _ _ _ _ _ _ _ _ _ _ _ wr (HA.out wr HE.out) (HC.out wr HE.out)
      clear HA HC
      have ix := fun w => idx5 w
      by_cases hz : stepC a b 5 = 0
      · have HZ : Hid (∀ i, i < 6 → stepC a b i = 0) := Lib.hid fun i hi => if h : i = 5 then h ▸ hz else HF.out i (by omega)
        rw [hz] at S
        clear hz HF
        go_wp2_with (go_at_call 107; go_must (refine (S () (Lib.hid trivial)).mono ?_); rintro e w2 ⟨rfl, hb2⟩; have HB2 := Lib.hid (below_keep2 HW.out hb2); clear hb2)
        go_roundw
        case measure => decide
        case rel => exact ⟨6, by omega, rfl, HZ, HB2⟩
      · have HZ := Lib.hid (cmpE_first a b 5 (by decide) HF.out hz)
        have t1 : (stepC a b 5 == 0) = false := by simpa using hz
        have t2 : (stepC a b 5 != 0) = true := by simpa using hz
        clear HF hz
        generalize stepC a b 5 = z at S t1 t2 HZ
        go_wp2_with (go_at_call 107; go_must (refine (S () (Lib.hid trivial)).mono ?_); rintro e w2 ⟨rfl, hb2⟩; have HB2 := Lib.hid (below_keep2 HW.out hb2); clear hb2)
        go_ret
        exact ⟨by rw [← HZ.out]; rfl, below_of_two HB2.out⟩
    case inr.inr.inr.inr.inr.inr.inl =>
      replace hi : _ = Value.int .i64 6 := hi
      subst hi
      have S : ∀ (z : Unit) (_ : Hid True), Calls Tryd.prog 108 #[.agg #[.slice A n c, .int .i64 a.fam, .slice B m d, .int .i64 a.ts, .int .i64 a.seq, .int .i64 a.kind, .slice D v q], .agg #[.slice A' n' c', .int .i64 b.fam, .slice B' m' d', .int .i64 b.ts, .int .i64 b.seq, .int .i64 b.kind, .slice D' v' q']] wr (fun e w1 => e = .returned (.int .i64 (stepC a b 6)) ∧ Below wr.heap.size wr w1) := fun _ _ => step7_any a b _ _ _ _ _ _ _ _ _ _ _ _ _ _ _ _ _ _ wr (HA.out wr HE.out) (HC.out wr HE.out)
      clear HA HC
      have ix := fun w => idx6 w
      by_cases hz : stepC a b 6 = 0
      · have HZ : Hid (∀ i, i < 7 → stepC a b i = 0) := Lib.hid fun i hi => if h : i = 6 then h ▸ hz else HF.out i (by omega)
        rw [hz] at S
        clear hz HF
        go_wp2_with (go_at_call 108; go_must (refine (S () (Lib.hid trivial)).mono ?_); rintro e w2 ⟨rfl, hb2⟩; have HB2 := Lib.hid (below_keep2 HW.out hb2); clear hb2)
        go_roundw
        case measure => decide
        case rel => exact ⟨7, by omega, rfl, HZ, HB2⟩
      · have HZ := Lib.hid (cmpE_first a b 6 (by decide) HF.out hz)
        have t1 : (stepC a b 6 == 0) = false := by simpa using hz
        have t2 : (stepC a b 6 != 0) = true := by simpa using hz
        clear HF hz
        generalize stepC a b 6 = z at S t1 t2 HZ
        go_wp2_with (go_at_call 108; go_must (refine (S () (Lib.hid trivial)).mono ?_); rintro e w2 ⟨rfl, hb2⟩; have HB2 := Lib.hid (below_keep2 HW.out hb2); clear hb2)
        go_ret
        exact ⟨by rw [← HZ.out]; rfl, below_of_two HB2.out⟩
    case inr.inr.inr.inr.inr.inr.inr.inl =>
      replace hi : _ = Value.int .i64 7 := hi
      subst hi
      have S : ∀ (z : Unit) (_ : Hid True), Calls Tryd.prog 109 #[.agg #[.slice A n c, .int .i64 a.fam, .slice B m d, .int .i64 a.ts, .int .i64 a.seq, .int .i64 a.kind, .slice D v q], .agg #[.slice A' n' c', .int .i64 b.fam, .slice B' m' d', .int .i64 b.ts, .int .i64 b.seq, .int .i64 b.kind, .slice D' v' q']] wr (fun e w1 => e = .returned (.int .i64 (stepC a b 7)) ∧ Below wr.heap.size wr w1) := fun _ _ => step8_any a b _ _ _ _ _ _ _ _ _ _ _ _ _ _ _ _ _ _ wr (HA.out wr HE.out) (HC.out wr HE.out)
      clear HA HC
      have ix := fun w => idx7 w
      by_cases hz : stepC a b 7 = 0
      · have HZ : Hid (∀ i, i < 8 → stepC a b i = 0) := Lib.hid fun i hi => if h : i = 7 then h ▸ hz else HF.out i (by omega)
        rw [hz] at S
        clear hz HF
        go_wp2_with (go_at_call 109; go_must (refine (S () (Lib.hid trivial)).mono ?_); rintro e w2 ⟨rfl, hb2⟩; have HB2 := Lib.hid (below_keep2 HW.out hb2); clear hb2)
        go_roundw
        case measure => decide
        case rel => exact ⟨8, by omega, rfl, HZ, HB2⟩
      · have HZ := Lib.hid (cmpE_first a b 7 (by decide) HF.out hz)
        have t1 : (stepC a b 7 == 0) = false := by simpa using hz
        have t2 : (stepC a b 7 != 0) = true := by simpa using hz
        clear HF hz
        generalize stepC a b 7 = z at S t1 t2 HZ
        go_wp2_with (go_at_call 109; go_must (refine (S () (Lib.hid trivial)).mono ?_); rintro e w2 ⟨rfl, hb2⟩; have HB2 := Lib.hid (below_keep2 HW.out hb2); clear hb2)
        go_ret
        exact ⟨by rw [← HZ.out]; rfl, below_of_two HB2.out⟩
end Go.Proofs.YtmigjipfomfacaaDoor
namespace Go.Proofs.YtmigjipfomfacaaDoor
open Go.RowKit
section
variable {w x y : World} {A : Option Addr} {n c : Nat} {l : List UInt8} {row row' : Option Nat}
theorem Reads.apart {_B size : Nat} {xs : List Value} (h : Reads w w.heap.size size A n xs) (hg : w.grownBy y row) (hne : 0 < n → ∀ a, A = some a → some a.block ≠ row) : Reads y y.heap.size size A n xs :=
  ⟨h.1, fun hn => by
    obtain ⟨b, o, rfl, hb, hc⟩ := h.2 hn
    refine ⟨b, o, rfl, Nat.lt_of_lt_of_le hb hg.size, fun j u hu => ?_⟩
    have e : y.cell? ⟨b, o + j, none⟩ = w.cell? ⟨b, o + j, none⟩ := World.cell?_of_block (hg.block b hb (fun e => hne hn _ rfl (e ▸ rfl)))
    exact e.trans (hc j u hu)⟩
theorem Sl.apart (h : Sl w A n c l) (hg : w.grownBy y row) (hne : 0 < n → ∀ a, A = some a → some a.block ≠ row) : Sl y A n c l :=
  ⟨Reads.apart (_B := 0) h.rb hg hne, h.cap, h.lim, h.nil⟩
theorem Sl.block_lt (h : Sl w A n c l) (hn : 0 < n) : ∀ a, A = some a → a.block < w.heap.size := by
  intro a ha
  obtain ⟨b, o, e, hb, _⟩ := h.rb.2 hn
  rw [ha] at e; injection e with e; subst e; exact hb
end
def Fam (w : World) (row : Option Nat) (vs : List Value) (ks : List (List UInt8)) (more : List UInt8) : Prop :=
  vs.length = ks.length ∧ ∀ (i : Nat) (k : List UInt8), ks[i]? = some k → ∃ (a : Option Addr) (c : Nat), vs[i]? = some (.slice a k.length c) ∧ Sl w a (k.length + more.length) c (k ++ more) ∧ ∀ x, a = some x → some x.block ≠ row
section
variable {w x y : World} {row row' : Option Nat} {vs : List Value} {ks : List (List UInt8)} {more : List UInt8}
theorem Fam.nil : Fam w row [] [] more := ⟨rfl, fun i k h => by simp at h⟩
theorem Fam.later (h : Fam w row vs ks more) (hb : Below w.heap.size w x) : Fam x row vs ks more :=
  ⟨h.1, fun i k hk => by obtain ⟨a, c, q1, q2, q3⟩ := h.2 i k hk; exact ⟨a, c, q1, q2.later hb, q3⟩⟩
theorem Fam.step (h : Fam w row vs ks more) (hm : 0 < more.length) (hg : w.grownBy x row) (hr : row' = row ∨ row' = some w.heap.size) : Fam x row' vs ks more :=
  ⟨h.1, fun i k hk => by
    obtain ⟨a, c, q1, q2, q3⟩ := h.2 i k hk
    refine ⟨a, c, q1, q2.apart hg (fun _ => q3), fun z hz => ?_⟩
    rcases hr with rfl | rfl
    · exact q3 z hz
    · have := q2.block_lt (by omega) z hz
      intro e; injection e with e; omega⟩
theorem Fam.snoc (h : Fam w row vs ks more) {a : Option Addr} {c : Nat} {k : List UInt8} (hs : Sl w a (k.length + more.length) c (k ++ more)) (hne : ∀ x, a = some x → some x.block ≠ row) : Fam w row (vs ++ [.slice a k.length c]) (ks ++ [k]) more := by
  refine ⟨by simp [h.1], fun i q hq => ?_⟩
  rw [List.getElem?_append] at hq ⊢
  rw [h.1]
  split at hq
  · rename_i hi
    rw [if_pos hi]; exact h.2 i q hq
  · rename_i hi
    rw [if_neg hi]
    have h0 : i - ks.length = 0 := by
      have := (List.getElem?_eq_some_iff.1 hq).1
      simp at this; omega
    rw [h0] at hq ⊢
    injection hq with hq; subst hq
    exact ⟨a, c, rfl, hs, hne⟩
theorem Fam.kv (h : Fam w row vs ks more) : KV w w.heap.size vs ks :=
  ⟨h.1, fun i k hk => by
    obtain ⟨a, c, q1, q2, _⟩ := h.2 i k hk
    have := q2.take (m := k.length) (by omega)
    rw [List.take_left' rfl] at this
    exact ⟨a, c, q1, this.cap, this.lim, this.nil, this.rb⟩⟩
theorem Fam.at_ (h : Fam w row vs ks more) {i : Nat} {k : List UInt8} (hk : ks[i]? = some k) : ∃ a c, vs[i]? = some (.slice a k.length c) ∧ Sl w a (k.length + more.length) c (k ++ more) := by
  obtain ⟨a, c, q1, q2, _⟩ := h.2 i k hk
  exact ⟨a, c, q1, q2⟩
end
theorem OwnB.far {T : TypeId} {base : Nat} {w : World} {A : Option Addr} {c : Nat} {l : List UInt8} (h : OwnB T base w A c l) {row : Option Nat} (hr : ∀ g, row = some g → g < base) : ∀ a, A = some a → some a.block ≠ row := by
  intro a ha e
  have h1 := hr a.block e.symm
  have h2 := (World.ownsRow.lt h a.block (by rw [ha]; rfl)).1
  omega
theorem own_row_lt {w : World} {base e size n : Nat} {v : Value} {xs : List Value} (h : w.ownsRow base e size v n xs) : ∀ g, v.ownBlock = some g → g < w.heap.size := fun g hg => (World.ownsRow.lt h g hg).2
end Go.Proofs.YtmigjipfomfacaaDoor
namespace Go.Proofs.YtmigjipfomfacaaDoor
open Go.RowKit
structure Chg (S : Nat → Prop) (w w' : World) : Prop where
  os : w'.os = w.os
  tape : w'.tape = w.tape
  output : w'.output = w.output
  size : w.heap.size ≤ w'.heap.size
  block : ∀ k, k < w.heap.size → ¬ S k → w'.heap[k]? = w.heap[k]?
section
variable {S S' : Nat → Prop} {w x y : World} {B : Nat} {row : Option Nat}
theorem Chg.refl (S : Nat → Prop) (w : World) : Chg S w w := ⟨rfl, rfl, rfl, Nat.le_refl _, fun _ _ _ => rfl⟩
theorem Chg.trans (h : Chg S w x) (k : Chg S x y) : Chg S w y :=
  ⟨k.os.trans h.os, k.tape.trans h.tape, k.output.trans h.output, Nat.le_trans h.size k.size, fun i hi hs => (k.block i (Nat.lt_of_lt_of_le hi h.size) hs).trans (h.block i hi hs)⟩
theorem Chg.mono (h : Chg S w x) (hs : ∀ k, k < w.heap.size → S k → S' k) : Chg S' w x := ⟨h.os, h.tape, h.output, h.size, fun k hk hn => h.block k hk fun e => hn (hs k hk e)⟩
theorem Below.chg (h : Below B w x) : Chg (fun k => B ≤ k) w x := ⟨h.os, h.tape, h.output, h.size, fun k _ hn => h.block k (by omega)⟩
theorem Below.chg0 (h : Below w.heap.size w x) : Chg S w x := ⟨h.os, h.tape, h.output, h.size, fun k hk _ => h.block k hk⟩
theorem grown_chg (h : w.grownBy x row) : Chg (fun k => row = some k) w x := ⟨h.os, h.tape, h.output, h.size, fun k hk hn => h.block k hk fun e => hn e.symm⟩
theorem Chg.below (h : Chg S w x) (hB : B ≤ w.heap.size) (hs : ∀ k, k < w.heap.size → S k → B ≤ k) : Below B w x :=
  ⟨h.os, h.tape, h.output, h.size, fun k hk => h.block k (by omega) fun e => by have := hs k (by omega) e; omega⟩
theorem Chg.alloc (h : Chg S w x) (o : Obj) : Chg S w (x.alloc o) := h.trans (Below.chg0 ((Below.refl _ _).alloc (Nat.le_refl _) o))
theorem Chg.setCell (w : World) (p : Addr) (v : Value) : Chg (fun k => k = p.block) w (w.setCell p v) :=
  ⟨rfl, rfl, rfl, by simp [World.setCell], fun k _ hn => Below.heap_setCell _ _ _ _ hn⟩
theorem Chg.cell (h : Chg S w x) {p : Addr} {v : Value} (hc : w.cell? p = some v) (hn : ¬ S p.block) : x.cell? p = some v :=
  (World.cell?_of_block (h.block _ (World.block_lt_of_cell? w p hc) hn)).trans hc
theorem Reads.chg {size n : Nat} {A : Option Addr} {xs : List Value} (h : Reads w w.heap.size size A n xs) (hc : Chg S w x) (hn : 0 < n → ∀ a, A = some a → ¬ S a.block) : Reads x x.heap.size size A n xs :=
  ⟨h.1, fun h0 => by
    obtain ⟨b, o, rfl, hb, hcell⟩ := h.2 h0
    exact ⟨b, o, rfl, Nat.lt_of_lt_of_le hb hc.size, fun j u hu => hc.cell (p := ⟨b, o + j, none⟩) (hcell j u hu) (hn h0 ⟨b, o, none⟩ rfl)⟩⟩
theorem Sl.chg {A : Option Addr} {n c : Nat} {l : List UInt8} (h : Sl w A n c l) (hc : Chg S w x) (hn : 0 < n → ∀ a, A = some a → ¬ S a.block) : Sl x A n c l := ⟨Reads.chg h.rb hc hn, h.cap, h.lim, h.nil⟩
theorem own_chg {base e size n : Nat} {v : Value} {xs : List Value} (h : w.ownsRow base e size v n xs) (hc : Chg S w x) (hn : ∀ g, v.ownBlock = some g → ¬ S g) : x.ownsRow base e size v n xs := by
  refine ⟨h.1, ?_⟩
  rcases h.2 with h | ⟨g, cap, cur, rfl, hb, hg, hr⟩
  · exact .inl h
  · refine .inr ⟨g, cap, cur, rfl, hb, ?_, hr⟩
    rw [hc.block g (Array.getElem?_eq_some_iff.1 hg).1 (hn g rfl)]; exact hg
end
def RowsB (T : TypeId) (base : Nat) (w : World) (rs : List (Option Addr × Nat × List UInt8)) : Prop :=
  (∀ (i : Nat) r, rs[i]? = some r → OwnB T base w r.1 r.2.1 r.2.2) ∧ ∀ (i j : Nat) r s, rs[i]? = some r → rs[j]? = some s → i ≠ j → ∀ a b, r.1 = some a → s.1 = some b → a.block ≠ b.block
section
variable {T : TypeId} {base : Nat} {w x : World} {rs : List (Option Addr × Nat × List UInt8)} {S : Nat → Prop}
theorem RowsB.nil : RowsB T base w [] := ⟨fun i r h => by simp at h, fun i j r s h => by simp at h⟩
theorem RowsB.chg (h : RowsB T base w rs) (hc : Chg S w x) (hn : ∀ (i : Nat) r, rs[i]? = some r → ∀ a, r.1 = some a → ¬ S a.block) : RowsB T base x rs :=
  ⟨fun i r hr => own_chg (h.1 i r hr) hc fun g hg => by
    obtain ⟨A, c, l⟩ := r
    cases A with
    | none => cases hg
    | some a => injection hg with hg; subst hg; exact hn i _ hr a rfl, h.2⟩
theorem RowsB.later (h : RowsB T base w rs) (hb : Below w.heap.size w x) : RowsB T base x rs := h.chg (S := fun _ => False) (Below.chg0 hb) fun _ _ _ _ _ e => e
theorem OwnB.lt {A : Option Addr} {c : Nat} {l : List UInt8} (h : OwnB T base w A c l) {a : Addr} (ha : A = some a) : base ≤ a.block ∧ a.block < w.heap.size := by
  subst ha; exact World.ownsRow.lt h a.block rfl
theorem OwnB.zero {A : Option Addr} {c : Nat} {l : List UInt8} (h : OwnB T base w A c l) {a : Addr} (ha : A = some a) : a = ⟨a.block, 0, none⟩ := by
  subst ha
  rcases h.2 with ⟨e, _⟩ | ⟨g, cap, cur, e, _⟩
  · cases e
  · injection e with e; injection e with e; subst e; rfl
theorem RowsB.snoc (h : RowsB T base w rs) {A : Option Addr} {c : Nat} {l : List UInt8} (ho : OwnB T base w A c l) (hne : ∀ (i : Nat) r, rs[i]? = some r → ∀ a b, r.1 = some a → A = some b → a.block ≠ b.block) : RowsB T base w (rs ++ [(A, c, l)]) := by
  have hget : ∀ (i : Nat) r, (rs ++ [(A, c, l)])[i]? = some r → (i < rs.length ∧ rs[i]? = some r) ∨ (i = rs.length ∧ r = (A, c, l)) := by
    intro i r hr
    rw [List.getElem?_append] at hr
    split at hr
    · rename_i hi; exact .inl ⟨hi, hr⟩
    · rename_i hi
      have h0 : i - rs.length = 0 := by
        have := (List.getElem?_eq_some_iff.1 hr).1
        simp at this; omega
      rw [h0] at hr
      injection hr with hr
      exact .inr ⟨by omega, hr.symm⟩
  refine ⟨fun i r hr => ?_, fun i j r s hr hs hij a b ha hb => ?_⟩
  · rcases hget i r hr with ⟨_, h1⟩ | ⟨_, rfl⟩
    · exact h.1 i r h1
    · exact ho
  · rcases hget i r hr with ⟨h0, h1⟩ | ⟨h0, rfl⟩ <;> rcases hget j s hs with ⟨k0, k1⟩ | ⟨k0, rfl⟩
    · exact h.2 i j r s h1 k1 hij a b ha hb
    · exact hne i r h1 a b ha hb
    · exact fun e => hne j s k1 b a hb ha e.symm
    · omega
theorem RowsB.fresh (h : RowsB T base w rs) (hb : Below w.heap.size w x) {A : Option Addr} {c : Nat} {l : List UInt8} (ho : OwnB T w.heap.size x A c l) (hle : base ≤ w.heap.size) : RowsB T base x (rs ++ [(A, c, l)]) :=
  (h.later hb).snoc (ho.rebase hle) fun i r hr a b ha hb' e => by
    have h1 := ((h.1 i r hr).lt ha).2
    have h2 := (ho.lt hb').1
    omega
theorem u8s_set5 (l : List UInt8) (k : Nat) (x : UInt8) : (u8s l).set k (u8v x) = u8s (l.set k x) := by
  unfold u8s
  rw [List.map_set]
theorem RowsB.store (h : RowsB T base w rs) {i k g c : Nat} {l : List UInt8} (hr : rs[i]? = some (some ⟨g, 0, none⟩, c, l)) (u : UInt8) :
    RowsB T base (w.setCell ⟨g, k, none⟩ (u8v u)) (rs.set i (some ⟨g, 0, none⟩, c, l.set k u)) ∧ Chg (fun b => b = g) w (w.setCell ⟨g, k, none⟩ (u8v u)) := by
  have hC := Chg.setCell w ⟨g, k, none⟩ (u8v u)
  have ho := h.1 i _ hr
  have hs := World.ownsRow.stored ho k (u8v u)
  rw [u8s_set5] at hs
  have hlt : i < rs.length := (List.getElem?_eq_some_iff.1 hr).1
  have hget : ∀ (j : Nat) r, (rs.set i (some ⟨g, 0, none⟩, c, l.set k u))[j]? = some r → (j = i ∧ r = (some ⟨g, 0, none⟩, c, l.set k u)) ∨ (j ≠ i ∧ rs[j]? = some r) := by
    intro j r hj
    rw [List.getElem?_set] at hj
    by_cases e : i = j
    · subst e
      rw [if_pos rfl, if_pos hlt] at hj
      injection hj with hj
      exact .inl ⟨rfl, hj.symm⟩
    · rw [if_neg e] at hj
      exact .inr ⟨fun h => e h.symm, hj⟩
  refine ⟨⟨fun j r hj => ?_, fun j q r s hj hq hjq a b ha hb => ?_⟩, hC⟩
  · rcases hget j r hj with ⟨rfl, rfl⟩ | ⟨hne, hj⟩
    · have := hs.1
      show World.ownsRow _ _ _ _ _ _ _
      rw [List.length_set]
      exact this
    · refine own_chg (h.1 j r hj) hC fun b hb e => ?_
      obtain ⟨A, c', l'⟩ := r
      cases A with
      | none => cases hb
      | some a =>
        injection hb with hb
        subst hb
        exact h.2 j i _ _ hj hr hne a ⟨g, 0, none⟩ rfl rfl e
  · rcases hget j r hj with ⟨rfl, rfl⟩ | ⟨hne, hj1⟩ <;> rcases hget q s hq with ⟨rfl, rfl⟩ | ⟨hne', hq1⟩
    · exact absurd rfl hjq
    · injection ha with ha; subst ha
      exact h.2 j q _ s hr hq1 hjq _ b rfl hb
    · injection hb with hb; subst hb
      exact h.2 j q r _ hj1 hr hjq a _ ha rfl
    · exact h.2 j q r s hj1 hq1 hjq a b ha hb
end
theorem spot_none6 {w : World} {a : Addr} {v : Value} (h : w.cell? a = some v) : a.spot = none := by
  unfold World.cell? at h
  split at h
  · split at h
    · cases h
    · rename_i h'; simpa using h'
  · cases h
section
variable {P : Program} (w : World)
theorem run_append_cells {t ty e : TypeId} {bytes : Nat} (hs : SliceOf P t e 1 bytes) (base : Nat) (v : Value) (n : Nat) (xs : List Value) (hown : w.ownsRow base e 1 v n xs)
    (B : Nat) (A : Option Addr) (m c : Nat) (news : List Value) (hr : Reads w B 1 A m news) (h1 : ∀ u ∈ news, u.oneCell' = true)
    (h63 : n + m ≤ maxLen) (hbytes : (n + m) * bytes ≤ 140737488355328) (hbase : base ≤ w.heap.size) :
    ∃ v' w', (Builtin.append_ #[t, t] ty #[v, .slice A m c]).run P w = .ok v' w' ∧ w'.ownsRow base e 1 v' (n + m) (xs ++ news) ∧ w.grownBy w' v.ownBlock ∧
      (v'.ownBlock = v.ownBlock ∨ v'.ownBlock = some w.heap.size) ∧ w'.ownsRow base e 1 v n xs ∧
      (∀ p u, w.cell? p = some u → w'.cell? p = some u ∨ (some p.block = v.ownBlock ∧ p.spot = none ∧ n ≤ p.off ∧ p.off < n + m ∧ w'.cell? p = news[p.off - n]?)) := by
  obtain ⟨v', w', hrun, q1, q2, q3⟩ := run_append_reads (P := P) w (ty := ty) hs base v n xs hown B A m c news hr h1 h63 hbytes hbase
  refine ⟨v', w', hrun, q1, q2, q3, ?_⟩
  -- where nothing that was there turns
  have still : (∀ k, k < w.heap.size → w'.heap[k]? = w.heap[k]?) → w'.ownsRow base e 1 v n xs ∧ (∀ p u, w.cell? p = some u → w'.cell? p = some u ∨ (some p.block = v.ownBlock ∧ p.spot = none ∧ n ≤ p.off ∧ p.off < n + m ∧ w'.cell? p = news[p.off - n]?)) := fun hk => by
    have hb : Below w.heap.size w w' := ⟨q2.os, q2.tape, q2.output, q2.size, hk⟩
    exact ⟨own_below hown hb, fun p u hp => .inl (cell_below hb hp)⟩
  obtain ⟨ht, ⟨i, z, hi, hz, hsize, hby, hzs⟩, hsz⟩ := hs
  rcases hown.2 with ⟨rfl, rfl⟩ | ⟨g, cap, cur, rfl, hbg, hg, hnc, hcm, hcs, htake⟩
  · exact still fun k hk => q2.block k hk (by simp [Value.ownBlock])
  · rcases A with _ | ad
    · have hm : m = 0 := by
        rcases Nat.eq_zero_or_pos m with h0 | h0
        · exact h0
        · obtain ⟨b, o, h, _⟩ := hr.2 h0
          cases h
      subst hm
      have hrun' := run_append_of_nil w base t ty e i 1 ht hi (.slice (some ⟨g, 0, none⟩) n cap) n xs hown c
      rw [hrun'] at hrun
      injection hrun with hv hw
      subst hw
      exact still fun _ _ => rfl
    · have hcells : ∀ j u, news[j]? = some u → w.cell? (ad.add j) = some u := by
        intro j u hu
        rcases Nat.eq_zero_or_pos m with h0 | h0
        · subst h0
          have hn : news = [] := List.eq_nil_of_length_eq_zero (by simpa using hr.1)
          subst hn
          simp at hu
        · obtain ⟨b, o, h, _, hc⟩ := hr.2 h0
          injection h with h
          subst h
          have := hc j u hu
          unfold Addr.add
          split
          · rename_i h0; subst h0; exact this
          · exact this
      have hnl : news.length = m := by have := hr.1; omega
      have hcl : cur.size = cap := by rw [hcs, Nat.mul_one]
      by_cases hroom : n + m ≤ cap
      · have hrun' := run_append_room (P := P) w t ty e i ht hi g n cap cur hg ad m c news (by rw [hsize, Nat.mul_one]; exact hnl) hcells h1 hroom (by rw [hsize, Nat.mul_one, hnl]; omega)
        rw [hrun'] at hrun
        injection hrun with hv hw
        rw [hsize, Nat.mul_one, hnl] at hw
        obtain ⟨cs, hcsd⟩ : ∃ cs : List Value, cs = cur.toList.take n ++ news ++ cur.toList.drop (n + m) := ⟨_, rfl⟩
        rw [← hcsd] at hw
        have hclen : cs.length = cap := by
          rw [hcsd, List.length_append, List.length_append, List.length_take, List.length_drop, Array.length_toList, hcl, hnl]; omega
        have hgw : w'.heap[g]? = some (.cells cs.toArray e (0, 0)) := by rw [← hw]; exact setRow_heap w g cur _ e _ hg
        have hcell : ∀ j, w'.cell? ⟨g, j, none⟩ = cs[j]? := fun j => by
          rw [cell_of_row w' g j _ e _ hgw]; simp
        have hcell0 : ∀ j, w.cell? ⟨g, j, none⟩ = cur.toList[j]? := fun j => by
          rw [cell_of_row w g j _ e _ hg]; simp
        refine ⟨⟨hown.1, .inr ⟨g, cap, cs.toArray, rfl, hbg, hgw, hnc, hcm, by simp [hclen], ?_⟩⟩, fun p u hp => ?_⟩
        · have htl : (cur.toList.take n).length = n := by rw [List.length_take, Array.length_toList, hcl]; omega
          rw [Nat.mul_one] at htake ⊢
          show cs.take n = xs
          rw [hcsd, List.append_assoc, List.take_left' htl]
          exact htake
        · by_cases hpg : p.block = g
          · have hsp := spot_none6 hp
            obtain ⟨pb, po, ps⟩ := p
            simp at hpg hsp
            subst hpg; subst hsp
            rw [hcell0] at hp
            by_cases h2 : n ≤ po ∧ po < n + m
            · refine .inr ⟨rfl, rfl, h2.1, h2.2, ?_⟩
              rw [hcell, hcsd, List.getElem?_append_left (by rw [List.length_append, List.length_take, Array.length_toList, hcl, hnl]; omega), List.getElem?_append_right (by rw [List.length_take, Array.length_toList, hcl]; omega)]
              rw [List.length_take, Array.length_toList, hcl, Nat.min_eq_left (by omega)]
            · refine .inl ?_
              rw [hcell, hcsd]
              by_cases h3 : po < n
              · rw [List.append_assoc, List.getElem?_append_left (by rw [List.length_take, Array.length_toList, hcl]; omega), List.getElem?_take_of_lt h3]
                exact hp
              · rw [List.getElem?_append_right (by rw [List.length_append, List.length_take, Array.length_toList, hcl, hnl]; omega), List.getElem?_drop, List.length_append, List.length_take, Array.length_toList, hcl, hnl, Nat.min_eq_left (by omega)]
                rw [show n + m + (po - (n + m)) = po from by omega]
                exact hp
          · exact .inl (q2.cell hp (fun e => hpg (by injection e)))
      · have holds : ∀ j u, xs[j]? = some u → w.cell? ((⟨g, 0, none⟩ : Addr).add j) = some u := hown.cells (g := g) rfl
        have hrun' := run_append_grow (P := P) w t ty e i z ht hi hz ⟨g, 0, none⟩ n cap xs (by rw [hsize]; exact hown.1) holds ad m c news (by rw [hsize, Nat.mul_one]; exact hnl) hcells (by omega) (by unfold maxLen at h63; omega) (growslice_fits (by omega) (by rw [hby]; exact hbytes))
        rw [hrun'] at hrun
        injection hrun with hv hw
        refine still fun k hk => ?_
        rw [← hw]
        exact heap_alloc_old w.drew _ hk
end
end Go.Proofs.YtmigjipfomfacaaDoor
namespace Go.Proofs.YtmigjipfomfacaaDoor
open Go.RowKit
def FamS (w : World) (row : Option Nat) (vs : List Value) (ks : List (List UInt8)) : Prop :=
  vs.length = ks.length ∧ ∀ (i : Nat) (k : List UInt8), ks[i]? = some k → ∃ (a : Option Addr) (c : Nat), vs[i]? = some (.slice a k.length c) ∧ Sl w a k.length c k ∧ (0 < k.length → ∀ x, a = some x → some x.block ≠ row)
section
variable {w x y : World} {row row' : Option Nat} {vs : List Value} {ks : List (List UInt8)} {S : Nat → Prop}
theorem FamS.nil : FamS w row [] [] := ⟨rfl, fun i k h => by simp at h⟩
theorem FamS.chg (h : FamS w row vs ks) (hc : Chg S w x) (hn : ∀ (i : Nat) (k : List UInt8) (a : Addr) (n c : Nat), ks[i]? = some k → 0 < k.length → vs[i]? = some (.slice (some a) n c) → ¬ S a.block) : FamS x row vs ks :=
  ⟨h.1, fun i k hk => by
    obtain ⟨a, c, q1, q2, q3⟩ := h.2 i k hk
    refine ⟨a, c, q1, q2.chg hc fun h0 b hb => ?_, q3⟩
    subst hb
    exact hn i k b _ c hk h0 q1⟩
theorem FamS.later (h : FamS w row vs ks) (hb : Below w.heap.size w x) : FamS x row vs ks :=
  ⟨h.1, fun i k hk => by obtain ⟨a, c, q1, q2, q3⟩ := h.2 i k hk; exact ⟨a, c, q1, q2.later hb, q3⟩⟩
theorem FamS.step (h : FamS w row vs ks) (hg : w.grownBy x row) (hr : row' = row ∨ row' = some w.heap.size) : FamS x row' vs ks :=
  ⟨h.1, fun i k hk => by
    obtain ⟨a, c, q1, q2, q3⟩ := h.2 i k hk
    refine ⟨a, c, q1, q2.apart hg q3, fun h0 z hz => ?_⟩
    rcases hr with rfl | rfl
    · exact q3 h0 z hz
    · have := q2.block_lt h0 z hz
      intro e; injection e with e; omega⟩
theorem FamS.snoc (h : FamS w row vs ks) {a : Option Addr} {c n : Nat} {k : List UInt8} (hs : Sl w a n c k) (hne : 0 < k.length → ∀ x, a = some x → some x.block ≠ row) : FamS w row (vs ++ [.slice a n c]) (ks ++ [k]) := by
  obtain rfl := hs.len
  refine ⟨by simp [h.1], fun i q hq => ?_⟩
  rw [List.getElem?_append] at hq ⊢
  rw [h.1]
  split at hq
  · rename_i hi
    rw [if_pos hi]; exact h.2 i q hq
  · rename_i hi
    rw [if_neg hi]
    have h0 : i - ks.length = 0 := by
      have := (List.getElem?_eq_some_iff.1 hq).1
      simp at this; omega
    rw [h0] at hq ⊢
    injection hq with hq; subst hq
    exact ⟨a, c, rfl, hs, hne⟩
theorem FamS.kv (h : FamS w row vs ks) : KV w w.heap.size vs ks :=
  ⟨h.1, fun i k hk => by
    obtain ⟨a, c, q1, q2, _⟩ := h.2 i k hk
    exact ⟨a, c, q1, q2.cap, q2.lim, q2.nil, q2.rb⟩⟩
theorem FamS.at_ (h : FamS w row vs ks) {i : Nat} {k : List UInt8} (hk : ks[i]? = some k) : ∃ a c, vs[i]? = some (.slice a k.length c) ∧ Sl w a k.length c k := by
  obtain ⟨a, c, q1, q2, _⟩ := h.2 i k hk
  exact ⟨a, c, q1, q2⟩
end
def fillTo (l : List UInt8) (m : UInt8) (k : Nat) : List UInt8 := List.replicate k m ++ l.drop k
theorem fillTo_zero (l : List UInt8) (m : UInt8) : fillTo l m 0 = l := by simp [fillTo]
theorem fillTo_len {l : List UInt8} {k : Nat} (m : UInt8) (h : k ≤ l.length) : (fillTo l m k).length = l.length := by simp [fillTo]; omega
theorem fillTo_all (l : List UInt8) (m : UInt8) : fillTo l m l.length = List.replicate l.length m := by simp [fillTo]
theorem fillTo_set {l : List UInt8} {k : Nat} (m : UInt8) (h : k < l.length) : (fillTo l m k).set k m = fillTo l m (k + 1) := by
  unfold fillTo
  rw [List.set_append_right _ _ (by simp), List.length_replicate, Nat.sub_self, List.drop_eq_getElem_cons h]
  rw [List.set_cons_zero, List.replicate_succ']
  simp
theorem rep_at (n : Nat) (m : UInt8) {k : Nat} (h : k < n) : (List.replicate n m)[k]? = some m := by simp [h]
theorem own_prefix {T : TypeId} {base : Nat} {w w1 : World} {a : Addr} {c : Nat} {l : List UInt8} {v : Value} {n : Nat} {xs : List Value} (h1 : OwnB T base w (some a) c l) (h2 : w.ownsRow base T 1 v n xs) (hb : v.ownBlock = some a.block) (h3 : w1.ownsRow base T 1 v n xs) (hn : l.length ≤ n) : OwnB T base w1 (some a) c l := by
  rcases h1.2 with ⟨e, _⟩ | ⟨g, cap, cur, e, hg1, hg2, hc1, hc2, hc3, hc4⟩
  · cases e
  injection e with e0 _ e2
  injection e0 with e0
  subst e0; subst e2
  rcases h2.2 with ⟨rfl, _⟩ | ⟨g', cap', cur', rfl, k1, k2, k3, k4, k5, k6⟩
  · cases hb
  injection hb with hb
  obtain rfl : g' = g := hb
  rw [hg2] at k2
  injection k2 with k2; injection k2 with k2
  subst k2
  rcases h3.2 with ⟨e, _⟩ | ⟨g2, cap2, cur2, e, j1, j2, j3, j4, j5, j6⟩
  · cases e
  injection e with e0 _ e2
  injection e0 with e0; injection e0 with e0
  subst e0; subst e2
  refine ⟨h1.1, .inr ⟨g', c, cur2, rfl, hg1, j2, hc1, hc2, by omega, ?_⟩⟩
  rw [← hc4]
  have e1 : cur.toList.take (l.length * 1) = (cur.toList.take (n * 1)).take (l.length * 1) := by rw [List.take_take, Nat.min_eq_left (by omega)]
  have e2 : cur2.toList.take (l.length * 1) = (cur2.toList.take (n * 1)).take (l.length * 1) := by rw [List.take_take, Nat.min_eq_left (by omega)]
  rw [e1, e2, k6, j6]
theorem own_under {T : TypeId} {base : Nat} {w w1 : World} {A : Option Addr} {c : Nat} {l : List UInt8} {v : Value} {n : Nat} {xs : List Value} (h1 : OwnB T base w A c l) (h2 : w.ownsRow base T 1 v n xs) (hg : w.grownBy w1 v.ownBlock) (h3 : w1.ownsRow base T 1 v n xs) (hn : l.length ≤ n) : OwnB T base w1 A c l := by
  cases A with
  | none => exact own_chg h1 (grown_chg hg) fun g hg => by cases hg
  | some a =>
    by_cases hb : v.ownBlock = some a.block
    · exact own_prefix h1 h2 hb h3 hn
    · exact own_chg h1 (grown_chg hg) fun g hg' e => by
        injection hg' with hg'
        rw [e] at hb
        exact hb (by rw [hg'])
section
variable {P : Program} (w : World)
theorem wp_append_cells {o : Oper} {a : Act} {K : Act → World → Prop} {Q : Exit → Act → World → Prop} (s x : Operand) {t e : TypeId} {bytes : Nat}
    (ho : o.op = .call { callee := .builtin .append, args := #[s, x], argTypes := #[t, t] }) (hS : SliceOf P t e 1 bytes)
    (base : Nat) (v : Value) (n : Nat) (xs : List Value) (hs : a.eval s = v) (hown : w.ownsRow base e 1 v n xs)
    (B : Nat) (A : Option Addr) (m c : Nat) (news : List Value) (hx : a.eval x = .slice A m c) (hr : Reads w B 1 A m news) (h1 : ∀ u ∈ news, u.oneCell' = true)
    (h63 : n + m ≤ maxLen) (hbytes : (n + m) * bytes ≤ 140737488355328) (hbase : base ≤ w.heap.size)
    (h : ∀ v' w', w'.ownsRow base e 1 v' (n + m) (xs ++ news) → w.grownBy w' v.ownBlock → (v'.ownBlock = v.ownBlock ∨ v'.ownBlock = some w.heap.size) → w'.ownsRow base e 1 v n xs →
      (∀ p u, w.cell? p = some u → w'.cell? p = some u ∨ (some p.block = v.ownBlock ∧ p.spot = none ∧ n ≤ p.off ∧ p.off < n + m ∧ w'.cell? p = news[p.off - n]?)) → K (a.put o.dst v') w') : o.wp P a w K Q := by
  obtain ⟨v', w', hrun, h2, h3, h4, h5, h6⟩ := run_append_cells (P := P) w (ty := o.type) hS base v n xs hown B A m c news hr h1 h63 hbytes hbase
  unfold Oper.wp execOp
  simp only [ho, resolve, invoke, builtin, Sem.run_bind, Sem.run_pure, Result.andThen_ok, List.map_toArray, List.map_cons, List.map_nil, hs, hx, hrun]
  exact h v' w' h2 h3 h4 h5 h6
theorem wpList_append_cells {ops : Array Oper} {rest : List Oper} {o : Oper} {a : Act} {Q : Exit → Act → World → Prop} (hgd : o.guard = none) (s x : Operand) {t e : TypeId} {bytes : Nat}
    (ho : o.op = .call { callee := .builtin .append, args := #[s, x], argTypes := #[t, t] }) (hS : SliceOf P t e 1 bytes)
    (base : Nat) (v : Value) (n : Nat) (xs : List Value) (hs : a.eval s = v) (hown : w.ownsRow base e 1 v n xs)
    (B : Nat) (A : Option Addr) (m c : Nat) (news : List Value) (hx : a.eval x = .slice A m c) (hr : Reads w B 1 A m news) (h1 : ∀ u ∈ news, u.oneCell' = true)
    (h63 : n + m ≤ maxLen) (hbytes : (n + m) * bytes ≤ 140737488355328) (hbase : base ≤ w.heap.size)
    (h : ∀ v' w', w'.ownsRow base e 1 v' (n + m) (xs ++ news) → w.grownBy w' v.ownBlock → (v'.ownBlock = v.ownBlock ∨ v'.ownBlock = some w.heap.size) → w'.ownsRow base e 1 v n xs →
      (∀ p u, w.cell? p = some u → w'.cell? p = some u ∨ (some p.block = v.ownBlock ∧ p.spot = none ∧ n ≤ p.off ∧ p.off < n + m ∧ w'.cell? p = news[p.off - n]?)) → wpList P ops Q rest (a.put o.dst v') w') : wpList P ops Q (o :: rest) a w :=
  wpList_plain hgd fun _ hK => wp_append_cells w s x ho hS base v n xs hs hown B A m c news hx hr h1 h63 hbytes hbase fun v' w' h2 h3 h4 h5 h6 => hK _ _ (h v' w' h2 h3 h4 h5 h6)
end
theorem grown_at {H0 : Nat} {r r' row : Option Nat} {H : Nat} (h : r = row ∨ ∀ g, r = some g → H0 ≤ g) (hat : r' = r ∨ r' = some H) (hle : H0 ≤ H) : r' = row ∨ ∀ g, r' = some g → H0 ≤ g := by
  rcases hat with rfl | rfl
  · exact h
  · exact .inr fun g hg => by injection hg with hg; omega
theorem grown_keep {w x y : World} {r row : Option Nat} (h : w.grownBy x row) (k : x.grownBy y r) (hr : r = row ∨ ∀ g, r = some g → w.heap.size ≤ g) : w.grownBy y row :=
  ⟨k.os.trans h.os, k.tape.trans h.tape, k.output.trans h.output, Nat.le_trans h.size k.size, fun i hi hn => (k.block i (Nat.lt_of_lt_of_le hi h.size) (fun e => by
    rcases hr with rfl | hr
    · exact hn e
    · have := hr i e.symm; omega)).trans (h.block i hi hn)⟩
end Go.Proofs.YtmigjipfomfacaaDoor
namespace Go.Proofs.YtmigjipfomfacaaDoor
open Go.RowKit
abbrev RowL := List (Option Addr × Nat × List UInt8)
def fillR (mk : Nat → UInt8) (rs : RowL) (k : Nat) : RowL := rs.mapIdx fun i r => if i < k then (r.1, r.2.1, List.replicate r.2.2.length (mk i)) else r
theorem fillR_len (mk : Nat → UInt8) (rs : RowL) (k : Nat) : (fillR mk rs k).length = rs.length := by simp [fillR]
theorem fillR_get (mk : Nat → UInt8) (rs : RowL) (k i : Nat) : (fillR mk rs k)[i]? = rs[i]?.map fun r => if i < k then (r.1, r.2.1, List.replicate r.2.2.length (mk i)) else r := by simp [fillR, List.getElem?_mapIdx]
theorem fillR_zero (mk : Nat → UInt8) (rs : RowL) : fillR mk rs 0 = rs := by
  apply List.ext_getElem?
  intro i
  rw [fillR_get]
  cases rs[i]? <;> simp
theorem fillR_start {mk : Nat → UInt8} {rs : RowL} {j : Nat} {A : Option Addr} {c : Nat} {l : List UInt8} (h : rs[j]? = some (A, c, l)) (m : UInt8) : (fillR mk rs j).set j (A, c, fillTo l m 0) = fillR mk rs j := by
  apply List.ext_getElem?
  intro i
  rw [List.getElem?_set, fillTo_zero, fillR_len]
  by_cases e : j = i
  · subst e
    rw [if_pos rfl, if_pos (List.getElem?_eq_some_iff.1 h).1, fillR_get, h]
    simp
  · rw [if_neg e]
theorem fillR_done {mk : Nat → UInt8} {rs : RowL} {j : Nat} {A : Option Addr} {c : Nat} {l : List UInt8} (h : rs[j]? = some (A, c, l)) : (fillR mk rs j).set j (A, c, fillTo l (mk j) l.length) = fillR mk rs (j + 1) := by
  apply List.ext_getElem?
  intro i
  rw [List.getElem?_set, fillTo_all, fillR_len, fillR_get, fillR_get]
  by_cases e : j = i
  · subst e
    rw [if_pos rfl, if_pos (List.getElem?_eq_some_iff.1 h).1, h]
    simp
  · rw [if_neg e]
    congr 1
    funext r
    by_cases h1 : i < j
    · rw [if_pos h1, if_pos (by omega)]
    · rw [if_neg h1, if_neg (by omega)]
section
variable {T : TypeId} {base : Nat} {w x : World} {rs : RowL} {mk : Nat → UInt8}
theorem RowsB.fill {j k g c : Nat} {l : List UInt8} (h : RowsB T base w ((fillR mk rs j).set j (some ⟨g, 0, none⟩, c, fillTo l (mk j) k))) (hr : rs[j]? = some (some ⟨g, 0, none⟩, c, l)) (hk : k < l.length) :
    RowsB T base (w.setCell ⟨g, k, none⟩ (u8v (mk j))) ((fillR mk rs j).set j (some ⟨g, 0, none⟩, c, fillTo l (mk j) (k + 1))) ∧ Chg (fun b => b = g) w (w.setCell ⟨g, k, none⟩ (u8v (mk j))) := by
  have hlt := (List.getElem?_eq_some_iff.1 hr).1
  have h2 := h.store (i := j) (k := k) (g := g) (c := c) (l := fillTo l (mk j) k) (by rw [List.getElem?_set, if_pos rfl, if_pos (by rw [fillR_len]; exact hlt)]) (mk j)
  rw [List.set_set, fillTo_set _ hk] at h2
  exact h2
theorem RowsB.cell {i g c k : Nat} {l : List UInt8} (h : RowsB T base w rs) (hr : rs[i]? = some (some ⟨g, 0, none⟩, c, l)) {u : UInt8} (hk : l[k]? = some u) : w.cell? ⟨g, k, none⟩ = some (.int .u8 (u.toNat : Int)) ∧ w.frozen? ⟨g, k, none⟩ = false := by
  have ho : OwnB T base w (some ⟨g, 0, none⟩) c l := h.1 i _ hr
  have hlt := (List.getElem?_eq_some_iff.1 hk).1
  exact ⟨(World.ownsRow.cellAt ho k (by omega)).trans (u8s_at hk), World.ownsRow.frozenAt ho k⟩
theorem RowsB.form {i c : Nat} {A : Option Addr} {l : List UInt8} (h : RowsB T base w rs) (hr : rs[i]? = some (A, c, l)) (hl : 0 < l.length) : ∃ g, A = some ⟨g, 0, none⟩ ∧ base ≤ g ∧ g < w.heap.size := by
  have ho := h.1 i _ hr
  cases A with
  | none =>
    obtain ⟨A', c', e, _, _, h3, _⟩ := own_slice ho
    injection e with e1 e2 e3
    subst e1; subst e3
    have := (ho.cap).2.2 rfl
    have h4 := (ho.cap).1
    simp only at this h4
    omega
  | some a => exact ⟨a.block, by rw [← ho.zero rfl], ho.lt rfl⟩
theorem RowsB.sl_at {i c n : Nat} {A : Option Addr} {l : List UInt8} (h : RowsB T base w rs) (hr : rs[i]? = some (A, c, l)) (hn : l.length = n) : Sl w A n c l := hn ▸ Sl.own (h.1 i _ hr)
theorem RowsB.sl {i c : Nat} {A : Option Addr} {l : List UInt8} (h : RowsB T base w rs) (hr : rs[i]? = some (A, c, l)) : Sl w A l.length c l := Sl.own (h.1 i _ hr)
theorem RowsB.grow {i c : Nat} {A : Option Addr} {l : List UInt8} (h : RowsB T base w rs) (hr : rs[i]? = some (A, c, l)) (hg : w.grownBy x (A.map (·.block))) (ho : OwnB T base x A c l) : RowsB T base x rs := by
  refine ⟨fun j r hj => ?_, h.2⟩
  by_cases e : j = i
  · subst e
    rw [hr] at hj; injection hj with hj; subst hj
    exact ho
  · refine own_chg (h.1 j r hj) (grown_chg hg) fun g hg' e' => ?_
    obtain ⟨B, d, l'⟩ := r
    cases B with
    | none => cases hg'
    | some b =>
      injection hg' with hg'
      cases A with
      | none => cases e'
      | some a =>
        injection e' with e'
        exact h.2 j i _ _ hj hr e b a rfl rfl (by rw [hg', ← e'])
theorem RowsB.fillRs (h : RowsB T base w rs) {ss : RowL} (hlen : ∀ (i : Nat) s, ss[i]? = some s → ∃ r, rs[i]? = some r ∧ r.1 = s.1) (ho : ∀ (i : Nat) s, ss[i]? = some s → OwnB T base w s.1 s.2.1 s.2.2) : RowsB T base w ss :=
  ⟨ho, fun i j r s hr hs hij a b ha hb => by
    obtain ⟨r', hr', e1⟩ := hlen i r hr
    obtain ⟨s', hs', e2⟩ := hlen j s hs
    exact h.2 i j r' s' hr' hs' hij a b (e1.trans ha) (e2.trans hb)⟩
theorem RowsB.pick (h : RowsB T base w rs) {ss : RowL} (f : Nat → Nat) (hf : ∀ i j, i < ss.length → j < ss.length → i ≠ j → f i ≠ f j) (hs : ∀ (i : Nat) s, ss[i]? = some s → rs[f i]? = some s) : RowsB T base w ss :=
  ⟨fun i s hi => h.1 _ s (hs i s hi), fun i j r s hr hs' hij a b ha hb => h.2 (f i) (f j) r s (hs i r hr) (hs j s hs') (hf i j (List.getElem?_eq_some_iff.1 hr).1 (List.getElem?_eq_some_iff.1 hs').1 hij) a b ha hb⟩
end
theorem lit_one8 (w : World) (u : Value) (t : TypeId) (H : Nat) (h : w.heap.size = H) : Reads (w.alloc (.cells #[u] t)) (H + 1) 1 (some ⟨H, 0, none⟩) 1 [u] := by
  subst h; exact Reads.new w #[u] t 1 1 rfl
def Aps (rs : RowL) (k : Nat) (vs : List Value) : Prop := ∀ (i j : Nat) (a b : Addr) (n c : Nat) r, vs[j]? = some (.slice (some a) n c) → 0 < n → k ≤ i → rs[i]? = some r → r.1 = some b → a.block ≠ b.block
theorem Aps.nil (rs : RowL) : Aps rs 0 [] := fun i j a b n c r h => by simp at h
section
variable {T e : TypeId} {base H3 : Nat} {wr w2 w3 : World} {rs : RowL} {v v3 : Value} {vs : List Value} {ks : List (List UInt8)} {k gk ca c' : Nat} {l l' : List UInt8} {A' : Option Addr}
theorem more_own (hown : wr.ownsRow H3 e 1 v k vs) (hg2 : wr.grownBy w2 (some gk)) (hlt : gk < H3) : w2.ownsRow H3 e 1 v k vs :=
  own_chg hown (grown_chg hg2) fun g hg e' => by
    have := (World.ownsRow.lt hown g hg).1
    injection e' with e'; omega
theorem more_step {N : Nat} (hN : l'.length = N) (hR : RowsB T base wr rs) (hk : rs[k]? = some (some ⟨gk, 0, none⟩, ca, l)) (hF : FamS wr v.ownBlock vs ks) (hA : Aps rs k vs) (hown : wr.ownsRow H3 e 1 v k vs)
    (hH : ∀ (i : Nat) r a, rs[i]? = some r → r.1 = some a → a.block < H3) (hle : H3 ≤ wr.heap.size)
    (hg2 : wr.grownBy w2 (some gk)) (ho2 : OwnB T base w2 (some ⟨gk, 0, none⟩) ca l) (hs2 : OwnB T base w2 A' c' l') (hblk : ∀ a, A' = some a → some gk = some a.block ∨ wr.heap.size ≤ a.block)
    (hg3 : (w2.alloc (.cells #[.slice A' N c'] e)).grownBy w3 v.ownBlock) (hat3 : v3.ownBlock = v.ownBlock ∨ v3.ownBlock = some (w2.alloc (.cells #[.slice A' N c'] e)).heap.size) :
    RowsB T base w3 rs ∧ FamS w3 v3.ownBlock (vs ++ [.slice A' N c']) (ks ++ [l']) ∧ Aps rs (k + 1) (vs ++ [.slice A' N c']) ∧ (∀ S : Nat → Prop, S gk → (∀ b, H3 ≤ b → S b) → Chg S wr w3) := by
  subst hN
  have hgkl : gk < H3 := hH k _ ⟨gk, 0, none⟩ hk rfl
  have hal : Below w2.heap.size w2 (w2.alloc (.cells #[.slice A' l'.length c'] e)) := (Below.refl _ _).alloc (Nat.le_refl _) _
  have hvb : ∀ g, v.ownBlock = some g → H3 ≤ g ∧ g < wr.heap.size := fun g hg => World.ownsRow.lt hown g hg
  have hR2 : RowsB T base w2 rs := hR.grow hk hg2 ho2
  have hF2 : FamS w2 v.ownBlock vs ks := hF.chg (grown_chg hg2) fun i q a n c hq hq0 hv e' => by
    have hn : 0 < n := by
      obtain ⟨a2, c2, h1, _, _⟩ := hF.2 i q hq
      rw [hv] at h1; injection h1 with h1; injection h1 with _ h1 _; omega
    injection e' with e'
    exact hA k i a ⟨gk, 0, none⟩ n c _ hv hn (Nat.le_refl _) hk rfl e'.symm
  have hne : 0 < l'.length → ∀ x, A' = some x → some x.block ≠ v.ownBlock := fun _ x hx e' => by
    have h1 := hvb _ e'.symm
    rcases hblk x hx with h | h
    · injection h with h; omega
    · omega
  have hF3 := ((hF2.later hal).snoc ((Sl.own hs2).later hal) hne).step hg3 hat3
  refine ⟨?_, hF3, ?_, fun S h1 h2 => ?_⟩
  · refine (hR2.later hal).chg (grown_chg hg3) fun i r hr a ha e' => ?_
    have h1 := hH i r a hr ha
    have h2 := hvb _ e'
    omega
  · intro i j a b n c r hj hn hi hr hb
    rw [List.getElem?_append] at hj
    split at hj
    · exact hA i j a b n c r hj hn (by omega) hr hb
    · have h0 : j - vs.length = 0 := by
        have := (List.getElem?_eq_some_iff.1 hj).1
        simp at this; omega
      rw [h0] at hj
      injection hj with hj
      injection hj with hj _ _
      rcases hblk a hj with h | h
      · injection h with h
        have := hR.2 k i _ r hk hr (by omega) ⟨gk, 0, none⟩ b rfl hb
        rw [← h]; exact this
      · have h1 := hH i r b hr hb
        omega
  · have c1 : Chg S wr w2 := (grown_chg hg2).mono fun b _ e' => by injection e' with e'; subst e'; exact h1
    have c2 : Chg S w2 (w2.alloc (.cells #[.slice A' l'.length c'] e)) := Below.chg0 hal
    have c3 : Chg S (w2.alloc (.cells #[.slice A' l'.length c'] e)) w3 := (grown_chg hg3).mono fun b _ e' => h2 b (hvb b e').1
    exact (c1.trans c2).trans c3
end
end Go.Proofs.YtmigjipfomfacaaDoor
namespace Go.Proofs.YtmigjipfomfacaaDoor
open Go.RowKit
def valR (r : Option Addr × Nat × List UInt8) : Value := .slice r.1 r.2.2.length r.2.1
def Off (v : Value) (zs : RowL) : Prop := ∀ g, v.ownBlock = some g → ∀ (i : Nat) r a, zs[i]? = some r → r.1 = some a → a.block ≠ g
structure ApSt (T e : TypeId) (B : Nat) (w : World) (lv wv : Value) (rs ws ps : RowL) : Prop where
  rows : RowsB T B w (rs ++ ws ++ ps)
  ol : w.ownsRow B e 1 lv rs.length (rs.map valR)
  ow : w.ownsRow B e 1 wv ws.length (ws.map valR)
  al : Off lv (rs ++ ws ++ ps)
  aw : Off wv (rs ++ ws ++ ps)
  ne : ∀ g, lv.ownBlock = some g → wv.ownBlock ≠ some g
  le : B ≤ w.heap.size
theorem move_get (rs ws ps : RowL) (i : Nat) : (rs ++ ps ++ ws)[i]? = (rs ++ ws ++ ps)[if i < rs.length then i else if i < rs.length + ps.length then i + ws.length else if i < rs.length + ps.length + ws.length then i - ps.length else i]? := by
  by_cases h1 : i < rs.length
  · rw [if_pos h1, List.append_assoc, List.append_assoc, List.getElem?_append_left h1, List.getElem?_append_left h1]
  · rw [if_neg h1]
    by_cases h2 : i < rs.length + ps.length
    · rw [if_pos h2, List.getElem?_append_left (by rw [List.length_append]; exact h2), List.getElem?_append_right (by omega), List.getElem?_append_right (by rw [List.length_append]; omega), List.length_append]
      congr 1; omega
    · rw [if_neg h2]
      by_cases h3 : i < rs.length + ps.length + ws.length
      · rw [if_pos h3, List.getElem?_append_right (by rw [List.length_append]; omega), List.length_append, List.getElem?_append_left (by rw [List.length_append]; omega), List.getElem?_append_right (by omega)]
        congr 1; omega
      · rw [if_neg h3, List.getElem?_eq_none (by rw [List.length_append, List.length_append]; omega), List.getElem?_eq_none (by rw [List.length_append, List.length_append]; omega)]
section
variable {T e : TypeId} {B : Nat} {w x : World} {lv wv v' : Value} {rs ws ps : RowL}
theorem RowsB.move (h : RowsB T B w (rs ++ ws ++ ps)) : RowsB T B w (rs ++ ps ++ ws) := by
  refine h.pick (fun i => if i < rs.length then i else if i < rs.length + ps.length then i + ws.length else if i < rs.length + ps.length + ws.length then i - ps.length else i) (fun i j hi hj hij => ?_) fun i s hs => by rw [← move_get]; exact hs
  simp only [List.length_append] at hi hj
  split <;> split <;> (try split) <;> (try split) <;> (try split) <;> (try split) <;> omega
theorem Off.move {v : Value} (h : Off v (rs ++ ws ++ ps)) : Off v (rs ++ ps ++ ws) := fun g hg i r a hr ha => h g hg _ r a (by rw [← move_get]; exact hr) ha
theorem ApSt.nil (h : B ≤ w.heap.size) : ApSt T e B w (.slice none 0 0) (.slice none 0 0) [] [] [] :=
  ⟨RowsB.nil, own_nil _ _ _ _, own_nil _ _ _ _, fun g hg => (by cases hg), fun g hg => (by cases hg), fun g hg => (by cases hg), h⟩
theorem ApSt.later (h : ApSt T e B w lv wv rs ws ps) (hb : Below w.heap.size w x) : ApSt T e B x lv wv rs ws ps :=
  ⟨h.rows.later hb, own_below h.ol hb, own_below h.ow hb, h.al, h.aw, h.ne, Nat.le_trans h.le hb.size⟩
theorem off_snoc {v : Value} {A : Option Addr} {c : Nat} {l : List UInt8} {zs : RowL} (h : Off v zs) (hv : ∀ g, v.ownBlock = some g → g < w.heap.size) (ho : OwnB T w.heap.size x A c l) : Off v (zs ++ [(A, c, l)]) := fun g hg i r a hr ha => by
  rw [List.getElem?_append] at hr
  split at hr
  · exact h g hg i r a hr ha
  · have h0 : i - zs.length = 0 := by
      have := (List.getElem?_eq_some_iff.1 hr).1
      simp at this; omega
    rw [h0] at hr
    injection hr with hr; subst hr
    have h1 := (ho.lt ha).1
    have h2 := hv g hg
    omega
theorem ApSt.fresh (h : ApSt T e B w lv wv rs ws ps) (hb : Below w.heap.size w x) {A : Option Addr} {c : Nat} {l : List UInt8} (ho : OwnB T w.heap.size x A c l) : ApSt T e B x lv wv rs ws (ps ++ [(A, c, l)]) := by
  have h' := h.later hb
  refine ⟨?_, h'.ol, h'.ow, ?_, ?_, h.ne, h'.le⟩
  · rw [← List.append_assoc]; exact h.rows.fresh hb ho h.le
  · rw [← List.append_assoc]; exact off_snoc h.al (own_row_lt h.ol) ho
  · rw [← List.append_assoc]; exact off_snoc h.aw (own_row_lt h.ow) ho
theorem off_grown {v v' : Value} {zs : RowL} (h : Off v zs) (hat : v'.ownBlock = v.ownBlock ∨ v'.ownBlock = some w.heap.size) (hR : RowsB T B w zs) : Off v' zs := fun g hg i r a hr ha => by
  rcases hat with e | e
  · exact h g (e ▸ hg) i r a hr ha
  · rw [e] at hg; injection hg with hg
    have := ((hR.1 i r hr).lt ha).2
    omega
theorem rows_grown {v : Value} {zs : RowL} (hR : RowsB T B w zs) (h : Off v zs) (hg : w.grownBy x v.ownBlock) : RowsB T B x zs :=
  hR.chg (grown_chg hg) fun i r hr a ha e => h a.block e i r a hr ha rfl
theorem ApSt.appL (h : ApSt T e B w lv wv rs ws ps) {o : Obj} {n : Nat} {us : List Value} (hn : rs.length + ps.length = n) (hu : rs.map valR ++ ps.map valR = us) (ho : x.ownsRow B e 1 v' n us) (hg : (w.alloc o).grownBy x lv.ownBlock) (hat : v'.ownBlock = lv.ownBlock ∨ v'.ownBlock = some (w.alloc o).heap.size) : ApSt T e B x v' wv (rs ++ ps) ws [] := by
  subst hn; subst hu
  have ha : ApSt T e B (w.alloc o) lv wv rs ws ps := h.later ((Below.refl _ _).alloc (Nat.le_refl _) o)
  refine ⟨?_, ?_, own_chg ha.ow (grown_chg hg) fun g hg hu => ha.ne g hu hg, ?_, ?_, fun g hg hu => ?_, Nat.le_trans ha.le hg.size⟩
  · rw [List.append_nil]; exact (rows_grown ha.rows ha.al hg).move
  · rw [List.length_append, List.map_append]; exact ho
  · rw [List.append_nil]; exact (off_grown ha.al hat ha.rows).move
  · rw [List.append_nil]; exact ha.aw.move
  · rcases hat with e | e
    · exact ha.ne g (e ▸ hg) hu
    · rw [e] at hg; injection hg with hg
      have := own_row_lt ha.ow g hu
      omega
theorem ApSt.appW (h : ApSt T e B w lv wv rs ws ps) {o : Obj} {n : Nat} {us : List Value} (hn : ws.length + ps.length = n) (hu : ws.map valR ++ ps.map valR = us) (ho : x.ownsRow B e 1 v' n us) (hg : (w.alloc o).grownBy x wv.ownBlock) (hat : v'.ownBlock = wv.ownBlock ∨ v'.ownBlock = some (w.alloc o).heap.size) : ApSt T e B x lv v' rs (ws ++ ps) [] := by
  subst hn; subst hu
  have ha : ApSt T e B (w.alloc o) lv wv rs ws ps := h.later ((Below.refl _ _).alloc (Nat.le_refl _) o)
  refine ⟨?_, own_chg ha.ol (grown_chg hg) fun g hg hu => ha.ne g hg hu, ?_, ?_, ?_, fun g hg hu => ?_, Nat.le_trans ha.le hg.size⟩
  · rw [List.append_nil, ← List.append_assoc]; exact rows_grown ha.rows ha.aw hg
  · rw [List.length_append, List.map_append]; exact ho
  · rw [List.append_nil, ← List.append_assoc]; exact ha.al
  · rw [List.append_nil, ← List.append_assoc]; exact off_grown ha.aw hat ha.rows
  · rcases hat with e | e
    · exact ha.ne g hg (e ▸ hu)
    · rw [e] at hu; injection hu with hu
      have := own_row_lt ha.ol g hg
      omega
end
def moreL (mk : Nat → UInt8) (rs : RowL) (q : Nat) : List (List UInt8) := (List.range q).map fun i => List.replicate (2 * ((rs[i]?.map fun r => r.2.2.length).getD 0) + 70) (mk i)
theorem moreL_zero (mk : Nat → UInt8) (rs : RowL) : moreL mk rs 0 = [] := rfl
theorem moreL_succ (mk : Nat → UInt8) {rs : RowL} {q : Nat} {A : Option Addr} {c : Nat} {l : List UInt8} (h : rs[q]? = some (A, c, l)) : moreL mk rs (q + 1) = moreL mk rs q ++ [List.replicate (2 * l.length + 70) (mk q)] := by simp [moreL, List.range_succ, h]
theorem moreL_at (mk : Nat → UInt8) {rs : RowL} {q i : Nat} (hi : i < q) {A : Option Addr} {c : Nat} {l : List UInt8} (h : rs[i]? = some (A, c, l)) : (moreL mk rs q)[i]? = some (List.replicate (2 * l.length + 70) (mk i)) := by simp [moreL, List.getElem?_map, List.getElem?_range hi, h]
section
variable {T e : TypeId} {base H3 : Nat} {wr w2 w3 : World} {rs : RowL} {v v3 : Value} {vs : List Value} {ks : List (List UInt8)} {k ca c' : Nat} {l l' : List UInt8} {A A' : Option Addr}
theorem more_own2 (hown : wr.ownsRow H3 e 1 v k vs) (hg2 : wr.grownBy w2 (A.map (·.block))) (hlt : ∀ a, A = some a → a.block < H3) : w2.ownsRow H3 e 1 v k vs :=
  own_chg hown (grown_chg hg2) fun g hg e' => by
    have := (World.ownsRow.lt hown g hg).1
    cases A with
    | none => cases e'
    | some a => injection e' with e'; have : a.block < H3 := hlt a rfl; have e'' : a.block = g := e'; omega
theorem more_step2 {N : Nat} (hN : l'.length = N) (hR : RowsB T base wr rs) (hk : rs[k]? = some (A, ca, l)) (hF : FamS wr v.ownBlock vs ks) (hA : Aps rs k vs) (hown : wr.ownsRow H3 e 1 v k vs)
    (hH : ∀ (i : Nat) r a, rs[i]? = some r → r.1 = some a → a.block < H3) (hle : H3 ≤ wr.heap.size)
    (hg2 : wr.grownBy w2 (A.map (·.block))) (ho2 : OwnB T base w2 A ca l) (hs2 : OwnB T base w2 A' c' l') (hblk : ∀ a, A' = some a → A.map (·.block) = some a.block ∨ wr.heap.size ≤ a.block)
    (hg3 : (w2.alloc (.cells #[.slice A' N c'] e)).grownBy w3 v.ownBlock) (hat3 : v3.ownBlock = v.ownBlock ∨ v3.ownBlock = some (w2.alloc (.cells #[.slice A' N c'] e)).heap.size) :
    RowsB T base w3 rs ∧ FamS w3 v3.ownBlock (vs ++ [.slice A' N c']) (ks ++ [l']) ∧ Aps rs (k + 1) (vs ++ [.slice A' N c']) ∧ (∀ S : Nat → Prop, (∀ a, A = some a → S a.block) → (∀ b, H3 ≤ b → S b) → Chg S wr w3) := by
  subst hN
  have hgkl : ∀ a, A = some a → a.block < H3 := fun a ha => hH k _ a hk ha
  have hal : Below w2.heap.size w2 (w2.alloc (.cells #[.slice A' l'.length c'] e)) := (Below.refl _ _).alloc (Nat.le_refl _) _
  have hvb : ∀ g, v.ownBlock = some g → H3 ≤ g ∧ g < wr.heap.size := fun g hg => World.ownsRow.lt hown g hg
  have hR2 : RowsB T base w2 rs := hR.grow hk hg2 ho2
  have hF2 : FamS w2 v.ownBlock vs ks := hF.chg (grown_chg hg2) fun i q a n c hq hq0 hv e' => by
    have hn : 0 < n := by
      obtain ⟨a2, c2, h1, _, _⟩ := hF.2 i q hq
      rw [hv] at h1; injection h1 with h1; injection h1 with _ h1 _; omega
    cases A with
    | none => cases e'
    | some b =>
      injection e' with e'
      exact hA k i a b n c _ hv hn (Nat.le_refl _) hk rfl e'.symm
  have hne : 0 < l'.length → ∀ x, A' = some x → some x.block ≠ v.ownBlock := fun _ x hx e' => by
    have h1 := hvb _ e'.symm
    rcases hblk x hx with h | h
    · cases A with
      | none => cases h
      | some b => injection h with h; have h3 : b.block < H3 := hgkl b rfl; have h4 : b.block = x.block := h; omega
    · omega
  have hF3 := ((hF2.later hal).snoc ((Sl.own hs2).later hal) hne).step hg3 hat3
  refine ⟨?_, hF3, ?_, fun S h1 h2 => ?_⟩
  · refine (hR2.later hal).chg (grown_chg hg3) fun i r hr a ha e' => ?_
    have h1 := hH i r a hr ha
    have h2 := hvb _ e'
    omega
  · intro i j a b n c r hj hn hi hr hb
    rw [List.getElem?_append] at hj
    split at hj
    · exact hA i j a b n c r hj hn (by omega) hr hb
    · have h0 : j - vs.length = 0 := by
        have := (List.getElem?_eq_some_iff.1 hj).1
        simp at this; omega
      rw [h0] at hj
      injection hj with hj
      injection hj with hj _ _
      rcases hblk a hj with h | h
      · cases A with
        | none => cases h
        | some g =>
          injection h with h
          have := hR.2 k i _ r hk hr (by omega) g b rfl hb
          rw [← h]; exact this
      · have h1 := hH i r b hr hb
        omega
  · have c1 : Chg S wr w2 := (grown_chg hg2).mono fun b _ e' => by
      cases A with
      | none => cases e'
      | some g => injection e' with e'; subst e'; exact h1 g rfl
    have c2 : Chg S w2 (w2.alloc (.cells #[.slice A' l'.length c'] e)) := Below.chg0 hal
    have c3 : Chg S (w2.alloc (.cells #[.slice A' l'.length c'] e)) w3 := (grown_chg hg3).mono fun b _ e' => h2 b (hvb b e').1
    exact (c1.trans c2).trans c3
end
end Go.Proofs.YtmigjipfomfacaaDoor
