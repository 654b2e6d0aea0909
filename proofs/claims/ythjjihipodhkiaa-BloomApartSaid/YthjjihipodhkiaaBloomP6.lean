/-
  What Build makes is a filter; its bits counted; filters of lists with the same keys. No program in sight.
-/
import Derived.Test.YthjjihipodhkiaaBloomP5
import Derived.Test.YthjjihipodhkiaaBloomP2
namespace Go.Proofs.Ythjjihipodhkiaa
open Go.RowKit

theorem filterB_shape (p m : Nat) (S : Nat → Bool) (hp : p < 256) (hm : m < 4294967296) : shapeP (filterB p m S) = p ∧ shapeM (filterB p m S) = m := by
  have e0 := filterB_head p m S 0 (by decide)
  have e1 := filterB_head p m S 1 (by decide)
  have e2 := filterB_head p m S 2 (by decide)
  have e3 := filterB_head p m S 3 (by decide)
  have e4 := filterB_head p m S 4 (by decide)
  have e5 := filterB_head p m S 5 (by decide)
  have hl := filterB_length p m S
  unfold headB at e0 e1 e2 e3 e4 e5
  have hif : ¬((filterB p m S).length < 6 ∨ (filterB p m S)[0]? ≠ some 66) := by rw [e0, hl]; simp
  unfold shapeP shapeM
  rw [if_neg hif, if_neg hif, e1, e2, e3, e4, e5]
  simp only [List.getElem?_cons_succ, List.getElem?_cons_zero, Option.getD_some]
  unfold headN
  simp only [UInt8.toNat_ofNat']
  constructor <;> omega
theorem filterB_isF (p m : Nat) (S : Nat → Bool) (hp1 : 1 ≤ p) (hp2 : p ≤ 14) (hm1 : 64 ≤ m) (hm2 : m ≤ 20971520) (h8 : m % 8 = 0) : isF (filterB p m S) = true := by
  obtain ⟨e1, e2⟩ := filterB_shape p m S (by omega) (by omega)
  unfold isF
  rw [e1, e2, filterB_length]
  exact decide_eq_true ⟨hp1, hp2, hm1, hm2, h8, rfl⟩

/-- How many places below m are set. -/
def cntS (m : Nat) (S : Nat → Bool) : Nat := ((List.range m).filter S).length
theorem popN_pack : ∀ b0 b1 b2 b3 b4 b5 b6 b7 : Bool, popN (UInt8.ofNat (pack8 b0 b1 b2 b3 b4 b5 b6 b7)).toNat = b0.toNat + b1.toNat + b2.toNat + b3.toNat + b4.toNat + b5.toNat + b6.toNat + b7.toNat := by decide +kernel
theorem cntS_succ (m : Nat) (S : Nat → Bool) : cntS (m + 1) S = cntS m S + (S m).toNat := by
  unfold cntS
  rw [List.range_succ, List.filter_append, List.length_append]
  cases h : S m <;> simp [h]
theorem pops_pack (S : Nat → Bool) (q : Nat) : popsN ((List.range q).map fun j => packB fun t => S (8 * j + t)) = cntS (8 * q) S := by
  induction q with
  | zero => rfl
  | succ q ih =>
    rw [List.range_succ, List.map_append, List.map_cons, List.map_nil, popsN_snoc, ih]
    unfold packB
    rw [popN_pack, show 8 * (q + 1) = 8 * q + 7 + 1 from by omega, cntS_succ, cntS_succ, cntS_succ, cntS_succ, cntS_succ, cntS_succ, cntS_succ, cntS_succ]
    simp only [Nat.add_zero]
    omega
theorem filterB_ones (p m : Nat) (S : Nat → Bool) (hp1 : 1 ≤ p) (hp2 : p ≤ 14) (hm1 : 64 ≤ m) (hm2 : m ≤ 20971520) (h8 : m % 8 = 0) : onesN (filterB p m S) = cntS m S := by
  unfold onesN
  rw [filterB_isF p m S hp1 hp2 hm1 hm2 h8, if_pos rfl]
  have : (filterB p m S).drop 6 = (List.range (m / 8)).map fun j => packB fun t => S (8 * j + t) := by
    unfold filterB headB
    rfl
  rw [this, pops_pack, show 8 * (m / 8) = m from by omega]
theorem cntS_mono (m : Nat) {S T : Nat → Bool} (h : ∀ i, i < m → S i = true → T i = true) : cntS m S ≤ cntS m T := by
  unfold cntS
  refine length_le_of_nodup (List.Pairwise.filter _ List.nodup_range) fun x hx => ?_
  obtain ⟨h1, h2⟩ := List.mem_filter.1 hx
  exact List.mem_filter.2 ⟨h1, h x (List.mem_range.1 h1) h2⟩

section
variable {bits : Int} {ks js : List (List UInt8)}
theorem buildB_shape (h : buildE bits ks = 0) : shapeP (buildB bits ks) = buildP bits ∧ shapeM (buildB bits ks) = buildM bits ks :=
  filterB_shape _ _ _ (by have := buildP_le h; omega) (by have := buildM_le h; omega)
theorem buildB_isF (h : buildE bits ks = 0) : isF (buildB bits ks) = true :=
  filterB_isF _ _ _ (buildP_le h).1 (buildP_le h).2 (buildM_ge _ _) (buildM_le h) (buildM_mod _ _)
theorem buildB_ones (h : buildE bits ks = 0) : onesN (buildB bits ks) = cntS (buildM bits ks) (buildS (buildP bits) (buildM bits ks) ks) :=
  filterB_ones _ _ _ (buildP_le h).1 (buildP_le h).2 (buildM_ge _ _) (buildM_le h) (buildM_mod _ _)
theorem buildS_mono (p m : Nat) (h : ∀ x ∈ ks, x ∈ js) (i : Nat) (hi : buildS p m ks i = true) : buildS p m js i = true := by
  obtain ⟨k, hk, hp⟩ := List.any_eq_true.1 hi
  exact List.any_eq_true.2 ⟨k, h k hk, hp⟩
theorem buildB_same (bits : Int) (h : ∀ x, x ∈ ks ↔ x ∈ js) : buildB bits ks = buildB bits js := by
  have e : buildM bits ks = buildM bits js := by unfold buildM; rw [unl_same h]
  unfold buildB
  rw [e]
  apply filterB_ext
  intro i _
  rw [Bool.eq_iff_iff]
  exact ⟨buildS_mono _ _ (fun x hx => (h x).1 hx) i, buildS_mono _ _ (fun x hx => (h x).2 hx) i⟩
theorem buildM_mono (bits : Int) (h : ∀ x ∈ ks, x ∈ js) : buildM bits ks ≤ buildM bits js := by
  have := Nat.mul_le_mul_right bits.toNat (unl_mono h)
  unfold buildM; omega
theorem buildB_most (h : buildE bits ks = 0) : onesN (buildB bits ks) ≤ buildP bits * ks.length := by
  rw [buildB_ones h]
  have hl : ∀ l : List (List UInt8), (l.flatMap fun k => placesN k (buildP bits) (buildM bits ks)).length = buildP bits * l.length := by
    intro l
    induction l with
    | nil => rfl
    | cons k l ih => rw [List.flatMap_cons, List.length_append, ih, List.length_cons, Nat.mul_succ]; simp [placesN]; omega
  rw [← hl ks]
  refine length_le_of_nodup (List.Pairwise.filter _ List.nodup_range) fun x hx => ?_
  obtain ⟨_, h2⟩ := List.mem_filter.1 hx
  obtain ⟨k, hk, hp⟩ := List.any_eq_true.1 h2
  exact List.mem_flatMap.2 ⟨k, hk, List.contains_iff_mem.1 hp⟩
theorem buildB_least (h : buildE bits ks = 0) (hk : ks ≠ []) : 1 ≤ onesN (buildB bits ks) := by
  rw [buildB_ones h]
  obtain ⟨k, hk⟩ := List.exists_mem_of_ne_nil ks hk
  have hm := buildM_ge bits ks
  have hp := (buildP_le h).1
  refine List.length_pos_of_mem (a := placeN k (buildM bits ks) 0) (List.mem_filter.2 ⟨List.mem_range.2 (placeN_lt _ _ _ (by omega)), List.any_eq_true.2 ⟨k, hk, List.contains_iff_mem.2 ?_⟩⟩)
  exact List.mem_map.2 ⟨0, List.mem_range.2 (by omega), rfl⟩
/-- Fewer keys, the same shape: no bit more. -/
theorem buildB_fewer (bits : Int) (hl : (buildB bits ks).length = (buildB bits js).length) : buildM bits ks = buildM bits js ∧
    (∀ k, k < 6 → (buildB bits ks)[k]? = (buildB bits js)[k]?) := by
  have e : buildM bits ks = buildM bits js := by
    rw [buildB_length, buildB_length] at hl
    have := buildM_mod bits ks
    have := buildM_mod bits js
    omega
  refine ⟨e, fun k hk => ?_⟩
  unfold buildB
  rw [filterB_head _ _ _ _ hk, filterB_head _ _ _ _ hk, e]
end

theorem pack_test : ∀ (b0 b1 b2 b3 b4 b5 b6 b7 : Bool) (t : Fin 8), (UInt8.ofNat (pack8 b0 b1 b2 b3 b4 b5 b6 b7)).toNat.testBit t.val =
    (match t.val with | 0 => b7 | 1 => b6 | 2 => b5 | 3 => b4 | 4 => b3 | 5 => b2 | 6 => b1 | _ => b0) := by decide +kernel
theorem packB_test (f : Nat → Bool) (t : Nat) (ht : t < 8) : (packB f).toNat.testBit t = f (7 - t) := by
  have h := pack_test (f 0) (f 1) (f 2) (f 3) (f 4) (f 5) (f 6) (f 7) ⟨t, ht⟩
  unfold packB
  rw [h]
  match t, ht with
  | 0, _ => rfl
  | 1, _ => rfl
  | 2, _ => rfl
  | 3, _ => rfl
  | 4, _ => rfl
  | 5, _ => rfl
  | 6, _ => rfl
  | 7, _ => rfl
theorem packB_and (f g : Nat → Bool) (h : ∀ t, t < 8 → f t = true → g t = true) : (packB f).toNat &&& (packB g).toNat = (packB f).toNat := by
  apply Nat.eq_of_testBit_eq
  intro t
  rw [Nat.testBit_and]
  by_cases ht : t < 8
  · rw [packB_test _ _ ht, packB_test _ _ ht]
    cases hf : f (7 - t)
    · rfl
    · rw [h _ (by omega) hf]; rfl
  · have h1 : (packB f).toNat.testBit t = false := by
      apply Nat.testBit_lt_two_pow
      have h2 := (packB f).toNat_lt
      have h3 : 2 ^ 8 ≤ 2 ^ t := Nat.pow_le_pow_right (by decide) (by omega)
      omega
    rw [h1]; rfl
/-- A byte behind the head, of fewer keys and of more, in the same shape. -/
theorem buildB_and (bits : Int) {ks js : List (List UInt8)} (h : ∀ x ∈ ks, x ∈ js) (hl : (buildB bits ks).length = (buildB bits js).length) (k : Nat) (hk : 6 ≤ k) (x y : UInt8) (hx : (buildB bits ks)[k]? = some x) (hy : (buildB bits js)[k]? = some y) :
    x.toNat &&& y.toNat = x.toNat := by
  have e := (buildB_fewer bits hl).1
  have hlt := (List.getElem?_eq_some_iff.1 hx).1
  rw [buildB_length] at hlt
  obtain ⟨j, rfl⟩ : ∃ j, k = 6 + j := ⟨k - 6, by omega⟩
  unfold buildB at hx hy
  rw [filterB_at _ _ _ _ (by omega)] at hx
  rw [filterB_at _ _ _ _ (by omega)] at hy
  injection hx with hx
  injection hy with hy
  subst hx; subst hy
  refine packB_and _ _ fun t _ ht => ?_
  rw [← e]
  exact buildS_mono _ _ h _ ht

end Go.Proofs.Ythjjihipodhkiaa
