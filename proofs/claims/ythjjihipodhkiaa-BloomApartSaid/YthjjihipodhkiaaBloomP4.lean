/-
  The keys of a filter, each counted once; the filter of a list of keys. No program in sight.
-/
import Derived.Test.YthjjihipodhkiaaBloomP3
import Derived.Maps.OwnSet
namespace Go.Proofs.Ythjjihipodhkiaa
open Go.RowKit Go.Maps

/-- One key more among the unlike ones. -/
def addK (acc : List (List UInt8)) (k : List UInt8) : List (List UInt8) := if acc.contains k then acc else acc ++ [k]
/-- The unlike keys, in order. -/
def unl (ks : List (List UInt8)) : List (List UInt8) := ks.foldl addK []
theorem unl_snoc (ks : List (List UInt8)) (k : List UInt8) : unl (ks ++ [k]) = addK (unl ks) k := by unfold unl; rw [List.foldl_append]; rfl
theorem mem_addK (acc : List (List UInt8)) (k x : List UInt8) : x ∈ addK acc k ↔ x ∈ acc ∨ x = k := by
  unfold addK
  split
  · rename_i h
    have h := List.contains_iff_mem.1 h
    constructor
    · exact .inl
    · rintro (h1 | rfl)
      · exact h1
      · exact h
  · simp
theorem mem_foldK (ks acc : List (List UInt8)) (x : List UInt8) : x ∈ ks.foldl addK acc ↔ x ∈ acc ∨ x ∈ ks := by
  induction ks generalizing acc with
  | nil => simp
  | cons k ks ih => rw [List.foldl_cons, ih, mem_addK]; simp [or_assoc]
theorem mem_unl (ks : List (List UInt8)) (x : List UInt8) : x ∈ unl ks ↔ x ∈ ks := by unfold unl; rw [mem_foldK]; simp
theorem nodup_foldK (ks acc : List (List UInt8)) (h : acc.Nodup) : (ks.foldl addK acc).Nodup := by
  induction ks generalizing acc with
  | nil => exact h
  | cons k ks ih =>
    rw [List.foldl_cons]
    refine ih _ ?_
    unfold addK
    split
    · exact h
    · rename_i hk
      have hk : k ∉ acc := fun hm => hk (List.contains_iff_mem.2 hm)
      rw [List.nodup_append]
      exact ⟨h, by simp, fun a ha b hb => by rw [List.mem_singleton.1 hb]; intro e; exact hk (e ▸ ha)⟩
theorem nodup_unl (ks : List (List UInt8)) : (unl ks).Nodup := nodup_foldK _ _ List.nodup_nil
theorem length_le_of_nodup {α : Type} [DecidableEq α] : ∀ {a b : List α}, a.Nodup → (∀ x ∈ a, x ∈ b) → a.length ≤ b.length
  | [], _, _, _ => by simp
  | x :: a, b, hn, h => by
    have hn := List.nodup_cons.1 hn
    have hb : x ∈ b := h x (by simp)
    have := length_le_of_nodup (a := a) (b := b.erase x) hn.2 (fun y hy => (List.mem_erase_of_ne (fun e : y = x => hn.1 (e ▸ hy))).2 (h y (by simp [hy])))
    rw [List.length_erase_of_mem hb] at this
    have : 0 < b.length := List.length_pos_of_mem hb
    simp only [List.length_cons]; omega
theorem unl_mono {a b : List (List UInt8)} (h : ∀ x ∈ a, x ∈ b) : (unl a).length ≤ (unl b).length :=
  length_le_of_nodup (nodup_unl a) fun x hx => (mem_unl b x).2 (h x ((mem_unl a x).1 hx))
theorem unl_same {a b : List (List UInt8)} (h : ∀ x, x ∈ a ↔ x ∈ b) : (unl a).length = (unl b).length :=
  Nat.le_antisymm (unl_mono fun x hx => (h x).1 hx) (unl_mono fun x hx => (h x).2 hx)
theorem unl_le (ks : List (List UInt8)) : (unl ks).length ≤ ks.length := length_le_of_nodup (nodup_unl ks) fun x hx => (mem_unl ks x).1 hx
theorem unl_pos {ks : List (List UInt8)} (h : ks ≠ []) : 1 ≤ (unl ks).length := by
  cases ks with
  | nil => exact absurd rfl h
  | cons k ks => exact List.length_pos_of_mem ((mem_unl (k :: ks) k).2 (by simp))

/-- The map's keys. -/
theorem str_same (a b : List UInt8) : (Lit.string a).sameKey (Lit.string b) = (a == b) := by
  rw [Bool.eq_iff_iff, WideAt.sameKey_iff (by trivial)]
  simp
theorem keys_lit (ks : List (List UInt8)) : ∀ x ∈ ks.map Lit.string, WideAt.IsKeyLit x := by
  intro x hx
  obtain ⟨k, _, rfl⟩ := List.mem_map.1 hx
  trivial
theorem size_keys (ks : List (List UInt8)) : Maps.size (setOf (H := Unit) (.lit (.bool true)) (ks.map Lit.string)) = (unl ks).length := by
  rw [size_setOf _ _ (keys_lit ks)]
  have : ∀ (ks acc : List (List UInt8)), (ks.map Lit.string).foldl addKey (acc.map Lit.string) = (ks.foldl addK acc).map Lit.string := by
    intro ks
    induction ks with
    | nil => intro acc; rfl
    | cons k ks ih =>
      intro acc
      rw [List.map_cons, List.foldl_cons, List.foldl_cons, ← ih]
      congr 1
      unfold addKey addK
      have : (acc.map Lit.string).any (fun y => y.sameKey (.string k)) = acc.contains k := by
        rw [List.any_map, Bool.eq_iff_iff, List.any_eq_true, List.contains_iff_mem]
        constructor
        · rintro ⟨x, hx, h⟩
          rw [Function.comp_apply, str_same, beq_iff_eq] at h
          exact h ▸ hx
        · intro h
          exact ⟨k, h, by rw [Function.comp_apply, str_same, beq_iff_eq]⟩
      rw [this]
      split <;> simp
  have h := this ks []
  rw [List.map_nil] at h
  rw [h]
  simp [unl]
theorem has_keys (ks : List (List UInt8)) (k : List UInt8) : Maps.has (setOf (H := Unit) (.lit (.bool true)) (ks.map Lit.string)) (.string k) = ks.contains k := by
  rw [has_setOf _ _ _ (keys_lit ks), List.any_map, Bool.eq_iff_iff, List.any_eq_true, List.contains_iff_mem]
  constructor
  · rintro ⟨x, hx, h⟩
    rw [Function.comp_apply, str_same, beq_iff_eq] at h
    exact h ▸ hx
  · intro h
    exact ⟨k, h, by rw [Function.comp_apply, str_same, beq_iff_eq]⟩

/-- What Build makes: places a key, bits, bytes; the error's number. -/
def buildP (bits : Int) : Nat := max 1 (7 * bits.toNat / 10)
def buildM (bits : Int) (ks : List (List UInt8)) : Nat := max 64 (((unl ks).length * bits.toNat + 7) / 8 * 8)
def buildS (p m : Nat) (ks : List (List UInt8)) : Nat → Bool := fun i => ks.any fun k => (placesN k p m).contains i
def buildB (bits : Int) (ks : List (List UInt8)) : List UInt8 := filterB (buildP bits) (buildM bits ks) (buildS (buildP bits) (buildM bits ks) ks)
def buildE (bits : Int) (ks : List (List UInt8)) : Nat := if bits < 1 ∨ 20 < bits then 60 else if 1048576 < ks.length then 61 else 0
theorem buildM_mod (bits : Int) (ks : List (List UInt8)) : buildM bits ks % 8 = 0 := by unfold buildM; omega
theorem buildM_ge (bits : Int) (ks : List (List UInt8)) : 64 ≤ buildM bits ks := by unfold buildM; omega
theorem buildE_zero {bits : Int} {ks : List (List UInt8)} (h : buildE bits ks = 0) : 1 ≤ bits ∧ bits ≤ 20 ∧ ks.length ≤ 1048576 := by
  unfold buildE at h
  split at h
  · cases h
  · split at h
    · cases h
    · omega
theorem buildM_raw {bits : Int} {ks : List (List UInt8)} (h1 : 1 ≤ bits) (h2 : bits ≤ 20) (h3 : ks.length ≤ 1048576) : (unl ks).length * bits.toNat ≤ 20971520 := by
  have := unl_le ks
  exact Nat.mul_le_mul (Nat.le_trans this h3) (show bits.toNat ≤ 20 by omega)
theorem buildM_le {bits : Int} {ks : List (List UInt8)} (h : buildE bits ks = 0) : buildM bits ks ≤ 20971520 := by
  obtain ⟨h1, h2, h3⟩ := buildE_zero h
  have := buildM_raw h1 h2 h3
  unfold buildM; omega
theorem buildP_le {bits : Int} {ks : List (List UInt8)} (h : buildE bits ks = 0) : 1 ≤ buildP bits ∧ buildP bits ≤ 14 := by
  obtain ⟨h1, h2, h3⟩ := buildE_zero h
  unfold buildP; omega
theorem buildB_length (bits : Int) (ks : List (List UInt8)) : (buildB bits ks).length = 6 + buildM bits ks / 8 := filterB_length _ _ _

/-- One key's places more. -/
def doneS (p m : Nat) (ks : List (List UInt8)) (left : Lit → Bool) : Nat → Bool := fun i => ks.any fun k => !left (.string k) && (placesN k p m).contains i
theorem doneS_start (p m : Nat) (ks : List (List UInt8)) (left : Lit → Bool) (h : ∀ k ∈ ks, left (.string k) = true) : doneS p m ks left = fun _ => false := by
  funext i
  unfold doneS
  rw [List.any_eq_false]
  intro k hk
  rw [h k hk]; simp
theorem doneS_end (p m : Nat) (ks : List (List UInt8)) (left : Lit → Bool) (h : ∀ k, left k = false) : doneS p m ks left = buildS p m ks := by
  funext i
  unfold doneS buildS
  simp [h]
theorem doneS_step (p m : Nat) (ks : List (List UInt8)) (left : Lit → Bool) (k : List UInt8) (hk : k ∈ ks) (i : Nat) :
    (doneS p m ks left i || (placesN k p m).contains i) = doneS p m ks (fun z => left z && !z.sameKey (.string k)) i := by
  unfold doneS
  rw [Bool.eq_iff_iff]
  simp only [Bool.or_eq_true, List.any_eq_true, Bool.and_eq_true, Bool.not_eq_true', str_same, Bool.and_eq_false_iff, Bool.not_eq_false', beq_iff_eq]
  constructor
  · rintro (⟨x, hx, h1, h2⟩ | h)
    · exact ⟨x, hx, .inl h1, h2⟩
    · exact ⟨k, hk, .inr rfl, h⟩
  · rintro ⟨x, hx, h1 | rfl, h2⟩
    · exact .inl ⟨x, hx, h1, h2⟩
    · exact .inr h2

end Go.Proofs.Ythjjihipodhkiaa
