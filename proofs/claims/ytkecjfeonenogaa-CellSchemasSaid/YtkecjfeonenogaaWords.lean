/-
  Plain words for the proof of CellSchemas: a slice that reads as a list of cells (nil let in). No program in sight.
-/
import Derived.Test.YtkecjfeonenogaaKit
namespace Go.Proofs.Ytkecjfeonenogaa
open Go.RowKit

/-- A family: its name, Max, TTL. -/
structure Fm where
  name : ByteArray
  max : Int
  ttl : Int

def Fm.ok (f : Fm) : Prop := f.name.size ≤ maxLen ∧ -9223372036854775808 ≤ f.max ∧ f.max ≤ 9223372036854775807 ∧ -9223372036854775808 ≤ f.ttl ∧ f.ttl ≤ 9223372036854775807
def Fm.cells (f : Fm) : List Value := [.string f.name, .int .i64 f.max, .int .i64 f.ttl]
def cellsOf (fs : List Fm) : List Value := fs.flatMap Fm.cells

theorem cellsOf_length (fs : List Fm) : (cellsOf fs).length = fs.length * 3 := by
  induction fs with
  | nil => rfl
  | cons f fs ih => simp [cellsOf, Fm.cells] at *; omega
theorem cellsOf_append (a b : List Fm) : cellsOf (a ++ b) = cellsOf a ++ cellsOf b := by simp [cellsOf]

theorem cellsOf_at (fs : List Fm) (k : Nat) (f : Fm) (h : fs[k]? = some f) :
    (cellsOf fs)[k * 3]? = some (.string f.name) ∧ (cellsOf fs)[k * 3 + 1]? = some (.int .i64 f.max) ∧ (cellsOf fs)[k * 3 + 2]? = some (.int .i64 f.ttl) := by
  induction fs generalizing k with
  | nil => simp at h
  | cons g fs ih =>
    cases k with
    | zero =>
      simp at h; subst h
      simp [cellsOf, Fm.cells]
    | succ k =>
      have := ih k (by simpa using h)
      have e : ∀ j, (cellsOf (g :: fs))[3 + j]? = (cellsOf fs)[j]? := fun j => by
        rw [Nat.add_comm]; rfl
      rw [show (k + 1) * 3 = 3 + k * 3 from by omega, Nat.add_assoc 3, Nat.add_assoc 3, e, e, e]
      exact this

/-- The first place of that name, counted from i; -1 if there is none. -/
def famIdx (fs : List Fm) (s : ByteArray) (i : Nat) : Int :=
  match fs with
  | [] => -1
  | f :: fs => if f.name.toList == s.toList then (i : Int) else famIdx fs s (i + 1)

theorem famIdx_drop (fs : List Fm) (s : ByteArray) (k : Nat) (f : Fm) (h : fs[k]? = some f) :
    famIdx (fs.drop k) s k = if f.name.toList == s.toList then (k : Int) else famIdx (fs.drop (k + 1)) s (k + 1) := by
  have hk : k < fs.length := (List.getElem?_eq_some_iff.1 h).1
  rw [List.drop_eq_getElem_cons hk]
  have : fs[k] = f := by rw [List.getElem?_eq_getElem hk] at h; exact Option.some.inj h
  rw [this]; rfl
theorem famIdx_hit (fs : List Fm) (s : ByteArray) (k : Nat) (f : Fm) (h : fs[k]? = some f) (he : (f.name.toList == s.toList) = true) : famIdx (fs.drop k) s k = k := by
  rw [famIdx_drop fs s k f h, if_pos he]
theorem famIdx_miss (fs : List Fm) (s : ByteArray) (k : Nat) (f : Fm) (h : fs[k]? = some f) (he : (f.name.toList == s.toList) = false) : famIdx (fs.drop k) s k = famIdx (fs.drop (k + 1)) s (k + 1) := by
  rw [famIdx_drop fs s k f h, if_neg (by rw [he]; simp)]
theorem famIdx_end (fs : List Fm) (s : ByteArray) (k : Nat) (h : fs.length ≤ k) : famIdx (fs.drop k) s k = -1 := by
  rw [List.drop_eq_nil_of_le h]; rfl

/-- May that byte stand at that place of a family's name? -/
def okc (i : Nat) (c : Nat) : Bool := (decide (97 ≤ c) && decide (c ≤ 122)) || (decide (i ≠ 0) && (decide (c = 95) || (decide (48 ≤ c) && decide (c ≤ 57))))
/-- May the first k bytes stand where they do? -/
def upTo (s : ByteArray) (k : Nat) : Bool := (List.range k).all fun j => okc j (s[j]?.getD 0).toNat
def nameB (s : ByteArray) : Bool := decide (1 ≤ s.size) && decide (s.size ≤ 32) && upTo s s.size

theorem upTo_zero (s : ByteArray) : upTo s 0 = true := rfl
theorem upTo_succ (s : ByteArray) (k : Nat) (h : k < s.size) (hu : upTo s k = true) (hc : okc k s[k].toNat = true) : upTo s (k + 1) = true := by
  unfold upTo at *
  rw [List.range_succ, List.all_append, hu]
  simp [hc, h]
theorem name_no (s : ByteArray) (h : s.size < 1 ∨ 32 < s.size) : nameB s = false := by
  unfold nameB
  rcases h with h | h
  · simp [show ¬ 1 ≤ s.size from by omega]
  · simp [show ¬ s.size ≤ 32 from by omega]
theorem name_bad (s : ByteArray) (k : Nat) (h : k < s.size) (hc : okc k s[k].toNat = false) : nameB s = false := by
  have : upTo s s.size = false := by
    unfold upTo
    rw [List.all_eq_false]
    exact ⟨k, List.mem_range.2 h, by simp [h, hc]⟩
  simp [nameB, this]
theorem name_yes (s : ByteArray) (h1 : 1 ≤ s.size) (h2 : s.size ≤ 32) (hu : upTo s s.size = true) : nameB s = true := by
  simp [nameB, h1, h2, hu]
theorem okc_letter (i c : Nat) (h1 : 97 ≤ c) (h2 : c ≤ 122) : okc i c = true := by simp [okc, h1, h2]
theorem okc_more (i c : Nat) (h : i ≠ 0) (h1 : c = 95 ∨ (48 ≤ c ∧ c ≤ 57)) : okc i c = true := by
  rcases h1 with h1 | ⟨h1, h2⟩
  · simp [okc, h, h1]
  · simp [okc, h, h1, h2]
theorem okc_first (c : Nat) (h : ¬ (97 ≤ c ∧ c ≤ 122)) : okc 0 c = false := by
  simp [okc]; omega
theorem okc_none (i c : Nat) (h : ¬ (97 ≤ c ∧ c ≤ 122)) (h1 : c ≠ 95) (h2 : ¬ (48 ≤ c ∧ c ≤ 57)) : okc i c = false := by
  simp [okc, h1]; omega

/-- May the family stand at place i of the list? -/
def okFam (fs : List Fm) (i : Nat) (f : Fm) : Bool := nameB f.name && decide (famIdx fs f.name 0 = (i : Int)) && (decide (1 ≤ f.max) && decide (f.max ≤ 16)) && (decide (0 ≤ f.ttl) && decide (f.ttl ≤ 1099511627776))
def okTo (fs : List Fm) (k : Nat) : Bool := (List.range k).all fun j => match fs[j]? with | some f => okFam fs j f | none => true
def schemaB (fs : List Fm) : Bool := decide (1 ≤ fs.length) && decide (fs.length ≤ 8) && okTo fs fs.length
def schemaE (fs : List Fm) : Int := if schemaB fs then 0 else 28
theorem okTo_zero (fs : List Fm) : okTo fs 0 = true := rfl
theorem okTo_succ (fs : List Fm) (k : Nat) (f : Fm) (h : fs[k]? = some f) (hu : okTo fs k = true) (hc : okFam fs k f = true) : okTo fs (k + 1) = true := by
  unfold okTo at *
  rw [List.range_succ, List.all_append, hu]
  simp [h, hc]
theorem schema_size (fs : List Fm) (h : fs.length < 1 ∨ 8 < fs.length) : schemaE fs = 28 := by
  have : schemaB fs = false := by
    unfold schemaB
    rcases h with h | h
    · simp [show ¬ 1 ≤ fs.length from by omega]
    · simp [show ¬ fs.length ≤ 8 from by omega]
  simp [schemaE, this]
theorem schema_bad (fs : List Fm) (k : Nat) (f : Fm) (h : fs[k]? = some f) (hc : okFam fs k f = false) : schemaE fs = 28 := by
  have hk : k < fs.length := (List.getElem?_eq_some_iff.1 h).1
  have : okTo fs fs.length = false := by
    unfold okTo
    rw [List.all_eq_false]
    exact ⟨k, List.mem_range.2 hk, by simp [h, hc]⟩
  simp [schemaE, schemaB, this]
theorem schema_yes (fs : List Fm) (h1 : 1 ≤ fs.length) (h2 : fs.length ≤ 8) (hu : okTo fs fs.length = true) : schemaE fs = 0 := by
  simp [schemaE, schemaB, h1, h2, hu]
theorem okFam_yes (fs : List Fm) (i : Nat) (f : Fm) (a : nameB f.name = true) (b : famIdx fs f.name 0 = (i : Int)) (c : 1 ≤ f.max) (d : f.max ≤ 16) (e : 0 ≤ f.ttl) (g : f.ttl ≤ 1099511627776) : okFam fs i f = true := by
  simp [okFam, a, b, c, d, e, g]
theorem okFam_no (fs : List Fm) (i : Nat) (f : Fm) (h : nameB f.name = false ∨ famIdx fs f.name 0 ≠ (i : Int) ∨ f.max < 1 ∨ 16 < f.max ∨ f.ttl < 0 ∨ 1099511627776 < f.ttl) : okFam fs i f = false := by
  unfold okFam
  rcases h with h | h | h | h | h | h
  · simp [h]
  · simp [h]
  · simp [show ¬ 1 ≤ f.max from by omega]
  · simp [show ¬ f.max ≤ 16 from by omega]
  · simp [show ¬ 0 ≤ f.ttl from by omega]
  · simp [show ¬ f.ttl ≤ 1099511627776 from by omega]
theorem famIdx_bd (fs : List Fm) (s : ByteArray) (i : Nat) : -1 ≤ famIdx fs s i ∧ famIdx fs s i ≤ (i + fs.length : Nat) := by
  induction fs generalizing i with
  | nil => simp only [famIdx, List.length_nil]; omega
  | cons f fs ih =>
    have := ih (i + 1)
    simp only [famIdx, List.length_cons]
    split <;> omega

def mark : Fm := ⟨⟨#[109, 97, 114, 107]⟩, -1, 0⟩
theorem cells_one (fs : List Fm) : ∀ u ∈ cellsOf fs, u.oneCell' = true := by
  intro u hu
  simp only [cellsOf, List.mem_flatMap, Fm.cells] at hu
  obtain ⟨f, _, hf⟩ := hu
  simp at hf
  rcases hf with rfl | rfl | rfl <;> rfl
theorem cellsOf_take (fs : List Fm) (k : Nat) : cellsOf (fs.take k) = (cellsOf fs).take (k * 3) := by
  induction fs generalizing k with
  | nil => simp [cellsOf]
  | cons f fs ih =>
    cases k with
    | zero => simp [cellsOf]
    | succ k =>
      have := ih k
      simp only [List.take_succ_cons]
      have e : ∀ l, cellsOf (f :: l) = [.string f.name, .int .i64 f.max, .int .i64 f.ttl] ++ cellsOf l := fun _ => rfl
      rw [e, e, this, show (k + 1) * 3 = k * 3 + 3 from by omega]
      rfl

end Go.Proofs.Ytkecjfeonenogaa
