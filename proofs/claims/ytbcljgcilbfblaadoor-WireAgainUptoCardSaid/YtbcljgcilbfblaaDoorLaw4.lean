/-
  A slice of structs that came in, each field of one cell: its cells, what each field reads as, and the bound on it.
-/
import Derived.Test.YtbcljgcilbfblaaDoorLaw3
namespace Go.Proofs.YtbcljgcilbfblaaDoor
open Go.RowKit Go.WideShapes Go.ChangeShapes Go.Joins Go.Deep

theorem bulk_mem {H : Type} {d : DataW H} {l : List (DataW H)} (h : d ∈ l) : Rows.uptoBulk d ≤ Rows.uptoBulkAll l := by
  induction l with
  | nil => cases h
  | cons x l ih =>
    simp only [Rows.uptoBulkAll]
    rcases List.mem_cons.1 h with rfl | h
    · omega
    · have := ih h; omega

section
variable {H : Type} {enc : TypeId × Value → H} {P : Program} {w : World} {base : Nat} {held : Bool}
theorem upto_structs {t e : TypeId} {fs : Array Field} {fuel : Nat} {cs : List Value} {x : DataW H × List MemPlace} (ht : P.underlying t = some (.slice e)) (he : P.underlying e = some (.struct fs))
    (hone : oneCellFields P fs = true) (hC : P.cellsOf e = fs.size) (h : DataW.trod enc P w base (fun _ => true) held fuel t cs = some x) :
    cs = [.slice none 0 0] ∨
    ∃ (a : Addr) (len cap : Nat), cs = [.slice (some a) len cap] ∧ len ≤ cap ∧ cap ≤ maxLen ∧ cap + 1 ≤ Rows.uptoBulk x.1 ∧
      ∀ i, i < len → ∀ (j : Nat) (f : Field), fs[j]? = some f → ∃ (v : Value) (y : DataW H × List MemPlace) (n : Nat), w.cell? (a.add (i * fs.size + j)) = some v ∧ DataW.trod enc P w base (fun _ => true) held n f.type [v] = some y ∧ Rows.uptoBulk y.1 + 1 ≤ Rows.uptoBulk x.1 := by
  rcases open_slice_fields ht he hone hC h with ⟨h0, _⟩ | ⟨a, len, cap, m, D, Pl, hcs, hb, hl, hm, hmm, hx, hi⟩
  · exact .inl h0
  · rw [if_pos rfl] at hmm
    subst hmm
    refine .inr ⟨a, len, m, hcs, hl, hm, ?_, fun i him j f hf => ?_⟩
    · rw [hx]
      simp only [Rows.uptoBulk]
      have e1 := bulk_len (H := H) ((List.range len).map D)
      have e2 := bulk_len (H := H) ((List.range (m - len)).map fun j => D (len + j))
      simp only [List.length_map, List.length_range] at e1 e2
      omega
    · obtain ⟨ys, n, hD, _, hyl, hq⟩ := hi i (by omega)
      obtain ⟨v, y, hc, hy, ht'⟩ := hq j f hf
      refine ⟨v, y, n, hc, ht', ?_⟩
      have h1 : Rows.uptoBulk y.1 ≤ Rows.uptoBulkAll (ys.map (·.1)) := bulk_mem (List.mem_map.2 ⟨y, List.mem_of_getElem? hy, rfl⟩)
      have h2 : Rows.uptoBulk (D i) ≤ Rows.uptoBulkAll ((List.range len).map D) := bulk_mem (List.mem_map.2 ⟨i, List.mem_range.2 him, rfl⟩)
      rw [hD] at h2
      rw [hx]
      simp only [Rows.uptoBulk] at h2 ⊢
      omega
theorem field_int {k : IntKind} {t : TypeId} {v : Value} {y : DataW H × List MemPlace} {n : Nat} {sp : Nat → Bool} (ht : P.underlying t = some (.int k)) (h : DataW.trod enc P w base sp held n t [v] = some y) : ∃ z : Int, v = .int k z ∧ (Lit.int k z).wf = true := by
  obtain ⟨z, e0, _, hw⟩ := DataW.trod_int ht h
  injection e0 with e0 _
  exact ⟨z, e0, hw⟩
theorem field_bytes {t e : TypeId} {v : Value} {y : DataW H × List MemPlace} {n : Nat} (ht : P.underlying t = some (.slice e)) (he : P.underlying e = some (.int .u8)) (hC : P.cellsOf e = 1) (h : DataW.trod enc P w base (fun _ => true) held n t [v] = some y) :
    ∃ (A : Option Addr) (m c : Nat) (l : List UInt8), v = .slice A m c ∧ Sl w A m c l ∧ c + 1 ≤ Rows.uptoBulk y.1 := by
  obtain ⟨A, c, l, e0, h1, h2⟩ := upto_bytes ht he hC h
  injection e0 with e0 _
  exact ⟨A, _, c, l, e0, h1, h2⟩
theorem field_keys {t t1 e : TypeId} {v : Value} {y : DataW H × List MemPlace} {n : Nat} (ht : P.underlying t = some (.slice t1)) (ht1 : P.underlying t1 = some (.slice e)) (he : P.underlying e = some (.int .u8)) (hC1 : P.cellsOf t1 = 1) (hC : P.cellsOf e = 1) (h : DataW.trod enc P w base (fun _ => true) held n t [v] = some y) :
    ∃ (A : Option Addr) (m c : Nat) (ks : List (List UInt8)), v = .slice A m c ∧ m ≤ c ∧ c ≤ 9223372036854775807 ∧ (A = none → c = 0) ∧ RBs w w.heap.size A m ks ∧ ks.flatten.length + c + 1 ≤ Rows.uptoBulk y.1 := by
  obtain ⟨A, c, ks, e0, h1, h2, h3, h4, h5⟩ := upto_keys ht ht1 he hC1 hC h
  injection e0 with e0 _
  exact ⟨A, _, c, ks, e0, h1, h2, h3, h4, h5⟩
end
end Go.Proofs.YtbcljgcilbfblaaDoor
