/-
  Laid together by merge.py: Law3, CellLaw, Law4, MemLaw, MemLaw3.
-/
import Derived.Test.YtdaoinhkagmbdaaMl6
import Derived.Test.YtdaoinhkagmbdaaMl1
import Derived.Test.YtdaoinhkagmbdaaRows
import Derived.Test.YtdaoinhkagmbdaaMl2
import Derived.OpenShut
namespace Go.Proofs.Ytdaoinhkagmbdaa
open Go.RowKit Go.WideShapes Go.ChangeShapes Go.Joins Go.Deep
theorem bulk_one {H : Type} (d : DataW H) : 1 ≤ Rows.uptoBulk d := by
  cases d with
  | lit l => cases l <;> simp [Rows.uptoBulk]
  | nil => simp [Rows.uptoBulk]
  | ptr d => simp [Rows.uptoBulk]
  | slice elems spare => simp [Rows.uptoBulk]
  | agg parts => simp [Rows.uptoBulk]
  | iface t d => simp [Rows.uptoBulk]
  | map entries => simp [Rows.uptoBulk]
  | held h => simp [Rows.uptoBulk]
theorem bulk_len {H : Type} (l : List (DataW H)) : l.length ≤ Rows.uptoBulkAll l := by
  induction l with
  | nil => simp [Rows.uptoBulkAll]
  | cons x r ih => have := bulk_one x; simp only [Rows.uptoBulkAll, List.length_cons]; omega
section
variable {H : Type} {enc : TypeId × Value → H} {P : Program} {w : World} {base : Nat} {held : Bool}
theorem upto_bytes {t e : TypeId} {fuel : Nat} {cs : List Value} {x : DataW H × List MemPlace} (ht : P.underlying t = some (.slice e)) (he : P.underlying e = some (.int .u8)) (hC : P.cellsOf e = 1)
    (h : DataW.trod enc P w base (fun _ => true) held fuel t cs = some x) :
    ∃ (A : Option Addr) (c : Nat) (l : List UInt8), cs = [.slice A l.length c] ∧ Sl w A l.length c l ∧ c + 1 ≤ Rows.uptoBulk x.1 := by
  obtain ⟨A, c, l, h1, h2, h3, h4, h5⟩ := open_bytes ht he hC h
  refine ⟨A, c, l, h1, ⟨h5, h2, h3, h4⟩, ?_⟩
  rcases open_slice1 ht hC h with ⟨rfl, rfl⟩ | ⟨a, len, cap, m, n, V, D, Pl, rfl, _, hl, hm, hmm, hx, hi⟩
  · injection h1 with h1
    injection h1 with _ _ h1
    subst h1
    simp [Rows.uptoBulk]
  · injection h1 with h1
    injection h1 with _ _ h1
    subst h1
    rw [if_pos rfl] at hmm
    subst hmm
    rw [hx]
    simp only [Rows.uptoBulk]
    have e1 := bulk_len (H := H) ((List.range len).map D)
    have e2 := bulk_len (H := H) ((List.range (m - len)).map fun j => D (len + j))
    simp only [List.length_map, List.length_range] at e1 e2
    omega
end
end Go.Proofs.Ytdaoinhkagmbdaa
namespace Go.Proofs.Ytdaoinhkagmbdaa
open Go.RowKit Go.WideShapes Go.ChangeShapes Go.Joins Go.Deep
section
variable {H : Type} {enc : TypeId × Value → H} {w : World} {base : Nat} {spare : Nat → Bool} {held : Bool}
end
end Go.Proofs.Ytdaoinhkagmbdaa
namespace Go.Proofs.Ytdaoinhkagmbdaa
open Go.RowKit Go.WideShapes Go.ChangeShapes Go.Joins Go.Deep
theorem bulk_mem {H : Type} {d : DataW H} {l : List (DataW H)} (h : d ∈ l) : Rows.uptoBulk d ≤ Rows.uptoBulkAll l := by
  induction l with
  | nil => cases h
  | cons x l ih =>
    simp only [Rows.uptoBulkAll]
    rcases List.mem_cons.1 h with rfl | h
    · omega
    · have := ih h; omega
section
variable {H : Type} {enc : TypeId × Value → H} {P : Program} {w : World} {base : Nat} {held : Bool}
theorem upto_structs {t e : TypeId} {fs : Array Field} {fuel : Nat} {cs : List Value} {x : DataW H × List MemPlace} (ht : P.underlying t = some (.slice e)) (he : P.underlying e = some (.struct fs))
    (hone : oneCellFields P fs = true) (hC : P.cellsOf e = fs.size) (h : DataW.trod enc P w base (fun _ => true) held fuel t cs = some x) :
    cs = [.slice none 0 0] ∨
    ∃ (a : Addr) (len cap : Nat), cs = [.slice (some a) len cap] ∧ len ≤ cap ∧ cap ≤ maxLen ∧ cap + 1 ≤ Rows.uptoBulk x.1 ∧
      ∀ i, i < len → ∀ (j : Nat) (f : Field), fs[j]? = some f → ∃ (v : Value) (y : DataW H × List MemPlace) (n : Nat), w.cell? (a.add (i * fs.size + j)) = some v ∧ DataW.trod enc P w base (fun _ => true) held n f.type [v] = some y ∧ Rows.uptoBulk y.1 + 1 ≤ Rows.uptoBulk x.1 := by
  rcases open_slice_fields ht he hone hC h with ⟨h0, _⟩ | ⟨a, len, cap, m, D, Pl, hcs, hb, hl, hm, hmm, hx, hi⟩
  · exact .inl h0
  · rw [if_pos rfl] at hmm
    subst hmm
    refine .inr ⟨a, len, m, hcs, hl, hm, ?_, fun i him j f hf => ?_⟩
    · rw [hx]
      simp only [Rows.uptoBulk]
      have e1 := bulk_len (H := H) ((List.range len).map D)
      have e2 := bulk_len (H := H) ((List.range (m - len)).map fun j => D (len + j))
      simp only [List.length_map, List.length_range] at e1 e2
      omega
    · obtain ⟨ys, n, hD, _, hyl, hq⟩ := hi i (by omega)
      obtain ⟨v, y, hc, hy, ht'⟩ := hq j f hf
      refine ⟨v, y, n, hc, ht', ?_⟩
      have h1 : Rows.uptoBulk y.1 ≤ Rows.uptoBulkAll (ys.map (·.1)) := bulk_mem (List.mem_map.2 ⟨y, List.mem_of_getElem? hy, rfl⟩)
      have h2 : Rows.uptoBulk (D i) ≤ Rows.uptoBulkAll ((List.range len).map D) := bulk_mem (List.mem_map.2 ⟨i, List.mem_range.2 him, rfl⟩)
      rw [hD] at h2
      rw [hx]
      simp only [Rows.uptoBulk] at h2 ⊢
      omega
theorem field_int {k : IntKind} {t : TypeId} {v : Value} {y : DataW H × List MemPlace} {n : Nat} {sp : Nat → Bool} (ht : P.underlying t = some (.int k)) (h : DataW.trod enc P w base sp held n t [v] = some y) : ∃ z : Int, v = .int k z ∧ (Lit.int k z).wf = true := by
  obtain ⟨z, e0, _, hw⟩ := DataW.trod_int ht h
  injection e0 with e0 _
  exact ⟨z, e0, hw⟩
theorem field_bytes {t e : TypeId} {v : Value} {y : DataW H × List MemPlace} {n : Nat} (ht : P.underlying t = some (.slice e)) (he : P.underlying e = some (.int .u8)) (hC : P.cellsOf e = 1) (h : DataW.trod enc P w base (fun _ => true) held n t [v] = some y) :
    ∃ (A : Option Addr) (m c : Nat) (l : List UInt8), v = .slice A m c ∧ Sl w A m c l ∧ c + 1 ≤ Rows.uptoBulk y.1 := by
  obtain ⟨A, c, l, e0, h1, h2⟩ := upto_bytes ht he hC h
  injection e0 with e0 _
  exact ⟨A, _, c, l, e0, h1, h2⟩
end
end Go.Proofs.Ytdaoinhkagmbdaa
namespace Go.Proofs.Ytdaoinhkagmbdaa
open Go.RowKit Go.WideShapes Go.ChangeShapes Go.Joins Go.Deep
theorem ens_of_cells {w : World} {b o n : Nat} (hb : b < w.heap.size) (h : ∀ i, i < n → ∃ r : ER, (∀ j v, r.cells[j]? = some v → w.cell? ⟨b, o + (i * 7 + j), none⟩ = some v) ∧ r.En w) : ∃ L, Ens w (some ⟨b, o, none⟩) n L := by
  have hh : ∀ m, m ≤ n → ∃ rs : List ER, rs.length = m ∧ (∀ i r, rs[i]? = some r → (∀ j v, r.cells[j]? = some v → w.cell? ⟨b, o + (i * 7 + j), none⟩ = some v) ∧ r.En w) := by
    intro m
    induction m with
    | zero => intro _; exact ⟨[], rfl, fun i r hr => by cases hr⟩
    | succ m ih =>
      intro hm
      obtain ⟨rs, h1, h2⟩ := ih (by omega)
      obtain ⟨r, hr⟩ := h m (by omega)
      refine ⟨rs ++ [r], by rw [List.length_append, h1]; rfl, fun i q hq => ?_⟩
      rw [List.getElem?_append] at hq
      split at hq
      · exact h2 i q hq
      · rename_i hlt
        obtain rfl : i = m := by
          have := (List.getElem?_eq_some_iff.1 hq).1
          simp at this; omega
        rw [h1, Nat.sub_self] at hq
        injection hq with hq
        subst hq; exact hr
  obtain ⟨rs, h1, h2⟩ := hh n (Nat.le_refl _)
  refine ⟨rs.map ER.e, rs, rfl, ⟨by rw [flat7_len, h1], fun _ => ⟨b, o, rfl, hb, fun j u hu => ?_⟩⟩, fun r hr => ?_⟩
  · have hj : j < rs.length * 7 := by have := (List.getElem?_eq_some_iff.1 hu).1; rwa [flat7_len] at this
    obtain ⟨r, hr⟩ : ∃ r, rs[j / 7]? = some r := ⟨_, List.getElem?_eq_getElem (by omega)⟩
    have e : j = j / 7 * 7 + j % 7 := by omega
    rw [e] at hu ⊢
    rw [flat7_at hr (j % 7) (by omega)] at hu
    exact (h2 _ r hr).1 (j % 7) u hu
  · obtain ⟨i, hi⟩ := List.getElem?_of_mem hr
    exact (h2 i r hi).2
section
variable {H : Type} {enc : TypeId × Value → H} {w : World} {base : Nat} {held : Bool}
set_option maxRecDepth 100000 in
theorem upto_ents {fuel : Nat} {cs : List Value} {x : DataW H × List MemPlace} (h : DataW.trod enc Try.prog w base (fun _ => true) held fuel 22 cs = some x) (hb : Rows.uptoBulk x.1 ≤ 1048576) :
    ∃ (A : Option Addr) (n c : Nat) (L : List Ent), cs = [.slice A n c] ∧ n ≤ c ∧ c ≤ 1048576 ∧ Ens w A n L := by
  rcases upto_structs Try.underlying22 Try.underlying30 (by kernel_rfl) (by kernel_rfl) h with rfl | ⟨a, len, cap, rfl, hl, hm, hc, hi⟩
  · exact ⟨none, 0, 0, [], rfl, by omega, by omega, Ens.nil⟩
  · rcases Nat.eq_zero_or_pos len with h0 | hn
    · subst h0; exact ⟨some a, 0, cap, [], rfl, hl, by omega, Ens.nil⟩
    obtain ⟨v, y, n, c0, _⟩ := hi 0 hn 0 _ rfl
    have c0' : w.cell? (a.add 0) = some v := c0
    rw [show a.add 0 = a from by simp [Addr.add]] at c0'
    have hsp := spot_none c0'
    have hb0 := World.block_lt_of_cell? w a c0'
    obtain ⟨L, hL⟩ := ens_of_cells (w := w) (b := a.block) (o := a.off) (n := len) hb0 fun i him => by
      obtain ⟨v0, y0, n0, c0, t0, u0⟩ := hi i him 0 _ rfl
      obtain ⟨v1, y1, n1, c1, t1, _⟩ := hi i him 1 _ rfl
      obtain ⟨v2, y2, n2, c2, t2, u2⟩ := hi i him 2 _ rfl
      obtain ⟨v3, y3, n3, c3, t3, _⟩ := hi i him 3 _ rfl
      obtain ⟨v4, y4, n4, c4, t4, _⟩ := hi i him 4 _ rfl
      obtain ⟨v5, y5, n5, c5, t5, _⟩ := hi i him 5 _ rfl
      obtain ⟨v6, y6, n6, c6, t6, u6⟩ := hi i him 6 _ rfl
      obtain ⟨A, m, c, l, rfl, hs, _⟩ := field_bytes Try.underlying28 Try.underlying5 (by kernel_rfl) t0
      obtain ⟨fam, rfl, _⟩ := field_int Try.underlying3 t1
      obtain ⟨B, m2, d, l2, rfl, hs2, _⟩ := field_bytes Try.underlying28 Try.underlying5 (by kernel_rfl) t2
      obtain ⟨ts, rfl, _⟩ := field_int Try.underlying3 t3
      obtain ⟨sq, rfl, _⟩ := field_int Try.underlying3 t4
      obtain ⟨kd, rfl, _⟩ := field_int Try.underlying3 t5
      obtain ⟨D, m3, q, l3, rfl, hs3, _⟩ := field_bytes Try.underlying28 Try.underlying5 (by kernel_rfl) t6
      have e1 := hs.rb.len
      have e2 := hs2.rb.len
      have e3 := hs3.rb.len
      subst e1 e2 e3
      rw [addr_add _ _ hsp] at c0 c1 c2 c3 c4 c5 c6
      refine ⟨⟨A, c, B, d, D, q, ⟨l, fam, l2, ts, sq, kd, l3⟩⟩, fun j v hj => ?_, ⟨hs, hs2, hs3⟩⟩
      match j, hj with
      | 0, hj => injection hj with hj; subst hj; exact c0
      | 1, hj => injection hj with hj; subst hj; exact c1
      | 2, hj => injection hj with hj; subst hj; exact c2
      | 3, hj => injection hj with hj; subst hj; exact c3
      | 4, hj => injection hj with hj; subst hj; exact c4
      | 5, hj => injection hj with hj; subst hj; exact c5
      | 6, hj => injection hj with hj; subst hj; exact c6
    exact ⟨some a, len, cap, L, rfl, hl, by omega, by obtain ⟨b, o, sp⟩ := a; simp at hsp; subst hsp; exact hL⟩
set_option maxRecDepth 100000 in
theorem upto_ents_top {r : Reach} {b0 : Nat} {v : Value} {d : DataW H} {ps : List MemPlace} (hval : Value.okWide Try.prog w r b0 22 v) (h : DataW.Trod enc Try.prog w base (fun _ => true) held 22 v d ps) (hb : Rows.uptoBulk d ≤ 1048576) :
    ∃ (A : Option Addr) (n c : Nat) (L : List Ent), v = .slice A n c ∧ n ≤ 1048576 ∧ Ens w A n L := by
  obtain ⟨fuel, hf⟩ := open_slice_top Try.underlying22 hval h
  obtain ⟨A, n, c, L, h1, h2, h3, h4⟩ := upto_ents hf hb
  injection h1 with h1
  exact ⟨A, n, c, L, h1, by omega, h4⟩
end
end Go.Proofs.Ytdaoinhkagmbdaa
namespace Go.Proofs.Ytdaoinhkagmbdaa
open Go.RowKit Go.WideShapes Go.ChangeShapes Go.Joins Go.Deep
section
variable {H : Type} {enc : TypeId × Value → H} {w : World} {base : Nat} {held : Bool}
set_option maxRecDepth 100000 in
theorem upto_entry {r : Reach} {b0 : Nat} {v : Value} {d : DataW H} {ps : List MemPlace} (hval : Value.okWide Try.prog w r b0 30 v) (h : DataW.Trod enc Try.prog w base (fun _ => true) held 30 v d ps) (hb : Rows.uptoBulk d ≤ 1048576) :
    ∃ (A : Option Addr) (n c : Nat) (B : Option Addr) (m z : Nat) (D : Option Addr) (y q : Nat) (e : Ent), v = entV A n c B m z D y q e ∧ En w A n c B m z D y q e ∧ n ≤ 1048576 ∧ m ≤ 1048576 ∧ y ≤ 1048576 := by
  obtain ⟨cs, rfl, hsz⟩ := okWide_struct Try.underlying30 hval
  obtain ⟨fuel, hf⟩ := h
  have hC : Try.prog.cellsOf 30 = 7 := by kernel_rfl
  have hB : Try.prog.cellsOf 28 = 1 := by kernel_rfl
  have hI : Try.prog.cellsOf 3 = 1 := by kernel_rfl
  have hU : Try.prog.cellsOf 5 = 1 := by kernel_rfl
  rw [hC] at hsz
  obtain ⟨l⟩ := cs
  match l, hsz with
  | [v0, v1, v2, v3, v4, v5, v6], _ =>
    obtain ⟨xs, k, rfl, hx, _, hlen, hi⟩ := DataW.trod_struct Try.underlying30 hf
    match xs, hlen with
    | [x0, x1, x2, x3, x4, x5, x6], _ =>
      have t0 : DataW.trod enc Try.prog w base (fun _ => true) held k 28 (([v0, v1, v2, v3, v4, v5, v6].drop 0).take (Try.prog.cellsOf 28)) = some x0 := hi 0 _ rfl
      have t1 : DataW.trod enc Try.prog w base (fun _ => true) held k 3 (([v0, v1, v2, v3, v4, v5, v6].drop 1).take (Try.prog.cellsOf 3)) = some x1 := hi 1 _ rfl
      have t2 : DataW.trod enc Try.prog w base (fun _ => true) held k 28 (([v0, v1, v2, v3, v4, v5, v6].drop 2).take (Try.prog.cellsOf 28)) = some x2 := hi 2 _ rfl
      have t3 : DataW.trod enc Try.prog w base (fun _ => true) held k 3 (([v0, v1, v2, v3, v4, v5, v6].drop 3).take (Try.prog.cellsOf 3)) = some x3 := hi 3 _ rfl
      have t4 : DataW.trod enc Try.prog w base (fun _ => true) held k 3 (([v0, v1, v2, v3, v4, v5, v6].drop 4).take (Try.prog.cellsOf 3)) = some x4 := hi 4 _ rfl
      have t5 : DataW.trod enc Try.prog w base (fun _ => true) held k 3 (([v0, v1, v2, v3, v4, v5, v6].drop 5).take (Try.prog.cellsOf 3)) = some x5 := hi 5 _ rfl
      have t6 : DataW.trod enc Try.prog w base (fun _ => true) held k 28 (([v0, v1, v2, v3, v4, v5, v6].drop 6).take (Try.prog.cellsOf 28)) = some x6 := hi 6 _ rfl
      rw [hB] at t0 t2 t6
      rw [hI] at t1 t3 t4 t5
      obtain ⟨A, c, l0, e0, p1, p2⟩ := upto_bytes Try.underlying28 Try.underlying5 hU t0
      obtain ⟨B, z, l2, e2, q1, q2⟩ := upto_bytes Try.underlying28 Try.underlying5 hU t2
      obtain ⟨D, q, l6, e6, s1, s2⟩ := upto_bytes Try.underlying28 Try.underlying5 hU t6
      obtain ⟨i1, e1, _, _⟩ := DataW.trod_int Try.underlying3 t1
      obtain ⟨i3, e3, _, _⟩ := DataW.trod_int Try.underlying3 t3
      obtain ⟨i4, e4, _, _⟩ := DataW.trod_int Try.underlying3 t4
      obtain ⟨i5, e5, _, _⟩ := DataW.trod_int Try.underlying3 t5
      injection e0 with e0 _; injection e1 with e1 _; injection e2 with e2 _; injection e3 with e3 _; injection e4 with e4 _; injection e5 with e5 _; injection e6 with e6 _
      have e0 : v0 = _ := e0
      have e1 : v1 = _ := e1
      have e2 : v2 = _ := e2
      have e3 : v3 = _ := e3
      have e4 : v4 = _ := e4
      have e5 : v5 = _ := e5
      have e6 : v6 = _ := e6
      subst e0 e1 e2 e3 e4 e5 e6
      have hx' : d = .agg [x0.1, x1.1, x2.1, x3.1, x4.1, x5.1, x6.1] := congrArg Prod.fst hx
      rw [hx'] at hb
      simp only [Rows.uptoBulk, Rows.uptoBulkAll] at hb
      have k0 := p1.cap
      have k2 := q1.cap
      have k6 := s1.cap
      exact ⟨A, l0.length, c, B, l2.length, z, D, l6.length, q, ⟨l0, i1, l2, i3, i4, i5, l6⟩, rfl, ⟨p1, q1, s1⟩, by omega, by omega, by omega⟩
end
end Go.Proofs.Ytdaoinhkagmbdaa
