/-
  CellSchemas returns true for every schema and every name, and leaves what was handed in as it was. No condition.
-/
import Derived.Test.YtkecjfeonenogaaLaw
import Derived.Test.YtkecjfeonenogaaWalkE
namespace Go.Proofs.Ytkecjfeonenogaa
open Go.ChangeShapes Go.WideShapes Go.ChangeAt Go.RowKit Go.Joins Go.Deep
open Go.ChangeMaps (open_string)

theorem Try.own : ownKnob Try.prog.godebug = none := by kernel_rfl
theorem Try.laidOut : laidOutB Try.prog = true := by kernel_rfl
theorem Try.cells24 : Try.prog.cellsOf 24 = 1 := by kernel_rfl
theorem Try.cells27 : Try.prog.cellsOf 27 = 3 := by kernel_rfl

/-- A slice of families that came in, opened. -/
theorem open_fams {H : Type} {enc : TypeId × Value → H} {w : World} {base : Nat} {spare : Nat → Bool} {held : Bool} {fuel : Nat} {c0 : Value} {x : DataW H × List MemPlace}
    (h : DataW.trod enc Try.prog w base spare held fuel 22 [c0] = some x) :
    ∃ (A : Option Addr) (n c : Nat) (fs : List Fm), c0 = .slice A n c ∧ fs.length = n ∧ n ≤ maxLen ∧ n ≤ c ∧ Reads w w.heap.size 3 A n (cellsOf fs) ∧ ∀ f ∈ fs, f.ok := by
  rcases open_slice_fields (fs := _) Try.underlying22 Try.underlying27 (by kernel_rfl) (by kernel_rfl) h with ⟨e, _⟩ | ⟨a, len, cap, m, D, Pl, e, _, hl, hm, hmm, _, hi⟩
  · injection e with e _
    exact ⟨none, 0, 0, [], e, rfl, by simp, by simp, Reads.nil, by simp⟩
  · injection e with e _
    have hlm : len ≤ m := by rw [hmm]; split <;> omega
    obtain ⟨fs, hfl, hf⟩ := list_of (Q := fun i (f : Fm) => f.ok ∧ w.cell? (a.add (i * 3)) = some (.string f.name) ∧ w.cell? (a.add (i * 3 + 1)) = some (.int .i64 f.max) ∧ w.cell? (a.add (i * 3 + 2)) = some (.int .i64 f.ttl)) len (fun i hi' => by
      obtain ⟨ys, k, _, _, _, hfi⟩ := hi i (by omega)
      obtain ⟨v0, y0, c0', _, t0⟩ := hfi 0 _ rfl
      obtain ⟨v1, y1, c1', _, t1⟩ := hfi 1 _ rfl
      obtain ⟨v2, y2, c2', _, t2⟩ := hfi 2 _ rfl
      obtain ⟨s, e0, _, hs⟩ := DataW.trod_string Try.underlying9 t0
      obtain ⟨x1, e1, _, w1⟩ := DataW.trod_int Try.underlying3 t1
      obtain ⟨x2, e2, _, w2⟩ := DataW.trod_int Try.underlying3 t2
      injection e0 with e0 _; injection e1 with e1 _; injection e2 with e2 _
      subst e0; subst e1; subst e2
      simp [Lit.wf] at w1 w2
      exact ⟨⟨s, x1, x2⟩, ⟨hs, w1.1, by have := w1.2; omega, w2.1, by have := w2.2; omega⟩, c0', c1', c2'⟩)
    refine ⟨some a, len, cap, fs, e, hfl, by omega, hl, reads_of (by rw [cellsOf_length, hfl]) (by decide) ?_, ?_⟩
    · intro j u hu
      have hj : j < fs.length * 3 := by have := (List.getElem?_eq_some_iff.1 hu).1; rwa [cellsOf_length] at this
      have hk : j / 3 < fs.length := by omega
      obtain ⟨_, q0, q1, q2⟩ := hf (j / 3) _ (List.getElem?_eq_getElem hk)
      obtain ⟨p0, p1, p2⟩ := cellsOf_at fs (j / 3) _ (List.getElem?_eq_getElem hk)
      rcases (show j = j / 3 * 3 ∨ j = j / 3 * 3 + 1 ∨ j = j / 3 * 3 + 2 from by omega) with e' | e' | e'
      · rw [← e'] at p0 q0; rw [p0] at hu; rw [q0]; exact hu
      · rw [← e'] at p1 q1; rw [p1] at hu; rw [q1]; exact hu
      · rw [← e'] at p2 q2; rw [p2] at hu; rw [q2]; exact hu
    · intro f hf'
      obtain ⟨i, hi'⟩ := List.getElem?_of_mem hf'
      exact (hf i f hi').1

set_option maxRecDepth 100000 in
theorem law_lifted (os : Os) (started : os.Started) (H : Type) (enc : TypeId × Value → H) :
    ReturnsInHanded {} Try.checked os 3 .any (Rows.cellSchemasSpec.pre6 enc Try.prog Try.f3 Rows.cellSchemasRow.domain false) (Rows.cellSchemasSpec.post enc Try.prog Try.f3 false true false false) := by
  refine returnsInHanded_of_change (C := Try.checked) Try.own started (by kernel_rfl) Try.func3
    (ChangeSpec.witness6 (enc := enc) (C := Try.checked) false ⟨#[], #[.agg #[.slice none 0 0], .string ⟨#[]⟩], []⟩ 8 (by kernel_rfl) (by kernel_rfl) (by kernel_rfl) (by kernel_rfl)) ?_
  intro W base args ds gs before hval0 hW _ _
  have hval : ∀ (j : Nat) t v, Try.f3.params[j]? = some t → args[j]? = some v → Value.okWide Try.prog W .any base t v := hval0
  have hW' := hW
  obtain ⟨p, q, hA0, hV, rfl, _, _⟩ := hW
  have hA : DataW.TrodAll enc Try.prog W 0 (fun _ => true) true Try.f3.params.toList args.toList ds p := hA0
  rw [Try.params3] at hA hval
  obtain ⟨v0, v1, d0, d1, p0, p1, rfl, rfl, rfl, h0, h1⟩ := trodAll_two hA
  obtain ⟨rfl, rfl⟩ := trodVars_none hV
  obtain ⟨c0, y0, m, rfl, rfl, rfl, hy0⟩ := open_agg1 Try.underlying24 (by kernel_rfl) Try.cells24 (hval 0 24 v0 rfl rfl) h0
  obtain ⟨nm, rfl, rfl, rfl, hs⟩ := open_string Try.underlying9 (hval 1 9 v1 rfl rfl) h1
  obtain ⟨A, n, c, fs, rfl, hn, hm, hnc, hr, hok⟩ := open_fams hy0
  refine (law_any fs A n c nm W hn hm hnc hr hok).mono fun e W' ⟨he, hb⟩ => ?_
  subst he
  exact ⟨_, rfl, law_post Try.laidOut (by rw [Try.params3]; decide +kernel) rfl hW' (tb := 4) (by kernel_rfl) Try.underlying4 rfl hb⟩

theorem x_holds : Rows.CellSchemasSaid :=
  OpenClaim.holds_of_wide 3 Try.f3 rfl rfl rfl rfl rfl rfl rfl ⟨rfl, rfl, rfl, rfl, rfl⟩ rfl rfl rfl rfl rfl (by kernel_rfl) Try.func3 (by kernel_rfl)
    (of_decide_eq_true (by kernel_rfl)) (by unfold Func.isWrapper; rw [if_neg (by decide +kernel)]; exact ⟨rfl, rfl⟩)
    (fun os started H enc _ => law_lifted os started H enc)

#print axioms x_holds
end Go.Proofs.Ytkecjfeonenogaa
