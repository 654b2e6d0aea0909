/-
  Laid together by merge.py: Kit31, BlockW1, BlockW2, BlockW3, BlockP2, BlockB1, BlockB2, Kit32, Kit33, BlockC1, BlockB3, BlockB4, BlockE, BlockB5, BlockP3, BlockC2, BlockC3, BlockP4, BlockC4, Kit34, BlockR1, BlockP5.
-/
import Derived.Test.YtmigjipfomfacaaDoorBk3
import Derived.Test.YtmigjipfomfacaaDoorBk2
import Derived.Test.YtmigjipfomfacaaDoorBk1
import Derived.Lib.Walk
import Derived.Lib.SliceRun
import Derived.Lib.AppendZerosOnto

/-
  A region that draws its order as a straight line, where what the loads read need stand only till the last operations begin, each of which waits for all loads. Over any program.
-/
namespace Go.Proofs.YtmigjipfomfacaaDoor
open Go.RowKit

section
variable {P : Program} {ops : Array Oper} {Q : Exit → Act → World → Prop} {F : List Nat} {S : World → Prop}
def finB (F : List Nat) (listed : Array Bool) : Bool := F.any fun k => listed.getD k false
/-- As wpAnyH; once one of F has come up, S is not asked any more. -/
def wpAnyT (P : Program) (ops : Array Oper) (Q : Exit → Act → World → Prop) (F : List Nat) (S : World → Prop) : Nat → Array Bool → Act → World → Prop
  | 0, listed, a, w => Region.ready .any ops listed = [] ∧ Q .normal a w
  | fuel + 1, listed, a, w =>
    (Region.ready .any ops listed = [] → Q .normal a w) ∧
    ∀ i ∈ Region.ready .any ops listed, wpOp P ops Q i (fun a' w' => (finB F (listed.setIfInBounds i true) = false → S w') ∧ wpAnyT P ops Q F S fuel (listed.setIfInBounds i true) a' w') a w
theorem wpAny_of_T : ∀ (fuel : Nat) (listed : Array Bool) (a : Act) (w : World), wpAnyT P ops Q F S fuel listed a w → wpAny P .any ops Q fuel listed a w
  | 0, _, _, _, h => h
  | fuel + 1, _, _, _, h => ⟨h.1, fun i hi => wpOp_mono (fun a' w' h' => wpAny_of_T fuel _ a' w' h'.2) (h.2 i hi)⟩
/-- D: none of these comes up ahead of operation i. -/
def depB (ops : Array Oper) (i : Nat) (D : List Nat) : Bool := !D.contains i && D.all fun k => match ops[k]? with
  | none => false
  | some o => o.after.any fun e => Region.binds .any e && (e.on == i || D.contains e.on)
theorem getD_ne {L : Array Bool} {j k : Nat} (d : Bool) (h : j ≠ k) : (L.setIfInBounds j true).getD k d = L.getD k d := by
  simp only [Array.getD_eq_getD_getElem?, Array.getElem?_setIfInBounds_ne h]
theorem fin_off {D : List Nat} {L : Array Bool} (hF : F.all (D.contains ·) = true) (hL : ∀ k, k ∈ D → L.getD k false = false) : finB F L = false := by
  unfold finB
  rw [List.any_eq_false]
  intro k hk
  have h1 := List.all_eq_true.1 hF k hk
  rw [hL k (by simpa using h1)]; simp
theorem fin_set {L : Array Bool} {i : Nat} (hi : F.contains i = false) : finB F (L.setIfInBounds i true) = finB F L := by
  unfold finB
  have : ∀ G : List Nat, (∀ k, k ∈ G → k ≠ i) → (G.any fun k => (L.setIfInBounds i true).getD k false) = G.any fun k => L.getD k false := fun G => by
    induction G with
    | nil => intro _; rfl
    | cons k G ih =>
      intro h
      rw [List.any_cons, List.any_cons, ih fun q hq => h q (List.mem_cons_of_mem _ hq), getD_ne false (fun e => h k (by simp) e.symm)]
  exact this F fun k hk e => by
    subst e
    have : F.contains k = true := by simpa using hk
    rw [hi] at this; cases this
theorem wpAnyT_first {i : Nat} {oi : Oper} {v : Value} (R : World → Prop) (hi : ops[i]? = some oi) (hsel : ∀ (j : Nat) (o : Oper) cs b, ops[j]? = some o → o.op ≠ .select cs b)
    (hQ : ∀ c a w, Q (.panic c) (a.put oi.dst v) w → Q (.panic c) a w) (D : List Nat) (hD : depB ops i D = true) (hiF : F.contains i = false)
    (hR : ∀ (L : Array Bool) w, (∀ k, k ∈ D → L.getD k false = false) → (finB F L = false → S w) → R w) :
    ∀ (fuel : Nat) (listed : Array Bool) (a : Act) (w : World),
      (∀ j oj, ops[j]? = some oj → j ≠ i → listed.getD j true = false → (∀ e ∈ oj.after, Region.binds .any e = true → e.on ≠ i) → oi.apart ops oj = true) →
      i ∈ Region.ready .any ops listed → (∀ k, k ∈ D → listed.getD k false = false) → YieldsIf P ops R oi v a → (finB F listed = false → S w) →
      wpAnyT P ops Q F S fuel (listed.setIfInBounds i true) (a.put oi.dst v) w → wpAnyT P ops Q F S (fuel + 1) listed a w := by
  obtain ⟨hDi, hDe⟩ := Bool.and_eq_true_iff.1 hD
  intro fuel
  induction fuel with
  | zero =>
    intro listed a w _ hr hun hy hS H
    refine ⟨fun h => (by rw [h] at hr; cases hr), fun j hj => ?_⟩
    by_cases hji : j = i
    · subst hji; exact hy.wpOp hi (hR listed w hun hS) ⟨fun e => hS (by rwa [fin_set hiF] at e), H⟩
    · have := ready_mono hj hji
      rw [H.1] at this
      cases this
  | succ fuel ih =>
    intro listed a w hfree hr hun hy hS H
    refine ⟨fun h => (by rw [h] at hr; cases hr), fun j hj => ?_⟩
    by_cases hji : j = i
    · subst hji; exact hy.wpOp hi (hR listed w hun hS) ⟨fun e => hS (by rwa [fin_set hiF] at e), H⟩
    · have h1 := H.2 j (ready_mono hj hji)
      obtain ⟨hjun, oj, hoj, hall⟩ := mem_ready.1 hj
      have hiun := (mem_ready.1 hr).1
      have hi0 : listed.getD i false = true → False := fun h1 => by
        rcases Nat.lt_or_ge i listed.size with h' | h'
        · simp [h'] at hiun h1; rw [hiun] at h1; cases h1
        · simp [Array.getElem?_eq_none h'] at h1
      have hnot : ∀ e ∈ oj.after, Region.binds .any e = true → e.on ≠ i := fun e he hb heq => hi0 (heq ▸ hall e he hb)
      have hjD : j ∉ D := fun hjm => by
        have h2 := List.all_eq_true.1 hDe j hjm
        rw [hoj] at h2
        have h2' : oj.after.any (fun e => Region.binds .any e && (e.on == i || D.contains e.on)) = true := h2
        rw [← Array.any_toList, List.any_eq_true] at h2'
        obtain ⟨e, he, h3⟩ := h2'
        have he := Array.mem_toList_iff.1 he
        obtain ⟨hb, h4⟩ := Bool.and_eq_true_iff.1 h3
        have h5 := hall e he hb
        rcases Bool.or_eq_true_iff.1 h4 with h6 | h6
        · exact hi0 ((beq_iff_eq.1 h6) ▸ h5)
        · rw [hun e.on (by simpa using h6)] at h5; cases h5
      have hiD : i ∉ D := by simpa using hDi
      have hun' : ∀ k, k ∈ D → (listed.setIfInBounds j true).getD k false = false := fun k hk => by
        have h3 : j ≠ k := fun e => hjD (by rw [e]; exact hk)
        rw [getD_ne false h3]; exact hun k hk
      have h2 := wpOp_putIf hoj (hfree j oj hoj hji hjun hnot) (fun cs b => hsel i oi cs b hi) (fun cs b => hsel j oj cs b hoj) hQ hy h1
      have hfree' : ∀ k ok, ops[k]? = some ok → k ≠ i → (listed.setIfInBounds j true).getD k true = false →
          (∀ e ∈ ok.after, Region.binds .any e = true → e.on ≠ i) → oi.apart ops ok = true := fun k ok hk hki hun hno => by
        refine hfree k ok hk hki ?_ hno
        by_cases hjk : j = k
        · subst hjk; exact hjun
        · rw [getD_ne true hjk] at hun; exact hun
      refine wpOp_mono (fun a' w' h3 => ?_) h2
      have hS' : finB F (listed.setIfInBounds j true) = false → S w' := fun e => h3.2.1 (by rw [Array.setIfInBounds_comm _ _ (Ne.symm hji), fin_set hiF]; exact e)
      refine ⟨hS', ih (listed.setIfInBounds j true) a' w' hfree' (ready_mono hr (Ne.symm hji)) hun' h3.1 hS' ?_⟩
      rw [Array.setIfInBounds_comm _ _ hji]
      exact h3.2.2
end
section
variable {P : Program} {Q : Exit → Act → World → Prop} {F : List Nat} {S : World → Prop} {l : List Oper} {fuel : Nat} {listed : Array Bool} {a : Act} {w : World} {i : Nat} {o : Oper} {v : Value}
theorem lt_start {id : Nat} (F : List Nat) (hm : P.follows .mixedOrders = true) (h : ∀ z, Below w.heap.size w z → ∃ S, wpAnyT P l.toArray Q F S l.length (Array.replicate l.length false) a z) : (Code.region id l.toArray true).wp P Q a w := by
  obtain ⟨S, h⟩ := h w.drew (Below.refl _ _).drew
  exact wp_region_any hm (wpAny_of_T _ _ _ _ (by simpa using h))
/-- What reads where S holds: all of F waits for it. -/
theorem lt_take (i : Nat) (D : List Nat) {o : Oper} (hi : l[i]? = some o) (hs : Region.noSelect l.toArray = true) (hf : Region.free .any l.toArray listed i = true) (hr : (Region.ready .any l.toArray listed).contains i = true)
    (hd : depB l.toArray i D = true) (hF : (F.all (D.contains ·) && !F.contains i && D.all (fun k => !listed.getD k false)) = true)
    (hQ : ∀ c a w, Q (.panic c) (a.put o.dst v) w → Q (.panic c) a w) (hy : YieldsIf P l.toArray S o v a) (hS : S w)
    (h : wpAnyT P l.toArray Q F S fuel (listed.setIfInBounds i true) (a.put o.dst v) w) : wpAnyT P l.toArray Q F S (fuel + 1) listed a w := by
  simp only [Bool.and_eq_true, Bool.not_eq_true'] at hF
  exact wpAnyT_first S (lx_at hi) (Region.noSelect_spec hs) hQ D hd hF.1.2 (fun L w hL hS => hS (fin_off hF.1.1 hL)) fuel listed a w (Region.free_spec (lx_at hi) hf) (by simpa using hr) (fun k hk => by simpa using List.all_eq_true.1 hF.2 k hk) hy (fun _ => hS) h
/-- What yields in whatever world. -/
theorem lt_pure (i : Nat) {o : Oper} (hi : l[i]? = some o) (hs : Region.noSelect l.toArray = true) (hf : Region.free .any l.toArray listed i = true) (hr : (Region.ready .any l.toArray listed).contains i = true) (hiF : F.contains i = false)
    (hQ : ∀ c a w, Q (.panic c) (a.put o.dst v) w → Q (.panic c) a w) (hy : YieldsIf P l.toArray (fun _ => True) o v a) (hS : finB F listed = false → S w)
    (h : wpAnyT P l.toArray Q F S fuel (listed.setIfInBounds i true) (a.put o.dst v) w) : wpAnyT P l.toArray Q F S (fuel + 1) listed a w :=
  wpAnyT_first (fun _ => True) (lx_at hi) (Region.noSelect_spec hs) hQ [] (by simp [depB]) hiF (fun _ _ _ _ => trivial) fuel listed a w (Region.free_spec (lx_at hi) hf) (by simpa using hr) (fun k hk => by cases hk) hy hS h
theorem lt_skip (i : Nat) {o : Oper} (hi : l[i]? = some o) (hs : Region.noSelect l.toArray = true) (hf : Region.free .any l.toArray listed i = true) (hr : (Region.ready .any l.toArray listed).contains i = true) (hiF : F.contains i = false)
    (hQ : ∀ c a w, Q (.panic c) (a.put o.dst undef) w → Q (.panic c) a w) (hw : Region.wanted o (yielded l.toArray a.tmps) = false) (hS : finB F listed = false → S w)
    (h : wpAnyT P l.toArray Q F S fuel (listed.setIfInBounds i true) (a.put o.dst undef) w) : wpAnyT P l.toArray Q F S (fuel + 1) listed a w :=
  lt_pure i hi hs hf hr hiF hQ (.inr ⟨hw, rfl⟩) hS h
/-- The same behind the first of F. -/
theorem lt_pureF (i : Nat) {o : Oper} (hi : l[i]? = some o) (hs : Region.noSelect l.toArray = true) (hf : Region.free .any l.toArray listed i = true) (hr : (Region.ready .any l.toArray listed).contains i = true) (hiF : F.contains i = false) (hfin : finB F listed = true)
    (hQ : ∀ c a w, Q (.panic c) (a.put o.dst v) w → Q (.panic c) a w) (hy : YieldsIf P l.toArray (fun _ => True) o v a)
    (h : wpAnyT P l.toArray Q F S fuel (listed.setIfInBounds i true) (a.put o.dst v) w) : wpAnyT P l.toArray Q F S (fuel + 1) listed a w :=
  lt_pure i hi hs hf hr hiF hQ hy (fun e => by rw [hfin] at e; cases e) h
/-- The only one that may come up. -/
theorem lt_op (i : Nat) {o : Oper} (hi : l[i]? = some o) (hr : Region.ready .any l.toArray listed = [i]) (hw : Region.wanted o (yielded l.toArray a.tmps) = true)
    (h : o.wp P a w (fun a' w' => (finB F (listed.setIfInBounds i true) = false → S w') ∧ wpAnyT P l.toArray Q F S fuel (listed.setIfInBounds i true) a' w') Q) : wpAnyT P l.toArray Q F S (fuel + 1) listed a w := by
  refine ⟨fun h0 => ?_, fun j hj => ?_⟩
  · rw [hr] at h0; cases h0
  rw [hr] at hj
  obtain rfl : j = i := by simpa using hj
  unfold wpOp
  rw [lx_at hi]
  simp only [hw, if_true]
  exact .inl h
/-- One of the last, or behind them. -/
theorem lt_end (i : Nat) {o : Oper} (hi : l[i]? = some o) (hr : Region.ready .any l.toArray listed = [i]) (hw : Region.wanted o (yielded l.toArray a.tmps) = true) (hfin : finB F (listed.setIfInBounds i true) = true)
    (h : o.wp P a w (wpAnyT P l.toArray Q F S fuel (listed.setIfInBounds i true)) Q) : wpAnyT P l.toArray Q F S (fuel + 1) listed a w :=
  lt_op i hi hr hw (Oper.wp_mono (fun _ _ h => ⟨(fun e => by rw [hfin] at e; cases e), h⟩) h)
theorem lt_call (i : Nat) {o : Oper} {f : FuncId} {xs : List Operand} {ats : Array TypeId} (hi : l[i]? = some o) (hr : Region.ready .any l.toArray listed = [i]) (hw : Region.wanted o (yielded l.toArray a.tmps) = true)
    (ho : o.op = .call { callee := .value (.func f), args := xs.toArray, argTypes := ats }) (hf : GoFn P f) (vals : List Value) (hv : xs.map a.eval = vals)
    (hc : Calls P f vals.toArray w fun e w' => ∃ v, e = .returned v ∧ (finB F (listed.setIfInBounds i true) = false → S w') ∧ wpAnyT P l.toArray Q F S fuel (listed.setIfInBounds i true) (a.put o.dst v) w') : wpAnyT P l.toArray Q F S (fuel + 1) listed a w :=
  lt_op i hi hr hw (wp_call_go ho hf vals.toArray (by rw [List.map_toArray, hv]) hc)
theorem lt_done (hr : Region.ready .any l.toArray listed = []) (h : Q .normal a w) : wpAnyT P l.toArray Q F S fuel listed a w := by
  cases fuel with
  | zero => exact ⟨hr, h⟩
  | succ f => exact ⟨fun _ => h, fun i hi => (by rw [hr] at hi; cases hi)⟩
end
/-! ### Single operations over what the call owns -/
section
variable {P : Program} {Q : Exit → Act → World → Prop} {K : Act → World → Prop} {o : Oper} {a : Act} {w x : World} {os : List Ob}
theorem wpo_append {t e : TypeId} {size bytes : Nat} (s y : Operand) (ho : o.op = .call { callee := .builtin .append, args := #[s, y], argTypes := #[t, t] }) (hS : SliceOf P t e size bytes) (h : OW w os x) (i : Nat) {v : Value} {n : Nat} {cs : List Value} (hi : os[i]? = some (rowO e size v n cs)) (hs : a.eval s = v)
    (B : Nat) (A : Option Addr) (m c : Nat) (news : List Value) (hy : a.eval y = .slice A m c) (hr : Reads x B size A m news) (h1 : ∀ u ∈ news, u.oneCell' = true) (h63 : n + m ≤ maxLen) (hbytes : (n + m) * bytes ≤ 140737488355328)
    (hK : ∀ A' c' z, OW w (os.set i (rowO e size (.slice A' (n + m) c') (n + m) (cs ++ news))) z → x.grownBy z v.ownBlock → K (a.put o.dst (.slice A' (n + m) c')) z) : o.wp P a x K Q := by
  refine wp_append_reads x s y ho hS w.heap.size v n cs hs (h.row hi) B A m c news hy hr h1 h63 hbytes h.up.size fun v' w' h2 h3 h4 => ?_
  obtain ⟨A', c', rfl, _⟩ := own_slice h2
  exact hK A' c' w' (h.grow hi h2 h3 h4) h3
theorem wpo_build {t e : TypeId} {len sz bytes : Nat} {parts : Array (Nat × Operand)} (ho : o.op = .buildSlice t len parts) (C : Array Value) (hS : SliceOf P t e sz bytes) (z : Value) (hz : (P.info? e).bind (·.zero) = some z) (hsm : ¬ len * sz > 2 ^ 24) (hp : ¬ len * sz = 0) (hm : len ≤ maxLen) (hsz : C.size = len * sz)
    (hf : Instr.fill (fun i => some (i * sz, sz)) ((Array.range (len * sz)).map (z.cells[· % z.cells.size]!)) (parts.map fun (i, x) => (i, a.eval x)).toList = some C)
    (h : OW w os x) (hK : ∀ g z, OW w (os ++ [rowO e sz (.slice (some ⟨g, 0, none⟩) len len) len C.toList]) z → Below x.heap.size x z → K (a.put o.dst (.slice (some ⟨g, 0, none⟩) len len)) z) : o.wp P a x K Q := by
  obtain ⟨ht, ⟨i, z', hi, hz', hsize, _, _⟩, _⟩ := hS
  rw [hi] at hz
  have hz : i.zero = some z := hz
  rw [hz'] at hz; injection hz with hz; subst hz
  subst hsize
  exact wp_buildSlice t e len parts ho C i z' ht hi hz' hsm hp hf (hK _ _ (h.app (OW.lit1 x C e i.size len hm hsz)) ((Below.refl _ _).alloc (Nat.le_refl _) _))
theorem wpo_box {t : TypeId} {y : Operand} (ho : o.op = .box t y) (cs : List Value) (hx : (a.eval y).cells = cs.toArray) (h : OW w os x) (hK : ∀ g z, OW w (os ++ [boxO g cs]) z → Below x.heap.size x z → K (a.put o.dst (.pointer (some ⟨g, 0, none⟩))) z) : o.wp P a x K Q := by
  unfold Oper.wp execOp
  simp only [ho, Sem.run_bind, Instr.box, newVar, newRow, run_newObj_alloc, Sem.run_pure, Result.andThen_ok, hx]
  exact hK _ _ (h.app (OW.box1 x t cs)) ((Below.refl _ _).alloc (Nat.le_refl _) _)
theorem wpo_alloc {t : TypeId} (ho : o.op = .alloc t) (cs : List Value) (hz : (P.info? t).bind (·.zero) = some (.agg cs.toArray) ∨ ∃ v : Value, (P.info? t).bind (·.zero) = some v ∧ v.cells = cs.toArray) (h : OW w os x) (hK : ∀ g z, OW w (os ++ [boxO g cs]) z → Below x.heap.size x z → K (a.put o.dst (.pointer (some ⟨g, 0, none⟩))) z) : o.wp P a x K Q := by
  obtain ⟨v, hv, hc⟩ : ∃ v : Value, (P.info? t).bind (·.zero) = some v ∧ v.cells = cs.toArray := by
    rcases hz with h | h
    · exact ⟨_, h, rfl⟩
    · exact h
  refine wp_alloc_row ho hv ?_
  rw [hc]
  exact hK _ _ (h.app (OW.box1 x t cs)) ((Below.refl _ _).alloc (Nat.le_refl _) _)
theorem wpo_put {t : TypeId} {p y : Operand} (ho : o.op = .store t p y) (h : OW w os x) (i : Nat) {g : Nat} {cs : List Value} (hi : os[i]? = some (boxO g cs)) (hx : a.eval p = .pointer (some ⟨g, 0, none⟩)) (vs : List Value) (hy : a.eval y = .agg vs.toArray) (hl : vs.length = cs.length) (ht : (P.info? t).map (·.size) = some vs.length) (h1 : ∀ u ∈ vs, u.oneCell' = true)
    (hK : ∀ z, OW w (os.set i (boxO g vs)) z → Chg (fun b => b = g) x z → K (a.put o.dst undef) z) : o.wp P a x K Q :=
  wp_store_row ho hx hy (h.range hi) (h.fz hi) hl ht h1 (hK _ (h.put hi hl) (setCells_chg g vs 0 x))
theorem wpo_put1 {t : TypeId} {p y : Operand} (ho : o.op = .store t p y) (h : OW w os x) (i : Nat) {g : Nat} {cs : List Value} (hi : os[i]? = some (boxO g cs)) (j : Nat) (hx : a.eval p = .pointer (some ⟨g, j, none⟩)) (hj : j < cs.length) (v : Value) (hy : a.eval y = v) (ht : (P.info? t).map (·.size) = some 1) (h1 : v.oneCell' = true)
    (hK : ∀ z, OW w (os.set i (boxO g (cs.set j v))) z → Chg (fun b => b = g) x z → K (a.put o.dst undef) z) : o.wp P a x K Q := by
  unfold Oper.wp execOp
  have hs : (x.cell? ⟨g, j, none⟩).isSome = true := by
    rw [h.cell hi (List.getElem?_eq_getElem hj)]; rfl
  simp only [ho, hx, hy, Instr.storeAt, Instr.sureAddr, Sem.run_bind, Sem.run_pure, Result.andThen_ok, run_storeVar_one x g j t v hs (h.fz hi j) h1 ht]
  exact hK _ (h.put1 hi j v) (Chg.setCell x ⟨g, j, none⟩ v)
theorem wpo_store {t : TypeId} {p y : Operand} (ho : o.op = .store t p y) (h : OW w os x) (i : Nat) {T : TypeId} {sz g n cap : Nat} {cs : List Value} (hi : os[i]? = some (rowO T sz (.slice (some ⟨g, 0, none⟩) n cap) n cs)) (j : Nat) (hx : a.eval p = .pointer (some ⟨g, j, none⟩)) (hj : j < n * sz) (v : Value) (hy : a.eval y = v) (ht : (P.info? t).map (·.size) = some 1) (h1 : v.oneCell' = true)
    (hK : ∀ z, OW w (os.set i (rowO T sz (.slice (some ⟨g, 0, none⟩) n cap) n (cs.set j v))) z → Chg (fun b => b = g) x z → K (a.put o.dst undef) z) : o.wp P a x K Q := by
  unfold Oper.wp execOp
  have hr := h.row hi
  have hs : (x.cell? ⟨g, j, none⟩).isSome = true := by
    rw [World.ownsRow.cellAt hr j hj, List.getElem?_eq_getElem (by rw [hr.1]; exact hj)]; rfl
  simp only [ho, hx, hy, Instr.storeAt, Instr.sureAddr, Sem.run_bind, Sem.run_pure, Result.andThen_ok, run_storeVar_one x g j t v hs (World.ownsRow.frozenAt hr j) h1 ht]
  exact hK _ (h.store hi j v) (Chg.setCell x ⟨g, j, none⟩ v)
end
/-! ### The same along a list -/
section
variable {P : Program} {ops : Array Oper} {Q : Exit → Act → World → Prop} {rest : List Oper} {o : Oper} {a : Act} {w x : World} {os : List Ob}
theorem wl_append {t e : TypeId} {size bytes : Nat} (hgd : Region.wanted o (yielded ops a.tmps) = true) (s y : Operand) (ho : o.op = .call { callee := .builtin .append, args := #[s, y], argTypes := #[t, t] }) (hS : SliceOf P t e size bytes) (h : OW w os x) (i : Nat) {v : Value} {n : Nat} {cs : List Value} (hi : os[i]? = some (rowO e size v n cs)) (hs : a.eval s = v)
    (B : Nat) (A : Option Addr) (m c : Nat) (news : List Value) (hy : a.eval y = .slice A m c) (hr : Reads x B size A m news) (h1 : ∀ u ∈ news, u.oneCell' = true) (h63 : n + m ≤ maxLen) (hbytes : (n + m) * bytes ≤ 140737488355328)
    (hK : ∀ A' c' z, OW w (os.set i (rowO e size (.slice A' (n + m) c') (n + m) (cs ++ news))) z → x.grownBy z v.ownBlock → wpList P ops Q rest (a.put o.dst (.slice A' (n + m) c')) z) : wpList P ops Q (o :: rest) a x :=
  BigFrame.wpList_want hgd fun _ hk => wpo_append s y ho hS h i hi hs B A m c news hy hr h1 h63 hbytes fun A' c' z hz hg => hk _ _ (hK A' c' z hz hg)
theorem wl_build {t e : TypeId} {len sz bytes : Nat} (hgd : Region.wanted o (yielded ops a.tmps) = true) (parts : Array (Nat × Operand)) (ho : o.op = .buildSlice t len parts) (C : Array Value) (hS : SliceOf P t e sz bytes) (z : Value) (hz : (P.info? e).bind (·.zero) = some z) (hsm : ¬ len * sz > 2 ^ 24) (hp : ¬ len * sz = 0) (hm : len ≤ maxLen) (hsz : C.size = len * sz)
    (hf : Instr.fill (fun i => some (i * sz, sz)) ((Array.range (len * sz)).map (z.cells[· % z.cells.size]!)) (parts.map fun (i, x) => (i, a.eval x)).toList = some C)
    (h : OW w os x) (hK : ∀ g z, OW w (os ++ [rowO e sz (.slice (some ⟨g, 0, none⟩) len len) len C.toList]) z → Below x.heap.size x z → wpList P ops Q rest (a.put o.dst (.slice (some ⟨g, 0, none⟩) len len)) z) : wpList P ops Q (o :: rest) a x :=
  BigFrame.wpList_want hgd fun _ hk => wpo_build ho C hS z hz hsm hp hm hsz hf h fun g z hz hb => hk _ _ (hK g z hz hb)
theorem wl_box {t : TypeId} (hgd : Region.wanted o (yielded ops a.tmps) = true) (y : Operand) (ho : o.op = .box t y) (cs : List Value) (hx : (a.eval y).cells = cs.toArray) (h : OW w os x) (hK : ∀ g z, OW w (os ++ [boxO g cs]) z → Below x.heap.size x z → wpList P ops Q rest (a.put o.dst (.pointer (some ⟨g, 0, none⟩))) z) : wpList P ops Q (o :: rest) a x :=
  BigFrame.wpList_want hgd fun _ hk => wpo_box ho cs hx h fun g z hz hb => hk _ _ (hK g z hz hb)
theorem wl_alloc {t : TypeId} (hgd : Region.wanted o (yielded ops a.tmps) = true) (ho : o.op = .alloc t) (cs : List Value) (hz : (P.info? t).bind (·.zero) = some (.agg cs.toArray) ∨ ∃ v : Value, (P.info? t).bind (·.zero) = some v ∧ v.cells = cs.toArray) (h : OW w os x) (hK : ∀ g z, OW w (os ++ [boxO g cs]) z → Below x.heap.size x z → wpList P ops Q rest (a.put o.dst (.pointer (some ⟨g, 0, none⟩))) z) : wpList P ops Q (o :: rest) a x :=
  BigFrame.wpList_want hgd fun _ hk => wpo_alloc ho cs hz h fun g z hz hb => hk _ _ (hK g z hz hb)
theorem wl_put {t : TypeId} (hgd : Region.wanted o (yielded ops a.tmps) = true) (p y : Operand) (ho : o.op = .store t p y) (h : OW w os x) (i : Nat) {g : Nat} {cs : List Value} (hi : os[i]? = some (boxO g cs)) (hx : a.eval p = .pointer (some ⟨g, 0, none⟩)) (vs : List Value) (hy : a.eval y = .agg vs.toArray) (hl : vs.length = cs.length) (ht : (P.info? t).map (·.size) = some vs.length) (h1 : ∀ u ∈ vs, u.oneCell' = true)
    (hK : ∀ z, OW w (os.set i (boxO g vs)) z → Chg (fun b => b = g) x z → wpList P ops Q rest (a.put o.dst undef) z) : wpList P ops Q (o :: rest) a x :=
  BigFrame.wpList_want hgd fun _ hk => wpo_put ho h i hi hx vs hy hl ht h1 fun z hz hc => hk _ _ (hK z hz hc)
theorem wl_put1 {t : TypeId} (hgd : Region.wanted o (yielded ops a.tmps) = true) (p y : Operand) (ho : o.op = .store t p y) (h : OW w os x) (i : Nat) {g : Nat} {cs : List Value} (hi : os[i]? = some (boxO g cs)) (j : Nat) (hx : a.eval p = .pointer (some ⟨g, j, none⟩)) (hj : j < cs.length) (v : Value) (hy : a.eval y = v) (ht : (P.info? t).map (·.size) = some 1) (h1 : v.oneCell' = true)
    (hK : ∀ z, OW w (os.set i (boxO g (cs.set j v))) z → Chg (fun b => b = g) x z → wpList P ops Q rest (a.put o.dst undef) z) : wpList P ops Q (o :: rest) a x :=
  BigFrame.wpList_want hgd fun _ hk => wpo_put1 ho h i hi j hx hj v hy ht h1 fun z hz hc => hk _ _ (hK z hz hc)
theorem wl_store {t : TypeId} (hgd : Region.wanted o (yielded ops a.tmps) = true) (p y : Operand) (ho : o.op = .store t p y) (h : OW w os x) (i : Nat) {T : TypeId} {sz g n cap : Nat} {cs : List Value} (hi : os[i]? = some (rowO T sz (.slice (some ⟨g, 0, none⟩) n cap) n cs)) (j : Nat) (hx : a.eval p = .pointer (some ⟨g, j, none⟩)) (hj : j < n * sz) (v : Value) (hy : a.eval y = v) (ht : (P.info? t).map (·.size) = some 1) (h1 : v.oneCell' = true)
    (hK : ∀ z, OW w (os.set i (rowO T sz (.slice (some ⟨g, 0, none⟩) n cap) n (cs.set j v))) z → Chg (fun b => b = g) x z → wpList P ops Q rest (a.put o.dst undef) z) : wpList P ops Q (o :: rest) a x :=
  BigFrame.wpList_want hgd fun _ hk => wpo_store ho h i hi j hx hj v hy ht h1 fun z hz hc => hk _ _ (hK z hz hc)
end
end Go.Proofs.YtmigjipfomfacaaDoor

/-
  Blocks, walked: four, shared (the program's, the document's).
-/
namespace Go.Proofs.YtmigjipfomfacaaDoor
open Go.RowKit

set_option maxRecDepth 100000 in
set_option maxHeartbeats 1000000 in
theorem shared_any (a b : List UInt8) (A B : Option Addr) (n c m d : Nat) (w : World) (hn : n ≤ 9223372036854775806) (ha : RB w w.heap.size A n a) (hb : RB w w.heap.size B m b) :
    Calls Tryd.prog 62 #[.slice A n c, .slice B m d] w fun e w' => e = .returned (.int .i64 (shareN a b)) ∧ Below w.heap.size w w' := by
  have HLA := Lib.hid ha.len
  have HLB := Lib.hid hb.len
  have HA : Hid (∀ w', Below w.heap.size w w' → RB w' w'.heap.size A n a) := Lib.hid fun w' h => ha.later h
  have HB : Hid (∀ w', Below w.heap.size w w' → RB w' w'.heap.size B m b) := Lib.hid fun w' h => hb.later h
  clear ha hb
  go_enter Tryd.func62, Tryd.ntmps62
  go_wp2
  go_loopw [5] (fun i wr => ∃ k : Nat, k ≤ shareN a b ∧ i = .int .i64 k ∧ Hid (Below w.heap.size w wr)) (fun i _ => n - (intOf i).toNat)
  case atStart => exact ⟨0, Nat.zero_le _, rfl, Lib.hid (Below.refl _ _)⟩
  case round =>
    obtain ⟨k, hk, rfl, HW⟩ := hrel
    have HT := Lib.hid (shareN_test a b k hk)
    have HK := Lib.hid hk
    clear hk
    by_cases hkn : k < n
    case neg =>
      have hd1 : decide ((k : Int) < (n : Int)) = false := decide_eq_false (by omega)
      have hd2 : decide (k < n) = false := decide_eq_false hkn
      have HE : Hid (shareN a b = k) := Lib.hid (by have := (shareN_le a b).1; have := HLA.out; have := HK.out; omega)
      go_wp2_with fail
      go_quiet (fail)
      have HW2 := Lib.hid (below_drewN (n := nq) HW.out)
      generalize wr.drewN nq = w3 at *
      go_wp2
      go_ret
      exact ⟨by rw [HE.out]; rfl, HW2.out⟩
    have hd1 : decide ((k : Int) < (n : Int)) = true := decide_eq_true (by omega)
    have hd2 : decide (k < n) = true := decide_eq_true hkn
    by_cases hkm : k < m
    case neg =>
      have hd3 : decide ((k : Int) < (m : Int)) = false := decide_eq_false (by omega)
      have hd4 : decide (k < m) = false := decide_eq_false hkm
      have HE : Hid (shareN a b = k) := Lib.hid (by have := (shareN_le a b).2; have := HLB.out; have := HK.out; omega)
      go_wp2_with fail
      go_quiet (fail)
      have HW2 := Lib.hid (below_drewN (n := nq) HW.out)
      generalize wr.drewN nq = w3 at *
      go_wp2
      go_ret
      exact ⟨by rw [HE.out]; rfl, HW2.out⟩
    have hd3 : decide ((k : Int) < (m : Int)) = true := decide_eq_true (by omega)
    have hd4 : decide (k < m) = true := decide_eq_true hkm
    have hk1 : (k : Int) < (n : Int) := by omega
    have hk2 : (k : Int) < (m : Int) := by omega
    obtain ⟨b1, o1, x, rfl, _, hx, c1⟩ := (HA.out _ HW.out).at_ hkn
    obtain ⟨b2, o2, y, rfl, _, hy, c2⟩ := (HB.out _ HW.out).at_ hkm
    by_cases hxy : x = y
    case neg =>
      have he : ((x.toNat : Int) == (y.toNat : Int)) = false := beq_eq_false_iff_ne.2 (fun h => hxy (UInt8.toNat_inj.1 (by omega)))
      have he2 : (x == y) = false := beq_eq_false_iff_ne.2 hxy
      have he3 : (x.toNat == y.toNat) = false := beq_eq_false_iff_ne.2 (fun h => hxy (UInt8.toNat_inj.1 h))
      have he4 : ¬ x.toNat = y.toNat := fun h => hxy (UInt8.toNat_inj.1 h)
      have HE : Hid (shareN a b = k) := Lib.hid (by
        have h1 := HT.out
        rw [hx, hy] at h1
        have h2 : ¬ k < shareN a b := fun h => hxy (Option.some.inj (h1.1 h).2.2)
        have := HK.out; omega)
      clear hx hy
      go_wp2_with fail
      go_quiet (fail)
      have HW2 := Lib.hid (below_drewN (n := nq) HW.out)
      clear c1 c2
      generalize wr.drewN nq = w3 at *
      go_wp2
      go_ret
      exact ⟨by rw [HE.out]; rfl, HW2.out⟩
    subst hxy
    have he : ((x.toNat : Int) == (x.toNat : Int)) = true := by simp
    have HE : Hid (k < shareN a b) := Lib.hid (HT.out.2 ⟨by have := HLA.out; omega, by have := HLB.out; omega, by rw [hx, hy]⟩)
    clear hx hy
    go_wp2_with fail
    go_quiet (fail)
    have HW2 := Lib.hid (below_drewN (n := nq) HW.out)
    clear c1 c2
    generalize wr.drewN nq = w3 at *
    go_wp2
    go_roundw
    case rel => exact ⟨k + 1, HE.out, by go_num, HW2⟩
    case measure => simp [intOf]; omega

set_option maxRecDepth 100000 in
set_option maxHeartbeats 1000000 in
theorem rshared_any (a b : List UInt8) (A B : Option Addr) (n c m d : Nat) (w : World) (hn : n ≤ 9223372036854775806) (ha : RB w w.heap.size A n a) (hb : RB w w.heap.size B m b) :
    Calls Tryd.prog 57 #[.slice A n c, .slice B m d] w fun e w' => e = .returned (.int .i64 (shareN a b)) ∧ Below w.heap.size w w' := by
  have HLA := Lib.hid ha.len
  have HLB := Lib.hid hb.len
  have HA : Hid (∀ w', Below w.heap.size w w' → RB w' w'.heap.size A n a) := Lib.hid fun w' h => ha.later h
  have HB : Hid (∀ w', Below w.heap.size w w' → RB w' w'.heap.size B m b) := Lib.hid fun w' h => hb.later h
  clear ha hb
  go_enter Tryd.func57, Tryd.ntmps57
  go_wp2
  go_loopw [5] (fun i wr => ∃ k : Nat, k ≤ shareN a b ∧ i = .int .i64 k ∧ Hid (Below w.heap.size w wr)) (fun i _ => n - (intOf i).toNat)
  case atStart => exact ⟨0, Nat.zero_le _, rfl, Lib.hid (Below.refl _ _)⟩
  case round =>
    obtain ⟨k, hk, rfl, HW⟩ := hrel
    have HT := Lib.hid (shareN_test a b k hk)
    have HK := Lib.hid hk
    clear hk
    by_cases hkn : k < n
    case neg =>
      have hd1 : decide ((k : Int) < (n : Int)) = false := decide_eq_false (by omega)
      have hd2 : decide (k < n) = false := decide_eq_false hkn
      have HE : Hid (shareN a b = k) := Lib.hid (by have := (shareN_le a b).1; have := HLA.out; have := HK.out; omega)
      go_wp2_with fail
      go_quiet (fail)
      have HW2 := Lib.hid (below_drewN (n := nq) HW.out)
      generalize wr.drewN nq = w3 at *
      go_wp2
      go_ret
      exact ⟨by rw [HE.out]; rfl, HW2.out⟩
    have hd1 : decide ((k : Int) < (n : Int)) = true := decide_eq_true (by omega)
    have hd2 : decide (k < n) = true := decide_eq_true hkn
    by_cases hkm : k < m
    case neg =>
      have hd3 : decide ((k : Int) < (m : Int)) = false := decide_eq_false (by omega)
      have hd4 : decide (k < m) = false := decide_eq_false hkm
      have HE : Hid (shareN a b = k) := Lib.hid (by have := (shareN_le a b).2; have := HLB.out; have := HK.out; omega)
      go_wp2_with fail
      go_quiet (fail)
      have HW2 := Lib.hid (below_drewN (n := nq) HW.out)
      generalize wr.drewN nq = w3 at *
      go_wp2
      go_ret
      exact ⟨by rw [HE.out]; rfl, HW2.out⟩
    have hd3 : decide ((k : Int) < (m : Int)) = true := decide_eq_true (by omega)
    have hd4 : decide (k < m) = true := decide_eq_true hkm
    have hk1 : (k : Int) < (n : Int) := by omega
    have hk2 : (k : Int) < (m : Int) := by omega
    obtain ⟨b1, o1, x, rfl, _, hx, c1⟩ := (HA.out _ HW.out).at_ hkn
    obtain ⟨b2, o2, y, rfl, _, hy, c2⟩ := (HB.out _ HW.out).at_ hkm
    by_cases hxy : x = y
    case neg =>
      have he : ((x.toNat : Int) == (y.toNat : Int)) = false := beq_eq_false_iff_ne.2 (fun h => hxy (UInt8.toNat_inj.1 (by omega)))
      have he2 : (x == y) = false := beq_eq_false_iff_ne.2 hxy
      have he3 : (x.toNat == y.toNat) = false := beq_eq_false_iff_ne.2 (fun h => hxy (UInt8.toNat_inj.1 h))
      have he4 : ¬ x.toNat = y.toNat := fun h => hxy (UInt8.toNat_inj.1 h)
      have HE : Hid (shareN a b = k) := Lib.hid (by
        have h1 := HT.out
        rw [hx, hy] at h1
        have h2 : ¬ k < shareN a b := fun h => hxy (Option.some.inj (h1.1 h).2.2)
        have := HK.out; omega)
      clear hx hy
      go_wp2_with fail
      go_quiet (fail)
      have HW2 := Lib.hid (below_drewN (n := nq) HW.out)
      clear c1 c2
      generalize wr.drewN nq = w3 at *
      go_wp2
      go_ret
      exact ⟨by rw [HE.out]; rfl, HW2.out⟩
    subst hxy
    have he : ((x.toNat : Int) == (x.toNat : Int)) = true := by simp
    have HE : Hid (k < shareN a b) := Lib.hid (HT.out.2 ⟨by have := HLA.out; omega, by have := HLB.out; omega, by rw [hx, hy]⟩)
    clear hx hy
    go_wp2_with fail
    go_quiet (fail)
    have HW2 := Lib.hid (below_drewN (n := nq) HW.out)
    clear c1 c2
    generalize wr.drewN nq = w3 at *
    go_wp2
    go_roundw
    case rel => exact ⟨k + 1, HE.out, by go_num, HW2⟩
    case measure => simp [intOf]; omega

set_option maxRecDepth 100000 in
theorem four_any (v : Nat) (w : World) (hv : v < 4294967296) : Calls Tryd.prog 66 #[.int .u32 v] w (BytesPost 5 (four4 v) w) := by
  have hL : Hid (u8s (four4 v) = [.int .u8 ((v : Int) / 16777216), .int .u8 ((v : Int) / 65536 % 256), .int .u8 ((v : Int) / 256 % 256), .int .u8 ((v : Int) % 256)]) := Lib.hid (by
    show [u8v _, u8v _, u8v _, u8v _] = _
    rw [u8v_mod, u8v_mod, u8v_mod, u8v_mod]; simp only [Int.natCast_ediv]; rw [show ((v : Int) / ((16777216 : Nat) : Int) % 256) = (v : Int) / 16777216 from by omega]; rfl)
  go_enter Tryd.func66, Tryd.ntmps66
  go_wp2_with fail
  go_ret
  refine ⟨_, _, rfl, ?_, ((Below.refl _ _).alloc (Nat.le_refl _) _)⟩
  show World.ownsRow _ _ _ _ _ _ _
  rw [hL.out]
  exact own_lit w #[.int .u8 ((v : Int) / 16777216), .int .u8 ((v : Int) / 65536 % 256), .int .u8 ((v : Int) / 256 % 256), .int .u8 ((v : Int) % 256)] 5 w.heap.size 4 1 (by simp) (by decide) rfl
set_option maxRecDepth 100000 in
theorem rfour_any (v : Nat) (w : World) (hv : v < 4294967296) : Calls Tryd.prog 88 #[.int .i64 v] w (BytesPost 5 (four4 v) w) := by
  have hL : Hid (u8s (four4 v) = [.int .u8 ((v : Int) / 16777216 % 256), .int .u8 ((v : Int) / 65536 % 256), .int .u8 ((v : Int) / 256 % 256), .int .u8 ((v : Int) % 256)]) := Lib.hid (by
    show [u8v _, u8v _, u8v _, u8v _] = _
    rw [u8v_mod, u8v_mod, u8v_mod, u8v_mod]; simp only [Int.natCast_ediv]; rfl)
  go_enter Tryd.func88, Tryd.ntmps88
  go_wp2_with fail
  go_ret
  refine ⟨_, _, rfl, ?_, ((Below.refl _ _).alloc (Nat.le_refl _) _)⟩
  show World.ownsRow _ _ _ _ _ _ _
  rw [hL.out]
  exact own_lit w #[.int .u8 ((v : Int) / 16777216 % 256), .int .u8 ((v : Int) / 65536 % 256), .int .u8 ((v : Int) / 256 % 256), .int .u8 ((v : Int) % 256)] 5 w.heap.size 4 1 (by simp) (by decide) rfl
end Go.Proofs.YtmigjipfomfacaaDoor

/-
  Blocks, walked: four bytes turned round; the sum's test.
-/
namespace Go.Proofs.YtmigjipfomfacaaDoor
open Go.RowKit

set_option maxRecDepth 100000 in
set_option maxHeartbeats 1000000 in
theorem reverse4_any (a b d e : UInt8) (g c : Nat) (w x : World) (h : OW w [bytO 5 (some ⟨g, 0, none⟩, c, [a, b, d, e])] x) :
    Calls Tryd.prog 68 #[.slice (some ⟨g, 0, none⟩) 4 c] x fun r x' => r = .returned (.tuple #[]) ∧ OW w [bytO 5 (some ⟨g, 0, none⟩, c, [e, d, b, a])] x' := by
  have HX := Lib.hid h
  clear h
  go_enter Tryd.func68, Tryd.ntmps68
  go_wp2_with fail
  go_loopw [2, 3] (fun i j wr => (i = .int .i64 0 ∧ j = .int .i64 3 ∧ Hid (OW w [bytO 5 (some ⟨g, 0, none⟩, c, [a, b, d, e])] wr)) ∨ (i = .int .i64 1 ∧ j = .int .i64 2 ∧ Hid (OW w [bytO 5 (some ⟨g, 0, none⟩, c, [e, b, d, a])] wr)) ∨ (i = .int .i64 2 ∧ j = .int .i64 1 ∧ Hid (OW w [bytO 5 (some ⟨g, 0, none⟩, c, [e, d, b, a])] wr))) (fun i _ _ => 2 - (intOf i).toNat)
  case atStart => exact .inl ⟨rfl, rfl, HX⟩
  case round =>
    clear HX
    rcases hrel with ⟨rfl, rfl, HX⟩ | ⟨rfl, rfl, HX⟩ | ⟨rfl, rfl, HX⟩
    · go_wp2_with fail
      refine lt_start [13] (by kernel_rfl) ?_
      intro xd hd
      refine ⟨fun z => OW w [bytO 5 (some ⟨g, 0, none⟩, c, [a, b, d, e])] z, ?_⟩
      have HS := Lib.hid (HX.out.later hd)
      refine lt_pure 0 rfl (by kernel_rfl) (by kernel_rfl) (by kernel_rfl) (by kernel_rfl) (fun _ _ _ h => h) (v := ?_) (yi_run rfl (fun w => ?_)) (fun _ => HS.out) ?_
      rotate_left
      · first | (go_simp; done) | (go_simp; with_reducible rfl)
      simp only [Act.put, List.setIfInBounds_toArray, List.set_cons_zero, List.set_cons_succ]
      refine lt_pure 1 rfl (by kernel_rfl) (by kernel_rfl) (by kernel_rfl) (by kernel_rfl) (fun _ _ _ h => h) (v := ?_) (yi_run rfl (fun w => ?_)) (fun _ => HS.out) ?_
      rotate_left
      · first | (go_simp; done) | (go_simp; with_reducible rfl)
      simp only [Act.put, List.setIfInBounds_toArray, List.set_cons_zero, List.set_cons_succ]
      refine lt_pure 2 rfl (by kernel_rfl) (by kernel_rfl) (by kernel_rfl) (by kernel_rfl) (fun _ _ _ h => h) (v := ?_) (yi_run rfl (fun w => ?_)) (fun _ => HS.out) ?_
      rotate_left
      · first | (go_simp; done) | (go_simp; with_reducible rfl)
      simp only [Act.put, List.setIfInBounds_toArray, List.set_cons_zero, List.set_cons_succ]
      refine lt_pure 3 rfl (by kernel_rfl) (by kernel_rfl) (by kernel_rfl) (by kernel_rfl) (fun _ _ _ h => h) (v := ?_) (yi_run rfl (fun w => ?_)) (fun _ => HS.out) ?_
      rotate_left
      · first | (go_simp; done) | (go_simp; with_reducible rfl)
      simp only [Act.put, List.setIfInBounds_toArray, List.set_cons_zero, List.set_cons_succ]
      refine lt_pure 4 rfl (by kernel_rfl) (by kernel_rfl) (by kernel_rfl) (by kernel_rfl) (fun _ _ _ h => h) (v := ?_) (yi_run rfl (fun w => ?_)) (fun _ => HS.out) ?_
      rotate_left
      · first | (go_simp; done) | (go_simp; with_reducible rfl)
      simp only [Act.put, List.setIfInBounds_toArray, List.set_cons_zero, List.set_cons_succ]
      refine lt_pure 5 rfl (by kernel_rfl) (by kernel_rfl) (by kernel_rfl) (by kernel_rfl) (fun _ _ _ h => h) (v := ?_) (yi_run rfl (fun w => ?_)) (fun _ => HS.out) ?_
      rotate_left
      · first | (go_simp; done) | (go_simp; with_reducible rfl)
      simp only [Act.put, List.setIfInBounds_toArray, List.set_cons_zero, List.set_cons_succ]
      refine lt_pure 6 rfl (by kernel_rfl) (by kernel_rfl) (by kernel_rfl) (by kernel_rfl) (fun _ _ _ h => h) (v := ?_) (yi_run rfl (fun w => ?_)) (fun _ => HS.out) ?_
      rotate_left
      · first | (go_simp; done) | (go_simp; with_reducible rfl)
      simp only [Act.put, List.setIfInBounds_toArray, List.set_cons_zero, List.set_cons_succ]
      refine lt_take 7 [12, 13, 14, 15] rfl (by kernel_rfl) (by kernel_rfl) (by kernel_rfl) (by kernel_rfl) (by kernel_rfl) (fun _ _ _ h => h) (yi_cell rfl rfl rfl (fun w hS => (World.ownsRow.cellAt (OW.row hS (i := 0) rfl) 3 (by show 3 < 4 * 1; omega)).trans rfl) (fun w => Tryd.isAgg5 w)) HS.out ?_
      simp only [Act.put, List.setIfInBounds_toArray, List.set_cons_zero, List.set_cons_succ]
      refine lt_pure 8 rfl (by kernel_rfl) (by kernel_rfl) (by kernel_rfl) (by kernel_rfl) (fun _ _ _ h => h) (v := ?_) (yi_run rfl (fun w => ?_)) (fun _ => HS.out) ?_
      rotate_left
      · first | (go_simp; done) | (go_simp; with_reducible rfl)
      simp only [Act.put, List.setIfInBounds_toArray, List.set_cons_zero, List.set_cons_succ]
      refine lt_pure 9 rfl (by kernel_rfl) (by kernel_rfl) (by kernel_rfl) (by kernel_rfl) (fun _ _ _ h => h) (v := ?_) (yi_run rfl (fun w => ?_)) (fun _ => HS.out) ?_
      rotate_left
      · first | (go_simp; done) | (go_simp; with_reducible rfl)
      simp only [Act.put, List.setIfInBounds_toArray, List.set_cons_zero, List.set_cons_succ]
      refine lt_pure 10 rfl (by kernel_rfl) (by kernel_rfl) (by kernel_rfl) (by kernel_rfl) (fun _ _ _ h => h) (v := ?_) (yi_run rfl (fun w => ?_)) (fun _ => HS.out) ?_
      rotate_left
      · first | (go_simp; done) | (go_simp; with_reducible rfl)
      simp only [Act.put, List.setIfInBounds_toArray, List.set_cons_zero, List.set_cons_succ]
      refine lt_take 11 [12, 13, 14, 15] rfl (by kernel_rfl) (by kernel_rfl) (by kernel_rfl) (by kernel_rfl) (by kernel_rfl) (fun _ _ _ h => h) (yi_cell rfl rfl rfl (fun w hS => (World.ownsRow.cellAt (OW.row hS (i := 0) rfl) 0 (by show 0 < 4 * 1; omega)).trans rfl) (fun w => Tryd.isAgg5 w)) HS.out ?_
      simp only [Act.put, List.setIfInBounds_toArray, List.set_cons_zero, List.set_cons_succ]
      refine lt_pure 12 rfl (by kernel_rfl) (by kernel_rfl) (by kernel_rfl) (by kernel_rfl) (fun _ _ _ h => h) (v := ?_) (yi_run rfl (fun w => ?_)) (fun _ => HS.out) ?_
      rotate_left
      · first | (go_simp; done) | (go_simp; with_reducible rfl)
      simp only [Act.put, List.setIfInBounds_toArray, List.set_cons_zero, List.set_cons_succ]
      refine lt_end 13 rfl (by kernel_rfl) rfl (by kernel_rfl) ?_
      refine wpo_store rfl HS.out 0 rfl 0 rfl (by show 0 < 4 * 1; omega) (u8v e) rfl (by kernel_rfl) rfl ?_
      intro z1 hz1 _
      simp only [Act.put]
      refine lt_pureF 14 rfl (by kernel_rfl) (by kernel_rfl) (by kernel_rfl) (by kernel_rfl) (by kernel_rfl) (fun _ _ _ h => h) (v := ?_) (yi_run rfl (fun w => ?_)) ?_
      rotate_left
      · first | (go_simp; done) | (go_simp; with_reducible rfl)
      simp only [Act.put, List.setIfInBounds_toArray, List.set_cons_zero, List.set_cons_succ]
      refine lt_end 15 rfl (by kernel_rfl) rfl (by kernel_rfl) ?_
      refine wpo_store rfl hz1 0 rfl 3 rfl (by show 3 < 4 * 1; omega) (u8v a) rfl (by kernel_rfl) rfl ?_
      intro z2 hz2 _
      simp only [Act.put]
      refine lt_done (by kernel_rfl) ?_
      clear HS
      have HX2 : Hid (OW w [bytO 5 (some ⟨g, 0, none⟩, c, [e, b, d, a])] z2) := Lib.hid hz2
      clear hz1 hz2
      go_wp2_with fail
      go_roundw
      case rel => exact .inr (.inl ⟨rfl, rfl, HX2⟩)
      case measure => simp [intOf]
    · go_wp2_with fail
      refine lt_start [13] (by kernel_rfl) ?_
      intro xd hd
      refine ⟨fun z => OW w [bytO 5 (some ⟨g, 0, none⟩, c, [e, b, d, a])] z, ?_⟩
      have HS := Lib.hid (HX.out.later hd)
      refine lt_pure 0 rfl (by kernel_rfl) (by kernel_rfl) (by kernel_rfl) (by kernel_rfl) (fun _ _ _ h => h) (v := ?_) (yi_run rfl (fun w => ?_)) (fun _ => HS.out) ?_
      rotate_left
      · first | (go_simp; done) | (go_simp; with_reducible rfl)
      simp only [Act.put, List.setIfInBounds_toArray, List.set_cons_zero, List.set_cons_succ]
      refine lt_pure 1 rfl (by kernel_rfl) (by kernel_rfl) (by kernel_rfl) (by kernel_rfl) (fun _ _ _ h => h) (v := ?_) (yi_run rfl (fun w => ?_)) (fun _ => HS.out) ?_
      rotate_left
      · first | (go_simp; done) | (go_simp; with_reducible rfl)
      simp only [Act.put, List.setIfInBounds_toArray, List.set_cons_zero, List.set_cons_succ]
      refine lt_pure 2 rfl (by kernel_rfl) (by kernel_rfl) (by kernel_rfl) (by kernel_rfl) (fun _ _ _ h => h) (v := ?_) (yi_run rfl (fun w => ?_)) (fun _ => HS.out) ?_
      rotate_left
      · first | (go_simp; done) | (go_simp; with_reducible rfl)
      simp only [Act.put, List.setIfInBounds_toArray, List.set_cons_zero, List.set_cons_succ]
      refine lt_pure 3 rfl (by kernel_rfl) (by kernel_rfl) (by kernel_rfl) (by kernel_rfl) (fun _ _ _ h => h) (v := ?_) (yi_run rfl (fun w => ?_)) (fun _ => HS.out) ?_
      rotate_left
      · first | (go_simp; done) | (go_simp; with_reducible rfl)
      simp only [Act.put, List.setIfInBounds_toArray, List.set_cons_zero, List.set_cons_succ]
      refine lt_pure 4 rfl (by kernel_rfl) (by kernel_rfl) (by kernel_rfl) (by kernel_rfl) (fun _ _ _ h => h) (v := ?_) (yi_run rfl (fun w => ?_)) (fun _ => HS.out) ?_
      rotate_left
      · first | (go_simp; done) | (go_simp; with_reducible rfl)
      simp only [Act.put, List.setIfInBounds_toArray, List.set_cons_zero, List.set_cons_succ]
      refine lt_pure 5 rfl (by kernel_rfl) (by kernel_rfl) (by kernel_rfl) (by kernel_rfl) (fun _ _ _ h => h) (v := ?_) (yi_run rfl (fun w => ?_)) (fun _ => HS.out) ?_
      rotate_left
      · first | (go_simp; done) | (go_simp; with_reducible rfl)
      simp only [Act.put, List.setIfInBounds_toArray, List.set_cons_zero, List.set_cons_succ]
      refine lt_pure 6 rfl (by kernel_rfl) (by kernel_rfl) (by kernel_rfl) (by kernel_rfl) (fun _ _ _ h => h) (v := ?_) (yi_run rfl (fun w => ?_)) (fun _ => HS.out) ?_
      rotate_left
      · first | (go_simp; done) | (go_simp; with_reducible rfl)
      simp only [Act.put, List.setIfInBounds_toArray, List.set_cons_zero, List.set_cons_succ]
      refine lt_take 7 [12, 13, 14, 15] rfl (by kernel_rfl) (by kernel_rfl) (by kernel_rfl) (by kernel_rfl) (by kernel_rfl) (fun _ _ _ h => h) (yi_cell rfl rfl rfl (fun w hS => (World.ownsRow.cellAt (OW.row hS (i := 0) rfl) 2 (by show 2 < 4 * 1; omega)).trans rfl) (fun w => Tryd.isAgg5 w)) HS.out ?_
      simp only [Act.put, List.setIfInBounds_toArray, List.set_cons_zero, List.set_cons_succ]
      refine lt_pure 8 rfl (by kernel_rfl) (by kernel_rfl) (by kernel_rfl) (by kernel_rfl) (fun _ _ _ h => h) (v := ?_) (yi_run rfl (fun w => ?_)) (fun _ => HS.out) ?_
      rotate_left
      · first | (go_simp; done) | (go_simp; with_reducible rfl)
      simp only [Act.put, List.setIfInBounds_toArray, List.set_cons_zero, List.set_cons_succ]
      refine lt_pure 9 rfl (by kernel_rfl) (by kernel_rfl) (by kernel_rfl) (by kernel_rfl) (fun _ _ _ h => h) (v := ?_) (yi_run rfl (fun w => ?_)) (fun _ => HS.out) ?_
      rotate_left
      · first | (go_simp; done) | (go_simp; with_reducible rfl)
      simp only [Act.put, List.setIfInBounds_toArray, List.set_cons_zero, List.set_cons_succ]
      refine lt_pure 10 rfl (by kernel_rfl) (by kernel_rfl) (by kernel_rfl) (by kernel_rfl) (fun _ _ _ h => h) (v := ?_) (yi_run rfl (fun w => ?_)) (fun _ => HS.out) ?_
      rotate_left
      · first | (go_simp; done) | (go_simp; with_reducible rfl)
      simp only [Act.put, List.setIfInBounds_toArray, List.set_cons_zero, List.set_cons_succ]
      refine lt_take 11 [12, 13, 14, 15] rfl (by kernel_rfl) (by kernel_rfl) (by kernel_rfl) (by kernel_rfl) (by kernel_rfl) (fun _ _ _ h => h) (yi_cell rfl rfl rfl (fun w hS => (World.ownsRow.cellAt (OW.row hS (i := 0) rfl) 1 (by show 1 < 4 * 1; omega)).trans rfl) (fun w => Tryd.isAgg5 w)) HS.out ?_
      simp only [Act.put, List.setIfInBounds_toArray, List.set_cons_zero, List.set_cons_succ]
      refine lt_pure 12 rfl (by kernel_rfl) (by kernel_rfl) (by kernel_rfl) (by kernel_rfl) (fun _ _ _ h => h) (v := ?_) (yi_run rfl (fun w => ?_)) (fun _ => HS.out) ?_
      rotate_left
      · first | (go_simp; done) | (go_simp; with_reducible rfl)
      simp only [Act.put, List.setIfInBounds_toArray, List.set_cons_zero, List.set_cons_succ]
      refine lt_end 13 rfl (by kernel_rfl) rfl (by kernel_rfl) ?_
      refine wpo_store rfl HS.out 0 rfl 1 rfl (by show 1 < 4 * 1; omega) (u8v d) rfl (by kernel_rfl) rfl ?_
      intro z1 hz1 _
      simp only [Act.put]
      refine lt_pureF 14 rfl (by kernel_rfl) (by kernel_rfl) (by kernel_rfl) (by kernel_rfl) (by kernel_rfl) (fun _ _ _ h => h) (v := ?_) (yi_run rfl (fun w => ?_)) ?_
      rotate_left
      · first | (go_simp; done) | (go_simp; with_reducible rfl)
      simp only [Act.put, List.setIfInBounds_toArray, List.set_cons_zero, List.set_cons_succ]
      refine lt_end 15 rfl (by kernel_rfl) rfl (by kernel_rfl) ?_
      refine wpo_store rfl hz1 0 rfl 2 rfl (by show 2 < 4 * 1; omega) (u8v b) rfl (by kernel_rfl) rfl ?_
      intro z2 hz2 _
      simp only [Act.put]
      refine lt_done (by kernel_rfl) ?_
      clear HS
      have HX2 : Hid (OW w [bytO 5 (some ⟨g, 0, none⟩, c, [e, d, b, a])] z2) := Lib.hid hz2
      clear hz1 hz2
      go_wp2_with fail
      go_roundw
      case rel => exact .inr (.inr ⟨rfl, rfl, HX2⟩)
      case measure => simp [intOf]
    · go_wp2_with fail
      go_end0
      exact ⟨rfl, HX.out⟩

end Go.Proofs.YtmigjipfomfacaaDoor

/-
  Blocks, walked: the sum's test.
-/
namespace Go.Proofs.YtmigjipfomfacaaDoor
open Go.RowKit

set_option maxRecDepth 100000 in
set_option maxHeartbeats 2000000 in
theorem summed_any (l : List UInt8) (A : Option Addr) (n c : Nat) (w : World) (hs : Sl w A n c l) (h4 : 4 ≤ n) (ht : TabAt 0 w) :
    Calls Tryd.prog 44 #[.slice A n c] w fun e w' => e = .returned (.bool (lowB (sumL (l.take (n - 4))) == l.drop (n - 4))) ∧ Below w.heap.size w w' := by
  have f1 : Hid (∀ x : List UInt8, [x].flatten = x) := Lib.hid fun x => by simp
  obtain ⟨k, rfl⟩ : ∃ k, n = k + 4 := ⟨n - 4, by omega⟩
  have hcap := hs.cap
  have hlim := hs.lim
  obtain ⟨b1, o1, _, rfl, _, _, _⟩ := hs.rb.at_ (show 0 < k + 4 by omega)
  rw [show k + 4 - 4 = k from by omega]
  have HT4 := Lib.hid (hs.take (m := k) (by omega))
  have HD : Hid (∀ w', Below w.heap.size w w' → Sl w' (some ⟨b1, o1 + k, none⟩) 4 (c - k) (l.drop k)) := Lib.hid fun w' h => by
    have := (hs.later h).drop (k := k) (by omega) (by omega)
    rw [show k + 4 - k = 4 from by omega, Option.map_some, show (⟨b1, o1, none⟩ : Addr).add k = ⟨b1, o1 + k, none⟩ from by simp [Addr.add]] at this
    exact this
  have HTB : Hid (∀ w', Below w.heap.size w w' → TabAt 0 w') := Lib.hid fun w' h => ht.later h
  obtain ⟨t, htk⟩ : ∃ t, t = l.take k := ⟨_, rfl⟩
  obtain ⟨u, hu⟩ : ∃ t, t = l.drop k := ⟨_, rfl⟩
  rw [← htk] at HT4
  rw [← hu] at HD
  rw [← htk, ← hu]
  obtain ⟨s, hsl⟩ : ∃ s, s = sumL t := ⟨_, rfl⟩
  have HSL := Lib.hid hsl
  have hs32 : s < 4294967296 := by rw [hsl]; exact sumL_lt t
  rw [← hsl]
  obtain ⟨u3, u2, u1, u0, hf4, hlw⟩ : ∃ a b d e, four4 s = [a, b, d, e] ∧ lowB s = [e, d, b, a] := ⟨_, _, _, _, rfl, rfl⟩
  rw [hlw]
  have HF := Lib.hid hf4
  clear hs hsl htk hu ht h4 hf4 hlw
  have i1 : (0 : Int) ≤ (k : Int) := by omega
  have i2 : (k : Int) ≤ (c : Int) := by omega
  have i3 : (k : Int) ≤ (k : Int) + 4 := by omega
  go_enter Tryd.func44, Tryd.ntmps44
  go_wp2_with (first
    | (go_at_call 67; go_must (refine (sum_any [t] _ 1 1 _ (by omega) (by exact HT4.out.one _ _) (HTB.out _ ((Below.refl _ _).alloc (Nat.le_refl _) _))).mono ?_); rintro e w1 ⟨rfl, rfl⟩; rw [f1.out, ← HSL.out])
    | (go_at_call 66; go_must (refine (four_any s _ hs32).mono ?_); rintro e w2 hp; rw [HF.out] at hp; obtain ⟨A2, c2, rfl, _, ho, hb⟩ := hp.at_ (n := 4) rfl; have HB2 := Lib.hid (((Below.refl w.heap.size w).alloc (Nat.le_refl _) (.cells #[.slice (some ⟨b1, o1, none⟩) k c] 24)).trans (hb.mono (by simp))); obtain ⟨g, cp, hv, _, _, _⟩ := own_form ho (by show 0 < 4; omega); injection hv with hv _ hcp; subst hv; subst hcp; have HX := Lib.hid (OW.byt1 hb ho); clear hp hb ho)
    | (go_at_call 68; go_must (refine (reverse4_any _ _ _ _ g _ _ _ HX.out).mono ?_); rintro e w3 ⟨rfl, hx⟩; have HX3 := Lib.hid hx; have HB3 := Lib.hid (((Below.refl w.heap.size w).alloc (Nat.le_refl _) (.cells #[.slice (some ⟨b1, o1, none⟩) k c] 24)).trans (hx.up.mono (by simp))); clear hx)
    | (go_at_call 46; go_must (refine (equal_any [u0, u1, u2, u3] u _ _ 4 _ 4 _ _ (HX3.out.sl (i := 0) rfl rfl).rb (HD.out _ HB3.out).rb).mono ?_); rintro e w4 ⟨rfl, rfl⟩))
  go_ret
  exact ⟨rfl, HB3.out⟩
end Go.Proofs.YtmigjipfomfacaaDoor

/-
  Blocks: fewer bytes are shared than the key has; plain law.
-/
namespace Go.Proofs.YtmigjipfomfacaaDoor

theorem keyE_pos (e : Ent) : 0 < (keyE e).length := by unfold keyE; simp only [List.length_append, List.length_cons]; omega
theorem cmpB_same (l : List UInt8) : cmpB l l = 0 := by
  induction l with
  | nil => simp [cmpB]
  | cons c l ih => rw [cmpB_cc, if_neg (by omega), if_neg (by omega), ih]
theorem alike_lt {R : Nat} {L : List Ent} {e : Ent} (hL : ∀ l, l ∈ L → checkE l = 0) (he : checkE e = 0) (hl : ¬ lastOk L e = false) : alikeB R (runB R L) (keyE e) < (keyE e).length := by
  have hpos := keyE_pos e
  have hle := (alike_le R (runB R L) (keyE e)).2
  rcases Nat.lt_or_ge (alikeB R (runB R L) (keyE e)) (keyE e).length with h | h
  · exact h
  have heq : alikeB R (runB R L) (keyE e) = (keyE e).length := by omega
  exfalso
  unfold alikeB at heq
  split at heq
  · omega
  · cases hg : L.getLast? with
    | none =>
      obtain rfl := List.getLast?_eq_none_iff.1 hg
      rename_i hn
      exact hn (by show 0 % R = 0; exact Nat.zero_mod R)
    | some l =>
      have hk := runB_key R L hg
      rw [hk] at heq
      have hoe := ok_of he
      have hol := ok_of (hL l (List.mem_of_getLast? hg))
      have ht := shareN_take (keyE l) (keyE e)
      rw [heq] at ht
      have hkk := prefix_free hoe hol _ ht.symm rfl
      have h0 : cmpE l e = 0 := by rw [← key_sorts hol hoe, hkk]; exact cmpB_same _
      apply hl
      unfold lastOk
      rw [hg]
      simp [h0]
end Go.Proofs.YtmigjipfomfacaaDoor

/-
  A block's builder: what it holds; Begin, Count, Size, walked.
-/
namespace Go.Proofs.YtmigjipfomfacaaDoor
open Go.RowKit

def i64v (n : Nat) : Value := .int .i64 (n : Int)
/-- A builder's twelve cells. -/
def bldC (R : Nat) (bv pv : Value) (A : Option Addr) (n c : Nat) (B : Option Addr) (m d : Nat) (e : Ent) (kv : Value) (N : Nat) : List Value :=
  [i64v R, bv, pv, .slice A n c, .int .i64 e.fam, .slice B m d, .int .i64 e.ts, .int .i64 e.seq, .int .i64 e.kind, .slice none 0 0, kv, i64v N]
/-- What a builder is made of. -/
structure BldM where
  B : Option Addr
  bc : Nat
  pv : Value
  A : Option Addr
  ac : Nat
  Q : Option Addr
  qc : Nat
  K : Option Addr
  kc : Nat
  e : Ent
def bldO (R g : Nat) (s : BSt) (m : BldM) : List Ob :=
  [boxO g (bldC R (.slice m.B s.body.length m.bc) m.pv m.A m.e.row.length m.ac m.Q m.e.qual.length m.qc m.e (.slice m.K s.key.length m.kc) s.n), bytO 5 (m.B, m.bc, s.body), rowO 3 1 m.pv s.places.length (s.places.map i64v), bytO 5 (m.A, m.ac, m.e.row), bytO 5 (m.Q, m.qc, m.e.qual), bytO 5 (m.K, m.kc, s.key)]
/-- The last entry that was taken. -/
def lastE (L : List Ent) (e : Ent) : Prop := ∀ l, L.getLast? = some l → e = { l with val := [] }
def Bld (R : Nat) (L : List Ent) (g : Nat) (os : List Ob) : Prop := (1 ≤ R ∧ R ≤ 16) ∧ sizeS (runB R L) ≤ 131072 ∧ (runB R L).key.length ≤ 1000000 ∧ (∀ l, l ∈ L → checkE l = 0) ∧ ∃ m : BldM, os = bldO R g (runB R L) m ∧ lastE L m.e

/-- What Size tells. -/
def szB (R : Nat) (L : List Ent) : Nat := if L = [] then 0 else sizeS (runB R L)
theorem OW.addF9 {w x y : World} {os ps : List Ob} (h : OW w os x) (k : OW x ps y) : OW w (ps ++ os) y := (h.app k).perm List.perm_append_comm
def BeginP (R : Int) (w : World) (e : Ending) (w' : World) : Prop :=
  ((R < 1 ∨ 16 < R) ∧ e = .returned (.tuple #[.pointer none, .int .i64 1]) ∧ Below w.heap.size w w') ∨
  (1 ≤ R ∧ R ≤ 16 ∧ ∃ g os, e = .returned (.tuple #[.pointer (some ⟨g, 0, none⟩), .int .i64 0]) ∧ Bld R.toNat [] g os ∧ OW w os w')
set_option maxRecDepth 100000 in
theorem begin_any (R : Int) (w : World) : Calls Tryd.prog 22 #[.int .i64 R] w (BeginP R w) := by
  by_cases h1 : R < 1
  · have hd : decide (R < 1) = true := decide_eq_true h1
    go_enter Tryd.func22, Tryd.ntmps22
    go_wp2_with fail
    go_ret2
    exact .inl ⟨.inl h1, rfl, Below.refl _ _⟩
  have hd : decide (R < 1) = false := decide_eq_false h1
  by_cases h2 : 16 < R
  · have hd2 : decide (R > 16) = true := decide_eq_true h2
    go_enter Tryd.func22, Tryd.ntmps22
    go_wp2_with fail
    go_ret2
    exact .inl ⟨.inr h2, rfl, Below.refl _ _⟩
  have hd2 : decide (R > 16) = false := decide_eq_false h2
  obtain ⟨r, rfl⟩ : ∃ r : Nat, R = (r : Int) := ⟨R.toNat, by omega⟩
  have HX := Lib.hid (OW.nil w)
  go_enter Tryd.func22, Tryd.ntmps22
  go_wp2_with (refine wl_box rfl (.tmp 11) rfl (bldC r (.slice none 0 0) (.slice none 0 0) none 0 0 none 0 0 noEnt (.slice none 0 0) 0) rfl HX.out ?_; intro g x1 hz _; replace HX := Lib.hid hz; clear hz)
  go_ret2
  refine .inr ⟨by omega, by omega, g, _, rfl, ⟨⟨by rw [Int.toNat_natCast]; omega, by rw [Int.toNat_natCast]; omega⟩, (by show 9 ≤ 131072; decide), Nat.zero_le _, (fun l h => by cases h), ⟨none, 0, .slice none 0 0, none, 0, none, 0, none, 0, noEnt⟩, rfl, fun l h => by cases h⟩, ?_⟩
  have hn : ∀ {os : List Ob} {z : World}, OW w os z → ∀ T : TypeId, OW w (os ++ [rowO T 1 (.slice none 0 0) 0 []]) z := fun h T => h.app ⟨Below.refl _ _, fun o ho => by
    obtain rfl := List.mem_singleton.1 ho
    exact ⟨(fun e => nomatch e), fun _ => own_nil _ _ _ _⟩, List.pairwise_singleton _ _⟩
  have h := hn (hn (hn (hn (hn HX.out 5) 3) 5) 5) 5
  exact h

set_option maxRecDepth 100000 in
theorem count_any {w x : World} {R g : Nat} {L : List Ent} {os rest : List Ob} (hb : Bld R L g os) (h : OW w (os ++ rest) x) :
    Calls Tryd.prog 41 #[.pointer (some ⟨g, 0, none⟩)] x fun e x' => e = .returned (.int .i64 (L.length : Nat)) ∧ Below x.heap.size x x' := by
  obtain ⟨_, _, _, _, m, rfl, _⟩ := hb
  have hc := h.cell (i := 0) (j := 11) rfl rfl
  rw [runB_n] at hc
  have hc : x.cell? ⟨g, 11, none⟩ = some (.int .i64 (L.length : Int)) := hc
  clear h
  go_enter Tryd.func41, Tryd.ntmps41
  go_wp2_with (refine wpList_load_cell rfl 3 (.tmp 5) rfl rfl hc (fun w => Tryd.isAgg3 w) ?_)
  go_ret
  exact ⟨rfl, Below.refl _ _⟩

set_option maxRecDepth 100000 in
theorem size_any {w x : World} {R g : Nat} {L : List Ent} {os rest : List Ob} (hb : Bld R L g os) (h : OW w (os ++ rest) x) :
    Calls Tryd.prog 40 #[.pointer (some ⟨g, 0, none⟩)] x fun e x' => e = .returned (.int .i64 (szB R L : Nat)) ∧ Below x.heap.size x x' := by
  obtain ⟨_, hsz, _, _, m, rfl, _⟩ := hb
  have hc := h.cell (i := 0) (j := 11) rfl rfl
  have c1 := h.cell (i := 0) (j := 1) rfl rfl
  have c2 := h.cell (i := 0) (j := 2) rfl rfl
  obtain ⟨P, pc, hpv, _⟩ := own_slice (h.row (i := 2) rfl)
  rw [runB_n] at hc
  obtain ⟨N, hN⟩ : ∃ N, N = L.length := ⟨_, rfl⟩
  obtain ⟨bl, hbl⟩ : ∃ N, N = (runB R L).body.length := ⟨_, rfl⟩
  obtain ⟨pl, hpl⟩ : ∃ N, N = (runB R L).places.length := ⟨_, rfl⟩
  have hS : Hid (sizeS (runB R L) = bl + 4 * pl + 9) := Lib.hid (by unfold sizeS; rw [hbl, hpl])
  have hlim : bl + 4 * pl + 9 ≤ 131072 := by have := hS.out; omega
  rw [hpv, ← hpl] at c2
  rw [← hbl] at c1
  rw [← hN] at hc
  have hc : x.cell? ⟨g, 11, none⟩ = some (.int .i64 (N : Int)) := hc
  have HN := Lib.hid hN
  clear h hN hbl hpl hpv hsz
  by_cases h0 : N = 0
  · subst h0
    have HL : Hid (L = []) := Lib.hid (List.eq_nil_of_length_eq_zero HN.out.symm)
    go_enter Tryd.func40, Tryd.ntmps40
    go_wp2_with (refine wpList_load_cell rfl 3 (.tmp 5) rfl rfl hc (fun w => Tryd.isAgg3 w) ?_)
    go_ret
    exact ⟨by rw [show szB R L = 0 from if_pos HL.out]; rfl, Below.refl _ _⟩
  have HL : Hid (L ≠ []) := Lib.hid (fun e => h0 (by rw [HN.out, e]; rfl))
  have hd : ((N : Int) == 0) = false := beq_eq_false_iff_ne.2 (by omega)
  go_enter Tryd.func40, Tryd.ntmps40
  go_wp2_with (refine wpList_load_cell rfl 3 (.tmp 5) rfl rfl hc (fun w => Tryd.isAgg3 w) ?_)
  go_quiet (fail)
  have HW2 := Lib.hid (below_drewN (n := nq) (Below.refl x.heap.size x))
  clear hc c1 c2
  generalize x.drewN nq = w3 at *
  go_wp2
  go_ret
  refine ⟨?_, HW2.out⟩
  rw [show szB R L = bl + 4 * pl + 9 from (if_neg HL.out).trans hS.out]
  push_cast
  rfl
end Go.Proofs.YtmigjipfomfacaaDoor

/-
  slices.Clone of bytes, walked (its text is bytes.Clone's).
-/
namespace Go.Proofs.YtmigjipfomfacaaDoor
open Go.RowKit

set_option maxRecDepth 100000 in
set_option maxHeartbeats 400000 in
theorem sclone_any (l : List UInt8) (A : Option Addr) (n c : Nat) (w : World) (hn : n ≤ 140737488355328) (hA : A = none → c = 0) (hr : RB w w.heap.size A n l) :
    Calls Tryd.prog 65 #[.slice A n c] w (BytesPost 5 l w) := by
  have hl := hr.len
  have hnil := fun (w' : World) => Lib.run_eql_slice_nil (P := Tryd.prog) w' 24 5 A n c 0 0 Tryd.underlying24
  cases A with
  | none =>
    obtain rfl := hA rfl
    have hn0 : n = 0 := by
      rcases Nat.eq_zero_or_pos n with h0 | h0
      · exact h0
      · obtain ⟨_, _, e, _⟩ := hr.2 h0
        cases e
    subst hn0
    have H : Hid (BytesPost 5 l w (.returned (.slice none 0 0)) w) := Lib.hid (by
      have hl0 : l = [] := List.eq_nil_of_length_eq_zero hl
      subst hl0
      exact bytes_post (n := 0) (own_nil _ _ _ _) (Below.refl _ _))
    clear hr hl
    go_enter Tryd.func65, Tryd.ntmps65
    go_wp2
    go_ret
    exact H.out
  | some ad =>
    have O1 := Lib.hid (u8s_one l)
    have HO : Hid ((w.alloc (.cells #[] 5)).ownsRow w.heap.size 5 1 (.slice (some ⟨w.heap.size, 0, none⟩) 0 0) 0 []) := Lib.hid (World.ownsRow_made w #[] 0 (Nat.le_refl _) (by decide) rfl)
    have HR : Hid (RB (w.alloc (.cells #[] 5)) w.heap.size (some ad) n l) := Lib.hid (Reads.alloc hr (Nat.le_refl _) _)
    clear hr hA
    go_enter Tryd.func65, Tryd.ntmps65
    go_wp2_with (at_builtin; refine wpList_append_reads _ rfl (.tmp 5) (.tmp 6) rfl Tryd.u8s' w.heap.size (.slice (some ⟨w.heap.size, 0, none⟩) 0 0) 0 [] rfl HO.out w.heap.size (some ad) n c (u8s l) rfl HR.out O1.out (by unfold maxLen; omega) (by omega) (by simp) ?_; intro v1 w1 hown1 hg1 hat1)
    go_ret
    rw [List.nil_append] at hown1
    exact bytes_post hown1 (below_app ((Below.refl _ _).alloc (Nat.le_refl _) _) HO.out hg1 (by simp) (Nat.le_refl _))

end Go.Proofs.YtmigjipfomfacaaDoor

/-
  Storing a struct within a box; lists of structs that read (entries). Over any program.
-/
namespace Go.Proofs.YtmigjipfomfacaaDoor
open Go.RowKit

theorem setCells_chgo (g : Nat) (vs : List Value) : ∀ (o : Nat) (x : World), Chg (fun b => b = g) x (x.setCells g o vs) := fun o x => setCells_chg g vs o x
def midL (cs : List Value) (o : Nat) (vs : List Value) : List Value := cs.take o ++ vs ++ cs.drop (o + vs.length)
section
variable {w x y : World} {os os' ps : List Ob} {g o : Nat} {cs vs : List Value}
theorem rangeAt_part {b : Nat} (h : x.rangeAt b 0 cs) (k n : Nat) : x.rangeAt b k ((cs.drop k).take n) := fun j v hj => by
  rw [List.getElem?_take] at hj
  split at hj
  · rw [List.getElem?_drop] at hj
    have := h (k + j) v hj
    rwa [Nat.zero_add] at this
  · cases hj
theorem OW.part (h : OW w os x) {i : Nat} (hi : os[i]? = some (boxO g cs)) (k n : Nat) : x.rangeAt g k ((cs.drop k).take n) := rangeAt_part (h.range hi) k n
theorem OW.putAt (h : OW w os x) {i : Nat} (hi : os[i]? = some (boxO g cs)) (hl : o + vs.length ≤ cs.length) : OW w (os.set i (boxO g (midL cs o vs))) (x.setCells g o vs) := by
  obtain ⟨h1, h2, h3, h4⟩ := h.box hi
  have ht : x.there g o vs.length := fun j hj => ⟨by
    have := h3.isSome (o + j) (by omega)
    rwa [Nat.zero_add] at this, h4 _⟩
  refine h.putR hi (setCells_chgo g vs o x) (fun j v hj => ?_) fun q => World.frozen?_setCells _ _ _ _ _
  rw [Nat.zero_add]
  unfold midL at hj
  have lt : (cs.take o).length = o := by rw [List.length_take]; omega
  rcases Nat.lt_or_ge j o with h5 | h5
  · rw [List.append_assoc, List.getElem?_append_left (by omega), List.getElem?_take_of_lt h5] at hj
    have h6 : x.rangeAt g 0 (cs.take o) := fun q u hq => h3 q u (by
      rw [List.getElem?_take] at hq
      split at hq
      · exact hq
      · cases hq)
    have h7 := World.rangeAt_setCells_apart h6 g o vs (.inr (.inl (by omega)))
    have := h7 j v (by rw [List.getElem?_take_of_lt h5]; exact hj)
    rwa [Nat.zero_add] at this
  · rcases Nat.lt_or_ge j (o + vs.length) with h6 | h6
    · rw [List.getElem?_append_left (by rw [List.length_append]; omega), List.getElem?_append_right (by omega), lt] at hj
      have h7 := World.rangeAt_setCells_same x g o vs ht (j - o) v hj
      rwa [show o + (j - o) = j from by omega] at h7
    · rw [List.getElem?_append_right (by rw [List.length_append]; omega), List.length_append, lt, List.getElem?_drop] at hj
      have h8 : x.rangeAt g (o + vs.length) (cs.drop (o + vs.length)) := fun q u hq => by
        rw [List.getElem?_drop] at hq
        have := h3 _ u hq
        rwa [Nat.zero_add] at this
      have h7 := World.rangeAt_setCells_apart h8 g o vs (.inr (.inr (Nat.le_refl _)))
      have := h7 (j - (o + vs.length)) v (by rw [List.getElem?_drop]; exact hj)
      rwa [show o + vs.length + (j - (o + vs.length)) = j from by omega] at this
end
section
variable {P : Program} {ops : Array Oper} {Q : Exit → Act → World → Prop} {K : Act → World → Prop} {rest : List Oper} {o : Oper} {a : Act} {w x : World} {os : List Ob}
theorem wp_load_at {ty : TypeId} {y : Operand} (ho : o.op = .load ty y) {g k : Nat} {cs : List Value} (hx : a.eval y = .pointer (some ⟨g, k, none⟩)) (hr : w.rangeAt g k cs) (ht : RowTy P ty cs.length)
    (hK : K (a.put o.dst (.agg cs.toArray)) w) : o.wp P a w K Q := by
  obtain ⟨⟨d, hu, hd⟩, hi⟩ := ht
  exact wp_load_mid ty y ho g k hx cs d hr hu hd hi hK
theorem wpList_load_at (hgd : Region.wanted o (yielded ops a.tmps) = true) (ty : TypeId) (y : Operand) (ho : o.op = .load ty y) {g k : Nat} {cs : List Value} (hx : a.eval y = .pointer (some ⟨g, k, none⟩)) (hr : w.rangeAt g k cs) (ht : RowTy P ty cs.length)
    (hK : wpList P ops Q rest (a.put o.dst (.agg cs.toArray)) w) : wpList P ops Q (o :: rest) a w :=
  BigFrame.wpList_want hgd fun _ h => wp_load_at ho hx hr ht (h _ _ hK)
theorem wpo_putAt {t : TypeId} {p y : Operand} (ho : o.op = .store t p y) (h : OW w os x) (i : Nat) {g k : Nat} {cs : List Value} (hi : os[i]? = some (boxO g cs)) (hx : a.eval p = .pointer (some ⟨g, k, none⟩)) (vs : List Value) (hy : a.eval y = .agg vs.toArray) (hl : k + vs.length ≤ cs.length) (ht : (P.info? t).map (·.size) = some vs.length) (h1 : ∀ u ∈ vs, u.oneCell' = true)
    (hK : ∀ z, OW w (os.set i (boxO g (midL cs k vs))) z → Chg (fun b => b = g) x z → K (a.put o.dst undef) z) : o.wp P a x K Q :=
  wp_store_mid t p y ho g k vs.toArray hx hy (fun j hj => ⟨by
    have := (h.range hi).isSome (k + j) (by simp at hj; omega)
    rwa [Nat.zero_add] at this, h.fz hi _⟩) (by simpa using ht) (all_oneCell_toArray h1) (hK _ (h.putAt hi hl) (setCells_chgo g vs k x))
theorem wl_putAt {t : TypeId} (hgd : Region.wanted o (yielded ops a.tmps) = true) (p y : Operand) (ho : o.op = .store t p y) (h : OW w os x) (i : Nat) {g k : Nat} {cs : List Value} (hi : os[i]? = some (boxO g cs)) (hx : a.eval p = .pointer (some ⟨g, k, none⟩)) (vs : List Value) (hy : a.eval y = .agg vs.toArray) (hl : k + vs.length ≤ cs.length) (ht : (P.info? t).map (·.size) = some vs.length) (h1 : ∀ u ∈ vs, u.oneCell' = true)
    (hK : ∀ z, OW w (os.set i (boxO g (midL cs k vs))) z → Chg (fun b => b = g) x z → wpList P ops Q rest (a.put o.dst undef) z) : wpList P ops Q (o :: rest) a x :=
  BigFrame.wpList_want hgd fun _ hk => wpo_putAt ho h i hi hx vs hy hl ht h1 fun z hz hc => hk _ _ (hK z hz hc)
end
end Go.Proofs.YtmigjipfomfacaaDoor

/-
  Bytes appended to a row of bytes of the call's own; a row made empty with room. Over any program.
-/
namespace Go.Proofs.YtmigjipfomfacaaDoor
open Go.RowKit

theorem bytO_app (T : TypeId) (A : Option Addr) (c n m : Nat) (l r : List UInt8) (hn : l.length = n) (hm : r.length = m) : rowO T 1 (.slice A (n + m) c) (n + m) (u8s l ++ u8s r) = bytO T (A, c, l ++ r) := by
  subst hn; subst hm
  unfold bytO rowO
  simp [u8s]
section
variable {P : Program} {ops : Array Oper} {Q : Exit → Act → World → Prop} {K : Act → World → Prop} {rest : List Oper} {o : Oper} {a : Act} {w x : World} {os : List Ob}
theorem wpo_appB {t e : TypeId} (s y : Operand) (ho : o.op = .call { callee := .builtin .append, args := #[s, y], argTypes := #[t, t] }) (hS : SliceOf P t e 1 1) (h : OW w os x) (i : Nat) {A : Option Addr} {c n : Nat} {l : List UInt8} (hi : os[i]? = some (bytO e (A, c, l))) (hn : l.length = n) (hs : a.eval s = .slice A n c)
    (B : Nat) (A2 : Option Addr) (m c2 : Nat) (r : List UInt8) (hy : a.eval y = .slice A2 m c2) (hr : RB x B A2 m r) (hb : n + m ≤ 140737488355328)
    (hK : ∀ A' c' z, OW w (os.set i (bytO e (A', c', l ++ r))) z → x.grownBy z (Value.slice A n c).ownBlock → K (a.put o.dst (.slice A' (n + m) c')) z) : o.wp P a x K Q := by
  subst hn
  refine wpo_append s y ho hS h i (v := .slice A l.length c) (n := l.length) (cs := u8s l) hi hs B A2 m c2 (u8s r) hy hr (u8s_one r) (by unfold maxLen; omega) (by omega) fun A' c' z hz hg => hK A' c' z ?_ hg
  rw [bytO_app e A' c' _ m l r rfl hr.len] at hz
  exact hz
theorem wl_appB {t e : TypeId} (hgd : Region.wanted o (yielded ops a.tmps) = true) (s y : Operand) (ho : o.op = .call { callee := .builtin .append, args := #[s, y], argTypes := #[t, t] }) (hS : SliceOf P t e 1 1) (h : OW w os x) (i : Nat) {A : Option Addr} {c n : Nat} {l : List UInt8} (hi : os[i]? = some (bytO e (A, c, l))) (hn : l.length = n) (hs : a.eval s = .slice A n c)
    (B : Nat) (A2 : Option Addr) (m c2 : Nat) (r : List UInt8) (hy : a.eval y = .slice A2 m c2) (hr : RB x B A2 m r) (hb : n + m ≤ 140737488355328)
    (hK : ∀ A' c' z, OW w (os.set i (bytO e (A', c', l ++ r))) z → wpList P ops Q rest (a.put o.dst (.slice A' (n + m) c')) z) : wpList P ops Q (o :: rest) a x :=
  BigFrame.wpList_want hgd fun _ hk => wpo_appB s y ho hS h i hi hn hs B A2 m c2 r hy hr hb fun A' c' z hz _ => hk _ _ (hK A' c' z hz)
theorem wl_make0 {t e : TypeId} {size bytes : Nat} (hg : o.guard = none) (l c : Operand) (hop : o.op = Op.makeSlice t l c) (hS : SliceOf P t e size bytes) (n : Nat) (C : Int) (hl : a.eval l = .int .i64 0) (hc : a.eval c = .int .i64 C) (hC : C = (n : Int)) (b2 : bytes * n ≤ 281474976710656) (b3 : n ≤ maxLen) (h : OW w os x)
    (hK : ∀ g z, OW w (os ++ [rowO e size (.slice (some ⟨g, 0, none⟩) 0 n) 0 []]) z → Below x.heap.size x z → wpList P ops Q rest (a.put o.dst (.slice (some ⟨g, 0, none⟩) 0 n)) z) : wpList P ops Q (o :: rest) a x := by
  obtain ⟨ht, ⟨i, z, hi, hz, hsz, hby, _⟩, _⟩ := hS
  subst hby
  refine wpList_make_own x hg l c t hop x.heap.size e i z size ht hi hz hsz .i64 .i64 C n hl hc hC b2 b3 (Nat.le_refl _) fun w' ho hgr => ?_
  have hb := below_grown_none hgr
  exact hK _ _ (h.app (OW.row1 hb ho)) hb
theorem wl_makeN {t e : TypeId} {size bytes : Nat} (hg : o.guard = none) (l c : Operand) (hop : o.op = Op.makeSlice t l c) (hS : SliceOf P t e size bytes) (z : Value) (hz : (P.info? e).bind (·.zero) = some z) (n : Nat) (L C : Int) (hl : a.eval l = .int .i64 L) (hc : a.eval c = .int .i64 C) (hL : L = (n : Int)) (hC : C = (n : Int)) (b2 : bytes * n ≤ 281474976710656) (b3 : n ≤ maxLen) (h : OW w os x)
    (hK : ∀ g y, OW w (os ++ [rowO e size (.slice (some ⟨g, 0, none⟩) n n) n (madeCells z.cells (n * size)).toList]) y → Below x.heap.size x y → wpList P ops Q rest (a.put o.dst (.slice (some ⟨g, 0, none⟩) n n)) y) : wpList P ops Q (o :: rest) a x := by
  obtain ⟨ht, ⟨i, z', hi, hz', hsz, hby, _⟩, _⟩ := hS
  subst hby
  rw [hi] at hz
  have hz : i.zero = some z := hz
  rw [hz'] at hz; injection hz with hz; subst hz
  refine wpList_make_full x hg l c t hop x.heap.size e i z' size ht hi hz' hsz .i64 .i64 L C n hl hc hL hC b2 b3 (Nat.le_refl _) fun w' ho hgr => ?_
  have hb := below_grown_none hgr
  exact hK _ _ (h.app (OW.row1 hb ho)) hb
end
theorem OW.nilRow {w x : World} {os : List Ob} (h : OW w os x) (T : TypeId) (sz : Nat) : OW w (os ++ [rowO T sz (.slice none 0 0) 0 []]) x := h.app ⟨Below.refl _ _, fun o ho => by
  obtain rfl := List.mem_singleton.1 ho
  exact ⟨(fun e => nomatch e), fun _ => own_nil _ _ _ _⟩, List.pairwise_singleton _ _⟩
theorem OW.nilB {w x : World} {os : List Ob} (h : OW w os x) (T : TypeId) : OW w (os ++ [bytO T (none, 0, [])]) x := h.nilRow T 1
theorem OW.bytes2 {w y : World} {T : TypeId} {A : Option Addr} {c : Nat} {l l' : List UInt8} {v : Value} {k k' : Int} {n : Nat} (h : OW w [bytO T (A, c, l)] y) (hl : l = l') (hn : l.length = n) (hk : k = k') (hv : v = .slice A n c) : BytesPost2 T l' k' w (.returned (.tuple #[v, .int .i64 k])) y := by
  subst hl; subst hk; subst hn; subst hv
  exact ⟨A, c, rfl, h.byt (i := 0) rfl, h.up⟩
theorem OW.bytes1 {w y : World} {T : TypeId} {A : Option Addr} {c : Nat} {l l' : List UInt8} {v : Value} {n : Nat} (h : OW w [bytO T (A, c, l)] y) (hl : l = l') (hn : l.length = n) (hv : v = .slice A n c) : BytesPost T l' w (.returned v) y := by
  subst hl; subst hn; subst hv
  exact ⟨A, c, rfl, h.byt (i := 0) rfl, h.up⟩
end Go.Proofs.YtmigjipfomfacaaDoor

/-
  slices.Grow of nil, slices.Concat of two, walked.
-/
namespace Go.Proofs.YtmigjipfomfacaaDoor
open Go.RowKit

set_option maxRecDepth 100000 in
set_option maxHeartbeats 2000000 in
theorem sgrow_nil (n : Nat) (w : World) (hn : n ≤ 1099511627776) : Calls Tryd.prog 95 #[.slice none 0 0, .int .i64 n] w fun e w' => ∃ A c, e = .returned (.slice A 0 c) ∧ OwnB 5 w.heap.size w' A c [] ∧ Below w.heap.size w w' := by
  by_cases h0 : n = 0
  · subst h0
    go_enter Tryd.func95, Tryd.ntmps95
    go_wp2_with fail
    go_ret
    exact ⟨none, 0, rfl, own_nil _ _ _ _, Below.refl _ _⟩
  obtain ⟨i0, hi, hz0, hs0, hb0⟩ := info_parts (show (Tryd.prog.info? 5).map (fun i => (i.zero, i.size, i.bytes)) = some (some (.int .u8 0), 1, 1) by kernel_rfl)
  have hold : (Builtin.firstCells i0.size 0 (.slice none 0 0)).run Tryd.prog w.drew = .ok (([] : List Value).toArray) w.drew := by rw [hs0]; exact run_firstCells_none w.drew 1 0 0 0
  have hrz : ∀ ty, (Builtin.append_ #[24, 3] ty #[.slice none 0 0, .int .i64 (n : Int)]).run Tryd.prog w = .ok (.slice (some ⟨w.heap.size, 0, none⟩) n (grownCap w n 0 5)) (w.drew.alloc (.cells (#[] ++ Builtin.zeroCells #[.int .u8 0] n ++ Builtin.zeroCells #[.int .u8 0] (grownCap w n 0 5 - n)) 5)) := fun ty => by
    have h := Lib.run_append_grow_zeros w 24 3 ty 5 i0 (.int .u8 0) .i64 .i64 Tryd.underlying24 Tryd.underlying3 hi hz0 none 0 0 [] hold n (by omega) (by rw [hs0]; omega) (by omega) (by omega) (by rw [hb0]; omega) (by rw [hb0]; exact growslice_fits (by omega) (by omega))
    rw [Nat.zero_add] at h
    exact h
  have hGn : n ≤ grownCap w n 0 5 := grownCap_ge w _ _ _
  obtain ⟨G, hG⟩ : ∃ G, G = grownCap w n 0 5 := ⟨_, rfl⟩
  rw [← hG] at hrz hGn
  have hG63 : G ≤ 9223372036854775807 := by
    have := grownCap_le_maxLen w n 0 5 (by unfold maxLen; omega)
    rw [← hG] at this
    unfold maxLen at this
    omega
  have hgt : (0 : Int) < (n : Int) := by omega
  have HO : Hid ((w.alloc (.cells (Builtin.zeroCells #[.int .u8 0] n ++ Builtin.zeroCells #[.int .u8 0] (G - n)) 5)).drew.ownsRow w.heap.size 5 1 (.slice (some ⟨w.heap.size, 0, none⟩) 0 G) 0 []) := Lib.hid (World.ownsRow_made w _ G (Nat.le_refl _) (by unfold maxLen; omega) (by
    simp only [Array.size_append, size_zeroCells, List.size_toArray, List.length_nil, List.length_cons]; omega))
  clear hold hG h0
  go_enter Tryd.func95, Tryd.ntmps95
  go_wp2_with (at_builtin; refine Lib.wpList_append_run _ rfl _ _ _ _ rfl _ _ rfl rfl _ _ (hrz _) ?_)
  go_ret
  exact ⟨_, G, rfl, HO.out, ((Below.refl _ _).alloc (Nat.le_refl _) _).drew⟩
theorem flat_take1 {ks : List (List UInt8)} {k : Nat} {x : List UInt8} (h : ks[k]? = some x) : (ks.take (k + 1)).flatten = (ks.take k).flatten ++ x := by
  rw [take_snoc h, List.flatten_append]; simp
theorem flat_take_len (ks : List (List UInt8)) (k : Nat) : (ks.take k).flatten.length ≤ ks.flatten.length := by
  have e := congrArg (fun l => (List.flatten l).length) (List.take_append_drop k ks)
  simp only [List.flatten_append, List.length_append] at e
  omega

set_option maxRecDepth 100000 in
set_option maxHeartbeats 2000000 in
theorem sconcat_any (ks : List (List UInt8)) (A : Option Addr) (n c : Nat) (w : World) (hn : n ≤ 1000000000) (hr : RBs w w.heap.size A n ks) (hb : ks.flatten.length ≤ 1099511627776) :
    Calls Tryd.prog 81 #[.slice A n c] w (BytesPost 5 ks.flatten w) := by
  have HL := Lib.hid hr.len
  have HR : Hid (∀ z, Below w.heap.size w z → RBs z z.heap.size A n ks) := Lib.hid fun z h => hr.later h
  have HF : Hid (∀ k, (ks.take k).flatten.length ≤ 1099511627776) := Lib.hid fun k => Nat.le_trans (flat_take_len ks k) hb
  obtain ⟨N, hN⟩ : ∃ z, z = ks.flatten.length := ⟨_, rfl⟩
  rw [← hN] at hb
  have HN := Lib.hid hN
  clear hr hN
  go_enter Tryd.func81, Tryd.ntmps81
  go_wp2_with fail
  go_loop [3, 11] (fun s i => ∃ k t : Nat, k ≤ n ∧ t ≤ 1099511627776 ∧ i = .int .i64 k ∧ s = .int .i64 t ∧ Hid (t = (ks.take k).flatten.length)) (fun _ i => n - (intOf i).toNat)
  case atStart => exact ⟨0, 0, Nat.zero_le _, by omega, rfl, rfl, Lib.hid rfl⟩
  case round =>
    obtain ⟨k, t, hk, ht, rfl, rfl, HT⟩ := hrel
    by_cases hlt : k < n
    case pos =>
      have hdk : decide ((k : Int) < (n : Int)) = true := decide_eq_true (by omega)
      obtain ⟨b, o, x, a, ck, rfl, hbl, hx, hcell, _, _, _, _⟩ := (HR.out w (Below.refl _ _)).at_ hlt
      have HX := Lib.hid (flat_take1 hx)
      obtain ⟨m, hm⟩ : ∃ z, z = x.length := ⟨_, rfl⟩
      have hmb : t + m ≤ 1099511627776 := by have h1 := HF.out (k + 1); rw [HX.out, List.length_append, ← HT.out, ← hm] at h1; exact h1
      rw [← hm] at hcell
      have HM := Lib.hid hm
      have i1 : (0 : Int) ≤ (k : Int) := by omega
      have i2 : (k : Int) < (n : Int) := by omega
      have i3 : ¬ ((t : Int) + (m : Int) < 0) := by omega
      clear hx hm
      go_wp2_with fail
      go_round
      case rel => exact ⟨k + 1, t + m, by omega, hmb, by go_num, rfl, Lib.hid (by rw [HX.out, List.length_append, ← HT.out, ← HM.out])⟩
      case measure => simp [intOf]; omega
    have hdk : decide ((k : Int) < (n : Int)) = false := decide_eq_false (by omega)
    have HTN : Hid (t = N) := Lib.hid (by rw [HT.out, HN.out, take_all (by have := HL.out; omega)])
    go_wp2_with (go_at_call 95; go_must (refine (sgrow_nil t _ ht).mono ?_); rintro r z1 ⟨A1, c1, rfl, ho, hb1⟩; have HX := Lib.hid (OW.byt1 hb1 ho); clear ho hb1)
    go_loopw [6, 27] (fun v i wr => ∃ (k : Nat) (A : Option Addr) (c m : Nat) (l : List UInt8), k ≤ n ∧ m ≤ 1099511627776 ∧ i = .int .i64 k ∧ v = .slice A m c ∧ Hid (l.length = m) ∧ Hid (l = (ks.take k).flatten) ∧ Hid (OW w [bytO 5 (A, c, l)] wr)) (fun _ i _ => n - (intOf i).toNat)
    case atStart => exact ⟨0, A1, c1, 0, [], Nat.zero_le _, by omega, rfl, rfl, Lib.hid rfl, Lib.hid rfl, HX⟩
    case round =>
      clear HX
      obtain ⟨k2, A2, c2, m2, l2, hk2, hm2, rfl, rfl, HL2, HP2, HX⟩ := hrel
      by_cases hlt2 : k2 < n
      case pos =>
        have hdk2 : decide ((k2 : Int) < (n : Int)) = true := decide_eq_true (by omega)
        obtain ⟨b, o, x, a, ck, rfl, hbl, hx, hcell, _, _, _, hrb⟩ := (HR.out wr HX.out.up).at_ hlt2
        have HQ := Lib.hid (flat_take1 hx)
        obtain ⟨m, hm⟩ : ∃ z, z = x.length := ⟨_, rfl⟩
        have hmb : m2 + m ≤ 1099511627776 := by have h1 := HF.out (k2 + 1); rw [HQ.out, List.length_append, ← HP2.out, ← hm, HL2.out] at h1; exact h1
        rw [← hm] at hcell hrb
        have HM := Lib.hid hm
        have HRB := Lib.hid hrb
        have i1 : (0 : Int) ≤ (k2 : Int) := by omega
        have i2 : (k2 : Int) < (n : Int) := by omega
        clear hx hm hrb
        go_wp2_with (at_builtin; go_must (refine wl_appB rfl (.tmp 31) (.tmp 32) rfl Tryd.u8s' HX.out 0 rfl HL2.out rfl _ _ m _ x rfl HRB.out (by omega) ?_); intro A3 c3 z3 hz; have HX3 : Hid (OW w [bytO 5 (A3, c3, l2 ++ x)] z3) := Lib.hid hz; clear hz HX HRB hcell)
        go_roundw
        case rel => exact ⟨k2 + 1, A3, c3, m2 + m, l2 ++ x, by omega, hmb, by go_num, rfl, Lib.hid (by rw [List.length_append, HL2.out, HM.out]), Lib.hid (by rw [HQ.out, HP2.out]), HX3⟩
        case measure => simp [intOf]; omega
      have hdk2 : decide ((k2 : Int) < (n : Int)) = false := decide_eq_false (by omega)
      go_wp2_with fail
      go_ret
      exact HX.out.bytes1 (by rw [HP2.out, take_all (by have := HL.out; omega)]) HL2.out rfl
theorem rbs_two {w : World} {A B : Option Addr} {n c m d : Nat} {k l : List UInt8} (hk : Sl w A n c k) (hl : Sl w B m d l) (t : TypeId) (fr : Nat × Nat) :
    RBs (w.alloc (.cells #[.slice A n c, .slice B m d] t fr)) (w.alloc (.cells #[.slice A n c, .slice B m d] t fr)).heap.size (some ⟨w.heap.size, 0, none⟩) 2 [k, l] := by
  have hb : Below w.heap.size w (w.alloc (.cells #[.slice A n c, .slice B m d] t fr)) := (Below.refl _ _).alloc (Nat.le_refl _) _
  have h1 := hk.later hb
  have h2 := hl.later hb
  have e1 := hk.rb.len
  have e2 := hl.rb.len
  refine ⟨[.slice A n c, .slice B m d], ⟨rfl, fun _ => ⟨w.heap.size, 0, rfl, by simp, fun j u hu => ?_⟩⟩, rfl, fun i x hx => ?_⟩
  · rw [Nat.zero_add, World.cell?_alloc_mark, ← Array.getElem?_toList]; exact hu
  · match i, hx with
    | 0, hx => injection hx with hx; subst hx; exact ⟨A, c, by rw [e1]; rfl, by rw [e1]; exact h1.cap, h1.lim, h1.nil, by rw [e1]; exact h1.rb⟩
    | 1, hx => injection hx with hx; subst hx; exact ⟨B, d, by rw [e2]; rfl, by rw [e2]; exact h2.cap, h2.lim, h2.nil, by rw [e2]; exact h2.rb⟩
end Go.Proofs.YtmigjipfomfacaaDoor

/-
  A builder's Add, walked.
-/
namespace Go.Proofs.YtmigjipfomfacaaDoor
open Go.RowKit

theorem Tryd.intS5 : SliceOf Tryd.prog 101 3 1 8 := SliceOf.mk' (z := .int .i64 0) Tryd.underlying101 (by kernel_rfl) rfl (by decide)
theorem uintB_le10 {n : Nat} (h : n < 18446744073709551616) : (uintB n).length ≤ 10 := uintB_len 9 n (Nat.lt_of_lt_of_le h (by decide))
theorem ent_row5 : RowTy Tryd.prog 37 7 := ⟨⟨_, Tryd.underlying37, rfl⟩, by kernel_rfl⟩
/-- The last entry's cells within the builder's. -/
theorem last_range {w z : World} {os : List Ob} {i R g : Nat} {bv pv kv : Value} {A B : Option Addr} {n c m d N : Nat} {e : Ent} (h : OW w os z) (hi : os[i]? = some (boxO g (bldC R bv pv A n c B m d e kv N))) :
    z.rangeAt g 3 [.slice A n c, .int .i64 e.fam, .slice B m d, .int .i64 e.ts, .int .i64 e.seq, .int .i64 e.kind, .slice none 0 0] := fun j v hj => by
  match j, hj with
  | 0, hj => exact h.cell (j := 3) hi hj
  | 1, hj => exact h.cell (j := 4) hi hj
  | 2, hj => exact h.cell (j := 5) hi hj
  | 3, hj => exact h.cell (j := 6) hi hj
  | 4, hj => exact h.cell (j := 7) hi hj
  | 5, hj => exact h.cell (j := 8) hi hj
  | 6, hj => exact h.cell (j := 9) hi hj
def AddP (w : World) (R : Nat) (L : List Ent) (g : Nat) (rest : List Ob) (e : Ent) (r : Ending) (z : World) : Prop :=
  r = .returned (.int .i64 (addC R L e)) ∧ ∃ os', Bld R (addL R L e) g os' ∧ OW w (os' ++ rest) z

set_option maxRecDepth 100000 in
set_option maxHeartbeats 4000000 in
theorem add_any {w x : World} {R g : Nat} {L : List Ent} {os rest : List Ob} (hb : Bld R L g os) (h : OW w (os ++ rest) x) (e : Ent) (A : Option Addr) (n c : Nat) (B : Option Addr) (m d : Nat) (D : Option Addr) (v q : Nat) (HE : ∀ us z, OW w (us ++ rest) z → En z A n c B m d D v q e) :
    Calls Tryd.prog 23 #[.pointer (some ⟨g, 0, none⟩), entV A n c B m d D v q e] x (AddP w R L g rest e) := by
  obtain ⟨hR, hsz, hkl, hall, mm, rfl, hlast⟩ := hb
  have HEE := Lib.hid HE
  have HX := Lib.hid h
  have HRR := Lib.hid hR
  have HSZ := Lib.hid hsz
  have HKL := Lib.hid hkl
  have HLA := Lib.hid hlast
  have HALL := Lib.hid hall
  clear h HE hR hsz hkl hlast hall
  by_cases hc : checkE e = 0
  case neg =>
    obtain ⟨ce, hce⟩ : ∃ z, z = checkE e := ⟨_, rfl⟩
    have HK : Hid (KeyE e = ([], ce)) := Lib.hid (by unfold KeyE; rw [if_neg hc, hce])
    have HP : Hid (addC R L e = ce ∧ addL R L e = L) := Lib.hid (by
      have h : addC R L e = ce := by unfold addC; rw [if_pos hc, hce]
      exact ⟨h, by unfold addL; rw [h, if_neg (by rw [hce]; exact hc)]⟩)
    rw [← hce] at hc
    clear hce
    have hd : (ce == 0) = false := beq_eq_false_iff_ne.2 hc
    go_enter Tryd.func23, Tryd.ntmps23
    have tk : True := trivial
    go_wp2_with (first
      | (refine wl_box rfl (.tmp 1) rfl [.slice A n c, .int .i64 e.fam, .slice B m d, .int .i64 e.ts, .int .i64 e.seq, .int .i64 e.kind, .slice D v q] rfl (OW.nil _) ?_; intro gb x1 hz _; replace HX := Lib.hid (HX.out.addF9 hz); clear hz)
      | (refine wpList_load_row7 rfl 37 (.tmp 3) rfl rfl (HX.out.range (i := 0) rfl) ent_row5 ?_)
      | (go_at_call 18; have _t := tk; go_must (refine (key_any e A n c B m d D v q _ (HEE.out (boxO gb [.slice A n c, .int .i64 e.fam, .slice B m d, .int .i64 e.ts, .int .i64 e.seq, .int .i64 e.kind, .slice D v q] :: bldO R g (runB R L) mm) _ HX.out)).mono ?_); rw [HK.out]; rintro r y1 hp; obtain ⟨Ak, ck, rfl, _, ho, hb⟩ := hp.at_ (n := 0) rfl rfl; replace HX := Lib.hid (HX.out.addF9 (OW.byt1 hb ho)); clear hp ho hb tk))
    go_ret
    exact ⟨by rw [HP.out.1]; rfl, bldO R g (runB R L) mm, by rw [HP.out.2]; exact ⟨HRR.out, HSZ.out, HKL.out, HALL.out, mm, rfl, HLA.out⟩, HX.out.sub (((List.Sublist.refl _).cons _).cons _)⟩
  have HOK := Lib.hid (ok_of hc)
  have hkn0 := keyE_len HOK.out
  obtain ⟨kb, hkb⟩ : ∃ z, z = keyE e := ⟨_, rfl⟩
  have HK : Hid (KeyE e = (kb, 0)) := Lib.hid (by unfold KeyE; rw [if_pos hc, hkb])
  rw [← hkb] at hkn0
  obtain ⟨kn, hkn⟩ : ∃ z, z = kb.length := ⟨_, rfl⟩
  rw [← hkn] at hkn0
  have HKB := Lib.hid hkb
  have HKN := Lib.hid hkn.symm
  have HC := Lib.hid hc
  clear hkb hkn hc
  obtain ⟨s, hs⟩ : ∃ z, z = runB R L := ⟨_, rfl⟩
  rw [← hs] at HX HSZ HKL
  obtain ⟨N, hN⟩ : ∃ z, z = s.n := ⟨_, rfl⟩
  have HNL : Hid (N = L.length) := Lib.hid (by rw [hN, hs, runB_n])
  have HS0 := Lib.hid hs
  have HN := Lib.hid hN
  clear hs hN
  obtain ⟨bo, hbo⟩ : ∃ z : Bool, z = !lastOk L e := ⟨_, rfl⟩
  have HBO := Lib.hid hbo
  clear hbo
  go_enter Tryd.func23, Tryd.ntmps23
  have tk : True := trivial
  go_upto_region 4 with (first
    | (refine wl_box rfl (.tmp 1) rfl [.slice A n c, .int .i64 e.fam, .slice B m d, .int .i64 e.ts, .int .i64 e.seq, .int .i64 e.kind, .slice D v q] rfl (OW.nil _) ?_; intro gb x1 hz _; replace HX := Lib.hid (HX.out.addF9 hz); clear hz)
    | (refine wpList_load_row7 rfl 37 (.tmp 3) rfl rfl (HX.out.range (i := 0) rfl) ent_row5 ?_)
    | (go_at_call 18; have _t := tk; go_must (refine (key_any e A n c B m d D v q _ (HEE.out (boxO gb [.slice A n c, .int .i64 e.fam, .slice B m d, .int .i64 e.ts, .int .i64 e.seq, .int .i64 e.kind, .slice D v q] :: bldO R g s mm) _ HX.out)).mono ?_); rw [HK.out]; rintro r y1 hp; obtain ⟨Ak, ck, rfl, _, ho, hb⟩ := hp.at_ (n := kn) HKN.out rfl; replace HX := Lib.hid (HX.out.addF9 (OW.byt1 hb ho)); clear hp ho hb tk))
  have HX : Hid (OW w (bytO 5 (Ak, ck, kb) :: boxO gb [.slice A n c, .int .i64 e.fam, .slice B m d, .int .i64 e.ts, .int .i64 e.seq, .int .i64 e.kind, .slice D v q] :: (bldO R g s mm ++ rest)) y1) := HX
  have HCN : Hid (∀ z, OW w (bytO 5 (Ak, ck, kb) :: boxO gb [.slice A n c, .int .i64 e.fam, .slice B m d, .int .i64 e.ts, .int .i64 e.seq, .int .i64 e.kind, .slice D v q] :: (bldO R g s mm ++ rest)) z → z.cell? ⟨g, 11, none⟩ = some (.int .i64 (N : Int))) := Lib.hid fun z hz => by rw [HN.out]; exact hz.cell (i := 2) (j := 11) rfl rfl
  go_cut [32] (fun b wx => b = .bool bo ∧ Hid (OW w (bytO 5 (Ak, ck, kb) :: boxO gb [.slice A n c, .int .i64 e.fam, .slice B m d, .int .i64 e.ts, .int .i64 e.seq, .int .i64 e.kind, .slice D v q] :: (bldO R g s mm ++ rest)) wx))
  case first =>
    cases hg : L.getLast? with
    | none =>
      have hN0 : N = 0 := by rw [HNL.out, List.getLast?_eq_none_iff.1 hg]; rfl
      have hb0 : bo = false := by rw [HBO.out]; unfold lastOk; rw [hg]; rfl
      have hd : decide ((N : Int) > 0) = false := decide_eq_false (by omega)
      have hd' : ¬ (0 : Int) < (N : Int) := by omega
      clear hg
      refine lt_start [] (by kernel_rfl) ?_
      intro xd hd0
      refine ⟨fun z => OW w (bytO 5 (Ak, ck, kb) :: boxO gb [.slice A n c, .int .i64 e.fam, .slice B m d, .int .i64 e.ts, .int .i64 e.seq, .int .i64 e.kind, .slice D v q] :: (bldO R g s mm ++ rest)) z, ?_⟩
      have HS := Lib.hid (HX.out.later hd0)
      refine lt_pure 0 rfl (by kernel_rfl) (by kernel_rfl) (by kernel_rfl) (by kernel_rfl) (fun _ _ _ h => h) (v := ?_) (yi_run rfl (fun w => ?_)) (fun _ => HS.out) ?_
      rotate_left
      · first | (go_simp; done) | (go_simp; with_reducible rfl)
      simp only [Act.put, List.setIfInBounds_toArray, List.set_cons_zero, List.set_cons_succ]
      refine lt_pure 1 rfl (by kernel_rfl) (by kernel_rfl) (by kernel_rfl) (by kernel_rfl) (fun _ _ _ h => h) (v := ?_) (yi_run rfl (fun w => ?_)) (fun _ => HS.out) ?_
      rotate_left
      · first | (go_simp; done) | (go_simp; with_reducible rfl)
      simp only [Act.put, List.setIfInBounds_toArray, List.set_cons_zero, List.set_cons_succ]
      refine lt_pure 2 rfl (by kernel_rfl) (by kernel_rfl) (by kernel_rfl) (by kernel_rfl) (fun _ _ _ h => h) (v := ?_) (yi_run rfl (fun w => ?_)) (fun _ => HS.out) ?_
      rotate_left
      · first | (go_simp; done) | (go_simp; with_reducible rfl)
      simp only [Act.put, List.setIfInBounds_toArray, List.set_cons_zero, List.set_cons_succ]
      refine lt_take 3 [4, 5, 6, 7, 8, 9, 10, 11, 12, 13] rfl (by kernel_rfl) (by kernel_rfl) (by kernel_rfl) (by kernel_rfl) (by kernel_rfl) (fun _ _ _ h => h) (yi_cell rfl rfl rfl (fun w hS => HCN.out w hS) (fun w => Tryd.isAgg3 w)) HS.out ?_
      simp only [Act.put, List.setIfInBounds_toArray, List.set_cons_zero, List.set_cons_succ]
      refine lt_pure 4 rfl (by kernel_rfl) (by kernel_rfl) (by kernel_rfl) (by kernel_rfl) (fun _ _ _ h => h) (v := ?_) (yi_run rfl (fun w => ?_)) (fun _ => HS.out) ?_
      rotate_left
      · first | (go_simp; done) | (go_simp; with_reducible rfl)
      simp only [Act.put, List.setIfInBounds_toArray, List.set_cons_zero, List.set_cons_succ]
      refine lt_pure 5 rfl (by kernel_rfl) (by kernel_rfl) (by kernel_rfl) (by kernel_rfl) (fun _ _ _ h => h) (v := ?_) (yi_run rfl (fun w => ?_)) (fun _ => HS.out) ?_
      rotate_left
      · first | (go_simp; done) | (go_simp; with_reducible rfl)
      simp only [Act.put, List.setIfInBounds_toArray, List.set_cons_zero, List.set_cons_succ]
      refine lt_skip 6 rfl (by kernel_rfl) (by kernel_rfl) (by kernel_rfl) (by kernel_rfl) (fun _ _ _ h => h) rfl (fun _ => HS.out) ?_
      simp only [Act.put, List.setIfInBounds_toArray, List.set_cons_zero, List.set_cons_succ]
      refine lt_skip 7 rfl (by kernel_rfl) (by kernel_rfl) (by kernel_rfl) (by kernel_rfl) (fun _ _ _ h => h) rfl (fun _ => HS.out) ?_
      simp only [Act.put, List.setIfInBounds_toArray, List.set_cons_zero, List.set_cons_succ]
      refine lt_skip 8 rfl (by kernel_rfl) (by kernel_rfl) (by kernel_rfl) (by kernel_rfl) (fun _ _ _ h => h) rfl (fun _ => HS.out) ?_
      simp only [Act.put, List.setIfInBounds_toArray, List.set_cons_zero, List.set_cons_succ]
      refine lt_skip 9 rfl (by kernel_rfl) (by kernel_rfl) (by kernel_rfl) (by kernel_rfl) (fun _ _ _ h => h) rfl (fun _ => HS.out) ?_
      simp only [Act.put, List.setIfInBounds_toArray, List.set_cons_zero, List.set_cons_succ]
      refine lt_skip 10 rfl (by kernel_rfl) (by kernel_rfl) (by kernel_rfl) (by kernel_rfl) (fun _ _ _ h => h) rfl (fun _ => HS.out) ?_
      simp only [Act.put, List.setIfInBounds_toArray, List.set_cons_zero, List.set_cons_succ]
      refine lt_skip 11 rfl (by kernel_rfl) (by kernel_rfl) (by kernel_rfl) (by kernel_rfl) (fun _ _ _ h => h) rfl (fun _ => HS.out) ?_
      simp only [Act.put, List.setIfInBounds_toArray, List.set_cons_zero, List.set_cons_succ]
      refine lt_skip 12 rfl (by kernel_rfl) (by kernel_rfl) (by kernel_rfl) (by kernel_rfl) (fun _ _ _ h => h) rfl (fun _ => HS.out) ?_
      simp only [Act.put, List.setIfInBounds_toArray, List.set_cons_zero, List.set_cons_succ]
      refine lt_pure 13 rfl (by kernel_rfl) (by kernel_rfl) (by kernel_rfl) (by kernel_rfl) (fun _ _ _ h => h) (v := ?_) (yi_run rfl (fun w => ?_)) (fun _ => HS.out) ?_
      rotate_left
      · first | (go_simp; done) | (go_simp; with_reducible rfl)
      simp only [Act.put, List.setIfInBounds_toArray, List.set_cons_zero, List.set_cons_succ]
      refine lt_done (by kernel_rfl) ?_
      have HS9 := HS
      clear HS
      have HXD := Lib.hid HS9.out
      go_wp2_with fail
      go_meet
      exact ⟨by rw [hb0], HXD⟩
    | some l =>
      have hl := HLA.out l hg
      have hN0 : 0 < N := by rw [HNL.out]; exact List.length_pos_iff.2 (fun e' => by rw [e'] at hg; cases hg)
      have HV : Hid (mm.e.val = []) := Lib.hid (by rw [hl])
      obtain ⟨cv, hcv⟩ : ∃ z, z = cmpE mm.e e := ⟨_, rfl⟩
      have HCV := Lib.hid hcv
      have hbo : bo = decide (cv ≥ 0) := by
        have h1 : cmpE mm.e e = cmpE l e := by rw [hl]; rfl
        rw [HBO.out, hcv, h1]; unfold lastOk; rw [hg]
        by_cases h : cmpE l e < 0
        · simp [h, Int.not_le.2 h]
        · simp [h, Int.not_lt.1 h]
      have hd : decide ((N : Int) > 0) = true := decide_eq_true (by omega)
      have hd' : (0 : Int) < (N : Int) := by omega
      clear hg hl hcv
      refine lt_start [] (by kernel_rfl) ?_
      intro xd hd0
      refine ⟨fun z => OW w (bytO 5 (Ak, ck, kb) :: boxO gb [.slice A n c, .int .i64 e.fam, .slice B m d, .int .i64 e.ts, .int .i64 e.seq, .int .i64 e.kind, .slice D v q] :: (bldO R g s mm ++ rest)) z, ?_⟩
      have HS := Lib.hid (HX.out.later hd0)
      refine lt_pure 0 rfl (by kernel_rfl) (by kernel_rfl) (by kernel_rfl) (by kernel_rfl) (fun _ _ _ h => h) (v := ?_) (yi_run rfl (fun w => ?_)) (fun _ => HS.out) ?_
      rotate_left
      · first | (go_simp; done) | (go_simp; with_reducible rfl)
      simp only [Act.put, List.setIfInBounds_toArray, List.set_cons_zero, List.set_cons_succ]
      refine lt_pure 1 rfl (by kernel_rfl) (by kernel_rfl) (by kernel_rfl) (by kernel_rfl) (fun _ _ _ h => h) (v := ?_) (yi_run rfl (fun w => ?_)) (fun _ => HS.out) ?_
      rotate_left
      · first | (go_simp; done) | (go_simp; with_reducible rfl)
      simp only [Act.put, List.setIfInBounds_toArray, List.set_cons_zero, List.set_cons_succ]
      refine lt_pure 2 rfl (by kernel_rfl) (by kernel_rfl) (by kernel_rfl) (by kernel_rfl) (fun _ _ _ h => h) (v := ?_) (yi_run rfl (fun w => ?_)) (fun _ => HS.out) ?_
      rotate_left
      · first | (go_simp; done) | (go_simp; with_reducible rfl)
      simp only [Act.put, List.setIfInBounds_toArray, List.set_cons_zero, List.set_cons_succ]
      refine lt_take 3 [4, 5, 6, 7, 8, 9, 10, 11, 12, 13] rfl (by kernel_rfl) (by kernel_rfl) (by kernel_rfl) (by kernel_rfl) (by kernel_rfl) (fun _ _ _ h => h) (yi_cell rfl rfl rfl (fun w hS => HCN.out w hS) (fun w => Tryd.isAgg3 w)) HS.out ?_
      simp only [Act.put, List.setIfInBounds_toArray, List.set_cons_zero, List.set_cons_succ]
      refine lt_pure 4 rfl (by kernel_rfl) (by kernel_rfl) (by kernel_rfl) (by kernel_rfl) (fun _ _ _ h => h) (v := ?_) (yi_run rfl (fun w => ?_)) (fun _ => HS.out) ?_
      rotate_left
      · first | (go_simp; done) | (go_simp; with_reducible rfl)
      simp only [Act.put, List.setIfInBounds_toArray, List.set_cons_zero, List.set_cons_succ]
      refine lt_pure 5 rfl (by kernel_rfl) (by kernel_rfl) (by kernel_rfl) (by kernel_rfl) (fun _ _ _ h => h) (v := ?_) (yi_run rfl (fun w => ?_)) (fun _ => HS.out) ?_
      rotate_left
      · first | (go_simp; done) | (go_simp; with_reducible rfl)
      simp only [Act.put, List.setIfInBounds_toArray, List.set_cons_zero, List.set_cons_succ]
      refine lt_pure 6 rfl (by kernel_rfl) (by kernel_rfl) (by kernel_rfl) (by kernel_rfl) (fun _ _ _ h => h) (v := ?_) (yi_run rfl (fun w => ?_)) (fun _ => HS.out) ?_
      rotate_left
      · first | (go_simp; done) | (go_simp; with_reducible rfl)
      simp only [Act.put, List.setIfInBounds_toArray, List.set_cons_zero, List.set_cons_succ]
      refine lt_pure 7 rfl (by kernel_rfl) (by kernel_rfl) (by kernel_rfl) (by kernel_rfl) (fun _ _ _ h => h) (v := ?_) (yi_run rfl (fun w => ?_)) (fun _ => HS.out) ?_
      rotate_left
      · first | (go_simp; done) | (go_simp; with_reducible rfl)
      simp only [Act.put, List.setIfInBounds_toArray, List.set_cons_zero, List.set_cons_succ]
      refine lt_pure 8 rfl (by kernel_rfl) (by kernel_rfl) (by kernel_rfl) (by kernel_rfl) (fun _ _ _ h => h) (v := ?_) (yi_run rfl (fun w => ?_)) (fun _ => HS.out) ?_
      rotate_left
      · first | (go_simp; done) | (go_simp; with_reducible rfl)
      simp only [Act.put, List.setIfInBounds_toArray, List.set_cons_zero, List.set_cons_succ]
      refine lt_take 9 [11, 12, 13] rfl (by kernel_rfl) (by kernel_rfl) (by kernel_rfl) (by kernel_rfl) (by kernel_rfl) (fun _ _ _ h => h) (yi_rowO rfl rfl rfl (fun w hS => last_range hS (i := 2) rfl) ent_row5) HS.out ?_
      simp only [Act.put, List.setIfInBounds_toArray, List.set_cons_zero, List.set_cons_succ]
      refine lt_take 10 [11, 12, 13] rfl (by kernel_rfl) (by kernel_rfl) (by kernel_rfl) (by kernel_rfl) (by kernel_rfl) (fun _ _ _ h => h) (yi_row rfl rfl rfl (fun w hS => OW.range hS (i := 1) rfl) ent_row5) HS.out ?_
      simp only [Act.put, List.setIfInBounds_toArray, List.set_cons_zero, List.set_cons_succ]
      refine lt_call 11 rfl (by kernel_rfl) rfl rfl ⟨_, Tryd.func61, by decide, by kernel_rfl⟩ [entV mm.A mm.e.row.length mm.ac mm.Q mm.e.qual.length mm.qc none 0 0 mm.e, entV A n c B m d D v q e] rfl ?_
      refine (compare_any mm.e e mm.A mm.e.row.length mm.ac mm.Q mm.e.qual.length mm.qc none 0 0 A n c B m d D v q _ ⟨HS.out.sl (i := 5) rfl rfl, HS.out.sl (i := 6) rfl rfl, by rw [HV.out]; exact Sl.none _⟩ (HEE.out (bytO 5 (Ak, ck, kb) :: boxO gb [.slice A n c, .int .i64 e.fam, .slice B m d, .int .i64 e.ts, .int .i64 e.seq, .int .i64 e.kind, .slice D v q] :: bldO R g s mm) _ HS.out)).mono ?_
      rw [← HCV.out]
      rintro r z9 ⟨rfl, hb⟩
      replace HS := Lib.hid (HS.out.later hb)
      clear hb
      refine ⟨_, rfl, fun _ => HS.out, ?_⟩
      simp only [Act.put, List.setIfInBounds_toArray, List.set_cons_zero, List.set_cons_succ]
      refine lt_pure 12 rfl (by kernel_rfl) (by kernel_rfl) (by kernel_rfl) (by kernel_rfl) (fun _ _ _ h => h) (v := ?_) (yi_run rfl (fun w => ?_)) (fun _ => HS.out) ?_
      rotate_left
      · first | (go_simp; done) | (go_simp; with_reducible rfl)
      simp only [Act.put, List.setIfInBounds_toArray, List.set_cons_zero, List.set_cons_succ]
      refine lt_pure 13 rfl (by kernel_rfl) (by kernel_rfl) (by kernel_rfl) (by kernel_rfl) (fun _ _ _ h => h) (v := ?_) (yi_run rfl (fun w => ?_)) (fun _ => HS.out) ?_
      rotate_left
      · first | (go_simp; done) | (go_simp; with_reducible rfl)
      simp only [Act.put, List.setIfInBounds_toArray, List.set_cons_zero, List.set_cons_succ]
      refine lt_done (by kernel_rfl) ?_
      have HS9 := HS
      clear HS
      have HXD := Lib.hid HS9.out
      go_wp2_with fail
      go_meet
      exact ⟨by rw [hbo], HXD⟩
  clear HX
  obtain ⟨rfl, HX⟩ := hcut
  obtain ⟨w4, rfl⟩ : ∃ z : World, z = wc := ⟨_, rfl⟩
  by_cases hlo : lastOk L e = false
  case pos =>
    have hb1 : bo = true := by rw [HBO.out, hlo]; rfl
    have HP : Hid (addC R L e = 30 ∧ addL R L e = L) := Lib.hid (by
      have h : addC R L e = 30 := by unfold addC; rw [if_neg (fun h => h HC.out), if_pos hlo]
      exact ⟨h, by unfold addL; rw [h, if_neg (by decide)]⟩)
    clear HBO hlo
    subst hb1
    go_wp2_with fail
    go_ret
    exact ⟨by rw [HP.out.1]; rfl, bldO R g s mm, by rw [HP.out.2]; exact ⟨HRR.out, by rw [← HS0.out]; exact HSZ.out, by rw [← HS0.out]; exact HKL.out, HALL.out, mm, by rw [← HS0.out], HLA.out⟩, HX.out.sub (((List.Sublist.refl _).cons _).cons _)⟩
  have hb1 : bo = false := by rw [HBO.out]; cases h : lastOk L e <;> simp_all
  have HLO := Lib.hid hlo
  clear HBO hlo
  subst hb1
  obtain ⟨al, hal⟩ : ∃ z, z = alikeB R s kb := ⟨_, rfl⟩
  obtain ⟨fb, hfb⟩ : ∃ b : Bool, b = decide (N % R = 0) := ⟨_, rfl⟩
  have HAL := Lib.hid hal
  have HFB := Lib.hid hfb
  clear hal hfb
  have hR1 := HRR.out.1
  have hR2 := HRR.out.2
  have r0 : ((R : Int) == 0) = false := beq_eq_false_iff_ne.2 (by omega)
  have r1 : ¬ R = 0 := by omega
  have HCR : Hid (∀ z, OW w (bytO 5 (Ak, ck, kb) :: boxO gb [.slice A n c, .int .i64 e.fam, .slice B m d, .int .i64 e.ts, .int .i64 e.seq, .int .i64 e.kind, .slice D v q] :: (bldO R g s mm ++ rest)) z → z.cell? ⟨g, 0, none⟩ = some (.int .i64 (R : Int))) := Lib.hid fun z hz => hz.cell (i := 2) (j := 0) rfl rfl
  have HNB : Hid (N ≤ 131072) := Lib.hid (by have h1 := n_le_size _ (runB_many R L); rw [← HS0.out] at h1; have := HSZ.out; have := HN.out; omega)
  have hnb := HNB.out
  go_upto_region 6 with fail
  go_cut [7] (fun f wx => f = .bool fb ∧ Hid (OW w (bytO 5 (Ak, ck, kb) :: boxO gb [.slice A n c, .int .i64 e.fam, .slice B m d, .int .i64 e.ts, .int .i64 e.seq, .int .i64 e.kind, .slice D v q] :: (bldO R g s mm ++ rest)) wx))
  case first =>
    have c1 := HCN.out _ HX.out
    have c2 := HCR.out _ HX.out
    by_cases hf : N % R = 0
    · have hb1 : fb = true := by rw [HFB.out]; exact decide_eq_true hf
      have e1 : ((N : Int).tmod (R : Int)) = 0 := by rw [← Int.ofNat_tmod, hf]; rfl
      have e2 : ((N : Int) % (R : Int)) = 0 := by rw [← Int.natCast_emod, hf]; rfl
      go_wp2_with fail
      go_quiet (fail)
      have HXD := Lib.hid (HX.out.later (below_drewN (n := nq) (Below.refl _ _)))
      clear c1 c2
      generalize w4.drewN nq = w5 at *
      go_wp2
      go_meet
      exact ⟨by rw [hb1], HXD⟩
    · have hb1 : fb = false := by rw [HFB.out]; exact decide_eq_false hf
      have e1 : ¬ ((N : Int).tmod (R : Int)) = 0 := by rw [← Int.ofNat_tmod]; omega
      have e3 : (((N : Int).tmod (R : Int)) == 0) = false := beq_eq_false_iff_ne.2 e1
      have e2 : ¬ ((N : Int) % (R : Int)) = 0 := by rw [← Int.natCast_emod]; omega
      have e4 : (((N : Int) % (R : Int)) == 0) = false := beq_eq_false_iff_ne.2 e2
      go_wp2_with fail
      go_quiet (fail)
      have HXD := Lib.hid (HX.out.later (below_drewN (n := nq) (Below.refl _ _)))
      clear c1 c2
      generalize w4.drewN nq = w5 at *
      go_wp2
      go_meet
      exact ⟨by rw [hb1], HXD⟩
  clear HX
  obtain ⟨rfl, HX⟩ := hcut
  obtain ⟨w5, rfl⟩ : ∃ z : World, z = wc := ⟨_, rfl⟩
  go_upto_if 44 with fail
  go_cut [8] (fun a wx => a = .int .i64 (al : Int) ∧ Hid (OW w (bytO 5 (Ak, ck, kb) :: boxO gb [.slice A n c, .int .i64 e.fam, .slice B m d, .int .i64 e.ts, .int .i64 e.seq, .int .i64 e.kind, .slice D v q] :: (bldO R g s mm ++ rest)) wx))
  case first =>
    by_cases hf : N % R = 0
    · have hb1 : fb = true := by rw [HFB.out]; exact decide_eq_true hf
      have ha : al = 0 := by rw [HAL.out]; unfold alikeB; rw [← HN.out, if_pos hf]
      clear HFB
      subst hb1
      go_wp2_with fail
      go_meet
      exact ⟨by rw [ha]; rfl, HX⟩
    · have hb1 : fb = false := by rw [HFB.out]; exact decide_eq_false hf
      have ha : al = shareN s.key kb := by rw [HAL.out]; unfold alikeB; rw [← HN.out, if_neg hf]
      clear HFB
      subst hb1
      go_wp2_with (first
        | (refine wpList_load_cell rfl 24 (.tmp 47) rfl rfl (HX.out.cell (i := 2) (j := 10) rfl rfl) (fun w => Tryd.isAgg24 w) ?_)
        | (go_at_call 62; go_must (refine (shared_any s.key kb mm.K Ak s.key.length mm.kc kn ck _ (by have := HKL.out; omega) (HX.out.sl (i := 7) rfl rfl).rb (HX.out.sl (i := 0) rfl HKN.out).rb).mono ?_); rintro r z5 ⟨rfl, hb⟩; replace HX := Lib.hid (HX.out.later hb); clear hb))
      go_meet
      exact ⟨by rw [ha], HX⟩
  clear HX
  obtain ⟨rfl, HX⟩ := hcut
  obtain ⟨w6, rfl⟩ : ∃ z : World, z = wc := ⟨_, rfl⟩
  have HALT : Hid (al < kn) := Lib.hid (by have h9 := alike_lt (R := R) HALL.out HC.out HLO.out; rw [HAL.out, HS0.out, ← HKN.out, HKB.out]; exact h9)
  have halt := HALT.out
  obtain ⟨gk, cpk, hv, _⟩ := own_form (HX.out.row (i := 0) rfl) (by show 0 < kb.length; have := HKN.out; omega)
  injection hv with hv _ hcp
  subst hv
  subst hcp
  obtain ⟨U, hU⟩ : ∃ z, z = uintB al := ⟨_, rfl⟩
  obtain ⟨un, hun⟩ : ∃ z, z = U.length := ⟨_, rfl⟩
  have hun2 : un ≤ 10 := by rw [hun, hU]; exact uintB_le10 (by omega)
  have HU := Lib.hid hU
  have HUN := Lib.hid hun.symm
  obtain ⟨kd, hkd⟩ : ∃ z, z = kb.drop al := ⟨_, rfl⟩
  have HKD := Lib.hid hkd
  have hkdl : kd.length = kn - al := by rw [hkd, List.length_drop, HKN.out]
  have HKDL := Lib.hid hkdl
  obtain ⟨V, hV⟩ : ∃ z, z = uintB kd.length ++ kd := ⟨_, rfl⟩
  obtain ⟨vn, hvn⟩ : ∃ z, z = V.length := ⟨_, rfl⟩
  have hvn2 : vn ≤ 1058 := by rw [hvn, hV, List.length_append]; have := uintB_le10 (n := kd.length) (by omega); omega
  have HV := Lib.hid hV
  have HVN := Lib.hid hvn.symm
  clear hU hun hkd hkdl hV hvn
  have HCK : Hid (kn ≤ ck) := Lib.hid (HX.out.sl (i := 0) rfl HKN.out).cap
  have HSD : Hid (∀ z, Sl z (some ⟨gk, 0, none⟩) kn ck kb → Sl z (some ⟨gk, al, none⟩) (kn - al) (ck - al) kd) := Lib.hid fun z h => by
    have h1 := h.drop (k := al) (by omega) (by have := HCK.out; omega)
    rw [← HKD.out, Option.map_some, show (⟨gk, 0, none⟩ : Addr).add al = ⟨gk, al, none⟩ from by simp [Addr.add]; omega] at h1
    exact h1
  have i1 : (0 : Int) ≤ (al : Int) := by omega
  have i2 : (al : Int) ≤ (kn : Int) := by omega
  have i3 : (kn : Int) ≤ (ck : Int) := by have := HCK.out; omega
  have tk : True := trivial
  go_wp2_with (first
    | (go_at_call 63; go_must (refine (uint_any al _ (by omega)).mono ?_); rw [← HU.out]; rintro r z7 hp; obtain ⟨A1, c1, rfl, _, ho, hb⟩ := hp.at_ (n := un) HUN.out; replace HX := Lib.hid (HX.out.addF9 (OW.byt1 hb ho)); clear hp ho hb)
    | (go_at_call 64; have _t := tk; go_must (refine (bytes_any kd _ (kn - al) _ _ (by omega) (HSD.out _ (HX.out.sl (i := 1) rfl HKN.out)).rb).mono ?_); rw [← HV.out]; rintro r z8 hp; obtain ⟨A2, c2, rfl, _, ho, hb⟩ := hp.at_ (n := vn) HVN.out; replace HX := Lib.hid (HX.out.addF9 (OW.byt1 hb ho)); clear hp ho hb tk)
    | (at_builtin; go_must (refine wl_append rfl (.tmp 54) (.tmp 58) rfl Tryd.u8s' HX.out 1 (v := .slice A1 un c1) (n := un) (cs := u8s U) (by show some (bytO _ (A1, c1, U)) = _; unfold bytO; rw [HUN.out]; rfl) rfl _ _ vn _ (u8s V) rfl (HX.out.sl (i := 0) rfl HVN.out).rb (u8s_one V) (by unfold maxLen; omega) (by omega) ?_); intro A3 c3 z9 hz _; replace HX := Lib.hid hz; clear hz)
    | (refine wpList_load_cell rfl 24 (.tmp 61) rfl rfl (HX.out.cell (i := 3) (j := 6) rfl rfl) (fun w => Tryd.isAgg24 w) ?_))
  have HVL : Hid (e.val.length = v) := Lib.hid (HEE.out ([_, _, _, _] ++ bldO R g s mm) _ HX.out).val.len
  have hv1 : v ≤ 131072 := by have := HOK.out.val.1; have := HVL.out; omega
  obtain ⟨W, hW⟩ : ∃ z, z = uintB e.val.length ++ e.val := ⟨_, rfl⟩
  obtain ⟨wn, hwn⟩ : ∃ z, z = W.length := ⟨_, rfl⟩
  have hwn2 : wn ≤ v + 10 := by rw [hwn, hW, List.length_append]; have := uintB_le10 (n := e.val.length) (by have := HVL.out; omega); have := HVL.out; omega
  have HW := Lib.hid hW
  have HWN := Lib.hid hwn.symm
  clear hW hwn
  obtain ⟨P, pc, hpv, _⟩ := own_slice (HX.out.row (i := 6) rfl)
  obtain ⟨pl, hpl⟩ : ∃ z, z = s.places.length := ⟨_, rfl⟩
  rw [← hpl] at hpv
  have HPV : Hid (∀ o : Option Value, o = some mm.pv → o = some (.slice P pl pc)) := Lib.hid fun o h => by rw [h, hpv]
  have HPL := Lib.hid hpl
  have HPE := Lib.hid hpv
  have hplb : pl ≤ 131072 := by have := HSZ.out; unfold sizeS at this; omega
  clear hpv hpl
  go_upto_if 70 with (first
    | (go_at_call 64; go_must (refine (bytes_any e.val D v q _ (by omega) (HEE.out ([_, _, _, _] ++ bldO R g s mm) _ HX.out).val.rb).mono ?_); rw [← HW.out]; rintro r z10 hp; obtain ⟨A4, c4, rfl, _, ho, hb⟩ := hp.at_ (n := wn) HWN.out; replace HX := Lib.hid (HX.out.addF9 (OW.byt1 hb ho)); clear hp ho hb)
    | (at_builtin; go_must (refine wl_append rfl (.tmp 60) (.tmp 63) rfl Tryd.u8s' HX.out 2 rfl rfl _ _ wn _ (u8s W) rfl (HX.out.sl (i := 0) rfl HWN.out).rb (u8s_one W) (by unfold maxLen; omega) (by omega) ?_); intro A5 c5 z11 hz _; replace HX := Lib.hid hz; clear hz)
    | (refine wpList_load_cell rfl 101 (.tmp 67) rfl rfl (HPV.out _ (HX.out.cell (i := 5) (j := 2) rfl rfl)) (fun w => Tryd.isAgg101 w) ?_))
  obtain ⟨w7, rfl⟩ : ∃ z : World, z = z11 := ⟨_, rfl⟩
  obtain ⟨pn, hpn⟩ : ∃ z, z = (placesB R s).length := ⟨_, rfl⟩
  have HPN := Lib.hid hpn
  clear hpn
  go_cut [10] (fun p wx => w7 = wx ∧ p = .int .i64 (pn : Int))
  case first =>
    by_cases hf : N % R = 0
    · have hb1 : fb = true := by rw [HFB.out]; exact decide_eq_true hf
      have ha : pn = pl + 1 := by rw [HPN.out, HPL.out]; unfold placesB; rw [← HN.out, if_pos hf, List.length_append]; rfl
      clear HFB
      subst hb1
      go_wp2_with fail
      go_meet
      exact ⟨rfl, by rw [ha]; rfl⟩
    · have hb1 : fb = false := by rw [HFB.out]; exact decide_eq_false hf
      have ha : pn = pl := by rw [HPN.out, HPL.out]; unfold placesB; rw [← HN.out, if_neg hf]
      clear HFB
      subst hb1
      go_wp2_with fail
      go_meet
      exact ⟨rfl, by rw [ha]⟩
  obtain ⟨rfl, rfl⟩ := hcut
  obtain ⟨rn, hrn⟩ : ∃ z, z = un + vn + wn := ⟨_, rfl⟩
  rw [← hrn] at HX ⊢
  obtain ⟨RW, hRW⟩ : ∃ z, z = U ++ V ++ W := ⟨_, rfl⟩
  have HRW : Hid (RW = rowK al kb e.val) := Lib.hid (by rw [hRW, HU.out, HV.out, HW.out, HKD.out]; rfl)
  have HRN : Hid (RW.length = rn) := Lib.hid (by rw [hRW, hrn, List.length_append, List.length_append, HUN.out, HVN.out, HWN.out])
  obtain ⟨bl, hbl⟩ : ∃ z, z = s.body.length := ⟨_, rfl⟩
  have HBL := Lib.hid hbl
  have hblb : bl ≤ 131072 := by have := HSZ.out; unfold sizeS at this; omega
  have hrnb : rn ≤ 140000 := by omega
  have hpnb : pn ≤ 131073 := by
    have := HSZ.out
    unfold sizeS at this
    rw [HPN.out]; unfold placesB
    split
    · rw [List.length_append]; simp; omega
    · omega
  have HSS : Hid (sizeS (stepB R s kb e.val) = bl + rn + 4 * pn + 9) := Lib.hid (by
    have h1 : (stepB R s kb e.val).body = s.body ++ rowK (alikeB R s kb) kb e.val := rfl
    have h2 : (stepB R s kb e.val).places = placesB R s := rfl
    unfold sizeS
    rw [h1, h2, List.length_append, ← HAL.out, ← HRW.out, HRN.out, ← HPN.out, ← hbl])
  have HX8 : Hid (OW w (bytO 5 (A4, c4, W) :: bytO 5 (A2, c2, V) :: bytO 5 (A5, c5, RW) :: bytO 5 (some ⟨gk, 0, none⟩, ck, kb) :: boxO gb [.slice A n c, .int .i64 e.fam, .slice B m d, .int .i64 e.ts, .int .i64 e.seq, .int .i64 e.kind, .slice D v q] :: boxO g (bldC R (.slice mm.B bl mm.bc) (.slice P pl pc) mm.A mm.e.row.length mm.ac mm.Q mm.e.qual.length mm.qc mm.e (.slice mm.K s.key.length mm.kc) N) :: bytO 5 (mm.B, mm.bc, s.body) :: rowO 3 1 (.slice P pl pc) pl (s.places.map i64v) :: bytO 5 (mm.A, mm.ac, mm.e.row) :: bytO 5 (mm.Q, mm.qc, mm.e.qual) :: bytO 5 (mm.K, mm.kc, s.key) :: rest) w7) := Lib.hid (by
    have h := HX.out
    have e1 : rowO 5 1 (.slice A5 rn c5) rn (u8s U ++ u8s V ++ u8s W) = bytO 5 (A5, c5, RW) := by
      unfold bytO rowO
      rw [HRN.out, hRW]
      simp [u8s]
    rw [e1] at h
    simp only [bldO] at h
    rw [← HPE.out, hbl, HN.out, HPL.out]
    exact h)
  clear HX hbl hRW hrn
  by_cases hbig : 131072 < bl + rn + 4 * pn + 9
  case pos =>
    have HP : Hid (addC R L e = 53 ∧ addL R L e = L) := Lib.hid (by
      have h : addC R L e = 53 := by unfold addC; rw [if_neg (fun h => h HC.out), if_neg HLO.out, if_pos (by rw [← HS0.out, ← HKB.out, HSS.out]; exact hbig)]
      exact ⟨h, by unfold addL; rw [h, if_neg (by decide)]⟩)
    have h1 : (131072 : Int) < (bl : Int) + (rn : Int) + 4 * (pn : Int) + 9 := by omega
    clear hbig
    go_wp2_with (refine wpList_load_cell rfl 24 (.tmp 75) rfl rfl (HX8.out.cell (i := 5) (j := 1) rfl rfl) (fun w => Tryd.isAgg24 w) ?_)
    go_ret
    refine ⟨by rw [HP.out.1]; rfl, bldO R g s mm, by rw [HP.out.2]; exact ⟨HRR.out, by rw [← HS0.out]; exact HSZ.out, by rw [← HS0.out]; exact HKL.out, HALL.out, mm, by rw [← HS0.out], HLA.out⟩, ?_⟩
    have h := HX8.out.sub ((((((List.Sublist.refl _).cons _).cons _).cons _).cons _).cons _)
    simp only [bldO]
    rw [← HPE.out, HBL.out, HN.out, HPL.out] at h
    exact h
  have HBG := Lib.hid hbig
  have h1 : ¬ (131072 : Int) < (bl : Int) + (rn : Int) + 4 * (pn : Int) + 9 := by omega
  clear hbig
  go_upto_if 86 with (refine wpList_load_cell rfl 24 (.tmp 75) rfl rfl (HX8.out.cell (i := 5) (j := 1) rfl rfl) (fun w => Tryd.isAgg24 w) ?_)
  go_cut [10] (fun p wx => p = .int .i64 (pn : Int) ∧ Hid (∃ pv, OW w (bytO 5 (A4, c4, W) :: bytO 5 (A2, c2, V) :: bytO 5 (A5, c5, RW) :: bytO 5 (some ⟨gk, 0, none⟩, ck, kb) :: boxO gb [.slice A n c, .int .i64 e.fam, .slice B m d, .int .i64 e.ts, .int .i64 e.seq, .int .i64 e.kind, .slice D v q] :: boxO g (bldC R (.slice mm.B bl mm.bc) (pv) mm.A mm.e.row.length mm.ac mm.Q mm.e.qual.length mm.qc mm.e (.slice mm.K s.key.length mm.kc) N) :: bytO 5 (mm.B, mm.bc, s.body) :: rowO 3 1 (pv) pn ((placesB R s).map i64v) :: bytO 5 (mm.A, mm.ac, mm.e.row) :: bytO 5 (mm.Q, mm.qc, mm.e.qual) :: bytO 5 (mm.K, mm.kc, s.key) :: rest) wx))
  case first =>
    by_cases hf : N % R = 0
    · have hb1 : fb = true := by rw [HFB.out]; exact decide_eq_true hf
      have HPB : Hid (placesB R s = s.places ++ [bl]) := Lib.hid (by unfold placesB; rw [← HN.out, if_pos hf, ← HBL.out])
      have HPN1 : Hid (pn = pl + 1) := Lib.hid (by rw [HPN.out, HPB.out, List.length_append, ← HPL.out]; rfl)
      clear HFB
      subst hb1
      go_wp2_with fail
      refine lt_start [11, 14] (by kernel_rfl) ?_
      intro xd hd
      refine ⟨fun z => OW w (bytO 5 (A4, c4, W) :: bytO 5 (A2, c2, V) :: bytO 5 (A5, c5, RW) :: bytO 5 (some ⟨gk, 0, none⟩, ck, kb) :: boxO gb [.slice A n c, .int .i64 e.fam, .slice B m d, .int .i64 e.ts, .int .i64 e.seq, .int .i64 e.kind, .slice D v q] :: boxO g (bldC R (.slice mm.B bl mm.bc) (.slice P pl pc) mm.A mm.e.row.length mm.ac mm.Q mm.e.qual.length mm.qc mm.e (.slice mm.K s.key.length mm.kc) N) :: bytO 5 (mm.B, mm.bc, s.body) :: rowO 3 1 (.slice P pl pc) pl (s.places.map i64v) :: bytO 5 (mm.A, mm.ac, mm.e.row) :: bytO 5 (mm.Q, mm.qc, mm.e.qual) :: bytO 5 (mm.K, mm.kc, s.key) :: rest) z, ?_⟩
      have HS := Lib.hid (HX8.out.later hd)
      refine lt_pure 0 rfl (by kernel_rfl) (by kernel_rfl) (by kernel_rfl) (by kernel_rfl) (fun _ _ _ h => h) (v := ?_) (yi_run rfl (fun w => ?_)) (fun _ => HS.out) ?_
      rotate_left
      · first | (go_simp; done) | (go_simp; with_reducible rfl)
      simp only [Act.put, List.setIfInBounds_toArray, List.set_cons_zero, List.set_cons_succ]
      refine lt_pure 1 rfl (by kernel_rfl) (by kernel_rfl) (by kernel_rfl) (by kernel_rfl) (fun _ _ _ h => h) (v := ?_) (yi_run rfl (fun w => ?_)) (fun _ => HS.out) ?_
      rotate_left
      · first | (go_simp; done) | (go_simp; with_reducible rfl)
      simp only [Act.put, List.setIfInBounds_toArray, List.set_cons_zero, List.set_cons_succ]
      refine lt_pure 2 rfl (by kernel_rfl) (by kernel_rfl) (by kernel_rfl) (by kernel_rfl) (fun _ _ _ h => h) (v := ?_) (yi_run rfl (fun w => ?_)) (fun _ => HS.out) ?_
      rotate_left
      · first | (go_simp; done) | (go_simp; with_reducible rfl)
      simp only [Act.put, List.setIfInBounds_toArray, List.set_cons_zero, List.set_cons_succ]
      refine lt_pure 3 rfl (by kernel_rfl) (by kernel_rfl) (by kernel_rfl) (by kernel_rfl) (fun _ _ _ h => h) (v := ?_) (yi_run rfl (fun w => ?_)) (fun _ => HS.out) ?_
      rotate_left
      · first | (go_simp; done) | (go_simp; with_reducible rfl)
      simp only [Act.put, List.setIfInBounds_toArray, List.set_cons_zero, List.set_cons_succ]
      refine lt_take 4 [11, 12, 13, 14] rfl (by kernel_rfl) (by kernel_rfl) (by kernel_rfl) (by kernel_rfl) (by kernel_rfl) (fun _ _ _ h => h) (yi_cell rfl rfl rfl (fun w hS => OW.cell hS (i := 5) (j := 2) rfl rfl) (fun w => Tryd.isAgg101 w)) HS.out ?_
      simp only [Act.put, List.setIfInBounds_toArray, List.set_cons_zero, List.set_cons_succ]
      refine lt_pure 5 rfl (by kernel_rfl) (by kernel_rfl) (by kernel_rfl) (by kernel_rfl) (fun _ _ _ h => h) (v := ?_) (yi_run rfl (fun w => ?_)) (fun _ => HS.out) ?_
      rotate_left
      · first | (go_simp; done) | (go_simp; with_reducible rfl)
      simp only [Act.put, List.setIfInBounds_toArray, List.set_cons_zero, List.set_cons_succ]
      refine lt_pure 6 rfl (by kernel_rfl) (by kernel_rfl) (by kernel_rfl) (by kernel_rfl) (fun _ _ _ h => h) (v := ?_) (yi_run rfl (fun w => ?_)) (fun _ => HS.out) ?_
      rotate_left
      · first | (go_simp; done) | (go_simp; with_reducible rfl)
      simp only [Act.put, List.setIfInBounds_toArray, List.set_cons_zero, List.set_cons_succ]
      refine lt_pure 7 rfl (by kernel_rfl) (by kernel_rfl) (by kernel_rfl) (by kernel_rfl) (fun _ _ _ h => h) (v := ?_) (yi_run rfl (fun w => ?_)) (fun _ => HS.out) ?_
      rotate_left
      · first | (go_simp; done) | (go_simp; with_reducible rfl)
      simp only [Act.put, List.setIfInBounds_toArray, List.set_cons_zero, List.set_cons_succ]
      refine lt_take 8 [9, 10, 11, 12, 13, 14] rfl (by kernel_rfl) (by kernel_rfl) (by kernel_rfl) (by kernel_rfl) (by kernel_rfl) (fun _ _ _ h => h) (yi_cell rfl rfl rfl (fun w hS => OW.cell hS (i := 5) (j := 1) rfl rfl) (fun w => Tryd.isAgg24 w)) HS.out ?_
      simp only [Act.put, List.setIfInBounds_toArray, List.set_cons_zero, List.set_cons_succ]
      refine lt_pure 9 rfl (by kernel_rfl) (by kernel_rfl) (by kernel_rfl) (by kernel_rfl) (fun _ _ _ h => h) (v := ?_) (yi_run rfl (fun w => ?_)) (fun _ => HS.out) ?_
      rotate_left
      · first | (go_simp; done) | (go_simp; with_reducible rfl)
      simp only [Act.put, List.setIfInBounds_toArray, List.set_cons_zero, List.set_cons_succ]
      refine lt_op 10 rfl (by kernel_rfl) rfl ?_
      refine wpo_build rfl #[.int .i64 (bl : Int)] Tryd.intS5 (.int .i64 0) (by kernel_rfl) (by decide) (by decide) (by decide) rfl (by kernel_rfl) HS.out ?_
      intro g4 x4 hz hb
      have HR : Hid (Reads x4 x4.heap.size 1 (some ⟨g4, 0, none⟩) 1 [.int .i64 (bl : Int)]) := Lib.hid (Reads.own (OW.row (OW.right hz) (i := 0) rfl))
      replace HS := Lib.hid (HS.out.later hb)
      clear hz hb
      refine ⟨fun _ => HS.out, ?_⟩
      simp only [Act.put, List.setIfInBounds_toArray, List.set_cons_zero, List.set_cons_succ]
      refine lt_end 11 rfl (by kernel_rfl) rfl (by kernel_rfl) ?_
      refine wpo_append (.tmp 91) (.tmp 97) rfl Tryd.intS5 HS.out 7 rfl rfl _ (some ⟨g4, 0, none⟩) 1 1 [.int .i64 (bl : Int)] rfl HR.out (by simp [Value.oneCell']) (by unfold maxLen; omega) (by omega) ?_
      intro A7 c7 x5 hz _
      have HY := Lib.hid hz
      clear hz HR
      simp only [Act.put, List.setIfInBounds_toArray, List.set_cons_zero, List.set_cons_succ]
      refine lt_pureF 12 rfl (by kernel_rfl) (by kernel_rfl) (by kernel_rfl) (by kernel_rfl) (by kernel_rfl) (fun _ _ _ h => h) (v := ?_) (yi_run rfl (fun w => ?_)) ?_
      rotate_left
      · first | (go_simp; done) | (go_simp; with_reducible rfl)
      simp only [Act.put, List.setIfInBounds_toArray, List.set_cons_zero, List.set_cons_succ]
      refine lt_pureF 13 rfl (by kernel_rfl) (by kernel_rfl) (by kernel_rfl) (by kernel_rfl) (by kernel_rfl) (fun _ _ _ h => h) (v := ?_) (yi_run rfl (fun w => ?_)) ?_
      rotate_left
      · first | (go_simp; done) | (go_simp; with_reducible rfl)
      simp only [Act.put, List.setIfInBounds_toArray, List.set_cons_zero, List.set_cons_succ]
      refine lt_end 14 rfl (by kernel_rfl) rfl (by kernel_rfl) ?_
      refine wpo_put1 rfl HY.out 5 rfl 2 rfl (by show 2 < 12; decide) _ rfl (by kernel_rfl) rfl ?_
      intro x6 hz _
      replace HY := Lib.hid hz
      clear hz
      simp only [Act.put]
      refine lt_done (by kernel_rfl) ?_
      clear HS
      go_wp2_with fail
      go_meet
      refine ⟨rfl, Lib.hid ⟨.slice A7 (pl + 1) c7, ?_⟩⟩
      rw [HPB.out, HPN1.out, List.map_append]
      exact HY.out
    · have hb1 : fb = false := by rw [HFB.out]; exact decide_eq_false hf
      have HPB : Hid (placesB R s = s.places) := Lib.hid (by unfold placesB; rw [← HN.out, if_neg hf])
      have HPN1 : Hid (pn = pl) := Lib.hid (by rw [HPN.out, HPB.out, ← HPL.out])
      clear HFB
      subst hb1
      go_wp2_with fail
      go_meet
      refine ⟨rfl, Lib.hid ⟨.slice P pl pc, ?_⟩⟩
      rw [HPB.out, HPN1.out]
      exact HX8.out
  clear HX8
  obtain ⟨rfl, hcut⟩ := hcut
  obtain ⟨pv, hx9⟩ := hcut.out
  have HX := Lib.hid hx9
  clear hx9 hcut
  obtain ⟨w8, rfl⟩ : ∃ z : World, z = wc := ⟨_, rfl⟩
  go_wp2_with (first
    | (refine wpList_load_cell rfl 24 (.tmp 104) rfl rfl (HX.out.cell (i := 5) (j := 1) rfl rfl) (fun w => Tryd.isAgg24 w) ?_)
    | (at_builtin; go_must (refine wl_append rfl (.tmp 105) (.tmp 106) rfl Tryd.u8s' HX.out 6 (v := .slice mm.B bl mm.bc) (n := bl) (cs := u8s s.body) (by show some (bytO _ (mm.B, mm.bc, s.body)) = _; unfold bytO; rw [HBL.out]; rfl) rfl _ _ rn _ (u8s RW) rfl (HX.out.sl (i := 2) rfl HRN.out).rb (u8s_one RW) (by unfold maxLen; omega) (by omega) ?_); intro A8 c8 z9 hz _; replace HX := Lib.hid hz; clear hz)
    | (refine wl_put1 rfl (.tmp 109) (.tmp 107) rfl HX.out 5 rfl 1 rfl (by show 1 < 12; decide) _ rfl (by kernel_rfl) rfl ?_; intro z10 hz _; replace HX := Lib.hid hz; clear hz))
  obtain ⟨BN, hBN⟩ : ∃ z, z = s.body ++ RW := ⟨_, rfl⟩
  have HBN := Lib.hid hBN
  have HX9 : Hid (OW w (bytO 5 (A4, c4, W) :: bytO 5 (A2, c2, V) :: bytO 5 (A5, c5, RW) :: bytO 5 (some ⟨gk, 0, none⟩, ck, kb) :: boxO gb [.slice A n c, .int .i64 e.fam, .slice B m d, .int .i64 e.ts, .int .i64 e.seq, .int .i64 e.kind, .slice D v q] :: boxO g (bldC R (.slice A8 BN.length c8) (pv) mm.A mm.e.row.length mm.ac mm.Q mm.e.qual.length mm.qc mm.e (.slice mm.K s.key.length mm.kc) N) :: bytO 5 (A8, c8, BN) :: rowO 3 1 pv pn ((placesB R s).map i64v) :: bytO 5 (mm.A, mm.ac, mm.e.row) :: bytO 5 (mm.Q, mm.qc, mm.e.qual) :: bytO 5 (mm.K, mm.kc, s.key) :: rest) z10) := Lib.hid (by
    have h := HX.out
    have e1 : rowO 5 1 (.slice A8 (bl + rn) c8) (bl + rn) (u8s s.body ++ u8s RW) = bytO 5 (A8, c8, BN) := by
      unfold bytO rowO
      rw [hBN, List.length_append, HRN.out, ← HBL.out]
      simp [u8s]
    have e2 : bl + rn = BN.length := by rw [hBN, List.length_append, HRN.out, ← HBL.out]
    rw [← e1, ← e2]
    exact h)
  clear HX hBN
  have HQL : Hid (e.qual.length = m) := Lib.hid (HEE.out (_ :: _ :: _ :: _ :: _ :: _ :: _ :: _ :: _ :: _ :: _ :: []) _ HX9.out).qual.len
  have HRL : Hid (e.row.length = n) := Lib.hid (HEE.out (_ :: _ :: _ :: _ :: _ :: _ :: _ :: _ :: _ :: _ :: _ :: []) _ HX9.out).row.len
  have hn1 : n ≤ 256 := by have := HOK.out.row.2; have := HRL.out; omega
  have hm1 : m ≤ 256 := by have := HOK.out.qual.1; have := HQL.out; omega
  refine lt_start [7, 9, 11] (by kernel_rfl) ?_
  intro xd hd
  have HY := Lib.hid (HX9.out.later hd)
  clear HX9 hd
  refine ⟨fun z => Below xd.heap.size xd z, ?_⟩
  have HS := Lib.hid (Below.refl xd.heap.size xd)
  refine lt_pure 0 rfl (by kernel_rfl) (by kernel_rfl) (by kernel_rfl) (by kernel_rfl) (fun _ _ _ h => h) (v := ?_) (yi_run rfl (fun w => ?_)) (fun _ => HS.out) ?_
  rotate_left
  · first | (go_simp; done) | (go_simp; with_reducible rfl)
  simp only [Act.put, List.setIfInBounds_toArray, List.set_cons_zero, List.set_cons_succ]
  refine lt_take 1 [2, 5, 6, 7, 8, 9, 10, 11] rfl (by kernel_rfl) (by kernel_rfl) (by kernel_rfl) (by kernel_rfl) (by kernel_rfl) (fun _ _ _ h => h) (yi_cell rfl rfl rfl (fun w hS => OW.cell (HY.out.later hS) (i := 4) (j := 0) rfl rfl) (fun w => Tryd.isAgg24 w)) HS.out ?_
  simp only [Act.put, List.setIfInBounds_toArray, List.set_cons_zero, List.set_cons_succ]
  refine lt_pure 3 rfl (by kernel_rfl) (by kernel_rfl) (by kernel_rfl) (by kernel_rfl) (fun _ _ _ h => h) (v := ?_) (yi_run rfl (fun w => ?_)) (fun _ => HS.out) ?_
  rotate_left
  · first | (go_simp; done) | (go_simp; with_reducible rfl)
  simp only [Act.put, List.setIfInBounds_toArray, List.set_cons_zero, List.set_cons_succ]
  refine lt_take 4 [5, 6, 7, 8, 9, 10, 11] rfl (by kernel_rfl) (by kernel_rfl) (by kernel_rfl) (by kernel_rfl) (by kernel_rfl) (fun _ _ _ h => h) (yi_cell rfl rfl rfl (fun w hS => OW.cell (HY.out.later hS) (i := 4) (j := 2) rfl rfl) (fun w => Tryd.isAgg24 w)) HS.out ?_
  simp only [Act.put, List.setIfInBounds_toArray, List.set_cons_zero, List.set_cons_succ]
  refine lt_call 2 rfl (by kernel_rfl) rfl rfl ⟨_, Tryd.func65, by decide, by kernel_rfl⟩ [.slice A n c] rfl ?_
  refine (sclone_any e.row A n c _ (by omega) (HEE.out (_ :: _ :: _ :: _ :: _ :: _ :: _ :: _ :: _ :: _ :: _ :: []) _ HY.out).row.nil (HEE.out (_ :: _ :: _ :: _ :: _ :: _ :: _ :: _ :: _ :: _ :: _ :: []) _ HY.out).row.rb).mono ?_
  rintro r y1 hp
  obtain ⟨A9, c9, rfl, _, ho, hb⟩ := hp.at_ HRL.out
  replace HS := Lib.hid (HS.out.trans (hb.mono HS.out.size))
  replace HY := Lib.hid (HY.out.addF9 (OW.byt1 hb ho))
  clear hp ho hb
  refine ⟨_, rfl, fun _ => HS.out, ?_⟩
  simp only [Act.put, List.setIfInBounds_toArray, List.set_cons_zero, List.set_cons_succ]
  refine lt_pure 6 rfl (by kernel_rfl) (by kernel_rfl) (by kernel_rfl) (by kernel_rfl) (fun _ _ _ h => h) (v := ?_) (yi_run rfl (fun w => ?_)) (fun _ => HS.out) ?_
  rotate_left
  · first | (go_simp; done) | (go_simp; with_reducible rfl)
  simp only [Act.put, List.setIfInBounds_toArray, List.set_cons_zero, List.set_cons_succ]
  refine lt_call 5 rfl (by kernel_rfl) rfl rfl ⟨_, Tryd.func65, by decide, by kernel_rfl⟩ [.slice B m d] rfl ?_
  refine (sclone_any e.qual B m d _ (by omega) (HEE.out (_ :: _ :: _ :: _ :: _ :: _ :: _ :: _ :: _ :: _ :: _ :: _ :: []) _ HY.out).qual.nil (HEE.out (_ :: _ :: _ :: _ :: _ :: _ :: _ :: _ :: _ :: _ :: _ :: _ :: []) _ HY.out).qual.rb).mono ?_
  rintro r y2 hp
  obtain ⟨A10, c10, rfl, _, ho, hb⟩ := hp.at_ HQL.out
  replace HS := Lib.hid (HS.out.trans (hb.mono HS.out.size))
  replace HY := Lib.hid (HY.out.addF9 (OW.byt1 hb ho))
  clear hp ho hb
  refine ⟨_, rfl, fun _ => HS.out, ?_⟩
  simp only [Act.put, List.setIfInBounds_toArray, List.set_cons_zero, List.set_cons_succ]
  refine lt_end 7 rfl (by kernel_rfl) rfl (by kernel_rfl) ?_
  refine wpo_put1 rfl HY.out 6 rfl 0 rfl (by show 0 < 7; decide) _ rfl (by kernel_rfl) rfl ?_
  intro x7 hz _
  replace HY := Lib.hid hz
  clear hz
  simp only [Act.put]
  refine lt_pureF 8 rfl (by kernel_rfl) (by kernel_rfl) (by kernel_rfl) (by kernel_rfl) (by kernel_rfl) (fun _ _ _ h => h) (v := ?_) (yi_run rfl (fun w => ?_)) ?_
  rotate_left
  · first | (go_simp; done) | (go_simp; with_reducible rfl)
  simp only [Act.put, List.setIfInBounds_toArray, List.set_cons_zero, List.set_cons_succ]
  refine lt_end 9 rfl (by kernel_rfl) rfl (by kernel_rfl) ?_
  refine wpo_put1 rfl HY.out 6 rfl 2 rfl (by show 2 < 7; decide) _ rfl (by kernel_rfl) rfl ?_
  intro x8 hz _
  replace HY := Lib.hid hz
  clear hz
  simp only [Act.put]
  refine lt_pureF 10 rfl (by kernel_rfl) (by kernel_rfl) (by kernel_rfl) (by kernel_rfl) (by kernel_rfl) (fun _ _ _ h => h) (v := ?_) (yi_run rfl (fun w => ?_)) ?_
  rotate_left
  · first | (go_simp; done) | (go_simp; with_reducible rfl)
  simp only [Act.put, List.setIfInBounds_toArray, List.set_cons_zero, List.set_cons_succ]
  refine lt_end 11 rfl (by kernel_rfl) rfl (by kernel_rfl) ?_
  refine wpo_put1 rfl HY.out 6 rfl 6 rfl (by show 6 < 7; decide) _ rfl (by kernel_rfl) rfl ?_
  intro x9 hz _
  replace HY := Lib.hid hz
  clear hz
  simp only [Act.put]
  refine lt_done (by kernel_rfl) ?_
  clear HS
  have HY : Hid (OW w (bytO 5 (A10, c10, e.qual) :: bytO 5 (A9, c9, e.row) :: bytO 5 (A4, c4, W) :: bytO 5 (A2, c2, V) :: bytO 5 (A5, c5, RW) :: bytO 5 (some ⟨gk, 0, none⟩, ck, kb) :: boxO gb [.slice A9 n c9, .int .i64 e.fam, .slice A10 m c10, .int .i64 e.ts, .int .i64 e.seq, .int .i64 e.kind, .slice none 0 0] :: boxO g (bldC R (.slice A8 BN.length c8) (pv) mm.A mm.e.row.length mm.ac mm.Q mm.e.qual.length mm.qc mm.e (.slice mm.K s.key.length mm.kc) N) :: bytO 5 (A8, c8, BN) :: rowO 3 1 pv pn ((placesB R s).map i64v) :: bytO 5 (mm.A, mm.ac, mm.e.row) :: bytO 5 (mm.Q, mm.qc, mm.e.qual) :: bytO 5 (mm.K, mm.kc, s.key) :: rest) x9) := Lib.hid HY.out
  have hnn : (0 : Int) ≤ (N : Int) := by omega
  go_wp2_with (first
    | (refine wpList_load_row7 rfl 37 (.tmp 3) rfl rfl (HY.out.range (i := 6) rfl) ent_row5 ?_)
    | (refine wl_putAt rfl (.tmp 124) (.tmp 121) rfl HY.out 7 rfl rfl [.slice A9 n c9, .int .i64 e.fam, .slice A10 m c10, .int .i64 e.ts, .int .i64 e.seq, .int .i64 e.kind, .slice none 0 0] rfl (by show 3 + 7 ≤ 12; decide) (by kernel_rfl) (by simp [Value.oneCell']) ?_; intro z11 hz _; replace HY := Lib.hid hz; clear hz)
    | (refine wl_put1 rfl (.tmp 126) (.tmp 122) rfl HY.out 7 rfl 10 rfl (by show 10 < 12; decide) (.slice (some ⟨gk, 0, none⟩) kn ck) rfl (by kernel_rfl) rfl ?_; intro z12 hz _; replace HY := Lib.hid hz; clear hz)
    | (refine wpList_load_cell rfl 3 (.tmp 129) rfl rfl (show _ = some (Value.int .i64 (N : Int)) from HY.out.cell (i := 7) (j := 11) rfl rfl) (fun w => Tryd.isAgg3 w) ?_)
    | (refine wl_put1 rfl (.tmp 133) (.tmp 131) rfl HY.out 7 rfl 11 rfl (by show 11 < 12; decide) (.int .i64 ((N : Int) + 1)) rfl (by kernel_rfl) rfl ?_; intro z13 hz _; replace HY := Lib.hid hz; clear hz))
  go_ret
  have HP : Hid (addC R L e = 0 ∧ addL R L e = L ++ [e]) := Lib.hid (by
    have h : addC R L e = 0 := by unfold addC; rw [if_neg (fun h => h HC.out), if_neg HLO.out, if_neg (by rw [← HS0.out, ← HKB.out, HSS.out]; exact HBG.out)]
    exact ⟨h, by unfold addL; rw [h, if_pos rfl]⟩)
  have HRB : Hid (runB R (L ++ [e]) = stepB R s kb e.val) := Lib.hid (by rw [runB_snoc, ← HS0.out, ← HKB.out])
  refine ⟨by rw [HP.out.1]; rfl, bldO R g (stepB R s kb e.val) ⟨A8, c8, pv, A9, c9, A10, c10, some ⟨gk, 0, none⟩, ck, { e with val := [] }⟩, ?_, ?_⟩
  · rw [HP.out.2]
    refine ⟨HRR.out, ?_, ?_, ?_, ⟨A8, c8, pv, A9, c9, A10, c10, some ⟨gk, 0, none⟩, ck, { e with val := [] }⟩, ?_, ?_⟩
    · rw [HRB.out, HSS.out]; have := HBG.out; omega
    · rw [HRB.out]; show kb.length ≤ _; have := HKN.out; omega
    · intro l hl
      rcases List.mem_append.1 hl with h | h
      · exact HALL.out l h
      · obtain rfl := List.mem_singleton.1 h; exact HC.out
    · rw [HRB.out]
    · intro l hl
      rw [List.getLast?_append] at hl
      injection hl with hl
      subst hl; rfl
  · have h := HY.out
    have h := (((((h.front (i := 5) rfl).front (i := 1) rfl).front (i := 2) rfl).front (i := 9) rfl).front (i := 9) rfl).front (i := 9) rfl
    have e1 : (stepB R s kb e.val).body = BN := by rw [HBN.out, HRW.out, HAL.out]; rfl
    have e2 : (stepB R s kb e.val).places = placesB R s := rfl
    have e3 : (stepB R s kb e.val).key = kb := rfl
    have e4 : (stepB R s kb e.val).n = N + 1 := by rw [HN.out]; rfl
    simp only [bldO]
    rw [e1, e2, e3, e4, ← HPN.out, HRL.out, HQL.out, HKN.out]
    exact OW.sub h (.cons_cons _ (.cons_cons _ (.cons_cons _ (.cons_cons _ (.cons_cons _ (.cons_cons _ (.cons _ (.cons _ (.cons _ (.cons _ (.cons _ (.cons _ (.cons _ (List.Sublist.refl _))))))))))))))
end Go.Proofs.YtmigjipfomfacaaDoor

/-
  A builder's Finish, walked.
-/
namespace Go.Proofs.YtmigjipfomfacaaDoor
open Go.RowKit

theorem places_take {l : List Nat} {k v : Nat} (h : l[k]? = some v) : (l.take (k + 1)).flatMap four4 = (l.take k).flatMap four4 ++ four4 v := by
  rw [take_snoc h, List.flatMap_append]; simp
theorem fin_len (R : Nat) {L : List Ent} : (finE R L).1.length = szB R L := by
  unfold finE szB
  split
  · rfl
  · rename_i h; exact layB_len R h
theorem runE_places (R : Nat) : ∀ (l : List Ent) (s : BSt), (∀ p, p ∈ s.places → p ≤ s.body.length) → ∀ p, p ∈ (runE R s l).places → p ≤ (runE R s l).body.length
  | [], _, h => h
  | e :: l, s, h => runE_places R l (stepB R s (keyE e) e.val) (fun p hp => by
    simp only [stepB] at hp ⊢
    rw [List.length_append]
    unfold placesB at hp
    split at hp
    · rcases List.mem_append.1 hp with h1 | h1
      · have := h p h1; omega
      · have := List.mem_singleton.1 h1; omega
    · have := h p hp; omega)
theorem runB_places (R : Nat) (l : List Ent) (p : Nat) (h : p ∈ (runB R l).places) : p ≤ (runB R l).body.length := runE_places R l bst0 (fun p h => (by cases h)) p h

set_option maxRecDepth 100000 in
set_option maxHeartbeats 4000000 in
theorem finish_any {w x : World} {R g : Nat} {L : List Ent} {os rest : List Ob} (hb : Bld R L g os) (h : OW w (os ++ rest) x) (ht : TabAt 0 x) :
    Calls Tryd.prog 24 #[.pointer (some ⟨g, 0, none⟩)] x (BytesPost2 5 (finE R L).1 (finE R L).2 x) := by
  have HSZ1 := Lib.hid (fun z (hz : Below x.heap.size x z) => size_any hb (h.later hz))
  have HTB : Hid (∀ z, Below x.heap.size x z → TabAt 0 z) := Lib.hid fun z hz => ht.later hz
  obtain ⟨hR, hsz, _, _, m, rfl, _⟩ := hb
  have hpl0 := runB_places R L
  obtain ⟨s, hs⟩ : ∃ z, z = runB R L := ⟨_, rfl⟩
  rw [← hs] at h hsz hpl0
  obtain ⟨P, pc, hpv, _⟩ := own_slice (h.row (i := 2) rfl)
  obtain ⟨bl, hbl⟩ : ∃ z, z = s.body.length := ⟨_, rfl⟩
  obtain ⟨pn, hpn⟩ : ∃ z, z = s.places.length := ⟨_, rfl⟩
  obtain ⟨N, hN⟩ : ∃ z, z = s.n := ⟨_, rfl⟩
  have hNL : N = L.length := by rw [hN, hs, runB_n]
  have hNb : N ≤ 131072 := by have h1 := n_le_size _ (runB_many R L); rw [← hs] at h1; omega
  have hlim : bl + 4 * pn + 9 ≤ 131072 := by unfold sizeS at hsz; omega
  have HS0 := Lib.hid hs
  have HBL := Lib.hid hbl.symm
  have HPN := Lib.hid hpn.symm
  have HN := Lib.hid hN.symm
  have HNL := Lib.hid hNL
  have HPL := Lib.hid hpl0
  obtain ⟨szn, hszn⟩ : ∃ z, z = szB R L := ⟨_, rfl⟩
  have HSN := Lib.hid hszn.symm
  have HC : Hid (∀ z, Below x.heap.size x z → z.cell? ⟨g, 0, none⟩ = some (.int .i64 (R : Int)) ∧ z.cell? ⟨g, 1, none⟩ = some (.slice m.B bl m.bc) ∧ z.cell? ⟨g, 2, none⟩ = some (.slice P pn pc) ∧ z.cell? ⟨g, 5 + 6, none⟩ = some (.int .i64 (N : Int)) ∧ Sl z m.B bl m.bc s.body ∧ Reads z z.heap.size 1 P pn (s.places.map i64v)) := Lib.hid fun z hz => by
    have h' := h.later hz
    rw [hbl, hN]
    refine ⟨h'.cell (i := 0) (j := 0) rfl rfl, h'.cell (i := 0) (j := 1) rfl rfl, ?_, h'.cell (i := 0) (j := 11) rfl rfl, h'.sl (i := 1) rfl rfl, ?_⟩
    · have := h'.cell (i := 0) (j := 2) rfl rfl
      rw [this, hpv, hpn]
    · have := h'.row (i := 2) rfl
      rw [hpv, ← hpn] at this
      exact Reads.own this
  have HRR := Lib.hid hR
  have hR1 := hR.1
  have hR2 := hR.2
  clear h hs hbl hpn hN hpv hNL hpl0 hszn hsz hR ht
  by_cases h0 : N = 0
  case pos =>
    have HF : Hid (finE R L = ([], 54)) := Lib.hid (by unfold finE; rw [if_pos (List.eq_nil_of_length_eq_zero (by rw [← HNL.out, h0]))])
    subst h0
    obtain ⟨_, _, _, c3, _⟩ := HC.out x (Below.refl _ _)
    go_enter Tryd.func24, Tryd.ntmps24
    go_wp2_with (refine wpList_load_cell rfl 3 (.tmp 10) rfl rfl c3 (fun w => Tryd.isAgg3 w) ?_)
    go_ret2
    rw [HF.out]
    exact bytes_post2 (n := 0) (own_nil _ _ _ _) (Below.refl _ _)
  have hd : ((N : Int) == 0) = false := beq_eq_false_iff_ne.2 (by omega)
  have HFL : Hid (finE R L = (headB5 R s ++ lowB (sumL (headB5 R s)), 0)) := Lib.hid (by
    have h1 : L ≠ [] := fun e => h0 (by rw [HNL.out, e]; rfl)
    unfold finE layB
    rw [if_neg h1, if_neg h1, ← HS0.out]; rfl)
  have hsz2 : szn ≤ 131072 := by
    have h1 : L ≠ [] := fun e => h0 (by rw [HNL.out, e]; rfl)
    have := HSN.out
    unfold szB at this
    rw [if_neg h1, ← HS0.out] at this
    unfold sizeS at this
    have := HBL.out
    have := HPN.out
    omega
  obtain ⟨_, _, _, c3, _⟩ := HC.out x (Below.refl _ _)
  have HX := Lib.hid (OW.nil x)
  go_enter Tryd.func24, Tryd.ntmps24
  go_wp2_with (first
    | (refine wpList_load_cell rfl 3 (.tmp 10) rfl rfl c3 (fun w => Tryd.isAgg3 w) ?_)
    | (go_at_call 40; go_must (refine (HSZ1.out _ HX.out.up).mono ?_); rw [HSN.out]; rintro r z1 ⟨rfl, hb⟩; replace HX := Lib.hid (HX.out.later hb); clear hb c3)
    | (at_make; go_must (refine wl_make0 rfl _ _ rfl Tryd.u8s' szn _ rfl rfl rfl (by omega) (by unfold maxLen; omega) HX.out ?_); intro g1 z2 hz _; have HX2 : Hid (OW x [bytO 5 (some ⟨g1, 0, none⟩, szn, [])] z2) := Lib.hid hz; obtain ⟨_, d1, d2, _, s1, _⟩ := HC.out z2 HX2.out.up; have S1 := Lib.hid s1; clear hz HX s1)
    | (refine wpList_load_cell rfl 24 (.tmp 19) rfl rfl d1 (fun w => Tryd.isAgg24 w) ?_)
    | (at_builtin; go_must (refine wl_appB rfl (.tmp 16) (.tmp 20) rfl Tryd.u8s' HX2.out 0 rfl rfl rfl _ _ bl _ s.body rfl S1.out.rb (by simp; omega) ?_); intro A3 c4 z3 hz; have HX3 : Hid (OW x [bytO 5 (A3, c4, s.body)] z3) := Lib.hid hz; obtain ⟨_, _, d3, _⟩ := HC.out z3 HX3.out.up; clear hz d1 d2 S1)
    | (refine wpList_load_cell rfl 101 (.tmp 24) rfl rfl d3 (fun w => Tryd.isAgg101 w) ?_))
  go_loopw [4, 27] (fun v i wr => ∃ (k : Nat) (A : Option Addr) (c n : Nat) (l : List UInt8), k ≤ pn ∧ n ≤ 131072 + 4 * k ∧ i = .int .i64 k ∧ v = .slice A n c ∧ Hid (l.length = n) ∧ Hid (l = s.body ++ (s.places.take k).flatMap four4) ∧ Hid (OW x [bytO 5 (A, c, l)] wr)) (fun _ i _ => pn - (intOf i).toNat)
  case atStart => exact ⟨0, A3, c4, bl, s.body, Nat.zero_le _, by omega, rfl, rfl, HBL, Lib.hid (by simp), HX3⟩
  case round =>
    clear HX3 d3
    obtain ⟨k, A5, c5, n5, l5, hk, hn5, rfl, rfl, HL5, HP5, HX5⟩ := hrel
    by_cases hlt : k < pn
    case pos =>
      have hdk : decide ((k : Int) < (pn : Int)) = true := decide_eq_true (by omega)
      obtain ⟨_, _, _, _, _, hr⟩ := HC.out wr HX5.out.up
      obtain ⟨b, o, rfl, _, hcc⟩ := hr.2 (by omega)
      have hpk : s.places[k]? = some (s.places[k]'(by rw [HPN.out]; exact hlt)) := List.getElem?_eq_getElem _
      obtain ⟨pv, hpv⟩ : ∃ z, z = s.places[k]'(by rw [HPN.out]; exact hlt) := ⟨_, rfl⟩
      rw [← hpv] at hpk
      have hc1 : wr.cell? ⟨b, o + k, none⟩ = some (.int .i64 (pv : Int)) := hcc k _ (by rw [List.getElem?_map, hpk]; rfl)
      have hpb : pv ≤ 131072 := by have := HPL.out pv (List.mem_of_getElem? hpk); have := HBL.out; omega
      have HPT := Lib.hid (places_take hpk)
      have i1 : (0 : Int) ≤ (k : Int) := by omega
      have i2 : (k : Int) < (pn : Int) := by omega
      clear hr hcc hpk hpv
      go_wp2_with (first
        | (go_at_call 66; go_must (refine (four_any pv _ (by omega)).mono ?_); rintro r z4 hp; obtain ⟨A6, c6, rfl, hs6, _, hb⟩ := hp.at_ (n := 4) rfl; have HS6 := Lib.hid hs6; replace HX5 := Lib.hid (HX5.out.later hb); clear hp hb hs6 hc1)
        | (at_builtin; go_must (refine wl_appB rfl (.tmp 31) (.tmp 34) rfl Tryd.u8s' HX5.out 0 rfl HL5.out rfl _ _ 4 _ (four4 pv) rfl HS6.out.rb (by omega) ?_); intro A7 c7 z5 hz; have HX7 : Hid (OW x [bytO 5 (A7, c7, l5 ++ four4 pv)] z5) := Lib.hid hz; clear hz HX5 HS6))
      go_roundw
      case rel => exact ⟨k + 1, A7, c7, n5 + 4, l5 ++ four4 pv, by omega, by omega, by go_num, rfl, Lib.hid (by rw [List.length_append, HL5.out]; rfl), Lib.hid (by rw [HPT.out, HP5.out, List.append_assoc]), HX7⟩
      case measure => simp [intOf]; omega
    have hdk : decide ((k : Int) < (pn : Int)) = false := decide_eq_false (by omega)
    have HP6 : Hid (l5 = s.body ++ s.places.flatMap four4) := Lib.hid (by rw [HP5.out, take_all (by have := HPN.out; omega)])
    obtain ⟨hd, hhd⟩ : ∃ z, z = headB5 R s := ⟨_, rfl⟩
    obtain ⟨_, _, _, c3, _⟩ := HC.out wr HX5.out.up
    have HHD := Lib.hid hhd
    have HL7 : Hid ((l5 ++ four4 N).length = n5 + 4) := Lib.hid (by rw [List.length_append, HL5.out]; rfl)
    have HL8 : Hid ((l5 ++ four4 N ++ [UInt8.ofNat R]).length = n5 + 4 + 1) := Lib.hid (by rw [List.length_append, HL7.out]; rfl)
    have HE8 : Hid (l5 ++ four4 N ++ [UInt8.ofNat R] = hd) := Lib.hid (by rw [hhd, HP6.out, ← HN.out]; rfl)
    have HU8 : Hid ([Value.int .u8 (R : Int)] = u8s [UInt8.ofNat R]) := Lib.hid (by
      show _ = [u8v _]
      unfold u8v
      rw [UInt8.toNat_ofNat', Nat.mod_eq_of_lt (by omega)])
    have HLD : Hid (hd.length = n5 + 4 + 1) := Lib.hid (by rw [← HE8.out]; exact HL8.out)
    have f1 : Hid (∀ x : List UInt8, [x].flatten = x) := Lib.hid fun x => by simp
    obtain ⟨sm, hsm⟩ : ∃ z, z = sumL hd := ⟨_, rfl⟩
    have hs32 : sm < 4294967296 := by rw [hsm]; exact sumL_lt hd
    have HSM := Lib.hid hsm
    obtain ⟨q3, q2, q1, q0, hf4, hlw⟩ : ∃ a b d e, four4 sm = [a, b, d, e] ∧ lowB sm = [e, d, b, a] := ⟨_, _, _, _, rfl, rfl⟩
    have HF4 := Lib.hid hf4
    have HLW := Lib.hid hlw
    clear HP5 hhd hsm hf4 hlw
    have tk1 : True := trivial
    have tk2 : True := trivial
    have tk3 : True := trivial
    go_wp2_with (first
      | (refine wpList_load_cell rfl 3 (.tmp 40) rfl rfl c3 (fun w => Tryd.isAgg3 w) ?_)
      | (go_at_call 66; have _t := tk1; go_must (refine (four_any N _ (by omega)).mono ?_); rintro r z4 hp; obtain ⟨A6, c6, rfl, hs6, _, hb⟩ := hp.at_ (n := 4) rfl; have HS6 := Lib.hid hs6; replace HX5 := Lib.hid (HX5.out.later hb); clear hp hb hs6 c3 tk1)
      | (at_builtin; have _t := tk2; go_must (refine wl_appB rfl (.tmp 37) (.tmp 43) rfl Tryd.u8s' HX5.out 0 rfl HL5.out rfl _ _ 4 _ (four4 N) rfl HS6.out.rb (by omega) ?_); intro A7 c7 z5 hz; have HX7 : Hid (OW x [bytO 5 (A7, c7, l5 ++ four4 N)] z5) := Lib.hid hz; obtain ⟨d0, _⟩ := HC.out z5 HX7.out.up; clear hz HX5 HS6 tk2)
      | (refine wpList_load_cell rfl 3 (.tmp 48) rfl rfl d0 (fun w => Tryd.isAgg3 w) ?_)
      | (at_builtin; have _t := tk3; go_must (refine wl_appB rfl (.tmp 45) (.tmp 51) rfl Tryd.u8s' (HX7.out.al (.cells #[.int .u8 (R : Int)] 5)) 0 rfl HL7.out rfl _ (some ⟨z5.heap.size, 0, none⟩) 1 1 [UInt8.ofNat R] rfl (by exact reads_lit z5 _ [UInt8.ofNat R] _ _ HU8.out) (by omega) ?_); intro A8 c8 z6 hz; rw [HE8.out] at hz; have HX8 : Hid (OW x [bytO 5 (A8, c8, hd)] z6) := Lib.hid hz; have HS8 := Lib.hid (HX8.out.sl (i := 0) rfl HLD.out); clear hz HX7 d0 tk3)
      | (go_at_call 67; go_must (refine (sum_any [hd] _ 1 1 _ (by omega) (by exact HS8.out.one _ _) (HTB.out _ ((HX8.out.al (.cells #[.slice A8 (n5 + 4 + 1) c8] 24)).up))).mono ?_); rintro r w1 ⟨rfl, rfl⟩; rw [f1.out, ← HSM.out]; have HX9 := Lib.hid (HX8.out.al (.cells #[.slice A8 (n5 + 4 + 1) c8] 24)))
      | (go_at_call 66; go_must (refine (four_any sm _ hs32).mono ?_); rintro r z7 hp; rw [HF4.out] at hp; obtain ⟨A9, c9, rfl, _, ho, hb⟩ := hp.at_ (n := 4) rfl; obtain ⟨g9, cp9, hv, _, _, _⟩ := own_form ho (by show 0 < 4; omega); injection hv with hv _ hcp; subst hv; subst hcp; have HY := Lib.hid (OW.byt1 hb ho); clear hp hb ho)
      | (go_at_call 68; go_must (refine (reverse4_any _ _ _ _ g9 _ _ _ HY.out).mono ?_); rintro r z8 ⟨rfl, hx⟩; have HZ := Lib.hid (HX9.out.app hx); clear hx)
      | (at_builtin; go_must (refine wl_appB rfl (.tmp 59) (.tmp 60) rfl Tryd.u8s' HZ.out 0 rfl HLD.out rfl _ _ 4 _ [q0, q1, q2, q3] rfl (HZ.out.sl (i := 1) rfl rfl).rb (by omega) ?_); intro A10 c10 z9 hz; have HQ := Lib.hid (hz.left (ps := [_]) (os := [_])); clear hz))
    go_ret2
    rw [HFL.out]
    exact OW.bytes2 HQ.out (by rw [← HHD.out, ← HSM.out, HLW.out]) (n := n5 + 4 + 1 + 4) (by rw [List.length_append, HLD.out]; rfl) rfl rfl
end Go.Proofs.YtmigjipfomfacaaDoor

/-
  Lists of entries that read.
-/
namespace Go.Proofs.YtmigjipfomfacaaDoor
open Go.RowKit

/-- An entry's places in memory, and what it is. -/
structure ER where
  A : Option Addr
  c : Nat
  B : Option Addr
  d : Nat
  D : Option Addr
  q : Nat
  e : Ent
def ER.cells (r : ER) : List Value := [.slice r.A r.e.row.length r.c, .int .i64 r.e.fam, .slice r.B r.e.qual.length r.d, .int .i64 r.e.ts, .int .i64 r.e.seq, .int .i64 r.e.kind, .slice r.D r.e.val.length r.q]
def ER.v (r : ER) : Value := entV r.A r.e.row.length r.c r.B r.e.qual.length r.d r.D r.e.val.length r.q r.e
def ER.En (w : World) (r : ER) : Prop := YtmigjipfomfacaaDoor.En w r.A r.e.row.length r.c r.B r.e.qual.length r.d r.D r.e.val.length r.q r.e
theorem ER.len (r : ER) : r.cells.length = 7 := rfl
theorem ER.En.later {w x : World} {r : ER} (h : r.En w) (hb : Below w.heap.size w x) : r.En x := YtmigjipfomfacaaDoor.En.later h hb
theorem flat7_len (rs : List ER) : (rs.flatMap ER.cells).length = rs.length * 7 := by
  induction rs with
  | nil => rfl
  | cons r rs ih => rw [List.flatMap_cons, List.length_append, ih, ER.len, List.length_cons]; omega
theorem flat7_at : ∀ {rs : List ER} {k : Nat} {r : ER}, rs[k]? = some r → ∀ j, j < 7 → (rs.flatMap ER.cells)[k * 7 + j]? = r.cells[j]?
  | [], _, _, h, _, _ => by cases h
  | a :: rs, 0, r, h, j, hj => by
    injection h with h; subst h
    rw [List.flatMap_cons, Nat.zero_mul, Nat.zero_add, List.getElem?_append_left (by rw [ER.len]; exact hj)]
  | a :: rs, k + 1, r, h, j, hj => by
    rw [List.flatMap_cons, List.getElem?_append_right (by rw [ER.len]; omega), ER.len, show (k + 1) * 7 + j - 7 = k * 7 + j from by omega]
    exact flat7_at (rs := rs) h j hj
/-- The slice A, n reads the entries es. -/
def Ens (w : World) (A : Option Addr) (n : Nat) (es : List Ent) : Prop := ∃ rs : List ER, rs.map ER.e = es ∧ Reads w w.heap.size 7 A n (rs.flatMap ER.cells) ∧ ∀ r, r ∈ rs → r.En w
section
variable {w x : World} {A : Option Addr} {n : Nat} {es : List Ent}
theorem Ens.len (h : Ens w A n es) : es.length = n := by
  obtain ⟨rs, rfl, hr, _⟩ := h
  have := hr.1
  rw [flat7_len] at this
  rw [List.length_map]; omega
theorem Ens.later (h : Ens w A n es) (hb : Below w.heap.size w x) : Ens x A n es := by
  obtain ⟨rs, e, hr, hE⟩ := h
  exact ⟨rs, e, (hr.below hb).more hb.size, fun r hr => (hE r hr).later hb⟩
theorem Ens.nil : Ens w A 0 [] := ⟨[], rfl, Reads.nil, fun r h => by cases h⟩
theorem Ens.at_ (h : Ens w A n es) {k : Nat} (hk : k < n) : ∃ (b o : Nat) (Ar : Option Addr) (c : Nat) (B : Option Addr) (d : Nat) (D : Option Addr) (q : Nat) (e : Ent), A = some ⟨b, o, none⟩ ∧ b < w.heap.size ∧ es[k]? = some e ∧
    w.rangeAt b (o + k * 7) [.slice Ar e.row.length c, .int .i64 e.fam, .slice B e.qual.length d, .int .i64 e.ts, .int .i64 e.seq, .int .i64 e.kind, .slice D e.val.length q] ∧ En w Ar e.row.length c B e.qual.length d D e.val.length q e := by
  have hl := h.len
  obtain ⟨rs, rfl, hr, hE⟩ := h
  rw [List.length_map] at hl
  obtain ⟨b, o, hA, hb, hc⟩ := hr.2 (by omega)
  obtain ⟨r, hrk⟩ : ∃ r, rs[k]? = some r := ⟨_, List.getElem?_eq_getElem (by omega)⟩
  refine ⟨b, o, r.A, r.c, r.B, r.d, r.D, r.q, r.e, hA, hb, by rw [List.getElem?_map, hrk]; rfl, fun j v hj => ?_, hE r (List.mem_of_getElem? hrk)⟩
  have hj7 : j < 7 := (List.getElem?_eq_some_iff.1 hj).1
  have := hc (k * 7 + j) v (by rw [flat7_at hrk j hj7]; exact hj)
  rwa [← Nat.add_assoc] at this
theorem flat7_take (rs : List ER) (m : Nat) : (rs.flatMap ER.cells).take (m * 7) = (rs.take m).flatMap ER.cells := by
  induction rs generalizing m with
  | nil => simp
  | cons r rs ih =>
    cases m with
    | zero => simp
    | succ m =>
      rw [List.flatMap_cons, List.take_succ_cons, List.flatMap_cons, List.take_append, ER.len, List.take_of_length_le (by rw [ER.len]; omega), show (m + 1) * 7 - 7 = m * 7 from by omega, ih]
theorem Ens.take (h : Ens w A n es) {m : Nat} (hm : m ≤ n) : Ens w A m (es.take m) := by
  obtain ⟨rs, rfl, hr, hE⟩ := h
  refine ⟨rs.take m, by rw [List.map_take], ?_, fun r hr' => hE r (List.mem_of_mem_take hr')⟩
  rw [← flat7_take]
  exact hr.take hm
end
/-- A row of entries of the call's own, whose byte strings read. -/
theorem OW.ens {w x : World} {os : List Ob} {A : Option Addr} {n c i : Nat} {T : TypeId} {rs : List ER} (h : OW w os x) (hi : os[i]? = some (rowO T 7 (.slice A n c) n (rs.flatMap ER.cells))) (hE : ∀ r, r ∈ rs → r.En x) : Ens x A n (rs.map ER.e) :=
  ⟨rs, rfl, Reads.own (h.row hi), hE⟩
end Go.Proofs.YtmigjipfomfacaaDoor

/-
  Build, walked.
-/
namespace Go.Proofs.YtmigjipfomfacaaDoor
open Go.RowKit

theorem begin_no (R : Int) (w : World) (h : R < 1 ∨ 16 < R) : Calls Tryd.prog 22 #[.int .i64 R] w fun e w' => e = .returned (.tuple #[.pointer none, .int .i64 1]) ∧ Below w.heap.size w w' :=
  (begin_any R w).mono fun e w' hp => by
    rcases hp with ⟨_, h1, h2⟩ | ⟨h1, h2, _⟩
    · exact ⟨h1, h2⟩
    · omega
theorem begin_ok (R : Nat) (w : World) (h1 : 1 ≤ R) (h2 : R ≤ 16) : Calls Tryd.prog 22 #[.int .i64 (R : Int)] w fun e w' => ∃ g os, e = .returned (.tuple #[.pointer (some ⟨g, 0, none⟩), .int .i64 0]) ∧ Bld R [] g os ∧ OW w os w' :=
  (begin_any R w).mono fun e w' hp => by
    rcases hp with ⟨h, _⟩ | ⟨_, _, g, os, h3, h4, h5⟩
    · omega
    · rw [Int.toNat_natCast] at h4; exact ⟨g, os, h3, h4, h5⟩
theorem addC_step {R : Nat} {es : List Ent} {k : Nat} {e : Ent} (hk : es[k]? = some e) (h0 : (buildK R [] (es.take k)).1 = 0) : (addC R (es.take k) e = 0 → addL R (es.take k) e = es.take (k + 1) ∧ (buildK R [] (es.take (k + 1))).1 = 0) ∧ (addC R (es.take k) e ≠ 0 → (buildK R [] es).1 = addC R (es.take k) e) := by
  have ht : es.take (k + 1) = es.take k ++ [e] := take_snoc hk
  have hb := buildK_app R (es.take k) [] [e]
  rw [if_pos h0, List.nil_append] at hb
  refine ⟨fun h => ⟨by unfold addL; rw [if_pos h, ht], ?_⟩, fun h => ?_⟩
  · rw [ht, hb]; unfold buildK; rw [if_pos h]; rfl
  · have h2 := buildK_app R (es.take k ++ [e]) [] (es.drop (k + 1))
    have e1 : es.take k ++ [e] ++ es.drop (k + 1) = es := by rw [← ht, List.take_append_drop]
    rw [e1, hb] at h2
    have h3 : buildK R (es.take k) [e] = (addC R (es.take k) e, es.take k) := by unfold buildK; rw [if_neg h]
    rw [h3] at h2
    rw [h2, if_neg h]

set_option maxRecDepth 100000 in
set_option maxHeartbeats 4000000 in
theorem build_any (R : Int) (es : List Ent) (A : Option Addr) (n c : Nat) (w : World) (hes : Ens w A n es) (hn : n ≤ 9223372036854775806) (ht : TabAt 0 w) :
    Calls Tryd.prog 10 #[.int .i64 R, .slice A n c] w (BytesPost2 5 (buildE5 R es).1 (buildE5 R es).2 w) := by
  have HTB : Hid (∀ z, Below w.heap.size w z → TabAt 0 z) := Lib.hid fun z hz => ht.later hz
  have HLE := Lib.hid hes.len
  have HES : Hid (∀ z, Below w.heap.size w z → Ens z A n es) := Lib.hid fun z hz => hes.later hz
  clear hes ht
  by_cases hR : R < 1 ∨ 16 < R
  case pos =>
    have HP : Hid (buildE5 R es = ([], 1)) := Lib.hid (by unfold buildE5; rw [if_pos hR])
    have HRR := Lib.hid hR
    clear hR
    go_enter Tryd.func10, Tryd.ntmps10
    go_wp2_with (go_at_call 22; go_must (refine (begin_no R _ HRR.out).mono ?_); rintro r z1 ⟨rfl, hb⟩; have HB := Lib.hid hb; clear hb)
    go_loopw [7, 8] (fun e i wr => e = .int .i64 1 ∧ i = .int .i64 0 ∧ Hid (Below w.heap.size w wr)) (fun _ _ _ => 0)
    case atStart => exact ⟨rfl, rfl, HB⟩
    case round =>
      obtain ⟨rfl, rfl, HB2⟩ := hrel
      clear HB
      by_cases h0 : 0 < n
      · have hd : decide ((0 : Int) < (n : Int)) = true := decide_eq_true (by omega)
        go_wp2_with fail
        go_ret2
        rw [HP.out]
        exact bytes_post2 (n := 0) (own_nil _ _ _ _) HB2.out
      · have hd : decide ((0 : Int) < (n : Int)) = false := decide_eq_false (by omega)
        go_wp2_with fail
        go_ret2
        rw [HP.out]
        exact bytes_post2 (n := 0) (own_nil _ _ _ _) HB2.out
  obtain ⟨r, rfl⟩ : ∃ r : Nat, R = (r : Int) := ⟨R.toNat, by omega⟩
  have hr1 : 1 ≤ r := by omega
  have hr2 : r ≤ 16 := by omega
  have HPO : Hid ((buildK r [] es).1 = 0 → buildE5 r es = finE r es) := Lib.hid fun h => by unfold buildE5; rw [if_neg hR, Int.toNat_natCast, if_pos h]
  have HPN : Hid (∀ er, (buildK r [] es).1 = er → er ≠ 0 → buildE5 r es = ([], er)) := Lib.hid fun er h h0 => by unfold buildE5; rw [if_neg hR, Int.toNat_natCast, h, if_neg h0]
  clear hR
  go_enter Tryd.func10, Tryd.ntmps10
  go_wp2_with (go_at_call 22; go_must (refine (begin_ok r _ hr1 hr2).mono ?_); rintro e z1 ⟨g, os, rfl, hB, hX⟩; have HB := Lib.hid hB; have HX := Lib.hid hX; clear hB hX)
  go_loopw [7, 8] (fun e i wr => ∃ (k : Nat) (er : Int), k ≤ n ∧ i = .int .i64 k ∧ e = .int .i64 er ∧ Hid (Below w.heap.size w wr) ∧ Hid (er = 0 → (buildK r [] (es.take k)).1 = 0 ∧ ∃ os, Bld r (es.take k) g os ∧ OW w os wr) ∧ Hid (er ≠ 0 → (buildK r [] es).1 = er)) (fun _ i _ => n - (intOf i).toNat)
  case atStart => exact ⟨0, 0, Nat.zero_le _, rfl, rfl, Lib.hid HX.out.up, Lib.hid fun _ => ⟨rfl, os, HB.out, HX.out⟩, Lib.hid fun h => absurd rfl h⟩
  case round =>
    obtain ⟨k, er, hk, rfl, rfl, HW, HO, HN⟩ := hrel
    clear HB HX
    by_cases he : er = 0
    case neg =>
      have hde : (er == 0) = false := beq_eq_false_iff_ne.2 he
      have hde2 : (er != 0) = true := bne_iff_ne.2 he
      have HQ := Lib.hid (HPN.out er (HN.out he) he)
      clear HO HN he
      by_cases hlt : k < n
      · have hd : decide ((k : Int) < (n : Int)) = true := decide_eq_true (by omega)
        go_wp2_with fail
        go_ret2
        rw [HQ.out]
        exact bytes_post2 (n := 0) (own_nil _ _ _ _) HW.out
      · have hd : decide ((k : Int) < (n : Int)) = false := decide_eq_false (by omega)
        go_wp2_with fail
        go_ret2
        rw [HQ.out]
        exact bytes_post2 (n := 0) (own_nil _ _ _ _) HW.out
    subst he
    obtain ⟨h1, os, h2, h3⟩ := HO.out rfl
    have HB := Lib.hid h2
    have HX := Lib.hid h3
    have HK := Lib.hid h1
    clear HO HN h1 h2 h3
    by_cases hlt : k < n
    case neg =>
      have hd : decide ((k : Int) < (n : Int)) = false := decide_eq_false (by omega)
      have HT : Hid (es.take k = es) := Lib.hid (take_all (by have := HLE.out; omega))
      have HQ : Hid (buildE5 r es = finE r (es.take k)) := Lib.hid (by rw [HT.out]; exact HPO.out (by have := HK.out; rwa [HT.out] at this))
      go_wp2_with (go_at_call 24; go_must (refine (finish_any (rest := []) HB.out (by rw [List.append_nil]; exact HX.out) (HTB.out _ HX.out.up)).mono ?_); rintro e z2 hp; obtain ⟨A2, c2, rfl, ho, hb⟩ := hp; have HO2 := Lib.hid ho; have HB2 := Lib.hid (HX.out.up.trans (hb.mono HX.out.up.size)); have HX2 := Lib.hid HX.out.up.size; clear ho hb)
      go_ret2
      rw [HQ.out]
      exact ⟨A2, c2, rfl, own_rebase HO2.out HX2.out, HB2.out⟩
    have hd : decide ((k : Int) < (n : Int)) = true := decide_eq_true (by omega)
    obtain ⟨b, o, Ar, ec, B, d, D, q, e, rfl, hbl, hek, hrg, hen⟩ := (HES.out w (Below.refl _ _)).at_ hlt
    have HST := Lib.hid (addC_step hek HK.out)
    have HRG : Hid (wr.rangeAt b (o + k * 7) [.slice Ar e.row.length ec, .int .i64 e.fam, .slice B e.qual.length d, .int .i64 e.ts, .int .i64 e.seq, .int .i64 e.kind, .slice D e.val.length q]) := Lib.hid fun j v hj => (HW.out.cell (p := ⟨b, _, none⟩) hbl).trans (hrg j v hj)
    have HEN : Hid (∀ us z, OW w (us ++ []) z → En z Ar e.row.length ec B e.qual.length d D e.val.length q e) := Lib.hid fun us z hz => hen.later hz.up
    clear hek hrg hen
    have i1 : (0 : Int) ≤ (k : Int) := by omega
    have i2 : (k : Int) < (n : Int) := by omega
    go_wp2_with (first
      | (refine wpList_load_at rfl 37 (.tmp 27) rfl rfl HRG.out ent_row5 ?_)
      | (go_at_call 23; go_must (refine (add_any (rest := []) HB.out (by rw [List.append_nil]; exact HX.out) e Ar _ ec B _ d D _ q HEN.out).mono ?_); rintro e2 z2 ⟨rfl, os2, hb2, hx2⟩; have HB2 := Lib.hid hb2; have HX2 := Lib.hid hx2; clear hb2 hx2))
    go_roundw
    case rel =>
      refine ⟨k + 1, _, by omega, rfl, by go_num, Lib.hid HX2.out.up, Lib.hid fun h => ?_, Lib.hid fun h => HST.out.2 h⟩
      obtain ⟨e3, e4⟩ := HST.out.1 h
      have h5 := HB2.out
      have h6 := HX2.out
      rw [e3] at h5
      rw [List.append_nil] at h6
      exact ⟨e4, os2, h5, h6⟩
    case measure => simp [intOf]; omega
end Go.Proofs.YtmigjipfomfacaaDoor

/-
  Blocks: reading; plain laws.
-/
namespace Go.Proofs.YtmigjipfomfacaaDoor

/-- One entry read at a place behind a key: it, its key, the place behind. -/
def rd1 (b : List UInt8) (a : Nat) (key : List UInt8) : Option (Ent × List UInt8 × Nat) :=
  if (readU b (a : Nat)).2.2 ≠ 0 ∨ key.length < (readU b (a : Nat)).1 then none
  else if (readBy b (readU b (a : Nat)).2.1 (b.length : Nat)).2.2 ≠ 0 then none
  else if (readBy b (readBy b (readU b (a : Nat)).2.1 (b.length : Nat)).2.1 4096).2.2 ≠ 0 then none
  else if (ParseKeyE (key.take (readU b (a : Nat)).1 ++ (readBy b (readU b (a : Nat)).2.1 (b.length : Nat)).1)).2 ≠ 0 then none
  else some ({ (ParseKeyE (key.take (readU b (a : Nat)).1 ++ (readBy b (readU b (a : Nat)).2.1 (b.length : Nat)).1)).1 with val := (readBy b (readBy b (readU b (a : Nat)).2.1 (b.length : Nat)).2.1 4096).1 },
    key.take (readU b (a : Nat)).1 ++ (readBy b (readU b (a : Nat)).2.1 (b.length : Nat)).1, (readBy b (readBy b (readU b (a : Nat)).2.1 (b.length : Nat)).2.1 4096).2.1)
section
variable {b key k2 v : List UInt8} {a u p1 e1 p2 e2 p3 e3 : Nat} {e : Ent} {f : Int}
theorem rd1_a (h1 : readU b (a : Nat) = (u, p1, e1)) (h : e1 ≠ 0) : rd1 b a key = none := by unfold rd1; rw [h1, if_pos (.inl h)]
theorem rd1_b (h1 : readU b (a : Nat) = (u, p1, e1)) (h : key.length < u) : rd1 b a key = none := by unfold rd1; rw [h1, if_pos (.inr h)]
theorem rd1_go (h1 : readU b (a : Nat) = (u, p1, 0)) (h : u ≤ key.length) (h2 : readBy b p1 (b.length : Nat) = (k2, p2, e2)) : rd1 b a key = if e2 ≠ 0 then none
  else if (readBy b p2 4096).2.2 ≠ 0 then none
  else if (ParseKeyE (key.take u ++ k2)).2 ≠ 0 then none
  else some ({ (ParseKeyE (key.take u ++ k2)).1 with val := (readBy b p2 4096).1 }, key.take u ++ k2, (readBy b p2 4096).2.1) := by
  unfold rd1
  rw [h1]
  simp only [h2]
  rw [if_neg (by omega)]
theorem rd1_c (h1 : readU b (a : Nat) = (u, p1, 0)) (h : u ≤ key.length) (h2 : readBy b p1 (b.length : Nat) = (k2, p2, e2)) (h0 : e2 ≠ 0) : rd1 b a key = none := by rw [rd1_go h1 h h2, if_pos h0]
theorem rd1_d (h1 : readU b (a : Nat) = (u, p1, 0)) (h : u ≤ key.length) (h2 : readBy b p1 (b.length : Nat) = (k2, p2, 0)) (h3 : readBy b p2 4096 = (v, p3, e3)) (h0 : e3 ≠ 0) : rd1 b a key = none := by
  rw [rd1_go h1 h h2, h3, if_neg (by simp), if_pos h0]
theorem rd1_e (h1 : readU b (a : Nat) = (u, p1, 0)) (h : u ≤ key.length) (h2 : readBy b p1 (b.length : Nat) = (k2, p2, 0)) (h3 : readBy b p2 4096 = (v, p3, 0)) (h4 : ParseKeyE (key.take u ++ k2) = (e, f)) (h0 : f ≠ 0) : rd1 b a key = none := by
  rw [rd1_go h1 h h2, h3, h4, if_neg (by simp), if_neg (by simp), if_pos h0]
theorem rd1_ok (h1 : readU b (a : Nat) = (u, p1, 0)) (h : u ≤ key.length) (h2 : readBy b p1 (b.length : Nat) = (k2, p2, 0)) (h3 : readBy b p2 4096 = (v, p3, 0)) (h4 : ParseKeyE (key.take u ++ k2) = (e, 0)) : rd1 b a key = some ({ e with val := v }, key.take u ++ k2, p3) := by
  rw [rd1_go h1 h h2, h3, h4, if_neg (by simp), if_neg (by simp), if_neg (by simp)]
end
/-- So many entries from the left. -/
def rdF (b : List UInt8) : Nat → Option (List Ent × List UInt8 × Nat)
  | 0 => some ([], [], 0)
  | n + 1 => match rdF b n with
    | none => none
    | some (L, key, a) => match rd1 b a key with
      | none => none
      | some (e, key', a') => some (L ++ [e], key', a')
theorem rdF_none {b : List UInt8} {n m : Nat} (h : rdF b n = none) (hm : n ≤ m) : rdF b m = none := by
  induction m with
  | zero => obtain rfl : n = 0 := by omega
            exact h
  | succ m ih =>
    rcases Nat.lt_or_ge n (m + 1) with h1 | h1
    · show (match rdF b m with | none => none | some (L, key, a) => _) = none
      rw [ih (by omega)]
    · obtain rfl : n = m + 1 := by omega
      exact h
theorem rdF_step {b : List UInt8} {n : Nat} {L : List Ent} {key : List UInt8} {a : Nat} (h : rdF b n = some (L, key, a)) : rdF b (n + 1) = match rd1 b a key with
      | none => none
      | some (e, key', a') => some (L ++ [e], key', a') := by
  show (match rdF b n with | none => none | some (L, key, a) => _) = _
  rw [h]
theorem rdF_stop {b : List UInt8} {n m : Nat} {L : List Ent} {key : List UInt8} {a : Nat} (h : rdF b n = some (L, key, a)) (h1 : rd1 b a key = none) (hm : n < m) : rdF b m = none :=
  rdF_none (n := n + 1) (by rw [rdF_step h, h1]) hm
theorem rdF_go {b : List UInt8} {n : Nat} {L : List Ent} {key : List UInt8} {a : Nat} {e : Ent} {key' : List UInt8} {a' : Nat} (h : rdF b n = some (L, key, a)) (h1 : rd1 b a key = some (e, key', a')) : rdF b (n + 1) = some (L ++ [e], key', a') := by
  rw [rdF_step h, h1]
theorem rdF_len {b : List UInt8} : ∀ {n : Nat} {L : List Ent} {key : List UInt8} {a : Nat}, rdF b n = some (L, key, a) → L.length = n
  | 0, L, key, a, h => by injection h with h; injection h with h1 h; subst h1; rfl
  | n + 1, L, key, a, h => by
    cases h0 : rdF b n with
    | none => rw [rdF_none h0 (by omega)] at h; cases h
    | some r =>
      obtain ⟨L', k', a'⟩ := r
      rw [rdF_step h0] at h
      cases h1 : rd1 b a' k' with
      | none => rw [h1] at h; cases h
      | some r =>
        obtain ⟨e, k'', a''⟩ := r
        rw [h1] at h
        injection h with h; injection h with h2 h
        rw [← h2, List.length_append, rdF_len h0]; rfl
/-! What was laid is read. -/
theorem uintB_lt64 {n : Nat} (h : n ≤ 1000000) : n < 18446744073709551616 := by omega
theorem rd1_back {b0 : List UInt8} (R : Nat) (L : List Ent) (t : List UInt8) (i : Nat) (e : Ent) (h : L[i]? = some e) (hok : ∀ l, l ∈ L → checkE l = 0) (hb : b0 = (runB R L).body ++ t) :
    rd1 b0 (runB R (L.take i)).body.length (runB R (L.take i)).key = some (e, keyE e, (runB R (L.take (i + 1))).body.length) := by
  obtain ⟨t', ht⟩ := runB_body R L h
  have he := ok_of (hok e (List.mem_of_getElem? h))
  obtain ⟨s, hs⟩ : ∃ s, s = runB R (L.take i) := ⟨_, rfl⟩
  rw [← hs] at ht ⊢
  have hal := alike_le R s (keyE e)
  have hak := alike_key R s (keyE e)
  obtain ⟨al, hale⟩ : ∃ z, z = alikeB R s (keyE e) := ⟨_, rfl⟩
  rw [← hale] at ht hal hak
  have hkl := keyE_len he
  have hvl := he.val.1
  have hb1 : b0 = s.body ++ (rowK al (keyE e) e.val ++ (t' ++ t)) := by rw [hb, ht]; simp [List.append_assoc]
  have hlen : (((keyE e).drop al).length : Int) ≤ (b0.length : Nat) := by
    rw [hb1]; unfold rowK
    simp only [List.length_append]; omega
  have h1 := row_u s.body (t' ++ t) al (keyE e) e.val (uintB_lt64 (by omega))
  have h2 := row_k s.body (t' ++ t) al (keyE e) e.val (b0.length : Nat) (uintB_lt64 (by rw [List.length_drop]; omega)) hlen
  have h3 := row_v s.body (t' ++ t) al (keyE e) e.val 4096 (uintB_lt64 (by omega)) (by omega)
  rw [← hb1] at h1 h2 h3
  have hP : ParseKeyE (s.key.take al ++ (keyE e).drop al) = ({ e with val := [] }, 0) := by rw [hak]; exact ParseKey_back he
  rw [rd1_ok h1 hal.1 h2 h3 hP, hak]
  have e2 : (runB R (L.take (i + 1))).body.length = s.body.length + (rowK al (keyE e) e.val).length := by
    rw [runB_take R L h, ← hs, hale]; show (s.body ++ _).length = _; rw [List.length_append]
  rw [e2]
theorem rdF_back (R : Nat) (L : List Ent) (t : List UInt8) (hok : ∀ l, l ∈ L → checkE l = 0) {b0 : List UInt8} (hb : b0 = (runB R L).body ++ t) : ∀ i, i ≤ L.length → rdF b0 i = some (L.take i, (runB R (L.take i)).key, (runB R (L.take i)).body.length)
  | 0, _ => rfl
  | i + 1, hi => by
    have h0 := rdF_back R L t hok hb i (by omega)
    have hk : L[i]? = some (L[i]'(by omega)) := List.getElem?_eq_getElem _
    have h1 := rd1_back R L t i _ hk hok hb
    rw [rdF_go h0 h1, take_snoc hk]
    rw [runB_snoc]; rfl
/-! Opening. -/
/-- The blocks that Build makes. -/
def OpenOk (b : List UInt8) (L : List Ent) : Prop := ∃ R : Nat, 1 ≤ R ∧ R ≤ 16 ∧ buildE5 (R : Int) L = (b, 0)
theorem buildK_checked (R : Nat) : ∀ (es acc : List Ent), (∀ l, l ∈ acc → checkE l = 0) → (buildK R acc es).1 = 0 → ∀ l, l ∈ acc ++ es → checkE l = 0
  | [], acc, ha, _ => by simpa using ha
  | e :: r, acc, ha, h => by
    unfold buildK at h
    split at h
    · rename_i h0
      have hc : checkE e = 0 := by
        unfold addC at h0
        split at h0
        · rename_i h1; exact absurd h0 h1
        · rename_i h1; exact Decidable.not_not.1 h1
      have := buildK_checked R r (acc ++ [e]) (fun l hl => by
        rcases List.mem_append.1 hl with h1 | h1
        · exact ha l h1
        · rw [List.mem_singleton.1 h1]; exact hc) h
      rw [List.append_assoc] at this
      exact this
    · rename_i h0; exact absurd h h0
theorem build_parts {R : Nat} {L : List Ent} {b : List UInt8} (h : buildE5 (R : Int) L = (b, 0)) : 1 ≤ R ∧ R ≤ 16 ∧ (buildK R [] L).1 = 0 ∧ L ≠ [] ∧ b = layS R (runB R L) ∧ ∀ l, l ∈ L → checkE l = 0 := by
  unfold buildE5 at h
  split at h
  · injection h with _ h; cases h
  · rename_i hR
    rw [Int.toNat_natCast] at h
    split at h
    · rename_i h0
      unfold finE at h
      split at h
      · injection h with _ h; cases h
      · rename_i hL
        injection h with h _
        refine ⟨by omega, by omega, h0, hL, ?_, ?_⟩
        · rw [← h]; unfold layB; rw [if_neg hL]
        · have := buildK_checked R L [] (fun l h => by cases h) h0
          simpa using this
    · rename_i h0; injection h with _ h; exact absurd h h0
/-- What stands at the foot. -/
theorem layS_foot (R : Nat) (s : BSt) : layS R s = s.body ++ (s.places.flatMap four4 ++ (four4 s.n ++ (UInt8.ofNat R :: lowB (sumL (headB5 R s))))) := by
  unfold layS headB5; simp [List.append_assoc]
end Go.Proofs.YtmigjipfomfacaaDoor

/-
  A block's reading: what it holds; need, walked.
-/
namespace Go.Proofs.YtmigjipfomfacaaDoor
open Go.RowKit

/-- An entry of a block: it, its key's row. -/
abbrev ZR := ER × (Option Addr × Nat × List UInt8)
def rowsZ (z : ZR) : RowL := [(z.1.A, z.1.c, z.1.e.row), (z.1.B, z.1.d, z.1.e.qual), (z.1.D, z.1.q, z.1.e.val), z.2]
/-- A block's box, its two rows, the byte strings (the last entry's first). -/
def blkO (R g : Nat) (lv kv : Value) (zs : List ZR) : List Ob :=
  boxO g [i64v R, lv, kv] :: rowO 37 7 lv zs.length (zs.flatMap (·.1.cells)) :: rowO 24 1 kv zs.length (zs.map (valR ·.2)) :: (zs.reverse.flatMap rowsZ).map (bytO 5)
def ZOk (zs : List ZR) : Prop := ∀ z, z ∈ zs → z.2.2.2 = keyE z.1.e ∧ (keyE z.1.e).length ≤ 1048
def entsZ (zs : List ZR) : List Ent := zs.map (·.1.e)
theorem rowZ_mem {zs : List ZR} {z : ZR} {r : Option Addr × Nat × List UInt8} (hz : z ∈ zs) (hr : r ∈ rowsZ z) {R g : Nat} {lv kv : Value} : bytO 5 r ∈ blkO R g lv kv zs :=
  List.mem_cons_of_mem _ (List.mem_cons_of_mem _ (List.mem_cons_of_mem _ (List.mem_map_of_mem (List.mem_flatMap.2 ⟨z, List.mem_reverse.2 hz, hr⟩))))

set_option maxRecDepth 100000 in
theorem need_any (er : Int) {w x : World} {os : List Ob} {gk : Nat} (i : Nat) (h : OW w os x) (hi : os[i]? = some (boxO gk [.bool true])) :
    Calls Tryd.prog 78 #[.int .i64 er, .pointer (some ⟨gk, 0, none⟩)] x fun e y => e = .returned (.bool (er == 0)) ∧ OW w (os.set i (boxO gk [.bool (er == 0)])) y := by
  have HX := Lib.hid h
  have HI := Lib.hid hi
  clear h hi
  go_enter Tryd.func78, Tryd.ntmps78
  go_wp2_with (first
    | (refine wpList_load_cell rfl 4 (.tmp 1) rfl rfl (show _ = some (Value.bool true) from HX.out.cell HI.out (j := 0) rfl) (fun w => Tryd.isAgg4 w) ?_)
    | (refine wl_put1 rfl (.tmp 1) (.tmp 8) rfl HX.out i HI.out 0 rfl (by decide) (.bool (er == 0)) rfl (by kernel_rfl) rfl ?_; intro x2 hz _; have HY : Hid (OW w (os.set i (boxO gk [.bool (er == 0)])) x2) := Lib.hid hz; have hc : x2.cell? ⟨gk, 0, none⟩ = some (.bool (er == 0)) := HY.out.cell (by rw [List.getElem?_set_self (List.getElem?_eq_some_iff.1 HI.out).1]) (j := 0) rfl; clear hz))
  go_ret
  exact ⟨rfl, HY.out⟩
end Go.Proofs.YtmigjipfomfacaaDoor

/-
  A block's read, walked.
-/
namespace Go.Proofs.YtmigjipfomfacaaDoor
open Go.RowKit

theorem readBy_le5 (l : List UInt8) (a most : Int) : (readBy l a most).1.length ≤ l.length := by
  unfold readBy
  split
  · exact Nat.zero_le _
  · split
    · exact Nat.zero_le _
    · split
      · exact Nat.zero_le _
      · split
        · exact Nat.zero_le _
        · unfold cutS; simp only [List.length_take, List.length_drop]; omega
def ReadP (w : World) (R g : Nat) (rest : List Ob) (b : List UInt8) (N : Nat) (e : Ending) (z : World) : Prop :=
  ∃ lv kv zs, OW w (blkO R g lv kv zs ++ rest) z ∧ ZOk zs ∧ ((∃ key a, rdF b N = some (entsZ zs, key, a) ∧ e = .returned (.bool true)) ∨ (rdF b N = none ∧ e = .returned (.bool false)))
theorem entsZ_snoc (zs : List ZR) (z : ZR) : entsZ (zs ++ [z]) = entsZ zs ++ [z.1.e] := by unfold entsZ; rw [List.map_append]; rfl
theorem Tryd.entsS : SliceOf Tryd.prog 22 37 7 104 := SliceOf.mk' (z := .agg #[.slice none 0 0, .int .i64 0, .slice none 0 0, .int .i64 0, .int .i64 0, .int .i64 0, .slice none 0 0]) Tryd.underlying22 (by kernel_rfl) rfl (by decide)
theorem Tryd.keyS5 : SliceOf Tryd.prog 52 24 1 24 := SliceOf.mk' (z := .slice none 0 0) Tryd.underlying52 (by kernel_rfl) rfl (by decide)
/-- The last key read: a row of the block's, or none. -/
def KeyAt (zs : List ZR) (A : Option Addr) (c : Nat) (key : List UInt8) : Prop := (A = none ∧ c = 0 ∧ key = []) ∨ ∃ z, z ∈ zs ∧ z.2 = (A, c, key)
theorem KeyAt.sl {zs : List ZR} {A : Option Addr} {c kl : Nat} {key : List UInt8} (h : KeyAt zs A c key) (hk : key.length = kl) {w x : World} {os : List Ob} (hx : OW w os x) (hm : ∀ z, z ∈ zs → bytO 5 z.2 ∈ os) : Sl x A kl c key := by
  rcases h with ⟨rfl, rfl, rfl⟩ | ⟨z, hz, e⟩
  · subst hk; exact Sl.none _
  · exact hx.slm (by rw [← e]; exact hm z hz) hk
theorem KeyAt.len {zs : List ZR} {A : Option Addr} {c : Nat} {key : List UInt8} (h : KeyAt zs A c key) (hz : ZOk zs) : key.length ≤ 1048 := by
  rcases h with ⟨_, _, rfl⟩ | ⟨z, hm, e⟩
  · exact Nat.zero_le _
  · obtain ⟨h1, h2⟩ := hz z hm
    rw [e] at h1
    have h1 : key = keyE z.1.e := h1
    rw [h1]; exact h2

set_option maxRecDepth 100000 in
set_option maxHeartbeats 4000000 in
theorem read_any {w x : World} {R g : Nat} {rest : List Ob} (h : OW w (blkO R g (.slice none 0 0) (.slice none 0 0) [] ++ rest) x) (b : List UInt8) (A : Option Addr) (n c N : Nat) (hn : n ≤ 1099511000000) (hN : N < 4294967296) (HS0 : ∀ z, Below w.heap.size w z → Sl z A n c b) :
    Calls Tryd.prog 45 #[.pointer (some ⟨g, 0, none⟩), .slice A n c, .int .i64 N] x (ReadP w R g rest b N) := by
  have HX := Lib.hid h
  have HS := Lib.hid HS0
  have HL : Hid (b.length = n) := Lib.hid (HS0 x h.up).rb.len
  clear h HS0
  go_enter Tryd.func45, Tryd.ntmps45
  go_wp2_with (first
    | (refine wl_alloc rfl rfl [.bool false] (.inr ⟨.bool false, (by kernel_rfl), rfl⟩) HX.out ?_; intro gk z1 hz _; replace HX := Lib.hid (hz.perm List.perm_append_comm); clear hz)
    | (refine wl_put1 rfl (.tmp 9) _ rfl HX.out 0 rfl 0 rfl (by decide) (.bool true) rfl (by kernel_rfl) rfl ?_; intro z2 hz _; have HX2 : Hid (OW w (boxO gk [.bool true] :: (blkO R g (.slice none 0 0) (.slice none 0 0) [] ++ rest)) z2) := Lib.hid hz; clear hz HX))
  go_loopw [7, 8, 19] (fun av kv i wr => ∃ (k a : Nat) (zs : List ZR) (lv sv : Value) (KA : Option Addr) (kl kc : Nat) (key : List UInt8), k ≤ N ∧ i = .int .i64 k ∧ av = .int .i64 a ∧ kv = .slice KA kl kc ∧ kl ≤ 1048 ∧ Hid (key.length = kl) ∧ Hid (KeyAt zs KA kc key) ∧ Hid (ZOk zs ∧ zs.length = k) ∧ Hid (rdF b k = some (entsZ zs, key, a)) ∧ Hid (OW w (boxO gk [.bool true] :: (blkO R g lv sv zs ++ rest)) wr)) (fun _ _ i _ => N - (intOf i).toNat)
  case atStart => exact ⟨0, 0, [], _, _, none, 0, 0, [], Nat.zero_le _, rfl, rfl, rfl, Nat.zero_le _, Lib.hid rfl, Lib.hid (.inl ⟨rfl, rfl, rfl⟩), Lib.hid ⟨(fun z h => by cases h), rfl⟩, Lib.hid rfl, HX2⟩
  case round =>
    clear HX2
    obtain ⟨k, a, zs, lv, sv, KA, kl, kc, key, hk, rfl, rfl, rfl, hkl, HKL, HKA, HZ, HRD, HX⟩ := hrel
    have hfail : Hid (∀ z os', OW w os' z → (blkO R g lv sv zs ++ rest).Sublist os' → rd1 b a key = none → k < N → ReadP w R g rest b N (.returned (.bool false)) z) := Lib.hid fun z os' h1 h2 h3 h4 => ⟨lv, sv, zs, h1.sub h2, HZ.out.1, .inr ⟨rdF_stop HRD.out h3 h4, rfl⟩⟩
    by_cases hlt : k < N
    case neg =>
      have hd : decide ((k : Int) < (N : Int)) = false := decide_eq_false (by omega)
      have hkN : k = N := by omega
      have HKN := Lib.hid hkN
      clear hkN
      go_wp2_with fail
      go_ret
      exact ⟨lv, sv, zs, HX.out.sub ((List.Sublist.refl _).cons _), HZ.out.1, .inl ⟨key, a, by rw [← HKN.out]; exact HRD.out, rfl⟩⟩
    have hd : decide ((k : Int) < (N : Int)) = true := decide_eq_true (by omega)
    obtain ⟨u, p1, e1, hR1⟩ : ∃ u p1 e1, readU b (a : Nat) = (u, p1, e1) := ⟨_, _, _, rfl⟩
    have R1 := Lib.hid hR1
    clear hR1
    by_cases he1 : e1 = 0
    case neg =>
      have HD1 : Hid (((e1 : Int) == 0) = false) := Lib.hid (beq_eq_false_iff_ne.2 (by omega))
      have HE := Lib.hid he1
      clear he1
      go_wp2_with (first
        | (go_at_call 79; go_must (refine (ru_any b A n c a _ (by omega) (HS.out _ HX.out.up).rb).mono ?_); rw [R1.out]; rintro r w1 ⟨rfl, rfl⟩)
        | (go_at_call 78; go_must (refine (need_any (e1 : Int) 0 HX.out rfl).mono ?_); rw [HD1.out]; rintro r x1 ⟨rfl, hz⟩; have HX1 : Hid (OW w (boxO gk [.bool false] :: (blkO R g lv sv zs ++ rest)) x1) := Lib.hid hz; clear hz))
      go_ret
      exact hfail.out _ _ HX1.out ((List.Sublist.refl _).cons _) (rd1_a R1.out HE.out) hlt
    have HD1 : Hid (((e1 : Int) == 0) = true) := Lib.hid (by rw [he1]; rfl)
    have HE1 := Lib.hid he1
    clear he1
    have hu64 : u < 18446744073709551616 := by have h1 := readU_val b (a : Nat); rw [R1.out] at h1; exact h1
    by_cases hu : kl < u
    case pos =>
      have hd2 : decide ((u : Int) > (kl : Int)) = true := decide_eq_true (by omega)
      go_wp2_with (first
        | (go_at_call 79; go_must (refine (ru_any b A n c a _ (by omega) (HS.out _ HX.out.up).rb).mono ?_); rw [R1.out]; rintro r w1 ⟨rfl, rfl⟩)
        | (go_at_call 78; go_must (refine (need_any (e1 : Int) 0 HX.out rfl).mono ?_); rw [HD1.out]; rintro r x1 ⟨rfl, hz⟩; have HX1 : Hid (OW w (boxO gk [.bool true] :: (blkO R g lv sv zs ++ rest)) x1) := Lib.hid hz; clear hz))
      go_ret
      exact hfail.out _ _ HX1.out ((List.Sublist.refl _).cons _) (rd1_b R1.out (by rw [HKL.out]; exact hu)) hlt
    have hd2 : decide ((u : Int) > (kl : Int)) = false := decide_eq_false (by omega)
    obtain ⟨k2, p2, e2, hR2⟩ : ∃ k2 p2 e2, readBy b (p1 : Nat) (n : Nat) = (k2, p2, e2) := ⟨_, _, _, rfl⟩
    have R2 := Lib.hid hR2
    obtain ⟨k2n, hk2n⟩ : ∃ z, z = k2.length := ⟨_, rfl⟩
    have HK2 := Lib.hid hk2n.symm
    have R1' : Hid (readU b (a : Nat) = (u, p1, 0)) := Lib.hid (by rw [← HE1.out]; exact R1.out)
    have R2L : Hid (readBy b (p1 : Nat) (b.length : Nat) = (k2, p2, e2)) := Lib.hid (by rw [HL.out]; exact R2.out)
    have hk2b : k2n ≤ 1099511000000 := by
      have h1 := readBy_le5 b (p1 : Int) (n : Int)
      rw [R2.out] at h1
      have h1 : k2.length ≤ b.length := h1
      have := HL.out
      omega
    obtain ⟨bo2, hbo2⟩ : ∃ z : Bool, ((e2 : Int) == 0) = z := ⟨_, rfl⟩
    have HD2 := Lib.hid hbo2
    clear hR2 hk2n hbo2
    have tk1 : True := trivial
    have tk2 : True := trivial
    go_upto_if 51 with (first
      | (go_at_call 79; go_must (refine (ru_any b A n c a _ (by omega) (HS.out _ HX.out.up).rb).mono ?_); rw [R1.out]; rintro r w1 ⟨rfl, rfl⟩)
      | (go_at_call 78; have _t := tk1; go_must (refine (need_any (e1 : Int) 0 HX.out rfl).mono ?_); rw [HD1.out]; rintro r x1 ⟨rfl, hz⟩; have HX1 : Hid (OW w (boxO gk [.bool true] :: (blkO R g lv sv zs ++ rest)) x1) := Lib.hid hz; clear hz tk1)
      | (go_at_call 80; go_must (refine (rby_any b A n c p1 n _ (HS.out _ HX1.out.up) (by omega) (by omega)).mono ?_); rw [R2.out]; rintro r x2 hp; obtain ⟨A3, c3, rfl, hs3, ho, hb⟩ := hp.at_ HK2.out rfl rfl; have HX2 := Lib.hid (HX1.out.addF9 (OW.byt1 hb ho)); clear hp ho hb hs3 HX1)
      | (go_at_call 78; have _t := tk2; go_must (refine (need_any (e2 : Int) 1 HX2.out rfl).mono ?_); rw [HD2.out]; rintro r x3 ⟨rfl, hz⟩; have HX3 : Hid (OW w (bytO 5 (A3, c3, k2) :: boxO gk [.bool bo2] :: (blkO R g lv sv zs ++ rest)) x3) := Lib.hid hz; clear hz tk2 HX2))
    clear HX
    cases bo2 with
    | false =>
      have hE2 : e2 ≠ 0 := fun h => by have h1 := HD2.out; rw [h] at h1; cases h1
      have HE2 := Lib.hid hE2
      clear hE2
      go_wp2_with fail
      go_ret
      exact hfail.out _ _ HX3.out (((List.Sublist.refl _).cons _).cons _) (rd1_c R1'.out (by rw [HKL.out]; omega) R2L.out HE2.out) hlt
    | true =>
    have HE2 : Hid (e2 = 0) := Lib.hid (by have h1 := HD2.out; rw [beq_iff_eq] at h1; omega)
    obtain ⟨vv, p3, e3, hR3⟩ : ∃ vv p3 e3, readBy b (p2 : Nat) 4096 = (vv, p3, e3) := ⟨_, _, _, rfl⟩
    have R3 := Lib.hid hR3
    obtain ⟨vn, hvn⟩ : ∃ z, z = vv.length := ⟨_, rfl⟩
    have HVN := Lib.hid hvn.symm
    obtain ⟨bo3, hbo3⟩ : ∃ z : Bool, ((e3 : Int) == 0) = z := ⟨_, rfl⟩
    have HD3 := Lib.hid hbo3
    clear hR3 hvn hbo3
    have R2' : Hid (readBy b (p1 : Nat) (b.length : Nat) = (k2, p2, 0)) := Lib.hid (by rw [R2L.out, HE2.out])
    have tk2 : True := trivial
    go_upto_if 62 with (first
      | (go_at_call 80; go_must (refine (rby_any b A n c p2 4096 _ (HS.out _ HX3.out.up) (by omega) (by omega)).mono ?_); rw [R3.out]; rintro r x4 hp; obtain ⟨A4, c4, rfl, hs4, ho, hb⟩ := hp.at_ HVN.out rfl rfl; have HX4 := Lib.hid (HX3.out.addF9 (OW.byt1 hb ho)); clear hp ho hb hs4)
      | (go_at_call 78; have _t := tk2; go_must (refine (need_any (e3 : Int) 2 HX4.out rfl).mono ?_); rw [HD3.out]; rintro r x5 ⟨rfl, hz⟩; have HX5 : Hid (OW w (bytO 5 (A4, c4, vv) :: bytO 5 (A3, c3, k2) :: boxO gk [.bool bo3] :: (blkO R g lv sv zs ++ rest)) x5) := Lib.hid hz; clear hz tk2))
    clear HX3
    cases bo3 with
    | false =>
      have hE3 : e3 ≠ 0 := fun h => by have h1 := HD3.out; rw [h] at h1; cases h1
      have HE3 := Lib.hid hE3
      clear hE3
      go_wp2_with fail
      go_ret
      exact hfail.out _ _ HX5.out ((((List.Sublist.refl _).cons _).cons _).cons _) (rd1_d R1'.out (by rw [HKL.out]; omega) R2'.out R3.out HE3.out) hlt
    | true =>
    have HE3 : Hid (e3 = 0) := Lib.hid (by have h1 := HD3.out; rw [beq_iff_eq] at h1; omega)
    have R3' : Hid (readBy b (p2 : Nat) 4096 = (vv, p3, 0)) := Lib.hid (by rw [R3.out, HE3.out])
    obtain ⟨K, hK⟩ : ∃ z, z = key.take u ++ k2 := ⟨_, rfl⟩
    obtain ⟨kn, hkn⟩ : ∃ z, z = K.length := ⟨_, rfl⟩
    obtain ⟨pe, pf, hP⟩ : ∃ pe pf, ParseKeyE K = (pe, pf) := ⟨_, _, rfl⟩
    obtain ⟨bo4, hbo4⟩ : ∃ z : Bool, (pf == 0) = z := ⟨_, rfl⟩
    have HK := Lib.hid hK
    have HKN := Lib.hid hkn.symm
    have HP := Lib.hid hP
    have HD4 := Lib.hid hbo4
    have hknb : kn ≤ 1099511001048 := by rw [hkn, hK, List.length_append, List.length_take]; have := HKL.out; have := HK2.out; omega
    have HFL : Hid ([key.take u, k2].flatten = K) := Lib.hid (by rw [hK]; simp)
    have hkcap : kl ≤ kc := by
      have h1 := (HKA.out.sl HKL.out HX5.out fun z hz => List.mem_cons_of_mem _ (List.mem_cons_of_mem _ (List.mem_cons_of_mem _ (List.mem_append_left _ (rowZ_mem hz (by simp [rowsZ])))))).cap
      exact h1
    have HSK : Hid (Sl x5 KA u kc (key.take u)) := Lib.hid ((HKA.out.sl HKL.out HX5.out fun z hz => List.mem_cons_of_mem _ (List.mem_cons_of_mem _ (List.mem_cons_of_mem _ (List.mem_append_left _ (rowZ_mem hz (by simp [rowsZ])))))).take (by omega))
    have HSR : Hid (Sl x5 A3 k2n c3 k2) := Lib.hid (HX5.out.sl (i := 1) rfl HK2.out)
    clear hK hkn hP hbo4
    have i1 : (0 : Int) ≤ (u : Int) := by omega
    have i2 : (u : Int) ≤ (kc : Int) := by omega
    have tk3 : True := trivial
    go_upto_if 77 with (first
      | (go_at_call 81; go_must (refine (sconcat_any [key.take u, k2] _ 2 2 _ (by omega) (by exact rbs_two HSK.out HSR.out _ _) (by rw [HFL.out, HKN.out]; omega)).mono ?_); rw [HFL.out]; rintro r x6 hp; obtain ⟨A5, c5, rfl, _, ho, hb⟩ := hp.at_ HKN.out; have HX6 := Lib.hid ((HX5.out.al (.cells #[.slice KA u kc, .slice A3 k2n c3] 24)).addF9 (OW.byt1 hb ho)); clear hp ho hb)
      | (go_at_call 82; go_must (refine (parsekey_any K A5 kn c5 _ (HX6.out.sl (i := 0) rfl HKN.out) (by omega)).mono ?_); rw [HP.out]; rintro r x7 ⟨A6, c6, B6, d6, D6, q6, rfl, hr, hb⟩; have HX7 := Lib.hid (HX6.out.addF9 (OW.rows1 hb hr)); clear hr hb)
      | (refine wl_alloc rfl rfl [.slice none 0 0, .int .i64 0, .slice none 0 0, .int .i64 0, .int .i64 0, .int .i64 0, .slice none 0 0] (.inl (by kernel_rfl)) HX7.out ?_; intro ge z8 hz _; have HX8 := Lib.hid (hz.perm List.perm_append_comm); clear hz)
      | (refine wl_put rfl (.tmp 16) (.tmp 72) rfl HX8.out 0 rfl rfl [.slice A6 pe.row.length c6, .int .i64 pe.fam, .slice B6 pe.qual.length d6, .int .i64 pe.ts, .int .i64 pe.seq, .int .i64 pe.kind, .slice D6 pe.val.length q6] rfl rfl (by kernel_rfl) (by simp [Value.oneCell']) ?_; intro z9 hz _; have HX9 := Lib.hid hz; clear hz HX8)
      | (go_at_call 78; have _t := tk3; go_must (refine (need_any pf 7 HX9.out rfl).mono ?_); rw [HD4.out]; rintro r x9 ⟨rfl, hz⟩; have HX10 : Hid (OW w (boxO ge [.slice A6 pe.row.length c6, .int .i64 pe.fam, .slice B6 pe.qual.length d6, .int .i64 pe.ts, .int .i64 pe.seq, .int .i64 pe.kind, .slice D6 pe.val.length q6] :: bytO 5 (A6, c6, pe.row) :: bytO 5 (B6, d6, pe.qual) :: bytO 5 (D6, q6, pe.val) :: bytO 5 (A5, c5, K) :: bytO 5 (A4, c4, vv) :: bytO 5 (A3, c3, k2) :: boxO gk [.bool bo4] :: (blkO R g lv sv zs ++ rest)) x9) := Lib.hid hz; clear hz tk3))
    clear HX5 HX6 HX7 HX9
    have HL1 : Hid (zs.length = k) := Lib.hid HZ.out.2
    cases bo4 with
    | false =>
      have hE4 : pf ≠ 0 := fun h => by have h1 := HD4.out; rw [h] at h1; cases h1
      have HE4 := Lib.hid hE4
      clear hE4
      go_wp2_with fail
      go_ret
      exact hfail.out _ _ HX10.out (.cons _ (.cons _ (.cons _ (.cons _ (.cons _ (.cons _ (.cons _ (.cons _ (List.Sublist.refl _))))))))) (rd1_e R1'.out (by rw [HKL.out]; omega) R2'.out R3'.out (by rw [← HK.out]; exact HP.out) HE4.out) hlt
    | true =>
    have hE4 : pf = 0 := by have h1 := HD4.out; rw [beq_iff_eq] at h1; exact h1
    have HPI := ParseKey_is (b := K) (by rw [HP.out]; exact hE4)
    rw [HP.out] at HPI
    have HPE := Lib.hid HPI
    have hkn3 : kn ≤ 1048 := by have h1 := keyE_len HPI.1; rw [HPI.2.1, HKN.out] at h1; exact h1
    have HRG : Hid (rdF b (k + 1) = some (entsZ zs ++ [{ pe with val := vv }], K, p3)) := Lib.hid (rdF_go HRD.out (by
      have h1 := rd1_ok (key := key) R1'.out (by rw [HKL.out]; omega) R2'.out R3'.out (by rw [← HK.out, HP.out, hE4])
      rw [← HK.out] at h1
      exact h1))
    clear hE4 HPI
    obtain ⟨LA, lc, hlv, _⟩ := own_slice (HX10.out.row (i := 9) rfl)
    obtain ⟨SA, sc, hsv, _⟩ := own_slice (HX10.out.row (i := 10) rfl)
    obtain ⟨M, hM⟩ : ∃ z, z = (zs.reverse.flatMap rowsZ).map (bytO 5) ++ rest := ⟨_, rfl⟩
    obtain ⟨EC, hEC⟩ : ∃ z, z = zs.flatMap (·.1.cells) := ⟨_, rfl⟩
    obtain ⟨KC, hKC⟩ : ∃ z, z = zs.map (valR ·.2) := ⟨_, rfl⟩
    have HX11 : Hid (OW w (boxO ge [.slice A6 pe.row.length c6, .int .i64 pe.fam, .slice B6 pe.qual.length d6, .int .i64 pe.ts, .int .i64 pe.seq, .int .i64 pe.kind, .slice D6 pe.val.length q6] :: bytO 5 (A6, c6, pe.row) :: bytO 5 (B6, d6, pe.qual) :: bytO 5 (D6, q6, pe.val) :: bytO 5 (A5, c5, K) :: bytO 5 (A4, c4, vv) :: bytO 5 (A3, c3, k2) :: boxO gk [.bool true] :: boxO g [i64v R, .slice LA k lc, .slice SA k sc] :: rowO 37 7 (.slice LA k lc) (k) (EC) :: rowO 24 1 (.slice SA k sc) (k) (KC) :: M) x9) := Lib.hid (by
      have h := HX10.out
      rw [hlv, hsv] at h
      unfold blkO at h
      rw [HL1.out, ← hEC, ← hKC, List.cons_append, List.cons_append, List.cons_append, ← hM] at h
      exact h)
    have HM := Lib.hid hM
    have HEC := Lib.hid hEC
    have HKC := Lib.hid hKC
    clear HX10 hM hEC hKC hlv hsv
    go_wp2_with (refine wl_put1 rfl (.tmp 79) (.tmp 78) rfl HX11.out 0 rfl 6 rfl (by show 6 < 7; decide) (.slice A4 vn c4) rfl (by kernel_rfl) rfl ?_; intro x10 hz _; have HX12 : Hid (OW w (boxO ge [.slice A6 pe.row.length c6, .int .i64 pe.fam, .slice B6 pe.qual.length d6, .int .i64 pe.ts, .int .i64 pe.seq, .int .i64 pe.kind, .slice A4 vn c4] :: bytO 5 (A6, c6, pe.row) :: bytO 5 (B6, d6, pe.qual) :: bytO 5 (D6, q6, pe.val) :: bytO 5 (A5, c5, K) :: bytO 5 (A4, c4, vv) :: bytO 5 (A3, c3, k2) :: boxO gk [.bool true] :: boxO g [i64v R, .slice LA k lc, .slice SA k sc] :: rowO 37 7 (.slice LA k lc) (k) (EC) :: rowO 24 1 (.slice SA k sc) (k) (KC) :: M) x10) := Lib.hid hz; clear hz HX11)
    refine lt_start [7, 10] (by kernel_rfl) ?_
    intro xd hd
    refine ⟨fun z => OW w (boxO ge [.slice A6 pe.row.length c6, .int .i64 pe.fam, .slice B6 pe.qual.length d6, .int .i64 pe.ts, .int .i64 pe.seq, .int .i64 pe.kind, .slice A4 vn c4] :: bytO 5 (A6, c6, pe.row) :: bytO 5 (B6, d6, pe.qual) :: bytO 5 (D6, q6, pe.val) :: bytO 5 (A5, c5, K) :: bytO 5 (A4, c4, vv) :: bytO 5 (A3, c3, k2) :: boxO gk [.bool true] :: boxO g [i64v R, .slice LA k lc, .slice SA k sc] :: rowO 37 7 (.slice LA k lc) (k) (EC) :: rowO 24 1 (.slice SA k sc) (k) (KC) :: M) z, ?_⟩
    have HS2 := Lib.hid (HX12.out.later hd)
    refine lt_pure 0 rfl (by kernel_rfl) (by kernel_rfl) (by kernel_rfl) (by kernel_rfl) (fun _ _ _ h => h) (v := ?_) (yi_run rfl (fun w => ?_)) (fun _ => HS2.out) ?_
    rotate_left
    · first | (go_simp; done) | (go_simp; with_reducible rfl)
    simp only [Act.put, List.setIfInBounds_toArray, List.set_cons_zero, List.set_cons_succ]
    refine lt_pure 1 rfl (by kernel_rfl) (by kernel_rfl) (by kernel_rfl) (by kernel_rfl) (fun _ _ _ h => h) (v := ?_) (yi_run rfl (fun w => ?_)) (fun _ => HS2.out) ?_
    rotate_left
    · first | (go_simp; done) | (go_simp; with_reducible rfl)
    simp only [Act.put, List.setIfInBounds_toArray, List.set_cons_zero, List.set_cons_succ]
    refine lt_pure 2 rfl (by kernel_rfl) (by kernel_rfl) (by kernel_rfl) (by kernel_rfl) (fun _ _ _ h => h) (v := ?_) (yi_run rfl (fun w => ?_)) (fun _ => HS2.out) ?_
    rotate_left
    · first | (go_simp; done) | (go_simp; with_reducible rfl)
    simp only [Act.put, List.setIfInBounds_toArray, List.set_cons_zero, List.set_cons_succ]
    refine lt_pure 3 rfl (by kernel_rfl) (by kernel_rfl) (by kernel_rfl) (by kernel_rfl) (fun _ _ _ h => h) (v := ?_) (yi_run rfl (fun w => ?_)) (fun _ => HS2.out) ?_
    rotate_left
    · first | (go_simp; done) | (go_simp; with_reducible rfl)
    simp only [Act.put, List.setIfInBounds_toArray, List.set_cons_zero, List.set_cons_succ]
    refine lt_take 4 [7, 8, 9, 10] rfl (by kernel_rfl) (by kernel_rfl) (by kernel_rfl) (by kernel_rfl) (by kernel_rfl) (fun _ _ _ h => h) (yi_cell rfl rfl rfl (fun w hS => OW.cell hS (i := 8) (j := 1) rfl rfl) (fun w => Tryd.isAgg22 w)) HS2.out ?_
    simp only [Act.put, List.setIfInBounds_toArray, List.set_cons_zero, List.set_cons_succ]
    refine lt_take 5 [6, 7, 8, 9, 10] rfl (by kernel_rfl) (by kernel_rfl) (by kernel_rfl) (by kernel_rfl) (by kernel_rfl) (fun _ _ _ h => h) (yi_row rfl rfl rfl (fun w hS => OW.range hS (i := 0) rfl) ent_row5) HS2.out ?_
    simp only [Act.put, List.setIfInBounds_toArray, List.set_cons_zero, List.set_cons_succ]
    refine lt_op 6 rfl (by kernel_rfl) rfl ?_
    refine wpo_build rfl #[.slice A6 pe.row.length c6, .int .i64 pe.fam, .slice B6 pe.qual.length d6, .int .i64 pe.ts, .int .i64 pe.seq, .int .i64 pe.kind, .slice A4 vn c4] Tryd.entsS (.agg #[.slice none 0 0, .int .i64 0, .slice none 0 0, .int .i64 0, .int .i64 0, .int .i64 0, .slice none 0 0]) (by kernel_rfl) (by decide) (by decide) (by decide) rfl (by kernel_rfl) HS2.out ?_
    intro g4 y4 hz hb
    have HR : Hid (Reads y4 y4.heap.size 7 (some ⟨g4, 0, none⟩) 1 [.slice A6 pe.row.length c6, .int .i64 pe.fam, .slice B6 pe.qual.length d6, .int .i64 pe.ts, .int .i64 pe.seq, .int .i64 pe.kind, .slice A4 vn c4]) := Lib.hid (Reads.own (OW.row (OW.right hz) (i := 0) rfl))
    replace HS2 := Lib.hid (HS2.out.later hb)
    clear hz hb
    refine ⟨fun _ => HS2.out, ?_⟩
    simp only [Act.put, List.setIfInBounds_toArray, List.set_cons_zero, List.set_cons_succ]
    refine lt_end 7 rfl (by kernel_rfl) rfl (by kernel_rfl) ?_
    refine wpo_append (.tmp 84) (.tmp 86) rfl Tryd.entsS HS2.out 9 rfl rfl _ (some ⟨g4, 0, none⟩) 1 1 [.slice A6 pe.row.length c6, .int .i64 pe.fam, .slice B6 pe.qual.length d6, .int .i64 pe.ts, .int .i64 pe.seq, .int .i64 pe.kind, .slice A4 vn c4] rfl HR.out (by simp [Value.oneCell']) (by unfold maxLen; omega) (by omega) ?_
    intro A7 c7 y5 hz _
    have HY := Lib.hid hz
    clear hz HR
    simp only [Act.put, List.setIfInBounds_toArray, List.set_cons_zero, List.set_cons_succ]
    refine lt_pureF 8 rfl (by kernel_rfl) (by kernel_rfl) (by kernel_rfl) (by kernel_rfl) (by kernel_rfl) (fun _ _ _ h => h) (v := ?_) (yi_run rfl (fun w => ?_)) ?_
    rotate_left
    · first | (go_simp; done) | (go_simp; with_reducible rfl)
    simp only [Act.put, List.setIfInBounds_toArray, List.set_cons_zero, List.set_cons_succ]
    refine lt_pureF 9 rfl (by kernel_rfl) (by kernel_rfl) (by kernel_rfl) (by kernel_rfl) (by kernel_rfl) (fun _ _ _ h => h) (v := ?_) (yi_run rfl (fun w => ?_)) ?_
    rotate_left
    · first | (go_simp; done) | (go_simp; with_reducible rfl)
    simp only [Act.put, List.setIfInBounds_toArray, List.set_cons_zero, List.set_cons_succ]
    refine lt_end 10 rfl (by kernel_rfl) rfl (by kernel_rfl) ?_
    refine wpo_put1 rfl HY.out 8 rfl 1 rfl (by show 1 < 3; decide) (.slice A7 (k + 1) c7) rfl (by kernel_rfl) rfl ?_
    intro y6 hz _
    replace HY : Hid (OW w (boxO ge [.slice A6 pe.row.length c6, .int .i64 pe.fam, .slice B6 pe.qual.length d6, .int .i64 pe.ts, .int .i64 pe.seq, .int .i64 pe.kind, .slice A4 vn c4] :: bytO 5 (A6, c6, pe.row) :: bytO 5 (B6, d6, pe.qual) :: bytO 5 (D6, q6, pe.val) :: bytO 5 (A5, c5, K) :: bytO 5 (A4, c4, vv) :: bytO 5 (A3, c3, k2) :: boxO gk [.bool true] :: boxO g [i64v R, .slice A7 (k + 1) c7, .slice SA k sc] :: rowO 37 7 (.slice A7 (k + 1) c7) (k + 1) (EC ++ [.slice A6 pe.row.length c6, .int .i64 pe.fam, .slice B6 pe.qual.length d6, .int .i64 pe.ts, .int .i64 pe.seq, .int .i64 pe.kind, .slice A4 vn c4]) :: rowO 24 1 (.slice SA k sc) (k) (KC) :: M) y6) := Lib.hid hz
    clear hz
    simp only [Act.put]
    refine lt_done (by kernel_rfl) ?_
    clear HS2
    have tk9 : True := trivial
    go_wp2_with (first
      | (refine wpList_load_cell rfl 52 (.tmp 93) rfl rfl (HY.out.cell (i := 8) (j := 2) rfl rfl) (fun w => Tryd.isAgg52 w) ?_)
      | (at_builtin; have _t := tk9; go_must (refine wl_append rfl (.tmp 94) (.tmp 96) rfl Tryd.keyS5 (HY.out.al (.cells #[.slice A5 kn c5] 24)) 10 rfl rfl _ (some ⟨y6.heap.size, 0, none⟩) 1 1 [.slice A5 kn c5] rfl (lit_one8 _ _ _ _ rfl) (by simp [Value.oneCell']) (by unfold maxLen; omega) (by omega) ?_); intro A8 c8 y7 hz _; have HQ := Lib.hid hz; clear hz tk9 HY)
      | (refine wl_put1 rfl (.tmp 99) (.tmp 97) rfl HQ.out 8 rfl 2 rfl (by show 2 < 3; decide) (.slice A8 (k + 1) c8) rfl (by kernel_rfl) rfl ?_; intro y8 hz _; have HQ2 : Hid (OW w (boxO ge [.slice A6 pe.row.length c6, .int .i64 pe.fam, .slice B6 pe.qual.length d6, .int .i64 pe.ts, .int .i64 pe.seq, .int .i64 pe.kind, .slice A4 vn c4] :: bytO 5 (A6, c6, pe.row) :: bytO 5 (B6, d6, pe.qual) :: bytO 5 (D6, q6, pe.val) :: bytO 5 (A5, c5, K) :: bytO 5 (A4, c4, vv) :: bytO 5 (A3, c3, k2) :: boxO gk [.bool true] :: boxO g [i64v R, .slice A7 (k + 1) c7, .slice A8 (k + 1) c8] :: rowO 37 7 (.slice A7 (k + 1) c7) (k + 1) (EC ++ [.slice A6 pe.row.length c6, .int .i64 pe.fam, .slice B6 pe.qual.length d6, .int .i64 pe.ts, .int .i64 pe.seq, .int .i64 pe.kind, .slice A4 vn c4]) :: rowO 24 1 (.slice A8 (k + 1) c8) (k + 1) (KC ++ [.slice A5 kn c5]) :: M) y8) := Lib.hid hz; clear hz HQ))
    go_roundw
    case rel =>
      refine ⟨k + 1, p3, zs ++ [(⟨A6, c6, B6, d6, A4, c4, { pe with val := vv }⟩, (A5, c5, K))], .slice A7 (k + 1) c7, .slice A8 (k + 1) c8, A5, kn, c5, K, by omega, by go_num, rfl, rfl, hkn3, HKN, Lib.hid (.inr ⟨_, List.mem_append_right _ (List.mem_singleton.2 rfl), rfl⟩), Lib.hid ⟨fun z hz => ?_, by rw [List.length_append, HL1.out]; rfl⟩, Lib.hid (by rw [entsZ_snoc]; exact HRG.out), Lib.hid ?_⟩
      · rcases List.mem_append.1 hz with h1 | h1
        · exact HZ.out.1 z h1
        · obtain rfl := List.mem_singleton.1 h1
          exact ⟨HPE.out.2.1.symm, (show (keyE pe).length ≤ 1048 from keyE_len HPE.out.1)⟩
      · have h := HQ2.out
        have h := (((((((h.front (i := 4) rfl).front (i := 5) rfl).front (i := 4) rfl).front (i := 4) rfl).front (i := 10) rfl).front (i := 10) rfl).front (i := 10) rfl).front (i := 10) rfl
        have e1 : (zs ++ [((⟨A6, c6, B6, d6, A4, c4, { pe with val := vv }⟩ : ER), (A5, c5, K))]).length = k + 1 := by rw [List.length_append, HL1.out]; rfl
        have e2 : (zs ++ [((⟨A6, c6, B6, d6, A4, c4, { pe with val := vv }⟩ : ER), (A5, c5, K))]).flatMap (·.1.cells) = EC ++ [.slice A6 pe.row.length c6, .int .i64 pe.fam, .slice B6 pe.qual.length d6, .int .i64 pe.ts, .int .i64 pe.seq, .int .i64 pe.kind, .slice A4 vn c4] := by
          rw [List.flatMap_append, HEC.out]; simp only [List.flatMap_cons, List.flatMap_nil, List.append_nil, ER.cells]; rw [HVN.out]
        have e3 : (zs ++ [((⟨A6, c6, B6, d6, A4, c4, { pe with val := vv }⟩ : ER), (A5, c5, K))]).map (valR ·.2) = KC ++ [.slice A5 kn c5] := by
          rw [List.map_append, HKC.out]; simp only [List.map_cons, List.map_nil, valR]; rw [HKN.out]
        unfold blkO
        rw [e1, e2, e3, List.reverse_append, List.flatMap_append, List.map_append, List.cons_append, List.cons_append, List.cons_append, List.append_assoc, ← HM.out]
        exact OW.sub h (.cons_cons _ (.cons_cons _ (.cons_cons _ (.cons_cons _ (.cons_cons _ (.cons_cons _ (.cons_cons _ (.cons_cons _ (.cons _ (.cons _ (.cons _ (List.Sublist.refl _))))))))))))
    case measure => simp [intOf]; omega
end Go.Proofs.YtmigjipfomfacaaDoor

/-
  Blocks: opening; plain laws.
-/
namespace Go.Proofs.YtmigjipfomfacaaDoor

def resB (b : List UInt8) : Nat := (b[b.length - 5]?.getD 0).toNat
def cntB (b : List UInt8) : Nat := numF b (b.length - 9)
def sumOkB (b : List UInt8) : Bool := lowB (sumL (b.take (b.length - 4))) == b.drop (b.length - 4)
/-- What Open answers: the entries, the error. -/
def openR (b : List UInt8) : Option (List Ent × List UInt8 × Nat) → Option (List Ent) × Int
  | none => (none, 51)
  | some r => if buildE5 (resB b : Int) r.1 = (b, 0) then (some r.1, 0) else (none, 51)
def openE (b : List UInt8) : Option (List Ent) × Int :=
  if 131072 < b.length then (none, 2) else if b.length < 9 then (none, 51) else if sumOkB b = false then (none, 52) else openR b (rdF (b.take (b.length - 9)) (cntB b))
theorem buildK_size (R : Nat) : ∀ (es acc : List Ent), sizeS (runB R acc) ≤ 131072 → (buildK R acc es).1 = 0 → sizeS (runB R (acc ++ es)) ≤ 131072
  | [], acc, ha, _ => by simpa using ha
  | e :: r, acc, ha, h => by
    unfold buildK at h
    split at h
    · rename_i h0
      have := buildK_size R r (acc ++ [e]) (by
        rw [runB_snoc]
        unfold addC at h0
        split at h0
        · rename_i h1; exact absurd h0 h1
        · split at h0
          · cases h0
          · split at h0
            · cases h0
            · rename_i h1; exact Nat.le_of_not_lt h1) h
      rwa [List.append_assoc] at this
    · rename_i h0; exact absurd h h0
theorem numF_four (p r : List UInt8) {n k : Nat} (h : n < 4294967296) (hk : k = p.length) : numF (p ++ (four4 n ++ r)) k = n := by
  subst hk
  have e : ∀ j, (p ++ (four4 n ++ r))[p.length + j]? = (four4 n ++ r)[j]? := fun j => by rw [List.getElem?_append_right (by omega), Nat.add_sub_cancel_left]
  unfold numF
  have e0 := e 0
  rw [Nat.add_zero] at e0
  rw [e0, e 1, e 2, e 3]
  unfold four4 numB
  simp only [List.cons_append, List.nil_append, List.getElem?_cons_succ, List.getElem?_cons_zero, Option.getD_some, UInt8.toNat_ofNat']
  omega
theorem layS_len9 (R : Nat) (s : BSt) : (layS R s).length = s.body.length + (s.places.flatMap four4).length + 9 := by rw [layS_len]; unfold sizeS; rw [places_len]
theorem res_lay (R : Nat) (s : BSt) (h : R < 256) : resB (layS R s) = R := by
  unfold resB
  rw [layS_len9, layS_foot, ← List.append_assoc, ← List.append_assoc, List.getElem?_append_right (by simp only [List.length_append, four4_len]; omega)]
  rw [show s.body.length + (s.places.flatMap four4).length + 9 - 5 - (s.body ++ s.places.flatMap four4 ++ four4 s.n).length = 0 from by simp only [List.length_append, four4_len]; omega]
  show (UInt8.ofNat R).toNat = R
  rw [UInt8.toNat_ofNat']; omega
theorem cnt_lay (R : Nat) (s : BSt) (h : s.n < 4294967296) : cntB (layS R s) = s.n := by
  unfold cntB
  rw [layS_len9, layS_foot, ← List.append_assoc]
  exact numF_four _ _ h (by rw [List.length_append]; omega)
theorem sum_lay (R : Nat) (s : BSt) : sumOkB (layS R s) = true := by
  have hl : (layS R s).length - 4 = (headB5 R s).length := by unfold layS; rw [List.length_append, lowB_len]; omega
  unfold sumOkB
  rw [hl]
  unfold layS
  rw [List.take_left' rfl, List.drop_left' rfl]
  simp
theorem body_lay (R : Nat) (s : BSt) : (layS R s).take ((layS R s).length - 9) = s.body ++ s.places.flatMap four4 := by
  rw [layS_len9, layS_foot, ← List.append_assoc]
  exact List.take_left' (by rw [List.length_append]; omega)
theorem openE_lay {R : Nat} {L : List Ent} {b : List UInt8} (h : buildE5 (R : Int) L = (b, 0)) : openE b = (some L, 0) ∧ resB b = R := by
  obtain ⟨h1, h2, h3, h4, h5, h6⟩ := build_parts h
  have hsz : sizeS (runB R L) ≤ 131072 := by
    have := buildK_size R L [] (by show 9 ≤ 131072; decide) h3
    simpa using this
  have hn := runB_n R L
  have hm := n_le_size _ (runB_many R L)
  have hR : resB b = R := by rw [h5]; exact res_lay R _ (by omega)
  refine ⟨?_, hR⟩
  have hlen : b.length = sizeS (runB R L) := by rw [h5, layS_len]
  have h9 : 9 ≤ sizeS (runB R L) := by unfold sizeS; omega
  unfold openE
  rw [if_neg (by omega), if_neg (by omega), if_neg (by rw [h5, sum_lay]; decide)]
  have hc : cntB b = L.length := by rw [h5, cnt_lay R _ (by omega), hn]
  have hb : b.take (b.length - 9) = (runB R L).body ++ (runB R L).places.flatMap four4 := by rw [h5]; exact body_lay R _
  rw [hc, rdF_back R L _ h6 hb L.length (Nat.le_refl _), List.take_length]
  unfold openR
  simp only []
  rw [hR, if_pos h]
theorem openE_ok {b : List UInt8} {L : List Ent} (h : (openE b).1 = some L) : buildE5 (resB b : Int) L = (b, 0) ∧ (openE b).2 = 0 := by
  unfold openE at h ⊢
  split at h
  · cases h
  · split at h
    · cases h
    · split at h
      · cases h
      · rename_i h1 h2 h3
        rw [if_neg h1, if_neg h2, if_neg h3]
        cases hr : rdF (b.take (b.length - 9)) (cntB b) with
        | none => rw [hr] at h; cases h
        | some r =>
          rw [hr] at h
          unfold openR at h ⊢
          simp only [] at h ⊢
          split at h
          · rename_i h4
            injection h with h
            subst h
            rw [if_pos h4]
            exact ⟨h4, rfl⟩
          · cases h
theorem openE_no {b : List UInt8} (h : (openE b).1 = none) : (openE b).2 ≠ 0 := by
  unfold openE at h ⊢
  by_cases h1 : 131072 < b.length
  · rw [if_pos h1]; show (2 : Int) ≠ 0; decide
  rw [if_neg h1] at h ⊢
  by_cases h2 : b.length < 9
  · rw [if_pos h2]; show (51 : Int) ≠ 0; decide
  rw [if_neg h2] at h ⊢
  by_cases h3 : sumOkB b = false
  · rw [if_pos h3]; show (52 : Int) ≠ 0; decide
  rw [if_neg h3] at h ⊢
  cases hr : rdF (b.take (b.length - 9)) (cntB b) with
  | none => show ((51 : Int)) ≠ 0; decide
  | some r =>
    rw [hr] at h
    unfold openR at h ⊢
    simp only [] at h ⊢
    split at h
    · cases h
    · rename_i h4
      rw [if_neg h4]; show (51 : Int) ≠ 0; decide
end Go.Proofs.YtmigjipfomfacaaDoor

/-
  Open, walked.
-/
namespace Go.Proofs.YtmigjipfomfacaaDoor
open Go.RowKit

def Bk5 (R : Nat) (L : List Ent) (g : Nat) (os : List Ob) : Prop := ∃ lv kv zs, os = blkO R g lv kv zs ∧ entsZ zs = L ∧ ZOk zs
def OpenP (b : List UInt8) (w : World) (e : Ending) (z : World) : Prop :=
  (∃ L g os, (openE b).1 = some L ∧ e = .returned (.tuple #[.pointer (some ⟨g, 0, none⟩), .int .i64 0]) ∧ Bk5 (resB b) L g os ∧ OW w os z) ∨
  ((openE b).1 = none ∧ e = .returned (.tuple #[.pointer none, .int .i64 (openE b).2]) ∧ Below w.heap.size w z)
theorem open_no {b : List UInt8} {w z : World} {k : Int} (h : openE b = (none, k)) (hb : Below w.heap.size w z) : OpenP b w (.returned (.tuple #[.pointer none, .int .i64 k])) z :=
  .inr ⟨by rw [h], by rw [h], hb⟩
/-- The entries of a block's row read. -/
theorem blk_ens {w x : World} {R g : Nat} {lv kv : Value} {zs : List ZR} {rest : List Ob} (h : OW w (blkO R g lv kv zs ++ rest) x) : ∃ A c, lv = .slice A zs.length c ∧ Ens x A zs.length (entsZ zs) := by
  obtain ⟨A, c, rfl, _⟩ := own_slice (h.row (i := 1) rfl)
  refine ⟨A, c, rfl, zs.map (·.1), by unfold entsZ; rw [List.map_map]; rfl, ?_, fun r hr => ?_⟩
  · have h1 := Reads.own (h.row (i := 1) rfl)
    have e : zs.flatMap (·.1.cells) = (zs.map (·.1)).flatMap ER.cells := by rw [List.flatMap_map]
    rw [e] at h1
    exact h1
  · obtain ⟨z, hz, rfl⟩ := List.mem_map.1 hr
    refine ⟨h.slm (T := 5) (List.mem_append_left _ (rowZ_mem hz (by simp [rowsZ]))) rfl, h.slm (T := 5) (List.mem_append_left _ (rowZ_mem hz (by simp [rowsZ]))) rfl, h.slm (T := 5) (List.mem_append_left _ (rowZ_mem hz (by simp [rowsZ]))) rfl⟩

theorem openR_zero {b : List UInt8} (h : resB b = 0) (r : Option (List Ent × List UInt8 × Nat)) : openR b r = (none, 51) := by
  cases r with
  | none => rfl
  | some r =>
    unfold openR
    simp only []
    rw [if_neg]
    rw [h]
    intro e
    unfold buildE5 at e
    rw [if_pos (.inl (by decide))] at e
    injection e with _ e
    cases e
theorem ReadP.form {w z : World} {R g N : Nat} {rest : List Ob} {b : List UInt8} {e : Ending} (h : ReadP w R g rest b N e z) : ∃ lv kv zs bo, e = .returned (.bool bo) ∧ OW w (blkO R g lv kv zs ++ rest) z ∧ ZOk zs ∧ (bo = true → ∃ key a, rdF b N = some (entsZ zs, key, a)) ∧ (bo = false → rdF b N = none) := by
  obtain ⟨lv, kv, zs, h1, h2, ⟨key, a, h3, h4⟩ | ⟨h3, h4⟩⟩ := h
  · exact ⟨lv, kv, zs, true, h4, h1, h2, (fun _ => ⟨key, a, h3⟩), fun h => by cases h⟩
  · exact ⟨lv, kv, zs, false, h4, h1, h2, (fun h => by cases h), fun _ => h3⟩

set_option maxRecDepth 100000 in
set_option maxHeartbeats 4000000 in
theorem open_any (b : List UInt8) (A : Option Addr) (n c : Nat) (w : World) (hs : Sl w A n c b) (ht : TabAt 0 w) :
    Calls Tryd.prog 12 #[.slice A n c] w (OpenP b w) := by
  have HL := Lib.hid hs.rb.len
  by_cases h1 : 131072 < n
  case pos =>
    have HP : Hid (openE b = (none, 2)) := Lib.hid (by unfold openE; rw [if_pos (by rw [HL.out]; exact h1)])
    have hd : decide ((n : Int) > 131072) = true := decide_eq_true (by omega)
    clear hs ht
    go_enter Tryd.func12, Tryd.ntmps12
    go_wp2_with fail
    go_ret2
    exact open_no HP.out (Below.refl _ _)
  have hd1 : decide ((n : Int) > 131072) = false := decide_eq_false (by omega)
  by_cases h2 : n < 9
  case pos =>
    have HP : Hid (openE b = (none, 51)) := Lib.hid (by unfold openE; rw [if_neg (by rw [HL.out]; exact h1), if_pos (by rw [HL.out]; exact h2)])
    have hd : decide ((n : Int) < 9) = true := decide_eq_true (by omega)
    clear hs ht
    go_enter Tryd.func12, Tryd.ntmps12
    go_wp2_with fail
    go_ret2
    exact open_no HP.out (Below.refl _ _)
  have hd2 : decide ((n : Int) < 9) = false := decide_eq_false (by omega)
  have HSM : Hid (∀ z, Below w.heap.size w z → Calls Tryd.prog 44 #[.slice A n c] z fun e w' => e = .returned (.bool (sumOkB b)) ∧ Below z.heap.size z w') := Lib.hid fun z hz => by
    unfold sumOkB
    rw [HL.out]
    exact summed_any b A n c z (hs.later hz) (by omega) (ht.later hz)
  cases h3 : sumOkB b with
  | false =>
    have HP : Hid (openE b = (none, 52)) := Lib.hid (by unfold openE; rw [if_neg (by rw [HL.out]; exact h1), if_neg (by rw [HL.out]; exact h2), if_pos h3])
    rw [h3] at HSM
    clear hs ht h3
    go_enter Tryd.func12, Tryd.ntmps12
    go_wp2_with (go_at_call 44; go_must (refine (HSM.out _ (Below.refl _ _)).mono ?_); rintro e z1 ⟨rfl, hb⟩; have HB := Lib.hid hb; clear hb)
    go_ret2
    exact open_no HP.out HB.out
  | true =>
  rw [h3] at HSM
  obtain ⟨k, rfl⟩ : ∃ k, n = k + 9 := ⟨n - 9, by omega⟩
  have HPE : Hid (openE b = openR b (rdF (b.take k) (cntB b))) := Lib.hid (by
    unfold openE
    rw [if_neg (by rw [HL.out]; exact h1), if_neg (by rw [HL.out]; exact h2), if_neg (by rw [h3]; decide), HL.out]; rfl)
  obtain ⟨N, hN⟩ : ∃ z, z = cntB b := ⟨_, rfl⟩
  obtain ⟨r, hr⟩ : ∃ z, z = resB b := ⟨_, rfl⟩
  have hN32 : N < 4294967296 := by rw [hN]; exact numF_lt _ _
  have hr8 : r ≤ 255 := by rw [hr]; unfold resB; have := (b[b.length - 5]?.getD 0).toNat_lt; omega
  obtain ⟨b1, o1, _, rfl, hbl, _, _⟩ := hs.rb.at_ (show 0 < k + 9 by omega)
  have HSL : Hid (∀ z, Below w.heap.size w z → Sl z (some ⟨b1, o1, none⟩) (k + 9) c b) := Lib.hid fun z hz => hs.later hz
  have HTK : Hid (∀ z, Below w.heap.size w z → Sl z (some ⟨b1, o1, none⟩) k c (b.take k)) := Lib.hid fun z hz => (hs.later hz).take (by omega)
  have HTB : Hid (∀ z, Below w.heap.size w z → TabAt 0 z) := Lib.hid fun z hz => ht.later hz
  have HCE : Hid (∀ i, i < 9 → ∀ z, Below w.heap.size w z → z.cell? ⟨b1, o1 + (k + i), none⟩ = some (.int .u8 ((b[k + i]?.getD 0).toNat : Int))) := Lib.hid fun i hi z hz =>
    (hs.later hz).rb.cell (k := k + i) (by rw [List.getElem?_eq_getElem (by have := HL.out; omega)]; rfl)
  have HM : Hid (bits .or .i64 (bits .or .i64 (bits .or .i64 (wrap64 (wrap64 ((b[k]?.getD 0).toNat : Int) * 16777216)) (wrap64 (wrap64 ((b[k + 1]?.getD 0).toNat : Int) * 65536))) (wrap64 (wrap64 ((b[k + 2]?.getD 0).toNat : Int) * 256))) (wrap64 ((b[k + 3]?.getD 0).toNat : Int)) = (N : Int)) := Lib.hid (by
    rw [numB_walk, hN]; unfold cntB; rw [HL.out]; rfl)
  have HR4 : Hid (((b[k + 4]?.getD 0).toNat : Int) = (r : Int)) := Lib.hid (by rw [hr]; unfold resB; rw [HL.out]; rfl)
  have hcap := hs.cap
  have hlim := hs.lim
  have c4 := HCE.out 4 (by omega) w (Below.refl _ _)
  rw [HR4.out] at c4
  have HN := Lib.hid hN
  have HR := Lib.hid hr
  have hk1 : k ≤ 131063 := by omega
  clear hs ht h3 hN hr hd1 hd2 h1 h2
  have hd1 : decide ((k : Int) + 9 > 131072) = false := decide_eq_false (by omega)
  have hd2 : decide ((k : Int) + 9 < 9) = false := decide_eq_false (by omega)
  go_enter Tryd.func12, Tryd.ntmps12
  go_upto_region 7 with (first
    | (go_at_call 44; go_must (refine (HSM.out _ (Below.refl _ _)).mono ?_); rintro e z1 ⟨rfl, hb⟩; have HB := Lib.hid hb; have HX0 := Lib.hid ((OW.nil w).later hb); have c4 := HCE.out 4 (by omega) z1 HB.out; rw [HR4.out] at c4; clear hb))
  have i1 : (0 : Int) ≤ (k : Int) + 4 := by omega
  have i2 : ((k : Int) + 4).toNat = k + 4 := by omega
  have i3 : (0 : Int) ≤ (k : Int) := by omega
  have i4 : (k : Int) ≤ (c : Int) := by omega
  have i5 : (k : Int) ≤ (k : Int) + 9 := by omega
  go_wp2_with (first
    | (refine wl_box rfl (.tmp 28) rfl [.int .i64 (r : Int), .slice none 0 0, .slice none 0 0] rfl HX0.out ?_; intro g x1 hz _; have HX := Lib.hid ((hz.nilRow 37 7).nilRow 24 1); clear hz HX0))
  have c0 := HCE.out 0 (by omega) x1 HX.out.up
  have c1 := HCE.out 1 (by omega) x1 HX.out.up
  have c2 := HCE.out 2 (by omega) x1 HX.out.up
  have c3 := HCE.out 3 (by omega) x1 HX.out.up
  rw [Nat.add_zero] at c0
  rw [← Nat.add_assoc] at c1 c2 c3
  clear c4 i1 i2 i5
  go_quiet (fail)
  rw [HM.out]
  have HXB : Hid (OW w (blkO r g (.slice none 0 0) (.slice none 0 0) [] ++ []) (x1.drewN nq)) := Lib.hid (by
    have h := HX.out.later (below_drewN (n := nq) (Below.refl _ _))
    exact h)
  clear c0 c1 c2 c3 HX HM HCE
  generalize x1.drewN nq = x2 at *
  by_cases hr0 : r = 0
  case pos =>
    have HP : Hid (openE b = (none, 51)) := Lib.hid (by rw [HPE.out]; exact openR_zero (by rw [← HR.out]; exact hr0) _)
    have hd0 : ((r : Int) == 0) = true := by rw [hr0]; rfl
    clear hr0
    go_wp2_with (refine wpList_load_cell rfl 3 (.tmp 59) rfl rfl (show _ = some (Value.int .i64 (r : Int)) from HXB.out.cell (i := 0) (j := 0) rfl rfl) (fun w => Tryd.isAgg3 w) ?_)
    go_ret2
    exact open_no HP.out HXB.out.up
  have hd0 : ((r : Int) == 0) = false := beq_eq_false_iff_ne.2 (by omega)
  clear hr0
  go_upto_if 72 with (first
    | (refine wpList_load_cell rfl 3 (.tmp 59) rfl rfl (show _ = some (Value.int .i64 (r : Int)) from HXB.out.cell (i := 0) (j := 0) rfl rfl) (fun w => Tryd.isAgg3 w) ?_)
    | (go_at_call 45; go_must (refine (read_any (R := r) (g := g) (rest := []) HXB.out (b.take k) _ k c N (by omega) hN32 HTK.out).mono ?_); intro e z3 hp; obtain ⟨lv, kv, zs, bo, rfl, hx, hz, ht, hf⟩ := hp.form; have HX3 := Lib.hid hx; have HZ := Lib.hid hz; have HBT := Lib.hid ht; have HBF := Lib.hid hf; clear hp hx hz ht hf HXB))
  cases bo with
  | false =>
    have HP : Hid (openE b = (none, 51)) := Lib.hid (by rw [HPE.out, ← HN.out, HBF.out rfl]; rfl)
    go_wp2_with fail
    go_ret2
    exact open_no HP.out HX3.out.up
  | true =>
  obtain ⟨LA, lc, rfl, _⟩ := blk_ens HX3.out
  obtain ⟨L, hL⟩ : ∃ z, z = entsZ zs := ⟨_, rfl⟩
  obtain ⟨m, hm⟩ : ∃ z, z = zs.length := ⟨_, rfl⟩
  obtain ⟨B, be, hB⟩ : ∃ B be, buildE5 (r : Int) L = (B, be) := ⟨_, _, rfl⟩
  have HPQ : Hid (openE b = if (B, be) = (b, 0) then (some L, 0) else (none, 51)) := Lib.hid (by
    obtain ⟨key, a, h⟩ := HBT.out rfl
    rw [HPE.out, ← HN.out, h, ← hB, hL, HR.out]; rfl)
  have HEN : Hid (∀ z, OW w (blkO r g (.slice LA m lc) kv zs ++ []) z → Ens z LA m L) := Lib.hid fun z hz => by
    rw [hm] at hz
    obtain ⟨A', c', e', h⟩ := blk_ens hz
    injection e' with e1 e2 e3
    rw [hm, hL, e1]; exact h
  have HX4 : Hid (OW w (blkO r g (.slice LA m lc) kv zs ++ []) z3) := Lib.hid (by rw [hm]; exact HX3.out)
  obtain ⟨bn, hbn⟩ : ∃ z, z = B.length := ⟨_, rfl⟩
  have HBN := Lib.hid hbn.symm
  have HB := Lib.hid hB
  have hmb : m ≤ 4294967296 := by
    obtain ⟨key, a, h⟩ := HBT.out rfl
    have h1 := rdF_len h
    unfold entsZ at h1
    rw [List.length_map] at h1
    omega
  have HL3 := Lib.hid hL
  have HM3 := Lib.hid hm
  clear hB hL hm hbn HX3
  go_wp2_with fail
  refine lt_start [] (by kernel_rfl) ?_
  intro xd hd
  refine ⟨fun z => OW w (blkO r g (.slice LA m lc) kv zs ++ []) z, ?_⟩
  have HS := Lib.hid (HX4.out.later hd)
  refine lt_pure 0 rfl (by kernel_rfl) (by kernel_rfl) (by kernel_rfl) (by kernel_rfl) (fun _ _ _ h => h) (v := ?_) (yi_run rfl (fun w => ?_)) (fun _ => HS.out) ?_
  rotate_left
  · first | (go_simp; done) | (go_simp; with_reducible rfl)
  simp only [Act.put, List.setIfInBounds_toArray, List.set_cons_zero, List.set_cons_succ]
  refine lt_pure 1 rfl (by kernel_rfl) (by kernel_rfl) (by kernel_rfl) (by kernel_rfl) (fun _ _ _ h => h) (v := ?_) (yi_run rfl (fun w => ?_)) (fun _ => HS.out) ?_
  rotate_left
  · first | (go_simp; done) | (go_simp; with_reducible rfl)
  simp only [Act.put, List.setIfInBounds_toArray, List.set_cons_zero, List.set_cons_succ]
  refine lt_pure 2 rfl (by kernel_rfl) (by kernel_rfl) (by kernel_rfl) (by kernel_rfl) (fun _ _ _ h => h) (v := ?_) (yi_run rfl (fun w => ?_)) (fun _ => HS.out) ?_
  rotate_left
  · first | (go_simp; done) | (go_simp; with_reducible rfl)
  simp only [Act.put, List.setIfInBounds_toArray, List.set_cons_zero, List.set_cons_succ]
  refine lt_take 3 [8, 9, 10, 11, 12, 13] rfl (by kernel_rfl) (by kernel_rfl) (by kernel_rfl) (by kernel_rfl) (by kernel_rfl) (fun _ _ _ h => h) (yi_cell rfl rfl rfl (fun w hS => (show _ = some (Value.int .i64 (r : Int)) from OW.cell hS (i := 0) (j := 0) rfl rfl)) (fun w => Tryd.isAgg3 w)) HS.out ?_
  simp only [Act.put, List.setIfInBounds_toArray, List.set_cons_zero, List.set_cons_succ]
  refine lt_pure 4 rfl (by kernel_rfl) (by kernel_rfl) (by kernel_rfl) (by kernel_rfl) (fun _ _ _ h => h) (v := ?_) (yi_run rfl (fun w => ?_)) (fun _ => HS.out) ?_
  rotate_left
  · first | (go_simp; done) | (go_simp; with_reducible rfl)
  simp only [Act.put, List.setIfInBounds_toArray, List.set_cons_zero, List.set_cons_succ]
  refine lt_pure 5 rfl (by kernel_rfl) (by kernel_rfl) (by kernel_rfl) (by kernel_rfl) (fun _ _ _ h => h) (v := ?_) (yi_run rfl (fun w => ?_)) (fun _ => HS.out) ?_
  rotate_left
  · first | (go_simp; done) | (go_simp; with_reducible rfl)
  simp only [Act.put, List.setIfInBounds_toArray, List.set_cons_zero, List.set_cons_succ]
  refine lt_pure 6 rfl (by kernel_rfl) (by kernel_rfl) (by kernel_rfl) (by kernel_rfl) (fun _ _ _ h => h) (v := ?_) (yi_run rfl (fun w => ?_)) (fun _ => HS.out) ?_
  rotate_left
  · first | (go_simp; done) | (go_simp; with_reducible rfl)
  simp only [Act.put, List.setIfInBounds_toArray, List.set_cons_zero, List.set_cons_succ]
  refine lt_take 7 [8, 9, 10, 11, 12, 13] rfl (by kernel_rfl) (by kernel_rfl) (by kernel_rfl) (by kernel_rfl) (by kernel_rfl) (fun _ _ _ h => h) (yi_cell rfl rfl rfl (fun w hS => OW.cell hS (i := 0) (j := 1) rfl rfl) (fun w => Tryd.isAgg22 w)) HS.out ?_
  simp only [Act.put, List.setIfInBounds_toArray, List.set_cons_zero, List.set_cons_succ]
  refine lt_call 8 rfl (by kernel_rfl) rfl rfl ⟨_, Tryd.func10, by decide, by kernel_rfl⟩ [.int .i64 (r : Int), .slice LA m lc] rfl ?_
  refine (build_any (r : Int) L LA m lc _ (HEN.out _ HS.out) (by omega) (HTB.out _ HS.out.up)).mono ?_
  rw [HB.out]
  intro e z5 hp
  obtain ⟨A5, c5, rfl, ho, _, hb⟩ := hp.at_ HBN.out rfl
  have HO5 := Lib.hid ho
  replace HS := Lib.hid (HS.out.later hb)
  have HD5 := Lib.hid (Below.refl z5.heap.size z5)
  clear hp ho hb
  refine ⟨_, rfl, fun _ => HS.out, ?_⟩
  simp only [Act.put, List.setIfInBounds_toArray, List.set_cons_zero, List.set_cons_succ]
  refine lt_pure 9 rfl (by kernel_rfl) (by kernel_rfl) (by kernel_rfl) (by kernel_rfl) (fun _ _ _ h => h) (v := ?_) (yi_run rfl (fun w => ?_)) (fun _ => HS.out) ?_
  rotate_left
  · first | (go_simp; done) | (go_simp; with_reducible rfl)
  simp only [Act.put, List.setIfInBounds_toArray, List.set_cons_zero, List.set_cons_succ]
  refine lt_pure 10 rfl (by kernel_rfl) (by kernel_rfl) (by kernel_rfl) (by kernel_rfl) (fun _ _ _ h => h) (v := ?_) (yi_run rfl (fun w => ?_)) (fun _ => HS.out) ?_
  rotate_left
  · first | (go_simp; done) | (go_simp; with_reducible rfl)
  simp only [Act.put, List.setIfInBounds_toArray, List.set_cons_zero, List.set_cons_succ]
  refine lt_pure 11 rfl (by kernel_rfl) (by kernel_rfl) (by kernel_rfl) (by kernel_rfl) (fun _ _ _ h => h) (v := ?_) (yi_run rfl (fun w => ?_)) (fun _ => HS.out) ?_
  rotate_left
  · first | (go_simp; done) | (go_simp; with_reducible rfl)
  simp only [Act.put, List.setIfInBounds_toArray, List.set_cons_zero, List.set_cons_succ]
  refine lt_pure 12 rfl (by kernel_rfl) (by kernel_rfl) (by kernel_rfl) (by kernel_rfl) (fun _ _ _ h => h) (v := ?_) (yi_run rfl (fun w => ?_)) (fun _ => HS.out) ?_
  rotate_left
  · first | (go_simp; done) | (go_simp; with_reducible rfl)
  simp only [Act.put, List.setIfInBounds_toArray, List.set_cons_zero, List.set_cons_succ]
  refine lt_pure 13 rfl (by kernel_rfl) (by kernel_rfl) (by kernel_rfl) (by kernel_rfl) (fun _ _ _ h => h) (v := ?_) (yi_run rfl (fun w => ?_)) (fun _ => HS.out) ?_
  rotate_left
  · first | (go_simp; done) | (go_simp; with_reducible rfl)
  simp only [Act.put, List.setIfInBounds_toArray, List.set_cons_zero, List.set_cons_succ]
  refine lt_done (by kernel_rfl) ?_
  have HS5 := HS
  clear HS
  have HX6 := Lib.hid HS5.out
  clear HS5
  have HB6 := HX6.out.up
  by_cases hbe : be = 0
  case neg =>
    have hd9 : (be != 0) = true := bne_iff_ne.2 hbe
    have HP : Hid (openE b = (none, 51)) := Lib.hid (by rw [HPQ.out, if_neg]; intro h; injection h with _ h; exact hbe h)
    clear hbe
    go_wp2_with fail
    go_ret2
    exact open_no HP.out HX6.out.up
  have hd9 : (be != 0) = false := by rw [hbe]; rfl
  have HBE := Lib.hid hbe
  clear hbe
  cases hq : B == b with
  | false =>
    have HP : Hid (openE b = (none, 51)) := Lib.hid (by rw [HPQ.out, if_neg]; intro h; injection h with h _; rw [h] at hq; simp at hq)
    have HQ := Lib.hid hq
    clear hq
    go_wp2_with (go_at_call 46; go_must (refine (equal_any B b _ _ bn _ (k + 9) _ _ (HO5.out.later HD5.out).rb (HSL.out _ HX6.out.up).rb).mono ?_); rw [HQ.out]; rintro e z6 ⟨rfl, rfl⟩)
    go_ret2
    exact open_no HP.out HX6.out.up
  | true =>
    have HP : Hid (openE b = (some L, 0)) := Lib.hid (by rw [HPQ.out, if_pos]; rw [beq_iff_eq] at hq; rw [hq, HBE.out])
    have HQ := Lib.hid hq
    clear hq
    go_wp2_with (go_at_call 46; go_must (refine (equal_any B b _ _ bn _ (k + 9) _ _ (HO5.out.later HD5.out).rb (HSL.out _ HX6.out.up).rb).mono ?_); rw [HQ.out]; rintro e z6 ⟨rfl, rfl⟩)
    go_ret2
    refine .inl ⟨L, g, blkO r g (.slice LA m lc) kv zs, by rw [HP.out], rfl, ?_, ?_⟩
    · rw [← HR.out]; exact ⟨_, _, _, rfl, HL3.out.symm, HZ.out⟩
    · have h := HX6.out; rw [List.append_nil] at h; exact h
end Go.Proofs.YtmigjipfomfacaaDoor

/-
  A clipped slice of bytes of the call's own: its block is known as far as it is read (it may be longer). Over any program.
-/
namespace Go.Proofs.YtmigjipfomfacaaDoor
open Go.RowKit

/-- The block's first cells are these bytes; c cells at least. -/
def bytesIn (c : Nat) (l : List UInt8) (r : Obj) : Prop := ∃ cur T, r = .cells cur T (0, 0) ∧ c ≤ cur.size ∧ cur.toList.take l.length = u8s l
def clipO (A : Option Addr) (l : List UInt8) : Ob := match A with
  | none => nilO
  | some a => phiO a.block (bytesIn l.length l)
theorem bytesIn.at_ {c : Nat} {l : List UInt8} {r : Obj} {x : World} {g j : Nat} {b : UInt8} (h : bytesIn c l r) (hr : x.heap[g]? = some r) (hj : l[j]? = some b) : x.cell? ⟨g, j, none⟩ = some (u8v b) := by
  obtain ⟨cur, T, rfl, _, h2⟩ := h
  have hlt : j < l.length := (List.getElem?_eq_some_iff.1 hj).1
  have h3 : (cur.toList.take l.length)[j]? = (u8s l)[j]? := by rw [h2]
  rw [List.getElem?_take_of_lt hlt, u8s_at hj] at h3
  simp [World.cell?, hr]
  simpa [u8v] using h3
/-- Such an address, such bytes. -/
def CAt (A : Option Addr) (l : List UInt8) : Prop := (A = none ∧ l = []) ∨ ∃ g, A = some ⟨g, 0, none⟩
section
variable {w x : World} {os : List Ob} {i c n : Nat} {T : TypeId} {A : Option Addr} {l : List UInt8}
theorem cat_of (h : OW w os x) (hi : os[i]? = some (bytO T (A, c, l))) : CAt A l := by
  have h1 := h.byt hi
  rcases h1.2 with ⟨hv, h0⟩ | ⟨g, cap, cur, hv, _⟩
  · injection hv with hv
    exact .inl ⟨hv, List.eq_nil_of_length_eq_zero h0⟩
  · injection hv with hv
    exact .inr ⟨g, hv⟩
theorem OW.clip (h : OW w os x) (hi : os[i]? = some (bytO T (A, c, l))) : OW w (os.set i (clipO A l)) x := by
  have h1 := h.byt hi
  refine h.upd hi (Chg.refl (fun _ => False) x) (fun _ _ e => e.elim) ?_ fun b hb => .inl ?_
  · rcases cat_of h hi with ⟨rfl, rfl⟩ | ⟨g, rfl⟩
    · exact ⟨(fun e => nomatch e), fun _ => own_nil _ _ _ _⟩
    · obtain ⟨hl, h2⟩ := h1
      rcases h2 with ⟨hv, _⟩ | ⟨g', cap, cur, hv, h2, h3, h4, _, h5, h6⟩
      · cases hv
      injection hv with hv hv2 hv3
      injection hv with hv; injection hv with hv
      subst hv
      exact Ob.at_mkr rfl ⟨g, _, rfl, h2, h3, cur, _, rfl, by rw [h5]; omega, by rw [Nat.mul_one] at h6; exact h6⟩
  · rcases cat_of h hi with ⟨rfl, rfl⟩ | ⟨g, rfl⟩
    · cases hb
    · exact hb
theorem OW.clipSl (h : OW w os x) (hc : CAt A l) (hi : os[i]? = some (clipO A l)) (hn : l.length = n) (hm : n ≤ 9223372036854775807) : Sl x A n n l := by
  subst hn
  rcases hc with ⟨rfl, rfl⟩ | ⟨g, rfl⟩
  · exact Sl.none _
  · obtain ⟨k, r, h1, h2, h3, h4⟩ := (h.get (show os[i]? = some (phiO g (bytesIn l.length l)) from hi)).some_ rfl
    injection h1 with h1; injection h1 with h1; injection h1 with h1
    subst h1
    refine ⟨RB.mk' rfl fun _ => ⟨g, 0, rfl, (Array.getElem?_eq_some_iff.1 h3).1, fun j c hj => ?_⟩, Nat.le_refl _, hm, fun e => by cases e⟩
    rw [Nat.zero_add]
    exact h4.at_ h3 hj
theorem OW.clipSlm (h : OW w os x) (hc : CAt A l) (hi : clipO A l ∈ os) (hn : l.length = n) (hm : n ≤ 9223372036854775807) : Sl x A n n l := by
  obtain ⟨i, hi⟩ := List.getElem?_of_mem hi
  exact h.clipSl hc hi hn hm
end
theorem results_rowL {P : Program} {fn : Func} {p : Tmp} {ty : TypeId} (h : fn.results = #[.cell p ty]) (tmps : Array Value) (w : World) (g : Nat) (cs : List Value)
    (hp : tmps.getD p undef = .pointer (some ⟨g, 0, none⟩)) (hc : w.rangeAt g 0 cs)
    (ha : (P.underlying ty).map (fun d => match d with | .struct _ | .array _ _ => true | _ => false) = some true) (hi : (P.info? ty).map (·.size) = some cs.length) :
    (results fn tmps).run P w = .ok (.agg cs.toArray) w :=
  results_box0 h tmps w g cs.toArray hp (fun j v hv => by have := hc j v (by simpa using hv); rwa [Nat.zero_add] at this) ha (by simpa using hi)
theorem results_rowL1 {P : Program} {fn : Func} {p t : Tmp} {ty : TypeId} (h : fn.results = #[.cell p ty, .tmp t]) (tmps : Array Value) (w : World) (g : Nat) (cs : List Value)
    (hp : tmps.getD p undef = .pointer (some ⟨g, 0, none⟩)) (hc : w.rangeAt g 0 cs)
    (ha : (P.underlying ty).map (fun d => match d with | .struct _ | .array _ _ => true | _ => false) = some true) (hi : (P.info? ty).map (·.size) = some cs.length) :
    (results fn tmps).run P w = .ok (.tuple #[.agg cs.toArray, tmps.getD t undef]) w :=
  results_box1 h tmps w g cs.toArray hp (fun j v hv => by have := hc j v (by simpa using hv); rwa [Nat.zero_add] at this) ha (by simpa using hi)
end Go.Proofs.YtmigjipfomfacaaDoor

/-
  What a block tells: own, Len, At, walked.
-/
namespace Go.Proofs.YtmigjipfomfacaaDoor
open Go.RowKit

structure BkR (x : World) (R g : Nat) (L : List Ent) : Prop where
  lt : g < x.heap.size
  c0 : x.cell? ⟨g, 0, none⟩ = some (.int .i64 (R : Int))
  c1 : ∃ A c, x.cell? ⟨g, 1, none⟩ = some (.slice A L.length c) ∧ Ens x A L.length L
  c2 : ∃ A c, x.cell? ⟨g, 2, none⟩ = some (.slice A L.length c) ∧ RBs x x.heap.size A L.length (L.map keyE)
theorem BkR.later {x y : World} {R g : Nat} {L : List Ent} (h : BkR x R g L) (hb : Below x.heap.size x y) : BkR y R g L := by
  obtain ⟨h0, h1, ⟨A, c, h2, h3⟩, ⟨B, d, h4, h5⟩⟩ := h
  exact ⟨Nat.lt_of_lt_of_le h0 hb.size, (hb.cell (p := ⟨g, 0, none⟩) h0).trans h1, ⟨A, c, (hb.cell (p := ⟨g, 1, none⟩) h0).trans h2, h3.later hb⟩, ⟨B, d, (hb.cell (p := ⟨g, 2, none⟩) h0).trans h4, h5.later hb⟩⟩
theorem Bk5.reads {w x : World} {R g : Nat} {L : List Ent} {os rest : List Ob} (hb : Bk5 R L g os) (h : OW w (os ++ rest) x) : BkR x R g L := by
  obtain ⟨lv, kv, zs, rfl, rfl, hz⟩ := hb
  obtain ⟨A, c, rfl, he⟩ := blk_ens h
  obtain ⟨B, d, rfl, _⟩ := own_slice (h.row (i := 2) rfl)
  have hl : (entsZ zs).length = zs.length := by unfold entsZ; rw [List.length_map]
  refine ⟨(h.box (i := 0) rfl).2.1, h.cell (i := 0) (j := 0) rfl rfl, ⟨A, c, by rw [hl]; exact h.cell (i := 0) (j := 1) rfl rfl, by rw [hl]; exact he⟩, ⟨B, d, by rw [hl]; exact h.cell (i := 0) (j := 2) rfl rfl, ?_⟩⟩
  rw [hl]
  refine ⟨zs.map (valR ·.2), Reads.own (h.row (i := 2) rfl), by unfold entsZ; simp, fun i k hk => ?_⟩
  unfold entsZ at hk
  rw [List.map_map, List.getElem?_map] at hk
  obtain ⟨z, hzi, hke⟩ := Option.map_eq_some_iff.1 hk
  have hm := List.mem_of_getElem? hzi
  have hkk : z.2.2.2 = k := by rw [(hz z hm).1]; exact hke
  have hsl := h.slm (T := 5) (A := z.2.1) (c := z.2.2.1) (l := z.2.2.2) (List.mem_append_left _ (rowZ_mem hm (by simp [rowsZ]))) rfl
  rw [hkk] at hsl
  exact ⟨z.2.1, z.2.2.1, by rw [List.getElem?_map, hzi]; simp only [Option.map_some, valR]; rw [hkk], hsl.cap, hsl.lim, hsl.nil, hsl.rb⟩

theorem sclip_any (A : Option Addr) (n c : Nat) (w : World) (hc : n ≤ c) (_hl : c ≤ 9223372036854775807) : Calls Tryd.prog 83 #[.slice A n c] w fun e w' => e = .returned (.slice A n n) ∧ w = w' := by
  have i1 : (0 : Int) ≤ (n : Int) := by omega
  have i2 : (n : Int) ≤ (c : Int) := by omega
  go_enter Tryd.func83, Tryd.ntmps83
  go_wp2_with fail
  go_ret
  exact ⟨rfl, rfl⟩

/-- An entry whose byte strings are clipped, of the call's own. -/
def OwnP (mk : Value → Value) (e : Ent) (w : World) (r : Ending) (x : World) : Prop :=
  ∃ A B D, r = .returned (mk (entV A e.row.length e.row.length B e.qual.length e.qual.length D e.val.length e.val.length e)) ∧ CAt A e.row ∧ CAt B e.qual ∧ CAt D e.val ∧ OW w [clipO A e.row, clipO B e.qual, clipO D e.val] x
theorem OwnP.en {e : Ent} {w x : World} {A B D : Option Addr} (ha : CAt A e.row) (hb : CAt B e.qual) (hd : CAt D e.val) (hn : e.row.length ≤ 9223372036854775807 ∧ e.qual.length ≤ 9223372036854775807 ∧ e.val.length ≤ 9223372036854775807) (h : OW w [clipO A e.row, clipO B e.qual, clipO D e.val] x) : En x A e.row.length e.row.length B e.qual.length e.qual.length D e.val.length e.val.length e :=
  ⟨h.clipSl ha (i := 0) rfl rfl hn.1, h.clipSl hb (i := 1) rfl rfl hn.2.1, h.clipSl hd (i := 2) rfl rfl hn.2.2⟩
theorem ptr3 (g : Nat) : ∀ k : Nat, k < 3 → ∀ w, (Instr.index 118 (.agg #[.pointer (some ⟨g, 0, none⟩), .pointer (some ⟨g, 2, none⟩), .pointer (some ⟨g, 6, none⟩)]) (.int .i64 (k : Int))).run Tryd.prog w = .ok (.pointer (some ⟨g, [0, 2, 6].getD k 0, none⟩)) w := fun k hk w => by
  match k, hk with
  | 0, _ => exact run_index_arr w _ 117 3 _ 0 _ (by kernel_rfl) (by kernel_rfl) (by kernel_rfl) (by decide) rfl
  | 1, _ => exact run_index_arr w _ 117 3 _ 1 _ (by kernel_rfl) (by kernel_rfl) (by kernel_rfl) (by decide) rfl
  | 2, _ => exact run_index_arr w _ 117 3 _ 2 _ (by kernel_rfl) (by kernel_rfl) (by kernel_rfl) (by decide) rfl

set_option maxRecDepth 100000 in
set_option maxHeartbeats 4000000 in
theorem own_any (e : Ent) (A : Option Addr) (n c : Nat) (B : Option Addr) (m d : Nat) (D : Option Addr) (v q : Nat) (w : World) (h : En w A n c B m d D v q e) (hn : n ≤ 140737488355000 ∧ m ≤ 140737488355000 ∧ v ≤ 140737488355000) :
    Calls Tryd.prog 48 #[entV A n c B m d D v q e] w (OwnP (fun v => v) e w) := by
  obtain ⟨hn1, hn2, hn3⟩ := hn
  have HE : Hid (∀ z, Below w.heap.size w z → En z A n c B m d D v q e) := Lib.hid fun z hz => h.later hz
  have HLR := Lib.hid h.row.rb.len
  have HLQ := Lib.hid h.qual.rb.len
  have HLV := Lib.hid h.val.rb.len
  clear h
  have HX := Lib.hid (OW.nil w)
  go_enter Tryd.func48, Tryd.ntmps48
  go_wp2_with (first
    | (refine wl_box rfl (.tmp 0) rfl [.slice A n c, .int .i64 e.fam, .slice B m d, .int .i64 e.ts, .int .i64 e.seq, .int .i64 e.kind, .slice D v q] rfl HX.out ?_; intro gb x1 hz _; replace HX := Lib.hid hz; clear hz)
    | (refine wl_alloc rfl rfl [.slice none 0 0, .int .i64 0, .slice none 0 0, .int .i64 0, .int .i64 0, .int .i64 0, .slice none 0 0] (.inl (by kernel_rfl)) HX.out ?_; intro gr x2 hz _; have HX0 := Lib.hid hz; clear hz HX))
  go_loopw [9] (fun i wr => ∃ k : Nat, k ≤ 3 ∧ i = .int .i64 k ∧ Hid (
    (k = 0 → OW w [boxO gb [.slice A n c, .int .i64 e.fam, .slice B m d, .int .i64 e.ts, .int .i64 e.seq, .int .i64 e.kind, .slice D v q], boxO gr [.slice none 0 0, .int .i64 0, .slice none 0 0, .int .i64 0, .int .i64 0, .int .i64 0, .slice none 0 0]] wr) ∧
    (k = 1 → ∃ A1, CAt A1 e.row ∧ OW w [boxO gb [.slice A1 n n, .int .i64 e.fam, .slice B m d, .int .i64 e.ts, .int .i64 e.seq, .int .i64 e.kind, .slice D v q], boxO gr [.slice none 0 0, .int .i64 0, .slice none 0 0, .int .i64 0, .int .i64 0, .int .i64 0, .slice none 0 0], clipO A1 e.row] wr) ∧
    (k = 2 → ∃ A1 B1, CAt A1 e.row ∧ CAt B1 e.qual ∧ OW w [boxO gb [.slice A1 n n, .int .i64 e.fam, .slice B1 m m, .int .i64 e.ts, .int .i64 e.seq, .int .i64 e.kind, .slice D v q], boxO gr [.slice none 0 0, .int .i64 0, .slice none 0 0, .int .i64 0, .int .i64 0, .int .i64 0, .slice none 0 0], clipO A1 e.row, clipO B1 e.qual] wr) ∧
    (k = 3 → ∃ A1 B1 D1, CAt A1 e.row ∧ CAt B1 e.qual ∧ CAt D1 e.val ∧ OW w [boxO gb [.slice A1 n n, .int .i64 e.fam, .slice B1 m m, .int .i64 e.ts, .int .i64 e.seq, .int .i64 e.kind, .slice D1 v v], boxO gr [.slice none 0 0, .int .i64 0, .slice none 0 0, .int .i64 0, .int .i64 0, .int .i64 0, .slice none 0 0], clipO A1 e.row, clipO B1 e.qual, clipO D1 e.val] wr))) (fun i _ => 3 - (intOf i).toNat)
  case atStart => exact ⟨0, by omega, rfl, Lib.hid ⟨fun _ => HX0.out, fun h => by omega, fun h => by omega, fun h => by omega⟩⟩
  case round =>
    clear HX0
    obtain ⟨k, hk, hi, HS⟩ := hrel
    have hk' : k = 0 ∨ k = 1 ∨ k = 2 ∨ k = 3 := by omega
    clear hk
    rcases hk' with rfl | rfl | rfl | rfl
    case inl =>
      replace hi : _ = Value.int .i64 0 := hi
      subst hi
      have hx := HS.out.1 rfl
      have HX := Lib.hid hx
      clear HS hx 
      have ix : ∀ w, (Instr.index 118 (.agg #[.pointer (some ⟨gb, 0, none⟩), .pointer (some ⟨gb, 2, none⟩), .pointer (some ⟨gb, 6, none⟩)]) (.int .i64 0)).run Tryd.prog w = .ok (.pointer (some ⟨gb, 0, none⟩)) w := fun w => ptr3 gb 0 (by decide) w
      have HN := Lib.hid (HX.out.nilB 5)
      go_wp2_with (first
        | (refine wpList_load_cell rfl 24 (.tmp 14) rfl rfl (HX.out.cell (i := 0) (j := 0) rfl rfl) (fun w => Tryd.isAgg24 w) ?_)
        | (at_builtin; go_must (refine wl_appB rfl (.const (.slice none 0 0)) (.tmp 15) rfl Tryd.u8s' HN.out 2 (n := 0) rfl rfl rfl _ _ n _ e.row rfl (HE.out _ HX.out.up).row.rb (by omega) ?_); intro A1 c9 x5 hz; rw [Nat.zero_add]; have HY := Lib.hid hz; have HCN := Lib.hid (cat_of HY.out (i := 2) rfl); have HY2 := Lib.hid (HY.out.clip (i := 2) rfl); have hcp := (HY.out.sl (i := 2) rfl (show ([] ++ e.row).length = n from HLR.out)); have hc1 := hcp.cap; have hc2 := hcp.lim; clear hz hcp HX HN HY)
        | (go_at_call 83; go_must (refine (sclip_any _ _ _ _ hc1 hc2).mono ?_); rintro r x6 ⟨rfl, rfl⟩)
        | (refine wl_put1 rfl (.tmp 18) (.tmp 17) rfl HY2.out 0 rfl 0 rfl (by show 0 < 7; decide) (.slice A1 n n) rfl (by kernel_rfl) rfl ?_; intro x7 hz _; have HX9 : Hid (OW w [boxO gb [.slice A1 n n, .int .i64 e.fam, .slice B m d, .int .i64 e.ts, .int .i64 e.seq, .int .i64 e.kind, .slice D v q], boxO gr [.slice none 0 0, .int .i64 0, .slice none 0 0, .int .i64 0, .int .i64 0, .int .i64 0, .slice none 0 0], clipO A1 e.row] x7) := Lib.hid hz; clear hz HY2))
      go_roundw
      case rel => exact ⟨1, by omega, rfl, Lib.hid ⟨(fun h => absurd h (by decide)), (fun _ => ⟨A1, HCN.out, HX9.out⟩), (fun h => absurd h (by decide)), (fun h => absurd h (by decide))⟩⟩
      case measure => decide
    case inr.inl =>
      replace hi : _ = Value.int .i64 1 := hi
      subst hi
      obtain ⟨A1, h0, hx⟩ := HS.out.2.1 rfl
      have HX := Lib.hid hx
      have HC0 := Lib.hid h0
      clear HS hx h0
      have ix : ∀ w, (Instr.index 118 (.agg #[.pointer (some ⟨gb, 0, none⟩), .pointer (some ⟨gb, 2, none⟩), .pointer (some ⟨gb, 6, none⟩)]) (.int .i64 1)).run Tryd.prog w = .ok (.pointer (some ⟨gb, 2, none⟩)) w := fun w => ptr3 gb 1 (by decide) w
      have HN := Lib.hid (HX.out.nilB 5)
      go_wp2_with (first
        | (refine wpList_load_cell rfl 24 (.tmp 14) rfl rfl (HX.out.cell (i := 0) (j := 2) rfl rfl) (fun w => Tryd.isAgg24 w) ?_)
        | (at_builtin; go_must (refine wl_appB rfl (.const (.slice none 0 0)) (.tmp 15) rfl Tryd.u8s' HN.out 3 (n := 0) rfl rfl rfl _ _ m _ e.qual rfl (HE.out _ HX.out.up).qual.rb (by omega) ?_); intro B1 c9 x5 hz; rw [Nat.zero_add]; have HY := Lib.hid hz; have HCN := Lib.hid (cat_of HY.out (i := 3) rfl); have HY2 := Lib.hid (HY.out.clip (i := 3) rfl); have hcp := (HY.out.sl (i := 3) rfl (show ([] ++ e.qual).length = m from HLQ.out)); have hc1 := hcp.cap; have hc2 := hcp.lim; clear hz hcp HX HN HY)
        | (go_at_call 83; go_must (refine (sclip_any _ _ _ _ hc1 hc2).mono ?_); rintro r x6 ⟨rfl, rfl⟩)
        | (refine wl_put1 rfl (.tmp 18) (.tmp 17) rfl HY2.out 0 rfl 2 rfl (by show 2 < 7; decide) (.slice B1 m m) rfl (by kernel_rfl) rfl ?_; intro x7 hz _; have HX9 : Hid (OW w [boxO gb [.slice A1 n n, .int .i64 e.fam, .slice B1 m m, .int .i64 e.ts, .int .i64 e.seq, .int .i64 e.kind, .slice D v q], boxO gr [.slice none 0 0, .int .i64 0, .slice none 0 0, .int .i64 0, .int .i64 0, .int .i64 0, .slice none 0 0], clipO A1 e.row, clipO B1 e.qual] x7) := Lib.hid hz; clear hz HY2))
      go_roundw
      case rel => exact ⟨2, by omega, rfl, Lib.hid ⟨(fun h => absurd h (by decide)), (fun h => absurd h (by decide)), (fun _ => ⟨A1, B1, HC0.out, HCN.out, HX9.out⟩), (fun h => absurd h (by decide))⟩⟩
      case measure => decide
    case inr.inr.inl =>
      replace hi : _ = Value.int .i64 2 := hi
      subst hi
      obtain ⟨A1, B1, h0, h1, hx⟩ := HS.out.2.2.1 rfl
      have HX := Lib.hid hx
      have HC0 := Lib.hid h0
      have HC1 := Lib.hid h1
      clear HS hx h0 h1
      have ix : ∀ w, (Instr.index 118 (.agg #[.pointer (some ⟨gb, 0, none⟩), .pointer (some ⟨gb, 2, none⟩), .pointer (some ⟨gb, 6, none⟩)]) (.int .i64 2)).run Tryd.prog w = .ok (.pointer (some ⟨gb, 6, none⟩)) w := fun w => ptr3 gb 2 (by decide) w
      have HN := Lib.hid (HX.out.nilB 5)
      go_wp2_with (first
        | (refine wpList_load_cell rfl 24 (.tmp 14) rfl rfl (HX.out.cell (i := 0) (j := 6) rfl rfl) (fun w => Tryd.isAgg24 w) ?_)
        | (at_builtin; go_must (refine wl_appB rfl (.const (.slice none 0 0)) (.tmp 15) rfl Tryd.u8s' HN.out 4 (n := 0) rfl rfl rfl _ _ v _ e.val rfl (HE.out _ HX.out.up).val.rb (by omega) ?_); intro D1 c9 x5 hz; rw [Nat.zero_add]; have HY := Lib.hid hz; have HCN := Lib.hid (cat_of HY.out (i := 4) rfl); have HY2 := Lib.hid (HY.out.clip (i := 4) rfl); have hcp := (HY.out.sl (i := 4) rfl (show ([] ++ e.val).length = v from HLV.out)); have hc1 := hcp.cap; have hc2 := hcp.lim; clear hz hcp HX HN HY)
        | (go_at_call 83; go_must (refine (sclip_any _ _ _ _ hc1 hc2).mono ?_); rintro r x6 ⟨rfl, rfl⟩)
        | (refine wl_put1 rfl (.tmp 18) (.tmp 17) rfl HY2.out 0 rfl 6 rfl (by show 6 < 7; decide) (.slice D1 v v) rfl (by kernel_rfl) rfl ?_; intro x7 hz _; have HX9 : Hid (OW w [boxO gb [.slice A1 n n, .int .i64 e.fam, .slice B1 m m, .int .i64 e.ts, .int .i64 e.seq, .int .i64 e.kind, .slice D1 v v], boxO gr [.slice none 0 0, .int .i64 0, .slice none 0 0, .int .i64 0, .int .i64 0, .int .i64 0, .slice none 0 0], clipO A1 e.row, clipO B1 e.qual, clipO D1 e.val] x7) := Lib.hid hz; clear hz HY2))
      go_roundw
      case rel => exact ⟨3, by omega, rfl, Lib.hid ⟨(fun h => absurd h (by decide)), (fun h => absurd h (by decide)), (fun h => absurd h (by decide)), (fun _ => ⟨A1, B1, D1, HC0.out, HC1.out, HCN.out, HX9.out⟩)⟩⟩
      case measure => decide
    case inr.inr.inr =>
      replace hi : _ = Value.int .i64 3 := hi
      subst hi
      obtain ⟨A1, B1, D1, h1, h2, h3, h4⟩ := HS.out.2.2.2 rfl
      have HC := Lib.hid (And.intro h1 (And.intro h2 h3))
      have HX := Lib.hid h4
      clear HS h1 h2 h3 h4
      go_wp2_with (first
        | (refine wpList_load_row7 rfl 37 (.tmp 1) rfl rfl (HX.out.range (i := 0) rfl) ent_row5 ?_)
        | (refine wl_put rfl (.tmp 2) (.tmp 20) rfl HX.out 1 rfl rfl [.slice A1 n n, .int .i64 e.fam, .slice B1 m m, .int .i64 e.ts, .int .i64 e.seq, .int .i64 e.kind, .slice D1 v v] rfl rfl (by kernel_rfl) (by simp [Value.oneCell']) ?_; intro x9 hz _; have HY := Lib.hid hz; clear hz))
      refine bodyPost_ret (results_rowL rfl _ _ gr [.slice A1 n n, .int .i64 e.fam, .slice B1 m m, .int .i64 e.ts, .int .i64 e.seq, .int .i64 e.kind, .slice D1 v v] rfl (HY.out.range (i := 1) rfl) (by kernel_rfl) (by kernel_rfl)) rfl ?_
      refine ⟨A1, B1, D1, by rw [HLR.out, HLQ.out, HLV.out], HC.out.1, HC.out.2.1, HC.out.2.2, HY.out.sub ((List.Sublist.refl _).cons _ |>.cons _)⟩

set_option maxRecDepth 100000 in
theorem len_any {x : World} {R g : Nat} {L : List Ent} (h : BkR x R g L) : Calls Tryd.prog 13 #[.pointer (some ⟨g, 0, none⟩)] x fun e x' => e = .returned (.int .i64 (L.length : Nat)) ∧ Below x.heap.size x x' := by
  obtain ⟨A, c, h1, _⟩ := h.c1
  obtain ⟨n, hn⟩ : ∃ z, z = L.length := ⟨_, rfl⟩
  rw [← hn] at h1 ⊢
  clear h hn
  go_enter Tryd.func13, Tryd.ntmps13
  go_wp2_with (refine wpList_load_cell rfl 22 (.tmp 5) rfl rfl h1 (fun w => Tryd.isAgg22 w) ?_)
  go_ret
  exact ⟨rfl, Below.refl _ _⟩

/-- What At answers. -/
def AtP (L : List Ent) (i : Int) (x : World) (r : Ending) (z : World) : Prop :=
  (∃ (k : Nat) (e : Ent), i = (k : Int) ∧ L[k]? = some e ∧ OwnP (fun v => .tuple #[v, .int .i64 0]) e x r z) ∨
  ((i < 0 ∨ (L.length : Int) ≤ i) ∧ r = .returned (.tuple #[entV none 0 0 none 0 0 none 0 0 noEnt, .int .i64 1]) ∧ Below x.heap.size x z)
theorem OwnP.own {mk : Value → Value} {e : Ent} {w x : World} {r : Ending} (h : OwnP mk e w r x) : ∃ A B D, r = .returned (mk (entV A e.row.length e.row.length B e.qual.length e.qual.length D e.val.length e.val.length e)) ∧ CAt A e.row ∧ CAt B e.qual ∧ CAt D e.val ∧ OW w [clipO A e.row, clipO B e.qual, clipO D e.val] x := h

set_option maxRecDepth 100000 in
set_option maxHeartbeats 4000000 in
theorem at_any {x : World} {R g : Nat} {L : List Ent} (h : BkR x R g L) (hL : ∀ e, e ∈ L → e.row.length ≤ 140737488355000 ∧ e.qual.length ≤ 140737488355000 ∧ e.val.length ≤ 140737488355000) (i : Int) :
    Calls Tryd.prog 26 #[.pointer (some ⟨g, 0, none⟩), .int .i64 i] x (AtP L i x) := by
  have HR := Lib.hid (fun z (hz : Below x.heap.size x z) => h.later hz)
  obtain ⟨A, c, h1, he⟩ := h.c1
  obtain ⟨n, hn⟩ : ∃ z, z = L.length := ⟨_, rfl⟩
  rw [← hn] at h1 he
  have hg := h.lt
  have HC : Hid (∀ z, Below x.heap.size x z → z.cell? ⟨g, 1, none⟩ = some (.slice A n c)) := Lib.hid fun z hz => (hz.cell (p := ⟨g, 1, none⟩) hg).trans h1
  have HES : Hid (∀ z, Below x.heap.size x z → Ens z A n L) := Lib.hid fun z hz => he.later hz
  have HNL := Lib.hid hn
  have HLL := Lib.hid hL
  have HX := Lib.hid (OW.nil x)
  clear h h1 he hn hg hL
  by_cases hi : i < 0
  case pos =>
    have hd : decide (i < 0) = true := decide_eq_true hi
    go_enter Tryd.func26, Tryd.ntmps26
    go_wp2_with (first
      | (refine wl_alloc rfl rfl [.slice none 0 0, .int .i64 0, .slice none 0 0, .int .i64 0, .int .i64 0, .int .i64 0, .slice none 0 0] (.inl (by kernel_rfl)) HX.out ?_; intro gr x2 hz _; replace HX := Lib.hid hz; clear hz)
      | (refine wl_put rfl (.tmp 4) (.tmp 17) rfl HX.out 0 rfl rfl [.slice none 0 0, .int .i64 0, .slice none 0 0, .int .i64 0, .int .i64 0, .int .i64 0, .slice none 0 0] rfl rfl (by kernel_rfl) (by simp [Value.oneCell']) ?_; intro x9 hz _; have HY := Lib.hid hz; clear hz))
    refine bodyPost_ret (results_rowL1 rfl _ _ gr [.slice none 0 0, .int .i64 0, .slice none 0 0, .int .i64 0, .int .i64 0, .int .i64 0, .slice none 0 0] rfl (HY.out.range (i := 0) rfl) (by kernel_rfl) (by kernel_rfl)) rfl ?_
    exact .inr ⟨.inl hi, rfl, HY.out.up⟩
  have hd : decide (i < 0) = false := decide_eq_false hi
  obtain ⟨k, rfl⟩ : ∃ k : Nat, i = (k : Int) := ⟨i.toNat, by omega⟩
  by_cases hk : n ≤ k
  case pos =>
    have hd2 : decide ((k : Int) ≥ (n : Int)) = true := decide_eq_true (by omega)
    have HK : Hid (n ≤ k) := Lib.hid hk
    go_enter Tryd.func26, Tryd.ntmps26
    go_wp2_with (first
      | (refine wl_alloc rfl rfl [.slice none 0 0, .int .i64 0, .slice none 0 0, .int .i64 0, .int .i64 0, .int .i64 0, .slice none 0 0] (.inl (by kernel_rfl)) HX.out ?_; intro gr x2 hz _; replace HX := Lib.hid hz; clear hz)
      | (refine wpList_load_cell rfl 22 (.tmp 12) rfl rfl (HC.out _ HX.out.up) (fun w => Tryd.isAgg22 w) ?_)
      | (refine wl_put rfl (.tmp 4) (.tmp 17) rfl HX.out 0 rfl rfl [.slice none 0 0, .int .i64 0, .slice none 0 0, .int .i64 0, .int .i64 0, .int .i64 0, .slice none 0 0] rfl rfl (by kernel_rfl) (by simp [Value.oneCell']) ?_; intro x9 hz _; have HY := Lib.hid hz; clear hz))
    refine bodyPost_ret (results_rowL1 rfl _ _ gr [.slice none 0 0, .int .i64 0, .slice none 0 0, .int .i64 0, .int .i64 0, .int .i64 0, .slice none 0 0] rfl (HY.out.range (i := 0) rfl) (by kernel_rfl) (by kernel_rfl)) rfl ?_
    exact .inr ⟨.inr (by have := HK.out; rw [← HNL.out]; omega), rfl, HY.out.up⟩
  have hd2 : decide ((k : Int) ≥ (n : Int)) = false := decide_eq_false (by omega)
  obtain ⟨b, o, Ar, ec, B, d, D, q, e, rfl, hbl, hek, hrg, hen⟩ := (HES.out x (Below.refl _ _)).at_ (show k < n by omega)
  have HRG : Hid (∀ z, Below x.heap.size x z → z.rangeAt b (o + k * 7) [.slice Ar e.row.length ec, .int .i64 e.fam, .slice B e.qual.length d, .int .i64 e.ts, .int .i64 e.seq, .int .i64 e.kind, .slice D e.val.length q]) := Lib.hid fun z hz j v hj => (hz.cell (p := ⟨b, _, none⟩) hbl).trans (hrg j v hj)
  have HEN : Hid (∀ z, Below x.heap.size x z → En z Ar e.row.length ec B e.qual.length d D e.val.length q e) := Lib.hid fun z hz => hen.later hz
  have HEK := Lib.hid hek
  have HEB := Lib.hid (HLL.out e (List.mem_of_getElem? hek))
  have i1 : (0 : Int) ≤ (k : Int) := by omega
  have i2 : (k : Int) < (n : Int) := by omega
  clear hek hrg hen
  go_enter Tryd.func26, Tryd.ntmps26
  go_wp2_with (first
    | (refine wl_alloc rfl rfl [.slice none 0 0, .int .i64 0, .slice none 0 0, .int .i64 0, .int .i64 0, .int .i64 0, .slice none 0 0] (.inl (by kernel_rfl)) HX.out ?_; intro gr x2 hz _; replace HX := Lib.hid hz; clear hz)
    | (refine wpList_load_cell rfl 22 (.tmp 12) rfl rfl (HC.out _ HX.out.up) (fun w => Tryd.isAgg22 w) ?_)
    | (refine wpList_load_cell rfl 22 (.tmp 20) rfl rfl (HC.out _ HX.out.up) (fun w => Tryd.isAgg22 w) ?_)
    | (refine wpList_load_at rfl 37 (.tmp 23) rfl rfl (HRG.out _ HX.out.up) ent_row5 ?_)
    | (go_at_call 48; go_must (refine (own_any e Ar _ ec B _ d D _ q _ (HEN.out _ HX.out.up) HEB.out).mono ?_); rintro r x5 ⟨A1, B1, D1, rfl, hc1, hc2, hc3, hx⟩; have HC1 := Lib.hid (And.intro hc1 (And.intro hc2 hc3)); have HY := Lib.hid (HX.out.app hx); clear hc1 hc2 hc3 hx HX)
    | (refine wl_put rfl (.tmp 4) (.tmp 25) rfl HY.out 0 rfl rfl [.slice A1 e.row.length e.row.length, .int .i64 e.fam, .slice B1 e.qual.length e.qual.length, .int .i64 e.ts, .int .i64 e.seq, .int .i64 e.kind, .slice D1 e.val.length e.val.length] rfl rfl (by kernel_rfl) (by simp [Value.oneCell']) ?_; intro x9 hz _; have HQ := Lib.hid hz; clear hz))
  refine bodyPost_ret (results_rowL1 rfl _ _ gr [.slice A1 e.row.length e.row.length, .int .i64 e.fam, .slice B1 e.qual.length e.qual.length, .int .i64 e.ts, .int .i64 e.seq, .int .i64 e.kind, .slice D1 e.val.length e.val.length] rfl (HQ.out.range (i := 0) rfl) (by kernel_rfl) (by kernel_rfl)) rfl ?_
  exact .inl ⟨k, e, rfl, HEK.out, A1, B1, D1, rfl, HC1.out.1, HC1.out.2.1, HC1.out.2.2, HQ.out.sub ((List.Sublist.refl _).cons _)⟩
end Go.Proofs.YtmigjipfomfacaaDoor

/-
  Blocks: seeking; plain laws.
-/
namespace Go.Proofs.YtmigjipfomfacaaDoor

/-- How many first keys are below. -/
def seekN (ks : List (List UInt8)) (key : List UInt8) : Nat := (ks.takeWhile fun k => decide (cmpB k key < 0)).length
def seekL (L : List Ent) (key : List UInt8) : Nat := seekN (L.map keyE) key
theorem seekN_le (ks : List (List UInt8)) (key : List UInt8) : seekN ks key ≤ ks.length := by
  unfold seekN; exact (List.takeWhile_sublist _).length_le
def Asc (ks : List (List UInt8)) : Prop := ks.Pairwise fun a b => cmpB a b < 0
theorem cmpB_lt_trans {a b c : List UInt8} (h1 : cmpB a b < 0) (h2 : cmpB b c < 0) : cmpB a c < 0 := by
  have h3 := cmpB_trans a b c (by omega) (by omega)
  rcases Int.lt_or_eq_of_le h3 with h | h
  · exact h
  · have e := cmpB_zero _ _ h
    subst e
    have := cmpB_swap a b
    omega
/-- Those ahead of the number are below, all others not. -/
theorem seekN_iff : ∀ {ks : List (List UInt8)} (_ : Asc ks) {key : List UInt8} {i : Nat} {k : List UInt8}, ks[i]? = some k → (cmpB k key < 0 ↔ i < seekN ks key)
  | [], _, _, _, _, h => by cases h
  | a :: ks, hA, key, i, k, h => by
    obtain ⟨h1, h2⟩ := List.pairwise_cons.1 hA
    unfold seekN
    rw [List.takeWhile_cons]
    by_cases ha : cmpB a key < 0
    · rw [if_pos (by simpa using ha)]
      cases i with
      | zero => injection h with h; subst h; simp [ha]
      | succ i =>
        have := seekN_iff h2 (key := key) (i := i) h
        unfold seekN at this
        rw [this, List.length_cons]; omega
    · rw [if_neg (by simpa using ha)]
      cases i with
      | zero => injection h with h; subst h; simp [ha]
      | succ i =>
        constructor
        · intro h3
          exact absurd (cmpB_lt_trans (h1 k (List.mem_of_getElem? h)) h3) ha
        · intro h3; exact absurd h3 (Nat.not_lt_zero _)
theorem buildK_asc (R : Nat) : ∀ (es acc : List Ent), (∀ l, l ∈ acc → checkE l = 0) → Asc (acc.map keyE) → (buildK R acc es).1 = 0 → Asc ((acc ++ es).map keyE)
  | [], acc, _, ha, _ => by simpa using ha
  | e :: r, acc, hc, ha, h => by
    unfold buildK at h
    split at h
    · rename_i h0
      have h1 : checkE e = 0 := by
        unfold addC at h0
        split at h0
        · rename_i h1; exact absurd h0 h1
        · rename_i h1; exact Decidable.not_not.1 h1
      have h2 : lastOk acc e = true := by
        unfold addC at h0
        rw [if_neg (by rw [h1]; decide)] at h0
        split at h0
        · cases h0
        · rename_i h3; simpa using h3
      have hall : ∀ l, l ∈ acc ++ [e] → checkE l = 0 := fun l hl => by
        rcases List.mem_append.1 hl with h3 | h3
        · exact hc l h3
        · rw [List.mem_singleton.1 h3]; exact h1
      have h3 : Asc ((acc ++ [e]).map keyE) := by
        unfold Asc
        rw [List.map_append]
        refine List.pairwise_append.2 ⟨ha, List.pairwise_singleton _ _, fun a ha' b hb => ?_⟩
        obtain rfl := List.mem_singleton.1 hb
        rcases List.eq_nil_or_concat acc with h4 | ⟨l, z, h4⟩
        · subst h4; cases ha'
        · rw [List.concat_eq_append] at h4
          subst h4
          have h5 : cmpE z e < 0 := by
            unfold lastOk at h2
            rw [List.getLast?_append] at h2
            simpa using h2
          have h6 : cmpB (keyE z) (keyE e) < 0 := by rw [key_sorts (ok_of (hc z (by simp))) (ok_of h1)]; exact h5
          rw [List.map_append] at ha ha'
          rcases List.mem_append.1 ha' with h7 | h7
          · exact cmpB_lt_trans ((List.pairwise_append.1 ha).2.2 a h7 (keyE z) (by simp)) h6
          · have h7 : a ∈ [keyE z] := h7
            rw [List.mem_singleton.1 h7]; exact h6
      have := buildK_asc R r (acc ++ [e]) hall h3 h
      rwa [List.append_assoc] at this
    · rename_i h0; exact absurd h h0
theorem build_asc {R : Nat} {L : List Ent} {b : List UInt8} (h : buildE5 (R : Int) L = (b, 0)) : Asc (L.map keyE) := by
  obtain ⟨_, _, h3, _⟩ := build_parts h
  have := buildK_asc R L [] (fun l h => by cases h) List.Pairwise.nil h3
  simpa using this
/-- How many restarts. -/
def resN (n R : Nat) : Nat := (n + R - 1) / R
theorem resN_pos {n R : Nat} (hn : 0 < n) (hR : 1 ≤ R) : 1 ≤ resN n R := by
  unfold resN
  exact (Nat.le_div_iff_mul_le (by omega)).2 (by omega)
theorem resN_lt {n R k : Nat} (hR : 1 ≤ R) (h : k < resN n R) : k * R < n := by
  unfold resN at h
  have h1 : (k + 1) * R ≤ n + R - 1 := (Nat.le_div_iff_mul_le (by omega)).1 h
  rw [Nat.succ_mul] at h1
  omega
theorem resN_le {n R : Nat} (hR : 1 ≤ R) : resN n R ≤ n := by
  unfold resN
  rcases Nat.eq_zero_or_pos n with h | h
  · subst h; rw [Nat.div_eq_of_lt (by omega)]
    exact Nat.le_refl 0
  · refine Nat.le_of_lt_succ ((Nat.div_lt_iff_lt_mul (by omega)).2 ?_)
    have h1 : n * 1 ≤ n * R := Nat.mul_le_mul_left n hR
    rw [Nat.succ_mul]
    omega
end Go.Proofs.YtmigjipfomfacaaDoor
