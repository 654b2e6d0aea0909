/-
  Laid together by merge.py: Kit31, Kit32, Kit33, Kit34, Kit40, Kit41, FullK, FullK2, BlockM1, WireR5, CellR7, BlockW1, BlockW2, BlockW3, BlockB1, BlockB2, BlockC1, BlockB3, BlockB4, BlockE, BlockB5, BlockC2.
-/
import Derived.Test.YtfdbcfaeiglbeaaGreatDoorRQ4
import Derived.RangeFuncNested
import Derived.RangeFuncBound
import Derived.RangeFuncCalls
import Derived.RangeFuncLeaves
import Derived.OwnWalkIn
import Derived.TacticsInMore
import Derived.LoopIn
import Derived.Shelf.Abstract
import Derived.Deep.DeepCutAuto
import Derived.Test.YtfdbcfaeiglbeaaGreatDoorRQ2
import Derived.Lib.SlBytesConst
import Derived.Test.YtfdbcfaeiglbeaaGreatDoorRQ3
import Derived.Test.YtfdbcfaeiglbeaaGreatDoorRQ1
import Derived.Deep.RegionWith
import Derived.StillTailTactics
import Derived.Deep.RegionHeld3
import Derived.Lib.Walk
import Derived.Lib.SliceRun
import Derived.Lib.AppendZerosOnto
namespace Go.Proofs.YtfdbcfaeiglbeaaGreatDoor
open Go.RowKit
section
variable {P : Program} {ops : Array Oper} {Q : Exit → Act → World → Prop} {F : List Nat} {S : World → Prop}
def finB (F : List Nat) (listed : Array Bool) : Bool := F.any fun k => listed.getD k false
def wpAnyT (P : Program) (ops : Array Oper) (Q : Exit → Act → World → Prop) (F : List Nat) (S : World → Prop) : Nat → Array Bool → Act → World → Prop
  | 0, listed, a, w => Region.ready .any ops listed = [] ∧ Q .normal a w
  | fuel + 1, listed, a, w =>
    (Region.ready .any ops listed = [] → Q .normal a w) ∧
    ∀ i ∈ Region.ready .any ops listed, wpOp P ops Q i (fun a' w' => (finB F (listed.setIfInBounds i true) = false → S w') ∧ wpAnyT P ops Q F S fuel (listed.setIfInBounds i true) a' w') a w
theorem wpAny_of_T : ∀ (fuel : Nat) (listed : Array Bool) (a : Act) (w : World), wpAnyT P ops Q F S fuel listed a w → wpAny P .any ops Q fuel listed a w
  | 0, _, _, _, h => h
  | fuel + 1, _, _, _, h => ⟨h.1, fun i hi => wpOp_mono (fun a' w' h' => wpAny_of_T fuel _ a' w' h'.2) (h.2 i hi)⟩
def depB (ops : Array Oper) (i : Nat) (D : List Nat) : Bool := !D.contains i && D.all fun k => match ops[k]? with
  | none => false
  | some o => o.after.any fun e => Region.binds .any e && (e.on == i || D.contains e.on)
theorem getD_ne {L : Array Bool} {j k : Nat} (d : Bool) (h : j ≠ k) : (L.setIfInBounds j true).getD k d = L.getD k d := by
  simp only [Array.getD_eq_getD_getElem?, Array.getElem?_setIfInBounds_ne h]
theorem fin_off {D : List Nat} {L : Array Bool} (hF : F.all (D.contains ·) = true) (hL : ∀ k, k ∈ D → L.getD k false = false) : finB F L = false := by
  unfold finB
  rw [List.any_eq_false]
  intro k hk
  have h1 := List.all_eq_true.1 hF k hk
  rw [hL k (by simpa using h1)]; simp
theorem fin_set {L : Array Bool} {i : Nat} (hi : F.contains i = false) : finB F (L.setIfInBounds i true) = finB F L := by
  unfold finB
  have : ∀ G : List Nat, (∀ k, k ∈ G → k ≠ i) → (G.any fun k => (L.setIfInBounds i true).getD k false) = G.any fun k => L.getD k false := fun G => by
    induction G with
    | nil => intro _; rfl
    | cons k G ih =>
      intro h
      rw [List.any_cons, List.any_cons, ih fun q hq => h q (List.mem_cons_of_mem _ hq), getD_ne false (fun e => h k (by simp) e.symm)]
  exact this F fun k hk e => by
    subst e
    have : F.contains k = true := by simpa using hk
    rw [hi] at this; cases this
theorem wpAnyT_first {i : Nat} {oi : Oper} {v : Value} (R : World → Prop) (hi : ops[i]? = some oi) (hsel : ∀ (j : Nat) (o : Oper) cs b, ops[j]? = some o → o.op ≠ .select cs b)
    (hQ : ∀ c a w, Q (.panic c) (a.put oi.dst v) w → Q (.panic c) a w) (D : List Nat) (hD : depB ops i D = true) (hiF : F.contains i = false)
    (hR : ∀ (L : Array Bool) w, (∀ k, k ∈ D → L.getD k false = false) → (finB F L = false → S w) → R w) :
    ∀ (fuel : Nat) (listed : Array Bool) (a : Act) (w : World),
      (∀ j oj, ops[j]? = some oj → j ≠ i → listed.getD j true = false → (∀ e ∈ oj.after, Region.binds .any e = true → e.on ≠ i) → oi.apart ops oj = true) →
      i ∈ Region.ready .any ops listed → (∀ k, k ∈ D → listed.getD k false = false) → YieldsIf P ops R oi v a → (finB F listed = false → S w) →
      wpAnyT P ops Q F S fuel (listed.setIfInBounds i true) (a.put oi.dst v) w → wpAnyT P ops Q F S (fuel + 1) listed a w := by
  obtain ⟨hDi, hDe⟩ := Bool.and_eq_true_iff.1 hD
  intro fuel
  induction fuel with
  | zero =>
    intro listed a w _ hr hun hy hS H
    refine ⟨fun h => (by rw [h] at hr; cases hr), fun j hj => ?_⟩
    by_cases hji : j = i
    · subst hji; exact hy.wpOp hi (hR listed w hun hS) ⟨fun e => hS (by rwa [fin_set hiF] at e), H⟩
    · have := ready_mono hj hji
      rw [H.1] at this
      cases this
  | succ fuel ih =>
    intro listed a w hfree hr hun hy hS H
    refine ⟨fun h => (by rw [h] at hr; cases hr), fun j hj => ?_⟩
    by_cases hji : j = i
    · subst hji; exact hy.wpOp hi (hR listed w hun hS) ⟨fun e => hS (by rwa [fin_set hiF] at e), H⟩
    · have h1 := H.2 j (ready_mono hj hji)
      obtain ⟨hjun, oj, hoj, hall⟩ := mem_ready.1 hj
      have hiun := (mem_ready.1 hr).1
      have hi0 : listed.getD i false = true → False := fun h1 => by
        rcases Nat.lt_or_ge i listed.size with h' | h'
        · simp [h'] at hiun h1; rw [hiun] at h1; cases h1
        · simp [Array.getElem?_eq_none h'] at h1
      have hnot : ∀ e ∈ oj.after, Region.binds .any e = true → e.on ≠ i := fun e he hb heq => hi0 (heq ▸ hall e he hb)
      have hjD : j ∉ D := fun hjm => by
        have h2 := List.all_eq_true.1 hDe j hjm
        rw [hoj] at h2
        have h2' : oj.after.any (fun e => Region.binds .any e && (e.on == i || D.contains e.on)) = true := h2
        rw [← Array.any_toList, List.any_eq_true] at h2'
        obtain ⟨e, he, h3⟩ := h2'
        have he := Array.mem_toList_iff.1 he
        obtain ⟨hb, h4⟩ := Bool.and_eq_true_iff.1 h3
        have h5 := hall e he hb
        rcases Bool.or_eq_true_iff.1 h4 with h6 | h6
        · exact hi0 ((beq_iff_eq.1 h6) ▸ h5)
        · rw [hun e.on (by simpa using h6)] at h5; cases h5
      have hiD : i ∉ D := by simpa using hDi
      have hun' : ∀ k, k ∈ D → (listed.setIfInBounds j true).getD k false = false := fun k hk => by
        have h3 : j ≠ k := fun e => hjD (by rw [e]; exact hk)
        rw [getD_ne false h3]; exact hun k hk
      have h2 := wpOp_putIf hoj (hfree j oj hoj hji hjun hnot) (fun cs b => hsel i oi cs b hi) (fun cs b => hsel j oj cs b hoj) hQ hy h1
      have hfree' : ∀ k ok, ops[k]? = some ok → k ≠ i → (listed.setIfInBounds j true).getD k true = false →
          (∀ e ∈ ok.after, Region.binds .any e = true → e.on ≠ i) → oi.apart ops ok = true := fun k ok hk hki hun hno => by
        refine hfree k ok hk hki ?_ hno
        by_cases hjk : j = k
        · subst hjk; exact hjun
        · rw [getD_ne true hjk] at hun; exact hun
      refine wpOp_mono (fun a' w' h3 => ?_) h2
      have hS' : finB F (listed.setIfInBounds j true) = false → S w' := fun e => h3.2.1 (by rw [Array.setIfInBounds_comm _ _ (Ne.symm hji), fin_set hiF]; exact e)
      refine ⟨hS', ih (listed.setIfInBounds j true) a' w' hfree' (ready_mono hr (Ne.symm hji)) hun' h3.1 hS' ?_⟩
      rw [Array.setIfInBounds_comm _ _ hji]
      exact h3.2.2
end
section
variable {P : Program} {Q : Exit → Act → World → Prop} {F : List Nat} {S : World → Prop} {l : List Oper} {fuel : Nat} {listed : Array Bool} {a : Act} {w : World} {i : Nat} {o : Oper} {v : Value}
theorem lt_start {id : Nat} (F : List Nat) (hm : P.follows .mixedOrders = true) (h : ∀ z, Below w.heap.size w z → ∃ S, wpAnyT P l.toArray Q F S l.length (Array.replicate l.length false) a z) : (Code.region id l.toArray true).wp P Q a w := by
  obtain ⟨S, h⟩ := h w.drew (Below.refl _ _).drew
  exact wp_region_any hm (wpAny_of_T _ _ _ _ (by simpa using h))
theorem lt_take (i : Nat) (D : List Nat) {o : Oper} (hi : l[i]? = some o) (hs : Region.noSelect l.toArray = true) (hf : Region.free .any l.toArray listed i = true) (hr : (Region.ready .any l.toArray listed).contains i = true)
    (hd : depB l.toArray i D = true) (hF : (F.all (D.contains ·) && !F.contains i && D.all (fun k => !listed.getD k false)) = true)
    (hQ : ∀ c a w, Q (.panic c) (a.put o.dst v) w → Q (.panic c) a w) (hy : YieldsIf P l.toArray S o v a) (hS : S w)
    (h : wpAnyT P l.toArray Q F S fuel (listed.setIfInBounds i true) (a.put o.dst v) w) : wpAnyT P l.toArray Q F S (fuel + 1) listed a w := by
  simp only [Bool.and_eq_true, Bool.not_eq_true'] at hF
  exact wpAnyT_first S (lx_at hi) (Region.noSelect_spec hs) hQ D hd hF.1.2 (fun L w hL hS => hS (fin_off hF.1.1 hL)) fuel listed a w (Region.free_spec (lx_at hi) hf) (by simpa using hr) (fun k hk => by simpa using List.all_eq_true.1 hF.2 k hk) hy (fun _ => hS) h
theorem lt_pure (i : Nat) {o : Oper} (hi : l[i]? = some o) (hs : Region.noSelect l.toArray = true) (hf : Region.free .any l.toArray listed i = true) (hr : (Region.ready .any l.toArray listed).contains i = true) (hiF : F.contains i = false)
    (hQ : ∀ c a w, Q (.panic c) (a.put o.dst v) w → Q (.panic c) a w) (hy : YieldsIf P l.toArray (fun _ => True) o v a) (hS : finB F listed = false → S w)
    (h : wpAnyT P l.toArray Q F S fuel (listed.setIfInBounds i true) (a.put o.dst v) w) : wpAnyT P l.toArray Q F S (fuel + 1) listed a w :=
  wpAnyT_first (fun _ => True) (lx_at hi) (Region.noSelect_spec hs) hQ [] (by simp [depB]) hiF (fun _ _ _ _ => trivial) fuel listed a w (Region.free_spec (lx_at hi) hf) (by simpa using hr) (fun k hk => by cases hk) hy hS h
theorem lt_skip (i : Nat) {o : Oper} (hi : l[i]? = some o) (hs : Region.noSelect l.toArray = true) (hf : Region.free .any l.toArray listed i = true) (hr : (Region.ready .any l.toArray listed).contains i = true) (hiF : F.contains i = false)
    (hQ : ∀ c a w, Q (.panic c) (a.put o.dst undef) w → Q (.panic c) a w) (hw : Region.wanted o (yielded l.toArray a.tmps) = false) (hS : finB F listed = false → S w)
    (h : wpAnyT P l.toArray Q F S fuel (listed.setIfInBounds i true) (a.put o.dst undef) w) : wpAnyT P l.toArray Q F S (fuel + 1) listed a w :=
  lt_pure i hi hs hf hr hiF hQ (.inr ⟨hw, rfl⟩) hS h
theorem ls1 {α : Type _} (l : List α) (i : Nat) (a : α) : l.toArray.setIfInBounds i a = (l.set i a).toArray := List.setIfInBounds_toArray ..
theorem ls2 {α : Type _} {a b : α} {l : List α} : (a :: l).set 0 b = b :: l := rfl
theorem ls3 {α : Type _} {a b : α} {l : List α} {n : Nat} : (a :: l).set (n + 1) b = a :: l.set n b := rfl
theorem lp (i : Nat) {o : Oper} (hi : l[i]? = some o) (hx : ∀ w, (execOp a.eval o).run P w = .ok (.value v) w) (hS : finB F listed = false → S w)
  (h : wpAnyT P l.toArray Q F S fuel (listed.setIfInBounds i true) (a.put o.dst v) w) (hs : Region.noSelect l.toArray = true := by kernel_rfl) (hf : Region.free .any l.toArray listed i = true := by kernel_rfl) (hr : (Region.ready .any l.toArray listed).contains i = true := by kernel_rfl) (hiF : F.contains i = false := by kernel_rfl)
  (hQ : ∀ c a w, Q (.panic c) (a.put o.dst v) w → Q (.panic c) a w := by exact fun _ _ _ h => h) (hw : Region.wanted o (yielded l.toArray a.tmps) = true := by exact rfl) : wpAnyT P l.toArray Q F S (fuel + 1) listed a w :=
  lt_pure i hi hs hf hr hiF hQ (yi_run hw hx) hS h
theorem lq (i : Nat) (D : List Nat) {o : Oper} (hi : l[i]? = some o) (hy : YieldsIf P l.toArray S o v a) (hS : S w)
  (h : wpAnyT P l.toArray Q F S fuel (listed.setIfInBounds i true) (a.put o.dst v) w) (hs : Region.noSelect l.toArray = true := by kernel_rfl) (hf : Region.free .any l.toArray listed i = true := by kernel_rfl) (hr : (Region.ready .any l.toArray listed).contains i = true := by kernel_rfl)
  (hd : depB l.toArray i D = true := by kernel_rfl) (hF : (F.all (D.contains ·) && !F.contains i && D.all (fun k => !listed.getD k false)) = true := by kernel_rfl)
  (hQ : ∀ c a w, Q (.panic c) (a.put o.dst v) w → Q (.panic c) a w := by exact fun _ _ _ h => h) : wpAnyT P l.toArray Q F S (fuel + 1) listed a w :=
  lt_take i D hi hs hf hr hd hF hQ hy hS h
theorem lk (i : Nat) {o : Oper} (hi : l[i]? = some o) (hS : finB F listed = false → S w)
  (h : wpAnyT P l.toArray Q F S fuel (listed.setIfInBounds i true) (a.put o.dst undef) w) (hs : Region.noSelect l.toArray = true := by kernel_rfl) (hf : Region.free .any l.toArray listed i = true := by kernel_rfl) (hr : (Region.ready .any l.toArray listed).contains i = true := by kernel_rfl) (hiF : F.contains i = false := by kernel_rfl)
  (hQ : ∀ c a w, Q (.panic c) (a.put o.dst undef) w → Q (.panic c) a w := by exact fun _ _ _ h => h) (hw : Region.wanted o (yielded l.toArray a.tmps) = false := by exact rfl) : wpAnyT P l.toArray Q F S (fuel + 1) listed a w :=
  lt_skip i hi hs hf hr hiF hQ hw hS h
theorem lt_pureF (i : Nat) {o : Oper} (hi : l[i]? = some o) (hs : Region.noSelect l.toArray = true) (hf : Region.free .any l.toArray listed i = true) (hr : (Region.ready .any l.toArray listed).contains i = true) (hiF : F.contains i = false) (hfin : finB F listed = true)
    (hQ : ∀ c a w, Q (.panic c) (a.put o.dst v) w → Q (.panic c) a w) (hy : YieldsIf P l.toArray (fun _ => True) o v a)
    (h : wpAnyT P l.toArray Q F S fuel (listed.setIfInBounds i true) (a.put o.dst v) w) : wpAnyT P l.toArray Q F S (fuel + 1) listed a w :=
  lt_pure i hi hs hf hr hiF hQ hy (fun e => by rw [hfin] at e; cases e) h
theorem lt_op (i : Nat) {o : Oper} (hi : l[i]? = some o) (hr : Region.ready .any l.toArray listed = [i]) (hw : Region.wanted o (yielded l.toArray a.tmps) = true)
    (h : o.wp P a w (fun a' w' => (finB F (listed.setIfInBounds i true) = false → S w') ∧ wpAnyT P l.toArray Q F S fuel (listed.setIfInBounds i true) a' w') Q) : wpAnyT P l.toArray Q F S (fuel + 1) listed a w := by
  refine ⟨fun h0 => ?_, fun j hj => ?_⟩
  · rw [hr] at h0; cases h0
  rw [hr] at hj
  obtain rfl : j = i := by simpa using hj
  unfold wpOp
  rw [lx_at hi]
  simp only [hw, if_true]
  exact .inl h
theorem lt_end (i : Nat) {o : Oper} (hi : l[i]? = some o) (hr : Region.ready .any l.toArray listed = [i]) (hw : Region.wanted o (yielded l.toArray a.tmps) = true) (hfin : finB F (listed.setIfInBounds i true) = true)
    (h : o.wp P a w (wpAnyT P l.toArray Q F S fuel (listed.setIfInBounds i true)) Q) : wpAnyT P l.toArray Q F S (fuel + 1) listed a w :=
  lt_op i hi hr hw (Oper.wp_mono (fun _ _ h => ⟨(fun e => by rw [hfin] at e; cases e), h⟩) h)
theorem lt_call (i : Nat) {o : Oper} {f : FuncId} {xs : List Operand} {ats : Array TypeId} (hi : l[i]? = some o) (hr : Region.ready .any l.toArray listed = [i]) (hw : Region.wanted o (yielded l.toArray a.tmps) = true)
    (ho : o.op = .call { callee := .value (.func f), args := xs.toArray, argTypes := ats }) (hf : GoFn P f) (vals : List Value) (hv : xs.map a.eval = vals)
    (hc : Calls P f vals.toArray w fun e w' => ∃ v, e = .returned v ∧ (finB F (listed.setIfInBounds i true) = false → S w') ∧ wpAnyT P l.toArray Q F S fuel (listed.setIfInBounds i true) (a.put o.dst v) w') : wpAnyT P l.toArray Q F S (fuel + 1) listed a w :=
  lt_op i hi hr hw (wp_call_go ho hf vals.toArray (by rw [List.map_toArray, hv]) hc)
theorem lt_done (hr : Region.ready .any l.toArray listed = []) (h : Q .normal a w) : wpAnyT P l.toArray Q F S fuel listed a w := by
  cases fuel with
  | zero => exact ⟨hr, h⟩
  | succ f => exact ⟨fun _ => h, fun i hi => (by rw [hr] at hi; cases hi)⟩
end
section
variable {P : Program} {Q : Exit → Act → World → Prop} {K : Act → World → Prop} {o : Oper} {a : Act} {w x : World} {os : List Ob}
theorem wpo_append {t e : TypeId} {size bytes : Nat} (s y : Operand) (ho : o.op = .call { callee := .builtin .append, args := #[s, y], argTypes := #[t, t] }) (hS : SliceOf P t e size bytes) (h : OW w os x) (i : Nat) {v : Value} {n : Nat} {cs : List Value} (hi : os[i]? = some (rowO e size v n cs)) (hs : a.eval s = v)
    (B : Nat) (A : Option Addr) (m c : Nat) (news : List Value) (hy : a.eval y = .slice A m c) (hr : Reads x B size A m news) (h1 : ∀ u ∈ news, u.oneCell' = true) (h63 : n + m ≤ maxLen) (hbytes : (n + m) * bytes ≤ 140737488355328)
    (hK : ∀ A' c' z, OW w (os.set i (rowO e size (.slice A' (n + m) c') (n + m) (cs ++ news))) z → x.grownBy z v.ownBlock → K (a.put o.dst (.slice A' (n + m) c')) z) : o.wp P a x K Q := by
  refine wp_append_reads x s y ho hS w.heap.size v n cs hs (h.row hi) B A m c news hy hr h1 h63 hbytes h.up.size fun v' w' h2 h3 h4 => ?_
  obtain ⟨A', c', rfl, _⟩ := own_slice h2
  exact hK A' c' w' (h.grow hi h2 h3 h4) h3
theorem wpo_build {t e : TypeId} {len sz bytes : Nat} {parts : Array (Nat × Operand)} (ho : o.op = .buildSlice t len parts) (C : Array Value) (hS : SliceOf P t e sz bytes) (z : Value) (hz : (P.info? e).bind (·.zero) = some z) (hsm : ¬ len * sz > 2 ^ 24) (hp : ¬ len * sz = 0) (hm : len ≤ maxLen) (hsz : C.size = len * sz)
    (hf : Instr.fill (fun i => some (i * sz, sz)) ((Array.range (len * sz)).map (z.cells[· % z.cells.size]!)) (parts.map fun (i, x) => (i, a.eval x)).toList = some C)
    (h : OW w os x) (hK : ∀ g z, OW w (os ++ [rowO e sz (.slice (some ⟨g, 0, none⟩) len len) len C.toList]) z → Below x.heap.size x z → K (a.put o.dst (.slice (some ⟨g, 0, none⟩) len len)) z) : o.wp P a x K Q := by
  obtain ⟨ht, ⟨i, z', hi, hz', hsize, _, _⟩, _⟩ := hS
  rw [hi] at hz
  have hz : i.zero = some z := hz
  rw [hz'] at hz; injection hz with hz; subst hz
  subst hsize
  exact wp_buildSlice t e len parts ho C i z' ht hi hz' hsm hp hf (hK _ _ (h.app (OW.lit1 x C e i.size len hm hsz)) ((Below.refl _ _).alloc (Nat.le_refl _) _))
theorem wpo_box {t : TypeId} {y : Operand} (ho : o.op = .box t y) (cs : List Value) (hx : (a.eval y).cells = cs.toArray) (h : OW w os x) (hK : ∀ g z, OW w (os ++ [boxO g cs]) z → Below x.heap.size x z → K (a.put o.dst (.pointer (some ⟨g, 0, none⟩))) z) : o.wp P a x K Q := by
  unfold Oper.wp execOp
  simp only [ho, Sem.run_bind, Instr.box, newVar, newRow, run_newObj_alloc, Sem.run_pure, Result.andThen_ok, hx]
  exact hK _ _ (h.app (OW.box1 x t cs)) ((Below.refl _ _).alloc (Nat.le_refl _) _)
theorem wpo_alloc {t : TypeId} (ho : o.op = .alloc t) (cs : List Value) (hz : (P.info? t).bind (·.zero) = some (.agg cs.toArray) ∨ ∃ v : Value, (P.info? t).bind (·.zero) = some v ∧ v.cells = cs.toArray) (h : OW w os x) (hK : ∀ g z, OW w (os ++ [boxO g cs]) z → Below x.heap.size x z → K (a.put o.dst (.pointer (some ⟨g, 0, none⟩))) z) : o.wp P a x K Q := by
  obtain ⟨v, hv, hc⟩ : ∃ v : Value, (P.info? t).bind (·.zero) = some v ∧ v.cells = cs.toArray := by
    rcases hz with h | h
    · exact ⟨_, h, rfl⟩
    · exact h
  refine wp_alloc_row ho hv ?_
  rw [hc]
  exact hK _ _ (h.app (OW.box1 x t cs)) ((Below.refl _ _).alloc (Nat.le_refl _) _)
theorem wpo_put {t : TypeId} {p y : Operand} (ho : o.op = .store t p y) (h : OW w os x) (i : Nat) {g : Nat} {cs : List Value} (hi : os[i]? = some (boxO g cs)) (hx : a.eval p = .pointer (some ⟨g, 0, none⟩)) (vs : List Value) (hy : a.eval y = .agg vs.toArray) (hl : vs.length = cs.length) (ht : (P.info? t).map (·.size) = some vs.length) (h1 : ∀ u ∈ vs, u.oneCell' = true)
    (hK : ∀ z, OW w (os.set i (boxO g vs)) z → Chg (fun b => b = g) x z → K (a.put o.dst undef) z) : o.wp P a x K Q :=
  wp_store_row ho hx hy (h.range hi) (h.fz hi) hl ht h1 (hK _ (h.put hi hl) (setCells_chg g vs 0 x))
theorem wpo_put1 {t : TypeId} {p y : Operand} (ho : o.op = .store t p y) (h : OW w os x) (i : Nat) {g : Nat} {cs : List Value} (hi : os[i]? = some (boxO g cs)) (j : Nat) (hx : a.eval p = .pointer (some ⟨g, j, none⟩)) (hj : j < cs.length) (v : Value) (hy : a.eval y = v) (ht : (P.info? t).map (·.size) = some 1) (h1 : v.oneCell' = true)
    (hK : ∀ z, OW w (os.set i (boxO g (cs.set j v))) z → Chg (fun b => b = g) x z → K (a.put o.dst undef) z) : o.wp P a x K Q := by
  unfold Oper.wp execOp
  have hs : (x.cell? ⟨g, j, none⟩).isSome = true := by
    rw [h.cell hi (List.getElem?_eq_getElem hj)]; rfl
  simp only [ho, hx, hy, Instr.storeAt, Instr.sureAddr, Sem.run_bind, Sem.run_pure, Result.andThen_ok, run_storeVar_one x g j t v hs (h.fz hi j) h1 ht]
  exact hK _ (h.put1 hi j v) (Chg.setCell x ⟨g, j, none⟩ v)
theorem wpo_store {t : TypeId} {p y : Operand} (ho : o.op = .store t p y) (h : OW w os x) (i : Nat) {T : TypeId} {sz g n cap : Nat} {cs : List Value} (hi : os[i]? = some (rowO T sz (.slice (some ⟨g, 0, none⟩) n cap) n cs)) (j : Nat) (hx : a.eval p = .pointer (some ⟨g, j, none⟩)) (hj : j < n * sz) (v : Value) (hy : a.eval y = v) (ht : (P.info? t).map (·.size) = some 1) (h1 : v.oneCell' = true)
    (hK : ∀ z, OW w (os.set i (rowO T sz (.slice (some ⟨g, 0, none⟩) n cap) n (cs.set j v))) z → Chg (fun b => b = g) x z → K (a.put o.dst undef) z) : o.wp P a x K Q := by
  unfold Oper.wp execOp
  have hr := h.row hi
  have hs : (x.cell? ⟨g, j, none⟩).isSome = true := by
    rw [World.ownsRow.cellAt hr j hj, List.getElem?_eq_getElem (by rw [hr.1]; exact hj)]; rfl
  simp only [ho, hx, hy, Instr.storeAt, Instr.sureAddr, Sem.run_bind, Sem.run_pure, Result.andThen_ok, run_storeVar_one x g j t v hs (World.ownsRow.frozenAt hr j) h1 ht]
  exact hK _ (h.store hi j v) (Chg.setCell x ⟨g, j, none⟩ v)
end
section
variable {P : Program} {ops : Array Oper} {Q : Exit → Act → World → Prop} {rest : List Oper} {o : Oper} {a : Act} {w x : World} {os : List Ob}
theorem wl_append {t e : TypeId} {size bytes : Nat} (hgd : Region.wanted o (yielded ops a.tmps) = true) (s y : Operand) (ho : o.op = .call { callee := .builtin .append, args := #[s, y], argTypes := #[t, t] }) (hS : SliceOf P t e size bytes) (h : OW w os x) (i : Nat) {v : Value} {n : Nat} {cs : List Value} (hi : os[i]? = some (rowO e size v n cs)) (hs : a.eval s = v)
    (B : Nat) (A : Option Addr) (m c : Nat) (news : List Value) (hy : a.eval y = .slice A m c) (hr : Reads x B size A m news) (h1 : ∀ u ∈ news, u.oneCell' = true) (h63 : n + m ≤ maxLen) (hbytes : (n + m) * bytes ≤ 140737488355328)
    (hK : ∀ A' c' z, OW w (os.set i (rowO e size (.slice A' (n + m) c') (n + m) (cs ++ news))) z → x.grownBy z v.ownBlock → wpList P ops Q rest (a.put o.dst (.slice A' (n + m) c')) z) : wpList P ops Q (o :: rest) a x :=
  BigFrame.wpList_want hgd fun _ hk => wpo_append s y ho hS h i hi hs B A m c news hy hr h1 h63 hbytes fun A' c' z hz hg => hk _ _ (hK A' c' z hz hg)
theorem wl_build {t e : TypeId} {len sz bytes : Nat} (hgd : Region.wanted o (yielded ops a.tmps) = true) (parts : Array (Nat × Operand)) (ho : o.op = .buildSlice t len parts) (C : Array Value) (hS : SliceOf P t e sz bytes) (z : Value) (hz : (P.info? e).bind (·.zero) = some z) (hsm : ¬ len * sz > 2 ^ 24) (hp : ¬ len * sz = 0) (hm : len ≤ maxLen) (hsz : C.size = len * sz)
    (hf : Instr.fill (fun i => some (i * sz, sz)) ((Array.range (len * sz)).map (z.cells[· % z.cells.size]!)) (parts.map fun (i, x) => (i, a.eval x)).toList = some C)
    (h : OW w os x) (hK : ∀ g z, OW w (os ++ [rowO e sz (.slice (some ⟨g, 0, none⟩) len len) len C.toList]) z → Below x.heap.size x z → wpList P ops Q rest (a.put o.dst (.slice (some ⟨g, 0, none⟩) len len)) z) : wpList P ops Q (o :: rest) a x :=
  BigFrame.wpList_want hgd fun _ hk => wpo_build ho C hS z hz hsm hp hm hsz hf h fun g z hz hb => hk _ _ (hK g z hz hb)
theorem wl_box {t : TypeId} (hgd : Region.wanted o (yielded ops a.tmps) = true) (y : Operand) (ho : o.op = .box t y) (cs : List Value) (hx : (a.eval y).cells = cs.toArray) (h : OW w os x) (hK : ∀ g z, OW w (os ++ [boxO g cs]) z → Below x.heap.size x z → wpList P ops Q rest (a.put o.dst (.pointer (some ⟨g, 0, none⟩))) z) : wpList P ops Q (o :: rest) a x :=
  BigFrame.wpList_want hgd fun _ hk => wpo_box ho cs hx h fun g z hz hb => hk _ _ (hK g z hz hb)
theorem wl_alloc {t : TypeId} (hgd : Region.wanted o (yielded ops a.tmps) = true) (ho : o.op = .alloc t) (cs : List Value) (hz : (P.info? t).bind (·.zero) = some (.agg cs.toArray) ∨ ∃ v : Value, (P.info? t).bind (·.zero) = some v ∧ v.cells = cs.toArray) (h : OW w os x) (hK : ∀ g z, OW w (os ++ [boxO g cs]) z → Below x.heap.size x z → wpList P ops Q rest (a.put o.dst (.pointer (some ⟨g, 0, none⟩))) z) : wpList P ops Q (o :: rest) a x :=
  BigFrame.wpList_want hgd fun _ hk => wpo_alloc ho cs hz h fun g z hz hb => hk _ _ (hK g z hz hb)
theorem wl_put {t : TypeId} (hgd : Region.wanted o (yielded ops a.tmps) = true) (p y : Operand) (ho : o.op = .store t p y) (h : OW w os x) (i : Nat) {g : Nat} {cs : List Value} (hi : os[i]? = some (boxO g cs)) (hx : a.eval p = .pointer (some ⟨g, 0, none⟩)) (vs : List Value) (hy : a.eval y = .agg vs.toArray) (hl : vs.length = cs.length) (ht : (P.info? t).map (·.size) = some vs.length) (h1 : ∀ u ∈ vs, u.oneCell' = true)
    (hK : ∀ z, OW w (os.set i (boxO g vs)) z → Chg (fun b => b = g) x z → wpList P ops Q rest (a.put o.dst undef) z) : wpList P ops Q (o :: rest) a x :=
  BigFrame.wpList_want hgd fun _ hk => wpo_put ho h i hi hx vs hy hl ht h1 fun z hz hc => hk _ _ (hK z hz hc)
theorem wl_put1 {t : TypeId} (hgd : Region.wanted o (yielded ops a.tmps) = true) (p y : Operand) (ho : o.op = .store t p y) (h : OW w os x) (i : Nat) {g : Nat} {cs : List Value} (hi : os[i]? = some (boxO g cs)) (j : Nat) (hx : a.eval p = .pointer (some ⟨g, j, none⟩)) (hj : j < cs.length) (v : Value) (hy : a.eval y = v) (ht : (P.info? t).map (·.size) = some 1) (h1 : v.oneCell' = true)
    (hK : ∀ z, OW w (os.set i (boxO g (cs.set j v))) z → Chg (fun b => b = g) x z → wpList P ops Q rest (a.put o.dst undef) z) : wpList P ops Q (o :: rest) a x :=
  BigFrame.wpList_want hgd fun _ hk => wpo_put1 ho h i hi j hx hj v hy ht h1 fun z hz hc => hk _ _ (hK z hz hc)
end
theorem setCells_chgo (g : Nat) (vs : List Value) : ∀ (o : Nat) (x : World), Chg (fun b => b = g) x (x.setCells g o vs) := fun o x => setCells_chg g vs o x
def midL (cs : List Value) (o : Nat) (vs : List Value) : List Value := cs.take o ++ vs ++ cs.drop (o + vs.length)
section
variable {w x y : World} {os os' ps : List Ob} {g o : Nat} {cs vs : List Value}
theorem rangeAt_part {b : Nat} (h : x.rangeAt b 0 cs) (k n : Nat) : x.rangeAt b k ((cs.drop k).take n) := fun j v hj => by
  rw [List.getElem?_take] at hj
  split at hj
  · rw [List.getElem?_drop] at hj
    have := h (k + j) v hj
    rwa [Nat.zero_add] at this
  · cases hj
theorem OW.part (h : OW w os x) {i : Nat} (hi : os[i]? = some (boxO g cs)) (k n : Nat) : x.rangeAt g k ((cs.drop k).take n) := rangeAt_part (h.range hi) k n
theorem OW.putAt (h : OW w os x) {i : Nat} (hi : os[i]? = some (boxO g cs)) (hl : o + vs.length ≤ cs.length) : OW w (os.set i (boxO g (midL cs o vs))) (x.setCells g o vs) := by
  obtain ⟨h1, h2, h3, h4⟩ := h.box hi
  have ht : x.there g o vs.length := fun j hj => ⟨by
    have := h3.isSome (o + j) (by omega)
    rwa [Nat.zero_add] at this, h4 _⟩
  refine h.putR hi (setCells_chgo g vs o x) (fun j v hj => ?_) fun q => World.frozen?_setCells _ _ _ _ _
  rw [Nat.zero_add]
  unfold midL at hj
  have lt : (cs.take o).length = o := by rw [List.length_take]; omega
  rcases Nat.lt_or_ge j o with h5 | h5
  · rw [List.append_assoc, List.getElem?_append_left (by omega), List.getElem?_take_of_lt h5] at hj
    have h6 : x.rangeAt g 0 (cs.take o) := fun q u hq => h3 q u (by
      rw [List.getElem?_take] at hq
      split at hq
      · exact hq
      · cases hq)
    have h7 := World.rangeAt_setCells_apart h6 g o vs (.inr (.inl (by omega)))
    have := h7 j v (by rw [List.getElem?_take_of_lt h5]; exact hj)
    rwa [Nat.zero_add] at this
  · rcases Nat.lt_or_ge j (o + vs.length) with h6 | h6
    · rw [List.getElem?_append_left (by rw [List.length_append]; omega), List.getElem?_append_right (by omega), lt] at hj
      have h7 := World.rangeAt_setCells_same x g o vs ht (j - o) v hj
      rwa [show o + (j - o) = j from by omega] at h7
    · rw [List.getElem?_append_right (by rw [List.length_append]; omega), List.length_append, lt, List.getElem?_drop] at hj
      have h8 : x.rangeAt g (o + vs.length) (cs.drop (o + vs.length)) := fun q u hq => by
        rw [List.getElem?_drop] at hq
        have := h3 _ u hq
        rwa [Nat.zero_add] at this
      have h7 := World.rangeAt_setCells_apart h8 g o vs (.inr (.inr (Nat.le_refl _)))
      have := h7 (j - (o + vs.length)) v (by rw [List.getElem?_drop]; exact hj)
      rwa [show o + vs.length + (j - (o + vs.length)) = j from by omega] at this
end
section
variable {P : Program} {ops : Array Oper} {Q : Exit → Act → World → Prop} {K : Act → World → Prop} {rest : List Oper} {o : Oper} {a : Act} {w x : World} {os : List Ob}
theorem wp_load_at {ty : TypeId} {y : Operand} (ho : o.op = .load ty y) {g k : Nat} {cs : List Value} (hx : a.eval y = .pointer (some ⟨g, k, none⟩)) (hr : w.rangeAt g k cs) (ht : RowTy P ty cs.length)
    (hK : K (a.put o.dst (.agg cs.toArray)) w) : o.wp P a w K Q := by
  obtain ⟨⟨d, hu, hd⟩, hi⟩ := ht
  exact wp_load_mid ty y ho g k hx cs d hr hu hd hi hK
theorem wpList_load_at (hgd : Region.wanted o (yielded ops a.tmps) = true) (ty : TypeId) (y : Operand) (ho : o.op = .load ty y) {g k : Nat} {cs : List Value} (hx : a.eval y = .pointer (some ⟨g, k, none⟩)) (hr : w.rangeAt g k cs) (ht : RowTy P ty cs.length)
    (hK : wpList P ops Q rest (a.put o.dst (.agg cs.toArray)) w) : wpList P ops Q (o :: rest) a w :=
  BigFrame.wpList_want hgd fun _ h => wp_load_at ho hx hr ht (h _ _ hK)
theorem wpo_putAt {t : TypeId} {p y : Operand} (ho : o.op = .store t p y) (h : OW w os x) (i : Nat) {g k : Nat} {cs : List Value} (hi : os[i]? = some (boxO g cs)) (hx : a.eval p = .pointer (some ⟨g, k, none⟩)) (vs : List Value) (hy : a.eval y = .agg vs.toArray) (hl : k + vs.length ≤ cs.length) (ht : (P.info? t).map (·.size) = some vs.length) (h1 : ∀ u ∈ vs, u.oneCell' = true)
    (hK : ∀ z, OW w (os.set i (boxO g (midL cs k vs))) z → Chg (fun b => b = g) x z → K (a.put o.dst undef) z) : o.wp P a x K Q :=
  wp_store_mid t p y ho g k vs.toArray hx hy (fun j hj => ⟨by
    have := (h.range hi).isSome (k + j) (by simp at hj; omega)
    rwa [Nat.zero_add] at this, h.fz hi _⟩) (by simpa using ht) (all_oneCell_toArray h1) (hK _ (h.putAt hi hl) (setCells_chgo g vs k x))
theorem wl_putAt {t : TypeId} (hgd : Region.wanted o (yielded ops a.tmps) = true) (p y : Operand) (ho : o.op = .store t p y) (h : OW w os x) (i : Nat) {g k : Nat} {cs : List Value} (hi : os[i]? = some (boxO g cs)) (hx : a.eval p = .pointer (some ⟨g, k, none⟩)) (vs : List Value) (hy : a.eval y = .agg vs.toArray) (hl : k + vs.length ≤ cs.length) (ht : (P.info? t).map (·.size) = some vs.length) (h1 : ∀ u ∈ vs, u.oneCell' = true)
    (hK : ∀ z, OW w (os.set i (boxO g (midL cs k vs))) z → Chg (fun b => b = g) x z → wpList P ops Q rest (a.put o.dst undef) z) : wpList P ops Q (o :: rest) a x :=
  BigFrame.wpList_want hgd fun _ hk => wpo_putAt ho h i hi hx vs hy hl ht h1 fun z hz hc => hk _ _ (hK z hz hc)
end
theorem bytO_app (T : TypeId) (A : Option Addr) (c n m : Nat) (l r : List UInt8) (hn : l.length = n) (hm : r.length = m) : rowO T 1 (.slice A (n + m) c) (n + m) (u8s l ++ u8s r) = bytO T (A, c, l ++ r) := by
  subst hn; subst hm
  unfold bytO rowO
  simp [u8s]
section
variable {P : Program} {ops : Array Oper} {Q : Exit → Act → World → Prop} {K : Act → World → Prop} {rest : List Oper} {o : Oper} {a : Act} {w x : World} {os : List Ob}
theorem wpo_appB {t e : TypeId} (s y : Operand) (ho : o.op = .call { callee := .builtin .append, args := #[s, y], argTypes := #[t, t] }) (hS : SliceOf P t e 1 1) (h : OW w os x) (i : Nat) {A : Option Addr} {c n : Nat} {l : List UInt8} (hi : os[i]? = some (bytO e (A, c, l))) (hn : l.length = n) (hs : a.eval s = .slice A n c)
    (B : Nat) (A2 : Option Addr) (m c2 : Nat) (r : List UInt8) (hy : a.eval y = .slice A2 m c2) (hr : RB x B A2 m r) (hb : n + m ≤ 140737488355328)
    (hK : ∀ A' c' z, OW w (os.set i (bytO e (A', c', l ++ r))) z → x.grownBy z (Value.slice A n c).ownBlock → K (a.put o.dst (.slice A' (n + m) c')) z) : o.wp P a x K Q := by
  subst hn
  refine wpo_append s y ho hS h i (v := .slice A l.length c) (n := l.length) (cs := u8s l) hi hs B A2 m c2 (u8s r) hy hr (u8s_one r) (by unfold maxLen; omega) (by omega) fun A' c' z hz hg => hK A' c' z ?_ hg
  rw [bytO_app e A' c' _ m l r rfl hr.len] at hz
  exact hz
theorem wl_appB {t e : TypeId} (hgd : Region.wanted o (yielded ops a.tmps) = true) (s y : Operand) (ho : o.op = .call { callee := .builtin .append, args := #[s, y], argTypes := #[t, t] }) (hS : SliceOf P t e 1 1) (h : OW w os x) (i : Nat) {A : Option Addr} {c n : Nat} {l : List UInt8} (hi : os[i]? = some (bytO e (A, c, l))) (hn : l.length = n) (hs : a.eval s = .slice A n c)
    (B : Nat) (A2 : Option Addr) (m c2 : Nat) (r : List UInt8) (hy : a.eval y = .slice A2 m c2) (hr : RB x B A2 m r) (hb : n + m ≤ 140737488355328)
    (hK : ∀ A' c' z, OW w (os.set i (bytO e (A', c', l ++ r))) z → wpList P ops Q rest (a.put o.dst (.slice A' (n + m) c')) z) : wpList P ops Q (o :: rest) a x :=
  BigFrame.wpList_want hgd fun _ hk => wpo_appB s y ho hS h i hi hn hs B A2 m c2 r hy hr hb fun A' c' z hz _ => hk _ _ (hK A' c' z hz)
theorem wl_make0 {t e : TypeId} {size bytes : Nat} (hg : o.guard = none) (l c : Operand) (hop : o.op = Op.makeSlice t l c) (hS : SliceOf P t e size bytes) (n : Nat) (C : Int) (hl : a.eval l = .int .i64 0) (hc : a.eval c = .int .i64 C) (hC : C = (n : Int)) (b2 : bytes * n ≤ 281474976710656) (b3 : n ≤ maxLen) (h : OW w os x)
    (hK : ∀ g z, OW w (os ++ [rowO e size (.slice (some ⟨g, 0, none⟩) 0 n) 0 []]) z → Below x.heap.size x z → wpList P ops Q rest (a.put o.dst (.slice (some ⟨g, 0, none⟩) 0 n)) z) : wpList P ops Q (o :: rest) a x := by
  obtain ⟨ht, ⟨i, z, hi, hz, hsz, hby, _⟩, _⟩ := hS
  subst hby
  refine wpList_make_own x hg l c t hop x.heap.size e i z size ht hi hz hsz .i64 .i64 C n hl hc hC b2 b3 (Nat.le_refl _) fun w' ho hgr => ?_
  have hb := below_grown_none hgr
  exact hK _ _ (h.app (OW.row1 hb ho)) hb
end
theorem OW.nilRow {w x : World} {os : List Ob} (h : OW w os x) (T : TypeId) (sz : Nat) : OW w (os ++ [rowO T sz (.slice none 0 0) 0 []]) x := h.app ⟨Below.refl _ _, fun o ho => by
  obtain rfl := List.mem_singleton.1 ho
  exact ⟨(fun e => nomatch e), fun _ => own_nil _ _ _ _⟩, List.pairwise_singleton _ _⟩
theorem OW.nilB {w x : World} {os : List Ob} (h : OW w os x) (T : TypeId) : OW w (os ++ [bytO T (none, 0, [])]) x := h.nilRow T 1
theorem OW.bytes2 {w y : World} {T : TypeId} {A : Option Addr} {c : Nat} {l l' : List UInt8} {v : Value} {k k' : Int} {n : Nat} (h : OW w [bytO T (A, c, l)] y) (hl : l = l') (hn : l.length = n) (hk : k = k') (hv : v = .slice A n c) : BytesPost2 T l' k' w (.returned (.tuple #[v, .int .i64 k])) y := by
  subst hl; subst hk; subst hn; subst hv
  exact ⟨A, c, rfl, h.byt (i := 0) rfl, h.up⟩
theorem OW.bytes1 {w y : World} {T : TypeId} {A : Option Addr} {c : Nat} {l l' : List UInt8} {v : Value} {n : Nat} (h : OW w [bytO T (A, c, l)] y) (hl : l = l') (hn : l.length = n) (hv : v = .slice A n c) : BytesPost T l' w (.returned v) y := by
  subst hl; subst hn; subst hv
  exact ⟨A, c, rfl, h.byt (i := 0) rfl, h.up⟩
def bytesIn (c : Nat) (l : List UInt8) (r : Obj) : Prop := ∃ cur T, r = .cells cur T (0, 0) ∧ c ≤ cur.size ∧ cur.toList.take l.length = u8s l
def clipO (A : Option Addr) (l : List UInt8) : Ob := match A with
  | none => nilO
  | some a => phiO a.block (bytesIn l.length l)
theorem bytesIn.at_ {c : Nat} {l : List UInt8} {r : Obj} {x : World} {g j : Nat} {b : UInt8} (h : bytesIn c l r) (hr : x.heap[g]? = some r) (hj : l[j]? = some b) : x.cell? ⟨g, j, none⟩ = some (u8v b) := by
  obtain ⟨cur, T, rfl, _, h2⟩ := h
  have hlt : j < l.length := (List.getElem?_eq_some_iff.1 hj).1
  have h3 : (cur.toList.take l.length)[j]? = (u8s l)[j]? := by rw [h2]
  rw [List.getElem?_take_of_lt hlt, u8s_at hj] at h3
  simp [World.cell?, hr]
  simpa [u8v] using h3
def CAt (A : Option Addr) (l : List UInt8) : Prop := (A = none ∧ l = []) ∨ ∃ g, A = some ⟨g, 0, none⟩
section
variable {w x : World} {os : List Ob} {i c n : Nat} {T : TypeId} {A : Option Addr} {l : List UInt8}
theorem cat_of (h : OW w os x) (hi : os[i]? = some (bytO T (A, c, l))) : CAt A l := by
  have h1 := h.byt hi
  rcases h1.2 with ⟨hv, h0⟩ | ⟨g, cap, cur, hv, _⟩
  · injection hv with hv
    exact .inl ⟨hv, List.eq_nil_of_length_eq_zero h0⟩
  · injection hv with hv
    exact .inr ⟨g, hv⟩
theorem OW.clip (h : OW w os x) (hi : os[i]? = some (bytO T (A, c, l))) : OW w (os.set i (clipO A l)) x := by
  have h1 := h.byt hi
  refine h.upd hi (Chg.refl (fun _ => False) x) (fun _ _ e => e.elim) ?_ fun b hb => .inl ?_
  · rcases cat_of h hi with ⟨rfl, rfl⟩ | ⟨g, rfl⟩
    · exact ⟨(fun e => nomatch e), fun _ => own_nil _ _ _ _⟩
    · obtain ⟨hl, h2⟩ := h1
      rcases h2 with ⟨hv, _⟩ | ⟨g', cap, cur, hv, h2, h3, h4, _, h5, h6⟩
      · cases hv
      injection hv with hv hv2 hv3
      injection hv with hv; injection hv with hv
      subst hv
      exact Ob.at_mkr rfl ⟨g, _, rfl, h2, h3, cur, _, rfl, by rw [h5]; omega, by rw [Nat.mul_one] at h6; exact h6⟩
  · rcases cat_of h hi with ⟨rfl, rfl⟩ | ⟨g, rfl⟩
    · cases hb
    · exact hb
theorem OW.clipSl (h : OW w os x) (hc : CAt A l) (hi : os[i]? = some (clipO A l)) (hn : l.length = n) (hm : n ≤ 9223372036854775807) : Sl x A n n l := by
  subst hn
  rcases hc with ⟨rfl, rfl⟩ | ⟨g, rfl⟩
  · exact Sl.none _
  · obtain ⟨k, r, h1, h2, h3, h4⟩ := (h.get (show os[i]? = some (phiO g (bytesIn l.length l)) from hi)).some_ rfl
    injection h1 with h1; injection h1 with h1; injection h1 with h1
    subst h1
    refine ⟨RB.mk' rfl fun _ => ⟨g, 0, rfl, (Array.getElem?_eq_some_iff.1 h3).1, fun j c hj => ?_⟩, Nat.le_refl _, hm, fun e => by cases e⟩
    rw [Nat.zero_add]
    exact h4.at_ h3 hj
end
theorem results_rowL {P : Program} {fn : Func} {p : Tmp} {ty : TypeId} (h : fn.results = #[.cell p ty]) (tmps : Array Value) (w : World) (g : Nat) (cs : List Value)
    (hp : tmps.getD p undef = .pointer (some ⟨g, 0, none⟩)) (hc : w.rangeAt g 0 cs)
    (ha : (P.underlying ty).map (fun d => match d with | .struct _ | .array _ _ => true | _ => false) = some true) (hi : (P.info? ty).map (·.size) = some cs.length) :
    (results fn tmps).run P w = .ok (.agg cs.toArray) w :=
  results_box0 h tmps w g cs.toArray hp (fun j v hv => by have := hc j v (by simpa using hv); rwa [Nat.zero_add] at this) ha (by simpa using hi)
theorem results_rowL1 {P : Program} {fn : Func} {p t : Tmp} {ty : TypeId} (h : fn.results = #[.cell p ty, .tmp t]) (tmps : Array Value) (w : World) (g : Nat) (cs : List Value)
    (hp : tmps.getD p undef = .pointer (some ⟨g, 0, none⟩)) (hc : w.rangeAt g 0 cs)
    (ha : (P.underlying ty).map (fun d => match d with | .struct _ | .array _ _ => true | _ => false) = some true) (hi : (P.info? ty).map (·.size) = some cs.length) :
    (results fn tmps).run P w = .ok (.tuple #[.agg cs.toArray, tmps.getD t undef]) w :=
  results_box1 h tmps w g cs.toArray hp (fun j v hv => by have := hc j v (by simpa using hv); rwa [Nat.zero_add] at this) ha (by simpa using hi)
section
variable {P : Program} {ro : Option Nat} {n : Nat} {o : Oper} {a : Act} {w : World} {K K' : Act → World → Prop} {Q : Exit → Act → World → Prop}
end
section
variable {w x y : World} {os : List Ob} {i k : Nat} {r : Obj}
theorem OW.rawh (h : OW w os x) (hi : os[i]? = some (rawO k r)) : w.heap.size ≤ k ∧ x.heap[k]? = some r := by
  obtain ⟨k', r', h1, h2, h3, rfl⟩ := (h.get hi).some_ rfl
  injection h1 with h1; injection h1 with h1; injection h1 with h1
  subst h1; exact ⟨h2, h3⟩
theorem OW.raw1 (x : World) (r : Obj) : OW x [rawO x.heap.size r] (x.alloc r) :=
  ⟨(Below.refl _ _).alloc (Nat.le_refl _) _, fun o ho => by
    obtain rfl := List.mem_singleton.1 ho
    exact Ob.at_mkr rfl ⟨x.heap.size, r, rfl, Nat.le_refl _, World.alloc_heap_new x r, rfl⟩, List.pairwise_singleton _ _⟩
end
section
variable {α : Type} {P : Program}
structure RBox (w x1 : World) (g : Nat) (u : Value) : Prop where
  up : Below w.heap.size w x1
  lo : w.heap.size ≤ g
  hi : g < x1.heap.size
  cell : x1.cell? ⟨g, 0, none⟩ = some u
  fz : x1.frozen? ⟨g, 0, none⟩ = false
theorem RBox.of {w x1 : World} {g : Nat} {u : Value} (h : OW w [boxO g [u]] x1) : RBox w x1 g u := by
  obtain ⟨h1, h2, _, h4⟩ := h.box (i := 0) rfl
  exact ⟨h.up, h1, h2, h.cell (i := 0) (j := 0) rfl rfl, h4 0⟩
end
def fillIn (c N : Nat) (m : UInt8) (r : Obj) : Prop := ∃ cur T, r = .cells cur T (0, 0) ∧ c ≤ cur.size ∧ N ≤ c ∧ c ≤ maxLen ∧ ∀ j, j < N → cur[j]? = some (u8v m)
def fillO (g c N : Nat) (m : UInt8) : Ob := ⟨true, 0, c, .pointer (some ⟨g, 0, none⟩), N, [u8v m], some (fillIn c N m)⟩
def Marked (ks : List Ob) (A : Option Addr) (n cap : Nat) (m : UInt8) : Prop := (A = none ∧ n = 0 ∧ cap = 0) ∨ ∃ g c N, A = some ⟨g, 0, none⟩ ∧ n ≤ N ∧ n ≤ cap ∧ cap ≤ c ∧ fillO g c N m ∈ ks
def LeM (ks ks' : List Ob) : Prop := ∀ A n cap m, Marked ks A n cap m → Marked ks' A n cap m
theorem LeM.refl (ks : List Ob) : LeM ks ks := fun _ _ _ _ h => h
theorem LeM.trans {a b c : List Ob} (h : LeM a b) (k : LeM b c) : LeM a c := fun A n cap m hm => k A n cap m (h A n cap m hm)
theorem LeM.sub {a b : List Ob} (h : ∀ o, o ∈ a → o ∈ b) : LeM a b := fun A n cap m hm => by
  rcases hm with hm | ⟨g, c, N, h1, h2, h3, h4, h5⟩
  · exact .inl hm
  · exact .inr ⟨g, c, N, h1, h2, h3, h4, h _ h5⟩
theorem Marked.sub {ks : List Ob} {A : Option Addr} {n n' cap : Nat} {m : UInt8} (h : Marked ks A n cap m) (hn : n' ≤ n) : Marked ks A n' cap m := by
  rcases h with ⟨h1, h2, h3⟩ | ⟨g, c, N, h1, h2, h3, h4, h5⟩
  · exact .inl ⟨h1, by omega, h3⟩
  · exact .inr ⟨g, c, N, h1, by omega, by omega, h4, h5⟩
section
variable {w x : World} {os ks : List Ob} {g c N i : Nat} {m : UInt8}
theorem OW.fill (h : OW w os x) (hm : fillO g c N m ∈ os) : ∃ r, w.heap.size ≤ g ∧ x.heap[g]? = some r ∧ fillIn c N m r := by
  obtain ⟨i, hi⟩ := List.getElem?_of_mem hm
  obtain ⟨k, r, h1, h2, h3, h4⟩ := (h.get hi).some_ rfl
  injection h1 with h1; injection h1 with h1; injection h1 with h1
  subst h1; exact ⟨r, h2, h3, h4⟩
theorem fillIn.cell {r : Obj} (h : fillIn c N m r) (hr : x.heap[g]? = some r) {j : Nat} (hj : j < N) : x.cell? ⟨g, j, none⟩ = some (u8v m) := by
  obtain ⟨cur, T, rfl, _, _, _, h4⟩ := h
  have := h4 j hj
  simp [World.cell?, hr, this]
theorem fillIn.there {r : Obj} (h : fillIn c N m r) (hr : x.heap[g]? = some r) {j : Nat} (hj : j < c) : (x.cell? ⟨g, j, none⟩).isSome = true ∧ x.frozen? ⟨g, j, none⟩ = false := by
  obtain ⟨cur, T, rfl, h1, _, _, _⟩ := h
  refine ⟨?_, ?_⟩
  · have : j < cur.size := by omega
    simp [World.cell?, hr, this]
  · simp [World.frozen?, hr]
end
section
variable {P : Program} {Q : Exit → Act → World → Prop} {K : Act → World → Prop} {o : Oper} {a : Act} {w x : World} {os ks : List Ob} {m : UInt8}
end
section
variable {P : Program} {Q : Exit → Act → World → Prop} {F : List Nat} {S : World → Prop} {l : List Oper} {listed : Array Bool} {fuel : Nat} {a : Act} {w : World}
end
def FlK (vals : List Value) (ms : List UInt8) (ks : List Ob) : Prop := ∀ (i : Nat) (v : Value) (m : UInt8), vals[i]? = some v → ms[i]? = some m → ∃ A n cap, v = Value.slice A n cap ∧ n ≤ 1000000101 ∧ Marked ks A n cap m
structure FlD where
  lv : Value
  mA : Option Addr
  mc : Nat
  N : Nat
  vals : List Value
  ms : List UInt8
  ks : List Ob
def flO (g : Nat) (d : FlD) (rest : List Ob) : List Ob := boxO g [d.lv, .slice d.mA d.ms.length d.mc, .int .i64 (d.N : Nat)] :: rowO 34 1 d.lv d.vals.length d.vals :: bytO 5 (d.mA, d.mc, d.ms) :: rest
structure FlOk (d : FlD) : Prop where
  len : d.vals.length = d.ms.length
  few : 50 * d.vals.length ≤ d.N
  lim : d.N ≤ 5000000000
  keep : FlK d.vals d.ms d.ks
def Fl (g : Nat) (os : List Ob) : Prop := ∃ d, os = flO g d d.ks ∧ FlOk d
theorem Fl.new {w x : World} {g : Nat} {os : List Ob} (h : OW w (os ++ [boxO g [.slice none 0 0, .slice none 0 0, .int .i64 0]]) x) : ∃ of, Fl g of ∧ OW w (os ++ of) x := by
  have h1 := (h.nilRow 34 1).nilB 5
  refine ⟨_, ⟨⟨.slice none 0 0, none, 0, 0, [], [], []⟩, rfl, rfl, Nat.le_refl _, by decide, fun i v m hv => by cases hv⟩, ?_⟩
  rw [List.append_assoc, List.append_assoc] at h1
  exact h1
theorem FlK.le {vals : List Value} {ms : List UInt8} {ks ks' : List Ob} (h : FlK vals ms ks) (hk : LeM ks ks') : FlK vals ms ks' := fun i v m hv hm => by
  obtain ⟨A, n, cap, h1, h2, h3⟩ := h i v m hv hm
  exact ⟨A, n, cap, h1, h2, hk _ _ _ _ h3⟩
theorem FlK.add {vals : List Value} {ms : List UInt8} {ks : List Ob} (h : FlK vals ms ks) (hl : vals.length = ms.length) {us : List Value} {m : UInt8} {k : Nat} (hu : us.length = k) (hus : ∀ v, v ∈ us → ∃ A n cap, v = Value.slice A n cap ∧ n ≤ 1000000101 ∧ Marked ks A n cap m) : FlK (vals ++ us) (ms ++ List.replicate k m) ks := fun i v m' hv hm => by
  by_cases hi : i < vals.length
  · rw [List.getElem?_append_left hi] at hv
    rw [List.getElem?_append_left (by omega)] at hm
    exact h i v m' hv hm
  · rw [List.getElem?_append_right (by omega)] at hv
    rw [List.getElem?_append_right (by omega), List.getElem?_replicate] at hm
    split at hm
    · injection hm with hm; subst hm
      exact hus v (List.mem_of_getElem? hv)
    · cases hm
def mkL (j : Nat) : List UInt8 := [201, 202, 203, 204, 205] ++ List.replicate j 206
structure EnM (w : World) (A : Option Addr) (n c : Nat) (B : Option Addr) (m d : Nat) (D : Option Addr) (v q : Nat) (e : Ent) : Prop where
  row : Sl w A (n + 75) c (e.row ++ mkL 70)
  qual : Sl w B (m + 75) d (e.qual ++ mkL 70)
  val : Sl w D (v + 75) q (e.val ++ mkL 70)
  lr : e.row.length = n ∧ n ≤ 5000
  lq : e.qual.length = m ∧ m ≤ 5000
  lv : e.val.length = v ∧ v ≤ 5000
section
variable {w x : World} {A : Option Addr} {n c : Nat} {B : Option Addr} {m d : Nat} {D : Option Addr} {v q : Nat} {e : Ent}
theorem EnM.later (h : EnM w A n c B m d D v q e) (hb : Below w.heap.size w x) : EnM x A n c B m d D v q e := ⟨h.row.later hb, h.qual.later hb, h.val.later hb, h.lr, h.lq, h.lv⟩
theorem sl_front {l : List UInt8} {k : Nat} (h : Sl w A (n + k) c (l ++ mkL 70)) (hl : l.length = n) : Sl w A n c l := by
  have h2 := h.take (m := n) (by omega)
  rwa [List.take_left' hl] at h2
theorem EnM.en (h : EnM w A n c B m d D v q e) : En w A n c B m d D v q e := ⟨sl_front h.row h.lr.1, sl_front h.qual h.lq.1, sl_front h.val h.lv.1⟩
end
set_option maxRecDepth 100000 in
theorem rnumber_any (x y : Int) (w : World) : Calls Tryz.prog 98 #[.int .i64 x, .int .i64 y] w fun e w' => e = .returned (.int .i64 (cmpI x y)) ∧ w = w' := by
  go_enter Tryz.func98, Tryz.ntmps98
  go_wp2
  all_goals (go_ret; refine ⟨ret_int ?_, rfl⟩; unfold cmpI; (repeat' split) <;> first | rfl | (exfalso; omega))
set_option maxRecDepth 100000 in
theorem rfirst_any (x y : Bool) (w : World) : Calls Tryz.prog 99 #[.bool x, .bool y] w fun e w' => e = .returned (.int .i64 (firstI x y)) ∧ w = w' := by
  cases x <;> cases y <;> (go_enter Tryz.func99, Tryz.ntmps99; go_wp2; go_ret; exact ⟨rfl, rfl⟩)
set_option maxRecDepth 100000 in
set_option maxHeartbeats 1000000 in
theorem rBcmp_any (a b : List UInt8) (A B : Option Addr) (n c m d : Nat) (w : World) (hn : n ≤ 9223372036854775807) (_hm : m ≤ 9223372036854775807) (ha : RB w w.heap.size A n a) (hb : RB w w.heap.size B m b) :
    Calls Tryz.prog 97 #[.slice A n c, .slice B m d] w fun e w' => e = .returned (.int .i64 (cmpB a b)) ∧ Below w.heap.size w w' := by
  have HLA := Lib.hid ha.len
  have HLB := Lib.hid hb.len
  have HA : Hid (∀ w', Below w.heap.size w w' → RB w' w'.heap.size A n a) := Lib.hid fun w' h => ha.later h
  have HB : Hid (∀ w', Below w.heap.size w w' → RB w' w'.heap.size B m b) := Lib.hid fun w' h => hb.later h
  clear ha hb
  go_enter Tryz.func97, Tryz.ntmps97
  go_wp2
  go_loopw [5] (fun i wr => ∃ k : Nat, k ≤ n ∧ k ≤ m ∧ i = .int .i64 k ∧ Hid (a.take k = b.take k) ∧ Hid (Below w.heap.size w wr)) (fun i _ => n - (intOf i).toNat)
  case atStart => exact ⟨0, Nat.zero_le _, Nat.zero_le _, rfl, Lib.hid rfl, Lib.hid (Below.refl _ _)⟩
  case round =>
    obtain ⟨k, hkn, hkm, rfl, HT, HW⟩ := hrel
    by_cases hlt : k < n
    case neg =>
      have HE := Lib.hid (cmp_end HT.out HLA.out HLB.out (by omega) hkm)
      have hd1 : decide ((k : Int) < (n : Int)) = false := decide_eq_false (by omega)
      have hd2 : decide (k < n) = false := decide_eq_false hlt
      have HE2 : Hid (cmpB a b = cmpI n m) := Lib.hid (by rw [HE.out]; unfold cmpI; (repeat' split) <;> first | rfl | omega)
      clear HE
      go_wp2_with (go_at_call 98; go_must (refine (rnumber_any _ _ _).mono ?_); rintro e w1 ⟨rfl, rfl⟩)
      go_ret
      exact ⟨by rw [HE2.out]; rfl, HW.out⟩
    have hd1 : decide ((k : Int) < (n : Int)) = true := decide_eq_true (by omega)
    have hd2 : decide (k < n) = true := decide_eq_true hlt
    by_cases hmt : k < m
    case neg =>
      have HE := Lib.hid (cmp_end2 HT.out HLA.out HLB.out (by omega) hlt)
      have hd3 : decide ((k : Int) < (m : Int)) = false := decide_eq_false (by omega)
      have hd4 : decide (k < m) = false := decide_eq_false hmt
      have HE2 : Hid (cmpB a b = cmpI n m) := Lib.hid (by rw [HE.out]; unfold cmpI; (repeat' split) <;> first | rfl | omega)
      clear HE
      go_wp2_with (go_at_call 98; go_must (refine (rnumber_any _ _ _).mono ?_); rintro e w1 ⟨rfl, rfl⟩)
      go_ret
      exact ⟨by rw [HE2.out]; rfl, HW.out⟩
    have hd3 : decide ((k : Int) < (m : Int)) = true := decide_eq_true (by omega)
    have hd4 : decide (k < m) = true := decide_eq_true hmt
    have hk1 : (k : Int) < (n : Int) := by omega
    have hk2 : (k : Int) < (m : Int) := by omega
    obtain ⟨b1, o1, x, rfl, _, hx, _⟩ := (HA.out _ HW.out).at_ hlt
    obtain ⟨b2, o2, y, rfl, _, hy, _⟩ := (HB.out _ HW.out).at_ hmt
    have HX := Lib.hid hx
    have HY := Lib.hid hy
    have HCX : Hid (∀ w', Below w.heap.size w w' → w'.cell? ⟨b1, o1 + k, none⟩ = some (.int .u8 (x.toNat : Int))) := Lib.hid fun w' h => (HA.out w' h).cell HX.out
    have HCY : Hid (∀ w', Below w.heap.size w w' → w'.cell? ⟨b2, o2 + k, none⟩ = some (.int .u8 (y.toNat : Int))) := Lib.hid fun w' h => (HB.out w' h).cell HY.out
    clear hx hy
    by_cases h1 : x.toNat < y.toNat
    · have HE := Lib.hid (cmp_lt_at HT.out HX.out HY.out h1)
      have c1 := HCX.out _ HW.out
      have c2 := HCY.out _ HW.out
      have e1 : decide ((x.toNat : Int) < (y.toNat : Int)) = true := decide_eq_true (by omega)
      have e2 : decide (x.toNat < y.toNat) = true := decide_eq_true h1
      go_wp2_with fail
      go_quiet (fail)
      have HW2 := Lib.hid (below_drewN (n := nq) HW.out)
      clear c1 c2
      generalize wr.drewN nq = w3 at *
      go_wp2
      go_ret
      exact ⟨by rw [HE.out]; rfl, HW2.out⟩
    have c1 := HCX.out _ HW.out
    have c2 := HCY.out _ HW.out
    have e1 : decide ((x.toNat : Int) < (y.toNat : Int)) = false := decide_eq_false (by omega)
    have e2 : decide (x.toNat < y.toNat) = false := decide_eq_false h1
    go_wp2_with fail
    go_quiet (fail)
    have HW2 := Lib.hid (below_drewN (n := nq) HW.out)
    clear c1 c2
    generalize wr.drewN nq = w3 at *
    have c1 := HCX.out _ HW2.out
    have c2 := HCY.out _ HW2.out
    by_cases h2 : y.toNat < x.toNat
    · have HE := Lib.hid (cmp_gt_at HT.out HX.out HY.out h2)
      have e3 : decide ((y.toNat : Int) < (x.toNat : Int)) = true := decide_eq_true (by omega)
      have e4 : decide (y.toNat < x.toNat) = true := decide_eq_true h2
      go_wp2_with fail
      go_quiet (fail)
      have HW3 := Lib.hid (below_drewN (n := nq) HW2.out)
      clear c1 c2
      generalize w3.drewN nq = w4 at *
      go_wp2
      go_ret
      exact ⟨by rw [HE.out]; rfl, HW3.out⟩
    obtain rfl := UInt8.toNat_inj.1 (show x.toNat = y.toNat by omega)
    have HE := Lib.hid (cmp_eq_at HT.out HX.out HY.out)
    have e3 : decide ((x.toNat : Int) < (x.toNat : Int)) = false := decide_eq_false (by omega)
    have e4 : decide (x.toNat < x.toNat) = false := decide_eq_false h2
    go_wp2_with fail
    go_quiet (fail)
    have HW3 := Lib.hid (below_drewN (n := nq) HW2.out)
    clear c1 c2
    generalize w3.drewN nq = w4 at *
    go_wp2
    go_roundw
    case rel => exact ⟨k + 1, by omega, by omega, by go_num, HE, HW3⟩
    case measure => simp [intOf]; omega
theorem two_facts {w x : World} {A : Option Addr} {n c : Nat} {B : Option Addr} {m d : Nat} {D : Option Addr} {v q : Nat} {A' : Option Addr} {n' c' : Nat} {B' : Option Addr} {m' d' : Nat} {D' : Option Addr} {v' q' : Nat} {a b : Ent} (h : Two w 60 #[.slice A n c, .int .i64 a.fam, .slice B m d, .int .i64 a.ts, .int .i64 a.seq, .int .i64 a.kind, .slice D v q] #[.slice A' n' c', .int .i64 b.fam, .slice B' m' d', .int .i64 b.ts, .int .i64 b.seq, .int .i64 b.kind, .slice D' v' q'] x) : x.cell? ⟨w.heap.size, 0, none⟩ = some (.slice A n c) ∧ x.cell? ⟨w.heap.size, 1, none⟩ = some (.int .i64 a.fam) ∧ x.cell? ⟨w.heap.size, 2, none⟩ = some (.slice B m d) ∧ x.cell? ⟨w.heap.size, 3, none⟩ = some (.int .i64 a.ts) ∧ x.cell? ⟨w.heap.size, 4, none⟩ = some (.int .i64 a.seq) ∧ x.cell? ⟨w.heap.size, 5, none⟩ = some (.int .i64 a.kind) ∧ x.cell? ⟨w.heap.size + 1, 0, none⟩ = some (.slice A' n' c') ∧ x.cell? ⟨w.heap.size + 1, 1, none⟩ = some (.int .i64 b.fam) ∧ x.cell? ⟨w.heap.size + 1, 2, none⟩ = some (.slice B' m' d') ∧ x.cell? ⟨w.heap.size + 1, 3, none⟩ = some (.int .i64 b.ts) ∧ x.cell? ⟨w.heap.size + 1, 4, none⟩ = some (.int .i64 b.seq) ∧ x.cell? ⟨w.heap.size + 1, 5, none⟩ = some (.int .i64 b.kind) ∧ Two w 60 #[.slice A n c, .int .i64 a.fam, .slice B m d, .int .i64 a.ts, .int .i64 a.seq, .int .i64 a.kind, .slice D v q] #[.slice A' n' c', .int .i64 b.fam, .slice B' m' d', .int .i64 b.ts, .int .i64 b.seq, .int .i64 b.kind, .slice D' v' q'] x :=
  ⟨boxed1 h (i := 0) (v := .slice A n c) rfl, boxed1 h (i := 1) (v := .int .i64 a.fam) rfl, boxed1 h (i := 2) (v := .slice B m d) rfl, boxed1 h (i := 3) (v := .int .i64 a.ts) rfl, boxed1 h (i := 4) (v := .int .i64 a.seq) rfl, boxed1 h (i := 5) (v := .int .i64 a.kind) rfl, boxed2 h (i := 0) (v := .slice A' n' c') rfl, boxed2 h (i := 1) (v := .int .i64 b.fam) rfl, boxed2 h (i := 2) (v := .slice B' m' d') rfl, boxed2 h (i := 3) (v := .int .i64 b.ts) rfl, boxed2 h (i := 4) (v := .int .i64 b.seq) rfl, boxed2 h (i := 5) (v := .int .i64 b.kind) rfl, h⟩
set_option maxRecDepth 100000 in
set_option maxHeartbeats 4000000 in
theorem rcompare_any (a b : Ent) (A : Option Addr) (n c : Nat) (B : Option Addr) (m d : Nat) (D : Option Addr) (v q : Nat) (A' : Option Addr) (n' c' : Nat) (B' : Option Addr) (m' d' : Nat) (D' : Option Addr) (v' q' : Nat) (w : World) (ha : En w A n c B m d D v q a) (hb : En w A' n' c' B' m' d' D' v' q' b) :
    Calls Tryz.prog 40 #[entV A n c B m d D v q a, entV A' n' c' B' m' d' D' v' q' b] w fun e w1 => e = .returned (.int .i64 (cmpE a b)) ∧ Below w.heap.size w w1 := by
  have HA : Hid (∀ w1, Below w.heap.size w w1 → En w1 A n c B m d D v q a) := Lib.hid fun _ h => ha.later h
  have HC : Hid (∀ w1, Below w.heap.size w w1 → En w1 A' n' c' B' m' d' D' v' q' b) := Lib.hid fun _ h => hb.later h
  have HT := Lib.hid (Two.new w 60 #[.slice A n c, .int .i64 a.fam, .slice B m d, .int .i64 a.ts, .int .i64 a.seq, .int .i64 a.kind, .slice D v q] #[.slice A' n' c', .int .i64 b.fam, .slice B' m' d', .int .i64 b.ts, .int .i64 b.seq, .int .i64 b.kind, .slice D' v' q'])
  have l1 := ha.row.le
  have l2 := ha.qual.le
  have l3 := hb.row.le
  have l4 := hb.qual.le
  have HL : Hid (n ≤ 9223372036854775807 ∧ m ≤ 9223372036854775807 ∧ n' ≤ 9223372036854775807 ∧ m' ≤ 9223372036854775807) := Lib.hid ⟨l1, l2, l3, l4⟩
  unfold entV
  clear ha hb l1 l2 l3 l4
  have tok1 : True := trivial
  go_enter Tryz.func40, Tryz.ntmps40
  go_wp2_with fail
  go_region_held3 (fun x => x.cell? ⟨w.heap.size, 0, none⟩ = some (.slice A n c) ∧ x.cell? ⟨w.heap.size, 1, none⟩ = some (.int .i64 a.fam) ∧ x.cell? ⟨w.heap.size, 2, none⟩ = some (.slice B m d) ∧ x.cell? ⟨w.heap.size, 3, none⟩ = some (.int .i64 a.ts) ∧ x.cell? ⟨w.heap.size, 4, none⟩ = some (.int .i64 a.seq) ∧ x.cell? ⟨w.heap.size, 5, none⟩ = some (.int .i64 a.kind) ∧ x.cell? ⟨w.heap.size + 1, 0, none⟩ = some (.slice A' n' c') ∧ x.cell? ⟨w.heap.size + 1, 1, none⟩ = some (.int .i64 b.fam) ∧ x.cell? ⟨w.heap.size + 1, 2, none⟩ = some (.slice B' m' d') ∧ x.cell? ⟨w.heap.size + 1, 3, none⟩ = some (.int .i64 b.ts) ∧ x.cell? ⟨w.heap.size + 1, 4, none⟩ = some (.int .i64 b.seq) ∧ x.cell? ⟨w.heap.size + 1, 5, none⟩ = some (.int .i64 b.kind) ∧ Two w 60 #[.slice A n c, .int .i64 a.fam, .slice B m d, .int .i64 a.ts, .int .i64 a.seq, .int .i64 a.kind, .slice D v q] #[.slice A' n' c', .int .i64 b.fam, .slice B' m' d', .int .i64 b.ts, .int .i64 b.seq, .int .i64 b.kind, .slice D' v' q'] x) (first | assumption | exact two_facts (HT.out.later (Below.refl _ _).drew) | exact two_facts (Two.later (‹_ ∧ _ ∧ _ ∧ _ ∧ _ ∧ _ ∧ _ ∧ _ ∧ _ ∧ _ ∧ _ ∧ _ ∧ Two _ _ _ _ _›).2.2.2.2.2.2.2.2.2.2.2.2 hb1) | exact two_facts (Two.later (‹_ ∧ _ ∧ _ ∧ _ ∧ _ ∧ _ ∧ _ ∧ _ ∧ _ ∧ _ ∧ _ ∧ _ ∧ Two _ _ _ _ _›).2.2.2.2.2.2.2.2.2.2.2.2 hb2) | exact two_facts (Two.later (‹_ ∧ _ ∧ _ ∧ _ ∧ _ ∧ _ ∧ _ ∧ _ ∧ _ ∧ _ ∧ _ ∧ _ ∧ Two _ _ _ _ _›).2.2.2.2.2.2.2.2.2.2.2.2 ((Below.refl _ _).alloc (Nat.le_refl _) _))) (first
    | (go_at_call 97; have _t := tok1; refine (rBcmp_any a.row b.row _ _ _ _ _ _ _ HL.out.1 HL.out.2.2.1 (HA.out _ (‹_ ∧ _ ∧ _ ∧ _ ∧ _ ∧ _ ∧ _ ∧ _ ∧ _ ∧ _ ∧ _ ∧ _ ∧ Two _ _ _ _ _›).2.2.2.2.2.2.2.2.2.2.2.2.up).row.rb (HC.out _ (‹_ ∧ _ ∧ _ ∧ _ ∧ _ ∧ _ ∧ _ ∧ _ ∧ _ ∧ _ ∧ _ ∧ _ ∧ Two _ _ _ _ _›).2.2.2.2.2.2.2.2.2.2.2.2.up).row.rb).mono ?_; rintro e x1 ⟨rfl, hb1⟩; clear tok1)
    | (go_at_call 97; refine (rBcmp_any a.qual b.qual _ _ _ _ _ _ _ HL.out.2.1 HL.out.2.2.2 (HA.out _ (‹_ ∧ _ ∧ _ ∧ _ ∧ _ ∧ _ ∧ _ ∧ _ ∧ _ ∧ _ ∧ _ ∧ _ ∧ Two _ _ _ _ _›).2.2.2.2.2.2.2.2.2.2.2.2.up).qual.rb (HC.out _ (‹_ ∧ _ ∧ _ ∧ _ ∧ _ ∧ _ ∧ _ ∧ _ ∧ _ ∧ _ ∧ _ ∧ _ ∧ Two _ _ _ _ _›).2.2.2.2.2.2.2.2.2.2.2.2.up).qual.rb).mono ?_; rintro e x2 ⟨rfl, hb2⟩)
    | (go_at_call 98; refine (rnumber_any _ _ _).mono ?_; rintro e xn ⟨rfl, rfl⟩)
    | (go_at_call 99; refine (rfirst_any _ _ _).mono ?_; rintro e xn ⟨rfl, rfl⟩))
  all_goals
    have HW := Lib.hid (‹_ ∧ _ ∧ _ ∧ _ ∧ _ ∧ _ ∧ _ ∧ _ ∧ _ ∧ _ ∧ _ ∧ _ ∧ Two _ _ _ _ _›).2.2.2.2.2.2.2.2.2.2.2.2.up
    clear HA HC HT HL
    generalize hs0 : cmpB a.row b.row = s0 at HW ⊢
    have Q0 : Hid (stepC a b 0 = s0) := Lib.hid hs0
    generalize hs1 : cmpI a.fam b.fam = s1 at HW ⊢
    have Q1 : Hid (stepC a b 1 = s1) := Lib.hid hs1
    generalize hs2 : firstI (a.kind == 5) (b.kind == 5) = s2 at HW ⊢
    have Q2 : Hid (stepC a b 2 = s2) := Lib.hid hs2
    generalize hs3 : cmpB a.qual b.qual = s3 at HW ⊢
    have Q3 : Hid (stepC a b 3 = s3) := Lib.hid hs3
    generalize hs4 : firstI (a.kind == 4) (b.kind == 4) = s4 at HW ⊢
    have Q4 : Hid (stepC a b 4 = s4) := Lib.hid hs4
    generalize hs5 : cmpI b.ts a.ts = s5 at HW ⊢
    have Q5 : Hid (stepC a b 5 = s5) := Lib.hid hs5
    generalize hs6 : cmpI b.seq a.seq = s6 at HW ⊢
    have Q6 : Hid (stepC a b 6 = s6) := Lib.hid hs6
    generalize hs7 : cmpI a.kind b.kind = s7 at HW ⊢
    have Q7 : Hid (stepC a b 7 = s7) := Lib.hid hs7
    clear hs0 hs1 hs2 hs3 hs4 hs5 hs6 hs7
    obtain ⟨X, hX⟩ : ∃ X, X = x2.alloc (.cells #[.int .i64 s0, .int .i64 s1, .int .i64 s2, .int .i64 s3, .int .i64 s4, .int .i64 s5, .int .i64 s6, .int .i64 s7] 3) := ⟨_, rfl⟩
    rw [← hX] at HW ⊢
    have p0 : X.cell? ⟨x2.heap.size, 0, none⟩ = some (.int .i64 s0) := by rw [hX]; simp
    have p1 : X.cell? ⟨x2.heap.size, 1, none⟩ = some (.int .i64 s1) := by rw [hX]; simp
    have p2 : X.cell? ⟨x2.heap.size, 2, none⟩ = some (.int .i64 s2) := by rw [hX]; simp
    have p3 : X.cell? ⟨x2.heap.size, 3, none⟩ = some (.int .i64 s3) := by rw [hX]; simp
    have p4 : X.cell? ⟨x2.heap.size, 4, none⟩ = some (.int .i64 s4) := by rw [hX]; simp
    have p5 : X.cell? ⟨x2.heap.size, 5, none⟩ = some (.int .i64 s5) := by rw [hX]; simp
    have p6 : X.cell? ⟨x2.heap.size, 6, none⟩ = some (.int .i64 s6) := by rw [hX]; simp
    have p7 : X.cell? ⟨x2.heap.size, 7, none⟩ = some (.int .i64 s7) := by rw [hX]; simp
    clear hX
    generalize x2.heap.size = g at p0 p1 p2 p3 p4 p5 p6 p7 ⊢
    go_wp2_with fail
    go_loop [6] (fun i => ∃ k : Nat, k ≤ 8 ∧ i = .int .i64 k ∧ Hid (∀ i, i < k → stepC a b i = 0)) (fun i => 8 - (intOf i).toNat)
    case atStart => exact ⟨0, by decide, rfl, Lib.hid fun i hi => absurd hi (Nat.not_lt_zero _)⟩
    case round =>
      obtain ⟨k, hk, hi, HF⟩ := hrel
      have hk' : k = 0 ∨ k = 1 ∨ k = 2 ∨ k = 3 ∨ k = 4 ∨ k = 5 ∨ k = 6 ∨ k = 7 ∨ k = 8 := by omega
      clear hk
      rcases hk' with rfl | rfl | rfl | rfl | rfl | rfl | rfl | rfl | rfl
      case inr.inr.inr.inr.inr.inr.inr.inr =>
        replace hi : _ = Value.int .i64 8 := hi
        subst hi
        have HZ := Lib.hid (cmpE_none a b HF.out)
        clear HF
        go_wp2
        go_ret
        exact ⟨by rw [HZ.out]; rfl, HW.out⟩
      case inl =>
        replace hi : _ = Value.int .i64 0 := hi
        subst hi
        by_cases hz : s0 = 0
        · have HZ : Hid (∀ i, i < 1 → stepC a b i = 0) := Lib.hid fun i hi => if h : i = 0 then h ▸ (Q0.out.trans hz) else HF.out i (by omega)
          have t2 : (s0 != 0) = false := by simpa using hz
          clear hz HF
          go_wp2
          go_round
          case measure => decide
          case rel => exact ⟨1, by omega, rfl, HZ⟩
        · have HZ : Hid (s0 = cmpE a b) := Lib.hid (Q0.out ▸ cmpE_first a b 0 (by decide) HF.out (by rw [Q0.out]; exact hz))
          have t2 : (s0 != 0) = true := by simpa using hz
          clear HF hz
          go_wp2
          go_ret
          exact ⟨by rw [← HZ.out]; rfl, HW.out⟩
      case inr.inl =>
        replace hi : _ = Value.int .i64 1 := hi
        subst hi
        by_cases hz : s1 = 0
        · have HZ : Hid (∀ i, i < 2 → stepC a b i = 0) := Lib.hid fun i hi => if h : i = 1 then h ▸ (Q1.out.trans hz) else HF.out i (by omega)
          have t2 : (s1 != 0) = false := by simpa using hz
          clear hz HF
          go_wp2
          go_round
          case measure => decide
          case rel => exact ⟨2, by omega, rfl, HZ⟩
        · have HZ : Hid (s1 = cmpE a b) := Lib.hid (Q1.out ▸ cmpE_first a b 1 (by decide) HF.out (by rw [Q1.out]; exact hz))
          have t2 : (s1 != 0) = true := by simpa using hz
          clear HF hz
          go_wp2
          go_ret
          exact ⟨by rw [← HZ.out]; rfl, HW.out⟩
      case inr.inr.inl =>
        replace hi : _ = Value.int .i64 2 := hi
        subst hi
        by_cases hz : s2 = 0
        · have HZ : Hid (∀ i, i < 3 → stepC a b i = 0) := Lib.hid fun i hi => if h : i = 2 then h ▸ (Q2.out.trans hz) else HF.out i (by omega)
          have t2 : (s2 != 0) = false := by simpa using hz
          clear hz HF
          go_wp2
          go_round
          case measure => decide
          case rel => exact ⟨3, by omega, rfl, HZ⟩
        · have HZ : Hid (s2 = cmpE a b) := Lib.hid (Q2.out ▸ cmpE_first a b 2 (by decide) HF.out (by rw [Q2.out]; exact hz))
          have t2 : (s2 != 0) = true := by simpa using hz
          clear HF hz
          go_wp2
          go_ret
          exact ⟨by rw [← HZ.out]; rfl, HW.out⟩
      case inr.inr.inr.inl =>
        replace hi : _ = Value.int .i64 3 := hi
        subst hi
        by_cases hz : s3 = 0
        · have HZ : Hid (∀ i, i < 4 → stepC a b i = 0) := Lib.hid fun i hi => if h : i = 3 then h ▸ (Q3.out.trans hz) else HF.out i (by omega)
          have t2 : (s3 != 0) = false := by simpa using hz
          clear hz HF
          go_wp2
          go_round
          case measure => decide
          case rel => exact ⟨4, by omega, rfl, HZ⟩
        · have HZ : Hid (s3 = cmpE a b) := Lib.hid (Q3.out ▸ cmpE_first a b 3 (by decide) HF.out (by rw [Q3.out]; exact hz))
          have t2 : (s3 != 0) = true := by simpa using hz
          clear HF hz
          go_wp2
          go_ret
          exact ⟨by rw [← HZ.out]; rfl, HW.out⟩
      case inr.inr.inr.inr.inl =>
        replace hi : _ = Value.int .i64 4 := hi
        subst hi
        by_cases hz : s4 = 0
        · have HZ : Hid (∀ i, i < 5 → stepC a b i = 0) := Lib.hid fun i hi => if h : i = 4 then h ▸ (Q4.out.trans hz) else HF.out i (by omega)
          have t2 : (s4 != 0) = false := by simpa using hz
          clear hz HF
          go_wp2
          go_round
          case measure => decide
          case rel => exact ⟨5, by omega, rfl, HZ⟩
        · have HZ : Hid (s4 = cmpE a b) := Lib.hid (Q4.out ▸ cmpE_first a b 4 (by decide) HF.out (by rw [Q4.out]; exact hz))
          have t2 : (s4 != 0) = true := by simpa using hz
          clear HF hz
          go_wp2
          go_ret
          exact ⟨by rw [← HZ.out]; rfl, HW.out⟩
      case inr.inr.inr.inr.inr.inl =>
        replace hi : _ = Value.int .i64 5 := hi
        subst hi
        by_cases hz : s5 = 0
        · have HZ : Hid (∀ i, i < 6 → stepC a b i = 0) := Lib.hid fun i hi => if h : i = 5 then h ▸ (Q5.out.trans hz) else HF.out i (by omega)
          have t2 : (s5 != 0) = false := by simpa using hz
          clear hz HF
          go_wp2
          go_round
          case measure => decide
          case rel => exact ⟨6, by omega, rfl, HZ⟩
        · have HZ : Hid (s5 = cmpE a b) := Lib.hid (Q5.out ▸ cmpE_first a b 5 (by decide) HF.out (by rw [Q5.out]; exact hz))
          have t2 : (s5 != 0) = true := by simpa using hz
          clear HF hz
          go_wp2
          go_ret
          exact ⟨by rw [← HZ.out]; rfl, HW.out⟩
      case inr.inr.inr.inr.inr.inr.inl =>
        replace hi : _ = Value.int .i64 6 := hi
        subst hi
        by_cases hz : s6 = 0
        · have HZ : Hid (∀ i, i < 7 → stepC a b i = 0) := Lib.hid fun i hi => if h : i = 6 then h ▸ (Q6.out.trans hz) else HF.out i (by omega)
          have t2 : (s6 != 0) = false := by simpa using hz
          clear hz HF
          go_wp2
          go_round
          case measure => decide
          case rel => exact ⟨7, by omega, rfl, HZ⟩
        · have HZ : Hid (s6 = cmpE a b) := Lib.hid (Q6.out ▸ cmpE_first a b 6 (by decide) HF.out (by rw [Q6.out]; exact hz))
          have t2 : (s6 != 0) = true := by simpa using hz
          clear HF hz
          go_wp2
          go_ret
          exact ⟨by rw [← HZ.out]; rfl, HW.out⟩
      case inr.inr.inr.inr.inr.inr.inr.inl =>
        replace hi : _ = Value.int .i64 7 := hi
        subst hi
        by_cases hz : s7 = 0
        · have HZ : Hid (∀ i, i < 8 → stepC a b i = 0) := Lib.hid fun i hi => if h : i = 7 then h ▸ (Q7.out.trans hz) else HF.out i (by omega)
          have t2 : (s7 != 0) = false := by simpa using hz
          clear hz HF
          go_wp2
          go_round
          case measure => decide
          case rel => exact ⟨8, by omega, rfl, HZ⟩
        · have HZ : Hid (s7 = cmpE a b) := Lib.hid (Q7.out ▸ cmpE_first a b 7 (by decide) HF.out (by rw [Q7.out]; exact hz))
          have t2 : (s7 != 0) = true := by simpa using hz
          clear HF hz
          go_wp2
          go_ret
          exact ⟨by rw [← HZ.out]; rfl, HW.out⟩
set_option maxRecDepth 100000 in
set_option maxHeartbeats 1000000 in
theorem shared_any (a b : List UInt8) (A B : Option Addr) (n c m d : Nat) (w : World) (hn : n ≤ 9223372036854775806) (ha : RB w w.heap.size A n a) (hb : RB w w.heap.size B m b) :
    Calls Tryz.prog 162 #[.slice A n c, .slice B m d] w fun e w' => e = .returned (.int .i64 (shareN a b)) ∧ Below w.heap.size w w' := by
  have HLA := Lib.hid ha.len
  have HLB := Lib.hid hb.len
  have HA : Hid (∀ w', Below w.heap.size w w' → RB w' w'.heap.size A n a) := Lib.hid fun w' h => ha.later h
  have HB : Hid (∀ w', Below w.heap.size w w' → RB w' w'.heap.size B m b) := Lib.hid fun w' h => hb.later h
  clear ha hb
  go_enter Tryz.func162, Tryz.ntmps162
  go_wp2
  go_loopw [5] (fun i wr => ∃ k : Nat, k ≤ shareN a b ∧ i = .int .i64 k ∧ Hid (Below w.heap.size w wr)) (fun i _ => n - (intOf i).toNat)
  case atStart => exact ⟨0, Nat.zero_le _, rfl, Lib.hid (Below.refl _ _)⟩
  case round =>
    obtain ⟨k, hk, rfl, HW⟩ := hrel
    have HT := Lib.hid (shareN_test a b k hk)
    have HK := Lib.hid hk
    clear hk
    by_cases hkn : k < n
    case neg =>
      have hd1 : decide ((k : Int) < (n : Int)) = false := decide_eq_false (by omega)
      have hd2 : decide (k < n) = false := decide_eq_false hkn
      have HE : Hid (shareN a b = k) := Lib.hid (by have := (shareN_le a b).1; have := HLA.out; have := HK.out; omega)
      go_wp2_with fail
      go_quiet (fail)
      have HW2 := Lib.hid (below_drewN (n := nq) HW.out)
      generalize wr.drewN nq = w3 at *
      go_wp2
      go_ret
      exact ⟨by rw [HE.out]; rfl, HW2.out⟩
    have hd1 : decide ((k : Int) < (n : Int)) = true := decide_eq_true (by omega)
    have hd2 : decide (k < n) = true := decide_eq_true hkn
    by_cases hkm : k < m
    case neg =>
      have hd3 : decide ((k : Int) < (m : Int)) = false := decide_eq_false (by omega)
      have hd4 : decide (k < m) = false := decide_eq_false hkm
      have HE : Hid (shareN a b = k) := Lib.hid (by have := (shareN_le a b).2; have := HLB.out; have := HK.out; omega)
      go_wp2_with fail
      go_quiet (fail)
      have HW2 := Lib.hid (below_drewN (n := nq) HW.out)
      generalize wr.drewN nq = w3 at *
      go_wp2
      go_ret
      exact ⟨by rw [HE.out]; rfl, HW2.out⟩
    have hd3 : decide ((k : Int) < (m : Int)) = true := decide_eq_true (by omega)
    have hd4 : decide (k < m) = true := decide_eq_true hkm
    have hk1 : (k : Int) < (n : Int) := by omega
    have hk2 : (k : Int) < (m : Int) := by omega
    obtain ⟨b1, o1, x, rfl, _, hx, c1⟩ := (HA.out _ HW.out).at_ hkn
    obtain ⟨b2, o2, y, rfl, _, hy, c2⟩ := (HB.out _ HW.out).at_ hkm
    by_cases hxy : x = y
    case neg =>
      have he : ((x.toNat : Int) == (y.toNat : Int)) = false := beq_eq_false_iff_ne.2 (fun h => hxy (UInt8.toNat_inj.1 (by omega)))
      have he2 : (x == y) = false := beq_eq_false_iff_ne.2 hxy
      have he3 : (x.toNat == y.toNat) = false := beq_eq_false_iff_ne.2 (fun h => hxy (UInt8.toNat_inj.1 h))
      have he4 : ¬ x.toNat = y.toNat := fun h => hxy (UInt8.toNat_inj.1 h)
      have HE : Hid (shareN a b = k) := Lib.hid (by
        have h1 := HT.out
        rw [hx, hy] at h1
        have h2 : ¬ k < shareN a b := fun h => hxy (Option.some.inj (h1.1 h).2.2)
        have := HK.out; omega)
      clear hx hy
      go_wp2_with fail
      go_quiet (fail)
      have HW2 := Lib.hid (below_drewN (n := nq) HW.out)
      clear c1 c2
      generalize wr.drewN nq = w3 at *
      go_wp2
      go_ret
      exact ⟨by rw [HE.out]; rfl, HW2.out⟩
    subst hxy
    have he : ((x.toNat : Int) == (x.toNat : Int)) = true := by simp
    have HE : Hid (k < shareN a b) := Lib.hid (HT.out.2 ⟨by have := HLA.out; omega, by have := HLB.out; omega, by rw [hx, hy]⟩)
    clear hx hy
    go_wp2_with fail
    go_quiet (fail)
    have HW2 := Lib.hid (below_drewN (n := nq) HW.out)
    clear c1 c2
    generalize wr.drewN nq = w3 at *
    go_wp2
    go_roundw
    case rel => exact ⟨k + 1, HE.out, by go_num, HW2⟩
    case measure => simp [intOf]; omega
set_option maxRecDepth 100000 in
theorem four_any (v : Nat) (w : World) (hv : v < 4294967296) : Calls Tryz.prog 164 #[.int .u32 v] w (BytesPost 5 (four4 v) w) := by
  have hL : Hid (u8s (four4 v) = [.int .u8 ((v : Int) / 16777216), .int .u8 ((v : Int) / 65536 % 256), .int .u8 ((v : Int) / 256 % 256), .int .u8 ((v : Int) % 256)]) := Lib.hid (by
    show [u8v _, u8v _, u8v _, u8v _] = _
    rw [u8v_mod, u8v_mod, u8v_mod, u8v_mod]; simp only [Int.natCast_ediv]; rw [show ((v : Int) / ((16777216 : Nat) : Int) % 256) = (v : Int) / 16777216 from by omega]; rfl)
  go_enter Tryz.func164, Tryz.ntmps164
  go_wp2_with fail
  go_ret
  refine ⟨_, _, rfl, ?_, ((Below.refl _ _).alloc (Nat.le_refl _) _)⟩
  show World.ownsRow _ _ _ _ _ _ _
  rw [hL.out]
  exact own_lit w #[.int .u8 ((v : Int) / 16777216), .int .u8 ((v : Int) / 65536 % 256), .int .u8 ((v : Int) / 256 % 256), .int .u8 ((v : Int) % 256)] 5 w.heap.size 4 1 (by simp) (by decide) rfl
set_option maxRecDepth 100000 in
set_option maxHeartbeats 1000000 in
theorem reverse4_any (a b d e : UInt8) (g c : Nat) (w x : World) (h : OW w [bytO 5 (some ⟨g, 0, none⟩, c, [a, b, d, e])] x) :
  Calls Tryz.prog 165 #[.slice (some ⟨g, 0, none⟩) 4 c] x fun r x' => r = .returned (.tuple #[]) ∧ OW w [bytO 5 (some ⟨g, 0, none⟩, c, [e, d, b, a])] x' := by
 have HX := Lib.hid h
 clear h
 go_enter Tryz.func165, Tryz.ntmps165
 go_wp2_with fail
 go_loopw [2, 3] (fun i j wr => (i = .int .i64 0 ∧ j = .int .i64 3 ∧ Hid (OW w [bytO 5 (some ⟨g, 0, none⟩, c, [a, b, d, e])] wr)) ∨ (i = .int .i64 1 ∧ j = .int .i64 2 ∧ Hid (OW w [bytO 5 (some ⟨g, 0, none⟩, c, [e, b, d, a])] wr)) ∨ (i = .int .i64 2 ∧ j = .int .i64 1 ∧ Hid (OW w [bytO 5 (some ⟨g, 0, none⟩, c, [e, d, b, a])] wr))) (fun i _ _ => 2 - (intOf i).toNat)
 case atStart => exact .inl ⟨rfl, rfl, HX⟩
 case round =>
  clear HX
  rcases hrel with ⟨rfl, rfl, HX⟩ | ⟨rfl, rfl, HX⟩ | ⟨rfl, rfl, HX⟩
  ·go_wp2_with fail
   refine lt_start [13] (by kernel_rfl) ?_
   intro xd hd
   refine ⟨fun z => OW w [bytO 5 (some ⟨g, 0, none⟩, c, [a, b, d, e])] z, ?_⟩
   have HS := Lib.hid (HX.out.later hd)
   refine lp 0 rfl (v := ?_) (fun w => ?_) (fun _ => HS.out) ?_
   rotate_left
   ·first | (go_simp; done) | (go_simp; with_reducible rfl)
   simp only [Act.put, ls1, ls2, ls3]
   refine lp 1 rfl (v := ?_) (fun w => ?_) (fun _ => HS.out) ?_
   rotate_left
   ·first | (go_simp; done) | (go_simp; with_reducible rfl)
   simp only [Act.put, ls1, ls2, ls3]
   refine lp 2 rfl (v := ?_) (fun w => ?_) (fun _ => HS.out) ?_
   rotate_left
   ·first | (go_simp; done) | (go_simp; with_reducible rfl)
   simp only [Act.put, ls1, ls2, ls3]
   refine lp 3 rfl (v := ?_) (fun w => ?_) (fun _ => HS.out) ?_
   rotate_left
   ·first | (go_simp; done) | (go_simp; with_reducible rfl)
   simp only [Act.put, ls1, ls2, ls3]
   refine lp 4 rfl (v := ?_) (fun w => ?_) (fun _ => HS.out) ?_
   rotate_left
   ·first | (go_simp; done) | (go_simp; with_reducible rfl)
   simp only [Act.put, ls1, ls2, ls3]
   refine lp 5 rfl (v := ?_) (fun w => ?_) (fun _ => HS.out) ?_
   rotate_left
   ·first | (go_simp; done) | (go_simp; with_reducible rfl)
   simp only [Act.put, ls1, ls2, ls3]
   refine lp 6 rfl (v := ?_) (fun w => ?_) (fun _ => HS.out) ?_
   rotate_left
   ·first | (go_simp; done) | (go_simp; with_reducible rfl)
   simp only [Act.put, ls1, ls2, ls3]
   refine lq 7 [12, 13, 14, 15] rfl (yi_cell rfl rfl rfl (fun w hS => (World.ownsRow.cellAt (OW.row hS (i := 0) rfl) 3 (by show 3 < 4 * 1; omega)).trans rfl) (fun w => Tryz.isAgg5 w)) HS.out ?_
   simp only [Act.put, ls1, ls2, ls3]
   refine lp 8 rfl (v := ?_) (fun w => ?_) (fun _ => HS.out) ?_
   rotate_left
   ·first | (go_simp; done) | (go_simp; with_reducible rfl)
   simp only [Act.put, ls1, ls2, ls3]
   refine lp 9 rfl (v := ?_) (fun w => ?_) (fun _ => HS.out) ?_
   rotate_left
   ·first | (go_simp; done) | (go_simp; with_reducible rfl)
   simp only [Act.put, ls1, ls2, ls3]
   refine lp 10 rfl (v := ?_) (fun w => ?_) (fun _ => HS.out) ?_
   rotate_left
   ·first | (go_simp; done) | (go_simp; with_reducible rfl)
   simp only [Act.put, ls1, ls2, ls3]
   refine lq 11 [12, 13, 14, 15] rfl (yi_cell rfl rfl rfl (fun w hS => (World.ownsRow.cellAt (OW.row hS (i := 0) rfl) 0 (by show 0 < 4 * 1; omega)).trans rfl) (fun w => Tryz.isAgg5 w)) HS.out ?_
   simp only [Act.put, ls1, ls2, ls3]
   refine lp 12 rfl (v := ?_) (fun w => ?_) (fun _ => HS.out) ?_
   rotate_left
   ·first | (go_simp; done) | (go_simp; with_reducible rfl)
   simp only [Act.put, ls1, ls2, ls3]
   refine lt_end 13 rfl (by kernel_rfl) rfl (by kernel_rfl) ?_
   refine wpo_store rfl HS.out 0 rfl 0 rfl (by show 0 < 4 * 1; omega) (u8v e) rfl (by kernel_rfl) rfl ?_
   intro z1 hz1 _
   simp only [Act.put]
   refine lt_pureF 14 rfl (by kernel_rfl) (by kernel_rfl) (by kernel_rfl) (by kernel_rfl) (by kernel_rfl) (fun _ _ _ h => h) (v := ?_) (yi_run rfl (fun w => ?_)) ?_
   rotate_left
   ·first | (go_simp; done) | (go_simp; with_reducible rfl)
   simp only [Act.put, ls1, ls2, ls3]
   refine lt_end 15 rfl (by kernel_rfl) rfl (by kernel_rfl) ?_
   refine wpo_store rfl hz1 0 rfl 3 rfl (by show 3 < 4 * 1; omega) (u8v a) rfl (by kernel_rfl) rfl ?_
   intro z2 hz2 _
   simp only [Act.put]
   refine lt_done (by kernel_rfl) ?_
   clear HS
   have HX2 : Hid (OW w [bytO 5 (some ⟨g, 0, none⟩, c, [e, b, d, a])] z2) := Lib.hid hz2
   clear hz1 hz2
   go_wp2_with fail
   go_roundw
   case rel => exact .inr (.inl ⟨rfl, rfl, HX2⟩)
   case measure => simp [intOf]
  ·go_wp2_with fail
   refine lt_start [13] (by kernel_rfl) ?_
   intro xd hd
   refine ⟨fun z => OW w [bytO 5 (some ⟨g, 0, none⟩, c, [e, b, d, a])] z, ?_⟩
   have HS := Lib.hid (HX.out.later hd)
   refine lp 0 rfl (v := ?_) (fun w => ?_) (fun _ => HS.out) ?_
   rotate_left
   ·first | (go_simp; done) | (go_simp; with_reducible rfl)
   simp only [Act.put, ls1, ls2, ls3]
   refine lp 1 rfl (v := ?_) (fun w => ?_) (fun _ => HS.out) ?_
   rotate_left
   ·first | (go_simp; done) | (go_simp; with_reducible rfl)
   simp only [Act.put, ls1, ls2, ls3]
   refine lp 2 rfl (v := ?_) (fun w => ?_) (fun _ => HS.out) ?_
   rotate_left
   ·first | (go_simp; done) | (go_simp; with_reducible rfl)
   simp only [Act.put, ls1, ls2, ls3]
   refine lp 3 rfl (v := ?_) (fun w => ?_) (fun _ => HS.out) ?_
   rotate_left
   ·first | (go_simp; done) | (go_simp; with_reducible rfl)
   simp only [Act.put, ls1, ls2, ls3]
   refine lp 4 rfl (v := ?_) (fun w => ?_) (fun _ => HS.out) ?_
   rotate_left
   ·first | (go_simp; done) | (go_simp; with_reducible rfl)
   simp only [Act.put, ls1, ls2, ls3]
   refine lp 5 rfl (v := ?_) (fun w => ?_) (fun _ => HS.out) ?_
   rotate_left
   ·first | (go_simp; done) | (go_simp; with_reducible rfl)
   simp only [Act.put, ls1, ls2, ls3]
   refine lp 6 rfl (v := ?_) (fun w => ?_) (fun _ => HS.out) ?_
   rotate_left
   ·first | (go_simp; done) | (go_simp; with_reducible rfl)
   simp only [Act.put, ls1, ls2, ls3]
   refine lq 7 [12, 13, 14, 15] rfl (yi_cell rfl rfl rfl (fun w hS => (World.ownsRow.cellAt (OW.row hS (i := 0) rfl) 2 (by show 2 < 4 * 1; omega)).trans rfl) (fun w => Tryz.isAgg5 w)) HS.out ?_
   simp only [Act.put, ls1, ls2, ls3]
   refine lp 8 rfl (v := ?_) (fun w => ?_) (fun _ => HS.out) ?_
   rotate_left
   ·first | (go_simp; done) | (go_simp; with_reducible rfl)
   simp only [Act.put, ls1, ls2, ls3]
   refine lp 9 rfl (v := ?_) (fun w => ?_) (fun _ => HS.out) ?_
   rotate_left
   ·first | (go_simp; done) | (go_simp; with_reducible rfl)
   simp only [Act.put, ls1, ls2, ls3]
   refine lp 10 rfl (v := ?_) (fun w => ?_) (fun _ => HS.out) ?_
   rotate_left
   ·first | (go_simp; done) | (go_simp; with_reducible rfl)
   simp only [Act.put, ls1, ls2, ls3]
   refine lq 11 [12, 13, 14, 15] rfl (yi_cell rfl rfl rfl (fun w hS => (World.ownsRow.cellAt (OW.row hS (i := 0) rfl) 1 (by show 1 < 4 * 1; omega)).trans rfl) (fun w => Tryz.isAgg5 w)) HS.out ?_
   simp only [Act.put, ls1, ls2, ls3]
   refine lp 12 rfl (v := ?_) (fun w => ?_) (fun _ => HS.out) ?_
   rotate_left
   ·first | (go_simp; done) | (go_simp; with_reducible rfl)
   simp only [Act.put, ls1, ls2, ls3]
   refine lt_end 13 rfl (by kernel_rfl) rfl (by kernel_rfl) ?_
   refine wpo_store rfl HS.out 0 rfl 1 rfl (by show 1 < 4 * 1; omega) (u8v d) rfl (by kernel_rfl) rfl ?_
   intro z1 hz1 _
   simp only [Act.put]
   refine lt_pureF 14 rfl (by kernel_rfl) (by kernel_rfl) (by kernel_rfl) (by kernel_rfl) (by kernel_rfl) (fun _ _ _ h => h) (v := ?_) (yi_run rfl (fun w => ?_)) ?_
   rotate_left
   ·first | (go_simp; done) | (go_simp; with_reducible rfl)
   simp only [Act.put, ls1, ls2, ls3]
   refine lt_end 15 rfl (by kernel_rfl) rfl (by kernel_rfl) ?_
   refine wpo_store rfl hz1 0 rfl 2 rfl (by show 2 < 4 * 1; omega) (u8v b) rfl (by kernel_rfl) rfl ?_
   intro z2 hz2 _
   simp only [Act.put]
   refine lt_done (by kernel_rfl) ?_
   clear HS
   have HX2 : Hid (OW w [bytO 5 (some ⟨g, 0, none⟩, c, [e, d, b, a])] z2) := Lib.hid hz2
   clear hz1 hz2
   go_wp2_with fail
   go_roundw
   case rel => exact .inr (.inr ⟨rfl, rfl, HX2⟩)
   case measure => simp [intOf]
  ·go_wp2_with fail
   go_end0
   exact ⟨rfl, HX.out⟩
set_option maxRecDepth 100000 in
set_option maxHeartbeats 2000000 in
theorem summed_any (l : List UInt8) (A : Option Addr) (n c : Nat) (w : World) (hs : Sl w A n c l) (h4 : 4 ≤ n) (ht : TabAt 0 w) :
    Calls Tryz.prog 192 #[.slice A n c] w fun e w' => e = .returned (.bool (lowB (sumL (l.take (n - 4))) == l.drop (n - 4))) ∧ Below w.heap.size w w' := by
  have f1 : Hid (∀ x : List UInt8, [x].flatten = x) := Lib.hid fun x => by simp
  obtain ⟨k, rfl⟩ : ∃ k, n = k + 4 := ⟨n - 4, by omega⟩
  have hcap := hs.cap
  have hlim := hs.lim
  obtain ⟨b1, o1, _, rfl, _, _, _⟩ := hs.rb.at_ (show 0 < k + 4 by omega)
  rw [show k + 4 - 4 = k from by omega]
  have HT4 := Lib.hid (hs.take (m := k) (by omega))
  have HD : Hid (∀ w', Below w.heap.size w w' → Sl w' (some ⟨b1, o1 + k, none⟩) 4 (c - k) (l.drop k)) := Lib.hid fun w' h => by
    have := (hs.later h).drop (k := k) (by omega) (by omega)
    rw [show k + 4 - k = 4 from by omega, Option.map_some, show (⟨b1, o1, none⟩ : Addr).add k = ⟨b1, o1 + k, none⟩ from by simp [Addr.add]] at this
    exact this
  have HTB : Hid (∀ w', Below w.heap.size w w' → TabAt 0 w') := Lib.hid fun w' h => ht.later h
  obtain ⟨t, htk⟩ : ∃ t, t = l.take k := ⟨_, rfl⟩
  obtain ⟨u, hu⟩ : ∃ t, t = l.drop k := ⟨_, rfl⟩
  rw [← htk] at HT4
  rw [← hu] at HD
  rw [← htk, ← hu]
  obtain ⟨s, hsl⟩ : ∃ s, s = sumL t := ⟨_, rfl⟩
  have HSL := Lib.hid hsl
  have hs32 : s < 4294967296 := by rw [hsl]; exact sumL_lt t
  rw [← hsl]
  obtain ⟨u3, u2, u1, u0, hf4, hlw⟩ : ∃ a b d e, four4 s = [a, b, d, e] ∧ lowB s = [e, d, b, a] := ⟨_, _, _, _, rfl, rfl⟩
  rw [hlw]
  have HF := Lib.hid hf4
  clear hs hsl htk hu ht h4 hf4 hlw
  have i1 : (0 : Int) ≤ (k : Int) := by omega
  have i2 : (k : Int) ≤ (c : Int) := by omega
  have i3 : (k : Int) ≤ (k : Int) + 4 := by omega
  go_enter Tryz.func192, Tryz.ntmps192
  go_wp2_with (first
    | (go_at_call 135; go_must (refine (sum_any [t] _ 1 1 _ (by omega) (by exact HT4.out.one _ _) (HTB.out _ ((Below.refl _ _).alloc (Nat.le_refl _) _))).mono ?_); rintro e w1 ⟨rfl, rfl⟩; rw [f1.out, ← HSL.out])
    | (go_at_call 164; go_must (refine (four_any s _ hs32).mono ?_); rintro e w2 hp; rw [HF.out] at hp; obtain ⟨A2, c2, rfl, _, ho, hb⟩ := hp.at_ (n := 4) rfl; have HB2 := Lib.hid (((Below.refl w.heap.size w).alloc (Nat.le_refl _) (.cells #[.slice (some ⟨b1, o1, none⟩) k c] 34)).trans (hb.mono (by simp))); obtain ⟨g, cp, hv, _, _, _⟩ := own_form ho (by show 0 < 4; omega); injection hv with hv _ hcp; subst hv; subst hcp; have HX := Lib.hid (OW.byt1 hb ho); clear hp hb ho)
    | (go_at_call 165; go_must (refine (reverse4_any _ _ _ _ g _ _ _ HX.out).mono ?_); rintro e w3 ⟨rfl, hx⟩; have HX3 := Lib.hid hx; have HB3 := Lib.hid (((Below.refl w.heap.size w).alloc (Nat.le_refl _) (.cells #[.slice (some ⟨b1, o1, none⟩) k c] 34)).trans (hx.up.mono (by simp))); clear hx)
    | (go_at_call 87; go_must (refine (equal_any [u0, u1, u2, u3] u _ _ 4 _ 4 _ _ (HX3.out.sl (i := 0) rfl rfl).rb (HD.out _ HB3.out).rb).mono ?_); rintro e w4 ⟨rfl, rfl⟩))
  go_ret
  exact ⟨rfl, HB3.out⟩
def i64v (n : Nat) : Value := .int .i64 (n : Int)
def bldC (R : Nat) (bv pv : Value) (A : Option Addr) (n c : Nat) (B : Option Addr) (m d : Nat) (e : Ent) (kv : Value) (N : Nat) : List Value :=
  [i64v R, bv, pv, .slice A n c, .int .i64 e.fam, .slice B m d, .int .i64 e.ts, .int .i64 e.seq, .int .i64 e.kind, .slice none 0 0, kv, i64v N]
structure BldM where
  B : Option Addr
  bc : Nat
  pv : Value
  A : Option Addr
  ac : Nat
  Q : Option Addr
  qc : Nat
  K : Option Addr
  kc : Nat
  e : Ent
def bldO (R g : Nat) (s : BSt) (m : BldM) : List Ob :=
  [boxO g (bldC R (.slice m.B s.body.length m.bc) m.pv m.A m.e.row.length m.ac m.Q m.e.qual.length m.qc m.e (.slice m.K s.key.length m.kc) s.n), bytO 5 (m.B, m.bc, s.body), rowO 3 1 m.pv s.places.length (s.places.map i64v), bytO 5 (m.A, m.ac, m.e.row), bytO 5 (m.Q, m.qc, m.e.qual), bytO 5 (m.K, m.kc, s.key)]
def lastE (L : List Ent) (e : Ent) : Prop := ∀ l, L.getLast? = some l → e = { l with val := [] }
def Bld (R : Nat) (L : List Ent) (g : Nat) (os : List Ob) : Prop := (1 ≤ R ∧ R ≤ 16) ∧ sizeS (runB R L) ≤ 131072 ∧ (runB R L).key.length ≤ 1000000 ∧ (∀ l, l ∈ L → checkE l = 0) ∧ ∃ m : BldM, os = bldO R g (runB R L) m ∧ lastE L m.e
def szB (R : Nat) (L : List Ent) : Nat := if L = [] then 0 else sizeS (runB R L)
theorem OW.addF9 {w x y : World} {os ps : List Ob} (h : OW w os x) (k : OW x ps y) : OW w (ps ++ os) y := (h.app k).perm List.perm_append_comm
def BeginP (R : Int) (w : World) (e : Ending) (w' : World) : Prop :=
  ((R < 1 ∨ 16 < R) ∧ e = .returned (.tuple #[.pointer none, .int .i64 1]) ∧ Below w.heap.size w w') ∨
  (1 ≤ R ∧ R ≤ 16 ∧ ∃ g os, e = .returned (.tuple #[.pointer (some ⟨g, 0, none⟩), .int .i64 0]) ∧ Bld R.toNat [] g os ∧ OW w os w')
set_option maxRecDepth 100000 in
theorem begin_any (R : Int) (w : World) : Calls Tryz.prog 107 #[.int .i64 R] w (BeginP R w) := by
  by_cases h1 : R < 1
  · have hd : decide (R < 1) = true := decide_eq_true h1
    go_enter Tryz.func107, Tryz.ntmps107
    go_wp2_with fail
    go_ret2
    exact .inl ⟨.inl h1, rfl, Below.refl _ _⟩
  have hd : decide (R < 1) = false := decide_eq_false h1
  by_cases h2 : 16 < R
  · have hd2 : decide (R > 16) = true := decide_eq_true h2
    go_enter Tryz.func107, Tryz.ntmps107
    go_wp2_with fail
    go_ret2
    exact .inl ⟨.inr h2, rfl, Below.refl _ _⟩
  have hd2 : decide (R > 16) = false := decide_eq_false h2
  obtain ⟨r, rfl⟩ : ∃ r : Nat, R = (r : Int) := ⟨R.toNat, by omega⟩
  have HX := Lib.hid (OW.nil w)
  go_enter Tryz.func107, Tryz.ntmps107
  go_wp2_with (refine wl_box rfl (.tmp 11) rfl (bldC r (.slice none 0 0) (.slice none 0 0) none 0 0 none 0 0 noEnt (.slice none 0 0) 0) rfl HX.out ?_; intro g x1 hz _; replace HX := Lib.hid hz; clear hz)
  go_ret2
  refine .inr ⟨by omega, by omega, g, _, rfl, ⟨⟨by rw [Int.toNat_natCast]; omega, by rw [Int.toNat_natCast]; omega⟩, (by show 9 ≤ 131072; decide), Nat.zero_le _, (fun l h => by cases h), ⟨none, 0, .slice none 0 0, none, 0, none, 0, none, 0, noEnt⟩, rfl, fun l h => by cases h⟩, ?_⟩
  have hn : ∀ {os : List Ob} {z : World}, OW w os z → ∀ T : TypeId, OW w (os ++ [rowO T 1 (.slice none 0 0) 0 []]) z := fun h T => h.app ⟨Below.refl _ _, fun o ho => by
    obtain rfl := List.mem_singleton.1 ho
    exact ⟨(fun e => nomatch e), fun _ => own_nil _ _ _ _⟩, List.pairwise_singleton _ _⟩
  have h := hn (hn (hn (hn (hn HX.out 5) 3) 5) 5) 5
  exact h
set_option maxRecDepth 100000 in
theorem size_any {w x : World} {R g : Nat} {L : List Ent} {os rest : List Ob} (hb : Bld R L g os) (h : OW w (os ++ rest) x) :
    Calls Tryz.prog 108 #[.pointer (some ⟨g, 0, none⟩)] x fun e x' => e = .returned (.int .i64 (szB R L : Nat)) ∧ Below x.heap.size x x' := by
  obtain ⟨_, hsz, _, _, m, rfl, _⟩ := hb
  have hc := h.cell (i := 0) (j := 11) rfl rfl
  have c1 := h.cell (i := 0) (j := 1) rfl rfl
  have c2 := h.cell (i := 0) (j := 2) rfl rfl
  obtain ⟨P, pc, hpv, _⟩ := own_slice (h.row (i := 2) rfl)
  rw [runB_n] at hc
  obtain ⟨N, hN⟩ : ∃ N, N = L.length := ⟨_, rfl⟩
  obtain ⟨bl, hbl⟩ : ∃ N, N = (runB R L).body.length := ⟨_, rfl⟩
  obtain ⟨pl, hpl⟩ : ∃ N, N = (runB R L).places.length := ⟨_, rfl⟩
  have hS : Hid (sizeS (runB R L) = bl + 4 * pl + 9) := Lib.hid (by unfold sizeS; rw [hbl, hpl])
  have hlim : bl + 4 * pl + 9 ≤ 131072 := by have := hS.out; omega
  rw [hpv, ← hpl] at c2
  rw [← hbl] at c1
  rw [← hN] at hc
  have hc : x.cell? ⟨g, 11, none⟩ = some (.int .i64 (N : Int)) := hc
  have HN := Lib.hid hN
  clear h hN hbl hpl hpv hsz
  by_cases h0 : N = 0
  · subst h0
    have HL : Hid (L = []) := Lib.hid (List.eq_nil_of_length_eq_zero HN.out.symm)
    go_enter Tryz.func108, Tryz.ntmps108
    go_wp2_with (refine wpList_load_cell rfl 3 (.tmp 5) rfl rfl hc (fun w => Tryz.isAgg3 w) ?_)
    go_ret
    exact ⟨by rw [show szB R L = 0 from if_pos HL.out]; rfl, Below.refl _ _⟩
  have HL : Hid (L ≠ []) := Lib.hid (fun e => h0 (by rw [HN.out, e]; rfl))
  have hd : ((N : Int) == 0) = false := beq_eq_false_iff_ne.2 (by omega)
  go_enter Tryz.func108, Tryz.ntmps108
  go_wp2_with (refine wpList_load_cell rfl 3 (.tmp 5) rfl rfl hc (fun w => Tryz.isAgg3 w) ?_)
  go_quiet (fail)
  have HW2 := Lib.hid (below_drewN (n := nq) (Below.refl x.heap.size x))
  clear hc c1 c2
  generalize x.drewN nq = w3 at *
  go_wp2
  go_ret
  refine ⟨?_, HW2.out⟩
  rw [show szB R L = bl + 4 * pl + 9 from (if_neg HL.out).trans hS.out]
  push_cast
  rfl
set_option maxRecDepth 100000 in
set_option maxHeartbeats 400000 in
theorem sclone_any (l : List UInt8) (A : Option Addr) (n c : Nat) (w : World) (hn : n ≤ 140737488355328) (hA : A = none → c = 0) (hr : RB w w.heap.size A n l) :
    Calls Tryz.prog 163 #[.slice A n c] w (BytesPost 5 l w) := by
  have hl := hr.len
  have hnil := fun (w' : World) => Lib.run_eql_slice_nil (P := Tryz.prog) w' 34 5 A n c 0 0 Tryz.underlying34
  cases A with
  | none =>
    obtain rfl := hA rfl
    have hn0 : n = 0 := by
      rcases Nat.eq_zero_or_pos n with h0 | h0
      · exact h0
      · obtain ⟨_, _, e, _⟩ := hr.2 h0
        cases e
    subst hn0
    have H : Hid (BytesPost 5 l w (.returned (.slice none 0 0)) w) := Lib.hid (by
      have hl0 : l = [] := List.eq_nil_of_length_eq_zero hl
      subst hl0
      exact bytes_post (n := 0) (own_nil _ _ _ _) (Below.refl _ _))
    clear hr hl
    go_enter Tryz.func163, Tryz.ntmps163
    go_wp2
    go_ret
    exact H.out
  | some ad =>
    have O1 := Lib.hid (u8s_one l)
    have HO : Hid ((w.alloc (.cells #[] 5)).ownsRow w.heap.size 5 1 (.slice (some ⟨w.heap.size, 0, none⟩) 0 0) 0 []) := Lib.hid (World.ownsRow_made w #[] 0 (Nat.le_refl _) (by decide) rfl)
    have HR : Hid (RB (w.alloc (.cells #[] 5)) w.heap.size (some ad) n l) := Lib.hid (Reads.alloc hr (Nat.le_refl _) _)
    clear hr hA
    go_enter Tryz.func163, Tryz.ntmps163
    go_wp2_with (at_builtin; refine wpList_append_reads _ rfl (.tmp 5) (.tmp 6) rfl Tryz.u8s' w.heap.size (.slice (some ⟨w.heap.size, 0, none⟩) 0 0) 0 [] rfl HO.out w.heap.size (some ad) n c (u8s l) rfl HR.out O1.out (by unfold maxLen; omega) (by omega) (by simp) ?_; intro v1 w1 hown1 hg1 hat1)
    go_ret
    rw [List.nil_append] at hown1
    exact bytes_post hown1 (below_app ((Below.refl _ _).alloc (Nat.le_refl _) _) HO.out hg1 (by simp) (Nat.le_refl _))
set_option maxRecDepth 100000 in
set_option maxHeartbeats 2000000 in
theorem sgrow_nil (n : Nat) (w : World) (hn : n ≤ 1099511627776) : Calls Tryz.prog 218 #[.slice none 0 0, .int .i64 n] w fun e w' => ∃ A c, e = .returned (.slice A 0 c) ∧ OwnB 5 w.heap.size w' A c [] ∧ Below w.heap.size w w' := by
  by_cases h0 : n = 0
  · subst h0
    go_enter Tryz.func218, Tryz.ntmps218
    go_wp2_with fail
    go_ret
    exact ⟨none, 0, rfl, own_nil _ _ _ _, Below.refl _ _⟩
  obtain ⟨i0, hi, hz0, hs0, hb0⟩ := info_parts (show (Tryz.prog.info? 5).map (fun i => (i.zero, i.size, i.bytes)) = some (some (.int .u8 0), 1, 1) by kernel_rfl)
  have hold : (Builtin.firstCells i0.size 0 (.slice none 0 0)).run Tryz.prog w.drew = .ok (([] : List Value).toArray) w.drew := by rw [hs0]; exact run_firstCells_none w.drew 1 0 0 0
  have hrz : ∀ ty, (Builtin.append_ #[34, 3] ty #[.slice none 0 0, .int .i64 (n : Int)]).run Tryz.prog w = .ok (.slice (some ⟨w.heap.size, 0, none⟩) n (grownCap w n 0 5)) (w.drew.alloc (.cells (#[] ++ Builtin.zeroCells #[.int .u8 0] n ++ Builtin.zeroCells #[.int .u8 0] (grownCap w n 0 5 - n)) 5)) := fun ty => by
    have h := Lib.run_append_grow_zeros w 34 3 ty 5 i0 (.int .u8 0) .i64 .i64 Tryz.underlying34 Tryz.underlying3 hi hz0 none 0 0 [] hold n (by omega) (by rw [hs0]; omega) (by omega) (by omega) (by rw [hb0]; omega) (by rw [hb0]; exact growslice_fits (by omega) (by omega))
    rw [Nat.zero_add] at h
    exact h
  have hGn : n ≤ grownCap w n 0 5 := grownCap_ge w _ _ _
  obtain ⟨G, hG⟩ : ∃ G, G = grownCap w n 0 5 := ⟨_, rfl⟩
  rw [← hG] at hrz hGn
  have hG63 : G ≤ 9223372036854775807 := by
    have := grownCap_le_maxLen w n 0 5 (by unfold maxLen; omega)
    rw [← hG] at this
    unfold maxLen at this
    omega
  have hgt : (0 : Int) < (n : Int) := by omega
  have HO : Hid ((w.alloc (.cells (Builtin.zeroCells #[.int .u8 0] n ++ Builtin.zeroCells #[.int .u8 0] (G - n)) 5)).drew.ownsRow w.heap.size 5 1 (.slice (some ⟨w.heap.size, 0, none⟩) 0 G) 0 []) := Lib.hid (World.ownsRow_made w _ G (Nat.le_refl _) (by unfold maxLen; omega) (by
    simp only [Array.size_append, size_zeroCells, List.size_toArray, List.length_nil, List.length_cons]; omega))
  clear hold hG h0
  go_enter Tryz.func218, Tryz.ntmps218
  go_wp2_with (at_builtin; refine Lib.wpList_append_run _ rfl _ _ _ _ rfl _ _ rfl rfl _ _ (hrz _) ?_)
  go_ret
  exact ⟨_, G, rfl, HO.out, ((Below.refl _ _).alloc (Nat.le_refl _) _).drew⟩
theorem flat_take1 {ks : List (List UInt8)} {k : Nat} {x : List UInt8} (h : ks[k]? = some x) : (ks.take (k + 1)).flatten = (ks.take k).flatten ++ x := by
  rw [take_snoc h, List.flatten_append]; simp
theorem flat_take_len (ks : List (List UInt8)) (k : Nat) : (ks.take k).flatten.length ≤ ks.flatten.length := by
  have e := congrArg (fun l => (List.flatten l).length) (List.take_append_drop k ks)
  simp only [List.flatten_append, List.length_append] at e
  omega
set_option maxRecDepth 100000 in
set_option maxHeartbeats 2000000 in
theorem sconcat_any (ks : List (List UInt8)) (A : Option Addr) (n c : Nat) (w : World) (hn : n ≤ 1000000000) (hr : RBs w w.heap.size A n ks) (hb : ks.flatten.length ≤ 1099511627776) :
    Calls Tryz.prog 216 #[.slice A n c] w (BytesPost 5 ks.flatten w) := by
  have HL := Lib.hid hr.len
  have HR : Hid (∀ z, Below w.heap.size w z → RBs z z.heap.size A n ks) := Lib.hid fun z h => hr.later h
  have HF : Hid (∀ k, (ks.take k).flatten.length ≤ 1099511627776) := Lib.hid fun k => Nat.le_trans (flat_take_len ks k) hb
  obtain ⟨N, hN⟩ : ∃ z, z = ks.flatten.length := ⟨_, rfl⟩
  rw [← hN] at hb
  have HN := Lib.hid hN
  clear hr hN
  go_enter Tryz.func216, Tryz.ntmps216
  go_wp2_with fail
  go_loop [3, 11] (fun s i => ∃ k t : Nat, k ≤ n ∧ t ≤ 1099511627776 ∧ i = .int .i64 k ∧ s = .int .i64 t ∧ Hid (t = (ks.take k).flatten.length)) (fun _ i => n - (intOf i).toNat)
  case atStart => exact ⟨0, 0, Nat.zero_le _, by omega, rfl, rfl, Lib.hid rfl⟩
  case round =>
    obtain ⟨k, t, hk, ht, rfl, rfl, HT⟩ := hrel
    by_cases hlt : k < n
    case pos =>
      have hdk : decide ((k : Int) < (n : Int)) = true := decide_eq_true (by omega)
      obtain ⟨b, o, x, a, ck, rfl, hbl, hx, hcell, _, _, _, _⟩ := (HR.out w (Below.refl _ _)).at_ hlt
      have HX := Lib.hid (flat_take1 hx)
      obtain ⟨m, hm⟩ : ∃ z, z = x.length := ⟨_, rfl⟩
      have hmb : t + m ≤ 1099511627776 := by have h1 := HF.out (k + 1); rw [HX.out, List.length_append, ← HT.out, ← hm] at h1; exact h1
      rw [← hm] at hcell
      have HM := Lib.hid hm
      have i1 : (0 : Int) ≤ (k : Int) := by omega
      have i2 : (k : Int) < (n : Int) := by omega
      have i3 : ¬ ((t : Int) + (m : Int) < 0) := by omega
      clear hx hm
      go_wp2_with fail
      go_round
      case rel => exact ⟨k + 1, t + m, by omega, hmb, by go_num, rfl, Lib.hid (by rw [HX.out, List.length_append, ← HT.out, ← HM.out])⟩
      case measure => simp [intOf]; omega
    have hdk : decide ((k : Int) < (n : Int)) = false := decide_eq_false (by omega)
    have HTN : Hid (t = N) := Lib.hid (by rw [HT.out, HN.out, take_all (by have := HL.out; omega)])
    go_wp2_with (go_at_call 218; go_must (refine (sgrow_nil t _ ht).mono ?_); rintro r z1 ⟨A1, c1, rfl, ho, hb1⟩; have HX := Lib.hid (OW.byt1 hb1 ho); clear ho hb1)
    go_loopw [6, 27] (fun v i wr => ∃ (k : Nat) (A : Option Addr) (c m : Nat) (l : List UInt8), k ≤ n ∧ m ≤ 1099511627776 ∧ i = .int .i64 k ∧ v = .slice A m c ∧ Hid (l.length = m) ∧ Hid (l = (ks.take k).flatten) ∧ Hid (OW w [bytO 5 (A, c, l)] wr)) (fun _ i _ => n - (intOf i).toNat)
    case atStart => exact ⟨0, A1, c1, 0, [], Nat.zero_le _, by omega, rfl, rfl, Lib.hid rfl, Lib.hid rfl, HX⟩
    case round =>
      clear HX
      obtain ⟨k2, A2, c2, m2, l2, hk2, hm2, rfl, rfl, HL2, HP2, HX⟩ := hrel
      by_cases hlt2 : k2 < n
      case pos =>
        have hdk2 : decide ((k2 : Int) < (n : Int)) = true := decide_eq_true (by omega)
        obtain ⟨b, o, x, a, ck, rfl, hbl, hx, hcell, _, _, _, hrb⟩ := (HR.out wr HX.out.up).at_ hlt2
        have HQ := Lib.hid (flat_take1 hx)
        obtain ⟨m, hm⟩ : ∃ z, z = x.length := ⟨_, rfl⟩
        have hmb : m2 + m ≤ 1099511627776 := by have h1 := HF.out (k2 + 1); rw [HQ.out, List.length_append, ← HP2.out, ← hm, HL2.out] at h1; exact h1
        rw [← hm] at hcell hrb
        have HM := Lib.hid hm
        have HRB := Lib.hid hrb
        have i1 : (0 : Int) ≤ (k2 : Int) := by omega
        have i2 : (k2 : Int) < (n : Int) := by omega
        clear hx hm hrb
        go_wp2_with (at_builtin; go_must (refine wl_appB rfl (.tmp 31) (.tmp 32) rfl Tryz.u8s' HX.out 0 rfl HL2.out rfl _ _ m _ x rfl HRB.out (by omega) ?_); intro A3 c3 z3 hz; have HX3 : Hid (OW w [bytO 5 (A3, c3, l2 ++ x)] z3) := Lib.hid hz; clear hz HX HRB hcell)
        go_roundw
        case rel => exact ⟨k2 + 1, A3, c3, m2 + m, l2 ++ x, by omega, hmb, by go_num, rfl, Lib.hid (by rw [List.length_append, HL2.out, HM.out]), Lib.hid (by rw [HQ.out, HP2.out]), HX3⟩
        case measure => simp [intOf]; omega
      have hdk2 : decide ((k2 : Int) < (n : Int)) = false := decide_eq_false (by omega)
      go_wp2_with fail
      go_ret
      exact HX.out.bytes1 (by rw [HP2.out, take_all (by have := HL.out; omega)]) HL2.out rfl
theorem rbs_two {w : World} {A B : Option Addr} {n c m d : Nat} {k l : List UInt8} (hk : Sl w A n c k) (hl : Sl w B m d l) (t : TypeId) (fr : Nat × Nat) :
    RBs (w.alloc (.cells #[.slice A n c, .slice B m d] t fr)) (w.alloc (.cells #[.slice A n c, .slice B m d] t fr)).heap.size (some ⟨w.heap.size, 0, none⟩) 2 [k, l] := by
  have hb : Below w.heap.size w (w.alloc (.cells #[.slice A n c, .slice B m d] t fr)) := (Below.refl _ _).alloc (Nat.le_refl _) _
  have h1 := hk.later hb
  have h2 := hl.later hb
  have e1 := hk.rb.len
  have e2 := hl.rb.len
  refine ⟨[.slice A n c, .slice B m d], ⟨rfl, fun _ => ⟨w.heap.size, 0, rfl, by simp, fun j u hu => ?_⟩⟩, rfl, fun i x hx => ?_⟩
  · rw [Nat.zero_add, World.cell?_alloc_mark, ← Array.getElem?_toList]; exact hu
  · match i, hx with
    | 0, hx => injection hx with hx; subst hx; exact ⟨A, c, by rw [e1]; rfl, by rw [e1]; exact h1.cap, h1.lim, h1.nil, by rw [e1]; exact h1.rb⟩
    | 1, hx => injection hx with hx; subst hx; exact ⟨B, d, by rw [e2]; rfl, by rw [e2]; exact h2.cap, h2.lim, h2.nil, by rw [e2]; exact h2.rb⟩
theorem Tryz.intS5 : SliceOf Tryz.prog 141 3 1 8 := SliceOf.mk' (z := .int .i64 0) Tryz.underlying141 (by kernel_rfl) rfl (by decide)
theorem uintB_le10 {n : Nat} (h : n < 18446744073709551616) : (uintB n).length ≤ 10 := uintB_len 9 n (Nat.lt_of_lt_of_le h (by decide))
theorem ent_row5 : RowTy Tryz.prog 60 7 := ⟨⟨_, Tryz.underlying60, rfl⟩, by kernel_rfl⟩
theorem last_range {w z : World} {os : List Ob} {i R g : Nat} {bv pv kv : Value} {A B : Option Addr} {n c m d N : Nat} {e : Ent} (h : OW w os z) (hi : os[i]? = some (boxO g (bldC R bv pv A n c B m d e kv N))) :
    z.rangeAt g 3 [.slice A n c, .int .i64 e.fam, .slice B m d, .int .i64 e.ts, .int .i64 e.seq, .int .i64 e.kind, .slice none 0 0] := fun j v hj => by
  match j, hj with
  | 0, hj => exact h.cell (j := 3) hi hj
  | 1, hj => exact h.cell (j := 4) hi hj
  | 2, hj => exact h.cell (j := 5) hi hj
  | 3, hj => exact h.cell (j := 6) hi hj
  | 4, hj => exact h.cell (j := 7) hi hj
  | 5, hj => exact h.cell (j := 8) hi hj
  | 6, hj => exact h.cell (j := 9) hi hj
def AddP (w : World) (R : Nat) (L : List Ent) (g : Nat) (rest : List Ob) (e : Ent) (r : Ending) (z : World) : Prop :=
  r = .returned (.int .i64 (addC R L e)) ∧ ∃ os', Bld R (addL R L e) g os' ∧ OW w (os' ++ rest) z
set_option maxRecDepth 100000 in
set_option maxHeartbeats 4000000 in
theorem add_any {w x : World} {R g : Nat} {L : List Ent} {os rest : List Ob} (hb : Bld R L g os) (h : OW w (os ++ rest) x) (e : Ent) (A : Option Addr) (n c : Nat) (B : Option Addr) (m d : Nat) (D : Option Addr) (v q : Nat) (HE : ∀ us z, OW w (us ++ rest) z → En z A n c B m d D v q e) :
  Calls Tryz.prog 109 #[.pointer (some ⟨g, 0, none⟩), entV A n c B m d D v q e] x (AddP w R L g rest e) := by
 obtain ⟨hR, hsz, hkl, hall, mm, rfl, hlast⟩ := hb
 have HEE := Lib.hid HE
 have HX := Lib.hid h
 have HRR := Lib.hid hR
 have HSZ := Lib.hid hsz
 have HKL := Lib.hid hkl
 have HLA := Lib.hid hlast
 have HALL := Lib.hid hall
 clear h HE hR hsz hkl hlast hall
 by_cases hc : checkE e = 0
 case neg =>
  obtain ⟨ce, hce⟩ : ∃ z, z = checkE e := ⟨_, rfl⟩
  have HK : Hid (KeyE e = ([], ce)) := Lib.hid (by unfold KeyE; rw [if_neg hc, hce])
  have HP : Hid (addC R L e = ce ∧ addL R L e = L) := Lib.hid (by
   have h : addC R L e = ce := by unfold addC; rw [if_pos hc, hce]
   exact ⟨h, by unfold addL; rw [h, if_neg (by rw [hce]; exact hc)]⟩)
  rw [← hce] at hc
  clear hce
  have hd : (ce == 0) = false := beq_eq_false_iff_ne.2 hc
  go_enter Tryz.func109, Tryz.ntmps109
  have tk : True := trivial
  go_wp2_with (first
   | (refine wl_box rfl (.tmp 1) rfl [.slice A n c, .int .i64 e.fam, .slice B m d, .int .i64 e.ts, .int .i64 e.seq, .int .i64 e.kind, .slice D v q] rfl (OW.nil _) ?_; intro gb x1 hz _; replace HX := Lib.hid (HX.out.addF9 hz); clear hz)
   | (refine wpList_load_row7 rfl 60 (.tmp 3) rfl rfl (HX.out.range (i := 0) rfl) ent_row5 ?_)
   | (go_at_call 111; have _t := tk; go_must (refine (key_any e A n c B m d D v q _ (HEE.out (boxO gb [.slice A n c, .int .i64 e.fam, .slice B m d, .int .i64 e.ts, .int .i64 e.seq, .int .i64 e.kind, .slice D v q] :: bldO R g (runB R L) mm) _ HX.out)).mono ?_); rw [HK.out]; rintro r y1 hp; obtain ⟨Ak, ck, rfl, _, ho, hb⟩ := hp.at_ (n := 0) rfl rfl; replace HX := Lib.hid (HX.out.addF9 (OW.byt1 hb ho)); clear hp ho hb tk))
  go_ret
  exact ⟨by rw [HP.out.1]; rfl, bldO R g (runB R L) mm, by rw [HP.out.2]; exact ⟨HRR.out, HSZ.out, HKL.out, HALL.out, mm, rfl, HLA.out⟩, HX.out.sub (((List.Sublist.refl _).cons _).cons _)⟩
 have HOK := Lib.hid (ok_of hc)
 have hkn0 := keyE_len HOK.out
 obtain ⟨kb, hkb⟩ : ∃ z, z = keyE e := ⟨_, rfl⟩
 have HK : Hid (KeyE e = (kb, 0)) := Lib.hid (by unfold KeyE; rw [if_pos hc, hkb])
 rw [← hkb] at hkn0
 obtain ⟨kn, hkn⟩ : ∃ z, z = kb.length := ⟨_, rfl⟩
 rw [← hkn] at hkn0
 have HKB := Lib.hid hkb
 have HKN := Lib.hid hkn.symm
 have HC := Lib.hid hc
 clear hkb hkn hc
 obtain ⟨s, hs⟩ : ∃ z, z = runB R L := ⟨_, rfl⟩
 rw [← hs] at HX HSZ HKL
 obtain ⟨N, hN⟩ : ∃ z, z = s.n := ⟨_, rfl⟩
 have HNL : Hid (N = L.length) := Lib.hid (by rw [hN, hs, runB_n])
 have HS0 := Lib.hid hs
 have HN := Lib.hid hN
 clear hs hN
 obtain ⟨bo, hbo⟩ : ∃ z : Bool, z = !lastOk L e := ⟨_, rfl⟩
 have HBO := Lib.hid hbo
 clear hbo
 go_enter Tryz.func109, Tryz.ntmps109
 have tk : True := trivial
 go_upto_region 4 with (first
  | (refine wl_box rfl (.tmp 1) rfl [.slice A n c, .int .i64 e.fam, .slice B m d, .int .i64 e.ts, .int .i64 e.seq, .int .i64 e.kind, .slice D v q] rfl (OW.nil _) ?_; intro gb x1 hz _; replace HX := Lib.hid (HX.out.addF9 hz); clear hz)
  | (refine wpList_load_row7 rfl 60 (.tmp 3) rfl rfl (HX.out.range (i := 0) rfl) ent_row5 ?_)
  | (go_at_call 111; have _t := tk; go_must (refine (key_any e A n c B m d D v q _ (HEE.out (boxO gb [.slice A n c, .int .i64 e.fam, .slice B m d, .int .i64 e.ts, .int .i64 e.seq, .int .i64 e.kind, .slice D v q] :: bldO R g s mm) _ HX.out)).mono ?_); rw [HK.out]; rintro r y1 hp; obtain ⟨Ak, ck, rfl, _, ho, hb⟩ := hp.at_ (n := kn) HKN.out rfl; replace HX := Lib.hid (HX.out.addF9 (OW.byt1 hb ho)); clear hp ho hb tk))
 have HX : Hid (OW w (bytO 5 (Ak, ck, kb) :: boxO gb [.slice A n c, .int .i64 e.fam, .slice B m d, .int .i64 e.ts, .int .i64 e.seq, .int .i64 e.kind, .slice D v q] :: (bldO R g s mm ++ rest)) y1) := HX
 have HCN : Hid (∀ z, OW w (bytO 5 (Ak, ck, kb) :: boxO gb [.slice A n c, .int .i64 e.fam, .slice B m d, .int .i64 e.ts, .int .i64 e.seq, .int .i64 e.kind, .slice D v q] :: (bldO R g s mm ++ rest)) z → z.cell? ⟨g, 11, none⟩ = some (.int .i64 (N : Int))) := Lib.hid fun z hz => by rw [HN.out]; exact hz.cell (i := 2) (j := 11) rfl rfl
 go_cut [32] (fun b wx => b = .bool bo ∧ Hid (OW w (bytO 5 (Ak, ck, kb) :: boxO gb [.slice A n c, .int .i64 e.fam, .slice B m d, .int .i64 e.ts, .int .i64 e.seq, .int .i64 e.kind, .slice D v q] :: (bldO R g s mm ++ rest)) wx))
 case first =>
  cases hg : L.getLast? with
  | none =>
   have hN0 : N = 0 := by rw [HNL.out, List.getLast?_eq_none_iff.1 hg]; rfl
   have hb0 : bo = false := by rw [HBO.out]; unfold lastOk; rw [hg]; rfl
   have hd : decide ((N : Int) > 0) = false := decide_eq_false (by omega)
   have hd' : ¬ (0 : Int) < (N : Int) := by omega
   clear hg
   refine lt_start [] (by kernel_rfl) ?_
   intro xd hd0
   refine ⟨fun z => OW w (bytO 5 (Ak, ck, kb) :: boxO gb [.slice A n c, .int .i64 e.fam, .slice B m d, .int .i64 e.ts, .int .i64 e.seq, .int .i64 e.kind, .slice D v q] :: (bldO R g s mm ++ rest)) z, ?_⟩
   have HS := Lib.hid (HX.out.later hd0)
   refine lp 0 rfl (v := ?_) (fun w => ?_) (fun _ => HS.out) ?_
   rotate_left
   ·first | (go_simp; done) | (go_simp; with_reducible rfl)
   simp only [Act.put, ls1, ls2, ls3]
   refine lp 1 rfl (v := ?_) (fun w => ?_) (fun _ => HS.out) ?_
   rotate_left
   ·first | (go_simp; done) | (go_simp; with_reducible rfl)
   simp only [Act.put, ls1, ls2, ls3]
   refine lp 2 rfl (v := ?_) (fun w => ?_) (fun _ => HS.out) ?_
   rotate_left
   ·first | (go_simp; done) | (go_simp; with_reducible rfl)
   simp only [Act.put, ls1, ls2, ls3]
   refine lq 3 [4, 5, 6, 7, 8, 9, 10, 11, 12, 13] rfl (yi_cell rfl rfl rfl (fun w hS => HCN.out w hS) (fun w => Tryz.isAgg3 w)) HS.out ?_
   simp only [Act.put, ls1, ls2, ls3]
   refine lp 4 rfl (v := ?_) (fun w => ?_) (fun _ => HS.out) ?_
   rotate_left
   ·first | (go_simp; done) | (go_simp; with_reducible rfl)
   simp only [Act.put, ls1, ls2, ls3]
   refine lp 5 rfl (v := ?_) (fun w => ?_) (fun _ => HS.out) ?_
   rotate_left
   ·first | (go_simp; done) | (go_simp; with_reducible rfl)
   simp only [Act.put, ls1, ls2, ls3]
   refine lk 6 rfl (fun _ => HS.out) ?_
   simp only [Act.put, ls1, ls2, ls3]
   refine lk 7 rfl (fun _ => HS.out) ?_
   simp only [Act.put, ls1, ls2, ls3]
   refine lk 8 rfl (fun _ => HS.out) ?_
   simp only [Act.put, ls1, ls2, ls3]
   refine lk 9 rfl (fun _ => HS.out) ?_
   simp only [Act.put, ls1, ls2, ls3]
   refine lk 10 rfl (fun _ => HS.out) ?_
   simp only [Act.put, ls1, ls2, ls3]
   refine lk 11 rfl (fun _ => HS.out) ?_
   simp only [Act.put, ls1, ls2, ls3]
   refine lk 12 rfl (fun _ => HS.out) ?_
   simp only [Act.put, ls1, ls2, ls3]
   refine lp 13 rfl (v := ?_) (fun w => ?_) (fun _ => HS.out) ?_
   rotate_left
   ·first | (go_simp; done) | (go_simp; with_reducible rfl)
   simp only [Act.put, ls1, ls2, ls3]
   refine lt_done (by kernel_rfl) ?_
   have HS9 := HS
   clear HS
   have HXD := Lib.hid HS9.out
   go_wp2_with fail
   go_meet
   exact ⟨by rw [hb0], HXD⟩
  | some l =>
   have hl := HLA.out l hg
   have hN0 : 0 < N := by rw [HNL.out]; exact List.length_pos_iff.2 (fun e' => by rw [e'] at hg; cases hg)
   have HV : Hid (mm.e.val = []) := Lib.hid (by rw [hl])
   obtain ⟨cv, hcv⟩ : ∃ z, z = cmpE mm.e e := ⟨_, rfl⟩
   have HCV := Lib.hid hcv
   have hbo : bo = decide (cv ≥ 0) := by
    have h1 : cmpE mm.e e = cmpE l e := by rw [hl]; rfl
    rw [HBO.out, hcv, h1]; unfold lastOk; rw [hg]
    by_cases h : cmpE l e < 0
    ·simp [h, Int.not_le.2 h]
    ·simp [h, Int.not_lt.1 h]
   have hd : decide ((N : Int) > 0) = true := decide_eq_true (by omega)
   have hd' : (0 : Int) < (N : Int) := by omega
   clear hg hl hcv
   refine lt_start [] (by kernel_rfl) ?_
   intro xd hd0
   refine ⟨fun z => OW w (bytO 5 (Ak, ck, kb) :: boxO gb [.slice A n c, .int .i64 e.fam, .slice B m d, .int .i64 e.ts, .int .i64 e.seq, .int .i64 e.kind, .slice D v q] :: (bldO R g s mm ++ rest)) z, ?_⟩
   have HS := Lib.hid (HX.out.later hd0)
   refine lp 0 rfl (v := ?_) (fun w => ?_) (fun _ => HS.out) ?_
   rotate_left
   ·first | (go_simp; done) | (go_simp; with_reducible rfl)
   simp only [Act.put, ls1, ls2, ls3]
   refine lp 1 rfl (v := ?_) (fun w => ?_) (fun _ => HS.out) ?_
   rotate_left
   ·first | (go_simp; done) | (go_simp; with_reducible rfl)
   simp only [Act.put, ls1, ls2, ls3]
   refine lp 2 rfl (v := ?_) (fun w => ?_) (fun _ => HS.out) ?_
   rotate_left
   ·first | (go_simp; done) | (go_simp; with_reducible rfl)
   simp only [Act.put, ls1, ls2, ls3]
   refine lq 3 [4, 5, 6, 7, 8, 9, 10, 11, 12, 13] rfl (yi_cell rfl rfl rfl (fun w hS => HCN.out w hS) (fun w => Tryz.isAgg3 w)) HS.out ?_
   simp only [Act.put, ls1, ls2, ls3]
   refine lp 4 rfl (v := ?_) (fun w => ?_) (fun _ => HS.out) ?_
   rotate_left
   ·first | (go_simp; done) | (go_simp; with_reducible rfl)
   simp only [Act.put, ls1, ls2, ls3]
   refine lp 5 rfl (v := ?_) (fun w => ?_) (fun _ => HS.out) ?_
   rotate_left
   ·first | (go_simp; done) | (go_simp; with_reducible rfl)
   simp only [Act.put, ls1, ls2, ls3]
   refine lp 6 rfl (v := ?_) (fun w => ?_) (fun _ => HS.out) ?_
   rotate_left
   ·first | (go_simp; done) | (go_simp; with_reducible rfl)
   simp only [Act.put, ls1, ls2, ls3]
   refine lp 7 rfl (v := ?_) (fun w => ?_) (fun _ => HS.out) ?_
   rotate_left
   ·first | (go_simp; done) | (go_simp; with_reducible rfl)
   simp only [Act.put, ls1, ls2, ls3]
   refine lp 8 rfl (v := ?_) (fun w => ?_) (fun _ => HS.out) ?_
   rotate_left
   ·first | (go_simp; done) | (go_simp; with_reducible rfl)
   simp only [Act.put, ls1, ls2, ls3]
   refine lq 9 [11, 12, 13] rfl (yi_rowO rfl rfl rfl (fun w hS => last_range hS (i := 2) rfl) ent_row5) HS.out ?_
   simp only [Act.put, ls1, ls2, ls3]
   refine lq 10 [11, 12, 13] rfl (yi_row rfl rfl rfl (fun w hS => OW.range hS (i := 1) rfl) ent_row5) HS.out ?_
   simp only [Act.put, ls1, ls2, ls3]
   refine lt_call 11 rfl (by kernel_rfl) rfl rfl ⟨_, Tryz.func93, by decide, by kernel_rfl⟩ [entV mm.A mm.e.row.length mm.ac mm.Q mm.e.qual.length mm.qc none 0 0 mm.e, entV A n c B m d D v q e] rfl ?_
   refine (compare_any mm.e e mm.A mm.e.row.length mm.ac mm.Q mm.e.qual.length mm.qc none 0 0 A n c B m d D v q _ ⟨HS.out.sl (i := 5) rfl rfl, HS.out.sl (i := 6) rfl rfl, by rw [HV.out]; exact Sl.none _⟩ (HEE.out (bytO 5 (Ak, ck, kb) :: boxO gb [.slice A n c, .int .i64 e.fam, .slice B m d, .int .i64 e.ts, .int .i64 e.seq, .int .i64 e.kind, .slice D v q] :: bldO R g s mm) _ HS.out)).mono ?_
   rw [← HCV.out]
   rintro r z9 ⟨rfl, hb⟩
   replace HS := Lib.hid (HS.out.later hb)
   clear hb
   refine ⟨_, rfl, fun _ => HS.out, ?_⟩
   simp only [Act.put, ls1, ls2, ls3]
   refine lp 12 rfl (v := ?_) (fun w => ?_) (fun _ => HS.out) ?_
   rotate_left
   ·first | (go_simp; done) | (go_simp; with_reducible rfl)
   simp only [Act.put, ls1, ls2, ls3]
   refine lp 13 rfl (v := ?_) (fun w => ?_) (fun _ => HS.out) ?_
   rotate_left
   ·first | (go_simp; done) | (go_simp; with_reducible rfl)
   simp only [Act.put, ls1, ls2, ls3]
   refine lt_done (by kernel_rfl) ?_
   have HS9 := HS
   clear HS
   have HXD := Lib.hid HS9.out
   go_wp2_with fail
   go_meet
   exact ⟨by rw [hbo], HXD⟩
 clear HX
 obtain ⟨rfl, HX⟩ := hcut
 obtain ⟨w4, rfl⟩ : ∃ z : World, z = wc := ⟨_, rfl⟩
 by_cases hlo : lastOk L e = false
 case pos =>
  have hb1 : bo = true := by rw [HBO.out, hlo]; rfl
  have HP : Hid (addC R L e = 30 ∧ addL R L e = L) := Lib.hid (by
   have h : addC R L e = 30 := by unfold addC; rw [if_neg (fun h => h HC.out), if_pos hlo]
   exact ⟨h, by unfold addL; rw [h, if_neg (by decide)]⟩)
  clear HBO hlo
  subst hb1
  go_wp2_with fail
  go_ret
  exact ⟨by rw [HP.out.1]; rfl, bldO R g s mm, by rw [HP.out.2]; exact ⟨HRR.out, by rw [← HS0.out]; exact HSZ.out, by rw [← HS0.out]; exact HKL.out, HALL.out, mm, by rw [← HS0.out], HLA.out⟩, HX.out.sub (((List.Sublist.refl _).cons _).cons _)⟩
 have hb1 : bo = false := by rw [HBO.out]; cases h : lastOk L e <;> simp_all
 have HLO := Lib.hid hlo
 clear HBO hlo
 subst hb1
 obtain ⟨al, hal⟩ : ∃ z, z = alikeB R s kb := ⟨_, rfl⟩
 obtain ⟨fb, hfb⟩ : ∃ b : Bool, b = decide (N % R = 0) := ⟨_, rfl⟩
 have HAL := Lib.hid hal
 have HFB := Lib.hid hfb
 clear hal hfb
 have hR1 := HRR.out.1
 have hR2 := HRR.out.2
 have r0 : ((R : Int) == 0) = false := beq_eq_false_iff_ne.2 (by omega)
 have r1 : ¬ R = 0 := by omega
 have HCR : Hid (∀ z, OW w (bytO 5 (Ak, ck, kb) :: boxO gb [.slice A n c, .int .i64 e.fam, .slice B m d, .int .i64 e.ts, .int .i64 e.seq, .int .i64 e.kind, .slice D v q] :: (bldO R g s mm ++ rest)) z → z.cell? ⟨g, 0, none⟩ = some (.int .i64 (R : Int))) := Lib.hid fun z hz => hz.cell (i := 2) (j := 0) rfl rfl
 have HNB : Hid (N ≤ 131072) := Lib.hid (by have h1 := n_le_size _ (runB_many R L); rw [← HS0.out] at h1; have := HSZ.out; have := HN.out; omega)
 have hnb := HNB.out
 go_upto_region 6 with fail
 go_cut [7] (fun f wx => f = .bool fb ∧ Hid (OW w (bytO 5 (Ak, ck, kb) :: boxO gb [.slice A n c, .int .i64 e.fam, .slice B m d, .int .i64 e.ts, .int .i64 e.seq, .int .i64 e.kind, .slice D v q] :: (bldO R g s mm ++ rest)) wx))
 case first =>
  have c1 := HCN.out _ HX.out
  have c2 := HCR.out _ HX.out
  by_cases hf : N % R = 0
  ·have hb1 : fb = true := by rw [HFB.out]; exact decide_eq_true hf
   have e1 : ((N : Int).tmod (R : Int)) = 0 := by rw [← Int.ofNat_tmod, hf]; rfl
   have e2 : ((N : Int) % (R : Int)) = 0 := by rw [← Int.natCast_emod, hf]; rfl
   go_wp2_with fail
   go_quiet (fail)
   have HXD := Lib.hid (HX.out.later (below_drewN (n := nq) (Below.refl _ _)))
   clear c1 c2
   generalize w4.drewN nq = w5 at *
   go_wp2
   go_meet
   exact ⟨by rw [hb1], HXD⟩
  ·have hb1 : fb = false := by rw [HFB.out]; exact decide_eq_false hf
   have e1 : ¬ ((N : Int).tmod (R : Int)) = 0 := by rw [← Int.ofNat_tmod]; omega
   have e3 : (((N : Int).tmod (R : Int)) == 0) = false := beq_eq_false_iff_ne.2 e1
   have e2 : ¬ ((N : Int) % (R : Int)) = 0 := by rw [← Int.natCast_emod]; omega
   have e4 : (((N : Int) % (R : Int)) == 0) = false := beq_eq_false_iff_ne.2 e2
   go_wp2_with fail
   go_quiet (fail)
   have HXD := Lib.hid (HX.out.later (below_drewN (n := nq) (Below.refl _ _)))
   clear c1 c2
   generalize w4.drewN nq = w5 at *
   go_wp2
   go_meet
   exact ⟨by rw [hb1], HXD⟩
 clear HX
 obtain ⟨rfl, HX⟩ := hcut
 obtain ⟨w5, rfl⟩ : ∃ z : World, z = wc := ⟨_, rfl⟩
 go_upto_if 44 with fail
 go_cut [8] (fun a wx => a = .int .i64 (al : Int) ∧ Hid (OW w (bytO 5 (Ak, ck, kb) :: boxO gb [.slice A n c, .int .i64 e.fam, .slice B m d, .int .i64 e.ts, .int .i64 e.seq, .int .i64 e.kind, .slice D v q] :: (bldO R g s mm ++ rest)) wx))
 case first =>
  by_cases hf : N % R = 0
  ·have hb1 : fb = true := by rw [HFB.out]; exact decide_eq_true hf
   have ha : al = 0 := by rw [HAL.out]; unfold alikeB; rw [← HN.out, if_pos hf]
   clear HFB
   subst hb1
   go_wp2_with fail
   go_meet
   exact ⟨by rw [ha]; rfl, HX⟩
  ·have hb1 : fb = false := by rw [HFB.out]; exact decide_eq_false hf
   have ha : al = shareN s.key kb := by rw [HAL.out]; unfold alikeB; rw [← HN.out, if_neg hf]
   clear HFB
   subst hb1
   go_wp2_with (first
    | (refine wpList_load_cell rfl 34 (.tmp 47) rfl rfl (HX.out.cell (i := 2) (j := 10) rfl rfl) (fun w => Tryz.isAgg34 w) ?_)
    | (go_at_call 162; go_must (refine (shared_any s.key kb mm.K Ak s.key.length mm.kc kn ck _ (by have := HKL.out; omega) (HX.out.sl (i := 7) rfl rfl).rb (HX.out.sl (i := 0) rfl HKN.out).rb).mono ?_); rintro r z5 ⟨rfl, hb⟩; replace HX := Lib.hid (HX.out.later hb); clear hb))
   go_meet
   exact ⟨by rw [ha], HX⟩
 clear HX
 obtain ⟨rfl, HX⟩ := hcut
 obtain ⟨w6, rfl⟩ : ∃ z : World, z = wc := ⟨_, rfl⟩
 have HALT : Hid (al < kn) := Lib.hid (by have h9 := alike_lt (R := R) HALL.out HC.out HLO.out; rw [HAL.out, HS0.out, ← HKN.out, HKB.out]; exact h9)
 have halt := HALT.out
 obtain ⟨gk, cpk, hv, _⟩ := own_form (HX.out.row (i := 0) rfl) (by show 0 < kb.length; have := HKN.out; omega)
 injection hv with hv _ hcp
 subst hv
 subst hcp
 obtain ⟨U, hU⟩ : ∃ z, z = uintB al := ⟨_, rfl⟩
 obtain ⟨un, hun⟩ : ∃ z, z = U.length := ⟨_, rfl⟩
 have hun2 : un ≤ 10 := by rw [hun, hU]; exact uintB_le10 (by omega)
 have HU := Lib.hid hU
 have HUN := Lib.hid hun.symm
 obtain ⟨kd, hkd⟩ : ∃ z, z = kb.drop al := ⟨_, rfl⟩
 have HKD := Lib.hid hkd
 have hkdl : kd.length = kn - al := by rw [hkd, List.length_drop, HKN.out]
 have HKDL := Lib.hid hkdl
 obtain ⟨V, hV⟩ : ∃ z, z = uintB kd.length ++ kd := ⟨_, rfl⟩
 obtain ⟨vn, hvn⟩ : ∃ z, z = V.length := ⟨_, rfl⟩
 have hvn2 : vn ≤ 1058 := by rw [hvn, hV, List.length_append]; have := uintB_le10 (n := kd.length) (by omega); omega
 have HV := Lib.hid hV
 have HVN := Lib.hid hvn.symm
 clear hU hun hkd hkdl hV hvn
 have HCK : Hid (kn ≤ ck) := Lib.hid (HX.out.sl (i := 0) rfl HKN.out).cap
 have HSD : Hid (∀ z, Sl z (some ⟨gk, 0, none⟩) kn ck kb → Sl z (some ⟨gk, al, none⟩) (kn - al) (ck - al) kd) := Lib.hid fun z h => by
  have h1 := h.drop (k := al) (by omega) (by have := HCK.out; omega)
  rw [← HKD.out, Option.map_some, show (⟨gk, 0, none⟩ : Addr).add al = ⟨gk, al, none⟩ from by simp [Addr.add]; omega] at h1
  exact h1
 have i1 : (0 : Int) ≤ (al : Int) := by omega
 have i2 : (al : Int) ≤ (kn : Int) := by omega
 have i3 : (kn : Int) ≤ (ck : Int) := by have := HCK.out; omega
 have tk : True := trivial
 go_wp2_with (first
  | (go_at_call 113; go_must (refine (uint_any al _ (by omega)).mono ?_); rw [← HU.out]; rintro r z7 hp; obtain ⟨A1, c1, rfl, _, ho, hb⟩ := hp.at_ (n := un) HUN.out; replace HX := Lib.hid (HX.out.addF9 (OW.byt1 hb ho)); clear hp ho hb)
  | (go_at_call 112; have _t := tk; go_must (refine (bytes_any kd _ (kn - al) _ _ (by omega) (HSD.out _ (HX.out.sl (i := 1) rfl HKN.out)).rb).mono ?_); rw [← HV.out]; rintro r z8 hp; obtain ⟨A2, c2, rfl, _, ho, hb⟩ := hp.at_ (n := vn) HVN.out; replace HX := Lib.hid (HX.out.addF9 (OW.byt1 hb ho)); clear hp ho hb tk)
  | (at_builtin; go_must (refine wl_append rfl (.tmp 54) (.tmp 58) rfl Tryz.u8s' HX.out 1 (v := .slice A1 un c1) (n := un) (cs := u8s U) (by show some (bytO _ (A1, c1, U)) = _; unfold bytO; rw [HUN.out]; rfl) rfl _ _ vn _ (u8s V) rfl (HX.out.sl (i := 0) rfl HVN.out).rb (u8s_one V) (by unfold maxLen; omega) (by omega) ?_); intro A3 c3 z9 hz _; replace HX := Lib.hid hz; clear hz)
  | (refine wpList_load_cell rfl 34 (.tmp 61) rfl rfl (HX.out.cell (i := 3) (j := 6) rfl rfl) (fun w => Tryz.isAgg34 w) ?_))
 have HVL : Hid (e.val.length = v) := Lib.hid (HEE.out ([_, _, _, _] ++ bldO R g s mm) _ HX.out).val.len
 have hv1 : v ≤ 131072 := by have := HOK.out.val.1; have := HVL.out; omega
 obtain ⟨W, hW⟩ : ∃ z, z = uintB e.val.length ++ e.val := ⟨_, rfl⟩
 obtain ⟨wn, hwn⟩ : ∃ z, z = W.length := ⟨_, rfl⟩
 have hwn2 : wn ≤ v + 10 := by rw [hwn, hW, List.length_append]; have := uintB_le10 (n := e.val.length) (by have := HVL.out; omega); have := HVL.out; omega
 have HW := Lib.hid hW
 have HWN := Lib.hid hwn.symm
 clear hW hwn
 obtain ⟨P, pc, hpv, _⟩ := own_slice (HX.out.row (i := 6) rfl)
 obtain ⟨pl, hpl⟩ : ∃ z, z = s.places.length := ⟨_, rfl⟩
 rw [← hpl] at hpv
 have HPV : Hid (∀ o : Option Value, o = some mm.pv → o = some (.slice P pl pc)) := Lib.hid fun o h => by rw [h, hpv]
 have HPL := Lib.hid hpl
 have HPE := Lib.hid hpv
 have hplb : pl ≤ 131072 := by have := HSZ.out; unfold sizeS at this; omega
 clear hpv hpl
 go_upto_if 70 with (first
  | (go_at_call 112; go_must (refine (bytes_any e.val D v q _ (by omega) (HEE.out ([_, _, _, _] ++ bldO R g s mm) _ HX.out).val.rb).mono ?_); rw [← HW.out]; rintro r z10 hp; obtain ⟨A4, c4, rfl, _, ho, hb⟩ := hp.at_ (n := wn) HWN.out; replace HX := Lib.hid (HX.out.addF9 (OW.byt1 hb ho)); clear hp ho hb)
  | (at_builtin; go_must (refine wl_append rfl (.tmp 60) (.tmp 63) rfl Tryz.u8s' HX.out 2 rfl rfl _ _ wn _ (u8s W) rfl (HX.out.sl (i := 0) rfl HWN.out).rb (u8s_one W) (by unfold maxLen; omega) (by omega) ?_); intro A5 c5 z11 hz _; replace HX := Lib.hid hz; clear hz)
  | (refine wpList_load_cell rfl 141 (.tmp 67) rfl rfl (HPV.out _ (HX.out.cell (i := 5) (j := 2) rfl rfl)) (fun w => Tryz.isAgg141 w) ?_))
 obtain ⟨w7, rfl⟩ : ∃ z : World, z = z11 := ⟨_, rfl⟩
 obtain ⟨pn, hpn⟩ : ∃ z, z = (placesB R s).length := ⟨_, rfl⟩
 have HPN := Lib.hid hpn
 clear hpn
 go_cut [10] (fun p wx => w7 = wx ∧ p = .int .i64 (pn : Int))
 case first =>
  by_cases hf : N % R = 0
  ·have hb1 : fb = true := by rw [HFB.out]; exact decide_eq_true hf
   have ha : pn = pl + 1 := by rw [HPN.out, HPL.out]; unfold placesB; rw [← HN.out, if_pos hf, List.length_append]; rfl
   clear HFB
   subst hb1
   go_wp2_with fail
   go_meet
   exact ⟨rfl, by rw [ha]; rfl⟩
  ·have hb1 : fb = false := by rw [HFB.out]; exact decide_eq_false hf
   have ha : pn = pl := by rw [HPN.out, HPL.out]; unfold placesB; rw [← HN.out, if_neg hf]
   clear HFB
   subst hb1
   go_wp2_with fail
   go_meet
   exact ⟨rfl, by rw [ha]⟩
 obtain ⟨rfl, rfl⟩ := hcut
 obtain ⟨rn, hrn⟩ : ∃ z, z = un + vn + wn := ⟨_, rfl⟩
 rw [← hrn] at HX ⊢
 obtain ⟨RW, hRW⟩ : ∃ z, z = U ++ V ++ W := ⟨_, rfl⟩
 have HRW : Hid (RW = rowK al kb e.val) := Lib.hid (by rw [hRW, HU.out, HV.out, HW.out, HKD.out]; rfl)
 have HRN : Hid (RW.length = rn) := Lib.hid (by rw [hRW, hrn, List.length_append, List.length_append, HUN.out, HVN.out, HWN.out])
 obtain ⟨bl, hbl⟩ : ∃ z, z = s.body.length := ⟨_, rfl⟩
 have HBL := Lib.hid hbl
 have hblb : bl ≤ 131072 := by have := HSZ.out; unfold sizeS at this; omega
 have hrnb : rn ≤ 140000 := by omega
 have hpnb : pn ≤ 131073 := by
  have := HSZ.out
  unfold sizeS at this
  rw [HPN.out]; unfold placesB
  split
  ·rw [List.length_append]; simp; omega
  ·omega
 have HSS : Hid (sizeS (stepB R s kb e.val) = bl + rn + 4 * pn + 9) := Lib.hid (by
  have h1 : (stepB R s kb e.val).body = s.body ++ rowK (alikeB R s kb) kb e.val := rfl
  have h2 : (stepB R s kb e.val).places = placesB R s := rfl
  unfold sizeS
  rw [h1, h2, List.length_append, ← HAL.out, ← HRW.out, HRN.out, ← HPN.out, ← hbl])
 have HX8 : Hid (OW w (bytO 5 (A4, c4, W) :: bytO 5 (A2, c2, V) :: bytO 5 (A5, c5, RW) :: bytO 5 (some ⟨gk, 0, none⟩, ck, kb) :: boxO gb [.slice A n c, .int .i64 e.fam, .slice B m d, .int .i64 e.ts, .int .i64 e.seq, .int .i64 e.kind, .slice D v q] :: boxO g (bldC R (.slice mm.B bl mm.bc) (.slice P pl pc) mm.A mm.e.row.length mm.ac mm.Q mm.e.qual.length mm.qc mm.e (.slice mm.K s.key.length mm.kc) N) :: bytO 5 (mm.B, mm.bc, s.body) :: rowO 3 1 (.slice P pl pc) pl (s.places.map i64v) :: bytO 5 (mm.A, mm.ac, mm.e.row) :: bytO 5 (mm.Q, mm.qc, mm.e.qual) :: bytO 5 (mm.K, mm.kc, s.key) :: rest) w7) := Lib.hid (by
  have h := HX.out
  have e1 : rowO 5 1 (.slice A5 rn c5) rn (u8s U ++ u8s V ++ u8s W) = bytO 5 (A5, c5, RW) := by
   unfold bytO rowO
   rw [HRN.out, hRW]
   simp [u8s]
  rw [e1] at h
  simp only [bldO] at h
  rw [← HPE.out, hbl, HN.out, HPL.out]
  exact h)
 clear HX hbl hRW hrn
 by_cases hbig : 131072 < bl + rn + 4 * pn + 9
 case pos =>
  have HP : Hid (addC R L e = 53 ∧ addL R L e = L) := Lib.hid (by
   have h : addC R L e = 53 := by unfold addC; rw [if_neg (fun h => h HC.out), if_neg HLO.out, if_pos (by rw [← HS0.out, ← HKB.out, HSS.out]; exact hbig)]
   exact ⟨h, by unfold addL; rw [h, if_neg (by decide)]⟩)
  have h1 : (131072 : Int) < (bl : Int) + (rn : Int) + 4 * (pn : Int) + 9 := by omega
  clear hbig
  go_wp2_with (refine wpList_load_cell rfl 34 (.tmp 75) rfl rfl (HX8.out.cell (i := 5) (j := 1) rfl rfl) (fun w => Tryz.isAgg34 w) ?_)
  go_ret
  refine ⟨by rw [HP.out.1]; rfl, bldO R g s mm, by rw [HP.out.2]; exact ⟨HRR.out, by rw [← HS0.out]; exact HSZ.out, by rw [← HS0.out]; exact HKL.out, HALL.out, mm, by rw [← HS0.out], HLA.out⟩, ?_⟩
  have h := HX8.out.sub ((((((List.Sublist.refl _).cons _).cons _).cons _).cons _).cons _)
  simp only [bldO]
  rw [← HPE.out, HBL.out, HN.out, HPL.out] at h
  exact h
 have HBG := Lib.hid hbig
 have h1 : ¬ (131072 : Int) < (bl : Int) + (rn : Int) + 4 * (pn : Int) + 9 := by omega
 clear hbig
 go_upto_if 86 with (refine wpList_load_cell rfl 34 (.tmp 75) rfl rfl (HX8.out.cell (i := 5) (j := 1) rfl rfl) (fun w => Tryz.isAgg34 w) ?_)
 go_cut [10] (fun p wx => p = .int .i64 (pn : Int) ∧ Hid (∃ pv, OW w (bytO 5 (A4, c4, W) :: bytO 5 (A2, c2, V) :: bytO 5 (A5, c5, RW) :: bytO 5 (some ⟨gk, 0, none⟩, ck, kb) :: boxO gb [.slice A n c, .int .i64 e.fam, .slice B m d, .int .i64 e.ts, .int .i64 e.seq, .int .i64 e.kind, .slice D v q] :: boxO g (bldC R (.slice mm.B bl mm.bc) (pv) mm.A mm.e.row.length mm.ac mm.Q mm.e.qual.length mm.qc mm.e (.slice mm.K s.key.length mm.kc) N) :: bytO 5 (mm.B, mm.bc, s.body) :: rowO 3 1 (pv) pn ((placesB R s).map i64v) :: bytO 5 (mm.A, mm.ac, mm.e.row) :: bytO 5 (mm.Q, mm.qc, mm.e.qual) :: bytO 5 (mm.K, mm.kc, s.key) :: rest) wx))
 case first =>
  by_cases hf : N % R = 0
  ·have hb1 : fb = true := by rw [HFB.out]; exact decide_eq_true hf
   have HPB : Hid (placesB R s = s.places ++ [bl]) := Lib.hid (by unfold placesB; rw [← HN.out, if_pos hf, ← HBL.out])
   have HPN1 : Hid (pn = pl + 1) := Lib.hid (by rw [HPN.out, HPB.out, List.length_append, ← HPL.out]; rfl)
   clear HFB
   subst hb1
   go_wp2_with fail
   refine lt_start [11, 14] (by kernel_rfl) ?_
   intro xd hd
   refine ⟨fun z => OW w (bytO 5 (A4, c4, W) :: bytO 5 (A2, c2, V) :: bytO 5 (A5, c5, RW) :: bytO 5 (some ⟨gk, 0, none⟩, ck, kb) :: boxO gb [.slice A n c, .int .i64 e.fam, .slice B m d, .int .i64 e.ts, .int .i64 e.seq, .int .i64 e.kind, .slice D v q] :: boxO g (bldC R (.slice mm.B bl mm.bc) (.slice P pl pc) mm.A mm.e.row.length mm.ac mm.Q mm.e.qual.length mm.qc mm.e (.slice mm.K s.key.length mm.kc) N) :: bytO 5 (mm.B, mm.bc, s.body) :: rowO 3 1 (.slice P pl pc) pl (s.places.map i64v) :: bytO 5 (mm.A, mm.ac, mm.e.row) :: bytO 5 (mm.Q, mm.qc, mm.e.qual) :: bytO 5 (mm.K, mm.kc, s.key) :: rest) z, ?_⟩
   have HS := Lib.hid (HX8.out.later hd)
   refine lp 0 rfl (v := ?_) (fun w => ?_) (fun _ => HS.out) ?_
   rotate_left
   ·first | (go_simp; done) | (go_simp; with_reducible rfl)
   simp only [Act.put, ls1, ls2, ls3]
   refine lp 1 rfl (v := ?_) (fun w => ?_) (fun _ => HS.out) ?_
   rotate_left
   ·first | (go_simp; done) | (go_simp; with_reducible rfl)
   simp only [Act.put, ls1, ls2, ls3]
   refine lp 2 rfl (v := ?_) (fun w => ?_) (fun _ => HS.out) ?_
   rotate_left
   ·first | (go_simp; done) | (go_simp; with_reducible rfl)
   simp only [Act.put, ls1, ls2, ls3]
   refine lp 3 rfl (v := ?_) (fun w => ?_) (fun _ => HS.out) ?_
   rotate_left
   ·first | (go_simp; done) | (go_simp; with_reducible rfl)
   simp only [Act.put, ls1, ls2, ls3]
   refine lq 4 [11, 12, 13, 14] rfl (yi_cell rfl rfl rfl (fun w hS => OW.cell hS (i := 5) (j := 2) rfl rfl) (fun w => Tryz.isAgg141 w)) HS.out ?_
   simp only [Act.put, ls1, ls2, ls3]
   refine lp 5 rfl (v := ?_) (fun w => ?_) (fun _ => HS.out) ?_
   rotate_left
   ·first | (go_simp; done) | (go_simp; with_reducible rfl)
   simp only [Act.put, ls1, ls2, ls3]
   refine lp 6 rfl (v := ?_) (fun w => ?_) (fun _ => HS.out) ?_
   rotate_left
   ·first | (go_simp; done) | (go_simp; with_reducible rfl)
   simp only [Act.put, ls1, ls2, ls3]
   refine lp 7 rfl (v := ?_) (fun w => ?_) (fun _ => HS.out) ?_
   rotate_left
   ·first | (go_simp; done) | (go_simp; with_reducible rfl)
   simp only [Act.put, ls1, ls2, ls3]
   refine lq 8 [9, 10, 11, 12, 13, 14] rfl (yi_cell rfl rfl rfl (fun w hS => OW.cell hS (i := 5) (j := 1) rfl rfl) (fun w => Tryz.isAgg34 w)) HS.out ?_
   simp only [Act.put, ls1, ls2, ls3]
   refine lp 9 rfl (v := ?_) (fun w => ?_) (fun _ => HS.out) ?_
   rotate_left
   ·first | (go_simp; done) | (go_simp; with_reducible rfl)
   simp only [Act.put, ls1, ls2, ls3]
   refine lt_op 10 rfl (by kernel_rfl) rfl ?_
   refine wpo_build rfl #[.int .i64 (bl : Int)] Tryz.intS5 (.int .i64 0) (by kernel_rfl) (by decide) (by decide) (by decide) rfl (by kernel_rfl) HS.out ?_
   intro g4 x4 hz hb
   have HR : Hid (Reads x4 x4.heap.size 1 (some ⟨g4, 0, none⟩) 1 [.int .i64 (bl : Int)]) := Lib.hid (Reads.own (OW.row (OW.right hz) (i := 0) rfl))
   replace HS := Lib.hid (HS.out.later hb)
   clear hz hb
   refine ⟨fun _ => HS.out, ?_⟩
   simp only [Act.put, ls1, ls2, ls3]
   refine lt_end 11 rfl (by kernel_rfl) rfl (by kernel_rfl) ?_
   refine wpo_append (.tmp 91) (.tmp 97) rfl Tryz.intS5 HS.out 7 rfl rfl _ (some ⟨g4, 0, none⟩) 1 1 [.int .i64 (bl : Int)] rfl HR.out (by simp [Value.oneCell']) (by unfold maxLen; omega) (by omega) ?_
   intro A7 c7 x5 hz _
   have HY := Lib.hid hz
   clear hz HR
   simp only [Act.put, ls1, ls2, ls3]
   refine lt_pureF 12 rfl (by kernel_rfl) (by kernel_rfl) (by kernel_rfl) (by kernel_rfl) (by kernel_rfl) (fun _ _ _ h => h) (v := ?_) (yi_run rfl (fun w => ?_)) ?_
   rotate_left
   ·first | (go_simp; done) | (go_simp; with_reducible rfl)
   simp only [Act.put, ls1, ls2, ls3]
   refine lt_pureF 13 rfl (by kernel_rfl) (by kernel_rfl) (by kernel_rfl) (by kernel_rfl) (by kernel_rfl) (fun _ _ _ h => h) (v := ?_) (yi_run rfl (fun w => ?_)) ?_
   rotate_left
   ·first | (go_simp; done) | (go_simp; with_reducible rfl)
   simp only [Act.put, ls1, ls2, ls3]
   refine lt_end 14 rfl (by kernel_rfl) rfl (by kernel_rfl) ?_
   refine wpo_put1 rfl HY.out 5 rfl 2 rfl (by show 2 < 12; decide) _ rfl (by kernel_rfl) rfl ?_
   intro x6 hz _
   replace HY := Lib.hid hz
   clear hz
   simp only [Act.put]
   refine lt_done (by kernel_rfl) ?_
   clear HS
   go_wp2_with fail
   go_meet
   refine ⟨rfl, Lib.hid ⟨.slice A7 (pl + 1) c7, ?_⟩⟩
   rw [HPB.out, HPN1.out, List.map_append]
   exact HY.out
  ·have hb1 : fb = false := by rw [HFB.out]; exact decide_eq_false hf
   have HPB : Hid (placesB R s = s.places) := Lib.hid (by unfold placesB; rw [← HN.out, if_neg hf])
   have HPN1 : Hid (pn = pl) := Lib.hid (by rw [HPN.out, HPB.out, ← HPL.out])
   clear HFB
   subst hb1
   go_wp2_with fail
   go_meet
   refine ⟨rfl, Lib.hid ⟨.slice P pl pc, ?_⟩⟩
   rw [HPB.out, HPN1.out]
   exact HX8.out
 clear HX8
 obtain ⟨rfl, hcut⟩ := hcut
 obtain ⟨pv, hx9⟩ := hcut.out
 have HX := Lib.hid hx9
 clear hx9 hcut
 obtain ⟨w8, rfl⟩ : ∃ z : World, z = wc := ⟨_, rfl⟩
 go_wp2_with (first
  | (refine wpList_load_cell rfl 34 (.tmp 104) rfl rfl (HX.out.cell (i := 5) (j := 1) rfl rfl) (fun w => Tryz.isAgg34 w) ?_)
  | (at_builtin; go_must (refine wl_append rfl (.tmp 105) (.tmp 106) rfl Tryz.u8s' HX.out 6 (v := .slice mm.B bl mm.bc) (n := bl) (cs := u8s s.body) (by show some (bytO _ (mm.B, mm.bc, s.body)) = _; unfold bytO; rw [HBL.out]; rfl) rfl _ _ rn _ (u8s RW) rfl (HX.out.sl (i := 2) rfl HRN.out).rb (u8s_one RW) (by unfold maxLen; omega) (by omega) ?_); intro A8 c8 z9 hz _; replace HX := Lib.hid hz; clear hz)
  | (refine wl_put1 rfl (.tmp 109) (.tmp 107) rfl HX.out 5 rfl 1 rfl (by show 1 < 12; decide) _ rfl (by kernel_rfl) rfl ?_; intro z10 hz _; replace HX := Lib.hid hz; clear hz))
 obtain ⟨BN, hBN⟩ : ∃ z, z = s.body ++ RW := ⟨_, rfl⟩
 have HBN := Lib.hid hBN
 have HX9 : Hid (OW w (bytO 5 (A4, c4, W) :: bytO 5 (A2, c2, V) :: bytO 5 (A5, c5, RW) :: bytO 5 (some ⟨gk, 0, none⟩, ck, kb) :: boxO gb [.slice A n c, .int .i64 e.fam, .slice B m d, .int .i64 e.ts, .int .i64 e.seq, .int .i64 e.kind, .slice D v q] :: boxO g (bldC R (.slice A8 BN.length c8) (pv) mm.A mm.e.row.length mm.ac mm.Q mm.e.qual.length mm.qc mm.e (.slice mm.K s.key.length mm.kc) N) :: bytO 5 (A8, c8, BN) :: rowO 3 1 pv pn ((placesB R s).map i64v) :: bytO 5 (mm.A, mm.ac, mm.e.row) :: bytO 5 (mm.Q, mm.qc, mm.e.qual) :: bytO 5 (mm.K, mm.kc, s.key) :: rest) z10) := Lib.hid (by
  have h := HX.out
  have e1 : rowO 5 1 (.slice A8 (bl + rn) c8) (bl + rn) (u8s s.body ++ u8s RW) = bytO 5 (A8, c8, BN) := by
   unfold bytO rowO
   rw [hBN, List.length_append, HRN.out, ← HBL.out]
   simp [u8s]
  have e2 : bl + rn = BN.length := by rw [hBN, List.length_append, HRN.out, ← HBL.out]
  rw [← e1, ← e2]
  exact h)
 clear HX hBN
 have HQL : Hid (e.qual.length = m) := Lib.hid (HEE.out (_ :: _ :: _ :: _ :: _ :: _ :: _ :: _ :: _ :: _ :: _ :: []) _ HX9.out).qual.len
 have HRL : Hid (e.row.length = n) := Lib.hid (HEE.out (_ :: _ :: _ :: _ :: _ :: _ :: _ :: _ :: _ :: _ :: _ :: []) _ HX9.out).row.len
 have hn1 : n ≤ 256 := by have := HOK.out.row.2; have := HRL.out; omega
 have hm1 : m ≤ 256 := by have := HOK.out.qual.1; have := HQL.out; omega
 refine lt_start [7, 9, 11] (by kernel_rfl) ?_
 intro xd hd
 have HY := Lib.hid (HX9.out.later hd)
 clear HX9 hd
 refine ⟨fun z => Below xd.heap.size xd z, ?_⟩
 have HS := Lib.hid (Below.refl xd.heap.size xd)
 refine lp 0 rfl (v := ?_) (fun w => ?_) (fun _ => HS.out) ?_
 rotate_left
 ·first | (go_simp; done) | (go_simp; with_reducible rfl)
 simp only [Act.put, ls1, ls2, ls3]
 refine lq 1 [2, 5, 6, 7, 8, 9, 10, 11] rfl (yi_cell rfl rfl rfl (fun w hS => OW.cell (HY.out.later hS) (i := 4) (j := 0) rfl rfl) (fun w => Tryz.isAgg34 w)) HS.out ?_
 simp only [Act.put, ls1, ls2, ls3]
 refine lp 3 rfl (v := ?_) (fun w => ?_) (fun _ => HS.out) ?_
 rotate_left
 ·first | (go_simp; done) | (go_simp; with_reducible rfl)
 simp only [Act.put, ls1, ls2, ls3]
 refine lq 4 [5, 6, 7, 8, 9, 10, 11] rfl (yi_cell rfl rfl rfl (fun w hS => OW.cell (HY.out.later hS) (i := 4) (j := 2) rfl rfl) (fun w => Tryz.isAgg34 w)) HS.out ?_
 simp only [Act.put, ls1, ls2, ls3]
 refine lt_call 2 rfl (by kernel_rfl) rfl rfl ⟨_, Tryz.func163, by decide, by kernel_rfl⟩ [.slice A n c] rfl ?_
 refine (sclone_any e.row A n c _ (by omega) (HEE.out (_ :: _ :: _ :: _ :: _ :: _ :: _ :: _ :: _ :: _ :: _ :: []) _ HY.out).row.nil (HEE.out (_ :: _ :: _ :: _ :: _ :: _ :: _ :: _ :: _ :: _ :: _ :: []) _ HY.out).row.rb).mono ?_
 rintro r y1 hp
 obtain ⟨A9, c9, rfl, _, ho, hb⟩ := hp.at_ HRL.out
 replace HS := Lib.hid (HS.out.trans (hb.mono HS.out.size))
 replace HY := Lib.hid (HY.out.addF9 (OW.byt1 hb ho))
 clear hp ho hb
 refine ⟨_, rfl, fun _ => HS.out, ?_⟩
 simp only [Act.put, ls1, ls2, ls3]
 refine lp 6 rfl (v := ?_) (fun w => ?_) (fun _ => HS.out) ?_
 rotate_left
 ·first | (go_simp; done) | (go_simp; with_reducible rfl)
 simp only [Act.put, ls1, ls2, ls3]
 refine lt_call 5 rfl (by kernel_rfl) rfl rfl ⟨_, Tryz.func163, by decide, by kernel_rfl⟩ [.slice B m d] rfl ?_
 refine (sclone_any e.qual B m d _ (by omega) (HEE.out (_ :: _ :: _ :: _ :: _ :: _ :: _ :: _ :: _ :: _ :: _ :: _ :: []) _ HY.out).qual.nil (HEE.out (_ :: _ :: _ :: _ :: _ :: _ :: _ :: _ :: _ :: _ :: _ :: _ :: []) _ HY.out).qual.rb).mono ?_
 rintro r y2 hp
 obtain ⟨A10, c10, rfl, _, ho, hb⟩ := hp.at_ HQL.out
 replace HS := Lib.hid (HS.out.trans (hb.mono HS.out.size))
 replace HY := Lib.hid (HY.out.addF9 (OW.byt1 hb ho))
 clear hp ho hb
 refine ⟨_, rfl, fun _ => HS.out, ?_⟩
 simp only [Act.put, ls1, ls2, ls3]
 refine lt_end 7 rfl (by kernel_rfl) rfl (by kernel_rfl) ?_
 refine wpo_put1 rfl HY.out 6 rfl 0 rfl (by show 0 < 7; decide) _ rfl (by kernel_rfl) rfl ?_
 intro x7 hz _
 replace HY := Lib.hid hz
 clear hz
 simp only [Act.put]
 refine lt_pureF 8 rfl (by kernel_rfl) (by kernel_rfl) (by kernel_rfl) (by kernel_rfl) (by kernel_rfl) (fun _ _ _ h => h) (v := ?_) (yi_run rfl (fun w => ?_)) ?_
 rotate_left
 ·first | (go_simp; done) | (go_simp; with_reducible rfl)
 simp only [Act.put, ls1, ls2, ls3]
 refine lt_end 9 rfl (by kernel_rfl) rfl (by kernel_rfl) ?_
 refine wpo_put1 rfl HY.out 6 rfl 2 rfl (by show 2 < 7; decide) _ rfl (by kernel_rfl) rfl ?_
 intro x8 hz _
 replace HY := Lib.hid hz
 clear hz
 simp only [Act.put]
 refine lt_pureF 10 rfl (by kernel_rfl) (by kernel_rfl) (by kernel_rfl) (by kernel_rfl) (by kernel_rfl) (fun _ _ _ h => h) (v := ?_) (yi_run rfl (fun w => ?_)) ?_
 rotate_left
 ·first | (go_simp; done) | (go_simp; with_reducible rfl)
 simp only [Act.put, ls1, ls2, ls3]
 refine lt_end 11 rfl (by kernel_rfl) rfl (by kernel_rfl) ?_
 refine wpo_put1 rfl HY.out 6 rfl 6 rfl (by show 6 < 7; decide) _ rfl (by kernel_rfl) rfl ?_
 intro x9 hz _
 replace HY := Lib.hid hz
 clear hz
 simp only [Act.put]
 refine lt_done (by kernel_rfl) ?_
 clear HS
 have HY : Hid (OW w (bytO 5 (A10, c10, e.qual) :: bytO 5 (A9, c9, e.row) :: bytO 5 (A4, c4, W) :: bytO 5 (A2, c2, V) :: bytO 5 (A5, c5, RW) :: bytO 5 (some ⟨gk, 0, none⟩, ck, kb) :: boxO gb [.slice A9 n c9, .int .i64 e.fam, .slice A10 m c10, .int .i64 e.ts, .int .i64 e.seq, .int .i64 e.kind, .slice none 0 0] :: boxO g (bldC R (.slice A8 BN.length c8) (pv) mm.A mm.e.row.length mm.ac mm.Q mm.e.qual.length mm.qc mm.e (.slice mm.K s.key.length mm.kc) N) :: bytO 5 (A8, c8, BN) :: rowO 3 1 pv pn ((placesB R s).map i64v) :: bytO 5 (mm.A, mm.ac, mm.e.row) :: bytO 5 (mm.Q, mm.qc, mm.e.qual) :: bytO 5 (mm.K, mm.kc, s.key) :: rest) x9) := Lib.hid HY.out
 have hnn : (0 : Int) ≤ (N : Int) := by omega
 go_wp2_with (first
  | (refine wpList_load_row7 rfl 60 (.tmp 3) rfl rfl (HY.out.range (i := 6) rfl) ent_row5 ?_)
  | (refine wl_putAt rfl (.tmp 124) (.tmp 121) rfl HY.out 7 rfl rfl [.slice A9 n c9, .int .i64 e.fam, .slice A10 m c10, .int .i64 e.ts, .int .i64 e.seq, .int .i64 e.kind, .slice none 0 0] rfl (by show 3 + 7 ≤ 12; decide) (by kernel_rfl) (by simp [Value.oneCell']) ?_; intro z11 hz _; replace HY := Lib.hid hz; clear hz)
  | (refine wl_put1 rfl (.tmp 126) (.tmp 122) rfl HY.out 7 rfl 10 rfl (by show 10 < 12; decide) (.slice (some ⟨gk, 0, none⟩) kn ck) rfl (by kernel_rfl) rfl ?_; intro z12 hz _; replace HY := Lib.hid hz; clear hz)
  | (refine wpList_load_cell rfl 3 (.tmp 129) rfl rfl (show _ = some (Value.int .i64 (N : Int)) from HY.out.cell (i := 7) (j := 11) rfl rfl) (fun w => Tryz.isAgg3 w) ?_)
  | (refine wl_put1 rfl (.tmp 133) (.tmp 131) rfl HY.out 7 rfl 11 rfl (by show 11 < 12; decide) (.int .i64 ((N : Int) + 1)) rfl (by kernel_rfl) rfl ?_; intro z13 hz _; replace HY := Lib.hid hz; clear hz))
 go_ret
 have HP : Hid (addC R L e = 0 ∧ addL R L e = L ++ [e]) := Lib.hid (by
  have h : addC R L e = 0 := by unfold addC; rw [if_neg (fun h => h HC.out), if_neg HLO.out, if_neg (by rw [← HS0.out, ← HKB.out, HSS.out]; exact HBG.out)]
  exact ⟨h, by unfold addL; rw [h, if_pos rfl]⟩)
 have HRB : Hid (runB R (L ++ [e]) = stepB R s kb e.val) := Lib.hid (by rw [runB_snoc, ← HS0.out, ← HKB.out])
 refine ⟨by rw [HP.out.1]; rfl, bldO R g (stepB R s kb e.val) ⟨A8, c8, pv, A9, c9, A10, c10, some ⟨gk, 0, none⟩, ck, { e with val := [] }⟩, ?_, ?_⟩
 ·rw [HP.out.2]
  refine ⟨HRR.out, ?_, ?_, ?_, ⟨A8, c8, pv, A9, c9, A10, c10, some ⟨gk, 0, none⟩, ck, { e with val := [] }⟩, ?_, ?_⟩
  ·rw [HRB.out, HSS.out]; have := HBG.out; omega
  ·rw [HRB.out]; show kb.length ≤ _; have := HKN.out; omega
  ·intro l hl
   rcases List.mem_append.1 hl with h | h
   ·exact HALL.out l h
   ·obtain rfl := List.mem_singleton.1 h; exact HC.out
  ·rw [HRB.out]
  ·intro l hl
   rw [List.getLast?_append] at hl
   injection hl with hl
   subst hl; rfl
 ·have h := HY.out
  have h := (((((h.front (i := 5) rfl).front (i := 1) rfl).front (i := 2) rfl).front (i := 9) rfl).front (i := 9) rfl).front (i := 9) rfl
  have e1 : (stepB R s kb e.val).body = BN := by rw [HBN.out, HRW.out, HAL.out]; rfl
  have e2 : (stepB R s kb e.val).places = placesB R s := rfl
  have e3 : (stepB R s kb e.val).key = kb := rfl
  have e4 : (stepB R s kb e.val).n = N + 1 := by rw [HN.out]; rfl
  simp only [bldO]
  rw [e1, e2, e3, e4, ← HPN.out, HRL.out, HQL.out, HKN.out]
  exact OW.sub h (.cons_cons _ (.cons_cons _ (.cons_cons _ (.cons_cons _ (.cons_cons _ (.cons_cons _ (.cons _ (.cons _ (.cons _ (.cons _ (.cons _ (.cons _ (.cons _ (List.Sublist.refl _))))))))))))))
theorem places_take {l : List Nat} {k v : Nat} (h : l[k]? = some v) : (l.take (k + 1)).flatMap four4 = (l.take k).flatMap four4 ++ four4 v := by
  rw [take_snoc h, List.flatMap_append]; simp
theorem runE_places (R : Nat) : ∀ (l : List Ent) (s : BSt), (∀ p, p ∈ s.places → p ≤ s.body.length) → ∀ p, p ∈ (runE R s l).places → p ≤ (runE R s l).body.length
  | [], _, h => h
  | e :: l, s, h => runE_places R l (stepB R s (keyE e) e.val) (fun p hp => by
    simp only [stepB] at hp ⊢
    rw [List.length_append]
    unfold placesB at hp
    split at hp
    · rcases List.mem_append.1 hp with h1 | h1
      · have := h p h1; omega
      · have := List.mem_singleton.1 h1; omega
    · have := h p hp; omega)
theorem runB_places (R : Nat) (l : List Ent) (p : Nat) (h : p ∈ (runB R l).places) : p ≤ (runB R l).body.length := runE_places R l bst0 (fun p h => (by cases h)) p h
set_option maxRecDepth 100000 in
set_option maxHeartbeats 4000000 in
theorem finish_any {w x : World} {R g : Nat} {L : List Ent} {os rest : List Ob} (hb : Bld R L g os) (h : OW w (os ++ rest) x) (ht : TabAt 0 x) :
    Calls Tryz.prog 110 #[.pointer (some ⟨g, 0, none⟩)] x (BytesPost2 5 (finE R L).1 (finE R L).2 x) := by
  have HSZ1 := Lib.hid (fun z (hz : Below x.heap.size x z) => size_any hb (h.later hz))
  have HTB : Hid (∀ z, Below x.heap.size x z → TabAt 0 z) := Lib.hid fun z hz => ht.later hz
  obtain ⟨hR, hsz, _, _, m, rfl, _⟩ := hb
  have hpl0 := runB_places R L
  obtain ⟨s, hs⟩ : ∃ z, z = runB R L := ⟨_, rfl⟩
  rw [← hs] at h hsz hpl0
  obtain ⟨P, pc, hpv, _⟩ := own_slice (h.row (i := 2) rfl)
  obtain ⟨bl, hbl⟩ : ∃ z, z = s.body.length := ⟨_, rfl⟩
  obtain ⟨pn, hpn⟩ : ∃ z, z = s.places.length := ⟨_, rfl⟩
  obtain ⟨N, hN⟩ : ∃ z, z = s.n := ⟨_, rfl⟩
  have hNL : N = L.length := by rw [hN, hs, runB_n]
  have hNb : N ≤ 131072 := by have h1 := n_le_size _ (runB_many R L); rw [← hs] at h1; omega
  have hlim : bl + 4 * pn + 9 ≤ 131072 := by unfold sizeS at hsz; omega
  have HS0 := Lib.hid hs
  have HBL := Lib.hid hbl.symm
  have HPN := Lib.hid hpn.symm
  have HN := Lib.hid hN.symm
  have HNL := Lib.hid hNL
  have HPL := Lib.hid hpl0
  obtain ⟨szn, hszn⟩ : ∃ z, z = szB R L := ⟨_, rfl⟩
  have HSN := Lib.hid hszn.symm
  have HC : Hid (∀ z, Below x.heap.size x z → z.cell? ⟨g, 0, none⟩ = some (.int .i64 (R : Int)) ∧ z.cell? ⟨g, 1, none⟩ = some (.slice m.B bl m.bc) ∧ z.cell? ⟨g, 2, none⟩ = some (.slice P pn pc) ∧ z.cell? ⟨g, 5 + 6, none⟩ = some (.int .i64 (N : Int)) ∧ Sl z m.B bl m.bc s.body ∧ Reads z z.heap.size 1 P pn (s.places.map i64v)) := Lib.hid fun z hz => by
    have h' := h.later hz
    rw [hbl, hN]
    refine ⟨h'.cell (i := 0) (j := 0) rfl rfl, h'.cell (i := 0) (j := 1) rfl rfl, ?_, h'.cell (i := 0) (j := 11) rfl rfl, h'.sl (i := 1) rfl rfl, ?_⟩
    · have := h'.cell (i := 0) (j := 2) rfl rfl
      rw [this, hpv, hpn]
    · have := h'.row (i := 2) rfl
      rw [hpv, ← hpn] at this
      exact Reads.own this
  have HRR := Lib.hid hR
  have hR1 := hR.1
  have hR2 := hR.2
  clear h hs hbl hpn hN hpv hNL hpl0 hszn hsz hR ht
  by_cases h0 : N = 0
  case pos =>
    have HF : Hid (finE R L = ([], 54)) := Lib.hid (by unfold finE; rw [if_pos (List.eq_nil_of_length_eq_zero (by rw [← HNL.out, h0]))])
    subst h0
    obtain ⟨_, _, _, c3, _⟩ := HC.out x (Below.refl _ _)
    go_enter Tryz.func110, Tryz.ntmps110
    go_wp2_with (refine wpList_load_cell rfl 3 (.tmp 10) rfl rfl c3 (fun w => Tryz.isAgg3 w) ?_)
    go_ret2
    rw [HF.out]
    exact bytes_post2 (n := 0) (own_nil _ _ _ _) (Below.refl _ _)
  have hd : ((N : Int) == 0) = false := beq_eq_false_iff_ne.2 (by omega)
  have HFL : Hid (finE R L = (headB5 R s ++ lowB (sumL (headB5 R s)), 0)) := Lib.hid (by
    have h1 : L ≠ [] := fun e => h0 (by rw [HNL.out, e]; rfl)
    unfold finE layB
    rw [if_neg h1, if_neg h1, ← HS0.out]; rfl)
  have hsz2 : szn ≤ 131072 := by
    have h1 : L ≠ [] := fun e => h0 (by rw [HNL.out, e]; rfl)
    have := HSN.out
    unfold szB at this
    rw [if_neg h1, ← HS0.out] at this
    unfold sizeS at this
    have := HBL.out
    have := HPN.out
    omega
  obtain ⟨_, _, _, c3, _⟩ := HC.out x (Below.refl _ _)
  have HX := Lib.hid (OW.nil x)
  go_enter Tryz.func110, Tryz.ntmps110
  go_wp2_with (first
    | (refine wpList_load_cell rfl 3 (.tmp 10) rfl rfl c3 (fun w => Tryz.isAgg3 w) ?_)
    | (go_at_call 108; go_must (refine (HSZ1.out _ HX.out.up).mono ?_); rw [HSN.out]; rintro r z1 ⟨rfl, hb⟩; replace HX := Lib.hid (HX.out.later hb); clear hb c3)
    | (at_make; go_must (refine wl_make0 rfl _ _ rfl Tryz.u8s' szn _ rfl rfl rfl (by omega) (by unfold maxLen; omega) HX.out ?_); intro g1 z2 hz _; have HX2 : Hid (OW x [bytO 5 (some ⟨g1, 0, none⟩, szn, [])] z2) := Lib.hid hz; obtain ⟨_, d1, d2, _, s1, _⟩ := HC.out z2 HX2.out.up; have S1 := Lib.hid s1; clear hz HX s1)
    | (refine wpList_load_cell rfl 34 (.tmp 19) rfl rfl d1 (fun w => Tryz.isAgg34 w) ?_)
    | (at_builtin; go_must (refine wl_appB rfl (.tmp 16) (.tmp 20) rfl Tryz.u8s' HX2.out 0 rfl rfl rfl _ _ bl _ s.body rfl S1.out.rb (by simp; omega) ?_); intro A3 c4 z3 hz; have HX3 : Hid (OW x [bytO 5 (A3, c4, s.body)] z3) := Lib.hid hz; obtain ⟨_, _, d3, _⟩ := HC.out z3 HX3.out.up; clear hz d1 d2 S1)
    | (refine wpList_load_cell rfl 141 (.tmp 24) rfl rfl d3 (fun w => Tryz.isAgg141 w) ?_))
  go_loopw [4, 27] (fun v i wr => ∃ (k : Nat) (A : Option Addr) (c n : Nat) (l : List UInt8), k ≤ pn ∧ n ≤ 131072 + 4 * k ∧ i = .int .i64 k ∧ v = .slice A n c ∧ Hid (l.length = n) ∧ Hid (l = s.body ++ (s.places.take k).flatMap four4) ∧ Hid (OW x [bytO 5 (A, c, l)] wr)) (fun _ i _ => pn - (intOf i).toNat)
  case atStart => exact ⟨0, A3, c4, bl, s.body, Nat.zero_le _, by omega, rfl, rfl, HBL, Lib.hid (by simp), HX3⟩
  case round =>
    clear HX3 d3
    obtain ⟨k, A5, c5, n5, l5, hk, hn5, rfl, rfl, HL5, HP5, HX5⟩ := hrel
    by_cases hlt : k < pn
    case pos =>
      have hdk : decide ((k : Int) < (pn : Int)) = true := decide_eq_true (by omega)
      obtain ⟨_, _, _, _, _, hr⟩ := HC.out wr HX5.out.up
      obtain ⟨b, o, rfl, _, hcc⟩ := hr.2 (by omega)
      have hpk : s.places[k]? = some (s.places[k]'(by rw [HPN.out]; exact hlt)) := List.getElem?_eq_getElem _
      obtain ⟨pv, hpv⟩ : ∃ z, z = s.places[k]'(by rw [HPN.out]; exact hlt) := ⟨_, rfl⟩
      rw [← hpv] at hpk
      have hc1 : wr.cell? ⟨b, o + k, none⟩ = some (.int .i64 (pv : Int)) := hcc k _ (by rw [List.getElem?_map, hpk]; rfl)
      have hpb : pv ≤ 131072 := by have := HPL.out pv (List.mem_of_getElem? hpk); have := HBL.out; omega
      have HPT := Lib.hid (places_take hpk)
      have i1 : (0 : Int) ≤ (k : Int) := by omega
      have i2 : (k : Int) < (pn : Int) := by omega
      clear hr hcc hpk hpv
      go_wp2_with (first
        | (go_at_call 164; go_must (refine (four_any pv _ (by omega)).mono ?_); rintro r z4 hp; obtain ⟨A6, c6, rfl, hs6, _, hb⟩ := hp.at_ (n := 4) rfl; have HS6 := Lib.hid hs6; replace HX5 := Lib.hid (HX5.out.later hb); clear hp hb hs6 hc1)
        | (at_builtin; go_must (refine wl_appB rfl (.tmp 31) (.tmp 34) rfl Tryz.u8s' HX5.out 0 rfl HL5.out rfl _ _ 4 _ (four4 pv) rfl HS6.out.rb (by omega) ?_); intro A7 c7 z5 hz; have HX7 : Hid (OW x [bytO 5 (A7, c7, l5 ++ four4 pv)] z5) := Lib.hid hz; clear hz HX5 HS6))
      go_roundw
      case rel => exact ⟨k + 1, A7, c7, n5 + 4, l5 ++ four4 pv, by omega, by omega, by go_num, rfl, Lib.hid (by rw [List.length_append, HL5.out]; rfl), Lib.hid (by rw [HPT.out, HP5.out, List.append_assoc]), HX7⟩
      case measure => simp [intOf]; omega
    have hdk : decide ((k : Int) < (pn : Int)) = false := decide_eq_false (by omega)
    have HP6 : Hid (l5 = s.body ++ s.places.flatMap four4) := Lib.hid (by rw [HP5.out, take_all (by have := HPN.out; omega)])
    obtain ⟨hd, hhd⟩ : ∃ z, z = headB5 R s := ⟨_, rfl⟩
    obtain ⟨_, _, _, c3, _⟩ := HC.out wr HX5.out.up
    have HHD := Lib.hid hhd
    have HL7 : Hid ((l5 ++ four4 N).length = n5 + 4) := Lib.hid (by rw [List.length_append, HL5.out]; rfl)
    have HL8 : Hid ((l5 ++ four4 N ++ [UInt8.ofNat R]).length = n5 + 4 + 1) := Lib.hid (by rw [List.length_append, HL7.out]; rfl)
    have HE8 : Hid (l5 ++ four4 N ++ [UInt8.ofNat R] = hd) := Lib.hid (by rw [hhd, HP6.out, ← HN.out]; rfl)
    have HU8 : Hid ([Value.int .u8 (R : Int)] = u8s [UInt8.ofNat R]) := Lib.hid (by
      show _ = [u8v _]
      unfold u8v
      rw [UInt8.toNat_ofNat', Nat.mod_eq_of_lt (by omega)])
    have HLD : Hid (hd.length = n5 + 4 + 1) := Lib.hid (by rw [← HE8.out]; exact HL8.out)
    have f1 : Hid (∀ x : List UInt8, [x].flatten = x) := Lib.hid fun x => by simp
    obtain ⟨sm, hsm⟩ : ∃ z, z = sumL hd := ⟨_, rfl⟩
    have hs32 : sm < 4294967296 := by rw [hsm]; exact sumL_lt hd
    have HSM := Lib.hid hsm
    obtain ⟨q3, q2, q1, q0, hf4, hlw⟩ : ∃ a b d e, four4 sm = [a, b, d, e] ∧ lowB sm = [e, d, b, a] := ⟨_, _, _, _, rfl, rfl⟩
    have HF4 := Lib.hid hf4
    have HLW := Lib.hid hlw
    clear HP5 hhd hsm hf4 hlw
    have tk1 : True := trivial
    have tk2 : True := trivial
    have tk3 : True := trivial
    go_wp2_with (first
      | (refine wpList_load_cell rfl 3 (.tmp 40) rfl rfl c3 (fun w => Tryz.isAgg3 w) ?_)
      | (go_at_call 164; have _t := tk1; go_must (refine (four_any N _ (by omega)).mono ?_); rintro r z4 hp; obtain ⟨A6, c6, rfl, hs6, _, hb⟩ := hp.at_ (n := 4) rfl; have HS6 := Lib.hid hs6; replace HX5 := Lib.hid (HX5.out.later hb); clear hp hb hs6 c3 tk1)
      | (at_builtin; have _t := tk2; go_must (refine wl_appB rfl (.tmp 37) (.tmp 43) rfl Tryz.u8s' HX5.out 0 rfl HL5.out rfl _ _ 4 _ (four4 N) rfl HS6.out.rb (by omega) ?_); intro A7 c7 z5 hz; have HX7 : Hid (OW x [bytO 5 (A7, c7, l5 ++ four4 N)] z5) := Lib.hid hz; obtain ⟨d0, _⟩ := HC.out z5 HX7.out.up; clear hz HX5 HS6 tk2)
      | (refine wpList_load_cell rfl 3 (.tmp 48) rfl rfl d0 (fun w => Tryz.isAgg3 w) ?_)
      | (at_builtin; have _t := tk3; go_must (refine wl_appB rfl (.tmp 45) (.tmp 51) rfl Tryz.u8s' (HX7.out.al (.cells #[.int .u8 (R : Int)] 5)) 0 rfl HL7.out rfl _ (some ⟨z5.heap.size, 0, none⟩) 1 1 [UInt8.ofNat R] rfl (by exact reads_lit z5 _ [UInt8.ofNat R] _ _ HU8.out) (by omega) ?_); intro A8 c8 z6 hz; rw [HE8.out] at hz; have HX8 : Hid (OW x [bytO 5 (A8, c8, hd)] z6) := Lib.hid hz; have HS8 := Lib.hid (HX8.out.sl (i := 0) rfl HLD.out); clear hz HX7 d0 tk3)
      | (go_at_call 135; go_must (refine (sum_any [hd] _ 1 1 _ (by omega) (by exact HS8.out.one _ _) (HTB.out _ ((HX8.out.al (.cells #[.slice A8 (n5 + 4 + 1) c8] 34)).up))).mono ?_); rintro r w1 ⟨rfl, rfl⟩; rw [f1.out, ← HSM.out]; have HX9 := Lib.hid (HX8.out.al (.cells #[.slice A8 (n5 + 4 + 1) c8] 34)))
      | (go_at_call 164; go_must (refine (four_any sm _ hs32).mono ?_); rintro r z7 hp; rw [HF4.out] at hp; obtain ⟨A9, c9, rfl, _, ho, hb⟩ := hp.at_ (n := 4) rfl; obtain ⟨g9, cp9, hv, _, _, _⟩ := own_form ho (by show 0 < 4; omega); injection hv with hv _ hcp; subst hv; subst hcp; have HY := Lib.hid (OW.byt1 hb ho); clear hp hb ho)
      | (go_at_call 165; go_must (refine (reverse4_any _ _ _ _ g9 _ _ _ HY.out).mono ?_); rintro r z8 ⟨rfl, hx⟩; have HZ := Lib.hid (HX9.out.app hx); clear hx)
      | (at_builtin; go_must (refine wl_appB rfl (.tmp 59) (.tmp 60) rfl Tryz.u8s' HZ.out 0 rfl HLD.out rfl _ _ 4 _ [q0, q1, q2, q3] rfl (HZ.out.sl (i := 1) rfl rfl).rb (by omega) ?_); intro A10 c10 z9 hz; have HQ := Lib.hid (hz.left (ps := [_]) (os := [_])); clear hz))
    go_ret2
    rw [HFL.out]
    exact OW.bytes2 HQ.out (by rw [← HHD.out, ← HSM.out, HLW.out]) (n := n5 + 4 + 1 + 4) (by rw [List.length_append, HLD.out]; rfl) rfl rfl
structure ER where
  A : Option Addr
  c : Nat
  B : Option Addr
  d : Nat
  D : Option Addr
  q : Nat
  e : Ent
def ER.cells (r : ER) : List Value := [.slice r.A r.e.row.length r.c, .int .i64 r.e.fam, .slice r.B r.e.qual.length r.d, .int .i64 r.e.ts, .int .i64 r.e.seq, .int .i64 r.e.kind, .slice r.D r.e.val.length r.q]
def ER.v (r : ER) : Value := entV r.A r.e.row.length r.c r.B r.e.qual.length r.d r.D r.e.val.length r.q r.e
def ER.En (w : World) (r : ER) : Prop := YtfdbcfaeiglbeaaGreatDoor.En w r.A r.e.row.length r.c r.B r.e.qual.length r.d r.D r.e.val.length r.q r.e
theorem ER.len (r : ER) : r.cells.length = 7 := rfl
theorem ER.En.later {w x : World} {r : ER} (h : r.En w) (hb : Below w.heap.size w x) : r.En x := YtfdbcfaeiglbeaaGreatDoor.En.later h hb
theorem flat7_len (rs : List ER) : (rs.flatMap ER.cells).length = rs.length * 7 := by
  induction rs with
  | nil => rfl
  | cons r rs ih => rw [List.flatMap_cons, List.length_append, ih, ER.len, List.length_cons]; omega
theorem flat7_at : ∀ {rs : List ER} {k : Nat} {r : ER}, rs[k]? = some r → ∀ j, j < 7 → (rs.flatMap ER.cells)[k * 7 + j]? = r.cells[j]?
  | [], _, _, h, _, _ => by cases h
  | a :: rs, 0, r, h, j, hj => by
    injection h with h; subst h
    rw [List.flatMap_cons, Nat.zero_mul, Nat.zero_add, List.getElem?_append_left (by rw [ER.len]; exact hj)]
  | a :: rs, k + 1, r, h, j, hj => by
    rw [List.flatMap_cons, List.getElem?_append_right (by rw [ER.len]; omega), ER.len, show (k + 1) * 7 + j - 7 = k * 7 + j from by omega]
    exact flat7_at (rs := rs) h j hj
def Ens (w : World) (A : Option Addr) (n : Nat) (es : List Ent) : Prop := ∃ rs : List ER, rs.map ER.e = es ∧ Reads w w.heap.size 7 A n (rs.flatMap ER.cells) ∧ ∀ r, r ∈ rs → r.En w
section
variable {w x : World} {A : Option Addr} {n : Nat} {es : List Ent}
theorem Ens.len (h : Ens w A n es) : es.length = n := by
  obtain ⟨rs, rfl, hr, _⟩ := h
  have := hr.1
  rw [flat7_len] at this
  rw [List.length_map]; omega
theorem Ens.later (h : Ens w A n es) (hb : Below w.heap.size w x) : Ens x A n es := by
  obtain ⟨rs, e, hr, hE⟩ := h
  exact ⟨rs, e, (hr.below hb).more hb.size, fun r hr => (hE r hr).later hb⟩
theorem Ens.nil : Ens w A 0 [] := ⟨[], rfl, Reads.nil, fun r h => by cases h⟩
theorem Ens.at_ (h : Ens w A n es) {k : Nat} (hk : k < n) : ∃ (b o : Nat) (Ar : Option Addr) (c : Nat) (B : Option Addr) (d : Nat) (D : Option Addr) (q : Nat) (e : Ent), A = some ⟨b, o, none⟩ ∧ b < w.heap.size ∧ es[k]? = some e ∧
    w.rangeAt b (o + k * 7) [.slice Ar e.row.length c, .int .i64 e.fam, .slice B e.qual.length d, .int .i64 e.ts, .int .i64 e.seq, .int .i64 e.kind, .slice D e.val.length q] ∧ En w Ar e.row.length c B e.qual.length d D e.val.length q e := by
  have hl := h.len
  obtain ⟨rs, rfl, hr, hE⟩ := h
  rw [List.length_map] at hl
  obtain ⟨b, o, hA, hb, hc⟩ := hr.2 (by omega)
  obtain ⟨r, hrk⟩ : ∃ r, rs[k]? = some r := ⟨_, List.getElem?_eq_getElem (by omega)⟩
  refine ⟨b, o, r.A, r.c, r.B, r.d, r.D, r.q, r.e, hA, hb, by rw [List.getElem?_map, hrk]; rfl, fun j v hj => ?_, hE r (List.mem_of_getElem? hrk)⟩
  have hj7 : j < 7 := (List.getElem?_eq_some_iff.1 hj).1
  have := hc (k * 7 + j) v (by rw [flat7_at hrk j hj7]; exact hj)
  rwa [← Nat.add_assoc] at this
theorem flat7_take (rs : List ER) (m : Nat) : (rs.flatMap ER.cells).take (m * 7) = (rs.take m).flatMap ER.cells := by
  induction rs generalizing m with
  | nil => simp
  | cons r rs ih =>
    cases m with
    | zero => simp
    | succ m =>
      rw [List.flatMap_cons, List.take_succ_cons, List.flatMap_cons, List.take_append, ER.len, List.take_of_length_le (by rw [ER.len]; omega), show (m + 1) * 7 - 7 = m * 7 from by omega, ih]
theorem Ens.take (h : Ens w A n es) {m : Nat} (hm : m ≤ n) : Ens w A m (es.take m) := by
  obtain ⟨rs, rfl, hr, hE⟩ := h
  refine ⟨rs.take m, by rw [List.map_take], ?_, fun r hr' => hE r (List.mem_of_mem_take hr')⟩
  rw [← flat7_take]
  exact hr.take hm
end
theorem OW.ens {w x : World} {os : List Ob} {A : Option Addr} {n c i : Nat} {T : TypeId} {rs : List ER} (h : OW w os x) (hi : os[i]? = some (rowO T 7 (.slice A n c) n (rs.flatMap ER.cells))) (hE : ∀ r, r ∈ rs → r.En x) : Ens x A n (rs.map ER.e) :=
  ⟨rs, rfl, Reads.own (h.row hi), hE⟩
theorem begin_no (R : Int) (w : World) (h : R < 1 ∨ 16 < R) : Calls Tryz.prog 107 #[.int .i64 R] w fun e w' => e = .returned (.tuple #[.pointer none, .int .i64 1]) ∧ Below w.heap.size w w' :=
  (begin_any R w).mono fun e w' hp => by
    rcases hp with ⟨_, h1, h2⟩ | ⟨h1, h2, _⟩
    · exact ⟨h1, h2⟩
    · omega
theorem begin_ok (R : Nat) (w : World) (h1 : 1 ≤ R) (h2 : R ≤ 16) : Calls Tryz.prog 107 #[.int .i64 (R : Int)] w fun e w' => ∃ g os, e = .returned (.tuple #[.pointer (some ⟨g, 0, none⟩), .int .i64 0]) ∧ Bld R [] g os ∧ OW w os w' :=
  (begin_any R w).mono fun e w' hp => by
    rcases hp with ⟨h, _⟩ | ⟨_, _, g, os, h3, h4, h5⟩
    · omega
    · rw [Int.toNat_natCast] at h4; exact ⟨g, os, h3, h4, h5⟩
theorem addC_step {R : Nat} {es : List Ent} {k : Nat} {e : Ent} (hk : es[k]? = some e) (h0 : (buildK R [] (es.take k)).1 = 0) : (addC R (es.take k) e = 0 → addL R (es.take k) e = es.take (k + 1) ∧ (buildK R [] (es.take (k + 1))).1 = 0) ∧ (addC R (es.take k) e ≠ 0 → (buildK R [] es).1 = addC R (es.take k) e) := by
  have ht : es.take (k + 1) = es.take k ++ [e] := take_snoc hk
  have hb := buildK_app R (es.take k) [] [e]
  rw [if_pos h0, List.nil_append] at hb
  refine ⟨fun h => ⟨by unfold addL; rw [if_pos h, ht], ?_⟩, fun h => ?_⟩
  · rw [ht, hb]; unfold buildK; rw [if_pos h]; rfl
  · have h2 := buildK_app R (es.take k ++ [e]) [] (es.drop (k + 1))
    have e1 : es.take k ++ [e] ++ es.drop (k + 1) = es := by rw [← ht, List.take_append_drop]
    rw [e1, hb] at h2
    have h3 : buildK R (es.take k) [e] = (addC R (es.take k) e, es.take k) := by unfold buildK; rw [if_neg h]
    rw [h3] at h2
    rw [h2, if_neg h]
set_option maxRecDepth 100000 in
set_option maxHeartbeats 4000000 in
theorem build_any (R : Int) (es : List Ent) (A : Option Addr) (n c : Nat) (w : World) (hes : Ens w A n es) (hn : n ≤ 9223372036854775806) (ht : TabAt 0 w) :
    Calls Tryz.prog 194 #[.int .i64 R, .slice A n c] w (BytesPost2 5 (buildE5 R es).1 (buildE5 R es).2 w) := by
  have HTB : Hid (∀ z, Below w.heap.size w z → TabAt 0 z) := Lib.hid fun z hz => ht.later hz
  have HLE := Lib.hid hes.len
  have HES : Hid (∀ z, Below w.heap.size w z → Ens z A n es) := Lib.hid fun z hz => hes.later hz
  clear hes ht
  by_cases hR : R < 1 ∨ 16 < R
  case pos =>
    have HP : Hid (buildE5 R es = ([], 1)) := Lib.hid (by unfold buildE5; rw [if_pos hR])
    have HRR := Lib.hid hR
    clear hR
    go_enter Tryz.func194, Tryz.ntmps194
    go_wp2_with (go_at_call 107; go_must (refine (begin_no R _ HRR.out).mono ?_); rintro r z1 ⟨rfl, hb⟩; have HB := Lib.hid hb; clear hb)
    go_loopw [7, 8] (fun e i wr => e = .int .i64 1 ∧ i = .int .i64 0 ∧ Hid (Below w.heap.size w wr)) (fun _ _ _ => 0)
    case atStart => exact ⟨rfl, rfl, HB⟩
    case round =>
      obtain ⟨rfl, rfl, HB2⟩ := hrel
      clear HB
      by_cases h0 : 0 < n
      · have hd : decide ((0 : Int) < (n : Int)) = true := decide_eq_true (by omega)
        go_wp2_with fail
        go_ret2
        rw [HP.out]
        exact bytes_post2 (n := 0) (own_nil _ _ _ _) HB2.out
      · have hd : decide ((0 : Int) < (n : Int)) = false := decide_eq_false (by omega)
        go_wp2_with fail
        go_ret2
        rw [HP.out]
        exact bytes_post2 (n := 0) (own_nil _ _ _ _) HB2.out
  obtain ⟨r, rfl⟩ : ∃ r : Nat, R = (r : Int) := ⟨R.toNat, by omega⟩
  have hr1 : 1 ≤ r := by omega
  have hr2 : r ≤ 16 := by omega
  have HPO : Hid ((buildK r [] es).1 = 0 → buildE5 r es = finE r es) := Lib.hid fun h => by unfold buildE5; rw [if_neg hR, Int.toNat_natCast, if_pos h]
  have HPN : Hid (∀ er, (buildK r [] es).1 = er → er ≠ 0 → buildE5 r es = ([], er)) := Lib.hid fun er h h0 => by unfold buildE5; rw [if_neg hR, Int.toNat_natCast, h, if_neg h0]
  clear hR
  go_enter Tryz.func194, Tryz.ntmps194
  go_wp2_with (go_at_call 107; go_must (refine (begin_ok r _ hr1 hr2).mono ?_); rintro e z1 ⟨g, os, rfl, hB, hX⟩; have HB := Lib.hid hB; have HX := Lib.hid hX; clear hB hX)
  go_loopw [7, 8] (fun e i wr => ∃ (k : Nat) (er : Int), k ≤ n ∧ i = .int .i64 k ∧ e = .int .i64 er ∧ Hid (Below w.heap.size w wr) ∧ Hid (er = 0 → (buildK r [] (es.take k)).1 = 0 ∧ ∃ os, Bld r (es.take k) g os ∧ OW w os wr) ∧ Hid (er ≠ 0 → (buildK r [] es).1 = er)) (fun _ i _ => n - (intOf i).toNat)
  case atStart => exact ⟨0, 0, Nat.zero_le _, rfl, rfl, Lib.hid HX.out.up, Lib.hid fun _ => ⟨rfl, os, HB.out, HX.out⟩, Lib.hid fun h => absurd rfl h⟩
  case round =>
    obtain ⟨k, er, hk, rfl, rfl, HW, HO, HN⟩ := hrel
    clear HB HX
    by_cases he : er = 0
    case neg =>
      have hde : (er == 0) = false := beq_eq_false_iff_ne.2 he
      have hde2 : (er != 0) = true := bne_iff_ne.2 he
      have HQ := Lib.hid (HPN.out er (HN.out he) he)
      clear HO HN he
      by_cases hlt : k < n
      · have hd : decide ((k : Int) < (n : Int)) = true := decide_eq_true (by omega)
        go_wp2_with fail
        go_ret2
        rw [HQ.out]
        exact bytes_post2 (n := 0) (own_nil _ _ _ _) HW.out
      · have hd : decide ((k : Int) < (n : Int)) = false := decide_eq_false (by omega)
        go_wp2_with fail
        go_ret2
        rw [HQ.out]
        exact bytes_post2 (n := 0) (own_nil _ _ _ _) HW.out
    subst he
    obtain ⟨h1, os, h2, h3⟩ := HO.out rfl
    have HB := Lib.hid h2
    have HX := Lib.hid h3
    have HK := Lib.hid h1
    clear HO HN h1 h2 h3
    by_cases hlt : k < n
    case neg =>
      have hd : decide ((k : Int) < (n : Int)) = false := decide_eq_false (by omega)
      have HT : Hid (es.take k = es) := Lib.hid (take_all (by have := HLE.out; omega))
      have HQ : Hid (buildE5 r es = finE r (es.take k)) := Lib.hid (by rw [HT.out]; exact HPO.out (by have := HK.out; rwa [HT.out] at this))
      go_wp2_with (go_at_call 110; go_must (refine (finish_any (rest := []) HB.out (by rw [List.append_nil]; exact HX.out) (HTB.out _ HX.out.up)).mono ?_); rintro e z2 hp; obtain ⟨A2, c2, rfl, ho, hb⟩ := hp; have HO2 := Lib.hid ho; have HB2 := Lib.hid (HX.out.up.trans (hb.mono HX.out.up.size)); have HX2 := Lib.hid HX.out.up.size; clear ho hb)
      go_ret2
      rw [HQ.out]
      exact ⟨A2, c2, rfl, own_rebase HO2.out HX2.out, HB2.out⟩
    have hd : decide ((k : Int) < (n : Int)) = true := decide_eq_true (by omega)
    obtain ⟨b, o, Ar, ec, B, d, D, q, e, rfl, hbl, hek, hrg, hen⟩ := (HES.out w (Below.refl _ _)).at_ hlt
    have HST := Lib.hid (addC_step hek HK.out)
    have HRG : Hid (wr.rangeAt b (o + k * 7) [.slice Ar e.row.length ec, .int .i64 e.fam, .slice B e.qual.length d, .int .i64 e.ts, .int .i64 e.seq, .int .i64 e.kind, .slice D e.val.length q]) := Lib.hid fun j v hj => (HW.out.cell (p := ⟨b, _, none⟩) hbl).trans (hrg j v hj)
    have HEN : Hid (∀ us z, OW w (us ++ []) z → En z Ar e.row.length ec B e.qual.length d D e.val.length q e) := Lib.hid fun us z hz => hen.later hz.up
    clear hek hrg hen
    have i1 : (0 : Int) ≤ (k : Int) := by omega
    have i2 : (k : Int) < (n : Int) := by omega
    go_wp2_with (first
      | (refine wpList_load_at rfl 60 (.tmp 27) rfl rfl HRG.out ent_row5 ?_)
      | (go_at_call 109; go_must (refine (add_any (rest := []) HB.out (by rw [List.append_nil]; exact HX.out) e Ar _ ec B _ d D _ q HEN.out).mono ?_); rintro e2 z2 ⟨rfl, os2, hb2, hx2⟩; have HB2 := Lib.hid hb2; have HX2 := Lib.hid hx2; clear hb2 hx2))
    go_roundw
    case rel =>
      refine ⟨k + 1, _, by omega, rfl, by go_num, Lib.hid HX2.out.up, Lib.hid fun h => ?_, Lib.hid fun h => HST.out.2 h⟩
      obtain ⟨e3, e4⟩ := HST.out.1 h
      have h5 := HB2.out
      have h6 := HX2.out
      rw [e3] at h5
      rw [List.append_nil] at h6
      exact ⟨e4, os2, h5, h6⟩
    case measure => simp [intOf]; omega
abbrev ZR := ER × (Option Addr × Nat × List UInt8)
def rowsZ (z : ZR) : RowL := [(z.1.A, z.1.c, z.1.e.row), (z.1.B, z.1.d, z.1.e.qual), (z.1.D, z.1.q, z.1.e.val), z.2]
def blkO (R g : Nat) (lv kv : Value) (zs : List ZR) : List Ob :=
  boxO g [i64v R, lv, kv] :: rowO 60 7 lv zs.length (zs.flatMap (·.1.cells)) :: rowO 34 1 kv zs.length (zs.map (valR ·.2)) :: (zs.reverse.flatMap rowsZ).map (bytO 5)
def ZOk (zs : List ZR) : Prop := ∀ z, z ∈ zs → z.2.2.2 = keyE z.1.e ∧ (keyE z.1.e).length ≤ 1048
def entsZ (zs : List ZR) : List Ent := zs.map (·.1.e)
theorem rowZ_mem {zs : List ZR} {z : ZR} {r : Option Addr × Nat × List UInt8} (hz : z ∈ zs) (hr : r ∈ rowsZ z) {R g : Nat} {lv kv : Value} : bytO 5 r ∈ blkO R g lv kv zs :=
  List.mem_cons_of_mem _ (List.mem_cons_of_mem _ (List.mem_cons_of_mem _ (List.mem_map_of_mem (List.mem_flatMap.2 ⟨z, List.mem_reverse.2 hz, hr⟩))))
set_option maxRecDepth 100000 in
theorem need_any (er : Int) {w x : World} {os : List Ob} {gk : Nat} (i : Nat) (h : OW w os x) (hi : os[i]? = some (boxO gk [.bool true])) :
    Calls Tryz.prog 215 #[.int .i64 er, .pointer (some ⟨gk, 0, none⟩)] x fun e y => e = .returned (.bool (er == 0)) ∧ OW w (os.set i (boxO gk [.bool (er == 0)])) y := by
  have HX := Lib.hid h
  have HI := Lib.hid hi
  clear h hi
  go_enter Tryz.func215, Tryz.ntmps215
  go_wp2_with (first
    | (refine wpList_load_cell rfl 4 (.tmp 1) rfl rfl (show _ = some (Value.bool true) from HX.out.cell HI.out (j := 0) rfl) (fun w => Tryz.isAgg4 w) ?_)
    | (refine wl_put1 rfl (.tmp 1) (.tmp 8) rfl HX.out i HI.out 0 rfl (by decide) (.bool (er == 0)) rfl (by kernel_rfl) rfl ?_; intro x2 hz _; have HY : Hid (OW w (os.set i (boxO gk [.bool (er == 0)])) x2) := Lib.hid hz; have hc : x2.cell? ⟨gk, 0, none⟩ = some (.bool (er == 0)) := HY.out.cell (by rw [List.getElem?_set_self (List.getElem?_eq_some_iff.1 HI.out).1]) (j := 0) rfl; clear hz))
  go_ret
  exact ⟨rfl, HY.out⟩
end Go.Proofs.YtfdbcfaeiglbeaaGreatDoor
