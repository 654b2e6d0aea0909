/-
  Laid together by merge.py: CellR3, CellR4, WireR2, CellR6, CellP4, CellW9, Kit15, BlockL1, Kit16, Kit17, Kit18, Kit19, Kit20, Kit21, Kit22, Kit23, Kit30.
-/
import Derived.Test.YtfdbcfaeiglbeaaGreatDoorRQ3
import Derived.Deep.DeepCutAuto
import Derived.Test.YtfdbcfaeiglbeaaGreatDoorRQ1
import Derived.Test.YtfdbcfaeiglbeaaGreatDoorRQ2
import Derived.Lib.SlBytesConst
import Derived.Deep.MidRow
import Derived.Deep.RegionHeld3
import Derived.Great.BuildSlice
namespace Go.Proofs.YtfdbcfaeiglbeaaGreatDoor
open Go.RowKit
theorem keyE_ok {e : Ent} (h : checkE e = 0) : KeyE e = (keyE e, 0) := by unfold KeyE; rw [if_pos h]
section
variable {w x y : World} {T : TypeId} {rs : RowL}
theorem results_box0 {P : Program} {fn : Func} {p : Tmp} {ty : TypeId} (h : fn.results = #[.cell p ty]) (tmps : Array Value) (w : World) (g : Nat) (cs : Array Value)
    (hp : tmps.getD p undef = .pointer (some ⟨g, 0, none⟩)) (hc : ∀ j v, cs[j]? = some v → w.cell? ⟨g, j, none⟩ = some v)
    (ha : (P.underlying ty).map (fun d => match d with | .struct _ | .array _ _ => true | _ => false) = some true) (hi : (P.info? ty).map (·.size) = some cs.size) :
    (results fn tmps).run P w = .ok (.agg cs) w := by
  have hp' : tmps[p]?.getD undef = .pointer (some ⟨g, 0, none⟩) := by simpa using hp
  simp [results, h, hp', asAddr, run_loadVar_at hc ha hi]
end
theorem conv_const (W : World) (C : Array Value) (n c g : Nat) (hg : g = W.heap.size) : (convert 34 34 (.slice (some ⟨g, 0, none⟩) n c)).run Tryz.prog (W.alloc (.cells C 5)) = .ok (.slice (some ⟨g, 0, none⟩) n c) (W.alloc (.cells C 5 (C.size, C.size + 1))) := by
  subst hg; exact Lib.run_convert_bytes_const (P := Tryz.prog) W 34 5 C n c Tryz.underlying34 Tryz.underlying5
theorem three_lits (w : World) (o : Obj) (a b d : UInt8) (t : TypeId) (fr : Nat × Nat) : ∀ W, W = (((w.alloc o).alloc (.cells #[u8v a] t fr)).alloc (.cells #[u8v b] t fr)).alloc (.cells #[u8v d] t fr) →
    Sl W (some ⟨w.heap.size + 1, 0, none⟩) 1 1 [a] ∧ Sl W (some ⟨w.heap.size + 1 + 1, 0, none⟩) 1 1 [b] ∧ Sl W (some ⟨w.heap.size + 1 + 1 + 1, 0, none⟩) 1 1 [d] ∧ Below (w.alloc o).heap.size (w.alloc o) W := by
  rintro W rfl
  have hz : ∀ (x : World) (o : Obj), (x.alloc o).heap.size = x.heap.size + 1 := fun x o => by show (x.heap.push _).size = _; simp
  have hb : ∀ (x : World) (o : Obj), Below x.heap.size x (x.alloc o) := fun x o => (Below.refl _ x).alloc (Nat.le_refl _) o
  have s1 := Sl.lit (w.alloc o) #[u8v a] [a] t fr rfl rfl (by show (1 : Nat) ≤ 9223372036854775807; decide)
  have s2 := Sl.lit ((w.alloc o).alloc (.cells #[u8v a] t fr)) #[u8v b] [b] t fr rfl rfl (by show (1 : Nat) ≤ 9223372036854775807; decide)
  have s3 := Sl.lit (((w.alloc o).alloc (.cells #[u8v a] t fr)).alloc (.cells #[u8v b] t fr)) #[u8v d] [d] t fr rfl rfl (by show (1 : Nat) ≤ 9223372036854775807; decide)
  rw [hz w o] at s1
  rw [hz _ _, hz w o] at s2
  rw [hz _ _, hz _ _, hz w o] at s3
  exact ⟨(s1.later (hb _ _)).later (hb _ _), s2.later (hb _ _), s3, ((hb _ _).trans ((hb _ _).mono (by rw [hz (w.alloc o)]; omega))).trans ((hb _ _).mono (by rw [hz ((w.alloc o).alloc _), hz (w.alloc o)]; omega))⟩
section
variable {w x y : World} {T : TypeId}
def Over (m : UInt8) (w x : World) : Prop := w.heap.size ≤ x.heap.size ∧ ∀ p u, w.cell? p = some u → x.cell? p = some u ∨ x.cell? p = some (u8v m)
theorem Over.refl (m : UInt8) (w : World) : Over m w w := ⟨Nat.le_refl _, fun _p _u h => .inl h⟩
theorem Over.trans {m : UInt8} (h : Over m w x) (k : Over m x y) : Over m w y := ⟨Nat.le_trans h.1 k.1, fun p u e => by
  rcases h.2 p u e with e | e
  · exact k.2 p u e
  · rcases k.2 p _ e with e | e <;> exact .inr e⟩
theorem Over.alloc {m : UInt8} (w : World) (o : Obj) : Over m w (w.alloc o) := ⟨((Below.refl _ w).alloc (Nat.le_refl _) o).size, fun _p _u e => .inl (cell_alloc_old e)⟩
structure Lng (w : World) (A : Option Addr) (n : Nat) (m : UInt8) (g : Nat) (x : World) : Prop where
  ge : w.heap.size ≤ g
  lt : g < x.heap.size
  all : ∃ c A1 c1 A2 c2 A3 c3, (x.cell? ⟨g, 0, none⟩ = some (.slice A n c) ∧ x.cell? ⟨g, 1, none⟩ = some (.slice A1 (n + 1) c1) ∧ x.cell? ⟨g, 2, none⟩ = some (.slice A2 (n + 2) c2) ∧ x.cell? ⟨g, 3, none⟩ = some (.slice A3 (n + 101) c3)) ∧
    (Sl x A n c (List.replicate n m) ∧ Sl x A1 (n + 1) c1 (List.replicate (n + 1) m) ∧ Sl x A2 (n + 2) c2 (List.replicate (n + 2) m) ∧ Sl x A3 (n + 101) c3 (List.replicate (n + 101) m)) ∧ Blk w A A1 ∧ Blk w A A2 ∧ Blk w A A3
theorem Lng.chg {A : Option Addr} {n : Nat} {m : UInt8} {g : Nat} {S : Nat → Prop} (h : Lng w A n m g x) (hc : Chg S x y) (hS : ∀ b, S b → b < w.heap.size ∧ A.map (·.block) ≠ some b) : Lng w A n m g y := by
  obtain ⟨c, A1, c1, A2, c2, A3, c3, ⟨q0, q1, q2, q3⟩, ⟨s0, s1, s2, s3⟩, b1, b2, b3⟩ := h.all
  have hg : ¬ S g := fun e => by have := (hS g e).1; have := h.ge; omega
  have hA : ∀ a, A = some a → ¬ S a.block := fun a ha e => (hS _ e).2 (by rw [ha]; rfl)
  have hB : ∀ {A' : Option Addr}, Blk w A A' → ∀ a, A' = some a → ¬ S a.block := fun hb a ha e => by
    rcases hb a ha with h' | h'
    · exact (hS _ e).2 h'
    · have := (hS _ e).1; omega
  exact ⟨h.ge, Nat.lt_of_lt_of_le h.lt hc.size, c, A1, c1, A2, c2, A3, c3, ⟨hc.cell q0 hg, hc.cell q1 hg, hc.cell q2 hg, hc.cell q3 hg⟩,
    ⟨s0.chg hc fun _ => hA, s1.chg hc fun _ => hB b1, s2.chg hc fun _ => hB b2, s3.chg hc fun _ => hB b3⟩, b1, b2, b3⟩
theorem Lng.later {A : Option Addr} {n : Nat} {m : UInt8} {g : Nat} (h : Lng w A n m g x) (hb : Below x.heap.size x y) : Lng w A n m g y := h.chg (S := fun _ => False) (Below.chg0 hb) fun _b e => e.elim
end
section
variable {P : Program} {ops : Array Oper} {Q : Exit → Act → World → Prop}
structure Same (S : List Nat) (b a : Act) : Prop where
  size : a.tmps.size = b.tmps.size
  rest : a.defers = b.defers
  at_ : ∀ k, k ∉ S → a.tmps[k]? = b.tmps[k]?
theorem Same.refl (S : List Nat) (a : Act) : Same S a a := ⟨rfl, rfl, fun _ _ => rfl⟩
theorem Same.put {S : List Nat} {b a : Act} (h : Same S b a) {d : Nat} (hd : d ∈ S) (x : Value) : Same S b (a.put (some d) x) :=
  ⟨by simp [Act.put, h.size], h.rest, fun k hk => by
    have : d ≠ k := fun e => hk (e ▸ hd)
    simp only [Act.put, Array.getElem?_setIfInBounds_ne this]
    exact h.at_ k hk⟩
theorem eval_tmp (a : Act) (k : Nat) : a.eval (.tmp k) = a.tmps.getD k undef := rfl
theorem Same.eval {S : List Nat} {b a : Act} (h : Same S b a) {k : Nat} (hk : k ∉ S) : a.eval (.tmp k) = b.eval (.tmp k) := by
  simp only [eval_tmp, Array.getD_eq_getD_getElem?, h.at_ k hk]
def AllOps (C : Nat → Oper → Prop) : Nat → List Oper → Prop
  | _, [] => True
  | k, o :: l => C k o ∧ AllOps C (k + 1) l
theorem AllOps.at_ {C : Nat → Oper → Prop} : ∀ {l : List Oper} {k : Nat}, AllOps C k l → ∀ (i : Nat) o, l[i]? = some o → C (k + i) o
  | [], _, _, i, o, h => by simp at h
  | x :: l, k, h, i, o, hi => by
    cases i with
    | zero => injection hi with hi; subst hi; exact h.1
    | succ i =>
      have := AllOps.at_ h.2 i o hi
      rwa [show k + 1 + i = k + (i + 1) from by omega] at this
def GoFn (P : Program) (f : FuncId) : Prop := ∃ fn, P.funcs[f]? = some fn ∧ (fn.name == "runtime.NumGoroutine") = false ∧ fn.body.isNone = false
theorem run_callFunc_go {f : FuncId} (h : GoFn P f) (args : Array Value) (w : World) : (callFunc f args).run P w = .ok (.enter f args) w := by
  obtain ⟨fn, h1, h2, h3⟩ := h
  have e2 : (fn.name == "runtime.NumGoroutine") = false := h2
  have e3 : fn.body.isNone = false := h3
  unfold callFunc
  have hp : program.run P w = .ok P w := rfl
  simp only [Sem.run_bind, hp, Result.andThen_ok, h1, e2, e3, Bool.false_eq_true, if_false, Sem.run_pure]
theorem wp_call_go {o : Oper} {a : Act} {w : World} {K : Act → World → Prop} {f : FuncId} {xs : Array Operand} {ats : Array TypeId} (ho : o.op = .call { callee := .value (.func f), args := xs, argTypes := ats }) (hf : GoFn P f)
    (vals : Array Value) (hv : xs.map a.eval = vals) (hc : Calls P f vals w fun e w' => ∃ v, e = .returned v ∧ K (a.put o.dst v) w') : o.wp P a w K Q := by
  subst hv
  have hrun : (execOp a.eval o).run P w = .ok (.enter f (xs.map a.eval)) w := by
    obtain ⟨dst, op, type, pos, after, guard⟩ := o
    simp only at ho
    subst ho
    rw [execOp_call_go]
    have e : #[] ++ xs.map a.eval ++ #[] = xs.map a.eval := by simp
    rw [e]
    exact run_callFunc_go hf _ w
  unfold Oper.wp
  rw [hrun, Oper.upon_enter]
  refine hc.mono fun e w' ⟨v, he, hK⟩ => ?_
  subst he
  exact hK
structure RowTy (P : Program) (ty : TypeId) (n : Nat) : Prop where
  desc : ∃ d, P.underlying ty = some d ∧ d.isRow = true
  size : (P.info? ty).map (·.size) = some n
theorem wp_load_row7 {o : Oper} {a : Act} {w : World} {K : Act → World → Prop} {ty : TypeId} {x : Operand} (ho : o.op = .load ty x) {g : Nat} {cs : List Value} (hx : a.eval x = .pointer (some ⟨g, 0, none⟩)) (hr : w.rangeAt g 0 cs) (ht : RowTy P ty cs.length)
    (hK : K (a.put o.dst (.agg cs.toArray)) w) : o.wp P a w K Q := by
  obtain ⟨⟨d, hu, hd⟩, hi⟩ := ht
  exact wp_load_mid ty x ho g 0 hx cs d hr hu hd hi hK
theorem wpList_load_row7 {rest : List Oper} {o : Oper} {a : Act} {w : World} (hgd : Region.wanted o (yielded ops a.tmps) = true) (ty : TypeId) (x : Operand) (ho : o.op = .load ty x) {g : Nat} {cs : List Value} (hx : a.eval x = .pointer (some ⟨g, 0, none⟩)) (hr : w.rangeAt g 0 cs) (ht : RowTy P ty cs.length)
    (hK : wpList P ops Q rest (a.put o.dst (.agg cs.toArray)) w) : wpList P ops Q (o :: rest) a w :=
  BigFrame.wpList_want hgd fun _ h => wp_load_row7 ho hx hr ht (h _ _ hK)
end
abbrev Bx1 := Option (Nat × List Value)
structure St (T : TypeId) (w : World) (bs : List Bx1) (rs : RowL) (x : World) : Prop where
  up : Below w.heap.size w x
  box : ∀ (i : Nat) g cs, bs[i]? = some (some (g, cs)) → w.heap.size ≤ g ∧ g < x.heap.size ∧ x.rangeAt g 0 cs ∧ ∀ j, x.frozen? ⟨g, j, none⟩ = false
  ne : ∀ (i j : Nat) g cs h ds, bs[i]? = some (some (g, cs)) → bs[j]? = some (some (h, ds)) → i ≠ j → g ≠ h
  rows : RowsB T w.heap.size x rs
  off : ∀ (i j : Nat) g cs r a, bs[i]? = some (some (g, cs)) → rs[j]? = some r → r.1 = some a → a.block ≠ g
section
variable {T : TypeId} {w x y : World} {bs : List Bx1} {rs : RowL} {i g : Nat} {cs vs : List Value}
theorem St.nil (T : TypeId) (w : World) : St T w [] [] w := ⟨Below.refl _ _, fun i g cs h => by simp at h, fun i j g cs h ds h1 => by simp at h1, RowsB.nil, fun i j g cs r a h => by simp at h⟩
theorem range_below {g : Nat} (h : x.rangeAt g 0 cs) (k : Below x.heap.size x y) : y.rangeAt g 0 cs := fun j v hv => cell_below k (h j v hv)
theorem St.later (h : St T w bs rs x) (k : Below x.heap.size x y) : St T w bs rs y :=
  ⟨h.up.trans (k.mono h.up.size), fun i g cs hb => by
    obtain ⟨h1, h2, h3, h4⟩ := h.box i g cs hb
    exact ⟨h1, Nat.lt_of_lt_of_le h2 k.size, range_below h3 k, fun j => (k.frozen (p := ⟨g, j, none⟩) h2).trans (h4 j)⟩, h.ne, h.rows.later k, h.off⟩
theorem St.drew (h : St T w bs rs x) : St T w bs rs x.drew := h.later (Below.refl _ _).drew
theorem St.range (h : St T w bs rs x) (hb : bs[i]? = some (some (g, cs))) : x.rangeAt g 0 cs := (h.box i g cs hb).2.2.1
theorem St.cell (h : St T w bs rs x) (hb : bs[i]? = some (some (g, cs))) {j : Nat} {v : Value} (hv : cs[j]? = some v) : x.cell? ⟨g, j, none⟩ = some v := by have := h.range hb j v hv; rwa [Nat.zero_add] at this
theorem St.fz (h : St T w bs rs x) (hb : bs[i]? = some (some (g, cs))) (j : Nat) : x.frozen? ⟨g, j, none⟩ = false := (h.box i g cs hb).2.2.2 j
theorem St.more (h : St T w bs rs x) : St T w (bs ++ [none]) rs x := by
  have hg : ∀ (i : Nat) b, (bs ++ [none])[i]? = some (some b) → bs[i]? = some (some b) := fun i b hi => by
    rw [List.getElem?_append] at hi
    split at hi
    · exact hi
    · rw [List.getElem?_singleton] at hi; split at hi <;> simp at hi
  exact ⟨h.up, fun i g cs hb => h.box i g cs (hg i _ hb), fun i j g cs g' ds h1 h2 => h.ne i j g cs g' ds (hg i _ h1) (hg j _ h2), h.rows, fun i j g cs r a h1 => h.off i j g cs r a (hg i _ h1)⟩
theorem set_get {b : Bx1} {c : Nat × List Value} {j : Nat} (hj : (bs.set i b)[j]? = some (some c)) : (j = i ∧ b = some c) ∨ (j ≠ i ∧ bs[j]? = some (some c)) := by
  rw [List.getElem?_set] at hj
  by_cases e : i = j
  · subst e
    rw [if_pos rfl] at hj
    split at hj
    · injection hj with hj; exact .inl ⟨rfl, hj⟩
    · cases hj
  · rw [if_neg e] at hj
    exact .inr ⟨fun h => e h.symm, hj⟩
theorem range_new (w : World) (cs : List Value) (t : TypeId) : (w.alloc (.cells cs.toArray t)).rangeAt w.heap.size 0 cs := fun j v hv => by
  rw [Nat.zero_add]; simpa using hv
theorem St.fill {t : TypeId} (h : St T w bs rs x) (i : Nat) (cs : List Value) (hn : bs[i]? = some none) : St T w (bs.set i (some (x.heap.size, cs))) rs (x.alloc (.cells cs.toArray t)) := by
  have hb : Below x.heap.size x (x.alloc (.cells cs.toArray t)) := (Below.refl _ x).alloc (Nat.le_refl _) _
  have k := h.later hb
  have hsz : x.heap.size < (x.alloc (.cells cs.toArray t)).heap.size := by show _ < (x.heap.push _).size; simp
  refine ⟨k.up, fun j g ds hj => ?_, fun j q g ds g' ds' hj hq hne => ?_, k.rows, fun j q g ds r a hj hq ha => ?_⟩
  · rcases set_get hj with ⟨rfl, e⟩ | ⟨_, hj⟩
    · injection e with e; injection e with e1 e2; subst e1; subst e2
      exact ⟨h.up.size, hsz, range_new _ _ _, fun j => by simp⟩
    · exact k.box j g ds hj
  · rcases set_get hj with ⟨rfl, e⟩ | ⟨h1, hj1⟩ <;> rcases set_get hq with ⟨rfl, e'⟩ | ⟨h2, hq1⟩
    · exact absurd rfl hne
    · injection e with e; injection e with e1 _; subst e1
      exact Nat.ne_of_gt (h.box q g' ds' hq1).2.1
    · injection e' with e'; injection e' with e1 _; subst e1
      exact Nat.ne_of_lt (h.box j g ds hj1).2.1
    · exact h.ne j q g ds g' ds' hj1 hq1 hne
  · rcases set_get hj with ⟨rfl, e⟩ | ⟨h1, hj⟩
    · injection e with e; injection e with e1 _; subst e1
      exact Nat.ne_of_lt (((h.rows.1 q r hq).lt ha).2)
    · exact h.off j q g ds r a hj hq ha
theorem St.push {t : TypeId} (h : St T w bs rs x) (cs : List Value) : St T w (bs ++ [some (x.heap.size, cs)]) rs (x.alloc (.cells cs.toArray t)) := by
  have := (h.more).fill (t := t) bs.length cs (by simp)
  simpa using this
theorem St.chg {S : Nat → Prop} (h : St T w bs rs x) (hc : Chg S x y) (hS : ∀ b, S b → w.heap.size ≤ b) (hb : ∀ (i : Nat) g cs, bs[i]? = some (some (g, cs)) → ¬ S g) (hr : ∀ (i : Nat) r, rs[i]? = some r → ∀ a, r.1 = some a → ¬ S a.block) : St T w bs rs y :=
  ⟨h.up.trans (hc.below h.up.size fun k _ hk => hS k hk), fun i g cs hi => by
    obtain ⟨h1, h2, h3, h4⟩ := h.box i g cs hi
    refine ⟨h1, Nat.lt_of_lt_of_le h2 hc.size, fun j v hv => hc.cell (h3 j v hv) (hb i g cs hi), fun j => ?_⟩
    have := hc.block g h2 (hb i g cs hi)
    have h5 := h4 j
    unfold World.frozen? at h5 ⊢
    rw [this]; exact h5, h.ne, h.rows.chg hc hr, h.off⟩
theorem setCells_chg (g : Nat) : ∀ (vs : List Value) (o : Nat) (x : World), Chg (fun b => b = g) x (x.setCells g o vs)
  | [], _, x => Chg.refl _ x
  | v :: vs, o, x => (Chg.setCell x ⟨g, o, none⟩ v).trans (setCells_chg g vs (o + 1) _)
theorem St.put (h : St T w bs rs x) (hb : bs[i]? = some (some (g, cs))) (hl : vs.length = cs.length) : St T w (bs.set i (some (g, vs))) rs (x.setCells g 0 vs) ∧ Chg (fun b => b = g) x (x.setCells g 0 vs) := by
  have hc := setCells_chg g vs 0 x
  obtain ⟨hw, hx, hr, hf⟩ := h.box i g cs hb
  have ht : x.there g 0 vs.length := fun j hj => ⟨hr.isSome j (by omega), by rw [Nat.zero_add]; exact hf j⟩
  have hfz : ∀ q, (x.setCells g 0 vs).frozen? q = x.frozen? q := fun q => World.frozen?_setCells _ _ _ _ _
  refine ⟨⟨h.up.trans (hc.below h.up.size fun k _ hk => by rw [hk]; exact hw), fun j g' ds hj => ?_, fun j q g' ds g'' ds' hj hq hne => ?_, h.rows.chg hc fun q r hq a ha => h.off i q g cs r a hb hq ha, fun j q g' ds r a hj hq ha => ?_⟩, hc⟩
  · rcases set_get hj with ⟨rfl, e⟩ | ⟨h1, hj⟩
    · injection e with e; injection e with e1 e2; subst e1; subst e2
      exact ⟨hw, Nat.lt_of_lt_of_le hx hc.size, World.rangeAt_setCells_same x g 0 vs ht, fun j => (hfz _).trans (hf j)⟩
    · obtain ⟨a1, a2, a3, a4⟩ := h.box j g' ds hj
      exact ⟨a1, Nat.lt_of_lt_of_le a2 hc.size, World.rangeAt_setCells_apart a3 g 0 vs (.inl (h.ne j i g' ds g cs hj hb h1)), fun j => (hfz _).trans (a4 j)⟩
  · rcases set_get hj with ⟨rfl, e⟩ | ⟨h1, hj1⟩ <;> rcases set_get hq with ⟨rfl, e'⟩ | ⟨h2, hq1⟩
    · exact absurd rfl hne
    · injection e with e; injection e with e1 _; subst e1
      exact h.ne j q g cs g'' ds' hb hq1 hne
    · injection e' with e'; injection e' with e1 _; subst e1
      exact h.ne j q g' ds g cs hj1 hb hne
    · exact h.ne j q g' ds g'' ds' hj1 hq1 hne
  · rcases set_get hj with ⟨rfl, e⟩ | ⟨h1, hj⟩
    · injection e with e; injection e with e1 _; subst e1
      exact h.off j q g cs r a hb hq ha
    · exact h.off j q g' ds r a hj hq ha
theorem St.app (h : St T w bs rs x) (k : Below x.heap.size x y) {rs' : RowL} (hr : RowsB T x.heap.size y rs') : St T w bs (rs ++ rs') y :=
  ⟨(h.later k).up, (h.later k).box, h.ne, h.rows.app k hr h.up.size, fun i j g cs r a hb hj ha => by
    rw [List.getElem?_append] at hj
    split at hj
    · exact h.off i j g cs r a hb hj ha
    · have h1 := ((hr.1 _ r hj).lt ha).1
      have h2 := (h.box i g cs hb).2.1
      omega⟩
theorem St.fresh (h : St T w bs rs x) (k : Below x.heap.size x y) {A : Option Addr} {c : Nat} {l : List UInt8} (ho : OwnB T x.heap.size y A c l) : St T w bs (rs ++ [(A, c, l)]) y :=
  h.app k (RowsB.nil.snoc ho fun i r hr => by simp at hr)
theorem St.sl {c n : Nat} {A : Option Addr} {l : List UInt8} (h : St T w bs rs x) (hr : rs[i]? = some (A, c, l)) (hn : l.length = n) : Sl x A n c l := h.rows.sl_at hr hn
theorem St.own {c : Nat} {A : Option Addr} {l : List UInt8} (h : St T w bs rs x) (hr : rs[i]? = some (A, c, l)) : OwnB T w.heap.size x A c l := h.rows.1 i _ hr
theorem RowsB.erase {B : Nat} (h : RowsB T B x rs) (i : Nat) : RowsB T B x (rs.eraseIdx i) :=
  h.pick (fun j => if j < i then j else j + 1) (fun a b _ _ hne => by split <;> split <;> omega) fun j s hs => by
    rw [List.getElem?_eraseIdx] at hs
    split at hs
    · rename_i hj; rw [if_pos hj]; exact hs
    · rename_i hj; rw [if_neg hj]; exact hs
theorem erase_from {j : Nat} {r : Option Addr × Nat × List UInt8} (h : (rs.eraseIdx i)[j]? = some r) : ∃ k, k ≠ i ∧ rs[k]? = some r := by
  rw [List.getElem?_eraseIdx] at h
  split at h
  · exact ⟨j, by omega, h⟩
  · exact ⟨j + 1, by omega, h⟩
theorem St.erase (h : St T w bs rs x) (i : Nat) : St T w bs (rs.eraseIdx i) x := ⟨h.up, h.box, h.ne, h.rows.erase i, fun q j g cs r a hb hr ha => by
  obtain ⟨k, _, hk⟩ := erase_from hr
  exact h.off q k g cs r a hb hk ha⟩
theorem Lng.box {x0 : World} {A : Option Addr} {c n g k i g1 : Nat} {m : UInt8} {l : List UInt8} {cs : List Value} (L : Lng x0 A n m g x) (h : St T w bs rs x0) (hb : bs[k]? = some (some (g1, cs))) (hi : rs[i]? = some (A, c, l)) (hc : Chg (fun b => b = g1) x y) : Lng x0 A n m g y := by
  refine L.chg hc fun b e => ?_
  subst e
  refine ⟨(h.box k _ cs hb).2.1, fun e => ?_⟩
  cases A with
  | none => cases e
  | some a =>
    injection e with e
    exact h.off k i _ cs _ a hb hi rfl e
end
section
variable {P : Program} {ops : Array Oper} {Q : Exit → Act → World → Prop}
theorem wp_alloc_row {o : Oper} {a : Act} {w : World} {K : Act → World → Prop} {ty : TypeId} (ho : o.op = .alloc ty) {z : Value} (hz : (P.info? ty).bind (·.zero) = some z)
    (hK : K (a.put o.dst (.pointer (some ⟨w.heap.size, 0, none⟩))) (w.alloc (.cells z.cells ty))) : o.wp P a w K Q := by
  cases hi : P.info? ty with
  | none => rw [hi] at hz; cases hz
  | some i =>
    rw [hi] at hz
    have hz : i.zero = some z := hz
    unfold Oper.wp execOp
    simp [ho, Instr.alloc, zeroValue, typeInfo, hi, hz, newVar, newRow, Sem.run_bind, Oper.upon]
    exact hK
theorem wp_store_row {o : Oper} {a : Act} {w : World} {K : Act → World → Prop} {ty : TypeId} {x y : Operand} (ho : o.op = .store ty x y) {g : Nat} {cs vs : List Value} (hx : a.eval x = .pointer (some ⟨g, 0, none⟩)) (hy : a.eval y = .agg vs.toArray)
    (hr : w.rangeAt g 0 cs) (hf : ∀ j, w.frozen? ⟨g, j, none⟩ = false) (hl : vs.length = cs.length) (ht : (P.info? ty).map (·.size) = some vs.length) (h1 : ∀ u ∈ vs, u.oneCell' = true)
    (hK : K (a.put o.dst undef) (w.setCells g 0 vs)) : o.wp P a w K Q :=
  wp_store_mid ty x y ho g 0 vs.toArray hx hy (fun j hj => ⟨hr.isSome j (by simpa [hl] using hj), by rw [Nat.zero_add]; exact hf j⟩) (by simpa using ht) (all_oneCell_toArray h1) hK
end
structure Parts where
  k : Nat
  s : Nat → Nat
  u : Nat → Nat
  t : Nat → Nat
  L : Nat → Nat
  C : Nat → Nat
  A : Nat → Nat
  X : Nat → Nat
def Parts.sl (p : Parts) (j : Nat) : List Nat := [p.s j, p.u j, p.t j]
def Parts.op (p : Parts) (j : Nat) : List Nat := [p.L j, p.C j, p.A j, p.X j]
def Parts.ok (p : Parts) (n : Nat) : Bool := (List.range p.k).all fun j => decide ((p.sl j).Nodup) && decide ((p.op j).Nodup) && (p.sl j).all (fun d => decide (d < n)) &&
  (List.range p.k).all fun i => i == j || ((p.sl i).all fun x => !(p.sl j).contains x) && (p.op i).all fun x => !(p.op j).contains x
section
variable {P : Program} {Q : Exit → Act → World → Prop} {T : TypeId} {w : World} {bs : List Bx1} {rs : RowL}
variable {p : Parts} {n m : Nat} {arg : Nat → List Value} {Pst : Nat → Value → RowL → Prop} {l : List Oper} {f0 : Act} {o : Oper} {j : Nat}
def upd {α : Type} (f : Nat → α) (j : Nat) (x : α) : Nat → α := fun i => if i = j then x else f i
end
section
variable {P : Program} {Q : Exit → Act → World → Prop} {S : World → Prop} {l : List Oper} {fuel : Nat} {listed : Array Bool} {a : Act} {w : World} {i : Nat} {o : Oper} {v : Value}
theorem lx_at (hi : l[i]? = some o) : l.toArray[i]? = some o := by simpa using hi
theorem yi_row {ty : TypeId} {x : Operand} (hw : Region.wanted o (yielded l.toArray a.tmps) = true) (ho : o.op = .load ty x) {g : Nat} {cs : List Value} (hx : a.eval x = .pointer (some ⟨g, 0, none⟩)) (hr : ∀ w, S w → w.rangeAt g 0 cs) (ht : RowTy P ty cs.length) :
    YieldsIf P l.toArray S o (.agg cs.toArray) a := by
  obtain ⟨⟨d, hu, hd⟩, hi⟩ := ht
  refine .inl ⟨hw, fun w hS => ?_⟩
  unfold execOp
  simp only [ho, hx, Instr.loadAt, Instr.sureAddr, Sem.run_bind, Sem.run_pure, Result.andThen_ok, run_loadVar_mid w g 0 ty cs d (hr w hS) hu hd hi]
theorem yi_cell {ty : TypeId} {x : Operand} (hw : Region.wanted o (yielded l.toArray a.tmps) = true) (ho : o.op = .load ty x) {g k : Nat} (hx : a.eval x = .pointer (some ⟨g, k, none⟩)) (hr : ∀ w, S w → w.cell? ⟨g, k, none⟩ = some v) (ha : ∀ w, (isAgg ty).run P w = .ok false w) :
    YieldsIf P l.toArray S o v a := by
  refine .inl ⟨hw, fun w hS => ?_⟩
  have h := hr w hS
  unfold execOp
  simp only [ho, hx, Instr.loadAt, Instr.sureAddr, loadVar, Sem.run_bind, Sem.run_pure, Result.andThen_ok, ha w, Bool.false_eq_true, if_false]
  simp [go_sem, h]
theorem yi_run (hw : Region.wanted o (yielded l.toArray a.tmps) = true) (h : ∀ w, (execOp a.eval o).run P w = .ok (.value v) w) : YieldsIf P l.toArray S o v a := .inl ⟨hw, fun w _ => h w⟩
end
section
variable {T : TypeId} {w x y : World} {bs : List Bx1} {rs : RowL} {i g : Nat} {cs vs : List Value}
theorem St.write (h : St T w bs rs x) (hb : bs[i]? = some (some (g, cs))) (hc : Chg (fun b => b = g) x y) (hr' : y.rangeAt g 0 vs) (hfz : ∀ q, y.frozen? q = x.frozen? q) : St T w (bs.set i (some (g, vs))) rs y := by
  obtain ⟨hw, hx, hr, hf⟩ := h.box i g cs hb
  refine ⟨h.up.trans (hc.below h.up.size fun k _ hk => by rw [hk]; exact hw), fun j g' ds hj => ?_, fun j q g' ds g'' ds' hj hq hne => ?_, h.rows.chg hc fun q r hq a ha => h.off i q g cs r a hb hq ha, fun j q g' ds r a hj hq ha => ?_⟩
  · rcases set_get hj with ⟨rfl, e⟩ | ⟨h1, hj⟩
    · injection e with e; injection e with e1 e2; subst e1; subst e2
      exact ⟨hw, Nat.lt_of_lt_of_le hx hc.size, hr', fun j => (hfz _).trans (hf j)⟩
    · obtain ⟨a1, a2, a3, a4⟩ := h.box j g' ds hj
      exact ⟨a1, Nat.lt_of_lt_of_le a2 hc.size, fun k v hk => hc.cell (a3 k v hk) (h.ne j i g' ds g cs hj hb h1), fun j => (hfz _).trans (a4 j)⟩
  · rcases set_get hj with ⟨rfl, e⟩ | ⟨h1, hj1⟩ <;> rcases set_get hq with ⟨rfl, e'⟩ | ⟨h2, hq1⟩
    · exact absurd rfl hne
    · injection e with e; injection e with e1 _; subst e1
      exact h.ne j q g cs g'' ds' hb hq1 hne
    · injection e' with e'; injection e' with e1 _; subst e1
      exact h.ne j q g' ds g cs hj1 hb hne
    · exact h.ne j q g' ds g'' ds' hj1 hq1 hne
  · rcases set_get hj with ⟨rfl, e⟩ | ⟨h1, hj⟩
    · injection e with e; injection e with e1 _; subst e1
      exact h.off _ q g cs r a hb hq ha
    · exact h.off j q g' ds r a hj hq ha
theorem St.put1 (h : St T w bs rs x) (hb : bs[i]? = some (some (g, cs))) (j : Nat) (v : Value) : St T w (bs.set i (some (g, cs.set j v))) rs (x.setCells g j [v]) ∧ Chg (fun b => b = g) x (x.setCells g j [v]) := by
  have hc := setCells_chg g [v] j x
  obtain ⟨hw, hx, hr, hf⟩ := h.box i g cs hb
  refine ⟨h.write hb hc (fun k u hk => ?_) fun q => World.frozen?_setCells _ _ _ _ _, hc⟩
  show (x.setCell ⟨g, j, none⟩ v).cell? ⟨g, 0 + k, none⟩ = some u
  rw [Nat.zero_add]
  rw [List.getElem?_set] at hk
  by_cases e : j = k
  · subst e
    rw [if_pos rfl] at hk
    split at hk
    · rename_i hlt
      injection hk with hk; subst hk
      have := hr j _ (List.getElem?_eq_getElem hlt)
      rw [Nat.zero_add] at this
      exact World.cell?_setCell_same _ _ _ this
    · cases hk
  · rw [if_neg e] at hk
    rw [World.cell?_setCell_other _ _ _ _ (fun e' => by injection e' with _ e' _; exact e e')]
    have := hr k u hk
    rwa [Nat.zero_add] at this
end
section
variable {P : Program} {ops : Array Oper} {Q : Exit → Act → World → Prop}
theorem one_cells {v : Value} (h : v.oneCell' = true) : v.cells = #[v] := by cases v <;> first | rfl | simp_all [Value.oneCell']
theorem run_storeVar_one (w : World) (b o : Nat) (ty : TypeId) (v : Value) (hs : (w.cell? ⟨b, o, none⟩).isSome = true) (hf : w.frozen? ⟨b, o, none⟩ = false) (h1 : v.oneCell' = true) (hi : (P.info? ty).map (·.size) = some 1) :
    (storeVar ty ⟨b, o, none⟩ v).run P w = .ok () (w.setCells b o [v]) := by
  have := run_storeCells_cells (P := P) b o [v] 0 w (fun j hj => by
    obtain rfl : j = 0 := (by simpa using hj)
    simpa using hs) (fun j hj => by
    obtain rfl : j = 0 := (by simpa using hj)
    simpa using hf) (fun u hu => by
    obtain rfl : u = v := (by simpa using hu)
    exact h1)
  cases hq : P.info? ty with
  | none => simp [hq] at hi
  | some i =>
    have hs : i.size = 1 := by simpa [hq] using hi
    simp only [Nat.add_zero] at this
    simp [storeVar, sizeOf, typeInfo, hq, one_cells h1, hs, this]
end
section
variable {P : Program} {Q : Exit → Act → World → Prop} {T : TypeId} {w : World} {bs : List Bx1} {rs : RowL}
variable {p : Parts} {bx : Nat → Bool} {n m : Nat} {av : Nat → Value} {Pst : Nat → Value → RowL → Prop} {l : List Oper} {f0 : Act} {o : Oper} {j : Nat}
theorem St.cut {bs' : List Bx1} {x : World} (h : St T w (bs ++ bs') rs x) : St T w bs rs x :=
  ⟨h.up, fun i g cs hb => h.box i g cs (by rw [List.getElem?_append_left (List.getElem?_eq_some_iff.1 hb).1]; exact hb), fun i j g cs g' ds h1 h2 => h.ne i j g cs g' ds (by rw [List.getElem?_append_left (List.getElem?_eq_some_iff.1 h1).1]; exact h1) (by rw [List.getElem?_append_left (List.getElem?_eq_some_iff.1 h2).1]; exact h2), h.rows, fun i j g cs r a hb => h.off i j g cs r a (by rw [List.getElem?_append_left (List.getElem?_eq_some_iff.1 hb).1]; exact hb)⟩
theorem wpList_load_cell {ops : Array Oper} {rest : List Oper} {o : Oper} {a : Act} {W : World} (hgd : Region.wanted o (yielded ops a.tmps) = true) (ty : TypeId) (x : Operand) (ho : o.op = .load ty x) {g k : Nat} {v : Value} (hx : a.eval x = .pointer (some ⟨g, k, none⟩)) (hr : W.cell? ⟨g, k, none⟩ = some v) (ha : ∀ w, (isAgg ty).run P w = .ok false w)
    (hK : wpList P ops Q rest (a.put o.dst v) W) : wpList P ops Q (o :: rest) a W := by
  refine BigFrame.wpList_want hgd fun _ hk => ?_
  have hrun : (execOp a.eval o).run P W = .ok (.value v) W := by
    unfold execOp
    simp only [ho, hx, Instr.loadAt, Instr.sureAddr, loadVar, Sem.run_bind, Sem.run_pure, Result.andThen_ok, ha W, Bool.false_eq_true, if_false]
    simp [go_sem, hr]
  unfold Oper.wp
  rw [hrun, Oper.upon_value]
  exact hk _ _ hK
end
section
variable {P : Program} {Q : Exit → Act → World → Prop} {S : World → Prop} {l : List Oper} {fuel : Nat} {listed : Array Bool} {a : Act} {w : World} {i : Nat} {o : Oper} {v : Value}
theorem yi_rowO {ty : TypeId} {x : Operand} (hw : Region.wanted o (yielded l.toArray a.tmps) = true) (ho : o.op = .load ty x) {g k : Nat} {cs : List Value} (hx : a.eval x = .pointer (some ⟨g, k, none⟩)) (hr : ∀ w, S w → w.rangeAt g k cs) (ht : RowTy P ty cs.length) :
    YieldsIf P l.toArray S o (.agg cs.toArray) a := by
  obtain ⟨⟨d, hu, hd⟩, hi⟩ := ht
  refine .inl ⟨hw, fun w hS => ?_⟩
  unfold execOp
  simp only [ho, hx, Instr.loadAt, Instr.sureAddr, Sem.run_bind, Sem.run_pure, Result.andThen_ok, run_loadVar_mid w g k ty cs d (hr w hS) hu hd hi]
end
section
variable {T : TypeId} {w x : World} {bs bs' : List Bx1} {rs rs' : RowL}
end
section
variable {P : Program} {Q : Exit → Act → World → Prop} {T : TypeId} {w : World} {bs : List Bx1} {rs : RowL} {p : Parts} {bx : Nat → Bool} {n : Nat} {av : Nat → Value} {Pst : Nat → Value → RowL → Prop} {l : List Oper} {f0 : Act} {o : Oper} {j : Nat}
end
section
variable {p : Parts} {n : Nat} {av : Value} {Pst : Value → RowL → Prop} {j : Nat} {D : Nat → Bool} {v : Nat → Value} {b : Bx1} {R : RowL}
end
structure Ob where
  bx : Bool
  ty : TypeId
  sz : Nat
  v : Value
  n : Nat
  cs : List Value
  raw : Option (Obj → Prop)
def boxO (g : Nat) (cs : List Value) : Ob := ⟨true, 0, 0, .pointer (some ⟨g, 0, none⟩), 0, cs, none⟩
def rowO (T : TypeId) (sz : Nat) (v : Value) (n : Nat) (cs : List Value) : Ob := ⟨false, T, sz, v, n, cs, none⟩
def bytO (T : TypeId) (r : Option Addr × Nat × List UInt8) : Ob := ⟨false, T, 1, .slice r.1 r.2.2.length r.2.1, r.2.2.length, u8s r.2.2, none⟩
def nilO : Ob := ⟨false, 0, 1, .slice none 0 0, 0, [], none⟩
def phiO (k : Nat) (φ : Obj → Prop) : Ob := ⟨true, 0, 0, .pointer (some ⟨k, 0, none⟩), 0, [], some φ⟩
def rawO (k : Nat) (r : Obj) : Ob := phiO k fun o => o = r
def vBlock : Value → Option Nat
  | .pointer (some a) => some a.block
  | .slice (some a) _ _ => some a.block
  | _ => none
def Ob.blk (o : Ob) : Option Nat := vBlock o.v
def Ob.at0 (B : Nat) (x : World) (o : Ob) : Prop :=
  (o.bx = true → ∃ g, o.v = .pointer (some ⟨g, 0, none⟩) ∧ B ≤ g ∧ g < x.heap.size ∧ x.rangeAt g 0 o.cs ∧ ∀ j, x.frozen? ⟨g, j, none⟩ = false) ∧
  (o.bx = false → x.ownsRow B o.ty o.sz o.v o.n o.cs)
def Ob.at_ (B : Nat) (x : World) (o : Ob) : Prop := match o.raw with
  | some φ => ∃ k r, o.v = .pointer (some ⟨k, 0, none⟩) ∧ B ≤ k ∧ x.heap[k]? = some r ∧ φ r
  | none => o.at0 B x
def Ap (o p : Ob) : Prop := ∀ b, o.blk = some b → p.blk ≠ some b
structure OW (w : World) (os : List Ob) (x : World) : Prop where
  up : Below w.heap.size w x
  ob : ∀ o, o ∈ os → o.at_ w.heap.size x
  ne : os.Pairwise Ap
section
variable {w x y : World} {os os' ps : List Ob} {o p : Ob} {B g i j n sz c : Nat} {T : TypeId} {v : Value} {cs vs news : List Value} {S : Nat → Prop} {A : Option Addr} {l : List UInt8}
theorem own_vblock {e : TypeId} (h : w.ownsRow B e sz v n cs) : vBlock v = v.ownBlock := by
  rcases h.2 with ⟨rfl, _⟩ | ⟨g, cap, cur, rfl, _⟩ <;> rfl
theorem own_rebase {B' : Nat} (h : w.ownsRow B T sz v n cs) (hb : B' ≤ B) : w.ownsRow B' T sz v n cs := by
  refine ⟨h.1, ?_⟩
  rcases h.2 with h | ⟨g, cap, cur, hv, hg, hr⟩
  · exact .inl h
  · exact .inr ⟨g, cap, cur, hv, Nat.le_trans hb hg, hr⟩
theorem Ap.symm (h : Ap o p) : Ap p o := fun b hb e => h b e hb
theorem Ob.at0.lt {b : Nat} (h : o.at0 B x) (hb : o.blk = some b) : B ≤ b ∧ b < x.heap.size := by
  cases hq : o.bx with
  | true =>
    obtain ⟨g, h1, h2, h3, _⟩ := h.1 hq
    unfold Ob.blk at hb; rw [h1] at hb; injection hb with hb; subst hb; exact ⟨h2, h3⟩
  | false =>
    have h1 := h.2 hq
    unfold Ob.blk at hb; rw [own_vblock h1] at hb; exact World.ownsRow.lt h1 b hb
theorem Ob.at0.chg (h : o.at0 B x) (hc : Chg S x y) (hn : ∀ b, o.blk = some b → ¬ S b) : o.at0 B y := by
  refine ⟨fun hq => ?_, fun hq => ?_⟩
  · obtain ⟨g, h1, h2, h3, h4, h5⟩ := h.1 hq
    have hg : ¬ S g := hn g (by unfold Ob.blk; rw [h1]; rfl)
    exact ⟨g, h1, h2, Nat.lt_of_lt_of_le h3 hc.size, fun j v hv => hc.cell (h4 j v hv) hg, fun j => (World.frozen?_of_block (hc.block g h3 hg)).trans (h5 j)⟩
  · exact own_chg (h.2 hq) hc fun g hg => hn g (by unfold Ob.blk; rw [own_vblock (h.2 hq)]; exact hg)
theorem Ob.at0.mono {B' : Nat} (h : o.at0 B x) (hb : B' ≤ B) : o.at0 B' x :=
  ⟨fun hq => by
    obtain ⟨g, h1, h2, h3⟩ := h.1 hq
    exact ⟨g, h1, Nat.le_trans hb h2, h3⟩, fun hq => own_rebase (h.2 hq) hb⟩
theorem Ob.at_.some_ {φ : Obj → Prop} (h : o.at_ B x) (hr : o.raw = some φ) : ∃ k r, o.v = .pointer (some ⟨k, 0, none⟩) ∧ B ≤ k ∧ x.heap[k]? = some r ∧ φ r := by
  unfold Ob.at_ at h; rw [hr] at h; exact h
theorem Ob.at_.none_ (h : o.at_ B x) (hr : o.raw = none) : o.at0 B x := by
  unfold Ob.at_ at h; rw [hr] at h; exact h
theorem Ob.at_mk0 (hr : o.raw = none) (h : o.at0 B x) : o.at_ B x := by
  unfold Ob.at_; rw [hr]; exact h
theorem Ob.at_mkr {φ : Obj → Prop} (hr : o.raw = some φ) (h : ∃ k r, o.v = .pointer (some ⟨k, 0, none⟩) ∧ B ≤ k ∧ x.heap[k]? = some r ∧ φ r) : o.at_ B x := by
  unfold Ob.at_; rw [hr]; exact h
theorem Ob.at_.lt {b : Nat} (h : o.at_ B x) (hb : o.blk = some b) : B ≤ b ∧ b < x.heap.size := by
  cases hr : o.raw with
  | none => exact (h.none_ hr).lt hb
  | some φ =>
    obtain ⟨k, r, h1, h2, h3, _⟩ := h.some_ hr
    unfold Ob.blk at hb; rw [h1] at hb; injection hb with hb; subst hb
    exact ⟨h2, (Array.getElem?_eq_some_iff.1 h3).1⟩
theorem Ob.at_.chg (h : o.at_ B x) (hc : Chg S x y) (hn : ∀ b, o.blk = some b → ¬ S b) : o.at_ B y := by
  cases hr : o.raw with
  | none => exact Ob.at_mk0 hr ((h.none_ hr).chg hc hn)
  | some φ =>
    obtain ⟨k, r, h1, h2, h3, h4⟩ := h.some_ hr
    exact Ob.at_mkr hr ⟨k, r, h1, h2, (hc.block k (Array.getElem?_eq_some_iff.1 h3).1 (hn k (by unfold Ob.blk; rw [h1]; rfl))).trans h3, h4⟩
theorem Ob.at_.mono {B' : Nat} (h : o.at_ B x) (hb : B' ≤ B) : o.at_ B' x := by
  cases hr : o.raw with
  | none => exact Ob.at_mk0 hr ((h.none_ hr).mono hb)
  | some φ =>
    obtain ⟨k, r, h1, h2, h3⟩ := h.some_ hr
    exact Ob.at_mkr hr ⟨k, r, h1, Nat.le_trans hb h2, h3⟩
theorem OW.nil (w : World) : OW w [] w := ⟨Below.refl _ _, fun o h => (by cases h), List.Pairwise.nil⟩
theorem OW.later (h : OW w os x) (k : Below x.heap.size x y) : OW w os y :=
  ⟨h.up.trans (k.mono h.up.size), fun o ho => (h.ob o ho).chg (S := fun _ => False) (Below.chg0 k) fun _ _ e => e, h.ne⟩
theorem OW.drew (h : OW w os x) : OW w os x.drew := h.later (Below.refl _ _).drew
theorem OW.al (h : OW w os x) (o : Obj) : OW w os (x.alloc o) := h.later ((Below.refl _ _).alloc (Nat.le_refl _) o)
theorem OW.perm (h : OW w os x) (hp : os.Perm os') : OW w os' x :=
  ⟨h.up, fun o ho => h.ob o (hp.mem_iff.2 ho), (hp.pairwise_iff (fun h => Ap.symm h)).1 h.ne⟩
theorem OW.sub (h : OW w os x) (hp : os'.Sublist os) : OW w os' x := ⟨h.up, fun o ho => h.ob o (hp.mem ho), h.ne.sublist hp⟩
theorem OW.erase (h : OW w os x) (i : Nat) : OW w (os.eraseIdx i) x := h.sub (List.eraseIdx_sublist _ _)
theorem OW.left (h : OW w (os ++ ps) x) : OW w os x := h.sub (List.sublist_append_left _ _)
theorem OW.right (h : OW w (os ++ ps) x) : OW w ps x := h.sub (List.sublist_append_right _ _)
theorem OW.app (h : OW w os x) (k : OW x ps y) : OW w (os ++ ps) y := by
  have h' := h.later k.up
  refine ⟨h'.up, fun o ho => ?_, ?_⟩
  · rcases List.mem_append.1 ho with ho | ho
    · exact h'.ob o ho
    · exact (k.ob o ho).mono h.up.size
  · refine List.pairwise_append.2 ⟨h.ne, k.ne, fun a ha b hb c hc e => ?_⟩
    have h1 := ((h.ob a ha).lt hc).2
    have h2 := ((k.ob b hb).lt e).1
    omega
theorem split_at {α : Type} {l : List α} {i : Nat} {a : α} (h : l[i]? = some a) : ∃ l1 l2, l = l1 ++ a :: l2 ∧ l1.length = i := by
  obtain ⟨hi, e⟩ := List.getElem?_eq_some_iff.1 h
  refine ⟨l.take i, l.drop (i + 1), ?_, by simp; omega⟩
  rw [← e, List.getElem_cons_drop, List.take_append_drop]
theorem OW.front (h : OW w os x) (hi : os[i]? = some o) : OW w (o :: os.eraseIdx i) x := by
  obtain ⟨l1, l2, rfl, rfl⟩ := split_at hi
  have e : (l1 ++ o :: l2).eraseIdx l1.length = l1 ++ l2 := by
    rw [List.eraseIdx_append_of_length_le (Nat.le_refl _), Nat.sub_self]; rfl
  rw [e]
  exact h.perm List.perm_middle
theorem OW.upd (h : OW w os x) (hi : os[i]? = some o) (hc : Chg S x y) (hS : ∀ b, b < x.heap.size → S b → o.blk = some b) (ho : p.at_ w.heap.size y) (hb : ∀ b, p.blk = some b → o.blk = some b ∨ x.heap.size ≤ b) : OW w (os.set i p) y := by
  obtain ⟨l1, l2, rfl, rfl⟩ := split_at hi
  have e : (l1 ++ o :: l2).set l1.length p = l1 ++ p :: l2 := by
    rw [List.set_append_right _ _ (Nat.le_refl _), Nat.sub_self]; rfl
  rw [e]
  obtain ⟨n1, n2, n3⟩ := List.pairwise_append.1 h.ne
  obtain ⟨n4, n5⟩ := List.pairwise_cons.1 n2
  have keep : ∀ q, q ∈ l1 ++ o :: l2 → Ap o q → q.at_ w.heap.size y := fun q hq ha =>
    (h.ob q hq).chg hc fun b hb hs => ha b (hS b ((h.ob q hq).lt hb).2 hs) hb
  have ap : ∀ q, q ∈ l1 ++ o :: l2 → Ap o q → Ap p q := fun q hq ha b hpb hqb => by
    rcases hb b hpb with h1 | h1
    · exact ha b h1 hqb
    · have := ((h.ob q hq).lt hqb).2; omega
  refine ⟨h.up.trans (hc.below h.up.size fun k hk hs => ((h.ob o (by simp)).lt (hS k hk hs)).1), fun q hq => ?_, List.pairwise_append.2 ⟨n1, List.pairwise_cons.2 ⟨fun q hq => ap q (by simp [hq]) (n4 q hq), n5⟩, fun q hq r hr => ?_⟩⟩
  · rcases List.mem_append.1 hq with h1 | h1
    · exact keep q (by simp [h1]) (Ap.symm (n3 q h1 o (by simp)))
    · rcases List.mem_cons.1 h1 with rfl | h1
      · exact ho
      · exact keep q (by simp [h1]) (n4 q h1)
  · rcases List.mem_cons.1 hr with rfl | h1
    · exact Ap.symm (ap q (by simp [hq]) (Ap.symm (n3 q hq o (by simp))))
    · exact n3 q hq r (by simp [h1])
theorem OW.get (h : OW w os x) (hi : os[i]? = some o) : o.at_ w.heap.size x := h.ob o (List.mem_of_getElem? hi)
theorem OW.apart (h : OW w os x) (hi : os[i]? = some o) (hj : os[j]? = some p) (hne : i ≠ j) : Ap o p := by
  obtain ⟨h1, e1⟩ := List.getElem?_eq_some_iff.1 hi
  obtain ⟨h2, e2⟩ := List.getElem?_eq_some_iff.1 hj
  subst e1; subst e2
  rcases Nat.lt_or_gt_of_ne hne with h3 | h3
  · exact List.pairwise_iff_getElem.1 h.ne i j h1 h2 h3
  · exact Ap.symm (List.pairwise_iff_getElem.1 h.ne j i h2 h1 h3)
theorem OW.box (h : OW w os x) (hi : os[i]? = some (boxO g cs)) : w.heap.size ≤ g ∧ g < x.heap.size ∧ x.rangeAt g 0 cs ∧ ∀ j, x.frozen? ⟨g, j, none⟩ = false := by
  obtain ⟨g', h1, h2⟩ := (h.get hi).1 rfl
  injection h1 with h1; injection h1 with h1; injection h1 with h1
  subst h1; exact h2
theorem OW.range (h : OW w os x) (hi : os[i]? = some (boxO g cs)) : x.rangeAt g 0 cs := (h.box hi).2.2.1
theorem OW.cell (h : OW w os x) (hi : os[i]? = some (boxO g cs)) (hv : cs[j]? = some v) : x.cell? ⟨g, j, none⟩ = some v := by
  have := h.range hi j v hv; rwa [Nat.zero_add] at this
theorem OW.fz (h : OW w os x) (hi : os[i]? = some (boxO g cs)) (j : Nat) : x.frozen? ⟨g, j, none⟩ = false := (h.box hi).2.2.2 j
theorem OW.row (h : OW w os x) (hi : os[i]? = some (rowO T sz v n cs)) : x.ownsRow w.heap.size T sz v n cs := (h.get hi).2 rfl
theorem OW.byt (h : OW w os x) (hi : os[i]? = some (bytO T (A, c, l))) : OwnB T w.heap.size x A c l := (h.get hi).2 rfl
theorem OW.sl (h : OW w os x) (hi : os[i]? = some (bytO T (A, c, l))) (hn : l.length = n) : Sl x A n c l := hn ▸ Sl.own (h.byt hi)
theorem OW.cellm (h : OW w os x) (hm : boxO g cs ∈ os) (hv : cs[j]? = some v) : x.cell? ⟨g, j, none⟩ = some v := by
  obtain ⟨i, hi⟩ := List.getElem?_of_mem hm
  exact h.cell hi hv
theorem OW.rowm (h : OW w os x) (hm : rowO T sz v n cs ∈ os) : x.ownsRow w.heap.size T sz v n cs := (h.ob _ hm).2 rfl
theorem OW.slm (h : OW w os x) (hm : bytO T (A, c, l) ∈ os) (hn : l.length = n) : Sl x A n c l := hn ▸ Sl.own (h.rowm (T := T) (sz := 1) hm)
theorem OW.row1 (k : Below x.heap.size x y) (h : y.ownsRow x.heap.size T sz v n cs) : OW x [rowO T sz v n cs] y :=
  ⟨k, fun o ho => by
    obtain rfl := List.mem_singleton.1 ho
    exact ⟨(fun e => nomatch e), fun _ => h⟩, List.pairwise_singleton _ _⟩
theorem OW.byt1 (k : Below x.heap.size x y) (h : OwnB T x.heap.size y A c l) : OW x [bytO T (A, c, l)] y :=
  ⟨k, fun o ho => by
    obtain rfl := List.mem_singleton.1 ho
    exact ⟨(fun e => nomatch e), fun _ => h⟩, List.pairwise_singleton _ _⟩
theorem OW.box1 (x : World) (t : TypeId) (cs : List Value) : OW x [boxO x.heap.size cs] (x.alloc (.cells cs.toArray t)) :=
  ⟨(Below.refl _ _).alloc (Nat.le_refl _) _, fun o ho => by
    obtain rfl := List.mem_singleton.1 ho
    exact ⟨fun _ => ⟨x.heap.size, rfl, Nat.le_refl _, by show _ < (x.heap.push _).size; simp, range_new _ _ _, fun j => by simp⟩, fun e => nomatch e⟩, List.pairwise_singleton _ _⟩
theorem OW.lit1 (x : World) (C : Array Value) (e : TypeId) (sz n : Nat) (hm : n ≤ maxLen) (hs : C.size = n * sz) : OW x [rowO e sz (.slice (some ⟨x.heap.size, 0, none⟩) n n) n C.toList] (x.alloc (.cells C e)) :=
  OW.row1 ((Below.refl _ _).alloc (Nat.le_refl _) _) (World.ownsRow_lit x C n (Nat.le_refl _) hm hs)
theorem byt_blk (r : Option Addr × Nat × List UInt8) : (bytO T r).blk = r.1.map (·.block) := by
  obtain ⟨A, c, l⟩ := r
  cases A <;> rfl
theorem OW.rows1 {rs : RowL} (k : Below x.heap.size x y) (h : RowsB T x.heap.size y rs) : OW x (rs.map (bytO T)) y := by
  refine ⟨k, fun o ho => ?_, ?_⟩
  · obtain ⟨r, hr, rfl⟩ := List.mem_map.1 ho
    obtain ⟨i, hi⟩ := List.getElem?_of_mem hr
    exact ⟨(fun e => nomatch e), fun _ => h.1 i r hi⟩
  · rw [List.pairwise_map]
    refine List.pairwise_iff_getElem.2 fun i j hi hj hij b hb e => ?_
    rw [byt_blk] at hb e
    obtain ⟨a, ha, ha'⟩ := Option.map_eq_some_iff.1 hb
    obtain ⟨a2, ha2, ha2'⟩ := Option.map_eq_some_iff.1 e
    exact h.2 i j _ _ (List.getElem?_eq_getElem hi) (List.getElem?_eq_getElem hj) (Nat.ne_of_lt hij) a a2 ha ha2 (ha'.trans ha2'.symm)
theorem St.ow {T : TypeId} {bs : List (Nat × List Value)} {rs : RowL} (h : St T w (bs.map some) rs x) : OW w (bs.map (fun b => boxO b.1 b.2) ++ rs.map (bytO T)) x := by
  have hr := OW.rows1 (x := w) h.up h.rows
  refine ⟨h.up, fun o ho => ?_, List.pairwise_append.2 ⟨?_, hr.ne, fun o ho p hp b hb e => ?_⟩⟩
  · rcases List.mem_append.1 ho with ho | ho
    · obtain ⟨⟨g, cs⟩, hb, rfl⟩ := List.mem_map.1 ho
      obtain ⟨i, hi⟩ := List.getElem?_of_mem hb
      obtain ⟨h1, h2, h3, h4⟩ := h.box i g cs (by rw [List.getElem?_map, hi]; rfl)
      exact ⟨fun _ => ⟨g, rfl, h1, h2, h3, h4⟩, fun e => nomatch e⟩
    · exact hr.ob o ho
  · rw [List.pairwise_map]
    refine List.pairwise_iff_getElem.2 fun i j hi hj hij b hb e => ?_
    injection hb with hb
    injection e with e
    refine h.ne i j bs[i].1 bs[i].2 bs[j].1 bs[j].2 (by rw [List.getElem?_map, List.getElem?_eq_getElem hi]; rfl) (by rw [List.getElem?_map, List.getElem?_eq_getElem hj]; rfl) (Nat.ne_of_lt hij) (hb.trans e.symm)
  · obtain ⟨⟨g, cs⟩, hb', rfl⟩ := List.mem_map.1 ho
    obtain ⟨r, hr', rfl⟩ := List.mem_map.1 hp
    obtain ⟨i, hi⟩ := List.getElem?_of_mem hb'
    obtain ⟨j, hj⟩ := List.getElem?_of_mem hr'
    rw [byt_blk] at e
    obtain ⟨a, ha, ha'⟩ := Option.map_eq_some_iff.1 e
    injection hb with hb
    exact h.off i j g cs r a (by rw [List.getElem?_map, hi]; rfl) hj ha (ha'.trans hb.symm)
theorem OW.putR (h : OW w os x) (hi : os[i]? = some (boxO g cs)) (hc : Chg (fun b => b = g) x y) (hr : y.rangeAt g 0 vs) (hf : ∀ q, y.frozen? q = x.frozen? q) : OW w (os.set i (boxO g vs)) y := by
  obtain ⟨h1, h2, h3, h4⟩ := h.box hi
  exact h.upd hi hc (fun b _ e => by subst e; rfl) ⟨fun _ => ⟨g, rfl, h1, Nat.lt_of_lt_of_le h2 hc.size, hr, fun j => (hf _).trans (h4 j)⟩, fun e => nomatch e⟩ fun b hb => .inl hb
theorem OW.put (h : OW w os x) (hi : os[i]? = some (boxO g cs)) (hl : vs.length = cs.length) : OW w (os.set i (boxO g vs)) (x.setCells g 0 vs) := by
  obtain ⟨h1, h2, h3, h4⟩ := h.box hi
  exact h.putR hi (setCells_chg g vs 0 x) (World.rangeAt_setCells_same x g 0 vs fun j hj => ⟨h3.isSome j (by omega), by rw [Nat.zero_add]; exact h4 j⟩) fun q => World.frozen?_setCells _ _ _ _ _
theorem OW.put1 (h : OW w os x) (hi : os[i]? = some (boxO g cs)) (j : Nat) (u : Value) : OW w (os.set i (boxO g (cs.set j u))) (x.setCell ⟨g, j, none⟩ u) := by
  obtain ⟨h1, h2, hr, h4⟩ := h.box hi
  refine h.putR hi (Chg.setCell x ⟨g, j, none⟩ u) (fun k q hk => ?_) fun q => World.frozen?_setCell _ _ _ _
  rw [Nat.zero_add]
  rw [List.getElem?_set] at hk
  by_cases e : j = k
  · subst e
    rw [if_pos rfl] at hk
    split at hk
    · rename_i hlt
      injection hk with hk; subst hk
      have := hr j _ (List.getElem?_eq_getElem hlt)
      rw [Nat.zero_add] at this
      exact World.cell?_setCell_same _ _ _ this
    · cases hk
  · rw [if_neg e] at hk
    rw [World.cell?_setCell_other _ _ _ _ (fun e' => by injection e' with _ e' _; exact e e')]
    have := hr k q hk
    rwa [Nat.zero_add] at this
theorem OW.grow {v' : Value} {m : Nat} (h : OW w os x) (hi : os[i]? = some (rowO T sz v n cs)) (ho : y.ownsRow w.heap.size T sz v' m vs) (hg : x.grownBy y v.ownBlock) (hat : v'.ownBlock = v.ownBlock ∨ v'.ownBlock = some x.heap.size) : OW w (os.set i (rowO T sz v' m vs)) y := by
  have hr := h.row hi
  refine h.upd hi (grown_chg hg) (fun b _ e => by show vBlock v = _; rw [own_vblock hr]; exact e) ⟨(fun e => nomatch e), fun _ => ho⟩ fun b hb => ?_
  have hb : vBlock v' = some b := hb
  rw [own_vblock ho] at hb
  rcases hat with e | e
  · left; show vBlock v = _; rw [own_vblock hr, ← e]; exact hb
  · right; rw [e] at hb; injection hb with hb; omega
theorem OW.store {cap : Nat} (h : OW w os x) (hi : os[i]? = some (rowO T sz (.slice (some ⟨g, 0, none⟩) n cap) n cs)) (j : Nat) (u : Value) : OW w (os.set i (rowO T sz (.slice (some ⟨g, 0, none⟩) n cap) n (cs.set j u))) (x.setCell ⟨g, j, none⟩ u) :=
  h.upd hi (Chg.setCell x ⟨g, j, none⟩ u) (fun b _ e => by subst e; rfl) ⟨(fun e => nomatch e), fun _ => (World.ownsRow.stored (h.row hi) j u).1⟩ fun b hb => .inl hb
end
end Go.Proofs.YtfdbcfaeiglbeaaGreatDoor
