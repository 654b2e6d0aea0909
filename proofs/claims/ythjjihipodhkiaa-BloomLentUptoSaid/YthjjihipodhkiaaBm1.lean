/-
  Laid together by merge.py: Kit, Bytes, Kit2, Kit3, Kit4, Kit5, Kit6, Kit7, Kit8, Kit9, Kit10, Kit11, BloomP, BloomW1, BloomW2, BloomW3, BloomW4, BloomP2, BloomW5, BloomW6, BloomP3a, BloomP3, BloomP4, BloomP5, BloomW7, BloomW8, BloomW9, BloomP6, BloomP7.
-/
import Derived.WalkKit
import Derived.WalkSpells
import Derived.WalkLawsBesides
import Derived.Deep.AppendLies
import Derived.Deep.Draws
import Derived.Maps.AppendAt
import Derived.Lib.Hide
import Derived.Deep.QuietTactic
import Derived.BigQuiet
import Derived.Laws.CopyOwn
import Derived.Laws.IdiomStrings
import Derived.Laws.OwnMore
import Derived.Laws.BitsAllLaws
import Derived.Test.YthjjihipodhkiaaRows
import Derived.BigRegion
import Derived.Deep.DeepCutAuto
import Derived.Maps.OwnSet
import Derived.Maps.RangeWalk
import Derived.Sort.MapsRangeIn
import Derived.Lib.MinMax
import Derived.Lib.SlBytesConst

/-
  Words of mine for memory, over any program: a slice that reads as a list of cells (nil let in); append onto a row of the call's own out of any such slice.
-/
namespace Go.Proofs.Ythjjihipodhkiaa
open Go.RowKit

theorem ret_int {k : IntKind} {a b : Int} (h : a = b) : Ending.returned (.int k a) = .returned (.int k b) := by rw [h]
theorem ret_bool {a b : Bool} (h : a = b) : Ending.returned (.bool a) = .returned (.bool b) := by rw [h]

/-- The slice value '.slice A n c' holds the cells xs, below block B. -/
def Reads (w : World) (B size : Nat) (A : Option Addr) (n : Nat) (xs : List Value) : Prop :=
  xs.length = n * size ∧ (0 < n → ∃ b o, A = some ⟨b, o, none⟩ ∧ b < B ∧ ∀ j u, xs[j]? = some u → w.cell? ⟨b, o + j, none⟩ = some u)

section
variable {w w' : World} {B B' size n : Nat} {A : Option Addr} {xs : List Value}
theorem Reads.nil : Reads w B size A 0 [] := ⟨by simp, fun h => absurd h (by omega)⟩
theorem Reads.keep (h : Reads w B size A n xs) (hk : ∀ p : Addr, p.block < B → w'.cell? p = w.cell? p) : Reads w' B size A n xs :=
  ⟨h.1, fun hn => by
    obtain ⟨b, o, e, hb, hc⟩ := h.2 hn
    exact ⟨b, o, e, hb, fun j u hu => (hk _ hb).trans (hc j u hu)⟩⟩
theorem Reads.more (h : Reads w B size A n xs) (hB : B ≤ B') : Reads w B' size A n xs :=
  ⟨h.1, fun hn => by
    obtain ⟨b, o, e, hb, hc⟩ := h.2 hn
    exact ⟨b, o, e, by omega, hc⟩⟩
theorem Reads.below (h : Reads w B size A n xs) (hb : Below B w w') : Reads w' B size A n xs := h.keep fun _ hp => hb.cell hp
theorem Reads.alloc (h : Reads w B size A n xs) (hB : B ≤ w.heap.size) (o : Obj) : Reads (w.alloc o) B size A n xs := h.keep fun p hp => World.cell?_alloc_lt w o p (by omega)
theorem Reads.drew (h : Reads w B size A n xs) : Reads w.drew B size A n xs := h
theorem Reads.grown (h : Reads w B size A n xs) {row : Option Nat} (hg : w.grownBy w' row) (hB : B ≤ w.heap.size) (hr : ∀ g, row = some g → B ≤ g) : Reads w' B size A n xs :=
  h.keep fun p hp => World.cell?_of_block (hg.block p.block (by omega) (fun e => by have := hr _ e.symm; omega))
theorem Reads.take (h : Reads w B size A n xs) {m : Nat} (hm : m ≤ n) : Reads w B size A m (xs.take (m * size)) :=
  ⟨by rw [List.length_take, h.1, Nat.min_eq_left (Nat.mul_le_mul_right _ hm)], fun h0 => by
    obtain ⟨b, o, e, hb, hc⟩ := h.2 (by omega)
    exact ⟨b, o, e, hb, fun j u hu => hc j u (by rw [List.getElem?_take] at hu; split at hu <;> simp_all)⟩⟩
/-- A block that was just made. -/
theorem Reads.new (w : World) (c : Array Value) (t : TypeId) (size n : Nat) (h : c.size = n * size) : Reads (w.alloc (.cells c t)) (w.heap.size + 1) size (some ⟨w.heap.size, 0, none⟩) n c.toList :=
  ⟨by simpa using h, fun _ => ⟨w.heap.size, 0, rfl, by omega, fun j u hu => by simpa using hu⟩⟩
theorem Reads.own {base : Nat} {e : TypeId} {c : Nat} (h : w.ownsRow base e size (.slice A n c) n xs) : Reads w w.heap.size size A n xs := by
  refine ⟨h.1, fun hn => ?_⟩
  rcases h.2 with ⟨hv, h0⟩ | ⟨g, cap, cur, hv, hb, hg, _⟩
  · omega
  · have hA : A = some ⟨g, 0, none⟩ := by injection hv
    subst hA
    refine ⟨g, 0, rfl, (Array.getElem?_eq_some_iff.1 hg).1, fun j u hu => ?_⟩
    have := h.cells (g := g) rfl j u hu
    rw [Nat.zero_add]
    unfold Addr.add at this
    split at this
    · rename_i h0; subst h0; exact this
    · simpa using this
end

/-- The slice type t, its element type e, in the program's tables. -/
structure SliceOf (P : Program) (t e : TypeId) (size bytes : Nat) : Prop where
  slice : P.underlying t = some (.slice e)
  info : ∃ i z, P.info? e = some i ∧ i.zero = some z ∧ i.size = size ∧ i.bytes = bytes ∧ z.cells.size = size
  pos : 0 < size

theorem SliceOf.mk' {P : Program} {t e : TypeId} {size bytes : Nat} {z : Value} (h : P.underlying t = some (.slice e)) (hi : (P.info? e).map (fun i => (i.zero, i.size, i.bytes)) = some (some z, size, bytes)) (hz : z.cells.size = size) (hp : 0 < size) : SliceOf P t e size bytes := by
  obtain ⟨i, h1, h2, h3, h4⟩ := info_parts hi
  exact ⟨h, ⟨i, z, h1, h2, h3, h4, hz⟩, hp⟩

section
variable {P : Program} (w : World)

theorem run_append_of_nil (base : Nat) (t ty e : TypeId) (i : TypeInfo) (size : Nat) (ht : P.underlying t = some (.slice e)) (hi : P.info? e = some i)
    (v : Value) (n : Nat) (xs : List Value) (hown : w.ownsRow base e size v n xs) (c : Nat) : (Builtin.append_ #[t, t] ty #[v, .slice none 0 c]).run P w = .ok v w := by
  rcases hown.2 with ⟨rfl, rfl⟩ | ⟨g, cap, cur, rfl, _, _, hnc, _⟩
  · simp [Builtin.append_, run_underlying ht, sizeOf, typeInfo, hi, Builtin.lenOf, Builtin.firstCells]
  · simp [Builtin.append_, run_underlying ht, sizeOf, typeInfo, hi, Builtin.lenOf, Builtin.firstCells, hnc, storeCells]

theorem run_append_reads {t ty e : TypeId} {size bytes : Nat} (hs : SliceOf P t e size bytes) (base : Nat) (v : Value) (n : Nat) (xs : List Value) (hown : w.ownsRow base e size v n xs)
    (B : Nat) (A : Option Addr) (m c : Nat) (news : List Value) (hr : Reads w B size A m news) (h1 : ∀ u ∈ news, u.oneCell' = true)
    (h63 : n + m ≤ maxLen) (hbytes : (n + m) * bytes ≤ 140737488355328) (hbase : base ≤ w.heap.size) :
    ∃ v' w', (Builtin.append_ #[t, t] ty #[v, .slice A m c]).run P w = .ok v' w' ∧ w'.ownsRow base e size v' (n + m) (xs ++ news) ∧ w.grownBy w' v.ownBlock ∧
      (v'.ownBlock = v.ownBlock ∨ v'.ownBlock = some w.heap.size) := by
  obtain ⟨ht, ⟨i, z, hi, hz, hsize, hby, hzs⟩, hsz⟩ := hs
  rcases A with _ | ad
  · have hm : m = 0 := by
      rcases Nat.eq_zero_or_pos m with h0 | h0
      · exact h0
      · obtain ⟨b, o, h, _⟩ := hr.2 h0
        cases h
    subst hm
    have hn : news = [] := List.eq_nil_of_length_eq_zero (by simpa using hr.1)
    subst hn
    exact ⟨v, w, run_append_of_nil w base t ty e i size ht hi v n xs hown c, by simpa using hown, World.grownBy.refl w _, .inl rfl⟩
  · have hcells : ∀ j u, news[j]? = some u → w.cell? (ad.add j) = some u := by
      intro j u hu
      rcases Nat.eq_zero_or_pos m with h0 | h0
      · subst h0
        have hn : news = [] := List.eq_nil_of_length_eq_zero (by simpa using hr.1)
        subst hn
        simp at hu
      · obtain ⟨b, o, h, _, hc⟩ := hr.2 h0
        injection h with h
        subst h
        have := hc j u hu
        unfold Addr.add
        split
        · rename_i h0; subst h0; exact this
        · exact this
    obtain ⟨v', w', hrun, h2, h3, _, h5⟩ := run_append_own_at (P := P) w base t ty e i z size bytes ht hi hz hsize hby hzs hsz v n xs hown ad m c news hr.1 hcells h1 h63 hbytes hbase
    exact ⟨v', w', hrun, h2, h3, h5⟩

theorem wp_append_reads {o : Oper} {a : Act} {K : Act → World → Prop} {Q : Exit → Act → World → Prop} (s x : Operand) {t e : TypeId} {size bytes : Nat}
    (ho : o.op = .call { callee := .builtin .append, args := #[s, x], argTypes := #[t, t] }) (hS : SliceOf P t e size bytes)
    (base : Nat) (v : Value) (n : Nat) (xs : List Value) (hs : a.eval s = v) (hown : w.ownsRow base e size v n xs)
    (B : Nat) (A : Option Addr) (m c : Nat) (news : List Value) (hx : a.eval x = .slice A m c) (hr : Reads w B size A m news) (h1 : ∀ u ∈ news, u.oneCell' = true)
    (h63 : n + m ≤ maxLen) (hbytes : (n + m) * bytes ≤ 140737488355328) (hbase : base ≤ w.heap.size)
    (h : ∀ v' w', w'.ownsRow base e size v' (n + m) (xs ++ news) → w.grownBy w' v.ownBlock → (v'.ownBlock = v.ownBlock ∨ v'.ownBlock = some w.heap.size) → K (a.put o.dst v') w') : o.wp P a w K Q := by
  obtain ⟨v', w', hrun, h2, h3, h4⟩ := run_append_reads (P := P) w (ty := o.type) hS base v n xs hown B A m c news hr h1 h63 hbytes hbase
  unfold Oper.wp execOp
  simp only [ho, resolve, invoke, builtin, Sem.run_bind, Sem.run_pure, Result.andThen_ok, List.map_toArray, List.map_cons, List.map_nil, hs, hx, hrun]
  exact h v' w' h2 h3 h4

/-- 'append(s, x...)', s nil or of the call's own, x any slice that reads. -/
theorem wpList_append_reads {ops : Array Oper} {rest : List Oper} {o : Oper} {a : Act} {Q : Exit → Act → World → Prop} (hgd : o.guard = none) (s x : Operand) {t e : TypeId} {size bytes : Nat}
    (ho : o.op = .call { callee := .builtin .append, args := #[s, x], argTypes := #[t, t] }) (hS : SliceOf P t e size bytes)
    (base : Nat) (v : Value) (n : Nat) (xs : List Value) (hs : a.eval s = v) (hown : w.ownsRow base e size v n xs)
    (B : Nat) (A : Option Addr) (m c : Nat) (news : List Value) (hx : a.eval x = .slice A m c) (hr : Reads w B size A m news) (h1 : ∀ u ∈ news, u.oneCell' = true)
    (h63 : n + m ≤ maxLen) (hbytes : (n + m) * bytes ≤ 140737488355328) (hbase : base ≤ w.heap.size)
    (h : ∀ v' w', w'.ownsRow base e size v' (n + m) (xs ++ news) → w.grownBy w' v.ownBlock → (v'.ownBlock = v.ownBlock ∨ v'.ownBlock = some w.heap.size) → wpList P ops Q rest (a.put o.dst v') w') : wpList P ops Q (o :: rest) a w :=
  wpList_plain hgd fun _ hK => wp_append_reads w s x ho hS base v n xs hs hown B A m c news hx hr h1 h63 hbytes hbase fun v' w' h2 h3 h4 => hK _ _ (h v' w' h2 h3 h4)
end

/-- What a row of the call's own is, where it holds something. -/
theorem own_form {w : World} {base e size n : Nat} {v : Value} {xs : List Value} (h : w.ownsRow base e size v n xs) (hn : 0 < n) :
    ∃ g cap, v = .slice (some ⟨g, 0, none⟩) n cap ∧ base ≤ g ∧ g < w.heap.size ∧ n ≤ cap ∧ cap ≤ maxLen := by
  rcases h.2 with ⟨_, h0⟩ | ⟨g, cap, cur, hv, hb, hg, hc, hm, _⟩
  · omega
  · exact ⟨g, cap, hv, hb, (Array.getElem?_eq_some_iff.1 hg).1, hc, hm⟩

/-- Below, over an append's 'grownBy'. -/
theorem below_app {B : Nat} {a w w' : World} {v : Value} {e size n base : Nat} {xs : List Value} (h : Below B a w) (hown : w.ownsRow base e size v n xs) (hg : w.grownBy w' v.ownBlock) (hB : B ≤ w.heap.size) (hb : B ≤ base) : Below B a w' :=
  h.grown hg hB fun k hk => Nat.le_trans hb (hown.lt k hk).1

theorem grown_trans {a b c : World} {r : Option Nat} (h : a.grownBy b r) (k : b.grownBy c r) : a.grownBy c r :=
  ⟨k.os.trans h.os, k.tape.trans h.tape, k.output.trans h.output, Nat.le_trans h.size k.size, fun i hi hr => (k.block i (Nat.lt_of_lt_of_le hi h.size) hr).trans (h.block i hi hr)⟩
theorem below_grown {a b : World} (h : Below a.heap.size a b) (r : Option Nat) : a.grownBy b r := ⟨h.os, h.tape, h.output, h.size, fun i hi _ => h.block i hi⟩
theorem grown_below {a b : World} {r : Option Nat} (h : a.grownBy b r) {B : Nat} (hB : B ≤ a.heap.size) (hr : ∀ k, r = some k → B ≤ k) : Below B a b :=
  (Below.refl B a).grown h hB hr
theorem own_below {w w' : World} {base e size n : Nat} {v : Value} {xs : List Value} (h : w.ownsRow base e size v n xs) (hb : Below w.heap.size w w') : w'.ownsRow base e size v n xs := by
  refine h.kept (below_grown hb none) ?_
  cases hv : v.ownBlock <;> simp

/-- A world in which all that was there in W stands as it stood. -/
structure Later (W : World) where
  w : World
  h : Below W.heap.size W w
def Later.now (W : World) : Later W := ⟨W, Below.refl _ _⟩
instance (W : World) : Nonempty (Later W) := ⟨Later.now W⟩
def Later.then {W : World} (L : Later W) {w' : World} (h : Below L.w.heap.size L.w w') : Later W := ⟨w', L.h.trans (h.mono L.h.size)⟩
theorem Later.cell {W : World} (L : Later W) {p : Addr} (v : Value) (h : W.cell? p = some v) : L.w.cell? p = some v :=
  (L.h.cell (World.block_lt_of_cell? W p h)).trans h
theorem Later.calls {P : Program} {f : FuncId} {args : Array Value} {W : World} {L : Later W} {v : Value}
    (h : Calls P f args L.w fun e w' => e = .returned v ∧ Below L.w.heap.size L.w w') : Calls P f args L.w fun e w'' => e = .returned v ∧ ∃ L' : Later W, w'' = L'.w :=
  h.mono fun _ _ ⟨he, hb⟩ => ⟨he, L.then hb, rfl⟩
theorem Later.calls_same {P : Program} {f : FuncId} {args : Array Value} {W : World} {L : Later W} {v : Value}
    (h : Calls P f args L.w fun e w' => e = .returned v ∧ L.w = w') : Calls P f args L.w fun e w'' => e = .returned v ∧ ∃ L' : Later W, w'' = L'.w :=
  h.mono fun _ _ ⟨he, hb⟩ => ⟨he, L, hb.symm⟩

theorem cell_alloc_old {w : World} {p : Addr} {v : Value} {o : Obj} (h : w.cell? p = some v) : (w.alloc o).cell? p = some v :=
  (World.cell?_alloc_lt w o p (World.block_lt_of_cell? w p h)).trans h
theorem cell_set_far {w : World} {p q : Addr} {v u : Value} (h : w.cell? p = some v) (hne : q.block ≠ p.block) : (w.setCell q u).cell? p = some v :=
  (World.cell?_setCell_other w q p u (fun e => hne (by rw [e]))).trans h
theorem cell_below {w w' : World} {p : Addr} {v : Value} (hb : Below w.heap.size w w') (h : w.cell? p = some v) : w'.cell? p = some v :=
  (hb.cell (World.block_lt_of_cell? w p h)).trans h
theorem bcells {W w1 : World} (hb : Below W.heap.size W w1) : (∀ b o, b < W.heap.size → w1.cell? ⟨b, o, none⟩ = W.cell? ⟨b, o, none⟩) ∧ (∀ b o, b < W.heap.size → w1.frozen? ⟨b, o, none⟩ = W.frozen? ⟨b, o, none⟩) ∧ (∀ b, b < W.heap.size → b < w1.heap.size) :=
  ⟨fun b o h => hb.cell (p := ⟨b, o, none⟩) h, fun b o h => hb.frozen (p := ⟨b, o, none⟩) h, fun _ h => Nat.lt_of_lt_of_le h hb.size⟩

/-! For go_region_held3: one cell and 'Below', kept. -/
theorem keep_call {w x w1 : World} {p : Addr} {v : Value} (hb : Below x.heap.size x w1) (h : x.cell? p = some v ∧ Below w.heap.size w x) : w1.cell? p = some v ∧ Below w.heap.size w w1 :=
  ⟨(hb.cell (World.block_lt_of_cell? x p h.1)).trans h.1, h.2.trans (hb.mono h.2.size)⟩
theorem keep_alloc {w x : World} {p : Addr} {v : Value} {o : Obj} (h : x.cell? p = some v ∧ Below w.heap.size w x) : (x.alloc o).cell? p = some v ∧ Below w.heap.size w (x.alloc o) :=
  ⟨(World.cell?_alloc_lt x o p (World.block_lt_of_cell? x p h.1)).trans h.1, h.2.alloc h.2.size o⟩
theorem keep_set {w x : World} {p q : Addr} {v u : Value} (h : x.cell? p = some v ∧ Below w.heap.size w x) (hq : w.heap.size ≤ q.block) (hne : q.block ≠ p.block) : (x.setCell q u).cell? p = some v ∧ Below w.heap.size w (x.setCell q u) :=
  ⟨(World.cell?_setCell_other x q p u (fun e => hne (e ▸ rfl))).trans h.1, h.2.setCell hq u⟩

/-- A region that draws its order, whose operations only read and whose callees leave all that was there: one walk of the text's order. -/
theorem wp_region_later {P : Program} {id : Nat} {Q : Exit → Act → World → Prop} {a : Act} {w : World} {l : List Oper} (hm : P.follows .mixedOrders = true) (hB : Region.lexB .any l.toArray = true)
    (h : wpQuiet P l.toArray (fun w' => ∃ L : Later w, w' = L.w) (fun a' => ∀ L : Later w, Q .normal a' L.w) l a) : (Code.region id l.toArray true).wp P Q a w := by
  refine wp_region_quiet (C := fun w' => ∃ L : Later w, w' = L.w) hm hB ⟨⟨{ w with drawn := w.drawn + 1 }, ⟨rfl, rfl, rfl, Nat.le_refl _, fun _ _ => rfl⟩⟩, rfl⟩ ?_
  have e : (fun a' => ∀ w', (∃ L : Later w, w' = L.w) → Q .normal a' w') = (fun a' => ∀ L : Later w, Q .normal a' L.w) :=
    funext fun a' => propext ⟨fun h L => h _ ⟨L, rfl⟩, fun h w' ⟨L, e⟩ => e ▸ h L⟩
  rw [e]
  exact h

section
variable {P : Program}
/-- 'copy(d, s)', d a row of the call's own, s any slice that reads and is no longer. -/
theorem wpList_copy_reads {w : World} {ops : Array Oper} {rest : List Oper} {o : Oper} {a : Act} {Q : Exit → Act → World → Prop} (hgd : o.guard = none) (d s : Operand) {t e : TypeId} {bytes : Nat}
    (ho : o.op = .call { callee := .builtin .copy, args := #[d, s], argTypes := #[t, t] }) (hS : SliceOf P t e 1 bytes) (base g n cap : Nat) (cur : List Value) (hd : a.eval d = .slice (some ⟨g, 0, none⟩) n cap)
    (hown : w.ownsRow base e 1 (.slice (some ⟨g, 0, none⟩) n cap) n cur) (B : Nat) (A : Option Addr) (m c : Nat) (src : List Value) (hs : a.eval s = .slice A m c) (hr : Reads w B 1 A m src) (hmn : m ≤ n) (h1 : ∀ u ∈ src, u.oneCell' = true)
    (h : ∀ w', w'.ownsRow base e 1 (.slice (some ⟨g, 0, none⟩) n cap) n (src ++ cur.drop m) → w.grownBy w' (some g) → wpList P ops Q rest (a.put o.dst (goInt m)) w') : wpList P ops Q (o :: rest) a w := by
  obtain ⟨ht, ⟨i, z, hi, _, hsize, _, _⟩, _⟩ := hS
  have hsz : (P.info? e).map (·.size) = some 1 := by rw [hi]; simp [hsize]
  have hl : src.length = m := by have := hr.1; omega
  by_cases h0 : m = 0
  · subst h0
    have hsrc : src = [] := List.eq_nil_of_length_eq_zero hl
    subst hsrc
    exact wpList_copy_nothing hgd d s t t ho e ht hsz _ A n cap 0 c hd hs (by simp) (h w (by simpa using hown) (World.grownBy.refl _ _))
  · obtain ⟨b, of, rfl, hb, hc⟩ := hr.2 (by omega)
    rcases hown.2 with ⟨h', _⟩ | ⟨g', cap', curA, h', hbg, hg, hnc, hcm, hcs, htk⟩
    · cases h'
    · injection h' with h1' h2' h3'
      injection h1' with h1'; injection h1' with h1'
      subst h1'; subst h3'
      rw [Nat.mul_one] at hcs htk
      refine wpList_copy_own hgd d s t t ho e ht hsz g 0 n cap ⟨b, of, none⟩ m c hd hs curA e hg src (by rw [hl]; exact (Nat.min_eq_left hmn).symm) (fun j v hv => ?_) (by omega) h1 ?_
      · have := hc j v hv
        unfold Addr.add
        split
        · rename_i hj; subst hj; exact this
        · exact this
      · rw [hl]
        refine h _ ⟨?_, .inr ⟨g, cap, _, rfl, hbg, setRow_heap w g curA _ e _ hg, hnc, hcm, ?_, ?_⟩⟩ ⟨rfl, rfl, rfl, by simp [World.setRow], fun k _ hk => setRow_other w g k _ (fun e => hk (by rw [e]))⟩
        · have := hown.1
          simp only [List.length_append, List.length_drop]; omega
        · simp only [List.size_toArray, List.length_append, List.length_take, List.length_drop, Array.length_toList]; omega
        · rw [Nat.mul_one, ← htk]
          simp only [List.take_zero, List.nil_append, Nat.zero_add]
          rw [List.take_append, List.take_of_length_le (by omega), List.drop_take, hl]
end

end Go.Proofs.Ythjjihipodhkiaa

/-
  Byte slices that read as lists of bytes; lists of byte slices. Over any program.
-/
namespace Go.Proofs.Ythjjihipodhkiaa
open Go.RowKit

def u8v (c : UInt8) : Value := .int .u8 (c.toNat : Int)
def u8s (l : List UInt8) : List Value := l.map u8v
theorem u8s_length (l : List UInt8) : (u8s l).length = l.length := by simp [u8s]
theorem u8s_append (a b : List UInt8) : u8s (a ++ b) = u8s a ++ u8s b := by simp [u8s]
theorem u8s_one (l : List UInt8) : ∀ u ∈ u8s l, u.oneCell' = true := by
  intro u hu
  obtain ⟨c, _, rfl⟩ := List.mem_map.1 hu
  rfl
theorem u8s_at {l : List UInt8} {k : Nat} {c : UInt8} (h : l[k]? = some c) : (u8s l)[k]? = some (.int .u8 (c.toNat : Int)) := by
  simp [u8s, h, u8v]

/-- The slice '.slice A n c' reads as the bytes l, below block B. -/
def RB (w : World) (B : Nat) (A : Option Addr) (n : Nat) (l : List UInt8) : Prop := Reads w B 1 A n (u8s l)
section
variable {w w' : World} {B B' n : Nat} {A : Option Addr} {l : List UInt8}
theorem RB.len (h : RB w B A n l) : l.length = n := by have := h.1; rw [u8s_length, Nat.mul_one] at this; exact this
theorem RB.mk' (hn : l.length = n) (h : 0 < n → ∃ b o, A = some ⟨b, o, none⟩ ∧ b < B ∧ ∀ j c, l[j]? = some c → w.cell? ⟨b, o + j, none⟩ = some (.int .u8 (c.toNat : Int))) : RB w B A n l :=
  ⟨by rw [u8s_length, Nat.mul_one]; exact hn, fun h0 => by
    obtain ⟨b, o, e, hb, hc⟩ := h h0
    refine ⟨b, o, e, hb, fun j u hu => ?_⟩
    simp only [u8s, List.getElem?_map, Option.map_eq_some_iff] at hu
    obtain ⟨c, hj, rfl⟩ := hu
    exact hc j c hj⟩
theorem RB.nil : RB w B A 0 [] := Reads.nil
/-- Where the slice holds something: its address, and each cell. -/
theorem RB.at_ (h : RB w B A n l) {k : Nat} (hk : k < n) : ∃ b o c, A = some ⟨b, o, none⟩ ∧ b < B ∧ l[k]? = some c ∧ w.cell? ⟨b, o + k, none⟩ = some (.int .u8 (c.toNat : Int)) := by
  obtain ⟨b, o, e, hb, hc⟩ := h.2 (by omega)
  have hl := h.len
  have hk' : l[k]? = some (l[k]'(by omega)) := List.getElem?_eq_getElem (by omega)
  exact ⟨b, o, _, e, hb, hk', hc k _ (u8s_at hk')⟩
theorem RB.cell {b o : Nat} (h : RB w B (some ⟨b, o, none⟩) n l) {k : Nat} {c : UInt8} (hc : l[k]? = some c) : w.cell? ⟨b, o + k, none⟩ = some (.int .u8 (c.toNat : Int)) := by
  have hk : k < l.length := (List.getElem?_eq_some_iff.1 hc).1
  obtain ⟨b', o', e, _, h'⟩ := h.2 (by have := h.len; omega)
  injection e with e; injection e with e1 e2
  subst e1; subst e2
  exact h' k _ (u8s_at hc)
theorem RB.more (h : RB w B A n l) (hB : B ≤ B') : RB w B' A n l := Reads.more h hB
theorem RB.below (h : RB w B A n l) (hb : Below B w w') : RB w' B A n l := Reads.below h hb
/-- The slice still reads in every world in which all that was there stands. -/
theorem RB.later (h : RB w w.heap.size A n l) (hb : Below w.heap.size w w') : RB w' w'.heap.size A n l := (h.below hb).more hb.size
theorem RB.own {base : Nat} {e : TypeId} {c : Nat} (h : w.ownsRow base e 1 (.slice A n c) n (u8s l)) : RB w w.heap.size A n l := Reads.own h
theorem RB.take (h : RB w B A n l) {m : Nat} (hm : m ≤ n) : RB w B A m (l.take m) := by
  have := Reads.take h hm
  rwa [Nat.mul_one, show (u8s l).take m = u8s (l.take m) from by simp [u8s]] at this
/-- 's[k:]', with the model's own 'if'. -/
theorem RB.drop (h : RB w B A n l) {k cap : Nat} (hk : k ≤ n) (hc : n ≤ cap) : RB w B (if cap = k then A else A.map (·.add k)) (n - k) (l.drop k) := by
  refine RB.mk' (by rw [List.length_drop, h.len]) fun hn => ?_
  obtain ⟨b, o, rfl, hb, hcell⟩ := h.2 (by omega)
  rw [if_neg (by omega)]
  refine ⟨b, o + k, ?_, hb, fun j c hj => ?_⟩
  · simp only [Option.map_some]
    unfold Addr.add
    split
    · rename_i h0; subst h0; rfl
    · rfl
  · rw [Nat.add_assoc]
    rw [List.getElem?_drop] at hj
    exact hcell _ _ (u8s_at hj)
end

theorem take_snoc {α : Type} {l : List α} {k : Nat} {c : α} (h : l[k]? = some c) : l.take (k + 1) = l.take k ++ [c] := by
  obtain ⟨hk, e⟩ := List.getElem?_eq_some_iff.1 h
  rw [List.take_succ_eq_append_getElem hk, e]
theorem take_all {α : Type} {l : List α} {k : Nat} (h : l.length ≤ k) : l.take k = l := List.take_of_length_le h

/-- A list of byte slices: the outer slice holds slices, each of which reads. -/
def RBs (w : World) (B : Nat) (A : Option Addr) (n : Nat) (ks : List (List UInt8)) : Prop :=
  ∃ vs : List Value, Reads w B 1 A n vs ∧ vs.length = ks.length ∧ ∀ (i : Nat) (k : List UInt8), ks[i]? = some k → ∃ (a : Option Addr) (c : Nat), vs[i]? = some (.slice a k.length c) ∧ k.length ≤ c ∧ c ≤ 9223372036854775807 ∧ (a = none → c = 0) ∧ RB w B a k.length k
section
variable {w w' : World} {B B' n : Nat} {A : Option Addr} {ks : List (List UInt8)}
theorem RBs.len (h : RBs w B A n ks) : ks.length = n := by obtain ⟨vs, h1, h2, _⟩ := h; have := h1.1; omega
theorem RBs.below (h : RBs w B A n ks) (hb : Below B w w') : RBs w' B A n ks := by
  obtain ⟨vs, h1, h2, h3⟩ := h
  exact ⟨vs, h1.below hb, h2, fun i k hk => by obtain ⟨a, c, q1, q2, q3, q4, q5⟩ := h3 i k hk; exact ⟨a, c, q1, q2, q3, q4, q5.below hb⟩⟩
theorem RBs.more (h : RBs w B A n ks) (hB : B ≤ B') : RBs w B' A n ks := by
  obtain ⟨vs, h1, h2, h3⟩ := h
  exact ⟨vs, h1.more hB, h2, fun i k hk => by obtain ⟨a, c, q1, q2, q3, q4, q5⟩ := h3 i k hk; exact ⟨a, c, q1, q2, q3, q4, q5.more hB⟩⟩
theorem RBs.later (h : RBs w w.heap.size A n ks) (hb : Below w.heap.size w w') : RBs w' w'.heap.size A n ks := (h.below hb).more hb.size
theorem RBs.at_ (h : RBs w B A n ks) {i : Nat} (hi : i < n) : ∃ b o k a c, A = some ⟨b, o, none⟩ ∧ b < B ∧ ks[i]? = some k ∧ w.cell? ⟨b, o + i, none⟩ = some (.slice a k.length c) ∧ k.length ≤ c ∧ c ≤ 9223372036854775807 ∧ (a = none → c = 0) ∧ RB w B a k.length k := by
  have hl := h.len
  obtain ⟨vs, h1, h2, h3⟩ := h
  obtain ⟨b, o, e, hb, hc⟩ := h1.2 (by omega)
  have hk : ks[i]? = some (ks[i]'(by omega)) := List.getElem?_eq_getElem (by omega)
  obtain ⟨a, c, q1, q2, q3, q4, q5⟩ := h3 i _ hk
  exact ⟨b, o, _, a, c, e, hb, hk, hc i _ q1, q2, q3, q4, q5⟩
end

end Go.Proofs.Ythjjihipodhkiaa

/-
  Strings made of bytes, bytes made of strings, over any program; places in memory still there.
-/
namespace Go.Proofs.Ythjjihipodhkiaa
open Go.RowKit

section
variable {P : Program} {w : World}
theorem run_string_RB {B n : Nat} {A : Option Addr} {l : List UInt8} (c : Nat) (h : RB w B A n l) {src dst e : TypeId} (hs : P.underlying src = some (.slice e)) (he : P.underlying e = some (.int .u8)) (hd : P.underlying dst = some .string) :
    (convert src dst (.slice A n c)).run P w = .ok (.string ⟨l.toArray⟩) w := by
  have hl := h.len
  cases A with
  | none =>
    have hn : n = 0 := by
      rcases Nat.eq_zero_or_pos n with h0 | h0
      · exact h0
      · obtain ⟨_, _, e, _⟩ := h.2 h0
        cases e
    have hl0 : l = [] := List.eq_nil_of_length_eq_zero (by omega)
    subst hl0
    rw [run_convert_bytes_string w src dst e none n c hs he hd]
    rfl
  | some ad =>
    subst hl
    refine run_convert_bytes_back w src dst e ad c l hs he hd fun j hj => ?_
    obtain ⟨b, o, e, _, hc⟩ := h.2 (by omega)
    injection e with e
    subst e
    have := hc j _ (u8s_at (List.getElem?_eq_getElem hj))
    unfold Addr.add
    split
    · rename_i h0; subst h0; exact this
    · exact this

theorem bytes_reads (s : ByteArray) (cap : Nat) (t : TypeId) (fr : Nat × Nat) : RB (w.alloc (.cells (bytesRow s cap) t fr)) (w.heap.size + 1) (some ⟨w.heap.size, 0, none⟩) s.size s.data.toList := by
  refine RB.mk' (by rw [Array.length_toList]; rfl) fun _ => ⟨w.heap.size, 0, rfl, by omega, fun j c hj => ?_⟩
  rw [Nat.zero_add, World.cell?_alloc_mark]
  have hlt : j < s.data.size := by
    have := (List.getElem?_eq_some_iff.1 hj).1
    simpa using this
  rw [bytesRow_at s cap j hlt]
  rw [Array.getElem?_toList, Array.getElem?_eq_getElem hlt] at hj
  injection hj with hj
  rw [hj]

variable {ops : Array Oper} {rest : List Oper} {o : Oper} {a : Act} {Q : Exit → Act → World → Prop}

/-- 'string(b)'. -/
theorem wpList_string_reads (hg : o.guard = none) (x : Operand) (src dst e : TypeId) (hop : o.op = Op.convert src dst x) (hs : P.underlying src = some (.slice e)) (he : P.underlying e = some (.int .u8)) (hd : P.underlying dst = some .string)
    {B n c : Nat} {A : Option Addr} {l : List UInt8} (hx : a.eval x = .slice A n c) (h : RB w B A n l)
    (hK : wpList P ops Q rest (a.put o.dst (.string ⟨l.toArray⟩)) w) : wpList P ops Q (o :: rest) a w := by
  refine wpList_plain hg fun K' hK' => ?_
  have hrun := run_string_RB (P := P) (w := w) c h hs he hd
  unfold Oper.wp
  simp [execOp, hop, hx, hrun, Result.andThen]
  exact hK' _ _ hK

/-- '[]byte(s)'. -/
theorem wpList_bytes_of (hg : o.guard = none) (x : Operand) (src dst e : TypeId) (hop : o.op = Op.convert src dst x) (hs : P.underlying src = some .string) (hd : P.underlying dst = some (.slice e)) (he : P.underlying e = some (.int .u8))
    (s : ByteArray) (hx : a.eval x = .string s)
    (hK : ∀ cap w', RB w' w'.heap.size (some ⟨w.heap.size, 0, none⟩) s.size s.data.toList → w.grownBy w' none → w'.heap.size = w.heap.size + 1 → wpList P ops Q rest (a.put o.dst (.slice (some ⟨w.heap.size, 0, none⟩) s.size cap)) w') :
    wpList P ops Q (o :: rest) a w := by
  refine wpList_plain hg fun K' hK' => ?_
  have hrun := run_bytes_of_string (P := P) w src dst e s hs hd he
  unfold Oper.wp
  simp [execOp, hop, hx, hrun, Result.andThen]
  refine hK' _ _ (hK _ _ ?_ (by have h := World.grownBy_alloc w.drew (.cells (bytesRow s (grownCap w s.size 0 e)) e ((bytesRow s (grownCap w s.size 0 e)).size, (bytesRow s (grownCap w s.size 0 e)).size + 1)) none; exact ⟨h.os, h.tape, h.output, h.size, h.block⟩) (by simp))
  have := bytes_reads (w := w.drew) s (grownCap w s.size 0 e) e ((bytesRow s (grownCap w s.size 0 e)).size, (bytesRow s (grownCap w s.size 0 e)).size + 1)
  simpa using this
end

end Go.Proofs.Ythjjihipodhkiaa

/-
  Lists of byte slices, over any program: parts, joins, new rows.
-/
namespace Go.Proofs.Ythjjihipodhkiaa
open Go.RowKit

/-- The values vs are slices that read as the keys ks. -/
def KV (w : World) (B : Nat) (vs : List Value) (ks : List (List UInt8)) : Prop :=
  vs.length = ks.length ∧ ∀ (i : Nat) (k : List UInt8), ks[i]? = some k → ∃ (a : Option Addr) (c : Nat), vs[i]? = some (.slice a k.length c) ∧ k.length ≤ c ∧ c ≤ 9223372036854775807 ∧ (a = none → c = 0) ∧ RB w B a k.length k
section
variable {w w' : World} {B B' n : Nat} {A : Option Addr} {vs us : List Value} {ks js : List (List UInt8)}
theorem RBs.kv (h : RBs w B A n ks) : ∃ vs, Reads w B 1 A n vs ∧ KV w B vs ks := by
  obtain ⟨vs, h1, h2, h3⟩ := h
  exact ⟨vs, h1, h2, h3⟩
theorem KV.rbs (h : KV w B vs ks) (hr : Reads w B 1 A n vs) : RBs w B A n ks := ⟨vs, hr, h.1, h.2⟩
theorem KV.nil : KV w B [] [] := ⟨rfl, fun i k h => by simp at h⟩
theorem KV.below (h : KV w B vs ks) (hb : Below B w w') : KV w' B vs ks :=
  ⟨h.1, fun i k hk => by obtain ⟨a, c, q1, q2, q3, q4, q5⟩ := h.2 i k hk; exact ⟨a, c, q1, q2, q3, q4, q5.below hb⟩⟩
theorem KV.more (h : KV w B vs ks) (hB : B ≤ B') : KV w B' vs ks :=
  ⟨h.1, fun i k hk => by obtain ⟨a, c, q1, q2, q3, q4, q5⟩ := h.2 i k hk; exact ⟨a, c, q1, q2, q3, q4, q5.more hB⟩⟩
theorem KV.later (h : KV w w.heap.size vs ks) (hb : Below w.heap.size w w') : KV w' w'.heap.size vs ks := (h.below hb).more hb.size
theorem KV.app (h : KV w B vs ks) (h' : KV w B us js) : KV w B (vs ++ us) (ks ++ js) := by
  refine ⟨by rw [List.length_append, List.length_append, h.1, h'.1], fun i k hk => ?_⟩
  rw [List.getElem?_append] at hk ⊢
  rw [h.1]
  split at hk
  · rename_i hi
    rw [if_pos hi]
    exact h.2 i k hk
  · rename_i hi
    rw [if_neg hi]
    exact h'.2 _ k hk
theorem KV.take (h : KV w B vs ks) (m : Nat) : KV w B (vs.take m) (ks.take m) := by
  refine ⟨by rw [List.length_take, List.length_take, h.1], fun i k hk => ?_⟩
  rw [List.getElem?_take] at hk ⊢
  split at hk
  · rename_i hi
    rw [if_pos hi]; exact h.2 i k hk
  · cases hk
theorem KV.drop (h : KV w B vs ks) (m : Nat) : KV w B (vs.drop m) (ks.drop m) := by
  refine ⟨by rw [List.length_drop, List.length_drop, h.1], fun i k hk => ?_⟩
  rw [List.getElem?_drop] at hk ⊢
  exact h.2 _ k hk
theorem KV.cons {v : Value} {k : List UInt8} (h : KV w B vs ks) (hv : ∃ (a : Option Addr) (c : Nat), v = .slice a k.length c ∧ k.length ≤ c ∧ c ≤ 9223372036854775807 ∧ (a = none → c = 0) ∧ RB w B a k.length k) : KV w B (v :: vs) (k :: ks) := by
  refine ⟨by simp [h.1], fun i x hx => ?_⟩
  cases i with
  | zero =>
    injection hx with hx; subst hx
    obtain ⟨a, c, rfl, q⟩ := hv
    exact ⟨a, c, rfl, q⟩
  | succ i => exact h.2 i x hx
theorem KV.one (h : KV w B vs ks) : ∀ u ∈ vs, u.oneCell' = true := by
  intro u hu
  obtain ⟨i, hi⟩ := List.getElem?_of_mem hu
  have hlt := (List.getElem?_eq_some_iff.1 hi).1
  obtain ⟨a, c, q, _⟩ := h.2 i _ (List.getElem?_eq_getElem (by rw [← h.1]; exact hlt))
  rw [q] at hi
  injection hi with hi
  subst hi; rfl
/-- 's[k:]', cells of size 1. -/
theorem Reads.drop1 (h : Reads w B 1 A n vs) {k cap : Nat} (hk : k ≤ n) (hc : n ≤ cap) : Reads w B 1 (if cap = k then A else A.map (·.add k)) (n - k) (vs.drop k) := by
  refine ⟨by rw [List.length_drop, h.1]; omega, fun hn => ?_⟩
  obtain ⟨b, o, rfl, hb, hcell⟩ := h.2 (by omega)
  rw [if_neg (by omega)]
  refine ⟨b, o + k, ?_, hb, fun j u hj => ?_⟩
  · simp only [Option.map_some]
    unfold Addr.add
    split
    · rename_i h0; subst h0; rfl
    · rfl
  · rw [Nat.add_assoc]
    rw [List.getElem?_drop] at hj
    exact hcell _ _ hj
theorem Reads.take1 (h : Reads w B 1 A n vs) {m : Nat} (hm : m ≤ n) : Reads w B 1 A m (vs.take m) := by
  have := Reads.take h hm
  rwa [Nat.mul_one] at this
end

/-- What a row of the call's own is: a slice that reads. -/
theorem own_slice {w : World} {base e size n : Nat} {v : Value} {xs : List Value} (h : w.ownsRow base e size v n xs) :
    ∃ (A : Option Addr) (c : Nat), v = .slice A n c ∧ n ≤ c ∧ c ≤ maxLen ∧ (A = none → c = 0) ∧ Reads w w.heap.size size A n xs := by
  rcases h.2 with ⟨rfl, h0⟩ | ⟨g, cap, cur, hv, hb, hg, hc, hm, _⟩
  · subst h0
    exact ⟨none, 0, rfl, Nat.le_refl _, Nat.zero_le _, fun _ => rfl, Reads.own h⟩
  · subst hv
    exact ⟨_, cap, rfl, hc, hm, (fun e => nomatch e), Reads.own h⟩
theorem own_nil (w : World) (base e size : Nat) : w.ownsRow base e size (.slice none 0 0) 0 [] := ⟨by simp, .inl ⟨rfl, rfl⟩⟩

end Go.Proofs.Ythjjihipodhkiaa

/-
  Byte slices that a call hands out as its own: the posts. Over any program.
-/
namespace Go.Proofs.Ythjjihipodhkiaa
open Go.RowKit

/-- The slice that lies at A is the call's own row of these bytes. T: the element type. -/
def OwnB (T : TypeId) (base : Nat) (w : World) (A : Option Addr) (c : Nat) (l : List UInt8) : Prop := w.ownsRow base T 1 (.slice A l.length c) l.length (u8s l)
section
variable {T : TypeId} {base B : Nat} {w w' : World} {A : Option Addr} {c n : Nat} {l : List UInt8}
theorem OwnB.rb (h : OwnB T base w A c l) : RB w w.heap.size A l.length l := RB.own h
theorem OwnB.later (h : OwnB T base w A c l) (hb : Below w.heap.size w w') : OwnB T base w' A c l := own_below h hb
theorem OwnB.rebase {base' : Nat} (h : OwnB T base w A c l) (hb : base' ≤ base) : OwnB T base' w A c l := by
  refine ⟨h.1, ?_⟩
  rcases h.2 with h' | ⟨g, cap, cur, h1, h2, h3⟩
  · exact .inl h'
  · exact .inr ⟨g, cap, cur, h1, Nat.le_trans hb h2, h3⟩
theorem OwnB.cap (h : OwnB T base w A c l) : l.length ≤ c ∧ c ≤ maxLen ∧ (A = none → c = 0) := by
  obtain ⟨A', c', e, h1, h2, h3, _⟩ := own_slice h
  injection e with e1 _ e2
  subst e1; subst e2
  exact ⟨h1, h2, h3⟩
theorem own_bytes {v : Value} (h : w.ownsRow base T 1 v n (u8s l)) : ∃ A c, v = .slice A l.length c ∧ OwnB T base w A c l := by
  have hn : l.length = n := by have := h.1; rw [u8s_length] at this; omega
  subst hn
  obtain ⟨A, c, rfl, _⟩ := own_slice h
  exact ⟨A, c, rfl, h⟩
/-- The same under a name of its own: so that the walk does not take the length apart. -/
theorem own_named {v : Value} (h : w.ownsRow base T 1 v n (u8s l)) : ∃ L A c, Hid (L = l) ∧ Hid (L.length = n) ∧ v = .slice A L.length c ∧ OwnB T base w A c L := by
  obtain ⟨A, c, e, ho⟩ := own_bytes h
  exact ⟨l, A, c, Lib.hid rfl, Lib.hid (by have := h.1; rw [u8s_length] at this; omega), e, ho⟩
/-- What a call leaves that hands out new bytes. -/
def BytesPost (T : TypeId) (l : List UInt8) (w : World) (e : Ending) (w' : World) : Prop :=
  ∃ A c, e = .returned (.slice A l.length c) ∧ OwnB T w.heap.size w' A c l ∧ Below w.heap.size w w'
theorem bytes_post {v : Value} (h : w'.ownsRow w.heap.size T 1 v n (u8s l)) (hb : Below w.heap.size w w') : BytesPost T l w (.returned v) w' := by
  obtain ⟨A, c, rfl, ho⟩ := own_bytes h
  exact ⟨A, c, rfl, ho, hb⟩
/-- New bytes and an error. -/
def BytesPost2 (T : TypeId) (l : List UInt8) (k : Int) (w : World) (e : Ending) (w' : World) : Prop :=
  ∃ A c, e = .returned (.tuple #[.slice A l.length c, .int .i64 k]) ∧ OwnB T w.heap.size w' A c l ∧ Below w.heap.size w w'
theorem bytes_post2 {v : Value} {k : Int} (h : w'.ownsRow w.heap.size T 1 v n (u8s l)) (hb : Below w.heap.size w w') : BytesPost2 T l k w (.returned (.tuple #[v, .int .i64 k])) w' := by
  obtain ⟨A, c, rfl, ho⟩ := own_bytes h
  exact ⟨A, c, rfl, ho, hb⟩
theorem bytes_none2 {k : Int} (hb : Below w.heap.size w w') : BytesPost2 T [] k w (.returned (.tuple #[.slice none 0 0, .int .i64 k])) w' := bytes_post2 (n := 0) (own_nil _ _ _ _) hb
/-- New bytes, a place, an error. -/
def BytesPost3 (T : TypeId) (l : List UInt8) (p k : Int) (w : World) (e : Ending) (w' : World) : Prop :=
  ∃ A c, e = .returned (.tuple #[.slice A l.length c, .int .i64 p, .int .i64 k]) ∧ OwnB T w.heap.size w' A c l ∧ Below w.heap.size w w'
theorem bytes_post3 {v : Value} {p k : Int} (h : w'.ownsRow w.heap.size T 1 v n (u8s l)) (hb : Below w.heap.size w w') : BytesPost3 T l p k w (.returned (.tuple #[v, .int .i64 p, .int .i64 k])) w' := by
  obtain ⟨A, c, rfl, ho⟩ := own_bytes h
  exact ⟨A, c, rfl, ho, hb⟩
theorem bytes_none3 {p k : Int} (hb : Below w.heap.size w w') : BytesPost3 T [] p k w (.returned (.tuple #[.slice none 0 0, .int .i64 p, .int .i64 k])) w' := bytes_post3 (n := 0) (own_nil _ _ _ _) hb
end

theorem below_grown_drew {w w1 : World} (h : w.drew.grownBy w1 none) : Below w.heap.size w w1 := ((Below.refl w.heap.size w).drew).grown h (Nat.le_refl _) (by simp)
theorem below_grown_none {w w1 : World} (h : w.grownBy w1 none) : Below w.heap.size w w1 := (Below.refl w.heap.size w).grown h (Nat.le_refl _) (by simp)
theorem below_drewN {B n : Nat} {w w1 : World} (h : Below B w w1) : Below B w (w1.drewN n) := ⟨h.os, h.tape, h.output, h.size, h.block⟩
theorem i64_sum {x : Int} (h1 : -9223372036854775808 ≤ x) (h2 : x ≤ 9223372036854775807) : IntKind.i64.wrap x = x := IntWalk.i64_in _ ⟨h1, h2⟩
/-- A literal that was just made. -/
theorem reads_lit (w : World) (C : Array Value) (l : List UInt8) (t : TypeId) (fr : Nat × Nat) (hC : C.toList = u8s l) : RB (w.alloc (.cells C t fr)) (w.heap.size + 1) (some ⟨w.heap.size, 0, none⟩) l.length l :=
  RB.mk' rfl fun _ => ⟨_, 0, rfl, by omega, fun j c hj => by
    rw [Nat.zero_add, World.cell?_alloc_mark, ← Array.getElem?_toList, hC]
    exact u8s_at hj⟩

/-- A list of one slice, just made. -/
theorem rbs_one (w : World) (A : Option Addr) (n c : Nat) (l : List UInt8) (t : TypeId) (fr : Nat × Nat) (h1 : n ≤ c) (h2 : c ≤ 9223372036854775807) (h3 : A = none → c = 0) (hr : RB w w.heap.size A n l) :
    RBs (w.alloc (.cells #[.slice A n c] t fr)) (w.heap.size + 1) (some ⟨w.heap.size, 0, none⟩) 1 [l] := by
  obtain rfl := hr.len
  have hb : Below w.heap.size w (w.alloc (.cells #[.slice A l.length c] t fr)) := (Below.refl _ _).alloc (Nat.le_refl _) _
  refine (KV.nil.cons ⟨A, c, rfl, h1, h2, h3, (hr.below hb).more (by omega)⟩).rbs ⟨rfl, fun _ => ⟨_, 0, rfl, by omega, fun j u hu => ?_⟩⟩
  rw [Nat.zero_add, World.cell?_alloc_mark, ← Array.getElem?_toList]
  exact hu
theorem OwnB.one {T : TypeId} {base : Nat} {w : World} {A : Option Addr} {c : Nat} {l : List UInt8} (h : OwnB T base w A c l) (t : TypeId) (fr : Nat × Nat) :
    RBs (w.alloc (.cells #[.slice A l.length c] t fr)) (w.heap.size + 1) (some ⟨w.heap.size, 0, none⟩) 1 [l] := by
  obtain ⟨h1, h2, h3⟩ := h.cap
  unfold maxLen at h2
  exact rbs_one w A l.length c l t fr h1 h2 h3 h.rb

/-- A slice that reads, with what its capacity must be. -/
structure Sl (w : World) (A : Option Addr) (n c : Nat) (l : List UInt8) : Prop where
  rb : RB w w.heap.size A n l
  cap : n ≤ c
  lim : c ≤ 9223372036854775807
  nil : A = none → c = 0
section
variable {T : TypeId} {base : Nat} {w w' : World} {A : Option Addr} {c n m : Nat} {l : List UInt8}
theorem Sl.later (h : Sl w A n c l) (hb : Below w.heap.size w w') : Sl w' A n c l := ⟨h.rb.later hb, h.cap, h.lim, h.nil⟩
theorem Sl.len (h : Sl w A n c l) : l.length = n := h.rb.len
theorem Sl.le (h : Sl w A n c l) : n ≤ 9223372036854775807 := Nat.le_trans h.cap h.lim
theorem Sl.one (h : Sl w A n c l) (t : TypeId) (fr : Nat × Nat) : RBs (w.alloc (.cells #[.slice A n c] t fr)) (w.alloc (.cells #[.slice A n c] t fr)).heap.size (some ⟨w.heap.size, 0, none⟩) 1 [l] :=
  (rbs_one w A n c l t fr h.cap h.lim h.nil h.rb).more (by simp)
theorem Sl.take (h : Sl w A n c l) (hm : m ≤ n) : Sl w A m c (l.take m) := ⟨h.rb.take hm, Nat.le_trans hm h.cap, h.lim, h.nil⟩
/-- 's[k:]', where something of the room is left. -/
theorem Sl.drop {k : Nat} (h : Sl w A n c l) (hk : k ≤ n) (hc : k < c) : Sl w (A.map (·.add k)) (n - k) (c - k) (l.drop k) := by
  have h1 := h.rb.drop (k := k) (cap := c) hk h.cap
  rw [if_neg (by omega)] at h1
  refine ⟨h1, by have := h.cap; omega, by have := h.lim; omega, fun e => ?_⟩
  cases A with
  | none => have := h.nil rfl; omega
  | some _ => cases e
theorem Sl.own (h : OwnB T base w A c l) : Sl w A l.length c l := by
  obtain ⟨h1, h2, h3⟩ := h.cap
  unfold maxLen at h2
  exact ⟨h.rb, h1, h2, h3⟩
theorem BytesPost.at_ {e : Ending} (h : BytesPost T l w e w') (hn : l.length = n) : ∃ A c, e = .returned (.slice A n c) ∧ Sl w' A n c l ∧ OwnB T w.heap.size w' A c l ∧ Below w.heap.size w w' := by
  subst hn
  obtain ⟨A, c, rfl, ho, hb⟩ := h
  exact ⟨A, c, rfl, Sl.own ho, ho, hb⟩
theorem BytesPost2.at_ {e : Ending} {k k' : Int} (h : BytesPost2 T l k w e w') (hn : l.length = n) (hk : k = k') : ∃ A c, e = .returned (.tuple #[.slice A n c, .int .i64 k']) ∧ Sl w' A n c l ∧ OwnB T w.heap.size w' A c l ∧ Below w.heap.size w w' := by
  subst hn; subst hk
  obtain ⟨A, c, rfl, ho, hb⟩ := h
  exact ⟨A, c, rfl, Sl.own ho, ho, hb⟩
theorem BytesPost3.at_ {e : Ending} {p p' k k' : Int} (h : BytesPost3 T l p k w e w') (hn : l.length = n) (hp : p = p') (hk : k = k') : ∃ A c, e = .returned (.tuple #[.slice A n c, .int .i64 p', .int .i64 k']) ∧ Sl w' A n c l ∧ OwnB T w.heap.size w' A c l ∧ Below w.heap.size w w' := by
  subst hn; subst hp; subst hk
  obtain ⟨A, c, rfl, ho, hb⟩ := h
  exact ⟨A, c, rfl, Sl.own ho, ho, hb⟩
theorem Sl.lit (w : World) (C : Array Value) (l : List UInt8) (t : TypeId) (fr : Nat × Nat) (hC : C.toList = u8s l) (hn : l.length = n) (hc : n ≤ 9223372036854775807) : Sl (w.alloc (.cells C t fr)) (some ⟨w.heap.size, 0, none⟩) n n l := by
  subst hn
  exact ⟨(reads_lit w C l t fr hC).more (by simp), Nat.le_refl _, hc, fun e => nomatch e⟩
end

theorem Sl.cons {w : World} {A : Option Addr} {n c : Nat} {l : List UInt8} {vs : List Value} {ks : List (List UInt8)} (h : Sl w A n c l) (hk : KV w w.heap.size vs ks) : KV w w.heap.size (.slice A n c :: vs) (l :: ks) := by
  obtain rfl := h.len
  exact hk.cons ⟨A, c, rfl, h.cap, h.lim, h.nil, h.rb⟩
theorem Sl.none (w : World) : Sl w none 0 0 [] := ⟨RB.nil, Nat.le_refl _, by omega, fun _ => rfl⟩
/-- A literal list of slices, just made. -/
theorem kv_lit (w : World) (C : Array Value) (ks : List (List UInt8)) (n : Nat) (t : TypeId) (fr : Nat × Nat) (h : KV w w.heap.size C.toList ks) (hn : ks.length = n) :
    RBs (w.alloc (.cells C t fr)) (w.alloc (.cells C t fr)).heap.size (some ⟨w.heap.size, 0, none⟩) n ks := by
  subst hn
  have hb : Below w.heap.size w (w.alloc (.cells C t fr)) := (Below.refl _ _).alloc (Nat.le_refl _) _
  have hC : C.toList.length = ks.length := h.1
  refine ((h.below hb).more (by simp)).rbs ⟨by rw [hC]; omega, fun _ => ⟨_, 0, rfl, by simp, fun j u hu => ?_⟩⟩
  rw [Nat.zero_add, World.cell?_alloc_mark, ← Array.getElem?_toList]
  exact hu

end Go.Proofs.Ythjjihipodhkiaa

/-
  Slices apart from a row that grows; families of slices with marks behind them. Over any program.
-/
namespace Go.Proofs.Ythjjihipodhkiaa
open Go.RowKit

section
variable {w x y : World} {A : Option Addr} {n c : Nat} {l : List UInt8} {row row' : Option Nat}
theorem Reads.apart {_B size : Nat} {xs : List Value} (h : Reads w w.heap.size size A n xs) (hg : w.grownBy y row) (hne : 0 < n → ∀ a, A = some a → some a.block ≠ row) : Reads y y.heap.size size A n xs :=
  ⟨h.1, fun hn => by
    obtain ⟨b, o, rfl, hb, hc⟩ := h.2 hn
    refine ⟨b, o, rfl, Nat.lt_of_lt_of_le hb hg.size, fun j u hu => ?_⟩
    have e : y.cell? ⟨b, o + j, none⟩ = w.cell? ⟨b, o + j, none⟩ := World.cell?_of_block (hg.block b hb (fun e => hne hn _ rfl (e ▸ rfl)))
    exact e.trans (hc j u hu)⟩
theorem Sl.apart (h : Sl w A n c l) (hg : w.grownBy y row) (hne : 0 < n → ∀ a, A = some a → some a.block ≠ row) : Sl y A n c l :=
  ⟨Reads.apart (_B := 0) h.rb hg hne, h.cap, h.lim, h.nil⟩
theorem Sl.block_lt (h : Sl w A n c l) (hn : 0 < n) : ∀ a, A = some a → a.block < w.heap.size := by
  intro a ha
  obtain ⟨b, o, e, hb, _⟩ := h.rb.2 hn
  rw [ha] at e; injection e with e; subst e; exact hb
end

/-- Slices that read as the lists, each with the same marks behind it; none lies in the row. -/
def Fam (w : World) (row : Option Nat) (vs : List Value) (ks : List (List UInt8)) (more : List UInt8) : Prop :=
  vs.length = ks.length ∧ ∀ (i : Nat) (k : List UInt8), ks[i]? = some k → ∃ (a : Option Addr) (c : Nat), vs[i]? = some (.slice a k.length c) ∧ Sl w a (k.length + more.length) c (k ++ more) ∧ ∀ x, a = some x → some x.block ≠ row
section
variable {w x y : World} {row row' : Option Nat} {vs : List Value} {ks : List (List UInt8)} {more : List UInt8}
theorem Fam.nil : Fam w row [] [] more := ⟨rfl, fun i k h => by simp at h⟩
theorem Fam.later (h : Fam w row vs ks more) (hb : Below w.heap.size w x) : Fam x row vs ks more :=
  ⟨h.1, fun i k hk => by obtain ⟨a, c, q1, q2, q3⟩ := h.2 i k hk; exact ⟨a, c, q1, q2.later hb, q3⟩⟩
theorem Fam.step (h : Fam w row vs ks more) (hm : 0 < more.length) (hg : w.grownBy x row) (hr : row' = row ∨ row' = some w.heap.size) : Fam x row' vs ks more :=
  ⟨h.1, fun i k hk => by
    obtain ⟨a, c, q1, q2, q3⟩ := h.2 i k hk
    refine ⟨a, c, q1, q2.apart hg (fun _ => q3), fun z hz => ?_⟩
    rcases hr with rfl | rfl
    · exact q3 z hz
    · have := q2.block_lt (by omega) z hz
      intro e; injection e with e; omega⟩
theorem Fam.snoc (h : Fam w row vs ks more) {a : Option Addr} {c : Nat} {k : List UInt8} (hs : Sl w a (k.length + more.length) c (k ++ more)) (hne : ∀ x, a = some x → some x.block ≠ row) : Fam w row (vs ++ [.slice a k.length c]) (ks ++ [k]) more := by
  refine ⟨by simp [h.1], fun i q hq => ?_⟩
  rw [List.getElem?_append] at hq ⊢
  rw [h.1]
  split at hq
  · rename_i hi
    rw [if_pos hi]; exact h.2 i q hq
  · rename_i hi
    rw [if_neg hi]
    have h0 : i - ks.length = 0 := by
      have := (List.getElem?_eq_some_iff.1 hq).1
      simp at this; omega
    rw [h0] at hq ⊢
    injection hq with hq; subst hq
    exact ⟨a, c, rfl, hs, hne⟩
theorem Fam.kv (h : Fam w row vs ks more) : KV w w.heap.size vs ks :=
  ⟨h.1, fun i k hk => by
    obtain ⟨a, c, q1, q2, _⟩ := h.2 i k hk
    have := q2.take (m := k.length) (by omega)
    rw [List.take_left' rfl] at this
    exact ⟨a, c, q1, this.cap, this.lim, this.nil, this.rb⟩⟩
theorem Fam.at_ (h : Fam w row vs ks more) {i : Nat} {k : List UInt8} (hk : ks[i]? = some k) : ∃ a c, vs[i]? = some (.slice a k.length c) ∧ Sl w a (k.length + more.length) c (k ++ more) := by
  obtain ⟨a, c, q1, q2, _⟩ := h.2 i k hk
  exact ⟨a, c, q1, q2⟩
end
/-- Where a slice of one's own lies: apart from what grew before. -/
theorem OwnB.far {T : TypeId} {base : Nat} {w : World} {A : Option Addr} {c : Nat} {l : List UInt8} (h : OwnB T base w A c l) {row : Option Nat} (hr : ∀ g, row = some g → g < base) : ∀ a, A = some a → some a.block ≠ row := by
  intro a ha e
  have h1 := hr a.block e.symm
  have h2 := (World.ownsRow.lt h a.block (by rw [ha]; rfl)).1
  omega
theorem own_row_lt {w : World} {base e size n : Nat} {v : Value} {xs : List Value} (h : w.ownsRow base e size v n xs) : ∀ g, v.ownBlock = some g → g < w.heap.size := fun g hg => (World.ownsRow.lt h g hg).2

end Go.Proofs.Ythjjihipodhkiaa

/-
  Worlds in which only some blocks have changed; rows of bytes of one's own that lie apart; append, cell by cell. Over any program.
-/
namespace Go.Proofs.Ythjjihipodhkiaa
open Go.RowKit

/-- Of the blocks that were there, only those in S have changed. -/
structure Chg (S : Nat → Prop) (w w' : World) : Prop where
  os : w'.os = w.os
  tape : w'.tape = w.tape
  output : w'.output = w.output
  size : w.heap.size ≤ w'.heap.size
  block : ∀ k, k < w.heap.size → ¬ S k → w'.heap[k]? = w.heap[k]?

section
variable {S S' : Nat → Prop} {w x y : World} {B : Nat} {row : Option Nat}
theorem Chg.refl (S : Nat → Prop) (w : World) : Chg S w w := ⟨rfl, rfl, rfl, Nat.le_refl _, fun _ _ _ => rfl⟩
theorem Chg.trans (h : Chg S w x) (k : Chg S x y) : Chg S w y :=
  ⟨k.os.trans h.os, k.tape.trans h.tape, k.output.trans h.output, Nat.le_trans h.size k.size, fun i hi hs => (k.block i (Nat.lt_of_lt_of_le hi h.size) hs).trans (h.block i hi hs)⟩
theorem Chg.mono (h : Chg S w x) (hs : ∀ k, k < w.heap.size → S k → S' k) : Chg S' w x := ⟨h.os, h.tape, h.output, h.size, fun k hk hn => h.block k hk fun e => hn (hs k hk e)⟩
theorem Below.chg (h : Below B w x) : Chg (fun k => B ≤ k) w x := ⟨h.os, h.tape, h.output, h.size, fun k _ hn => h.block k (by omega)⟩
theorem Below.chg0 (h : Below w.heap.size w x) : Chg S w x := ⟨h.os, h.tape, h.output, h.size, fun k hk _ => h.block k hk⟩
theorem grown_chg (h : w.grownBy x row) : Chg (fun k => row = some k) w x := ⟨h.os, h.tape, h.output, h.size, fun k hk hn => h.block k hk fun e => hn e.symm⟩
theorem Chg.below (h : Chg S w x) (hB : B ≤ w.heap.size) (hs : ∀ k, k < w.heap.size → S k → B ≤ k) : Below B w x :=
  ⟨h.os, h.tape, h.output, h.size, fun k hk => h.block k (by omega) fun e => by have := hs k (by omega) e; omega⟩
theorem Chg.alloc (h : Chg S w x) (o : Obj) : Chg S w (x.alloc o) := h.trans (Below.chg0 ((Below.refl _ _).alloc (Nat.le_refl _) o))
theorem Chg.setCell (w : World) (p : Addr) (v : Value) : Chg (fun k => k = p.block) w (w.setCell p v) :=
  ⟨rfl, rfl, rfl, by simp [World.setCell], fun k _ hn => Below.heap_setCell _ _ _ _ hn⟩
theorem Chg.cell (h : Chg S w x) {p : Addr} {v : Value} (hc : w.cell? p = some v) (hn : ¬ S p.block) : x.cell? p = some v :=
  (World.cell?_of_block (h.block _ (World.block_lt_of_cell? w p hc) hn)).trans hc
theorem Reads.chg {size n : Nat} {A : Option Addr} {xs : List Value} (h : Reads w w.heap.size size A n xs) (hc : Chg S w x) (hn : 0 < n → ∀ a, A = some a → ¬ S a.block) : Reads x x.heap.size size A n xs :=
  ⟨h.1, fun h0 => by
    obtain ⟨b, o, rfl, hb, hcell⟩ := h.2 h0
    exact ⟨b, o, rfl, Nat.lt_of_lt_of_le hb hc.size, fun j u hu => hc.cell (p := ⟨b, o + j, none⟩) (hcell j u hu) (hn h0 ⟨b, o, none⟩ rfl)⟩⟩
theorem Sl.chg {A : Option Addr} {n c : Nat} {l : List UInt8} (h : Sl w A n c l) (hc : Chg S w x) (hn : 0 < n → ∀ a, A = some a → ¬ S a.block) : Sl x A n c l := ⟨Reads.chg h.rb hc hn, h.cap, h.lim, h.nil⟩
theorem own_chg {base e size n : Nat} {v : Value} {xs : List Value} (h : w.ownsRow base e size v n xs) (hc : Chg S w x) (hn : ∀ g, v.ownBlock = some g → ¬ S g) : x.ownsRow base e size v n xs := by
  refine ⟨h.1, ?_⟩
  rcases h.2 with h | ⟨g, cap, cur, rfl, hb, hg, hr⟩
  · exact .inl h
  · refine .inr ⟨g, cap, cur, rfl, hb, ?_, hr⟩
    rw [hc.block g (Array.getElem?_eq_some_iff.1 hg).1 (hn g rfl)]; exact hg
end

/-- Rows of bytes of one's own; no two share a block. -/
def RowsB (T : TypeId) (base : Nat) (w : World) (rs : List (Option Addr × Nat × List UInt8)) : Prop :=
  (∀ (i : Nat) r, rs[i]? = some r → OwnB T base w r.1 r.2.1 r.2.2) ∧ ∀ (i j : Nat) r s, rs[i]? = some r → rs[j]? = some s → i ≠ j → ∀ a b, r.1 = some a → s.1 = some b → a.block ≠ b.block
section
variable {T : TypeId} {base : Nat} {w x : World} {rs : List (Option Addr × Nat × List UInt8)} {S : Nat → Prop}
theorem RowsB.nil : RowsB T base w [] := ⟨fun i r h => by simp at h, fun i j r s h => by simp at h⟩
theorem RowsB.chg (h : RowsB T base w rs) (hc : Chg S w x) (hn : ∀ (i : Nat) r, rs[i]? = some r → ∀ a, r.1 = some a → ¬ S a.block) : RowsB T base x rs :=
  ⟨fun i r hr => own_chg (h.1 i r hr) hc fun g hg => by
    obtain ⟨A, c, l⟩ := r
    cases A with
    | none => cases hg
    | some a => injection hg with hg; subst hg; exact hn i _ hr a rfl, h.2⟩
theorem RowsB.later (h : RowsB T base w rs) (hb : Below w.heap.size w x) : RowsB T base x rs := h.chg (S := fun _ => False) (Below.chg0 hb) fun _ _ _ _ _ e => e
theorem OwnB.lt {A : Option Addr} {c : Nat} {l : List UInt8} (h : OwnB T base w A c l) {a : Addr} (ha : A = some a) : base ≤ a.block ∧ a.block < w.heap.size := by
  subst ha; exact World.ownsRow.lt h a.block rfl
theorem OwnB.zero {A : Option Addr} {c : Nat} {l : List UInt8} (h : OwnB T base w A c l) {a : Addr} (ha : A = some a) : a = ⟨a.block, 0, none⟩ := by
  subst ha
  rcases h.2 with ⟨e, _⟩ | ⟨g, cap, cur, e, _⟩
  · cases e
  · injection e with e; injection e with e; subst e; rfl
theorem RowsB.snoc (h : RowsB T base w rs) {A : Option Addr} {c : Nat} {l : List UInt8} (ho : OwnB T base w A c l) (hne : ∀ (i : Nat) r, rs[i]? = some r → ∀ a b, r.1 = some a → A = some b → a.block ≠ b.block) : RowsB T base w (rs ++ [(A, c, l)]) := by
  have hget : ∀ (i : Nat) r, (rs ++ [(A, c, l)])[i]? = some r → (i < rs.length ∧ rs[i]? = some r) ∨ (i = rs.length ∧ r = (A, c, l)) := by
    intro i r hr
    rw [List.getElem?_append] at hr
    split at hr
    · rename_i hi; exact .inl ⟨hi, hr⟩
    · rename_i hi
      have h0 : i - rs.length = 0 := by
        have := (List.getElem?_eq_some_iff.1 hr).1
        simp at this; omega
      rw [h0] at hr
      injection hr with hr
      exact .inr ⟨by omega, hr.symm⟩
  refine ⟨fun i r hr => ?_, fun i j r s hr hs hij a b ha hb => ?_⟩
  · rcases hget i r hr with ⟨_, h1⟩ | ⟨_, rfl⟩
    · exact h.1 i r h1
    · exact ho
  · rcases hget i r hr with ⟨h0, h1⟩ | ⟨h0, rfl⟩ <;> rcases hget j s hs with ⟨k0, k1⟩ | ⟨k0, rfl⟩
    · exact h.2 i j r s h1 k1 hij a b ha hb
    · exact hne i r h1 a b ha hb
    · exact fun e => hne j s k1 b a hb ha e.symm
    · omega
/-- A row that was made since. -/
theorem RowsB.fresh (h : RowsB T base w rs) (hb : Below w.heap.size w x) {A : Option Addr} {c : Nat} {l : List UInt8} (ho : OwnB T w.heap.size x A c l) (hle : base ≤ w.heap.size) : RowsB T base x (rs ++ [(A, c, l)]) :=
  (h.later hb).snoc (ho.rebase hle) fun i r hr a b ha hb' e => by
    have h1 := ((h.1 i r hr).lt ha).2
    have h2 := (ho.lt hb').1
    omega
theorem u8s_set5 (l : List UInt8) (k : Nat) (x : UInt8) : (u8s l).set k (u8v x) = u8s (l.set k x) := by
  unfold u8s
  rw [List.map_set]
/-- One byte of one row is written. -/
theorem RowsB.store (h : RowsB T base w rs) {i k g c : Nat} {l : List UInt8} (hr : rs[i]? = some (some ⟨g, 0, none⟩, c, l)) (u : UInt8) :
    RowsB T base (w.setCell ⟨g, k, none⟩ (u8v u)) (rs.set i (some ⟨g, 0, none⟩, c, l.set k u)) ∧ Chg (fun b => b = g) w (w.setCell ⟨g, k, none⟩ (u8v u)) := by
  have hC := Chg.setCell w ⟨g, k, none⟩ (u8v u)
  have ho := h.1 i _ hr
  have hs := World.ownsRow.stored ho k (u8v u)
  rw [u8s_set5] at hs
  have hlt : i < rs.length := (List.getElem?_eq_some_iff.1 hr).1
  have hget : ∀ (j : Nat) r, (rs.set i (some ⟨g, 0, none⟩, c, l.set k u))[j]? = some r → (j = i ∧ r = (some ⟨g, 0, none⟩, c, l.set k u)) ∨ (j ≠ i ∧ rs[j]? = some r) := by
    intro j r hj
    rw [List.getElem?_set] at hj
    by_cases e : i = j
    · subst e
      rw [if_pos rfl, if_pos hlt] at hj
      injection hj with hj
      exact .inl ⟨rfl, hj.symm⟩
    · rw [if_neg e] at hj
      exact .inr ⟨fun h => e h.symm, hj⟩
  refine ⟨⟨fun j r hj => ?_, fun j q r s hj hq hjq a b ha hb => ?_⟩, hC⟩
  · rcases hget j r hj with ⟨rfl, rfl⟩ | ⟨hne, hj⟩
    · have := hs.1
      show World.ownsRow _ _ _ _ _ _ _
      rw [List.length_set]
      exact this
    · refine own_chg (h.1 j r hj) hC fun b hb e => ?_
      obtain ⟨A, c', l'⟩ := r
      cases A with
      | none => cases hb
      | some a =>
        injection hb with hb
        subst hb
        exact h.2 j i _ _ hj hr hne a ⟨g, 0, none⟩ rfl rfl e
  · rcases hget j r hj with ⟨rfl, rfl⟩ | ⟨hne, hj1⟩ <;> rcases hget q s hq with ⟨rfl, rfl⟩ | ⟨hne', hq1⟩
    · exact absurd rfl hjq
    · injection ha with ha; subst ha
      exact h.2 j q _ s hr hq1 hjq _ b rfl hb
    · injection hb with hb; subst hb
      exact h.2 j q r _ hj1 hr hjq a _ ha rfl
    · exact h.2 j q r s hj1 hq1 hjq a b ha hb
end

theorem spot_none6 {w : World} {a : Addr} {v : Value} (h : w.cell? a = some v) : a.spot = none := by
  unfold World.cell? at h
  split at h
  · split at h
    · cases h
    · rename_i h'; simpa using h'
  · cases h
section
variable {P : Program} (w : World)
/-- append onto a row of one's own: besides what the kit says: the old value still owns what it owned; each old cell is as it was, or lies in the row behind what it held and holds what was appended. -/
theorem run_append_cells {t ty e : TypeId} {bytes : Nat} (hs : SliceOf P t e 1 bytes) (base : Nat) (v : Value) (n : Nat) (xs : List Value) (hown : w.ownsRow base e 1 v n xs)
    (B : Nat) (A : Option Addr) (m c : Nat) (news : List Value) (hr : Reads w B 1 A m news) (h1 : ∀ u ∈ news, u.oneCell' = true)
    (h63 : n + m ≤ maxLen) (hbytes : (n + m) * bytes ≤ 140737488355328) (hbase : base ≤ w.heap.size) :
    ∃ v' w', (Builtin.append_ #[t, t] ty #[v, .slice A m c]).run P w = .ok v' w' ∧ w'.ownsRow base e 1 v' (n + m) (xs ++ news) ∧ w.grownBy w' v.ownBlock ∧
      (v'.ownBlock = v.ownBlock ∨ v'.ownBlock = some w.heap.size) ∧ w'.ownsRow base e 1 v n xs ∧
      (∀ p u, w.cell? p = some u → w'.cell? p = some u ∨ (some p.block = v.ownBlock ∧ p.spot = none ∧ n ≤ p.off ∧ p.off < n + m ∧ w'.cell? p = news[p.off - n]?)) := by
  obtain ⟨v', w', hrun, q1, q2, q3⟩ := run_append_reads (P := P) w (ty := ty) hs base v n xs hown B A m c news hr h1 h63 hbytes hbase
  refine ⟨v', w', hrun, q1, q2, q3, ?_⟩
  -- where nothing that was there turns
  have still : (∀ k, k < w.heap.size → w'.heap[k]? = w.heap[k]?) → w'.ownsRow base e 1 v n xs ∧ (∀ p u, w.cell? p = some u → w'.cell? p = some u ∨ (some p.block = v.ownBlock ∧ p.spot = none ∧ n ≤ p.off ∧ p.off < n + m ∧ w'.cell? p = news[p.off - n]?)) := fun hk => by
    have hb : Below w.heap.size w w' := ⟨q2.os, q2.tape, q2.output, q2.size, hk⟩
    exact ⟨own_below hown hb, fun p u hp => .inl (cell_below hb hp)⟩
  obtain ⟨ht, ⟨i, z, hi, hz, hsize, hby, hzs⟩, hsz⟩ := hs
  rcases hown.2 with ⟨rfl, rfl⟩ | ⟨g, cap, cur, rfl, hbg, hg, hnc, hcm, hcs, htake⟩
  · exact still fun k hk => q2.block k hk (by simp [Value.ownBlock])
  · rcases A with _ | ad
    · have hm : m = 0 := by
        rcases Nat.eq_zero_or_pos m with h0 | h0
        · exact h0
        · obtain ⟨b, o, h, _⟩ := hr.2 h0
          cases h
      subst hm
      have hrun' := run_append_of_nil w base t ty e i 1 ht hi (.slice (some ⟨g, 0, none⟩) n cap) n xs hown c
      rw [hrun'] at hrun
      injection hrun with hv hw
      subst hw
      exact still fun _ _ => rfl
    · have hcells : ∀ j u, news[j]? = some u → w.cell? (ad.add j) = some u := by
        intro j u hu
        rcases Nat.eq_zero_or_pos m with h0 | h0
        · subst h0
          have hn : news = [] := List.eq_nil_of_length_eq_zero (by simpa using hr.1)
          subst hn
          simp at hu
        · obtain ⟨b, o, h, _, hc⟩ := hr.2 h0
          injection h with h
          subst h
          have := hc j u hu
          unfold Addr.add
          split
          · rename_i h0; subst h0; exact this
          · exact this
      have hnl : news.length = m := by have := hr.1; omega
      have hcl : cur.size = cap := by rw [hcs, Nat.mul_one]
      by_cases hroom : n + m ≤ cap
      · have hrun' := run_append_room (P := P) w t ty e i ht hi g n cap cur hg ad m c news (by rw [hsize, Nat.mul_one]; exact hnl) hcells h1 hroom (by rw [hsize, Nat.mul_one, hnl]; omega)
        rw [hrun'] at hrun
        injection hrun with hv hw
        rw [hsize, Nat.mul_one, hnl] at hw
        obtain ⟨cs, hcsd⟩ : ∃ cs : List Value, cs = cur.toList.take n ++ news ++ cur.toList.drop (n + m) := ⟨_, rfl⟩
        rw [← hcsd] at hw
        have hclen : cs.length = cap := by
          rw [hcsd, List.length_append, List.length_append, List.length_take, List.length_drop, Array.length_toList, hcl, hnl]; omega
        have hgw : w'.heap[g]? = some (.cells cs.toArray e (0, 0)) := by rw [← hw]; exact setRow_heap w g cur _ e _ hg
        have hcell : ∀ j, w'.cell? ⟨g, j, none⟩ = cs[j]? := fun j => by
          rw [cell_of_row w' g j _ e _ hgw]; simp
        have hcell0 : ∀ j, w.cell? ⟨g, j, none⟩ = cur.toList[j]? := fun j => by
          rw [cell_of_row w g j _ e _ hg]; simp
        refine ⟨⟨hown.1, .inr ⟨g, cap, cs.toArray, rfl, hbg, hgw, hnc, hcm, by simp [hclen], ?_⟩⟩, fun p u hp => ?_⟩
        · have htl : (cur.toList.take n).length = n := by rw [List.length_take, Array.length_toList, hcl]; omega
          rw [Nat.mul_one] at htake ⊢
          show cs.take n = xs
          rw [hcsd, List.append_assoc, List.take_left' htl]
          exact htake
        · by_cases hpg : p.block = g
          · have hsp := spot_none6 hp
            obtain ⟨pb, po, ps⟩ := p
            simp at hpg hsp
            subst hpg; subst hsp
            rw [hcell0] at hp
            by_cases h2 : n ≤ po ∧ po < n + m
            · refine .inr ⟨rfl, rfl, h2.1, h2.2, ?_⟩
              rw [hcell, hcsd, List.getElem?_append_left (by rw [List.length_append, List.length_take, Array.length_toList, hcl, hnl]; omega), List.getElem?_append_right (by rw [List.length_take, Array.length_toList, hcl]; omega)]
              rw [List.length_take, Array.length_toList, hcl, Nat.min_eq_left (by omega)]
            · refine .inl ?_
              rw [hcell, hcsd]
              by_cases h3 : po < n
              · rw [List.append_assoc, List.getElem?_append_left (by rw [List.length_take, Array.length_toList, hcl]; omega), List.getElem?_take_of_lt h3]
                exact hp
              · rw [List.getElem?_append_right (by rw [List.length_append, List.length_take, Array.length_toList, hcl, hnl]; omega), List.getElem?_drop, List.length_append, List.length_take, Array.length_toList, hcl, hnl, Nat.min_eq_left (by omega)]
                rw [show n + m + (po - (n + m)) = po from by omega]
                exact hp
          · exact .inl (q2.cell hp (fun e => hpg (by injection e)))
      · have holds : ∀ j u, xs[j]? = some u → w.cell? ((⟨g, 0, none⟩ : Addr).add j) = some u := hown.cells (g := g) rfl
        have hrun' := run_append_grow (P := P) w t ty e i z ht hi hz ⟨g, 0, none⟩ n cap xs (by rw [hsize]; exact hown.1) holds ad m c news (by rw [hsize, Nat.mul_one]; exact hnl) hcells (by omega) (by unfold maxLen at h63; omega) (growslice_fits (by omega) (by rw [hby]; exact hbytes))
        rw [hrun'] at hrun
        injection hrun with hv hw
        refine still fun k hk => ?_
        rw [← hw]
        exact heap_alloc_old w.drew _ hk
end

end Go.Proofs.Ythjjihipodhkiaa

/-
  Families of slices apart from a row; rows that are written full. Over any program.
-/
namespace Go.Proofs.Ythjjihipodhkiaa
open Go.RowKit

/-- Slices that read as the lists; none that holds something lies in the row. -/
def FamS (w : World) (row : Option Nat) (vs : List Value) (ks : List (List UInt8)) : Prop :=
  vs.length = ks.length ∧ ∀ (i : Nat) (k : List UInt8), ks[i]? = some k → ∃ (a : Option Addr) (c : Nat), vs[i]? = some (.slice a k.length c) ∧ Sl w a k.length c k ∧ (0 < k.length → ∀ x, a = some x → some x.block ≠ row)
section
variable {w x y : World} {row row' : Option Nat} {vs : List Value} {ks : List (List UInt8)} {S : Nat → Prop}
theorem FamS.nil : FamS w row [] [] := ⟨rfl, fun i k h => by simp at h⟩
theorem FamS.chg (h : FamS w row vs ks) (hc : Chg S w x) (hn : ∀ (i : Nat) (k : List UInt8) (a : Addr) (n c : Nat), ks[i]? = some k → 0 < k.length → vs[i]? = some (.slice (some a) n c) → ¬ S a.block) : FamS x row vs ks :=
  ⟨h.1, fun i k hk => by
    obtain ⟨a, c, q1, q2, q3⟩ := h.2 i k hk
    refine ⟨a, c, q1, q2.chg hc fun h0 b hb => ?_, q3⟩
    subst hb
    exact hn i k b _ c hk h0 q1⟩
theorem FamS.later (h : FamS w row vs ks) (hb : Below w.heap.size w x) : FamS x row vs ks :=
  ⟨h.1, fun i k hk => by obtain ⟨a, c, q1, q2, q3⟩ := h.2 i k hk; exact ⟨a, c, q1, q2.later hb, q3⟩⟩
theorem FamS.step (h : FamS w row vs ks) (hg : w.grownBy x row) (hr : row' = row ∨ row' = some w.heap.size) : FamS x row' vs ks :=
  ⟨h.1, fun i k hk => by
    obtain ⟨a, c, q1, q2, q3⟩ := h.2 i k hk
    refine ⟨a, c, q1, q2.apart hg q3, fun h0 z hz => ?_⟩
    rcases hr with rfl | rfl
    · exact q3 h0 z hz
    · have := q2.block_lt h0 z hz
      intro e; injection e with e; omega⟩
theorem FamS.snoc (h : FamS w row vs ks) {a : Option Addr} {c n : Nat} {k : List UInt8} (hs : Sl w a n c k) (hne : 0 < k.length → ∀ x, a = some x → some x.block ≠ row) : FamS w row (vs ++ [.slice a n c]) (ks ++ [k]) := by
  obtain rfl := hs.len
  refine ⟨by simp [h.1], fun i q hq => ?_⟩
  rw [List.getElem?_append] at hq ⊢
  rw [h.1]
  split at hq
  · rename_i hi
    rw [if_pos hi]; exact h.2 i q hq
  · rename_i hi
    rw [if_neg hi]
    have h0 : i - ks.length = 0 := by
      have := (List.getElem?_eq_some_iff.1 hq).1
      simp at this; omega
    rw [h0] at hq ⊢
    injection hq with hq; subst hq
    exact ⟨a, c, rfl, hs, hne⟩
theorem FamS.kv (h : FamS w row vs ks) : KV w w.heap.size vs ks :=
  ⟨h.1, fun i k hk => by
    obtain ⟨a, c, q1, q2, _⟩ := h.2 i k hk
    exact ⟨a, c, q1, q2.cap, q2.lim, q2.nil, q2.rb⟩⟩
theorem FamS.at_ (h : FamS w row vs ks) {i : Nat} {k : List UInt8} (hk : ks[i]? = some k) : ∃ a c, vs[i]? = some (.slice a k.length c) ∧ Sl w a k.length c k := by
  obtain ⟨a, c, q1, q2, _⟩ := h.2 i k hk
  exact ⟨a, c, q1, q2⟩
end

/-- A list written full with a mark, so far. -/
def fillTo (l : List UInt8) (m : UInt8) (k : Nat) : List UInt8 := List.replicate k m ++ l.drop k
theorem fillTo_zero (l : List UInt8) (m : UInt8) : fillTo l m 0 = l := by simp [fillTo]
theorem fillTo_len {l : List UInt8} {k : Nat} (m : UInt8) (h : k ≤ l.length) : (fillTo l m k).length = l.length := by simp [fillTo]; omega
theorem fillTo_all (l : List UInt8) (m : UInt8) : fillTo l m l.length = List.replicate l.length m := by simp [fillTo]
theorem fillTo_set {l : List UInt8} {k : Nat} (m : UInt8) (h : k < l.length) : (fillTo l m k).set k m = fillTo l m (k + 1) := by
  unfold fillTo
  rw [List.set_append_right _ _ (by simp), List.length_replicate, Nat.sub_self, List.drop_eq_getElem_cons h]
  rw [List.set_cons_zero, List.replicate_succ']
  simp
theorem rep_at (n : Nat) (m : UInt8) {k : Nat} (h : k < n) : (List.replicate n m)[k]? = some m := by simp [h]

/-- What a longer row keeps, its beginning keeps. -/
theorem own_prefix {T : TypeId} {base : Nat} {w w1 : World} {a : Addr} {c : Nat} {l : List UInt8} {v : Value} {n : Nat} {xs : List Value} (h1 : OwnB T base w (some a) c l) (h2 : w.ownsRow base T 1 v n xs) (hb : v.ownBlock = some a.block) (h3 : w1.ownsRow base T 1 v n xs) (hn : l.length ≤ n) : OwnB T base w1 (some a) c l := by
  rcases h1.2 with ⟨e, _⟩ | ⟨g, cap, cur, e, hg1, hg2, hc1, hc2, hc3, hc4⟩
  · cases e
  injection e with e0 _ e2
  injection e0 with e0
  subst e0; subst e2
  rcases h2.2 with ⟨rfl, _⟩ | ⟨g', cap', cur', rfl, k1, k2, k3, k4, k5, k6⟩
  · cases hb
  injection hb with hb
  obtain rfl : g' = g := hb
  rw [hg2] at k2
  injection k2 with k2; injection k2 with k2
  subst k2
  rcases h3.2 with ⟨e, _⟩ | ⟨g2, cap2, cur2, e, j1, j2, j3, j4, j5, j6⟩
  · cases e
  injection e with e0 _ e2
  injection e0 with e0; injection e0 with e0
  subst e0; subst e2
  refine ⟨h1.1, .inr ⟨g', c, cur2, rfl, hg1, j2, hc1, hc2, by omega, ?_⟩⟩
  rw [← hc4]
  have e1 : cur.toList.take (l.length * 1) = (cur.toList.take (n * 1)).take (l.length * 1) := by rw [List.take_take, Nat.min_eq_left (by omega)]
  have e2 : cur2.toList.take (l.length * 1) = (cur2.toList.take (n * 1)).take (l.length * 1) := by rw [List.take_take, Nat.min_eq_left (by omega)]
  rw [e1, e2, k6, j6]
/-- The same behind an append onto the longer row, or onto a row elsewhere. -/
theorem own_under {T : TypeId} {base : Nat} {w w1 : World} {A : Option Addr} {c : Nat} {l : List UInt8} {v : Value} {n : Nat} {xs : List Value} (h1 : OwnB T base w A c l) (h2 : w.ownsRow base T 1 v n xs) (hg : w.grownBy w1 v.ownBlock) (h3 : w1.ownsRow base T 1 v n xs) (hn : l.length ≤ n) : OwnB T base w1 A c l := by
  cases A with
  | none => exact own_chg h1 (grown_chg hg) fun g hg => by cases hg
  | some a =>
    by_cases hb : v.ownBlock = some a.block
    · exact own_prefix h1 h2 hb h3 hn
    · exact own_chg h1 (grown_chg hg) fun g hg' e => by
        injection hg' with hg'
        rw [e] at hb
        exact hb (by rw [hg'])

section
variable {P : Program} (w : World)
theorem wp_append_cells {o : Oper} {a : Act} {K : Act → World → Prop} {Q : Exit → Act → World → Prop} (s x : Operand) {t e : TypeId} {bytes : Nat}
    (ho : o.op = .call { callee := .builtin .append, args := #[s, x], argTypes := #[t, t] }) (hS : SliceOf P t e 1 bytes)
    (base : Nat) (v : Value) (n : Nat) (xs : List Value) (hs : a.eval s = v) (hown : w.ownsRow base e 1 v n xs)
    (B : Nat) (A : Option Addr) (m c : Nat) (news : List Value) (hx : a.eval x = .slice A m c) (hr : Reads w B 1 A m news) (h1 : ∀ u ∈ news, u.oneCell' = true)
    (h63 : n + m ≤ maxLen) (hbytes : (n + m) * bytes ≤ 140737488355328) (hbase : base ≤ w.heap.size)
    (h : ∀ v' w', w'.ownsRow base e 1 v' (n + m) (xs ++ news) → w.grownBy w' v.ownBlock → (v'.ownBlock = v.ownBlock ∨ v'.ownBlock = some w.heap.size) → w'.ownsRow base e 1 v n xs →
      (∀ p u, w.cell? p = some u → w'.cell? p = some u ∨ (some p.block = v.ownBlock ∧ p.spot = none ∧ n ≤ p.off ∧ p.off < n + m ∧ w'.cell? p = news[p.off - n]?)) → K (a.put o.dst v') w') : o.wp P a w K Q := by
  obtain ⟨v', w', hrun, h2, h3, h4, h5, h6⟩ := run_append_cells (P := P) w (ty := o.type) hS base v n xs hown B A m c news hr h1 h63 hbytes hbase
  unfold Oper.wp execOp
  simp only [ho, resolve, invoke, builtin, Sem.run_bind, Sem.run_pure, Result.andThen_ok, List.map_toArray, List.map_cons, List.map_nil, hs, hx, hrun]
  exact h v' w' h2 h3 h4 h5 h6
/-- 'append(s, x...)', s nil or of the call's own, x any slice that reads; cell by cell. -/
theorem wpList_append_cells {ops : Array Oper} {rest : List Oper} {o : Oper} {a : Act} {Q : Exit → Act → World → Prop} (hgd : o.guard = none) (s x : Operand) {t e : TypeId} {bytes : Nat}
    (ho : o.op = .call { callee := .builtin .append, args := #[s, x], argTypes := #[t, t] }) (hS : SliceOf P t e 1 bytes)
    (base : Nat) (v : Value) (n : Nat) (xs : List Value) (hs : a.eval s = v) (hown : w.ownsRow base e 1 v n xs)
    (B : Nat) (A : Option Addr) (m c : Nat) (news : List Value) (hx : a.eval x = .slice A m c) (hr : Reads w B 1 A m news) (h1 : ∀ u ∈ news, u.oneCell' = true)
    (h63 : n + m ≤ maxLen) (hbytes : (n + m) * bytes ≤ 140737488355328) (hbase : base ≤ w.heap.size)
    (h : ∀ v' w', w'.ownsRow base e 1 v' (n + m) (xs ++ news) → w.grownBy w' v.ownBlock → (v'.ownBlock = v.ownBlock ∨ v'.ownBlock = some w.heap.size) → w'.ownsRow base e 1 v n xs →
      (∀ p u, w.cell? p = some u → w'.cell? p = some u ∨ (some p.block = v.ownBlock ∧ p.spot = none ∧ n ≤ p.off ∧ p.off < n + m ∧ w'.cell? p = news[p.off - n]?)) → wpList P ops Q rest (a.put o.dst v') w') : wpList P ops Q (o :: rest) a w :=
  wpList_plain hgd fun _ hK => wp_append_cells w s x ho hS base v n xs hs hown B A m c news hx hr h1 h63 hbytes hbase fun v' w' h2 h3 h4 h5 h6 => hK _ _ (h v' w' h2 h3 h4 h5 h6)
end
theorem grown_at {H0 : Nat} {r r' row : Option Nat} {H : Nat} (h : r = row ∨ ∀ g, r = some g → H0 ≤ g) (hat : r' = r ∨ r' = some H) (hle : H0 ≤ H) : r' = row ∨ ∀ g, r' = some g → H0 ≤ g := by
  rcases hat with rfl | rfl
  · exact h
  · exact .inr fun g hg => by injection hg with hg; omega
/-- What a grown row leaves of rows elsewhere. -/
theorem grown_keep {w x y : World} {r row : Option Nat} (h : w.grownBy x row) (k : x.grownBy y r) (hr : r = row ∨ ∀ g, r = some g → w.heap.size ≤ g) : w.grownBy y row :=
  ⟨k.os.trans h.os, k.tape.trans h.tape, k.output.trans h.output, Nat.le_trans h.size k.size, fun i hi hn => (k.block i (Nat.lt_of_lt_of_le hi h.size) (fun e => by
    rcases hr with rfl | hr
    · exact hn e
    · have := hr i e.symm; omega)).trans (h.block i hi hn)⟩

end Go.Proofs.Ythjjihipodhkiaa

/-
  Rows written full one behind the other, then lengthened. Over any program.
-/
namespace Go.Proofs.Ythjjihipodhkiaa
open Go.RowKit

abbrev RowL := List (Option Addr × Nat × List UInt8)
/-- The first k rows written full, each with its mark. -/
def fillR (mk : Nat → UInt8) (rs : RowL) (k : Nat) : RowL := rs.mapIdx fun i r => if i < k then (r.1, r.2.1, List.replicate r.2.2.length (mk i)) else r
theorem fillR_len (mk : Nat → UInt8) (rs : RowL) (k : Nat) : (fillR mk rs k).length = rs.length := by simp [fillR]
theorem fillR_get (mk : Nat → UInt8) (rs : RowL) (k i : Nat) : (fillR mk rs k)[i]? = rs[i]?.map fun r => if i < k then (r.1, r.2.1, List.replicate r.2.2.length (mk i)) else r := by simp [fillR, List.getElem?_mapIdx]
theorem fillR_zero (mk : Nat → UInt8) (rs : RowL) : fillR mk rs 0 = rs := by
  apply List.ext_getElem?
  intro i
  rw [fillR_get]
  cases rs[i]? <;> simp
theorem fillR_start {mk : Nat → UInt8} {rs : RowL} {j : Nat} {A : Option Addr} {c : Nat} {l : List UInt8} (h : rs[j]? = some (A, c, l)) (m : UInt8) : (fillR mk rs j).set j (A, c, fillTo l m 0) = fillR mk rs j := by
  apply List.ext_getElem?
  intro i
  rw [List.getElem?_set, fillTo_zero, fillR_len]
  by_cases e : j = i
  · subst e
    rw [if_pos rfl, if_pos (List.getElem?_eq_some_iff.1 h).1, fillR_get, h]
    simp
  · rw [if_neg e]
theorem fillR_done {mk : Nat → UInt8} {rs : RowL} {j : Nat} {A : Option Addr} {c : Nat} {l : List UInt8} (h : rs[j]? = some (A, c, l)) : (fillR mk rs j).set j (A, c, fillTo l (mk j) l.length) = fillR mk rs (j + 1) := by
  apply List.ext_getElem?
  intro i
  rw [List.getElem?_set, fillTo_all, fillR_len, fillR_get, fillR_get]
  by_cases e : j = i
  · subst e
    rw [if_pos rfl, if_pos (List.getElem?_eq_some_iff.1 h).1, h]
    simp
  · rw [if_neg e]
    congr 1
    funext r
    by_cases h1 : i < j
    · rw [if_pos h1, if_pos (by omega)]
    · rw [if_neg h1, if_neg (by omega)]

section
variable {T : TypeId} {base : Nat} {w x : World} {rs : RowL} {mk : Nat → UInt8}
/-- The next byte of the row that is being written. -/
theorem RowsB.fill {j k g c : Nat} {l : List UInt8} (h : RowsB T base w ((fillR mk rs j).set j (some ⟨g, 0, none⟩, c, fillTo l (mk j) k))) (hr : rs[j]? = some (some ⟨g, 0, none⟩, c, l)) (hk : k < l.length) :
    RowsB T base (w.setCell ⟨g, k, none⟩ (u8v (mk j))) ((fillR mk rs j).set j (some ⟨g, 0, none⟩, c, fillTo l (mk j) (k + 1))) ∧ Chg (fun b => b = g) w (w.setCell ⟨g, k, none⟩ (u8v (mk j))) := by
  have hlt := (List.getElem?_eq_some_iff.1 hr).1
  have h2 := h.store (i := j) (k := k) (g := g) (c := c) (l := fillTo l (mk j) k) (by rw [List.getElem?_set, if_pos rfl, if_pos (by rw [fillR_len]; exact hlt)]) (mk j)
  rw [List.set_set, fillTo_set _ hk] at h2
  exact h2
/-- A row's cells. -/
theorem RowsB.cell {i g c k : Nat} {l : List UInt8} (h : RowsB T base w rs) (hr : rs[i]? = some (some ⟨g, 0, none⟩, c, l)) {u : UInt8} (hk : l[k]? = some u) : w.cell? ⟨g, k, none⟩ = some (.int .u8 (u.toNat : Int)) ∧ w.frozen? ⟨g, k, none⟩ = false := by
  have ho : OwnB T base w (some ⟨g, 0, none⟩) c l := h.1 i _ hr
  have hlt := (List.getElem?_eq_some_iff.1 hk).1
  exact ⟨(World.ownsRow.cellAt ho k (by omega)).trans (u8s_at hk), World.ownsRow.frozenAt ho k⟩
theorem RowsB.form {i c : Nat} {A : Option Addr} {l : List UInt8} (h : RowsB T base w rs) (hr : rs[i]? = some (A, c, l)) (hl : 0 < l.length) : ∃ g, A = some ⟨g, 0, none⟩ ∧ base ≤ g ∧ g < w.heap.size := by
  have ho := h.1 i _ hr
  cases A with
  | none =>
    obtain ⟨A', c', e, _, _, h3, _⟩ := own_slice ho
    injection e with e1 e2 e3
    subst e1; subst e3
    have := (ho.cap).2.2 rfl
    have h4 := (ho.cap).1
    simp only at this h4
    omega
  | some a => exact ⟨a.block, by rw [← ho.zero rfl], ho.lt rfl⟩
theorem RowsB.sl_at {i c n : Nat} {A : Option Addr} {l : List UInt8} (h : RowsB T base w rs) (hr : rs[i]? = some (A, c, l)) (hn : l.length = n) : Sl w A n c l := hn ▸ Sl.own (h.1 i _ hr)
theorem RowsB.sl {i c : Nat} {A : Option Addr} {l : List UInt8} (h : RowsB T base w rs) (hr : rs[i]? = some (A, c, l)) : Sl w A l.length c l := Sl.own (h.1 i _ hr)
/-- One row was appended to. -/
theorem RowsB.grow {i c : Nat} {A : Option Addr} {l : List UInt8} (h : RowsB T base w rs) (hr : rs[i]? = some (A, c, l)) (hg : w.grownBy x (A.map (·.block))) (ho : OwnB T base x A c l) : RowsB T base x rs := by
  refine ⟨fun j r hj => ?_, h.2⟩
  by_cases e : j = i
  · subst e
    rw [hr] at hj; injection hj with hj; subst hj
    exact ho
  · refine own_chg (h.1 j r hj) (grown_chg hg) fun g hg' e' => ?_
    obtain ⟨B, d, l'⟩ := r
    cases B with
    | none => cases hg'
    | some b =>
      injection hg' with hg'
      cases A with
      | none => cases e'
      | some a =>
        injection e' with e'
        exact h.2 j i _ _ hj hr e b a rfl rfl (by rw [hg', ← e'])
theorem RowsB.fillRs (h : RowsB T base w rs) {ss : RowL} (hlen : ∀ (i : Nat) s, ss[i]? = some s → ∃ r, rs[i]? = some r ∧ r.1 = s.1) (ho : ∀ (i : Nat) s, ss[i]? = some s → OwnB T base w s.1 s.2.1 s.2.2) : RowsB T base w ss :=
  ⟨ho, fun i j r s hr hs hij a b ha hb => by
    obtain ⟨r', hr', e1⟩ := hlen i r hr
    obtain ⟨s', hs', e2⟩ := hlen j s hs
    exact h.2 i j r' s' hr' hs' hij a b (e1.trans ha) (e2.trans hb)⟩
/-- Some of the rows, in another order. -/
theorem RowsB.pick (h : RowsB T base w rs) {ss : RowL} (f : Nat → Nat) (hf : ∀ i j, i < ss.length → j < ss.length → i ≠ j → f i ≠ f j) (hs : ∀ (i : Nat) s, ss[i]? = some s → rs[f i]? = some s) : RowsB T base w ss :=
  ⟨fun i s hi => h.1 _ s (hs i s hi), fun i j r s hr hs' hij a b ha hb => h.2 (f i) (f j) r s (hs i r hr) (hs j s hs') (hf i j (List.getElem?_eq_some_iff.1 hr).1 (List.getElem?_eq_some_iff.1 hs').1 hij) a b ha hb⟩
end

theorem lit_one8 (w : World) (u : Value) (t : TypeId) (H : Nat) (h : w.heap.size = H) : Reads (w.alloc (.cells #[u] t)) (H + 1) 1 (some ⟨H, 0, none⟩) 1 [u] := by
  subst h; exact Reads.new w #[u] t 1 1 rfl
/-- What was lengthened lies in none of the rows that are still to be lengthened. -/
def Aps (rs : RowL) (k : Nat) (vs : List Value) : Prop := ∀ (i j : Nat) (a b : Addr) (n c : Nat) r, vs[j]? = some (.slice (some a) n c) → 0 < n → k ≤ i → rs[i]? = some r → r.1 = some b → a.block ≠ b.block
theorem Aps.nil (rs : RowL) : Aps rs 0 [] := fun i j a b n c r h => by simp at h
section
variable {T e : TypeId} {base H3 : Nat} {wr w2 w3 : World} {rs : RowL} {v v3 : Value} {vs : List Value} {ks : List (List UInt8)} {k gk ca c' : Nat} {l l' : List UInt8} {A' : Option Addr}
theorem more_own (hown : wr.ownsRow H3 e 1 v k vs) (hg2 : wr.grownBy w2 (some gk)) (hlt : gk < H3) : w2.ownsRow H3 e 1 v k vs :=
  own_chg hown (grown_chg hg2) fun g hg e' => by
    have := (World.ownsRow.lt hown g hg).1
    injection e' with e'; omega
theorem more_step {N : Nat} (hN : l'.length = N) (hR : RowsB T base wr rs) (hk : rs[k]? = some (some ⟨gk, 0, none⟩, ca, l)) (hF : FamS wr v.ownBlock vs ks) (hA : Aps rs k vs) (hown : wr.ownsRow H3 e 1 v k vs)
    (hH : ∀ (i : Nat) r a, rs[i]? = some r → r.1 = some a → a.block < H3) (hle : H3 ≤ wr.heap.size)
    (hg2 : wr.grownBy w2 (some gk)) (ho2 : OwnB T base w2 (some ⟨gk, 0, none⟩) ca l) (hs2 : OwnB T base w2 A' c' l') (hblk : ∀ a, A' = some a → some gk = some a.block ∨ wr.heap.size ≤ a.block)
    (hg3 : (w2.alloc (.cells #[.slice A' N c'] e)).grownBy w3 v.ownBlock) (hat3 : v3.ownBlock = v.ownBlock ∨ v3.ownBlock = some (w2.alloc (.cells #[.slice A' N c'] e)).heap.size) :
    RowsB T base w3 rs ∧ FamS w3 v3.ownBlock (vs ++ [.slice A' N c']) (ks ++ [l']) ∧ Aps rs (k + 1) (vs ++ [.slice A' N c']) ∧ (∀ S : Nat → Prop, S gk → (∀ b, H3 ≤ b → S b) → Chg S wr w3) := by
  subst hN
  have hgkl : gk < H3 := hH k _ ⟨gk, 0, none⟩ hk rfl
  have hal : Below w2.heap.size w2 (w2.alloc (.cells #[.slice A' l'.length c'] e)) := (Below.refl _ _).alloc (Nat.le_refl _) _
  have hvb : ∀ g, v.ownBlock = some g → H3 ≤ g ∧ g < wr.heap.size := fun g hg => World.ownsRow.lt hown g hg
  have hR2 : RowsB T base w2 rs := hR.grow hk hg2 ho2
  have hF2 : FamS w2 v.ownBlock vs ks := hF.chg (grown_chg hg2) fun i q a n c hq hq0 hv e' => by
    have hn : 0 < n := by
      obtain ⟨a2, c2, h1, _, _⟩ := hF.2 i q hq
      rw [hv] at h1; injection h1 with h1; injection h1 with _ h1 _; omega
    injection e' with e'
    exact hA k i a ⟨gk, 0, none⟩ n c _ hv hn (Nat.le_refl _) hk rfl e'.symm
  have hne : 0 < l'.length → ∀ x, A' = some x → some x.block ≠ v.ownBlock := fun _ x hx e' => by
    have h1 := hvb _ e'.symm
    rcases hblk x hx with h | h
    · injection h with h; omega
    · omega
  have hF3 := ((hF2.later hal).snoc ((Sl.own hs2).later hal) hne).step hg3 hat3
  refine ⟨?_, hF3, ?_, fun S h1 h2 => ?_⟩
  · refine (hR2.later hal).chg (grown_chg hg3) fun i r hr a ha e' => ?_
    have h1 := hH i r a hr ha
    have h2 := hvb _ e'
    omega
  · intro i j a b n c r hj hn hi hr hb
    rw [List.getElem?_append] at hj
    split at hj
    · exact hA i j a b n c r hj hn (by omega) hr hb
    · have h0 : j - vs.length = 0 := by
        have := (List.getElem?_eq_some_iff.1 hj).1
        simp at this; omega
      rw [h0] at hj
      injection hj with hj
      injection hj with hj _ _
      rcases hblk a hj with h | h
      · injection h with h
        have := hR.2 k i _ r hk hr (by omega) ⟨gk, 0, none⟩ b rfl hb
        rw [← h]; exact this
      · have h1 := hH i r b hr hb
        omega
  · have c1 : Chg S wr w2 := (grown_chg hg2).mono fun b _ e' => by injection e' with e'; subst e'; exact h1
    have c2 : Chg S w2 (w2.alloc (.cells #[.slice A' l'.length c'] e)) := Below.chg0 hal
    have c3 : Chg S (w2.alloc (.cells #[.slice A' l'.length c'] e)) w3 := (grown_chg hg3).mono fun b _ e' => h2 b (hvb b e').1
    exact (c1.trans c2).trans c3
end

end Go.Proofs.Ythjjihipodhkiaa

/-
  Two lists of one's own that hold rows of one's own: all of them apart. Over any program.
-/
namespace Go.Proofs.Ythjjihipodhkiaa
open Go.RowKit

/-- A row as a list holds it. -/
def valR (r : Option Addr × Nat × List UInt8) : Value := .slice r.1 r.2.2.length r.2.1
/-- None of the rows lies in the list's block. -/
def Off (v : Value) (zs : RowL) : Prop := ∀ g, v.ownBlock = some g → ∀ (i : Nat) r a, zs[i]? = some r → r.1 = some a → a.block ≠ g
structure ApSt (T e : TypeId) (B : Nat) (w : World) (lv wv : Value) (rs ws ps : RowL) : Prop where
  rows : RowsB T B w (rs ++ ws ++ ps)
  ol : w.ownsRow B e 1 lv rs.length (rs.map valR)
  ow : w.ownsRow B e 1 wv ws.length (ws.map valR)
  al : Off lv (rs ++ ws ++ ps)
  aw : Off wv (rs ++ ws ++ ps)
  ne : ∀ g, lv.ownBlock = some g → wv.ownBlock ≠ some g
  le : B ≤ w.heap.size
theorem move_get (rs ws ps : RowL) (i : Nat) : (rs ++ ps ++ ws)[i]? = (rs ++ ws ++ ps)[if i < rs.length then i else if i < rs.length + ps.length then i + ws.length else if i < rs.length + ps.length + ws.length then i - ps.length else i]? := by
  by_cases h1 : i < rs.length
  · rw [if_pos h1, List.append_assoc, List.append_assoc, List.getElem?_append_left h1, List.getElem?_append_left h1]
  · rw [if_neg h1]
    by_cases h2 : i < rs.length + ps.length
    · rw [if_pos h2, List.getElem?_append_left (by rw [List.length_append]; exact h2), List.getElem?_append_right (by omega), List.getElem?_append_right (by rw [List.length_append]; omega), List.length_append]
      congr 1; omega
    · rw [if_neg h2]
      by_cases h3 : i < rs.length + ps.length + ws.length
      · rw [if_pos h3, List.getElem?_append_right (by rw [List.length_append]; omega), List.length_append, List.getElem?_append_left (by rw [List.length_append]; omega), List.getElem?_append_right (by omega)]
        congr 1; omega
      · rw [if_neg h3, List.getElem?_eq_none (by rw [List.length_append, List.length_append]; omega), List.getElem?_eq_none (by rw [List.length_append, List.length_append]; omega)]
section
variable {T e : TypeId} {B : Nat} {w x : World} {lv wv v' : Value} {rs ws ps : RowL}
theorem RowsB.move (h : RowsB T B w (rs ++ ws ++ ps)) : RowsB T B w (rs ++ ps ++ ws) := by
  refine h.pick (fun i => if i < rs.length then i else if i < rs.length + ps.length then i + ws.length else if i < rs.length + ps.length + ws.length then i - ps.length else i) (fun i j hi hj hij => ?_) fun i s hs => by rw [← move_get]; exact hs
  simp only [List.length_append] at hi hj
  split <;> split <;> (try split) <;> (try split) <;> (try split) <;> (try split) <;> omega
theorem Off.move {v : Value} (h : Off v (rs ++ ws ++ ps)) : Off v (rs ++ ps ++ ws) := fun g hg i r a hr ha => h g hg _ r a (by rw [← move_get]; exact hr) ha
theorem ApSt.nil (h : B ≤ w.heap.size) : ApSt T e B w (.slice none 0 0) (.slice none 0 0) [] [] [] :=
  ⟨RowsB.nil, own_nil _ _ _ _, own_nil _ _ _ _, fun g hg => (by cases hg), fun g hg => (by cases hg), fun g hg => (by cases hg), h⟩
theorem ApSt.later (h : ApSt T e B w lv wv rs ws ps) (hb : Below w.heap.size w x) : ApSt T e B x lv wv rs ws ps :=
  ⟨h.rows.later hb, own_below h.ol hb, own_below h.ow hb, h.al, h.aw, h.ne, Nat.le_trans h.le hb.size⟩
theorem off_snoc {v : Value} {A : Option Addr} {c : Nat} {l : List UInt8} {zs : RowL} (h : Off v zs) (hv : ∀ g, v.ownBlock = some g → g < w.heap.size) (ho : OwnB T w.heap.size x A c l) : Off v (zs ++ [(A, c, l)]) := fun g hg i r a hr ha => by
  rw [List.getElem?_append] at hr
  split at hr
  · exact h g hg i r a hr ha
  · have h0 : i - zs.length = 0 := by
      have := (List.getElem?_eq_some_iff.1 hr).1
      simp at this; omega
    rw [h0] at hr
    injection hr with hr; subst hr
    have h1 := (ho.lt ha).1
    have h2 := hv g hg
    omega
theorem ApSt.fresh (h : ApSt T e B w lv wv rs ws ps) (hb : Below w.heap.size w x) {A : Option Addr} {c : Nat} {l : List UInt8} (ho : OwnB T w.heap.size x A c l) : ApSt T e B x lv wv rs ws (ps ++ [(A, c, l)]) := by
  have h' := h.later hb
  refine ⟨?_, h'.ol, h'.ow, ?_, ?_, h.ne, h'.le⟩
  · rw [← List.append_assoc]; exact h.rows.fresh hb ho h.le
  · rw [← List.append_assoc]; exact off_snoc h.al (own_row_lt h.ol) ho
  · rw [← List.append_assoc]; exact off_snoc h.aw (own_row_lt h.ow) ho
theorem off_grown {v v' : Value} {zs : RowL} (h : Off v zs) (hat : v'.ownBlock = v.ownBlock ∨ v'.ownBlock = some w.heap.size) (hR : RowsB T B w zs) : Off v' zs := fun g hg i r a hr ha => by
  rcases hat with e | e
  · exact h g (e ▸ hg) i r a hr ha
  · rw [e] at hg; injection hg with hg
    have := ((hR.1 i r hr).lt ha).2
    omega
theorem rows_grown {v : Value} {zs : RowL} (hR : RowsB T B w zs) (h : Off v zs) (hg : w.grownBy x v.ownBlock) : RowsB T B x zs :=
  hR.chg (grown_chg hg) fun i r hr a ha e => h a.block e i r a hr ha rfl
/-- What is pending goes into the first list. -/
theorem ApSt.appL (h : ApSt T e B w lv wv rs ws ps) {o : Obj} {n : Nat} {us : List Value} (hn : rs.length + ps.length = n) (hu : rs.map valR ++ ps.map valR = us) (ho : x.ownsRow B e 1 v' n us) (hg : (w.alloc o).grownBy x lv.ownBlock) (hat : v'.ownBlock = lv.ownBlock ∨ v'.ownBlock = some (w.alloc o).heap.size) : ApSt T e B x v' wv (rs ++ ps) ws [] := by
  subst hn; subst hu
  have ha : ApSt T e B (w.alloc o) lv wv rs ws ps := h.later ((Below.refl _ _).alloc (Nat.le_refl _) o)
  refine ⟨?_, ?_, own_chg ha.ow (grown_chg hg) fun g hg hu => ha.ne g hu hg, ?_, ?_, fun g hg hu => ?_, Nat.le_trans ha.le hg.size⟩
  · rw [List.append_nil]; exact (rows_grown ha.rows ha.al hg).move
  · rw [List.length_append, List.map_append]; exact ho
  · rw [List.append_nil]; exact (off_grown ha.al hat ha.rows).move
  · rw [List.append_nil]; exact ha.aw.move
  · rcases hat with e | e
    · exact ha.ne g (e ▸ hg) hu
    · rw [e] at hg; injection hg with hg
      have := own_row_lt ha.ow g hu
      omega
/-- .. into the second. -/
theorem ApSt.appW (h : ApSt T e B w lv wv rs ws ps) {o : Obj} {n : Nat} {us : List Value} (hn : ws.length + ps.length = n) (hu : ws.map valR ++ ps.map valR = us) (ho : x.ownsRow B e 1 v' n us) (hg : (w.alloc o).grownBy x wv.ownBlock) (hat : v'.ownBlock = wv.ownBlock ∨ v'.ownBlock = some (w.alloc o).heap.size) : ApSt T e B x lv v' rs (ws ++ ps) [] := by
  subst hn; subst hu
  have ha : ApSt T e B (w.alloc o) lv wv rs ws ps := h.later ((Below.refl _ _).alloc (Nat.le_refl _) o)
  refine ⟨?_, own_chg ha.ol (grown_chg hg) fun g hg hu => ha.ne g hg hu, ?_, ?_, ?_, fun g hg hu => ?_, Nat.le_trans ha.le hg.size⟩
  · rw [List.append_nil, ← List.append_assoc]; exact rows_grown ha.rows ha.aw hg
  · rw [List.length_append, List.map_append]; exact ho
  · rw [List.append_nil, ← List.append_assoc]; exact ha.al
  · rw [List.append_nil, ← List.append_assoc]; exact off_grown ha.aw hat ha.rows
  · rcases hat with e | e
    · exact ha.ne g hg (e ▸ hu)
    · rw [e] at hu; injection hu with hu
      have := own_row_lt ha.ol g hg
      omega
end

/-- The lengthened ones. -/
def moreL (mk : Nat → UInt8) (rs : RowL) (q : Nat) : List (List UInt8) := (List.range q).map fun i => List.replicate (2 * ((rs[i]?.map fun r => r.2.2.length).getD 0) + 70) (mk i)
theorem moreL_zero (mk : Nat → UInt8) (rs : RowL) : moreL mk rs 0 = [] := rfl
theorem moreL_succ (mk : Nat → UInt8) {rs : RowL} {q : Nat} {A : Option Addr} {c : Nat} {l : List UInt8} (h : rs[q]? = some (A, c, l)) : moreL mk rs (q + 1) = moreL mk rs q ++ [List.replicate (2 * l.length + 70) (mk q)] := by simp [moreL, List.range_succ, h]
theorem moreL_at (mk : Nat → UInt8) {rs : RowL} {q i : Nat} (hi : i < q) {A : Option Addr} {c : Nat} {l : List UInt8} (h : rs[i]? = some (A, c, l)) : (moreL mk rs q)[i]? = some (List.replicate (2 * l.length + 70) (mk i)) := by simp [moreL, List.getElem?_map, List.getElem?_range hi, h]
section
variable {T e : TypeId} {base H3 : Nat} {wr w2 w3 : World} {rs : RowL} {v v3 : Value} {vs : List Value} {ks : List (List UInt8)} {k ca c' : Nat} {l l' : List UInt8} {A A' : Option Addr}
theorem more_own2 (hown : wr.ownsRow H3 e 1 v k vs) (hg2 : wr.grownBy w2 (A.map (·.block))) (hlt : ∀ a, A = some a → a.block < H3) : w2.ownsRow H3 e 1 v k vs :=
  own_chg hown (grown_chg hg2) fun g hg e' => by
    have := (World.ownsRow.lt hown g hg).1
    cases A with
    | none => cases e'
    | some a => injection e' with e'; have : a.block < H3 := hlt a rfl; have e'' : a.block = g := e'; omega
/-- more_step, of any row. -/
theorem more_step2 {N : Nat} (hN : l'.length = N) (hR : RowsB T base wr rs) (hk : rs[k]? = some (A, ca, l)) (hF : FamS wr v.ownBlock vs ks) (hA : Aps rs k vs) (hown : wr.ownsRow H3 e 1 v k vs)
    (hH : ∀ (i : Nat) r a, rs[i]? = some r → r.1 = some a → a.block < H3) (hle : H3 ≤ wr.heap.size)
    (hg2 : wr.grownBy w2 (A.map (·.block))) (ho2 : OwnB T base w2 A ca l) (hs2 : OwnB T base w2 A' c' l') (hblk : ∀ a, A' = some a → A.map (·.block) = some a.block ∨ wr.heap.size ≤ a.block)
    (hg3 : (w2.alloc (.cells #[.slice A' N c'] e)).grownBy w3 v.ownBlock) (hat3 : v3.ownBlock = v.ownBlock ∨ v3.ownBlock = some (w2.alloc (.cells #[.slice A' N c'] e)).heap.size) :
    RowsB T base w3 rs ∧ FamS w3 v3.ownBlock (vs ++ [.slice A' N c']) (ks ++ [l']) ∧ Aps rs (k + 1) (vs ++ [.slice A' N c']) ∧ (∀ S : Nat → Prop, (∀ a, A = some a → S a.block) → (∀ b, H3 ≤ b → S b) → Chg S wr w3) := by
  subst hN
  have hgkl : ∀ a, A = some a → a.block < H3 := fun a ha => hH k _ a hk ha
  have hal : Below w2.heap.size w2 (w2.alloc (.cells #[.slice A' l'.length c'] e)) := (Below.refl _ _).alloc (Nat.le_refl _) _
  have hvb : ∀ g, v.ownBlock = some g → H3 ≤ g ∧ g < wr.heap.size := fun g hg => World.ownsRow.lt hown g hg
  have hR2 : RowsB T base w2 rs := hR.grow hk hg2 ho2
  have hF2 : FamS w2 v.ownBlock vs ks := hF.chg (grown_chg hg2) fun i q a n c hq hq0 hv e' => by
    have hn : 0 < n := by
      obtain ⟨a2, c2, h1, _, _⟩ := hF.2 i q hq
      rw [hv] at h1; injection h1 with h1; injection h1 with _ h1 _; omega
    cases A with
    | none => cases e'
    | some b =>
      injection e' with e'
      exact hA k i a b n c _ hv hn (Nat.le_refl _) hk rfl e'.symm
  have hne : 0 < l'.length → ∀ x, A' = some x → some x.block ≠ v.ownBlock := fun _ x hx e' => by
    have h1 := hvb _ e'.symm
    rcases hblk x hx with h | h
    · cases A with
      | none => cases h
      | some b => injection h with h; have h3 : b.block < H3 := hgkl b rfl; have h4 : b.block = x.block := h; omega
    · omega
  have hF3 := ((hF2.later hal).snoc ((Sl.own hs2).later hal) hne).step hg3 hat3
  refine ⟨?_, hF3, ?_, fun S h1 h2 => ?_⟩
  · refine (hR2.later hal).chg (grown_chg hg3) fun i r hr a ha e' => ?_
    have h1 := hH i r a hr ha
    have h2 := hvb _ e'
    omega
  · intro i j a b n c r hj hn hi hr hb
    rw [List.getElem?_append] at hj
    split at hj
    · exact hA i j a b n c r hj hn (by omega) hr hb
    · have h0 : j - vs.length = 0 := by
        have := (List.getElem?_eq_some_iff.1 hj).1
        simp at this; omega
      rw [h0] at hj
      injection hj with hj
      injection hj with hj _ _
      rcases hblk a hj with h | h
      · cases A with
        | none => cases h
        | some g =>
          injection h with h
          have := hR.2 k i _ r hk hr (by omega) g b rfl hb
          rw [← h]; exact this
      · have h1 := hH i r b hr hb
        omega
  · have c1 : Chg S wr w2 := (grown_chg hg2).mono fun b _ e' => by
      cases A with
      | none => cases e'
      | some g => injection e' with e'; subst e'; exact h1 g rfl
    have c2 : Chg S w2 (w2.alloc (.cells #[.slice A' l'.length c'] e)) := Below.chg0 hal
    have c3 : Chg S (w2.alloc (.cells #[.slice A' l'.length c'] e)) w3 := (grown_chg hg3).mono fun b _ e' => h2 b (hvb b e').1
    exact (c1.trans c2).trans c3
end

end Go.Proofs.Ythjjihipodhkiaa

/-
  A list of one's own that holds rows of one's own; rows lengthened, cell by cell. Over any program.
-/
namespace Go.Proofs.Ythjjihipodhkiaa
open Go.RowKit

/-- A list of rows; all of it one's own, all apart. -/
structure LR (T e : TypeId) (B : Nat) (w : World) (A : Option Addr) (n c : Nat) (rs : RowL) (ks : List (List UInt8)) : Prop where
  ol : w.ownsRow B e 1 (.slice A n c) n (rs.map valR)
  rows : RowsB T B w rs
  off : Off (.slice A n c) rs
  cont : rs.map (·.2.2) = ks
  len : rs.length = n
theorem cont_one10 {zs : RowL} {L : List (List UInt8)} (h : zs.map (·.2.2) = L) {k : Nat} {F : List UInt8} (hk : L[k]? = some F) : ∃ a ca, zs[k]? = some (a, ca, F) := by
  rw [← h, List.getElem?_map] at hk
  cases hz : zs[k]? with
  | none => rw [hz] at hk; cases hk
  | some r =>
    rw [hz] at hk; injection hk with hk
    exact ⟨r.1, r.2.1, by rw [← hk]⟩
section
variable {T e : TypeId} {B n c : Nat} {w x : World} {lv wv : Value} {A : Option Addr} {rs : RowL} {ks : List (List UInt8)} {S : Nat → Prop}
theorem ApSt.lr (h : ApSt T e B w lv wv rs [] []) (hk : rs.map (·.2.2) = ks) (hn : rs.length = n) : ∃ A c, lv = .slice A n c ∧ LR T e B w A n c rs ks := by
  obtain ⟨h1, h2, _, h3, _⟩ := h
  rw [List.append_nil, List.append_nil] at h1 h3
  rw [hn] at h2
  obtain ⟨A, c, rfl, _⟩ := own_slice h2
  exact ⟨A, c, rfl, h2, h1, h3, hk, hn⟩
theorem LR.len_ks (h : LR T e B w A n c rs ks) : ks.length = n := by rw [← h.cont, List.length_map, h.len]
theorem LR.chg (h : LR T e B w A n c rs ks) (hc : Chg S w x) (h1 : ∀ a, A = some a → ¬ S a.block) (h2 : ∀ (i : Nat) r a, rs[i]? = some r → r.1 = some a → ¬ S a.block) : LR T e B x A n c rs ks :=
  ⟨own_chg h.ol hc fun g hg => by
    cases A with
    | none => cases hg
    | some a => injection hg with hg; subst hg; exact h1 a rfl, h.rows.chg hc fun i r hr a ha => h2 i r a hr ha, h.off, h.cont, h.len⟩
theorem LR.later (h : LR T e B w A n c rs ks) (hb : Below w.heap.size w x) : LR T e B x A n c rs ks := h.chg (S := fun _ => False) (Below.chg0 hb) (fun _ _ e => e) fun _ _ _ _ _ e => e
theorem LR.cell (h : LR T e B w A n c rs ks) {i : Nat} {a : Option Addr} {ca : Nat} {l : List UInt8} (hr : rs[i]? = some (a, ca, l)) : ∃ g, A = some ⟨g, 0, none⟩ ∧ B ≤ g ∧ g < w.heap.size ∧ w.cell? ⟨g, i, none⟩ = some (.slice a l.length ca) := by
  have hlt := (List.getElem?_eq_some_iff.1 hr).1
  have hn := h.len
  obtain ⟨g, cap, hv, h1, h2, _⟩ := own_form h.ol (by omega)
  injection hv with hv _ _
  subst hv
  exact ⟨g, rfl, h1, h2, (World.ownsRow.cellAt h.ol i (by omega)).trans (by rw [List.getElem?_map, hr]; rfl)⟩
theorem LR.at_ (h : LR T e B w A n c rs ks) {i : Nat} {l : List UInt8} (hk : ks[i]? = some l) : ∃ a ca, rs[i]? = some (a, ca, l) ∧ Sl w a l.length ca l := by
  obtain ⟨a, ca, hr⟩ := cont_one10 h.cont hk
  exact ⟨a, ca, hr, h.rows.sl hr⟩
theorem LR.kv (h : LR T e B w A n c rs ks) : KV w w.heap.size (rs.map valR) ks :=
  ⟨by rw [List.length_map, h.len, h.len_ks], fun i k hk => by
    obtain ⟨a, ca, hr, hs⟩ := h.at_ hk
    exact ⟨a, ca, by rw [List.getElem?_map, hr]; rfl, hs.cap, hs.lim, hs.nil, hs.rb⟩⟩
theorem LR.rbs (h : LR T e B w A n c rs ks) : RBs w w.heap.size A n ks := h.kv.rbs (Reads.own h.ol)
end

/-- A slice that begins with n bytes and goes on with t alone: behind an append of t's to a row that is at least n long, wherever that lies, it is what it was. -/
theorem Sl.retail {w x : World} {A : Option Addr} {n N M N' c : Nat} {l : List UInt8} {t : UInt8} {row : Option Nat} (h : Sl w A (n + N) c (l ++ List.replicate N t)) (hl : l.length = n) (hA : ∀ a, A = some a → a.off = 0) (hM : n ≤ M)
    (hc : ∀ p u, w.cell? p = some u → x.cell? p = some u ∨ (some p.block = row ∧ p.spot = Option.none ∧ M ≤ p.off ∧ p.off < M + N' ∧ x.cell? p = (u8s (List.replicate N' t))[p.off - M]?)) (hsz : w.heap.size ≤ x.heap.size) : Sl x A (n + N) c (l ++ List.replicate N t) := by
  refine ⟨RB.mk' h.len fun h0 => ?_, h.cap, h.lim, h.nil⟩
  obtain ⟨b, o, e, hb, hcell⟩ := h.rb.2 h0
  have ho : o = 0 := hA ⟨b, o, Option.none⟩ e
  refine ⟨b, o, e, Nat.lt_of_lt_of_le hb hsz, fun j u hj => ?_⟩
  have h1 := hcell j _ (u8s_at hj)
  rcases hc _ _ h1 with h2 | ⟨_, _, h2, h3, h4⟩
  · exact h2
  · simp only at h2 h3 h4
    rw [h4]
    have hj' : u = t := by
      rw [List.getElem?_append_right (by omega), List.getElem?_replicate] at hj
      split at hj
      · injection hj with hj; exact hj.symm
      · cases hj
    rw [hj']
    refine u8s_at ?_
    rw [List.getElem?_replicate, if_pos (by omega)]
theorem own_off {T : TypeId} {base : Nat} {w : World} {A : Option Addr} {c : Nat} {l : List UInt8} (h : OwnB T base w A c l) : ∀ a, A = some a → a.off = 0 := fun a ha => by rw [h.zero ha]

/-- The lengthened ones of the first q rows, three of each. -/
def moreW (mk tl : Nat → UInt8) (rs : RowL) (q : Nat) : List (List UInt8) := (List.range q).flatMap fun i =>
  [List.replicate ((rs[i]?.map fun r => r.2.2.length).getD 0) (mk i) ++ List.replicate 1 (tl i), List.replicate ((rs[i]?.map fun r => r.2.2.length).getD 0) (mk i) ++ List.replicate 2 (tl i), List.replicate ((rs[i]?.map fun r => r.2.2.length).getD 0) (mk i) ++ List.replicate 70 (tl i)]
theorem moreW_succ (mk tl : Nat → UInt8) {rs : RowL} {q : Nat} {A : Option Addr} {c : Nat} {l : List UInt8} (h : rs[q]? = some (A, c, l)) : moreW mk tl rs (q + 1) = moreW mk tl rs q ++ [List.replicate l.length (mk q) ++ List.replicate 1 (tl q), List.replicate l.length (mk q) ++ List.replicate 2 (tl q), List.replicate l.length (mk q) ++ List.replicate 70 (tl q)] := by simp [moreW, List.range_succ, h]
theorem moreW_len (mk tl : Nat → UInt8) (rs : RowL) (q : Nat) : (moreW mk tl rs q).length = 3 * q := by
  induction q with
  | zero => rfl
  | succ q ih =>
    have : (moreW mk tl rs (q + 1)).length = (moreW mk tl rs q).length + 3 := by simp [moreW, List.range_succ]
    omega
def extW : Nat → Nat
  | 0 => 1
  | 1 => 2
  | _ => 70
theorem moreW_at (mk tl : Nat → UInt8) {rs : RowL} {q i d : Nat} (hi : i < q) (hd : d < 3) {A : Option Addr} {c : Nat} {l : List UInt8} (h : rs[i]? = some (A, c, l)) : (moreW mk tl rs q)[3 * i + d]? = some (List.replicate l.length (mk i) ++ List.replicate (extW d) (tl i)) := by
  induction q with
  | zero => omega
  | succ q ih =>
    have e : moreW mk tl rs (q + 1) = moreW mk tl rs q ++ [List.replicate ((rs[q]?.map fun r => r.2.2.length).getD 0) (mk q) ++ List.replicate 1 (tl q), List.replicate ((rs[q]?.map fun r => r.2.2.length).getD 0) (mk q) ++ List.replicate 2 (tl q), List.replicate ((rs[q]?.map fun r => r.2.2.length).getD 0) (mk q) ++ List.replicate 70 (tl q)] := by simp [moreW, List.range_succ]
    rw [e]
    by_cases h1 : i < q
    · rw [List.getElem?_append_left (by rw [moreW_len]; omega)]
      exact ih h1
    · obtain rfl : i = q := by omega
      rw [List.getElem?_append_right (by rw [moreW_len]; omega), moreW_len, h]
      match d, hd with
      | 0, _ => simp [extW]
      | 1, _ => simp [extW, show 3 * i + 1 - 3 * i = 1 from by omega]
      | 2, _ => simp [extW, show 3 * i + 2 - 3 * i = 2 from by omega]
section
variable {T e : TypeId} {base H3 : Nat} {wr w2 w3 : World} {rs : RowL} {v v3 : Value} {vs : List Value} {ks : List (List UInt8)} {k m ca : Nat} {l : List UInt8} {A : Option Addr}
theorem Aps.three {vs us : List Value} (h : Aps rs k vs) (hu : ∀ (j : Nat) (a : Addr) (n c : Nat), us[j]? = some (.slice (some a) n c) → 0 < n → ∀ (i : Nat) (b : Addr) r, k + 1 ≤ i → rs[i]? = some r → r.1 = some b → a.block ≠ b.block) : Aps rs (k + 1) (vs ++ us) := by
  intro i j a b n c r hj hn hi hr hb
  rw [List.getElem?_append] at hj
  split at hj
  · exact h i j a b n c r hj hn (by omega) hr hb
  · exact hu _ a n c hj hn i b r hi hr hb
/-- The row k was lengthened three times; the list of what came of it takes the three. -/
theorem more_step3 {A1 A2 A3 : Option Addr} {N1 N2 N3 c1 c2 c3 : Nat} {l1 l2 l3 : List UInt8} (hR : RowsB T base wr rs) (hk : rs[k]? = some (A, ca, l)) (hF : FamS wr v.ownBlock vs ks) (hA : Aps rs k vs) (hown : wr.ownsRow H3 e 1 v m vs)
    (hH : ∀ (i : Nat) r a, rs[i]? = some r → r.1 = some a → a.block < H3) (hle : H3 ≤ wr.heap.size)
    (hg2 : wr.grownBy w2 (A.map (·.block))) (ho2 : OwnB T base w2 A ca l)
    (s1 : Sl w2 A1 N1 c1 l1) (s2 : Sl w2 A2 N2 c2 l2) (s3 : Sl w2 A3 N3 c3 l3)
    (b1 : ∀ a, A1 = some a → A.map (·.block) = some a.block ∨ wr.heap.size ≤ a.block) (b2 : ∀ a, A2 = some a → A.map (·.block) = some a.block ∨ wr.heap.size ≤ a.block) (b3 : ∀ a, A3 = some a → A.map (·.block) = some a.block ∨ wr.heap.size ≤ a.block)
    {o : Obj} (hg3 : (w2.alloc o).grownBy w3 v.ownBlock) (hat3 : v3.ownBlock = v.ownBlock ∨ v3.ownBlock = some (w2.alloc o).heap.size) :
    RowsB T base w3 rs ∧ FamS w3 v3.ownBlock (vs ++ [.slice A1 N1 c1, .slice A2 N2 c2, .slice A3 N3 c3]) (ks ++ [l1, l2, l3]) ∧ Aps rs (k + 1) (vs ++ [.slice A1 N1 c1, .slice A2 N2 c2, .slice A3 N3 c3]) ∧ (∀ S : Nat → Prop, (∀ a, A = some a → S a.block) → (∀ b, H3 ≤ b → S b) → Chg S wr w3) := by
  have hgkl : ∀ a, A = some a → a.block < H3 := fun a ha => hH k _ a hk ha
  have hal : Below w2.heap.size w2 (w2.alloc o) := (Below.refl _ _).alloc (Nat.le_refl _) _
  have hvb : ∀ g, v.ownBlock = some g → H3 ≤ g ∧ g < wr.heap.size := fun g hg => World.ownsRow.lt hown g hg
  have hR2 : RowsB T base w2 rs := hR.grow hk hg2 ho2
  have hF2 : FamS w2 v.ownBlock vs ks := hF.chg (grown_chg hg2) fun i q a n c hq hq0 hv e' => by
    have hn : 0 < n := by
      obtain ⟨a2, c2, h1, _, _⟩ := hF.2 i q hq
      rw [hv] at h1; injection h1 with h1; injection h1 with _ h1 _; omega
    cases A with
    | none => cases e'
    | some b =>
      injection e' with e'
      exact hA k i a b n c _ hv hn (Nat.le_refl _) hk rfl e'.symm
  have hne : ∀ A' : Option Addr, (∀ a : Addr, A' = some a → A.map (·.block) = some a.block ∨ wr.heap.size ≤ a.block) → ∀ x : Addr, A' = some x → some x.block ≠ v.ownBlock := fun A' hb x hx e' => by
    have h1 := hvb _ e'.symm
    rcases hb x hx with h | h
    · cases A with
      | none => cases h
      | some b => injection h with h; have h3 : b.block < H3 := hgkl b rfl; have h4 : b.block = x.block := h; omega
    · omega
  have hF3 := ((((hF2.later hal).snoc (s1.later hal) fun _ => hne A1 b1).snoc (s2.later hal) fun _ => hne A2 b2).snoc (s3.later hal) fun _ => hne A3 b3).step hg3 hat3
  simp only [List.append_assoc, List.cons_append, List.nil_append] at hF3
  refine ⟨?_, hF3, hA.three fun j a n c hj hn i b r hi hr hb => ?_, fun S h1 h2 => ?_⟩
  · refine (hR2.later hal).chg (grown_chg hg3) fun i r hr a ha e' => ?_
    have h1 := hH i r a hr ha
    have h2 := hvb _ e'
    omega
  · have key : ∀ A' : Option Addr, (∀ a : Addr, A' = some a → A.map (·.block) = some a.block ∨ wr.heap.size ≤ a.block) → A' = some a → a.block ≠ b.block := fun A' hb' ha => by
      rcases hb' a ha with h | h
      · cases A with
        | none => cases h
        | some g =>
          injection h with h
          have := hR.2 k i _ r hk hr (by omega) g b rfl hb
          rw [← h]; exact this
      · have h1 := hH i r b hr hb
        omega
    match j, hj with
    | 0, hj => injection hj with hj; injection hj with hj _ _; exact key A1 b1 hj
    | 1, hj => injection hj with hj; injection hj with hj _ _; exact key A2 b2 hj
    | 2, hj => injection hj with hj; injection hj with hj _ _; exact key A3 b3 hj
    | j + 3, hj => simp at hj
  · have c1 : Chg S wr w2 := (grown_chg hg2).mono fun b _ e' => by
      cases A with
      | none => cases e'
      | some g => injection e' with e'; subst e'; exact h1 g rfl
    have c2 : Chg S w2 (w2.alloc o) := Below.chg0 hal
    have c3 : Chg S (w2.alloc o) w3 := (grown_chg hg3).mono fun b _ e' => h2 b (hvb b e').1
    exact (c1.trans c2).trans c3
end

theorem Chg.trans3 {S : Nat → Prop} {w x y : World} {H : Nat} (h : Chg S w x) (k : Chg (fun b => S b ∨ H ≤ b) x y) (hle : w.heap.size ≤ H) : Chg S w y :=
  ⟨k.os.trans h.os, k.tape.trans h.tape, k.output.trans h.output, Nat.le_trans h.size k.size, fun b hb hn => (k.block b (Nat.lt_of_lt_of_le hb h.size) (fun e => by rcases e with e | e; exact hn e; omega)).trans (h.block b hb hn)⟩
section
variable {P : Program} (w : World)
/-- 'append(s, x...)' in a region that draws its order; cell by cell. -/
theorem step_append_cells {ops : Array Oper} {o : Oper} {a : Act} {K : Act → World → Prop} {Q : Exit → Act → World → Prop} {E : Prop} (hgd : o.guard = none) (s x : Operand) {t e : TypeId} {bytes : Nat}
    (ho : o.op = .call { callee := .builtin .append, args := #[s, x], argTypes := #[t, t] }) (hS : SliceOf P t e 1 bytes)
    (base : Nat) (v : Value) (n : Nat) (xs : List Value) (hs : a.eval s = v) (hown : w.ownsRow base e 1 v n xs)
    (B : Nat) (A : Option Addr) (m c : Nat) (news : List Value) (hx : a.eval x = .slice A m c) (hr : Reads w B 1 A m news) (h1 : ∀ u ∈ news, u.oneCell' = true)
    (h63 : n + m ≤ maxLen) (hbytes : (n + m) * bytes ≤ 140737488355328) (hbase : base ≤ w.heap.size)
    (h : ∀ v' w', w'.ownsRow base e 1 v' (n + m) (xs ++ news) → w.grownBy w' v.ownBlock → (v'.ownBlock = v.ownBlock ∨ v'.ownBlock = some w.heap.size) → w'.ownsRow base e 1 v n xs →
      (∀ p u, w.cell? p = some u → w'.cell? p = some u ∨ (some p.block = v.ownBlock ∧ p.spot = none ∧ n ≤ p.off ∧ p.off < n + m ∧ w'.cell? p = news[p.off - n]?)) → K (a.put o.dst v') w') :
    if Region.wanted o (yielded ops a.tmps) = true then Oper.wp P o a w K Q else E := by
  have hw : Region.wanted o (yielded ops a.tmps) = true := by simp [Region.wanted, hgd]
  rw [if_pos hw]
  exact wp_append_cells w s x ho hS base v n xs hs hown B A m c news hx hr h1 h63 hbytes hbase h
end
/-- Held while a row is lengthened: a cell elsewhere, the row itself, what was there. -/
structure GC (T : TypeId) (base : Nat) (w : World) (p : Addr) (u : Value) (A : Option Addr) (c : Nat) (l : List UInt8) (x : World) : Prop where
  cell : x.cell? p = some u
  own : OwnB T base x A c l
  grown : w.grownBy x (A.map (·.block))
section
variable {T : TypeId} {base c n : Nat} {w x y : World} {p : Addr} {u : Value} {A : Option Addr} {l : List UInt8}
theorem GC.call (h : GC T base w p u A c l x) (hb : Below x.heap.size x y) : GC T base w p u A c l y := ⟨cell_below hb h.cell, h.own.later hb, grown_trans h.grown (below_grown hb _)⟩
theorem own_block (A : Option Addr) (n c : Nat) : (Value.slice A n c).ownBlock = A.map (·.block) := by cases A <;> rfl
theorem GC.app (h : GC T base w p u A c l x) (hne : A.map (·.block) ≠ some p.block) (hg : x.grownBy y (Value.slice A n c).ownBlock) (ho : OwnB T base y A c l) : GC T base w p u A c l y := by
  rw [own_block] at hg
  exact ⟨(hg.cell h.cell fun e => hne e.symm), ho, grown_trans h.grown hg⟩
theorem GC.call2 {Q : World → Prop} (hq : ∀ x y, Below x.heap.size x y → Q x → Q y) (h : x.cell? p = some u ∧ GC T base w p u A c l x ∧ Q x) (hb : Below x.heap.size x y) : y.cell? p = some u ∧ GC T base w p u A c l y ∧ Q y := ⟨cell_below hb h.1, h.2.1.call hb, hq x y hb h.2.2⟩
theorem GC.app2 {Q : World → Prop} (h : x.cell? p = some u ∧ GC T base w p u A c l x ∧ Q x) (hne : A.map (·.block) ≠ some p.block) (hg : x.grownBy y (Value.slice A n c).ownBlock) (ho : OwnB T base y A c l) (hq : Q y) : y.cell? p = some u ∧ GC T base w p u A c l y ∧ Q y := ⟨(h.2.1.app hne hg ho).cell, h.2.1.app hne hg ho, hq⟩
theorem GC.call1 (h : x.cell? p = some u ∧ GC T base w p u A c l x) (hb : Below x.heap.size x y) : y.cell? p = some u ∧ GC T base w p u A c l y := ⟨cell_below hb h.1, h.2.call hb⟩
theorem GC.app1 (h : x.cell? p = some u ∧ GC T base w p u A c l x) (hne : A.map (·.block) ≠ some p.block) (hg : x.grownBy y (Value.slice A n c).ownBlock) (ho : OwnB T base y A c l) : y.cell? p = some u ∧ GC T base w p u A c l y := ⟨(h.2.app hne hg ho).cell, h.2.app hne hg ho⟩
theorem own_len (h : OwnB T base x A c l) (hl : l.length = n) : x.ownsRow base T 1 (.slice A n c) n (u8s l) := hl ▸ h
theorem own_of_len (h : x.ownsRow base T 1 (.slice A n c) n (u8s l)) (hl : l.length = n) : OwnB T base x A c l := by subst hl; exact h
end

theorem app_marks {T : TypeId} {base L N : Nat} {w : World} {A : Option Addr} {c : Nat} {m t : UInt8} (h : w.ownsRow base T 1 (.slice A (L + N) c) (L + N) (u8s (List.replicate L m) ++ u8s (List.replicate N t))) : OwnB T base w A c (List.replicate L m ++ List.replicate N t) := by
  rw [← u8s_append] at h; exact own_of_len h (by simp)
/-- Where what was lengthened lies: in the row's block, or in one made since. -/
def Blk (w : World) (A A' : Option Addr) : Prop := ∀ x, A' = some x → A.map (·.block) = some x.block ∨ w.heap.size ≤ x.block
theorem blk_of {w : World} {A A1 : Option Addr} {n c n1 c1 H : Nat} (h : (Value.slice A1 n1 c1).ownBlock = (Value.slice A n c).ownBlock ∨ (Value.slice A1 n1 c1).ownBlock = some H) (hle : w.heap.size ≤ H) : Blk w A A1 := fun a ha => by
  subst ha
  rcases h with h | h
  · rw [own_block A] at h; exact .inl h.symm
  · injection h with h; exact .inr (by omega)
theorem blk_row {w : World} {A A' : Option Addr} (h : Blk w A A') : A'.map (·.block) = A.map (·.block) ∨ ∀ g, A'.map (·.block) = some g → w.heap.size ≤ g := by
  cases A' with
  | none => exact .inr fun g hg => by cases hg
  | some x =>
    rcases h x rfl with h | h
    · exact .inl h.symm
    · refine .inr fun g hg => ?_
      injection hg with hg
      have hg : x.block = g := hg
      omega
/-- The lengthened row takes one more; the row, and what it was lengthened to before, stand. -/
theorem grow_step {T : TypeId} {base L j ca c5 c6 N2 c2 N4 c4 : Nat} {wr x y : World} {p : Addr} {u : Value} {A A5 A6 A2 A4 : Option Addr} {m t : UInt8} (hG : GC T base wr p u A ca (List.replicate L m) x) (hO : OwnB T base x A5 c5 (List.replicate L m ++ List.replicate j t)) (hK : Blk wr A A5)
    (s2 : Sl x A2 (L + N2) c2 (List.replicate L m ++ List.replicate N2 t)) (o2 : ∀ a, A2 = some a → a.off = 0) (s4 : Sl x A4 (L + N4) c4 (List.replicate L m ++ List.replicate N4 t)) (o4 : ∀ a, A4 = some a → a.off = 0)
    (hne : A.map (·.block) ≠ some p.block) (hlt : p.block < wr.heap.size)
    (hown : y.ownsRow base T 1 (.slice A6 (L + j + 1) c6) (L + j + 1) (u8s (List.replicate L m ++ List.replicate j t) ++ u8s (List.replicate 1 t))) (hg : x.grownBy y (Value.slice A5 (L + j) c5).ownBlock)
    (hat : (Value.slice A6 (L + j + 1) c6).ownBlock = (Value.slice A5 (L + j) c5).ownBlock ∨ (Value.slice A6 (L + j + 1) c6).ownBlock = some x.heap.size) (hold : y.ownsRow base T 1 (.slice A5 (L + j) c5) (L + j) (u8s (List.replicate L m ++ List.replicate j t)))
    (hcell : ∀ p u, x.cell? p = some u → y.cell? p = some u ∨ (some p.block = (Value.slice A5 (L + j) c5).ownBlock ∧ p.spot = none ∧ L + j ≤ p.off ∧ p.off < L + j + 1 ∧ y.cell? p = (u8s (List.replicate 1 t))[p.off - (L + j)]?)) :
    OwnB T base y A6 c6 (List.replicate L m ++ List.replicate (j + 1) t) ∧ GC T base wr p u A ca (List.replicate L m) y ∧ Blk wr A A6 ∧ Sl y A2 (L + N2) c2 (List.replicate L m ++ List.replicate N2 t) ∧ Sl y A4 (L + N4) c4 (List.replicate L m ++ List.replicate N4 t) := by
  have hr := blk_row hK
  have hxs : wr.heap.size ≤ x.heap.size := hG.grown.size
  have hne' : some p.block ≠ (Value.slice A5 (L + j) c5).ownBlock := fun e => by
    rw [own_block] at e
    rcases hr with h | h
    · exact hne (h ▸ e.symm)
    · have := h _ e.symm; omega
  refine ⟨?_, ⟨hg.cell hG.cell hne', ?_, ?_⟩, fun z hz => ?_, s2.retail (by simp) o2 (by omega) hcell hg.size, s4.retail (by simp) o4 (by omega) hcell hg.size⟩
  · rw [← u8s_append, List.append_assoc, List.replicate_append_replicate] at hown
    exact own_of_len hown (by simp; omega)
  · exact own_under hG.own (own_len hO (by simp)) hg hold (by simp)
  · exact grown_keep hG.grown hg (by rw [own_block]; exact hr)
  · subst hz
    rcases hat with h | h
    · rw [own_block A5] at h
      rcases hr with h' | h'
      · exact .inl (by rw [← h', ← h]; rfl)
      · exact .inr (h' _ h.symm)
    · injection h with h; exact .inr (by omega)

end Go.Proofs.Ythjjihipodhkiaa

/-
  A book: a struct of two lists, one of rows, one of copies of them. Over any program.
-/
namespace Go.Proofs.Ythjjihipodhkiaa
open Go.RowKit

structure BkC (w : World) (g : Nat) (lv wv : Value) : Prop where
  c0 : w.cell? ⟨g, 0, none⟩ = some lv
  c1 : w.cell? ⟨g, 1, none⟩ = some wv
  f0 : w.frozen? ⟨g, 0, none⟩ = false
  f1 : w.frozen? ⟨g, 1, none⟩ = false
def pickR (zs : RowL) (is : List Nat) : RowL := is.map fun i => zs[i]?.getD (none, 0, [])
structure BkH (T e : TypeId) (B g : Nat) (w : World) (lv wv : Value) (zs : RowL) (is js : List Nat) : Prop where
  box : BkC w g lv wv
  gB : g < B
  le : B ≤ w.heap.size
  rows : RowsB T B w zs
  ol : w.ownsRow B e 1 lv is.length ((pickR zs is).map valR)
  ow : w.ownsRow B e 1 wv js.length ((pickR zs js).map valR)
  al : Off lv zs
  aw : Off wv zs
  ne : ∀ g, lv.ownBlock = some g → wv.ownBlock ≠ some g
  nd : (is ++ js).Nodup
  lt : ∀ i, i ∈ is ++ js → i < zs.length
/-- Each copy holds what its row holds. -/
def SameC (zs : RowL) (is js : List Nat) : Prop := is.length = js.length ∧ ∀ (k i j : Nat), is[k]? = some i → js[k]? = some j → ∀ a c l, zs[i]? = some (a, c, l) → ∃ a' c', zs[j]? = some (a', c', l)
def Far (g : Nat) (lv wv : Value) (b : Nat) : Prop := b ≠ g ∧ lv.ownBlock ≠ some b ∧ wv.ownBlock ≠ some b
section
variable {T e : TypeId} {B g : Nat} {w x : World} {lv wv v' : Value} {zs rs : RowL} {is js : List Nat} {S : Nat → Prop}
theorem BkC.chg (h : BkC w g lv wv) (hc : Chg S w x) (hn : ¬ S g) : BkC x g lv wv := by
  have hlt : g < w.heap.size := World.block_lt_of_cell? w ⟨g, 0, none⟩ h.c0
  have hb := hc.block g hlt hn
  exact ⟨hc.cell h.c0 hn, hc.cell h.c1 hn, (World.frozen?_of_block (w := w) hb).trans h.f0, (World.frozen?_of_block (w := w) hb).trans h.f1⟩
theorem BkC.set0 (h : BkC w g lv wv) (v : Value) : BkC (w.setCell ⟨g, 0, none⟩ v) g v wv :=
  ⟨World.cell?_setCell_same _ _ _ h.c0, (World.cell?_setCell_other _ _ _ _ (by simp)).trans h.c1, by rw [World.frozen?_setCell]; exact h.f0, by rw [World.frozen?_setCell]; exact h.f1⟩
theorem BkC.set1 (h : BkC w g lv wv) (v : Value) : BkC (w.setCell ⟨g, 1, none⟩ v) g lv v :=
  ⟨(World.cell?_setCell_other _ _ _ _ (by simp)).trans h.c0, World.cell?_setCell_same _ _ _ h.c1, by rw [World.frozen?_setCell]; exact h.f0, by rw [World.frozen?_setCell]; exact h.f1⟩
theorem pickR_app {zs rs : RowL} {is : List Nat} (h : ∀ i, i ∈ is → i < zs.length) : pickR (zs ++ rs) is = pickR zs is := by
  unfold pickR
  apply List.map_congr_left
  intro i hi
  rw [List.getElem?_append_left (h i hi)]
theorem pickR_snoc (zs : RowL) (is : List Nat) {i : Nat} {r : Option Addr × Nat × List UInt8} (h : zs[i]? = some r) : pickR zs (is ++ [i]) = pickR zs is ++ [r] := by
  unfold pickR
  rw [List.map_append, List.map_cons, List.map_nil, h]; rfl
theorem pickR_at {zs : RowL} {is : List Nat} {k i : Nat} {r : Option Addr × Nat × List UInt8} (hk : is[k]? = some i) (h : zs[i]? = some r) : (pickR zs is)[k]? = some r := by
  unfold pickR
  rw [List.getElem?_map, hk, Option.map_some, h]; rfl
theorem pickR_get {zs : RowL} {is : List Nat} (hl : ∀ i, i ∈ is → i < zs.length) {k : Nat} {r : Option Addr × Nat × List UInt8} (h : (pickR zs is)[k]? = some r) : ∃ i, is[k]? = some i ∧ zs[i]? = some r := by
  unfold pickR at h
  rw [List.getElem?_map] at h
  cases hk : is[k]? with
  | none => rw [hk] at h; cases h
  | some i =>
    rw [hk] at h
    injection h with h
    have h : zs[i]?.getD (none, 0, []) = r := h
    refine ⟨i, rfl, ?_⟩
    have hi := hl i (List.mem_of_getElem? hk)
    rw [List.getElem?_eq_getElem hi] at h ⊢
    rw [← h]; rfl
theorem RowsB.pickL (h : RowsB T B w zs) (hn : is.Nodup) (hl : ∀ i, i ∈ is → i < zs.length) : RowsB T B w (pickR zs is) := by
  refine ⟨fun k r hr => ?_, fun k q r s hr hs hkq a b ha hb => ?_⟩
  · obtain ⟨i, _, h2⟩ := pickR_get hl hr
    exact h.1 i r h2
  · obtain ⟨i, h1, h2⟩ := pickR_get hl hr
    obtain ⟨j, h3, h4⟩ := pickR_get hl hs
    refine h.2 i j r s h2 h4 (fun e => hkq ?_) a b ha hb
    subst e
    obtain ⟨p1, p2⟩ := List.getElem?_eq_some_iff.1 h1
    obtain ⟨p3, p4⟩ := List.getElem?_eq_some_iff.1 h3
    have hpw := List.pairwise_iff_getElem.1 hn
    rcases Nat.lt_trichotomy k q with h5 | h5 | h5
    · exact absurd (p2.trans p4.symm) (hpw k q p1 p3 h5)
    · exact h5
    · exact absurd (p4.trans p2.symm) (hpw q k p3 p1 h5)
theorem RowsB.app (h : RowsB T B w zs) (hb : Below w.heap.size w x) (hr : RowsB T w.heap.size x rs) (hle : B ≤ w.heap.size) : RowsB T B x (zs ++ rs) := by
  have hz := h.later hb
  refine ⟨fun i r hi => ?_, fun i j r s hi hj hij a b ha hb' => ?_⟩
  · rw [List.getElem?_append] at hi
    split at hi
    · exact hz.1 i r hi
    · exact (hr.1 _ r hi).rebase hle
  · rw [List.getElem?_append] at hi hj
    split at hi <;> split at hj
    · exact hz.2 i j r s hi hj hij a b ha hb'
    · have h1 := ((h.1 i r hi).lt ha).2
      have h2 := ((hr.1 _ s hj).lt hb').1
      omega
    · have h1 := ((hr.1 _ r hi).lt ha).1
      have h2 := ((h.1 j s hj).lt hb').2
      omega
    · exact hr.2 _ _ r s hi hj (by omega) a b ha hb'
theorem off_app {v : Value} (h : Off v zs) (hv : ∀ g, v.ownBlock = some g → g < w.heap.size) (hr : RowsB T w.heap.size x rs) : Off v (zs ++ rs) := fun g hg i r a hi ha => by
  rw [List.getElem?_append] at hi
  split at hi
  · exact h g hg i r a hi ha
  · have h1 := ((hr.1 _ r hi).lt ha).1
    have h2 := hv g hg
    omega
theorem BkH.add (h : BkH T e B g w lv wv zs is js) (hb : Below w.heap.size w x) (hr : RowsB T w.heap.size x rs) : BkH T e B g x lv wv (zs ++ rs) is js := by
  have hlt : g < w.heap.size := Nat.lt_of_lt_of_le h.gB h.le
  refine ⟨h.box.chg (S := fun _ => False) (Below.chg0 hb) (fun e => e), h.gB, Nat.le_trans h.le hb.size, h.rows.app hb hr h.le, ?_, ?_, off_app h.al (own_row_lt h.ol) hr, off_app h.aw (own_row_lt h.ow) hr, h.ne, h.nd, fun i hi => ?_⟩
  · rw [pickR_app fun i hi => h.lt i (List.mem_append_left _ hi)]; exact own_below h.ol hb
  · rw [pickR_app fun i hi => h.lt i (List.mem_append_right _ hi)]; exact own_below h.ow hb
  · have := h.lt i hi
    rw [List.length_append]; omega
theorem BkH.later (h : BkH T e B g w lv wv zs is js) (hb : Below w.heap.size w x) : BkH T e B g x lv wv zs is js := by
  have h1 := h.add hb (rs := []) RowsB.nil
  rw [List.append_nil] at h1
  exact h1
theorem own_ge {w : World} {base e size n : Nat} {v : Value} {xs : List Value} (h : w.ownsRow base e size v n xs) : ∀ g, v.ownBlock = some g → base ≤ g := fun g hg => (World.ownsRow.lt h g hg).1
theorem own_set {n : Nat} {v : Value} {xs : List Value} (h : w.ownsRow B e 1 v n xs) (hg : g < B) (k : Nat) (u : Value) : (w.setCell ⟨g, k, none⟩ u).ownsRow B e 1 v n xs :=
  own_chg h (Chg.setCell w ⟨g, k, none⟩ u) fun b hb e' => by have := own_ge h b hb; simp only at e'; omega
theorem rows_set (h : RowsB T B w zs) (hg : g < B) (k : Nat) (u : Value) : RowsB T B (w.setCell ⟨g, k, none⟩ u) zs :=
  h.chg (Chg.setCell w ⟨g, k, none⟩ u) fun i r hr a ha e' => by have := ((h.1 i r hr).lt ha).1; simp only at e'; omega
theorem BkH.appL (h : BkH T e B g w lv wv zs is js) {i : Nat} {r : Option Addr × Nat × List UInt8} (hi : zs[i]? = some r) (hni : i ∉ is ++ js) {o : Obj} {us : List Value} (hu : us = [valR r])
    (ho : x.ownsRow B e 1 v' (is.length + 1) ((pickR zs is).map valR ++ us)) (hg : (w.alloc o).grownBy x lv.ownBlock) (hat : v'.ownBlock = lv.ownBlock ∨ v'.ownBlock = some (w.alloc o).heap.size) :
    BkH T e B g (x.setCell ⟨g, 0, none⟩ v') v' wv zs (is ++ [i]) js ∧ Chg (fun b => b = g ∨ lv.ownBlock = some b) w (x.setCell ⟨g, 0, none⟩ v') ∧ (∀ b, b < w.heap.size → lv.ownBlock ≠ some b → v'.ownBlock ≠ some b) := by
  subst hu
  have ha := h.later ((Below.refl _ _).alloc (Nat.le_refl _) o)
  have hgl : lv.ownBlock ≠ some g := fun e' => by have := own_ge h.ol g e'; have := h.gB; omega
  have hbx := (ha.box.chg (grown_chg hg) hgl).set0 v'
  refine ⟨⟨hbx, h.gB, ?_, ?_, ?_, ?_, off_grown ha.al hat ha.rows, ha.aw, fun b hb hu => ?_, ?_, fun k hk => ?_⟩, ?_, fun b hb hne e' => ?_⟩
  · rw [World.size_setCell]; exact Nat.le_trans ha.le hg.size
  · exact rows_set (rows_grown ha.rows ha.al hg) h.gB 0 v'
  · rw [pickR_snoc zs is hi, List.length_append, List.map_append]; exact own_set ho h.gB 0 v'
  · exact own_set (own_chg ha.ow (grown_chg hg) fun b hb hu => ha.ne b hu hb) h.gB 0 v'
  · rcases hat with e' | e'
    · exact ha.ne b (e' ▸ hb) hu
    · rw [e'] at hb; injection hb with hb
      have := own_row_lt ha.ow b hu
      omega
  · have hp : (is ++ js ++ [i]).Perm (is ++ [i] ++ js) := by
      rw [List.append_assoc, List.append_assoc]
      exact List.Perm.append_left _ List.perm_append_comm
    refine hp.nodup ?_
    rw [List.nodup_append]
    refine ⟨h.nd, by simp, fun a ha b hb => ?_⟩
    simp at hb
    intro e'
    exact hni (hb ▸ e' ▸ ha)
  · rw [List.append_assoc] at hk
    rcases List.mem_append.1 hk with h1 | h1
    · exact h.lt k (List.mem_append_left _ h1)
    · rcases List.mem_append.1 h1 with h2 | h2
      · simp at h2
        subst h2
        exact (List.getElem?_eq_some_iff.1 hi).1
      · exact h.lt k (List.mem_append_right _ h2)
  · have c1 : Chg (fun b => b = g ∨ lv.ownBlock = some b) w (w.alloc o) := Below.chg0 ((Below.refl _ _).alloc (Nat.le_refl _) o)
    have c2 : Chg (fun b => b = g ∨ lv.ownBlock = some b) (w.alloc o) x := (grown_chg hg).mono fun b _ hb => .inr hb
    have c3 : Chg (fun b => b = g ∨ lv.ownBlock = some b) x (x.setCell ⟨g, 0, none⟩ v') := (Chg.setCell x ⟨g, 0, none⟩ v').mono fun b _ hb => .inl hb
    exact (c1.trans c2).trans c3
  · rcases hat with h1 | h1
    · exact hne (h1 ▸ e')
    · rw [h1] at e'; injection e' with e'
      have : (w.alloc o).heap.size = b := e'
      simp at this; omega
theorem BkH.appW (h : BkH T e B g w lv wv zs is js) {i : Nat} {r : Option Addr × Nat × List UInt8} (hi : zs[i]? = some r) (hni : i ∉ is ++ js) {o : Obj} {us : List Value} (hu : us = [valR r])
    (ho : x.ownsRow B e 1 v' (js.length + 1) ((pickR zs js).map valR ++ us)) (hg : (w.alloc o).grownBy x wv.ownBlock) (hat : v'.ownBlock = wv.ownBlock ∨ v'.ownBlock = some (w.alloc o).heap.size) :
    BkH T e B g (x.setCell ⟨g, 1, none⟩ v') lv v' zs is (js ++ [i]) ∧ Chg (fun b => b = g ∨ wv.ownBlock = some b) w (x.setCell ⟨g, 1, none⟩ v') ∧ (∀ b, b < w.heap.size → wv.ownBlock ≠ some b → v'.ownBlock ≠ some b) := by
  subst hu
  have ha := h.later ((Below.refl _ _).alloc (Nat.le_refl _) o)
  have hgl : wv.ownBlock ≠ some g := fun e' => by have := own_ge h.ow g e'; have := h.gB; omega
  have hbx := (ha.box.chg (grown_chg hg) hgl).set1 v'
  refine ⟨⟨hbx, h.gB, ?_, ?_, ?_, ?_, ha.al, off_grown ha.aw hat ha.rows, fun b hb hu => ?_, ?_, fun k hk => ?_⟩, ?_, fun b hb hne e' => ?_⟩
  · rw [World.size_setCell]; exact Nat.le_trans ha.le hg.size
  · exact rows_set (rows_grown ha.rows ha.aw hg) h.gB 1 v'
  · exact own_set (own_chg ha.ol (grown_chg hg) fun b hb hu => ha.ne b hb hu) h.gB 1 v'
  · rw [pickR_snoc zs js hi, List.length_append, List.map_append]; exact own_set ho h.gB 1 v'
  · rcases hat with e' | e'
    · exact ha.ne b hb (e' ▸ hu)
    · rw [e'] at hu; injection hu with hu
      have := own_row_lt ha.ol b hb
      omega
  · rw [← List.append_assoc, List.nodup_append]
    refine ⟨h.nd, by simp, fun a ha b hb => ?_⟩
    simp at hb
    intro e'
    exact hni (hb ▸ e' ▸ ha)
  · rw [← List.append_assoc] at hk
    rcases List.mem_append.1 hk with h1 | h1
    · exact h.lt k h1
    · simp at h1
      subst h1
      exact (List.getElem?_eq_some_iff.1 hi).1
  · have c1 : Chg (fun b => b = g ∨ wv.ownBlock = some b) w (w.alloc o) := Below.chg0 ((Below.refl _ _).alloc (Nat.le_refl _) o)
    have c2 : Chg (fun b => b = g ∨ wv.ownBlock = some b) (w.alloc o) x := (grown_chg hg).mono fun b _ hb => .inr hb
    have c3 : Chg (fun b => b = g ∨ wv.ownBlock = some b) x (x.setCell ⟨g, 1, none⟩ v') := (Chg.setCell x ⟨g, 1, none⟩ v').mono fun b _ hb => .inl hb
    exact (c1.trans c2).trans c3
  · rcases hat with h1 | h1
    · exact hne (h1 ▸ e')
    · rw [h1] at e'; injection e' with e'
      have : (w.alloc o).heap.size = b := e'
      simp at this; omega
theorem SameC.keep {i : Nat} {a a' : Option Addr} {c c' : Nat} {l : List UInt8} (h : SameC zs is js) (hl : ∀ i, i ∈ is ++ js → i < zs.length) (hi : zs[i]? = some (a, c, l)) : SameC (zs ++ [(a', c', l)]) (is ++ [i]) (js ++ [zs.length]) := by
  refine ⟨by rw [List.length_append, List.length_append, h.1]; rfl, fun k p q hp hq b d m hz => ?_⟩
  rw [List.getElem?_append] at hp hq
  split at hp
  · rename_i hk
    rw [if_pos (by rw [← h.1]; exact hk)] at hq
    have hpm := hl p (List.mem_append_left _ (List.mem_of_getElem? hp))
    have hqm := hl q (List.mem_append_right _ (List.mem_of_getElem? hq))
    rw [List.getElem?_append_left hpm] at hz
    obtain ⟨b', d', hz'⟩ := h.2 k p q hp hq b d m hz
    exact ⟨b', d', by rw [List.getElem?_append_left hqm]; exact hz'⟩
  · rename_i hk
    rw [if_neg (by rw [← h.1]; exact hk)] at hq
    have h0 : k - is.length = 0 := by
      have := (List.getElem?_eq_some_iff.1 hp).1
      simp at this; omega
    rw [h0] at hp
    rw [← h.1, h0] at hq
    injection hp with hp
    injection hq with hq
    subst hp; subst hq
    rw [List.getElem?_append_left (List.getElem?_eq_some_iff.1 hi).1, hi] at hz
    injection hz with hz
    injection hz with _ hz
    injection hz with _ hz
    subst hz
    exact ⟨a', c', by rw [List.getElem?_append_right (Nat.le_refl _), Nat.sub_self]; rfl⟩
theorem SameC.app (h : SameC zs is js) (hl : ∀ i, i ∈ is ++ js → i < zs.length) (rs : RowL) : SameC (zs ++ rs) is js :=
  ⟨h.1, fun k p q hp hq b d m hz => by
    have hpm := hl p (List.mem_append_left _ (List.mem_of_getElem? hp))
    have hqm := hl q (List.mem_append_right _ (List.mem_of_getElem? hq))
    rw [List.getElem?_append_left hpm] at hz
    obtain ⟨b', d', hz'⟩ := h.2 k p q hp hq b d m hz
    exact ⟨b', d', by rw [List.getElem?_append_left hqm]; exact hz'⟩⟩
end

end Go.Proofs.Ythjjihipodhkiaa

/-
  Bloom filters on lists: the hash, the places, the bytes. No program in sight.
-/
namespace Go.Proofs.Ythjjihipodhkiaa
open Go.RowKit

def hPrime : Nat := 1099511628211
def hBegin : Nat := 14695981039346656037
def two64 : Nat := 18446744073709551616
def hStep (h : Nat) (c : UInt8) : Nat := ((h ^^^ c.toNat) * hPrime) % two64
def hashN (l : List UInt8) : Nat := l.foldl hStep hBegin
theorem hashN_snoc (l : List UInt8) (c : UInt8) : hashN (l ++ [c]) = hStep (hashN l) c := by
  unfold hashN; rw [List.foldl_append, List.foldl_cons, List.foldl_nil]
theorem hStep_lt (h : Nat) (c : UInt8) : hStep h c < two64 := Nat.mod_lt _ (by unfold two64; omega)
theorem hashN_lt (l : List UInt8) : hashN l < two64 := by
  rcases List.eq_nil_or_concat l with rfl | ⟨a, c, rfl⟩
  · show hBegin < two64
    unfold hBegin two64; omega
  · rw [List.concat_eq_append, hashN_snoc]; exact hStep_lt _ _
def hHi (l : List UInt8) : Nat := hashN l / 4294967296
def hLo (l : List UInt8) : Nat := (hashN l % 4294967296) ||| 1
theorem hHi_lt (l : List UInt8) : hHi l < 4294967296 := by
  have := hashN_lt l; unfold two64 at this; unfold hHi; omega
theorem hLo_lt (l : List UInt8) : hLo l < 4294967296 := Nat.or_lt_two_pow (n := 32) (by omega) (by omega)
theorem hstep_walk (H : Nat) (x : UInt8) (hH : H < two64) : IntKind.u64.wrap (bits .xor .u64 (H : Int) (IntKind.u64.wrap (x.toNat : Int)) * 1099511628211) = ((hStep H x : Nat) : Int) := by
  have hx := x.toNat_lt
  have e1 : IntKind.u64.wrap (x.toNat : Int) = (x.toNat : Int) := by rw [IntKind.wrap_u64]; omega
  rw [e1, u64_xor_nat H x.toNat (by unfold two64 at hH; exact hH) (by omega), IntKind.wrap_u64]
  unfold hStep hPrime two64
  simp only [Int.natCast_emod, Int.natCast_mul]
  rfl
theorem hHi_walk (H : Nat) : (H : Int) / 4294967296 % 4294967296 = ((H / 4294967296 % 4294967296 : Nat) : Int) := by omega
theorem hLo_walk (H : Nat) : bits .or .u32 ((H : Int) % 4294967296) 1 = ((H % 4294967296 ||| 1 : Nat) : Int) := by
  have h := u32_or_nat (H % 4294967296) 1 (by omega) (by omega)
  rw [← h]; simp

/-- The k-th place of a key, among m bits. -/
def placeN (l : List UInt8) (m k : Nat) : Nat := (hHi l + k * hLo l) % 4294967296 % m
def placesN (l : List UInt8) (p m : Nat) : List Nat := (List.range p).map (placeN l m)
theorem placesN_zero (l : List UInt8) (m : Nat) : placesN l 0 m = [] := rfl
theorem placesN_succ (l : List UInt8) (p m : Nat) : placesN l (p + 1) m = placesN l p m ++ [placeN l m p] := by
  simp [placesN, List.range_succ]
theorem placeN_lt (l : List UInt8) (m k : Nat) (hm : 0 < m) : placeN l m k < m := Nat.mod_lt _ hm
/-- The bit of a byte. -/
def maskN (t : Nat) : Nat := 128 / 2 ^ t
/-- Is the bit of a filter's bytes set? -/
def bitAt (l : List UInt8) (at' : Nat) : Bool := ((l[6 + at' / 8]?.getD 0).toNat &&& maskN (at' % 8)) != 0
def orBit (x : UInt8) (t : Nat) : UInt8 := UInt8.ofNat (x.toNat ||| maskN t)
def setBit (l : List UInt8) (at' : Nat) : List UInt8 := l.set (6 + at' / 8) (orBit (l[6 + at' / 8]?.getD 0) (at' % 8))
theorem setBit_length (l : List UInt8) (a : Nat) : (setBit l a).length = l.length := by simp [setBit]
def setAll (l : List UInt8) (ps : List Nat) : List UInt8 := ps.foldl setBit l
theorem setAll_length (l : List UInt8) (ps : List Nat) : (setAll l ps).length = l.length := by
  induction ps generalizing l with
  | nil => rfl
  | cons p ps ih => show (setAll (setBit l p) ps).length = _; rw [ih, setBit_length]
theorem setAll_snoc (l : List UInt8) (ps : List Nat) (p : Nat) : setAll l (ps ++ [p]) = setBit (setAll l ps) p := by simp [setAll, List.foldl_append]
theorem maskN_lt (t : Nat) : maskN t < 256 := by
  unfold maskN
  have := Nat.div_le_self 128 (2 ^ t)
  omega
theorem maskN_walk (t : Nat) : (128 : Int) / 2 ^ t = ((maskN t : Nat) : Int) := by
  unfold maskN
  rw [Int.natCast_ediv, Int.natCast_pow]; rfl
theorem bit_walk (x : UInt8) (t : Nat) : (bits .and .u8 (x.toNat : Int) ((128 : Int) / 2 ^ t) != 0) = ((x.toNat &&& maskN t) != 0) := by
  have hx := x.toNat_lt
  rw [maskN_walk, u8_and_nat x.toNat (maskN t) (by omega) (maskN_lt t)]
  rw [Bool.eq_iff_iff, bne_iff_ne, bne_iff_ne]; omega
theorem orBit_walk (x : UInt8) (t : Nat) : bits .or .u8 (x.toNat : Int) ((128 : Int) / 2 ^ t) = (((orBit x t).toNat : Nat) : Int) := by
  have hx := x.toNat_lt
  have h := Nat.or_lt_two_pow (n := 8) (x := x.toNat) (y := maskN t) (by omega) (maskN_lt t)
  rw [maskN_walk, u8_or_nat x.toNat (maskN t) (by omega) (maskN_lt t)]
  unfold orBit
  rw [UInt8.toNat_ofNat', Nat.mod_eq_of_lt h]

/-- The number of bits that a filter's head says. -/
def headN (x2 x3 x4 x5 : UInt8) : Nat := ((x2.toNat * 256 + x3.toNat) * 256 + x4.toNat) * 256 + x5.toNat
/-- What bloom.read makes of bytes: places a key, bits. -/
def shapeP (l : List UInt8) : Nat := if l.length < 6 ∨ l[0]? ≠ some 66 then 0 else (l[1]?.getD 0).toNat
def shapeM (l : List UInt8) : Nat := if l.length < 6 ∨ l[0]? ≠ some 66 then 0 else headN (l[2]?.getD 0) (l[3]?.getD 0) (l[4]?.getD 0) (l[5]?.getD 0)
/-- Is it a filter? -/
def isF (l : List UInt8) : Bool := decide (1 ≤ shapeP l ∧ shapeP l ≤ 14 ∧ 64 ≤ shapeM l ∧ shapeM l ≤ 20971520 ∧ shapeM l % 8 = 0 ∧ l.length = 6 + shapeM l / 8)
theorem headN_lt (x2 x3 x4 x5 : UInt8) : headN x2 x3 x4 x5 < 4294967296 := by
  have := x2.toNat_lt; have := x3.toNat_lt; have := x4.toNat_lt; have := x5.toNat_lt
  unfold headN; omega
theorem shl_or (a b k : Nat) (h : b < 2 ^ k) : (a * 2 ^ k) ||| b = a * 2 ^ k + b := by
  rw [← Nat.shiftLeft_eq, Nat.shiftLeft_add_eq_or_of_lt h]
theorem head_walk (x2 x3 x4 x5 : UInt8) : ((x2.toNat * 16777216 ||| x3.toNat * 65536) ||| x4.toNat * 256) ||| x5.toNat = headN x2 x3 x4 x5 := by
  have h2 := x2.toNat_lt; have h3 := x3.toNat_lt; have h4 := x4.toNat_lt; have h5 := x5.toNat_lt
  unfold headN
  have e1 : x2.toNat * 16777216 ||| x3.toNat * 65536 = (x2.toNat * 256 + x3.toNat) * 65536 := by
    have := shl_or x2.toNat (x3.toNat * 65536) 24 (by omega)
    rw [show (2 : Nat) ^ 24 = 16777216 from rfl] at this
    rw [this]; omega
  have e2 : (x2.toNat * 256 + x3.toNat) * 65536 ||| x4.toNat * 256 = ((x2.toNat * 256 + x3.toNat) * 256 + x4.toNat) * 256 := by
    have := shl_or (x2.toNat * 256 + x3.toNat) (x4.toNat * 256) 16 (by omega)
    rw [show (2 : Nat) ^ 16 = 65536 from rfl] at this
    rw [this]; omega
  have e3 := shl_or ((x2.toNat * 256 + x3.toNat) * 256 + x4.toNat) x5.toNat 8 (by omega)
  rw [show (2 : Nat) ^ 8 = 256 from rfl] at e3
  rw [e1, e2, e3]

theorem head_bits (x2 x3 x4 x5 : UInt8) : bits .or .u32 (bits .or .u32 (bits .or .u32 ((x2.toNat : Int) * 16777216) ((x3.toNat : Int) * 65536)) ((x4.toNat : Int) * 256)) (x5.toNat : Int) = ((headN x2 x3 x4 x5 : Nat) : Int) := by
  have h2 := x2.toNat_lt; have h3 := x3.toNat_lt; have h4 := x4.toNat_lt; have h5 := x5.toNat_lt
  rw [show (x2.toNat : Int) * 16777216 = ((x2.toNat * 16777216 : Nat) : Int) from by omega, show (x3.toNat : Int) * 65536 = ((x3.toNat * 65536 : Nat) : Int) from by omega, show (x4.toNat : Int) * 256 = ((x4.toNat * 256 : Nat) : Int) from by omega]
  have l1 := Nat.or_lt_two_pow (n := 32) (x := x2.toNat * 16777216) (y := x3.toNat * 65536) (by omega) (by omega)
  have l2 := Nat.or_lt_two_pow (n := 32) (x := x2.toNat * 16777216 ||| x3.toNat * 65536) (y := x4.toNat * 256) l1 (by omega)
  rw [u32_or_nat _ _ (by omega) (by omega), u32_or_nat _ _ (by omega) (by omega), u32_or_nat _ _ (by omega) (by omega), head_walk]

end Go.Proofs.Ythjjihipodhkiaa

/-
  bloom.halves, walked.
-/
namespace Go.Proofs.Ythjjihipodhkiaa
open Go.RowKit

set_option maxRecDepth 100000 in
set_option maxHeartbeats 400000 in
theorem halves_any (l : List UInt8) (A : Option Addr) (n c : Nat) (w : World) (hm : n ≤ 9223372036854775807) (hr : RB w w.heap.size A n l) :
    Calls Try.prog 43 #[.slice A n c] w fun e w' => e = .returned (.agg #[.int .u32 (hHi l), .int .u32 (hLo l)]) ∧ Below w.heap.size w w' := by
  go_enter Try.func43, Try.ntmps43
  go_wp2
  go_loop [3, 8] (fun h i => ∃ k : Nat, k ≤ n ∧ i = .int .i64 k ∧ ∃ H : Nat, h = .int .u64 H ∧ Hid (H = hashN (l.take k))) (fun _ i => n - (intOf i).toNat)
  case atStart => exact ⟨0, Nat.zero_le _, rfl, hashN (l.take 0), rfl, Lib.hid rfl⟩
  case round =>
    obtain ⟨k, hk, rfl, H, rfl, hH⟩ := hrel
    by_cases hlt : k < n
    · obtain ⟨b, o, x, rfl, hb, hx, hc⟩ := hr.at_ hlt
      have hne : w.heap.size ≠ b := by omega
      have hs : Hid (((hStep H x : Nat) : Int) = IntKind.u64.wrap (bits .xor .u64 (H : Int) (IntKind.u64.wrap (x.toNat : Int)) * 1099511628211)) := Lib.hid (hstep_walk H x (by rw [hH.out]; exact hashN_lt _)).symm
      go_wp2
      go_round
      case rel => exact ⟨k + 1, by omega, by go_num, hStep H x, by rw [hs.out], Lib.hid (by rw [take_snoc hx, hashN_snoc, ← hH.out])⟩
      case measure => simp [intOf]; omega
    · have e : H = hashN l := by rw [hH.out, take_all (by rw [hr.len]; omega)]
      have E := Lib.hid e
      have h1 : ((hHi l : Nat) : Int) = (H : Int) / 4294967296 % 4294967296 := by
        have := hHi_lt l; rw [hHi_walk, e]; unfold hHi at this ⊢; omega
      have h2 : ((hLo l : Nat) : Int) = bits .or .u32 ((H : Int) % 4294967296) 1 := by rw [hLo_walk, e]; rfl
      have H1 := Lib.hid h1
      have H2 := Lib.hid h2
      clear e h1 h2
      go_wp2
      refine bodyPost_ret (v := .agg #[.int .u32 (hHi l), .int .u32 (hLo l)]) ?_ rfl ⟨rfl, (Below.refl _ _).alloc (Nat.le_refl _) _⟩
      rw [H1.out, H2.out]
      simp [results, Try.results43, go_sem]
end Go.Proofs.Ythjjihipodhkiaa

/-
  The closures of bloom.Build and bloom.Has, walked; (shape).each with each of them.
-/
namespace Go.Proofs.Ythjjihipodhkiaa
open Go.RowKit

set_option maxRecDepth 100000 in
set_option maxHeartbeats 400000 in
theorem bit_any (l : List UInt8) (A : Option Addr) (n c fb at' : Nat) (w : World) (hm : n ≤ 9223372036854775807) (hr : RB w w.heap.size A n l) (hf : w.cell? ⟨fb, 0, none⟩ = some (.slice A n c)) (h1 : at' < 20971520) (h2 : 6 + at' / 8 < n) :
    Calls Try.prog 37 #[.int .u32 at', .pointer (some ⟨fb, 0, none⟩)] w fun e w' => e = .returned (.bool (bitAt l at')) ∧ w = w' := by
  obtain ⟨b, o, x, rfl, hb, hx, hc⟩ := hr.at_ h2
  have H : Hid (bitAt l at' = (bits .and .u8 (x.toNat : Int) ((128 : Int) / 2 ^ (at' % 8)) != 0)) := Lib.hid (by
    rw [bit_walk]; unfold bitAt; rw [hx]; rfl)
  go_enter Try.func37, Try.ntmps37
  go_wp2
  go_ret
  exact ⟨ret_bool H.out.symm, rfl⟩

set_option maxRecDepth 100000 in
set_option maxHeartbeats 400000 in
theorem set_any (l : List UInt8) (base g n c fb at' : Nat) (w : World) (hf : w.cell? ⟨fb, 0, none⟩ = some (.slice (some ⟨g, 0, none⟩) n c)) (h1 : at' < 20971520) (h2 : 6 + at' / 8 < n)
     (hown : w.ownsRow base 5 1 (.slice (some ⟨g, 0, none⟩) n c) n (u8s l)) :
    Calls Try.prog 34 #[.int .u32 at', .pointer (some ⟨fb, 0, none⟩)] w fun e w' => e = .returned (.bool true) ∧ w'.ownsRow base 5 1 (.slice (some ⟨g, 0, none⟩) n c) n (u8s (setBit l at')) ∧ w.grownBy w' (some g) := by
  have hll : l.length = n := by have := hown.1; rw [u8s_length] at this; omega
  obtain ⟨x, hx⟩ : ∃ x, l[6 + at' / 8]? = some x := ⟨_, List.getElem?_eq_getElem (by omega)⟩
  have hc := (hown.cellAt (6 + at' / 8) (by omega)).trans (u8s_at hx)
  have hfr := hown.frozenAt (6 + at' / 8)
  have hnc : n ≤ c := by
    rcases hown.2 with ⟨h, _⟩ | ⟨_, _, _, h, _, _, h', _⟩
    · cases h
    · injection h with _ _ h; omega
  have hst := hown.stored (6 + at' / 8) (.int .u8 (bits .or .u8 (x.toNat : Int) ((128 : Int) / 2 ^ (at' % 8))))
  have e : (u8s l).set (6 + at' / 8) (.int .u8 (bits .or .u8 (x.toNat : Int) ((128 : Int) / 2 ^ (at' % 8)))) = u8s (setBit l at') := by
    rw [orBit_walk]
    unfold setBit u8s
    rw [List.map_set, hx]; rfl
  rw [e] at hst
  have H := Lib.hid hst
  clear e hst hown
  go_enter Try.func34, Try.ntmps34
  go_wp2
  go_ret
  exact ⟨rfl, H.out.1, H.out.2⟩

/-- One step on from a place of a key to the next. -/
theorem step_walk (l : List UInt8) (k : Nat) : (((hHi l + k * hLo l) % 4294967296 : Nat) : Int) + ((hLo l : Nat) : Int) = (((hHi l + k * hLo l) % 4294967296 + hLo l : Nat) : Int) := by omega
theorem step_next (l : List UInt8) (k : Nat) : ((hHi l + k * hLo l) % 4294967296 + hLo l) % 4294967296 = (hHi l + (k + 1) * hLo l) % 4294967296 := by
  rw [Nat.mod_add_mod, Nat.succ_mul, Nat.add_assoc]

set_option maxRecDepth 100000 in
set_option maxHeartbeats 1000000 in
theorem each_has (l key : List UInt8) (A Ak : Option Addr) (n c nk ck fb p m : Nat) (w : World) (hm : n ≤ 9223372036854775807) (hr : RB w w.heap.size A n l) (hf : w.cell? ⟨fb, 0, none⟩ = some (.slice A n c))
    (hmk : nk ≤ 9223372036854775807) (hk : RB w w.heap.size Ak nk key) (hp : p ≤ 14) (h0 : 0 < m) (h1 : m ≤ 20971520) (h2 : 6 + m / 8 = n) (h3 : m % 8 = 0) :
    Calls Try.prog 33 #[.agg #[.int .i64 p, .int .u32 m], .slice Ak nk ck, .func (.func 37) #[] #[.pointer (some ⟨fb, 0, none⟩)]] w fun e w' => e = .returned (.bool ((placesN key p m).all (bitAt l))) ∧ Below w.heap.size w w' := by
  have HK : Hid (∀ w', Below w.heap.size w w' → RB w' w'.heap.size Ak nk key) := Lib.hid fun w' h => hk.later h
  have HR : Hid (∀ w', Below w.heap.size w w' → RB w' w'.heap.size A n l) := Lib.hid fun w' h => hr.later h
  have hfb := World.block_lt_of_cell? _ _ hf
  dsimp only at hfb
  clear hk hr
  go_enter Try.func33, Try.ntmps33
  go_wp2_with (go_at_call 43; refine (halves_any key Ak nk ck _ hmk (HK.out _ ((Below.refl _ _).alloc (Nat.le_refl _) _))).mono ?_; rintro e w1 ⟨rfl, hb1⟩; obtain ⟨hc1, hf1, hs1⟩ := bcells hb1; simp only [World.size_alloc] at hc1 hf1 hs1)
  have HB : Hid (Below w.heap.size w (w1.alloc (.cells #[.int .u32 (hHi key), .int .u32 (hLo key)] 73))) := Lib.hid ((((Below.refl _ _).alloc (Nat.le_refl _) _).trans (hb1.mono (by simp))).alloc (by have := hb1.size; simp at this; omega) _)
  have hfb1 := hs1 fb (by omega)
  have hfc : w1.cell? ⟨fb, 0, none⟩ = some (.slice A n c) := by rw [hc1 fb 0 (by omega), World.cell?_alloc_lt _ _ _ hfb, hf]
  have hs0 := hs1 w.heap.size (by omega)
  have hm0 : w1.cell? ⟨w.heap.size, 1, none⟩ = some (.int .u32 m) := by rw [hc1 _ 1 (by omega)]; simp
  have hlo := hLo_lt key
  clear hc1 hf1 hs1 hb1
  go_loop [8, 15] (fun x i => ∃ k : Nat, k ≤ p ∧ i = .int .i64 k ∧ ∃ X : Nat, X < 4294967296 ∧ x = .int .u32 X ∧ Hid (X = (hHi key + k * hLo key) % 4294967296) ∧ Hid ((placesN key k m).all (bitAt l) = true)) (fun _ i => p - (intOf i).toNat)
  case atStart => exact ⟨0, Nat.zero_le _, rfl, hHi key, hHi_lt key, rfl, Lib.hid (by rw [Nat.zero_mul, Nat.add_zero, Nat.mod_eq_of_lt (hHi_lt key)]), Lib.hid rfl⟩
  case round =>
    obtain ⟨k, hkp, rfl, X, hX, rfl, HX, HA⟩ := hrel
    by_cases hlt : k < p
    case neg =>
      have e : k = p := by omega
      have HE : Hid ((placesN key p m).all (bitAt l) = true) := Lib.hid (e ▸ HA.out)
      go_wp2
      go_ret
      exact ⟨ret_bool HE.out.symm, HB.out⟩
    have hpl : placeN key m k = X % m := by unfold placeN; rw [← HX.out]
    have hpm : X % m < m := Nat.mod_lt _ h0
    have HN : Hid ((placesN key (k + 1) m).all (bitAt l) = ((placesN key k m).all (bitAt l) && bitAt l (X % m))) := Lib.hid (by
      rw [placesN_succ, List.all_append, hpl]; simp)
    have HF1 : Hid ((w1.alloc (.cells #[.int .u32 (hHi key), .int .u32 (hLo key)] 73)).cell? ⟨fb, 0, none⟩ = some (.slice A n c)) := Lib.hid ((World.cell?_alloc_lt _ _ _ hfb1).trans hfc)
    have HF2 : Hid (X % m < 20971520) := Lib.hid (by omega)
    have HF3 : Hid (6 + X % m / 8 < n) := Lib.hid (by omega)
    cases hbit : bitAt l (X % m)
    · have Hb := Lib.hid hbit
      have HF : Hid ((placesN key p m).all (bitAt l) = false) := Lib.hid (by
        rw [List.all_eq_false]
        refine ⟨placeN key m k, List.mem_map.2 ⟨k, List.mem_range.2 hlt, rfl⟩, by rw [hpl, hbit]; simp⟩)
      clear hbit hpl
      go_wp2_with (go_at_call 37; rw [← Int.natCast_emod]; refine (bit_any l A n c fb (X % m) _ hm (HR.out _ HB.out) HF1.out HF2.out HF3.out).mono ?_; rw [Hb.out]; rintro e w' ⟨rfl, rfl⟩)
      go_ret
      exact ⟨ret_bool HF.out.symm, HB.out⟩
    · have Hb := Lib.hid hbit
      clear hbit hpl
      go_wp2_with (go_at_call 37; rw [← Int.natCast_emod]; refine (bit_any l A n c fb (X % m) _ hm (HR.out _ HB.out) HF1.out HF2.out HF3.out).mono ?_; rw [Hb.out]; rintro e w' ⟨rfl, rfl⟩)
      go_round
      case rel => exact ⟨k + 1, by omega, by go_num, (X + hLo key) % 4294967296, Nat.mod_lt _ (by decide), congrArg (Value.int .u32) (by omega), Lib.hid (by rw [HX.out, step_next]), Lib.hid (by rw [HN.out, HA.out, Hb.out]; rfl)⟩
      case measure => simp [intOf]; omega

set_option maxRecDepth 100000 in
set_option maxHeartbeats 1000000 in
theorem each_set (l key : List UInt8) (Ak : Option Addr) (base g n c nk ck fb p m : Nat) (w : World) (hf : w.cell? ⟨fb, 0, none⟩ = some (.slice (some ⟨g, 0, none⟩) n c)) (hfg : fb ≠ g)
    (hown : w.ownsRow base 5 1 (.slice (some ⟨g, 0, none⟩) n c) n (u8s l))
    (hmk : nk ≤ 9223372036854775807) (hk : RB w w.heap.size Ak nk key) (hp : p ≤ 14) (h0 : 0 < m) (h1 : m ≤ 20971520) (h2 : 6 + m / 8 = n) (h3 : m % 8 = 0) :
    Calls Try.prog 33 #[.agg #[.int .i64 p, .int .u32 m], .slice Ak nk ck, .func (.func 34) #[] #[.pointer (some ⟨fb, 0, none⟩)]] w fun e w' => e = .returned (.bool true) ∧ w'.ownsRow base 5 1 (.slice (some ⟨g, 0, none⟩) n c) n (u8s (setAll l (placesN key p m))) ∧ w.grownBy w' (some g) := by
  have HK : Hid (∀ w', Below w.heap.size w w' → RB w' w'.heap.size Ak nk key) := Lib.hid fun w' h => hk.later h
  have hfb := World.block_lt_of_cell? _ _ hf
  dsimp only at hfb
  have hgl : g < w.heap.size := (hown.lt g rfl).2
  have HO := Lib.hid hown
  clear hk hown
  go_enter Try.func33, Try.ntmps33
  go_wp2_with (go_at_call 43; refine (halves_any key Ak nk ck _ hmk (HK.out _ ((Below.refl _ _).alloc (Nat.le_refl _) _))).mono ?_; rintro e w1 ⟨rfl, hb1⟩; obtain ⟨hc1, hf1, hs1⟩ := bcells hb1; simp only [World.size_alloc] at hc1 hf1 hs1)
  have HB : Hid (Below w.heap.size w (w1.alloc (.cells #[.int .u32 (hHi key), .int .u32 (hLo key)] 73))) := Lib.hid ((((Below.refl _ _).alloc (Nat.le_refl _) _).trans (hb1.mono (by simp))).alloc (by have := hb1.size; simp at this; omega) _)
  have hfb1 := hs1 fb (by omega)
  have hg1 := hs1 g (by omega)
  have hfc : w1.cell? ⟨fb, 0, none⟩ = some (.slice (some ⟨g, 0, none⟩) n c) := by rw [hc1 fb 0 (by omega), World.cell?_alloc_lt _ _ _ hfb, hf]
  have hs0 := hs1 w.heap.size (by omega)
  have hm0 : w1.cell? ⟨w.heap.size, 1, none⟩ = some (.int .u32 m) := by rw [hc1 _ 1 (by omega)]; simp
  have hlo := hLo_lt key
  have HO1 := Lib.hid (own_below HO.out HB.out)
  have HG := Lib.hid (below_grown HB.out (some g))
  have q1 : (w1.alloc (.cells #[.int .u32 (hHi key), .int .u32 (hLo key)] 73)).cell? ⟨fb, 0, none⟩ = some (.slice (some ⟨g, 0, none⟩) n c) := (World.cell?_alloc_lt _ _ _ hfb1).trans hfc
  have q2 : (w1.alloc (.cells #[.int .u32 (hHi key), .int .u32 (hLo key)] 73)).cell? ⟨w.heap.size, 1, none⟩ = some (.int .u32 m) := (World.cell?_alloc_lt _ _ _ hs0).trans hm0
  have q3 : (w1.alloc (.cells #[.int .u32 (hHi key), .int .u32 (hLo key)] 73)).cell? ⟨w1.heap.size, 1, none⟩ = some (.int .u32 (hLo key)) := by simp
  clear hc1 hf1 hs1 hb1 HO HK
  go_loopw [8, 15] (fun x i wr => ∃ k : Nat, k ≤ p ∧ i = .int .i64 k ∧ ∃ X : Nat, X < 4294967296 ∧ x = .int .u32 X ∧ Hid (X = (hHi key + k * hLo key) % 4294967296) ∧ wr.ownsRow base 5 1 (.slice (some ⟨g, 0, none⟩) n c) n (u8s (setAll l (placesN key k m))) ∧ w.grownBy wr (some g) ∧
      wr.cell? ⟨fb, 0, none⟩ = some (.slice (some ⟨g, 0, none⟩) n c) ∧ wr.cell? ⟨w.heap.size, 1, none⟩ = some (.int .u32 m) ∧ wr.cell? ⟨w1.heap.size, 1, none⟩ = some (.int .u32 (hLo key))) (fun _ i _ => p - (intOf i).toNat)
  case atStart => exact ⟨0, Nat.zero_le _, rfl, hHi key, hHi_lt key, rfl, Lib.hid (by rw [Nat.zero_mul, Nat.add_zero, Nat.mod_eq_of_lt (hHi_lt key)]), HO1.out, HG.out, q1, q2, q3⟩
  case round =>
    obtain ⟨k, hkp, rfl, X, hX, rfl, HX, hO, hG, c1, c2, c3⟩ := hrel
    clear q1 q2 q3
    by_cases hlt : k < p
    case neg =>
      have e : k = p := by omega
      subst e
      go_wp2
      go_ret
      exact ⟨rfl, hO, hG⟩
    have HN : Hid (setAll l (placesN key (k + 1) m) = setBit (setAll l (placesN key k m)) (X % m)) := Lib.hid (by
      rw [placesN_succ, setAll_snoc, show placeN key m k = X % m from by unfold placeN; rw [← HX.out]])
    have hpm : X % m < m := Nat.mod_lt _ h0
    have HF2 : Hid (X % m < 20971520) := Lib.hid (by omega)
    have HF3 : Hid (6 + X % m / 8 < n) := Lib.hid (by omega)
    go_wp2_with (go_at_call 34; rw [← Int.natCast_emod]; refine (set_any _ base g n c fb (X % m) _ c1 HF2.out HF3.out hO).mono ?_; rintro e w2 ⟨rfl, hO2, hG2⟩; have d1 := hG2.cell c1 (by simpa using hfg); have d2 := hG2.cell c2 (by simp; omega); have d3 := hG2.cell c3 (by simp; omega))
    have hO3 : w2.ownsRow base 5 1 (.slice (some ⟨g, 0, none⟩) n c) n (u8s (setAll l (placesN key (k + 1) m))) := by rw [HN.out]; exact hO2
    have hG3 := grown_trans hG hG2
    clear hO2 hO hG2 hG c1 c2 c3
    go_roundw
    case rel => exact ⟨k + 1, by omega, by go_num, (X + hLo key) % 4294967296, Nat.mod_lt _ (by decide), congrArg (Value.int .u32) (by omega), Lib.hid (by rw [HX.out, step_next]), hO3, hG3, d1, d2, d3⟩
    case measure => simp [intOf]; omega
end Go.Proofs.Ythjjihipodhkiaa

/-
  bloom.read, walked.
-/
namespace Go.Proofs.Ythjjihipodhkiaa
open Go.RowKit

set_option maxRecDepth 100000 in
set_option maxHeartbeats 2000000 in
theorem read_go (l : List UInt8) (A : Option Addr) (n c : Nat) (w : World) (hm : n ≤ 9223372036854775807) (hr : RB w w.heap.size A n l) (h6 : 6 ≤ n) (x1 x2 x3 x4 x5 : UInt8) (e0 : l[0]? = some 66) (e1 : l[1]? = some x1) (e2 : l[2]? = some x2) (e3 : l[3]? = some x3) (e4 : l[4]? = some x4) (e5 : l[5]? = some x5) (P M : Nat) (hP : P = x1.toNat) (hM : M = headN x2 x3 x4 x5) (ok : Bool)
    (hok : ok = decide (1 ≤ P ∧ P ≤ 14 ∧ 64 ≤ M ∧ M ≤ 20971520 ∧ M % 8 = 0 ∧ n = 6 + M / 8)) :
    Calls Try.prog 35 #[.slice A n c] w fun e w' => e = .returned (.tuple #[.agg #[.int .i64 P, .int .u32 M], .bool ok]) ∧ Below w.heap.size w w' := by
  obtain ⟨b, o, _, rfl, hb, _, _⟩ := hr.at_ (k := 0) (by omega)
  have c0 := hr.cell e0
  have c1 := hr.cell e1
  have c2 := hr.cell e2
  have c3 := hr.cell e3
  have c4 := hr.cell e4
  have c5 := hr.cell e5
  rw [Nat.add_zero] at c0
  have hne : w.heap.size ≠ b := by omega
  have b2 := x2.toNat_lt
  have b3 := x3.toNat_lt
  have b4 := x4.toNat_lt
  have b5 := x5.toNat_lt
  have HM := Lib.hid hM
  have HP := Lib.hid hP
  have HOK := Lib.hid hok
  have hMl : M < 4294967296 := by rw [hM]; exact headN_lt _ _ _ _
  have hPl : P < 256 := by rw [hP]; have := x1.toNat_lt; omega
  clear e0 e1 e2 e3 e4 e5 hr hM hP hok
  go_enter Try.func35, Try.ntmps35
  go_upto_region 3 with fail
  go_cut [4] (fun s4 wx => s4 = .pointer (some ⟨w.heap.size + 1, 0, none⟩) ∧ wx = ((w.alloc (.cells #[.int .i64 0, .int .u32 0] 58)).alloc (.cells #[.int .i64 P, .int .u32 M] 58)).drew)
  case first =>
    have b1 := x1.toNat_lt
    go_region
    go_wp2_with fail
    go_meet
    refine ⟨rfl, ?_⟩
    rw [head_bits, ← HM.out, ← HP.out]
  case rest =>
    obtain ⟨rfl, rfl⟩ := hcut
    clear c0 c1 c2 c3 c4 c5 b2 b3 b4 b5 HM HP
    have hB := ((((Below.refl w.heap.size w).alloc (Nat.le_refl _) (.cells #[.int .i64 P, .int .u32 M] 58)).alloc (by simp) (.cells #[.int .i64 P, .int .u32 M] 58)).drew)
    have HB := Lib.hid hB
    clear hB
    rcases (show P < 1 ∨ 14 < P ∨ ((1 ≤ P ∧ P ≤ 14) ∧ M < 64) ∨ ((1 ≤ P ∧ P ≤ 14) ∧ 20971520 < M) ∨ ((1 ≤ P ∧ P ≤ 14) ∧ (64 ≤ M ∧ M ≤ 20971520) ∧ M % 8 ≠ 0) ∨ ((1 ≤ P ∧ P ≤ 14) ∧ (64 ≤ M ∧ M ≤ 20971520) ∧ M % 8 = 0) from by omega) with h | h | ⟨⟨h1, h2⟩, h⟩ | ⟨⟨h1, h2⟩, h⟩ | ⟨⟨h1, h2⟩, ⟨h3, h4⟩, h⟩ | ⟨⟨h1, h2⟩, ⟨h3, h4⟩, h⟩
    · have E : Hid (ok = false) := Lib.hid (by rw [HOK.out]; simp; omega)
      go_wp2
      go_region
      go_wp2
      exact bodyPost_ret (v := .tuple #[.agg #[.int .i64 P, .int .u32 M], .bool ok]) (by rw [E.out]; simp [results, Try.results35, go_sem]) rfl ⟨rfl, HB.out.drew⟩
    · have E : Hid (ok = false) := Lib.hid (by rw [HOK.out]; simp; omega)
      go_wp2
      go_region
      go_wp2
      exact bodyPost_ret (v := .tuple #[.agg #[.int .i64 P, .int .u32 M], .bool ok]) (by rw [E.out]; simp [results, Try.results35, go_sem]) rfl ⟨rfl, HB.out.drew⟩
    · have E : Hid (ok = false) := Lib.hid (by rw [HOK.out]; simp; omega)
      go_wp2
      go_region
      go_wp2
      exact bodyPost_ret (v := .tuple #[.agg #[.int .i64 P, .int .u32 M], .bool ok]) (by rw [E.out]; simp [results, Try.results35, go_sem]) rfl ⟨rfl, HB.out.drew⟩
    · have E : Hid (ok = false) := Lib.hid (by rw [HOK.out]; simp; omega)
      go_wp2
      go_region
      go_wp2
      exact bodyPost_ret (v := .tuple #[.agg #[.int .i64 P, .int .u32 M], .bool ok]) (by rw [E.out]; simp [results, Try.results35, go_sem]) rfl ⟨rfl, HB.out.drew⟩
    · have E : Hid (ok = false) := Lib.hid (by rw [HOK.out]; simp; omega)
      have d1 : ((M : Int) % 8 == 0) = false := by rw [beq_eq_false_iff_ne]; omega
      clear h
      go_wp2
      go_region
      go_wp2
      exact bodyPost_ret (v := .tuple #[.agg #[.int .i64 P, .int .u32 M], .bool ok]) (by rw [E.out]; simp [results, Try.results35, go_sem]) rfl ⟨rfl, HB.out.drew⟩
    · have d1 : ((M : Int) % 8 == 0) = true := by rw [beq_iff_eq]; omega
      by_cases hn : n = 6 + M / 8
      · have E : Hid (ok = true) := Lib.hid (by rw [HOK.out]; simp; omega)
        have d2 : ((n : Int) == 6 + (M : Int) / 8) = true := by rw [beq_iff_eq]; omega
        clear h hn
        go_wp2
        go_region
        go_wp2
        exact bodyPost_ret (v := .tuple #[.agg #[.int .i64 P, .int .u32 M], .bool ok]) (by rw [E.out]; simp [results, Try.results35, go_sem]) rfl ⟨rfl, HB.out.drew⟩
      · have E : Hid (ok = false) := Lib.hid (by rw [HOK.out]; simp; omega)
        have d2 : ((n : Int) == 6 + (M : Int) / 8) = false := by rw [beq_eq_false_iff_ne]; omega
        clear h hn
        go_wp2
        go_region
        go_wp2
        exact bodyPost_ret (v := .tuple #[.agg #[.int .i64 P, .int .u32 M], .bool ok]) (by rw [E.out]; simp [results, Try.results35, go_sem]) rfl ⟨rfl, HB.out.drew⟩

set_option maxRecDepth 100000 in
set_option maxHeartbeats 400000 in
theorem read_no (l : List UInt8) (A : Option Addr) (n c : Nat) (w : World) (hm : n ≤ 9223372036854775807) (hr : RB w w.heap.size A n l) (h : n < 6 ∨ l[0]? ≠ some 66) :
    Calls Try.prog 35 #[.slice A n c] w fun e w' => e = .returned (.tuple #[.agg #[.int .i64 0, .int .u32 0], .bool false]) ∧ Below w.heap.size w w' := by
  by_cases h6 : n < 6
  · clear h hr
    go_enter Try.func35, Try.ntmps35
    go_wp2
    exact bodyPost_ret (v := .tuple #[.agg #[.int .i64 0, .int .u32 0], .bool false]) (by simp [results, Try.results35, go_sem]) rfl ⟨rfl, (Below.refl _ _).alloc (Nat.le_refl _) _⟩
  · obtain ⟨b, o, x, rfl, hb, hx, hc⟩ := hr.at_ (k := 0) (by omega)
    have hne : w.heap.size ≠ b := by omega
    have hx66 : x.toNat ≠ 66 := by
      intro e
      rcases h with h | h
      · omega
      · exact h (by rw [hx]; congr 1; exact UInt8.toNat_inj.1 e)
    have d1 : ((x.toNat : Int) != 66) = true := by rw [bne_iff_ne]; omega
    rw [Nat.add_zero] at hc
    have h6' : 6 ≤ n := by omega
    clear h hr hx h6 hx66
    go_enter Try.func35, Try.ntmps35
    go_wp2
    exact bodyPost_ret (v := .tuple #[.agg #[.int .i64 0, .int .u32 0], .bool false]) (by simp [results, Try.results35, go_sem]) rfl ⟨rfl, (Below.refl _ _).alloc (Nat.le_refl _) _⟩

theorem read_any (l : List UInt8) (A : Option Addr) (n c : Nat) (w : World) (hm : n ≤ 9223372036854775807) (hr : RB w w.heap.size A n l) :
    Calls Try.prog 35 #[.slice A n c] w fun e w' => e = .returned (.tuple #[.agg #[.int .i64 (shapeP l), .int .u32 (shapeM l)], .bool (isF l)]) ∧ Below w.heap.size w w' := by
  have hl := hr.len
  by_cases h : l.length < 6 ∨ l[0]? ≠ some 66
  · have e1 : shapeP l = 0 := by unfold shapeP; rw [if_pos h]
    have e2 : shapeM l = 0 := by unfold shapeM; rw [if_pos h]
    have e3 : isF l = false := by unfold isF; rw [e1]; simp
    rw [e1, e2, e3]
    exact read_no l A n c w hm hr (by rw [← hl]; exact h)
  · have h6 : 6 ≤ l.length := by omega
    have h0 : l[0]? = some 66 := by
      rcases Classical.em (l[0]? = some 66) with h' | h'
      · exact h'
      · exact absurd (Or.inr h') h
    have e : ∀ k, k < 6 → l[k]? = some (l[k]?.getD 0) := fun k hk => by rw [List.getElem?_eq_getElem (by omega)]; rfl
    exact read_go l A n c w hm hr (by omega) _ _ _ _ _ h0 (e 1 (by omega)) (e 2 (by omega)) (e 3 (by omega)) (e 4 (by omega)) (e 5 (by omega)) (shapeP l) (shapeM l) (by unfold shapeP; rw [if_neg h]) (by unfold shapeM; rw [if_neg h]) (isF l) (by unfold isF; rw [hl])
end Go.Proofs.Ythjjihipodhkiaa

/-
  bloom.Check, bloom.Has, bloom.Ones, walked.
-/
namespace Go.Proofs.Ythjjihipodhkiaa
open Go.RowKit

def checkE (l : List UInt8) : Int := if isF l then 0 else 62

set_option maxRecDepth 100000 in
set_option maxHeartbeats 400000 in
theorem check_any (l : List UInt8) (A : Option Addr) (n c : Nat) (w : World) (hm : n ≤ 9223372036854775807) (hr : RB w w.heap.size A n l) :
    Calls Try.prog 24 #[.slice A n c] w fun e w' => e = .returned (.int .i64 (checkE l)) ∧ Below w.heap.size w w' := by
  cases hf : isF l
  all_goals
    have HF := Lib.hid hf
    clear hf
    have HE : Hid (checkE l = if isF l then 0 else 62) := Lib.hid rfl
    go_enter Try.func24, Try.ntmps24
    go_wp2_with (go_at_call 35; refine (read_any l A n c _ hm hr).mono ?_; rintro e w1 ⟨rfl, hb1⟩; rw [HF.out])
    go_ret
    exact ⟨ret_int (by rw [HE.out, HF.out]; rfl), hb1.alloc hb1.size _⟩

def hasB (l key : List UInt8) : Bool := isF l && (placesN key (shapeP l) (shapeM l)).all (bitAt l)

set_option maxRecDepth 100000 in
set_option maxHeartbeats 400000 in
theorem has_any (l key : List UInt8) (A Ak : Option Addr) (n c nk ck : Nat) (w : World) (hm : n ≤ 9223372036854775807) (hr : RB w w.heap.size A n l) (hmk : nk ≤ 9223372036854775807) (hk : RB w w.heap.size Ak nk key) :
    Calls Try.prog 23 #[.slice A n c, .slice Ak nk ck] w fun e w' => e = .returned (.tuple #[.bool (hasB l key), .int .i64 (checkE l)]) ∧ Below w.heap.size w w' := by
  have HR : Hid (∀ w', Below w.heap.size w w' → RB w' w'.heap.size A n l) := Lib.hid fun w' h => hr.later h
  have HK : Hid (∀ w', Below w.heap.size w w' → RB w' w'.heap.size Ak nk key) := Lib.hid fun w' h => hk.later h
  have hl := hr.len
  cases hf : isF l
  · have HF := Lib.hid hf
    have HE : Hid (checkE l = 62) := Lib.hid (by unfold checkE; rw [hf]; rfl)
    have HB : Hid (hasB l key = false) := Lib.hid (by unfold hasB; rw [hf]; rfl)
    clear hf hr hk hl
    go_enter Try.func23, Try.ntmps23
    go_wp2_with (go_at_call 35; refine (read_any l A n c _ hm (HR.out _ ((Below.refl _ _).alloc (Nat.le_refl _) _))).mono ?_; rintro e w1 ⟨rfl, hb1⟩; rw [HF.out])
    go_ret2
    exact ⟨by rw [HB.out, HE.out]; rfl, (((Below.refl _ _).alloc (Nat.le_refl _) _).trans (hb1.mono (by simp))).alloc (by have := hb1.size; simp at this; omega) _⟩
  · have HF := Lib.hid hf
    have HE : Hid (checkE l = 0) := Lib.hid (by unfold checkE; rw [hf]; rfl)
    have HB : Hid (hasB l key = (placesN key (shapeP l) (shapeM l)).all (bitAt l)) := Lib.hid (by unfold hasB; rw [hf]; rfl)
    have hq := of_decide_eq_true hf
    rw [hl] at hq
    obtain ⟨q1, q2, q3, q4, q5, q6⟩ := hq
    have Q5 := Lib.hid q5
    have Q6 := Lib.hid q6
    clear hf hr hk hl q5 q6
    go_enter Try.func23, Try.ntmps23
    go_wp2_with (first
      | (go_at_call 35; refine (read_any l A n c _ hm (HR.out _ ((Below.refl _ _).alloc (Nat.le_refl _) _))).mono ?_; rintro e w1 ⟨rfl, hb1⟩; rw [HF.out]; have HB1 := Lib.hid ((((Below.refl _ _).alloc (Nat.le_refl _) _).trans (hb1.mono (by simp))).alloc (by have := hb1.size; simp at this; omega) (.cells #[.int .i64 (shapeP l), .int .u32 (shapeM l)] 58)); have HC1 := Lib.hid (cell_alloc_old (o := .cells #[.int .i64 (shapeP l), .int .u32 (shapeM l)] 58) (cell_below hb1 (p := ⟨w.heap.size, 0, none⟩) (v := .slice A n c) (by simp))))
      | (go_at_call 33; refine (each_has l key A Ak n c nk ck w.heap.size (shapeP l) (shapeM l) _ hm (HR.out _ HB1.out) HC1.out hmk (HK.out _ HB1.out) q2 (by omega) q4 Q6.out.symm Q5.out).mono ?_; rintro e w2 ⟨rfl, hb2⟩))
    go_ret2
    exact ⟨by rw [HB.out, HE.out]; rfl, HB1.out.trans (hb2.mono HB1.out.size)⟩
end Go.Proofs.Ythjjihipodhkiaa

/-
  Counting the bits of bytes; unions of bytes. No program in sight.
-/
namespace Go.Proofs.Ythjjihipodhkiaa
open Go.RowKit

/-- How many bits of a byte are set. -/
def popN (c : Nat) : Nat := c % 2 + c / 2 % 2 + c / 4 % 2 + c / 8 % 2 + c / 16 % 2 + c / 32 % 2 + c / 64 % 2 + c / 128 % 2
theorem popN_fin : ∀ c : Fin 256, 0 < c.val → popN (c.val &&& (c.val - 1)) + 1 = popN c.val ∧ c.val &&& (c.val - 1) < c.val := by decide +kernel
theorem popN_step (c : Nat) (h : c < 256) (h0 : 0 < c) : popN (c &&& (c - 1)) + 1 = popN c := (popN_fin ⟨c, h⟩ h0).1
theorem popN_less (c : Nat) (h : c < 256) (h0 : 0 < c) : c &&& (c - 1) < c := (popN_fin ⟨c, h⟩ h0).2
theorem popN_zero : popN 0 = 0 := rfl
theorem popN_le (c : Nat) : popN c ≤ 8 := by unfold popN; omega
def popsN (l : List UInt8) : Nat := (l.map fun c => popN c.toNat).sum
theorem popsN_snoc (l : List UInt8) (c : UInt8) : popsN (l ++ [c]) = popsN l + popN c.toNat := by simp [popsN]
theorem popsN_le (l : List UInt8) : popsN l ≤ 8 * l.length := by
  induction l with
  | nil => simp [popsN]
  | cons c l ih =>
    have e : popsN (c :: l) = popN c.toNat + popsN l := by simp [popsN]
    rw [e, List.length_cons]
    have := popN_le c.toNat
    omega
def onesN (l : List UInt8) : Nat := if isF l then popsN (l.drop 6) else 0

/-- Byte by byte or'd from place 6 on, up to place k. -/
def orTo (a b : List UInt8) (k : Nat) : List UInt8 := (List.range a.length).map fun j => if 6 ≤ j ∧ j < k then UInt8.ofNat ((a[j]?.getD 0).toNat ||| (b[j]?.getD 0).toNat) else a[j]?.getD 0
def orB (a b : List UInt8) : List UInt8 := orTo a b b.length
theorem orTo_length (a b : List UInt8) (k : Nat) : (orTo a b k).length = a.length := by simp [orTo]
theorem orTo_six (a b : List UInt8) : orTo a b 6 = a := by
  apply List.ext_getElem?
  intro j
  unfold orTo
  by_cases hj : j < a.length
  · rw [List.getElem?_map, List.getElem?_range hj, Option.map_some, if_neg (by omega), List.getElem?_eq_getElem hj]; rfl
  · rw [List.getElem?_eq_none (by simp; omega), List.getElem?_eq_none (by omega)]
theorem orTo_at (a b : List UInt8) (k j : Nat) (hj : j < a.length) : (orTo a b k)[j]? = some (if 6 ≤ j ∧ j < k then UInt8.ofNat ((a[j]?.getD 0).toNat ||| (b[j]?.getD 0).toNat) else a[j]?.getD 0) := by
  unfold orTo
  rw [List.getElem?_map, List.getElem?_range hj, Option.map_some]
theorem orTo_here (a b : List UInt8) (k : Nat) (x : UInt8) (hx : a[k]? = some x) : (orTo a b k)[k]? = some x := by
  have hk : k < a.length := (List.getElem?_eq_some_iff.1 hx).1
  rw [orTo_at a b k k hk, if_neg (by omega), hx]; rfl
theorem orTo_succ (a b : List UInt8) (k : Nat) (x y : UInt8) (hk6 : 6 ≤ k) (hx : a[k]? = some x) (hy : b[k]? = some y) : orTo a b (k + 1) = (orTo a b k).set k (UInt8.ofNat (x.toNat ||| y.toNat)) := by
  have hk : k < a.length := (List.getElem?_eq_some_iff.1 hx).1
  apply List.ext_getElem?
  intro j
  by_cases hj : j < a.length
  · rw [orTo_at a b (k + 1) j hj, List.getElem?_set]
    by_cases e : k = j
    · subst e
      rw [if_pos (by omega), if_pos rfl, if_pos (by rw [orTo_length]; exact hk), hx, hy]; rfl
    · rw [if_neg e, orTo_at a b k j hj]
      by_cases h6 : 6 ≤ j ∧ j < k
      · rw [if_pos (by omega), if_pos h6]
      · rw [if_neg (by omega), if_neg h6]
  · rw [List.getElem?_eq_none (by rw [orTo_length]; omega), List.getElem?_eq_none (by rw [List.length_set, orTo_length]; omega)]
theorem or_walk (x y : UInt8) : bits .or .u8 (x.toNat : Int) (y.toNat : Int) = (((UInt8.ofNat (x.toNat ||| y.toNat)).toNat : Nat) : Int) := by
  have hx := x.toNat_lt
  have hy := y.toNat_lt
  have h := Nat.or_lt_two_pow (n := 8) (x := x.toNat) (y := y.toNat) hx hy
  rw [u8_or_nat x.toNat y.toNat (by omega) (by omega), UInt8.toNat_ofNat', Nat.mod_eq_of_lt h]
theorem and_walk (c : Nat) (h : c < 256) (h0 : 0 < c) : bits .and .u8 (c : Int) ((c : Int) - 1) = ((c &&& (c - 1) : Nat) : Int) := by
  rw [show (c : Int) - 1 = ((c - 1 : Nat) : Int) from by omega, u8_and_nat c (c - 1) h (by omega)]
/-- The error of a union. -/
def unionE (a b : List UInt8) : Int := if isF a && isF b then (if shapeP a = shapeP b ∧ shapeM a = shapeM b then 0 else 63) else 62
end Go.Proofs.Ythjjihipodhkiaa

/-
  bloom.Ones, bloom.Union, walked.
-/
namespace Go.Proofs.Ythjjihipodhkiaa
open Go.RowKit

set_option maxRecDepth 100000 in
set_option maxHeartbeats 1000000 in
theorem ones_any (l : List UInt8) (A : Option Addr) (n c : Nat) (w : World) (hm : n ≤ 9223372036854775807) (hnc : n ≤ c) (hr : RB w w.heap.size A n l) :
    Calls Try.prog 17 #[.slice A n c] w fun e w' => e = .returned (.int .i64 (onesN l)) ∧ Below w.heap.size w w' := by
  have HR : Hid (∀ w', Below w.heap.size w w' → RB w' w'.heap.size A n l) := Lib.hid fun w' h => hr.later h
  have hl := hr.len
  cases hf : isF l
  · have HF := Lib.hid hf
    have HE : Hid (onesN l = 0) := Lib.hid (by unfold onesN; rw [hf]; rfl)
    clear hf hl
    go_enter Try.func17, Try.ntmps17
    go_wp2_with (go_at_call 35; refine (read_any l A n c _ hm hr).mono ?_; rintro e w1 ⟨rfl, hb1⟩; rw [HF.out])
    go_ret
    exact ⟨ret_int (by rw [HE.out]; rfl), hb1.alloc hb1.size _⟩
  · have HF := Lib.hid hf
    have HE : Hid (onesN l = popsN (l.drop 6)) := Lib.hid (by unfold onesN; rw [hf]; rfl)
    have hq := of_decide_eq_true hf
    rw [hl] at hq
    obtain ⟨q1, q2, q3, q4, q5, q6⟩ := hq
    have hn6 : 6 < n := by omega
    have hn7 : n ≤ 2621446 := by omega
    obtain ⟨b, o, _, rfl, hb, _, _⟩ := hr.at_ (k := 0) (by omega)
    have HL := Lib.hid hl
    clear hf hl q1 q2 q3 q4 q5 q6
    go_enter Try.func17, Try.ntmps17
    go_wp2_with (go_at_call 35; refine (read_any l _ n c _ hm hr).mono ?_; rintro e w1 ⟨rfl, hb1⟩; rw [HF.out]; have HB1 := Lib.hid (hb1.alloc hb1.size (.cells #[.int .i64 (shapeP l), .int .u32 (shapeM l)] 58)))
    have HC : Hid (∀ (k : Nat) (x : UInt8), (l.drop 6)[k]? = some x → (w1.alloc (.cells #[.int .i64 (shapeP l), .int .u32 (shapeM l)] 58)).cell? ⟨b, o + 6 + k, none⟩ = some (.int .u8 (x.toNat : Int))) := Lib.hid fun k x hx => by
      rw [List.getElem?_drop] at hx
      rw [Nat.add_assoc]
      exact (HR.out _ HB1.out).cell hx
    have HD : Hid ((l.drop 6).length = n - 6) := Lib.hid (by rw [List.length_drop, HL.out])
    go_loop [5, 18] (fun s i => ∃ k : Nat, k ≤ n - 6 ∧ i = .int .i64 k ∧ ∃ t : Nat, t ≤ 8 * k ∧ s = .int .i64 t ∧ Hid (t = popsN ((l.drop 6).take k))) (fun _ i => (n - 6) - (intOf i).toNat)
    case atStart => exact ⟨0, Nat.zero_le _, rfl, 0, Nat.zero_le _, rfl, Lib.hid rfl⟩
    case round =>
      obtain ⟨k, hk, rfl, t, ht, rfl, HT⟩ := hrel
      by_cases hlt : k < n - 6
      case neg =>
        have e : Hid (t = onesN l) := Lib.hid (by rw [HT.out, HE.out, take_all (by rw [HD.out]; omega)])
        go_wp2
        go_ret
        exact ⟨ret_int (by rw [e.out]), HB1.out⟩
      obtain ⟨x, hx⟩ : ∃ x, (l.drop 6)[k]? = some x := ⟨_, List.getElem?_eq_getElem (by rw [HD.out]; exact hlt)⟩
      have hcx := HC.out k x hx
      have HN : Hid (popsN ((l.drop 6).take (k + 1)) = popsN ((l.drop 6).take k) + popN x.toNat) := Lib.hid (by rw [take_snoc hx, popsN_snoc])
      have hp8 := popN_le x.toNat
      have hx8 := x.toNat_lt
      clear hx
      go_wp2
      go_loop [5, 7] (fun s c => ∃ y : Nat, y < 256 ∧ c = .int .u8 y ∧ ∃ u : Nat, u ≤ t + 8 ∧ s = .int .i64 u ∧ Hid (u + popN y = t + popN x.toNat)) (fun _ c => (intOf c).toNat)
      case atStart => exact ⟨x.toNat, by omega, rfl, t, by omega, rfl, Lib.hid rfl⟩
      case round =>
        obtain ⟨y, hy, rfl, u, hu, rfl, HU⟩ := hrel
        by_cases h0 : 0 < y
        · have HS := Lib.hid (popN_step y hy h0)
          have HL2 := popN_less y hy h0
          have HA : Hid (bits .and .u8 (y : Int) ((y : Int) - 1) = ((y &&& (y - 1) : Nat) : Int)) := Lib.hid (and_walk y hy h0)
          have hu7 : u + popN y = t + popN x.toNat := HU.out
          have hp1 : popN (y &&& (y - 1)) + 1 = popN y := HS.out
          have hu8 : u + 1 ≤ t + 8 := by omega
          clear hu7 hp1
          go_wp2
          go_round
          case rel => exact ⟨y &&& (y - 1), by omega, by rw [HA.out], u + 1, hu8, by go_num, Lib.hid (by have := HU.out; have := HS.out; omega)⟩
          case measure => rw [HA.out]; simp [intOf]; omega
        · have HY : Hid (u = popsN ((l.drop 6).take (k + 1))) := Lib.hid (by
            have := HU.out
            have hy0 : y = 0 := by omega
            rw [hy0, popN_zero] at this
            rw [HN.out, ← HT.out]; omega)
          have hu8 : u ≤ 8 * (k + 1) := by omega
          go_wp2
          go_round
          case rel => exact ⟨k + 1, by omega, by go_num, u, hu8, rfl, HY⟩
          case measure => simp [intOf]; omega
end Go.Proofs.Ythjjihipodhkiaa

/-
  bloom.Union, walked.
-/
namespace Go.Proofs.Ythjjihipodhkiaa
open Go.RowKit

theorem Try.u8s' : SliceOf Try.prog 24 5 1 1 := SliceOf.mk' (z := .int .u8 0) Try.underlying24 (by kernel_rfl) rfl (by decide)

/-- What Union leaves. -/
def UnionPost (a b : List UInt8) (w : World) (e : Ending) (w' : World) : Prop :=
  (unionE a b = 0 ∧ ∃ g, e = .returned (.tuple #[.slice (some ⟨g, 0, none⟩) a.length a.length, .int .i64 0]) ∧ w'.ownsRow w.heap.size 5 1 (.slice (some ⟨g, 0, none⟩) a.length a.length) a.length (u8s (orB a b)) ∧ Below w.heap.size w w') ∨
  (unionE a b ≠ 0 ∧ e = .returned (.tuple #[.slice none 0 0, .int .i64 (unionE a b)]) ∧ Below w.heap.size w w')

set_option maxRecDepth 100000 in
set_option maxHeartbeats 2000000 in
theorem union_any (a b : List UInt8) (A B : Option Addr) (n c m d : Nat) (w : World) (hn : n ≤ 9223372036854775807) (hr : RB w w.heap.size A n a) (hm : m ≤ 9223372036854775807) (hs : RB w w.heap.size B m b) :
    Calls Try.prog 18 #[.slice A n c, .slice B m d] w (UnionPost a b w) := by
  have HR : Hid (∀ w', Below w.heap.size w w' → RB w' w'.heap.size A n a) := Lib.hid fun w' h => hr.later h
  have HS : Hid (∀ w', Below w.heap.size w w' → RB w' w'.heap.size B m b) := Lib.hid fun w' h => hs.later h
  have hla := hr.len
  have hlb := hs.len
  by_cases hfab : isF a = true ∧ isF b = true
  case neg =>
    have HE : Hid (unionE a b = 62) := Lib.hid (by
      unfold unionE
      cases h1 : isF a <;> cases h2 : isF b <;> simp_all)
    have HP : Hid (∀ w', Below w.heap.size w w' → UnionPost a b w (.returned (.tuple #[.slice none 0 0, .int .i64 62])) w') := Lib.hid fun w' hb => .inr ⟨by rw [HE.out]; decide, by rw [HE.out], hb⟩
    cases h1 : isF a <;> cases h2 : isF b
    case true.true => exact absurd ⟨h1, h2⟩ hfab
    all_goals
      have H1 := Lib.hid h1
      have H2 := Lib.hid h2
      clear h1 h2 hfab hr hs hla hlb
      have tok1 : True := trivial
      go_enter Try.func18, Try.ntmps18
      go_wp2_with (first
        | (go_at_call 35; have _t := tok1; refine (read_any a A n c _ hn (HR.out _ (Below.refl _ _))).mono ?_; rintro e w1 ⟨rfl, hb1⟩; rw [H1.out]; clear tok1)
        | (go_at_call 35; refine (read_any b B m d _ hm (HS.out _ (hb1.alloc hb1.size _))).mono ?_; rintro e w2 ⟨rfl, hb2⟩; rw [H2.out]))
      go_ret2
      exact HP.out _ ((((hb1.alloc hb1.size _).trans (hb2.mono (by have := hb1.size; simp; omega)))).alloc (by have := hb1.size; have := hb2.size; simp at this; omega) _)
  obtain ⟨h1, h2⟩ := hfab
  have H1 := Lib.hid h1
  have H2 := Lib.hid h2
  by_cases hsh : shapeP a = shapeP b ∧ shapeM a = shapeM b
  case neg =>
    have HE : Hid (unionE a b = 63) := Lib.hid (by unfold unionE; rw [h1, h2]; simp [hsh])
    have HP : Hid (∀ w', Below w.heap.size w w' → UnionPost a b w (.returned (.tuple #[.slice none 0 0, .int .i64 63])) w') := Lib.hid fun w' hb => .inr ⟨by rw [HE.out]; decide, by rw [HE.out], hb⟩
    have tok1 : True := trivial
    by_cases hp : shapeP a = shapeP b
    · have d1 : ((shapeP a : Int) == (shapeP b : Int)) = true := by rw [beq_iff_eq]; omega
      have d2 : ((shapeM a : Int) == (shapeM b : Int)) = false := by rw [beq_eq_false_iff_ne]; omega
      clear h1 h2 hr hs hla hlb hp hsh
      go_enter Try.func18, Try.ntmps18
      go_wp2_with (first
        | (go_at_call 35; have _t := tok1; refine (read_any a A n c _ hn (HR.out _ (Below.refl _ _))).mono ?_; rintro e w1 ⟨rfl, hb1⟩; rw [H1.out]; clear tok1)
        | (go_at_call 35; refine (read_any b B m d _ hm (HS.out _ (hb1.alloc hb1.size _))).mono ?_; rintro e w2 ⟨rfl, hb2⟩; rw [H2.out]; obtain ⟨hc2, hf2, hz2⟩ := bcells hb2; simp only [World.size_alloc] at hc2 hf2 hz2; have hz3 := hz2 w1.heap.size (by omega)))
      go_ret2
      exact HP.out _ ((((hb1.alloc hb1.size _).trans (hb2.mono (by have := hb1.size; simp; omega)))).alloc (by have := hb1.size; have := hb2.size; simp at this; omega) _)
    · have d1 : ((shapeP a : Int) == (shapeP b : Int)) = false := by rw [beq_eq_false_iff_ne]; omega
      clear h1 h2 hr hs hla hlb hp hsh
      go_enter Try.func18, Try.ntmps18
      go_wp2_with (first
        | (go_at_call 35; have _t := tok1; refine (read_any a A n c _ hn (HR.out _ (Below.refl _ _))).mono ?_; rintro e w1 ⟨rfl, hb1⟩; rw [H1.out]; clear tok1)
        | (go_at_call 35; refine (read_any b B m d _ hm (HS.out _ (hb1.alloc hb1.size _))).mono ?_; rintro e w2 ⟨rfl, hb2⟩; rw [H2.out]; obtain ⟨hc2, hf2, hz2⟩ := bcells hb2; simp only [World.size_alloc] at hc2 hf2 hz2; have hz3 := hz2 w1.heap.size (by omega)))
      go_ret2
      exact HP.out _ ((((hb1.alloc hb1.size _).trans (hb2.mono (by have := hb1.size; simp; omega)))).alloc (by have := hb1.size; have := hb2.size; simp at this; omega) _)
  have HE : Hid (unionE a b = 0) := Lib.hid (by unfold unionE; rw [h1, h2]; simp [hsh])
  have hqa := of_decide_eq_true h1
  have hqb := of_decide_eq_true h2
  have hnm : n = m := by rw [hla] at hqa; rw [hlb] at hqb; omega
  have hn6 : 6 < n := by rw [hla] at hqa; omega
  have hn7 : n ≤ 2621446 := by rw [hla] at hqa; omega
  subst hnm
  have d1 : ((shapeP a : Int) == (shapeP b : Int)) = true := by rw [beq_iff_eq]; omega
  have d2 : ((shapeM a : Int) == (shapeM b : Int)) = true := by rw [beq_iff_eq]; omega
  have tok1 : True := trivial
  obtain ⟨xb, xo, _, rfl, hxb, _, _⟩ := hr.at_ (k := 0) (by omega)
  obtain ⟨yb, yo, _, rfl, hyb, _, _⟩ := hs.at_ (k := 0) (by omega)
  have HLA := Lib.hid hla
  have HLB := Lib.hid hlb
  clear h1 h2 hr hs hla hlb hsh hqa hqb
  go_enter Try.func18, Try.ntmps18
  go_wp2_with (first
    | (go_at_call 35; have _t := tok1; refine (read_any a _ n c _ hn (HR.out _ (Below.refl _ _))).mono ?_; rintro e w1 ⟨rfl, hb1⟩; rw [H1.out]; clear tok1)
    | (go_at_call 35; refine (read_any b _ n d _ hm (HS.out _ (hb1.alloc hb1.size _))).mono ?_; rintro e w2 ⟨rfl, hb2⟩; rw [H2.out]; obtain ⟨hc2, hf2, hz2⟩ := bcells hb2; simp only [World.size_alloc] at hc2 hf2 hz2; have hz3 := hz2 w1.heap.size (by omega))
    | (at_make; refine wpList_make_full _ rfl (.tmp 32) (.tmp 32) 24 rfl w.heap.size 5 Try.t5 (.int .u8 0) 1 Try.underlying24 (by kernel_rfl) rfl rfl .i64 .i64 _ _ n rfl rfl (by simp) (by simp) (by show 1 * n ≤ _; omega) (by unfold maxLen; omega) (by have := hb1.size; have := hb2.size; simp at this; simp; omega) ?_; intro w3 hown3 hg3; simp only [World.size_alloc, Nat.mul_one] at hown3; have HW3 := Lib.hid ((((hb1.alloc hb1.size _).trans (hb2.mono (by have := hb1.size; simp; omega))).alloc (by have := hb1.size; have := hb2.size; simp at this; omega) _).grown hg3 (by have := hb1.size; have := hb2.size; simp at this; simp; omega) (by simp)); have hz4 : w.heap.size ≤ w2.heap.size := by (have := hb1.size; have := hb2.size; simp at this; omega))
    | (refine wpList_copy_reads (o := ⟨some 36, _, _, _, _, _⟩) rfl (.tmp 34) (.tmp 35) rfl Try.u8s' w.heap.size (w2.heap.size + 1) n n _ rfl hown3 _ (some ⟨xb, xo, none⟩) n c (u8s a) rfl (show Reads _ _ _ _ _ _ from HR.out _ HW3.out) (Nat.le_refl _) (u8s_one _) ?_; intro w4 hown4 hg4))
  have hd : List.drop n (madeCells (Value.int IntKind.u8 0).cells n).toList = [] := List.drop_eq_nil_of_le (by simp [size_madeCells])
  rw [hd, List.append_nil] at hown4
  have HW4 := Lib.hid (HW3.out.grown hg4 HW3.out.size (by intro k hk; injection hk with hk; omega))
  have hg : ∃ g, g = w2.heap.size + 1 := ⟨_, rfl⟩
  obtain ⟨g, hg⟩ := hg
  rw [← hg] at hown4 ⊢
  have hgw : w.heap.size < g := by omega
  clear hd hg hg4 hown3 hg3 HW3 hc2 hf2 hz2 hz3 hz4 hb1 hb2 d1 d2
  go_loopw [11] (fun i wr => ∃ k : Nat, 6 ≤ k ∧ k ≤ n ∧ i = .int .i64 k ∧ wr.ownsRow w.heap.size 5 1 (.slice (some ⟨g, 0, none⟩) n n) n (u8s (orTo a b k)) ∧ Hid (Below w.heap.size w wr)) (fun i _ => n - (intOf i).toNat)
  case atStart => exact ⟨6, by omega, by omega, rfl, by rw [orTo_six]; exact hown4, HW4⟩
  case round =>
    obtain ⟨k, hk6, hk, rfl, hown, HW⟩ := hrel
    clear hown4 HW4
    by_cases hlt : k < n
    case neg =>
      have e : k = n := by omega
      have hown' : wr.ownsRow w.heap.size 5 1 (.slice (some ⟨g, 0, none⟩) n n) n (u8s (orB a b)) := by unfold orB; rw [HLB.out, ← e]; rw [← e] at hown; exact hown
      have HP : Hid (UnionPost a b w (.returned (.tuple #[.slice (some ⟨g, 0, none⟩) n n, .int .i64 0])) wr) := Lib.hid (.inl ⟨HE.out, g, by rw [HLA.out], by rw [HLA.out]; exact hown', HW.out⟩)
      clear hown hown'
      go_wp2
      go_ret2
      exact HP.out
    obtain ⟨x, hx⟩ : ∃ x, a[k]? = some x := ⟨_, List.getElem?_eq_getElem (by rw [HLA.out]; exact hlt)⟩
    obtain ⟨y, hy⟩ : ∃ y, b[k]? = some y := ⟨_, List.getElem?_eq_getElem (by rw [HLB.out]; exact hlt)⟩
    have hcx := (hown.cellAt k (by omega)).trans (u8s_at (orTo_here a b k x hx))
    have hfx := hown.frozenAt k
    have hcy := (HS.out _ HW.out).cell hy
    have hst := hown.stored k (.int .u8 (bits .or .u8 (x.toNat : Int) (y.toNat : Int)))
    have e : (u8s (orTo a b k)).set k (.int .u8 (bits .or .u8 (x.toNat : Int) (y.toNat : Int))) = u8s (orTo a b (k + 1)) := by
      rw [or_walk, orTo_succ a b k x y hk6 hx hy]
      unfold u8s
      rw [List.map_set]; rfl
    rw [e] at hst
    have HST := Lib.hid hst
    have HB2 := Lib.hid (HW.out.grown hst.2 HW.out.size (by intro j hj; injection hj with hj; omega))
    have hgy : g ≠ yb := by omega
    clear hst hown e hx hy
    go_wp2
    go_region
    go_wp2
    go_roundw
    case rel => exact ⟨k + 1, by omega, by omega, by go_num, HST.out.1, Lib.hid HB2.out.drew⟩
    case measure => simp [intOf]; omega
end Go.Proofs.Ythjjihipodhkiaa

/-
  Eight bits in a byte. No program in sight.
-/
namespace Go.Proofs.Ythjjihipodhkiaa
open Go.RowKit

def pack8 (b0 b1 b2 b3 b4 b5 b6 b7 : Bool) : Nat :=
  (if b0 then 128 else 0) + (if b1 then 64 else 0) + (if b2 then 32 else 0) + (if b3 then 16 else 0) + (if b4 then 8 else 0) + (if b5 then 4 else 0) + (if b6 then 2 else 0) + (if b7 then 1 else 0)
def packB (f : Nat → Bool) : UInt8 := UInt8.ofNat (pack8 (f 0) (f 1) (f 2) (f 3) (f 4) (f 5) (f 6) (f 7))
theorem pack_fin : ∀ (b0 b1 b2 b3 b4 b5 b6 b7 : Bool) (t : Fin 8), orBit (UInt8.ofNat (pack8 b0 b1 b2 b3 b4 b5 b6 b7)) t.val =
    UInt8.ofNat (pack8 (b0 || t.val == 0) (b1 || t.val == 1) (b2 || t.val == 2) (b3 || t.val == 3) (b4 || t.val == 4) (b5 || t.val == 5) (b6 || t.val == 6) (b7 || t.val == 7)) := by decide +kernel
theorem bit_fin : ∀ (b0 b1 b2 b3 b4 b5 b6 b7 : Bool) (t : Fin 8), (((UInt8.ofNat (pack8 b0 b1 b2 b3 b4 b5 b6 b7)).toNat &&& maskN t.val) != 0) =
    (match t.val with | 0 => b0 | 1 => b1 | 2 => b2 | 3 => b3 | 4 => b4 | 5 => b5 | 6 => b6 | _ => b7) := by decide +kernel
theorem packB_or (f : Nat → Bool) (t : Nat) (ht : t < 8) : orBit (packB f) t = packB (fun i => f i || t == i) := pack_fin _ _ _ _ _ _ _ _ ⟨t, ht⟩
theorem packB_bit (f : Nat → Bool) (t : Nat) (ht : t < 8) : (((packB f).toNat &&& maskN t) != 0) = f t := by
  have h := bit_fin (f 0) (f 1) (f 2) (f 3) (f 4) (f 5) (f 6) (f 7) ⟨t, ht⟩
  unfold packB
  rw [h]
  match t, ht with
  | 0, _ => rfl
  | 1, _ => rfl
  | 2, _ => rfl
  | 3, _ => rfl
  | 4, _ => rfl
  | 5, _ => rfl
  | 6, _ => rfl
  | 7, _ => rfl
theorem packB_ext {f g : Nat → Bool} (h : ∀ t, t < 8 → f t = g t) : packB f = packB g := by
  unfold packB
  rw [h 0 (by decide), h 1 (by decide), h 2 (by decide), h 3 (by decide), h 4 (by decide), h 5 (by decide), h 6 (by decide), h 7 (by decide)]

theorem packB_no : packB (fun _ => false) = 0 := rfl

end Go.Proofs.Ythjjihipodhkiaa

/-
  The bytes of a filter with given bits; a bit more. No program in sight.
-/
namespace Go.Proofs.Ythjjihipodhkiaa
open Go.RowKit


/-- A filter's head. -/
def headB (p m : Nat) : List UInt8 := [66, UInt8.ofNat p, UInt8.ofNat (m / 16777216), UInt8.ofNat (m / 65536), UInt8.ofNat (m / 256), UInt8.ofNat m]
/-- The filter with p places a key, m bits, those of S set. -/
def filterB (p m : Nat) (S : Nat → Bool) : List UInt8 := headB p m ++ (List.range (m / 8)).map fun j => packB fun t => S (8 * j + t)
theorem filterB_length (p m : Nat) (S : Nat → Bool) : (filterB p m S).length = 6 + m / 8 := by simp [filterB, headB]; omega
theorem filterB_at (p m : Nat) (S : Nat → Bool) (j : Nat) (hj : j < m / 8) : (filterB p m S)[6 + j]? = some (packB fun t => S (8 * j + t)) := by
  unfold filterB
  rw [List.getElem?_append_right (by simp [headB])]
  simp only [headB, List.length_cons, List.length_nil]
  rw [show 6 + j - (0 + 1 + 1 + 1 + 1 + 1 + 1) = j from by omega, List.getElem?_map, List.getElem?_range hj]; rfl
theorem filterB_head (p m : Nat) (S : Nat → Bool) (j : Nat) (hj : j < 6) : (filterB p m S)[j]? = (headB p m)[j]? := by
  unfold filterB
  rw [List.getElem?_append_left (by simp [headB]; omega)]
theorem filterB_ext (p m : Nat) {S T : Nat → Bool} (h : ∀ i, i < m → S i = T i) : filterB p m S = filterB p m T := by
  unfold filterB
  congr 1
  apply List.map_congr_left
  intro j hj
  have hj := List.mem_range.1 hj
  exact packB_ext fun t ht => h _ (by omega)
theorem filterB_set (p m : Nat) (S : Nat → Bool) (i : Nat) (hi : i < m) (h8 : m % 8 = 0) : setBit (filterB p m S) i = filterB p m (fun k => S k || i == k) := by
  have hj : i / 8 < m / 8 := by omega
  unfold setBit
  rw [filterB_at p m S (i / 8) hj]
  apply List.ext_getElem?
  intro k
  rw [List.getElem?_set]
  by_cases e : 6 + i / 8 = k
  · rw [if_pos e, if_pos (by rw [filterB_length]; omega), ← e, filterB_at _ _ _ _ hj]
    simp only [Option.getD_some]
    rw [packB_or _ _ (by omega)]
    congr 1
    apply packB_ext
    intro t ht
    have : (i % 8 == t) = (i == 8 * (i / 8) + t) := by
      rw [Bool.eq_iff_iff, beq_iff_eq, beq_iff_eq]; omega
    rw [this]
  · rw [if_neg e]
    by_cases hk : k < 6
    · rw [filterB_head _ _ _ _ hk, filterB_head _ _ _ _ hk]
    · by_cases hk2 : k < 6 + m / 8
      · obtain ⟨j, rfl⟩ : ∃ j, k = 6 + j := ⟨k - 6, by omega⟩
        rw [filterB_at _ _ _ _ (by omega), filterB_at _ _ _ _ (by omega)]
        congr 1
        apply packB_ext
        intro t ht
        have : (i == 8 * j + t) = false := by rw [beq_eq_false_iff_ne]; omega
        rw [this, Bool.or_false]
      · rw [List.getElem?_eq_none (by rw [filterB_length]; omega), List.getElem?_eq_none (by rw [filterB_length]; omega)]
theorem filterB_setAll (p m : Nat) (h8 : m % 8 = 0) : ∀ (ps : List Nat) (S : Nat → Bool), (∀ x ∈ ps, x < m) → setAll (filterB p m S) ps = filterB p m (fun k => S k || ps.contains k)
  | [], S, _ => by simp [setAll]
  | x :: ps, S, h => by
    show setAll (setBit (filterB p m S) x) ps = _
    rw [filterB_set p m S x (h x (by simp)) h8, filterB_setAll p m h8 ps _ (fun y hy => h y (by simp [hy]))]
    apply filterB_ext
    intro i _
    rw [List.contains_cons, Bool.or_assoc]
    congr 2
    rw [Bool.eq_iff_iff, beq_iff_eq, beq_iff_eq]; exact eq_comm
theorem filterB_bit (p m : Nat) (S : Nat → Bool) (i : Nat) (hi : i < m) (h8 : m % 8 = 0) : bitAt (filterB p m S) i = S i := by
  unfold bitAt
  rw [filterB_at p m S (i / 8) (by omega)]
  simp only [Option.getD_some]
  rw [packB_bit _ _ (by omega)]
  congr 1; omega
theorem placesN_lt (l : List UInt8) (p m : Nat) (hm : 0 < m) : ∀ x ∈ placesN l p m, x < m := by
  intro x hx
  obtain ⟨k, _, rfl⟩ := List.mem_map.1 hx
  exact placeN_lt l m k hm

/-- The head's bytes are written one by one. -/
def hdr0 (p m : Nat) : List UInt8 := ((List.replicate (6 + m / 8) 0).set 0 66).set 1 (UInt8.ofNat p)
def hdrTo (p m : Nat) : Nat → List UInt8
  | 0 => hdr0 p m
  | k + 1 => (hdrTo p m k).set (2 + k) (UInt8.ofNat (m / 2 ^ (24 - 8 * k)))
theorem hdrTo_length (p m k : Nat) : (hdrTo p m k).length = 6 + m / 8 := by
  induction k with
  | zero => simp [hdrTo, hdr0]
  | succ k ih => simp [hdrTo, ih]
theorem hdr_done (p m : Nat) : hdrTo p m 4 = filterB p m (fun _ => false) := by
  have e : (List.range (m / 8)).map (fun j => packB fun t => (fun _ => false) (8 * j + t)) = List.replicate (m / 8) 0 := by
    rw [List.eq_replicate_iff]
    refine ⟨by simp, fun b hb => ?_⟩
    obtain ⟨_, _, rfl⟩ := List.mem_map.1 hb
    exact packB_no
  unfold filterB
  rw [e]
  have e2 : List.replicate (6 + m / 8) (0 : UInt8) = [0, 0, 0, 0, 0, 0] ++ List.replicate (m / 8) 0 := by
    rw [← List.replicate_append_replicate]; rfl
  simp only [hdrTo, hdr0, e2, headB]
  simp

end Go.Proofs.Ythjjihipodhkiaa

/-
  The keys of a filter, each counted once; the filter of a list of keys. No program in sight.
-/
namespace Go.Proofs.Ythjjihipodhkiaa
open Go.RowKit Go.Maps

/-- One key more among the unlike ones. -/
def addK (acc : List (List UInt8)) (k : List UInt8) : List (List UInt8) := if acc.contains k then acc else acc ++ [k]
/-- The unlike keys, in order. -/
def unl (ks : List (List UInt8)) : List (List UInt8) := ks.foldl addK []
theorem unl_snoc (ks : List (List UInt8)) (k : List UInt8) : unl (ks ++ [k]) = addK (unl ks) k := by unfold unl; rw [List.foldl_append]; rfl
theorem mem_addK (acc : List (List UInt8)) (k x : List UInt8) : x ∈ addK acc k ↔ x ∈ acc ∨ x = k := by
  unfold addK
  split
  · rename_i h
    have h := List.contains_iff_mem.1 h
    constructor
    · exact .inl
    · rintro (h1 | rfl)
      · exact h1
      · exact h
  · simp
theorem mem_foldK (ks acc : List (List UInt8)) (x : List UInt8) : x ∈ ks.foldl addK acc ↔ x ∈ acc ∨ x ∈ ks := by
  induction ks generalizing acc with
  | nil => simp
  | cons k ks ih => rw [List.foldl_cons, ih, mem_addK]; simp [or_assoc]
theorem mem_unl (ks : List (List UInt8)) (x : List UInt8) : x ∈ unl ks ↔ x ∈ ks := by unfold unl; rw [mem_foldK]; simp
theorem nodup_foldK (ks acc : List (List UInt8)) (h : acc.Nodup) : (ks.foldl addK acc).Nodup := by
  induction ks generalizing acc with
  | nil => exact h
  | cons k ks ih =>
    rw [List.foldl_cons]
    refine ih _ ?_
    unfold addK
    split
    · exact h
    · rename_i hk
      have hk : k ∉ acc := fun hm => hk (List.contains_iff_mem.2 hm)
      rw [List.nodup_append]
      exact ⟨h, by simp, fun a ha b hb => by rw [List.mem_singleton.1 hb]; intro e; exact hk (e ▸ ha)⟩
theorem nodup_unl (ks : List (List UInt8)) : (unl ks).Nodup := nodup_foldK _ _ List.nodup_nil
theorem length_le_of_nodup {α : Type} [DecidableEq α] : ∀ {a b : List α}, a.Nodup → (∀ x ∈ a, x ∈ b) → a.length ≤ b.length
  | [], _, _, _ => by simp
  | x :: a, b, hn, h => by
    have hn := List.nodup_cons.1 hn
    have hb : x ∈ b := h x (by simp)
    have := length_le_of_nodup (a := a) (b := b.erase x) hn.2 (fun y hy => (List.mem_erase_of_ne (fun e : y = x => hn.1 (e ▸ hy))).2 (h y (by simp [hy])))
    rw [List.length_erase_of_mem hb] at this
    have : 0 < b.length := List.length_pos_of_mem hb
    simp only [List.length_cons]; omega
theorem unl_mono {a b : List (List UInt8)} (h : ∀ x ∈ a, x ∈ b) : (unl a).length ≤ (unl b).length :=
  length_le_of_nodup (nodup_unl a) fun x hx => (mem_unl b x).2 (h x ((mem_unl a x).1 hx))
theorem unl_same {a b : List (List UInt8)} (h : ∀ x, x ∈ a ↔ x ∈ b) : (unl a).length = (unl b).length :=
  Nat.le_antisymm (unl_mono fun x hx => (h x).1 hx) (unl_mono fun x hx => (h x).2 hx)
theorem unl_le (ks : List (List UInt8)) : (unl ks).length ≤ ks.length := length_le_of_nodup (nodup_unl ks) fun x hx => (mem_unl ks x).1 hx
theorem unl_pos {ks : List (List UInt8)} (h : ks ≠ []) : 1 ≤ (unl ks).length := by
  cases ks with
  | nil => exact absurd rfl h
  | cons k ks => exact List.length_pos_of_mem ((mem_unl (k :: ks) k).2 (by simp))

/-- The map's keys. -/
theorem str_same (a b : List UInt8) : (Lit.string a).sameKey (Lit.string b) = (a == b) := by
  rw [Bool.eq_iff_iff, WideAt.sameKey_iff (by trivial)]
  simp
theorem keys_lit (ks : List (List UInt8)) : ∀ x ∈ ks.map Lit.string, WideAt.IsKeyLit x := by
  intro x hx
  obtain ⟨k, _, rfl⟩ := List.mem_map.1 hx
  trivial
theorem size_keys (ks : List (List UInt8)) : Maps.size (setOf (H := Unit) (.lit (.bool true)) (ks.map Lit.string)) = (unl ks).length := by
  rw [size_setOf _ _ (keys_lit ks)]
  have : ∀ (ks acc : List (List UInt8)), (ks.map Lit.string).foldl addKey (acc.map Lit.string) = (ks.foldl addK acc).map Lit.string := by
    intro ks
    induction ks with
    | nil => intro acc; rfl
    | cons k ks ih =>
      intro acc
      rw [List.map_cons, List.foldl_cons, List.foldl_cons, ← ih]
      congr 1
      unfold addKey addK
      have : (acc.map Lit.string).any (fun y => y.sameKey (.string k)) = acc.contains k := by
        rw [List.any_map, Bool.eq_iff_iff, List.any_eq_true, List.contains_iff_mem]
        constructor
        · rintro ⟨x, hx, h⟩
          rw [Function.comp_apply, str_same, beq_iff_eq] at h
          exact h ▸ hx
        · intro h
          exact ⟨k, h, by rw [Function.comp_apply, str_same, beq_iff_eq]⟩
      rw [this]
      split <;> simp
  have h := this ks []
  rw [List.map_nil] at h
  rw [h]
  simp [unl]
theorem has_keys (ks : List (List UInt8)) (k : List UInt8) : Maps.has (setOf (H := Unit) (.lit (.bool true)) (ks.map Lit.string)) (.string k) = ks.contains k := by
  rw [has_setOf _ _ _ (keys_lit ks), List.any_map, Bool.eq_iff_iff, List.any_eq_true, List.contains_iff_mem]
  constructor
  · rintro ⟨x, hx, h⟩
    rw [Function.comp_apply, str_same, beq_iff_eq] at h
    exact h ▸ hx
  · intro h
    exact ⟨k, h, by rw [Function.comp_apply, str_same, beq_iff_eq]⟩

/-- What Build makes: places a key, bits, bytes; the error's number. -/
def buildP (bits : Int) : Nat := max 1 (7 * bits.toNat / 10)
def buildM (bits : Int) (ks : List (List UInt8)) : Nat := max 64 (((unl ks).length * bits.toNat + 7) / 8 * 8)
def buildS (p m : Nat) (ks : List (List UInt8)) : Nat → Bool := fun i => ks.any fun k => (placesN k p m).contains i
def buildB (bits : Int) (ks : List (List UInt8)) : List UInt8 := filterB (buildP bits) (buildM bits ks) (buildS (buildP bits) (buildM bits ks) ks)
def buildE (bits : Int) (ks : List (List UInt8)) : Nat := if bits < 1 ∨ 20 < bits then 60 else if 1048576 < ks.length then 61 else 0
theorem buildM_mod (bits : Int) (ks : List (List UInt8)) : buildM bits ks % 8 = 0 := by unfold buildM; omega
theorem buildM_ge (bits : Int) (ks : List (List UInt8)) : 64 ≤ buildM bits ks := by unfold buildM; omega
theorem buildE_zero {bits : Int} {ks : List (List UInt8)} (h : buildE bits ks = 0) : 1 ≤ bits ∧ bits ≤ 20 ∧ ks.length ≤ 1048576 := by
  unfold buildE at h
  split at h
  · cases h
  · split at h
    · cases h
    · omega
theorem buildM_raw {bits : Int} {ks : List (List UInt8)} (h1 : 1 ≤ bits) (h2 : bits ≤ 20) (h3 : ks.length ≤ 1048576) : (unl ks).length * bits.toNat ≤ 20971520 := by
  have := unl_le ks
  exact Nat.mul_le_mul (Nat.le_trans this h3) (show bits.toNat ≤ 20 by omega)
theorem buildM_le {bits : Int} {ks : List (List UInt8)} (h : buildE bits ks = 0) : buildM bits ks ≤ 20971520 := by
  obtain ⟨h1, h2, h3⟩ := buildE_zero h
  have := buildM_raw h1 h2 h3
  unfold buildM; omega
theorem buildP_le {bits : Int} {ks : List (List UInt8)} (h : buildE bits ks = 0) : 1 ≤ buildP bits ∧ buildP bits ≤ 14 := by
  obtain ⟨h1, h2, h3⟩ := buildE_zero h
  unfold buildP; omega
theorem buildB_length (bits : Int) (ks : List (List UInt8)) : (buildB bits ks).length = 6 + buildM bits ks / 8 := filterB_length _ _ _

/-- One key's places more. -/
def doneS (p m : Nat) (ks : List (List UInt8)) (left : Lit → Bool) : Nat → Bool := fun i => ks.any fun k => !left (.string k) && (placesN k p m).contains i
theorem doneS_start (p m : Nat) (ks : List (List UInt8)) (left : Lit → Bool) (h : ∀ k ∈ ks, left (.string k) = true) : doneS p m ks left = fun _ => false := by
  funext i
  unfold doneS
  rw [List.any_eq_false]
  intro k hk
  rw [h k hk]; simp
theorem doneS_end (p m : Nat) (ks : List (List UInt8)) (left : Lit → Bool) (h : ∀ k, left k = false) : doneS p m ks left = buildS p m ks := by
  funext i
  unfold doneS buildS
  simp [h]
theorem doneS_step (p m : Nat) (ks : List (List UInt8)) (left : Lit → Bool) (k : List UInt8) (hk : k ∈ ks) (i : Nat) :
    (doneS p m ks left i || (placesN k p m).contains i) = doneS p m ks (fun z => left z && !z.sameKey (.string k)) i := by
  unfold doneS
  rw [Bool.eq_iff_iff]
  simp only [Bool.or_eq_true, List.any_eq_true, Bool.and_eq_true, Bool.not_eq_true', str_same, Bool.and_eq_false_iff, Bool.not_eq_false', beq_iff_eq]
  constructor
  · rintro (⟨x, hx, h1, h2⟩ | h)
    · exact ⟨x, hx, .inl h1, h2⟩
    · exact ⟨k, hk, .inr rfl, h⟩
  · rintro ⟨x, hx, h1 | rfl, h2⟩
    · exact .inl ⟨x, hx, h1, h2⟩
    · exact .inr h2

end Go.Proofs.Ythjjihipodhkiaa

/-
  Build's numbers. No program in sight.
-/
namespace Go.Proofs.Ythjjihipodhkiaa
open Go.RowKit

theorem wrap64_self {x : Int} (h1 : -9223372036854775808 ≤ x) (h2 : x < 9223372036854775808) : wrap64 x = x := by unfold wrap64; omega
theorem build_nums (nb : Nat) (ks : List (List UInt8)) (U P Q M R p D L : Nat) (hU : U = (unl ks).length) (hU2 : U * nb ≤ 20971520) (hnb1 : 1 ≤ nb) (hnb2 : nb ≤ 20) (hP : P = U * nb) (hQ : Q = (P + 7) / 8) (hM : M = buildM nb ks) (hR : R = 7 * nb / 10) (hp : p = buildP nb) (hD : D = M / 8) (hL : L = 6 + D) :
    wrap64 ((U : Int) * (nb : Int)) = (P : Int) ∧ wrap64 ((P : Int) + 7) = (P : Int) + 7 ∧ wrap64 (((P : Int) + 7).tdiv 8) = (Q : Int) ∧ wrap64 ((Q : Int) * 8) = (Q : Int) * 8 ∧ max 64 ((Q : Int) * 8) = (M : Int) ∧ wrap64 (7 * (nb : Int)) = 7 * (nb : Int) ∧
    wrap64 ((7 * (nb : Int)).tdiv 10) = (R : Int) ∧ max 1 (R : Int) = (p : Int) ∧ (M : Int) % 4294967296 = (M : Int) ∧ wrap64 ((M : Int).tdiv 8) = (D : Int) ∧ wrap64 (6 + (D : Int)) = (L : Int) ∧ 7 * (nb : Int) / 10 = (R : Int) ∧ (M : Int) / 8 = (D : Int) ∧ 6 + (D : Int) = (L : Int) ∧ M ≤ 20971520 ∧ 64 ≤ M ∧ M % 8 = 0 ∧ 1 ≤ p ∧ p ≤ 14 ∧ 14 ≤ L ∧ L ≤ 2621446 := by
  have e1 : (U : Int) * (nb : Int) = (P : Int) := by rw [← Int.natCast_mul, ← hP]
  rw [← hP] at hU2
  have hMQ : M = max 64 (Q * 8) := by
    rw [hM, hQ, hP, hU]
    show max 64 (((unl ks).length * (nb : Int).toNat + 7) / 8 * 8) = _
    rw [Int.toNat_natCast]
  have hpR : p = max 1 R := by
    rw [hp, hR]
    show max 1 (7 * (nb : Int).toNat / 10) = _
    rw [Int.toNat_natCast]
  clear hM hp hU hP
  have hM1 : M ≤ 20971520 ∧ 64 ≤ M ∧ M % 8 = 0 := by omega
  rw [e1]
  refine ⟨wrap64_self (by omega) (by omega), wrap64_self (by omega) (by omega), ?_, wrap64_self (by omega) (by omega), by omega, wrap64_self (by omega) (by omega), ?_, by omega, by omega, ?_, ?_, by omega, by omega, by omega, hM1.1, hM1.2.1, hM1.2.2, by omega, by omega, by omega, by omega⟩
  · rw [Int.tdiv_eq_ediv_of_nonneg (by omega), wrap64_self (by omega) (by omega)]; omega
  · rw [Int.tdiv_eq_ediv_of_nonneg (by omega), wrap64_self (by omega) (by omega)]; omega
  · rw [Int.tdiv_eq_ediv_of_nonneg (by omega), wrap64_self (by omega) (by omega)]; omega
  · rw [wrap64_self (by omega) (by omega)]; omega

end Go.Proofs.Ythjjihipodhkiaa

/-
  bloom.Build, walked.
-/
namespace Go.Proofs.Ythjjihipodhkiaa
open Go.RowKit Go.Maps Go.WideMaps

theorem law_str : Keyed Try.prog 9 := string_keyed Try.underlying9
/-- The first k keys' set. -/
def KS (ks : List (List UInt8)) (k : Nat) : DataW Unit := setOf (.lit (.bool true)) ((ks.take k).map Lit.string)
theorem KS_zero (ks : List (List UInt8)) : KS ks 0 = .map [] := by simp [KS, setOf]
theorem KS_succ (ks : List (List UInt8)) (k : Nat) (x : List UInt8) (h : ks[k]? = some x) : KS ks (k + 1) = (KS ks k).put (.string x) (.lit (.bool true)) := by
  unfold KS
  rw [take_snoc h, List.map_append, List.map_cons, List.map_nil, setOf_snoc]

theorem made_zeros (L : Nat) : (madeCells (Value.int IntKind.u8 0).cells L).toList = u8s (List.replicate L 0) := by
  have e : (Value.int IntKind.u8 0).cells = #[.int .u8 0] := rfl
  rw [e]
  apply List.ext_getElem?
  intro i
  simp only [madeCells, u8s, u8v, List.map_replicate, List.getElem?_replicate, Array.toList_map, Array.toList_range, List.getElem?_map, List.size_toArray, List.length_cons, List.length_nil, Nat.zero_add, Nat.mod_one]
  by_cases h : i < L
  · rw [if_pos h, List.getElem?_range h]; rfl
  · rw [if_neg h, List.getElem?_eq_none (by simpa using h)]; rfl
theorem zeros_at {L k : Nat} (h : k < L) : (u8s (List.replicate L 0))[k]? = some (.int .u8 0) := by
  simp [u8s, u8v, h]

theorem u8s_getElem {l : List UInt8} {k : Nat} (h : k < l.length) : (u8s l)[k]? = some (.int .u8 ((l[k]'h).toNat : Int)) := u8s_at (List.getElem?_eq_getElem h)

theorem grown_drew {a b : World} {r : Option Nat} (h : a.grownBy b r) : a.grownBy b.drew r := ⟨h.os, h.tape, h.output, h.size, h.block⟩
theorem own_drew {w : World} {base e size n : Nat} {v : Value} {xs : List Value} (h : w.ownsRow base e size v n xs) : w.drew.ownsRow base e size v n xs := h

theorem keyOf_string_inv' {P : Program} {k : TypeId} (hk : P.underlying k = some .string) {s : ByteArray} {kl : Lit} (h : keyOf P k (.string s) = some kl) : kl = .string s.data.toList := by
  simp [keyOf, hk, mapKey] at h
  exact h.2.symm

/-- What Build leaves. -/
def BuildPost (bits : Int) (ks : List (List UInt8)) (w : World) (e : Ending) (w' : World) : Prop :=
  (buildE bits ks = 0 ∧ ∃ g, e = .returned (.tuple #[.slice (some ⟨g, 0, none⟩) (buildB bits ks).length (buildB bits ks).length, .int .i64 0]) ∧ w'.ownsRow w.heap.size 5 1 (.slice (some ⟨g, 0, none⟩) (buildB bits ks).length (buildB bits ks).length) (buildB bits ks).length (u8s (buildB bits ks)) ∧ Below w.heap.size w w') ∨
  (buildE bits ks ≠ 0 ∧ e = .returned (.tuple #[.slice none 0 0, .int .i64 (buildE bits ks)]) ∧ Below w.heap.size w w')

set_option maxRecDepth 100000 in
set_option maxHeartbeats 2000000 in
theorem build_any (bits : Int) (ks : List (List UInt8)) (A : Option Addr) (n c : Nat) (w : World) (hn : n ≤ 9223372036854775807) (hr : RBs w w.heap.size A n ks) :
    Calls Try.prog 13 #[.int .i64 bits, .slice A n c] w (BuildPost bits ks w) := by
  have HR : Hid (∀ w', Below w.heap.size w w' → RBs w' w'.heap.size A n ks) := Lib.hid fun w' h => hr.later h
  have hlen := hr.len
  by_cases hb : bits < 1 ∨ 20 < bits
  case pos =>
    have HP : Hid (BuildPost bits ks w (.returned (.tuple #[.slice none 0 0, .int .i64 60])) w) := Lib.hid (by
      have e : buildE bits ks = 60 := by unfold buildE; rw [if_pos hb]
      exact .inr ⟨by rw [e]; decide, by rw [e]; rfl, Below.refl _ _⟩)
    clear hr HR
    by_cases h1 : bits < 1
    · have d1 : decide (bits < 1) = true := decide_eq_true h1
      clear hb h1
      go_enter Try.func13, Try.ntmps13
      go_wp2
      go_ret2
      exact HP.out
    · have d1 : decide (bits < 1) = false := decide_eq_false h1
      have d2 : decide (20 < bits) = true := decide_eq_true (by omega)
      clear hb h1
      go_enter Try.func13, Try.ntmps13
      go_wp2
      go_ret2
      exact HP.out
  have d1 : decide (bits < 1) = false := decide_eq_false (by omega)
  have d2 : decide (20 < bits) = false := decide_eq_false (by omega)
  by_cases hk : 1048576 < n
  case pos =>
    have HP : Hid (BuildPost bits ks w (.returned (.tuple #[.slice none 0 0, .int .i64 61])) w) := Lib.hid (by
      have e : buildE bits ks = 61 := by unfold buildE; rw [if_neg hb, if_pos (by omega)]
      exact .inr ⟨by rw [e]; decide, by rw [e]; rfl, Below.refl _ _⟩)
    clear hb hr HR
    go_enter Try.func13, Try.ntmps13
    go_wp2
    go_ret2
    exact HP.out
  have HHas : Hid (∀ x, Maps.has (KS ks n) (.string x) = ks.contains x) := Lib.hid fun x => by unfold KS; rw [take_all (by omega), has_keys]
  have HKL : Hid (∀ x ∈ ks, x.length ≤ 9223372036854775807) := Lib.hid fun x hx => by
    obtain ⟨i, hi, e⟩ := List.getElem_of_mem hx
    obtain ⟨b, o, key, a, ck, _, _, hki, _, h1, h2, _, _⟩ := hr.at_ (i := i) (by omega)
    rw [List.getElem?_eq_getElem hi] at hki
    injection hki with hki
    rw [← e, hki]; omega
  have h0 : buildE bits ks = 0 := by unfold buildE; rw [if_neg hb, if_neg (by omega)]
  have hmm := @run_makeMap Try.prog
  clear hb
  go_enter Try.func13, Try.ntmps13
  go_wp2
  go_loopw [26] (fun i wr => ∃ k : Nat, k ≤ n ∧ i = .int .i64 k ∧ wr.ownsMap Try.prog 9 (plainElem Try.prog 4) w.heap.size k (KS ks k) ∧ Hid (Below w.heap.size w wr))
    (fun i _ => n - (intOf i).toNat)
  case atStart => exact ⟨0, Nat.zero_le _, rfl, by rw [KS_zero]; exact World.ownsMap_made _ _ _ _, Lib.hid ((Below.refl _ _).alloc (Nat.le_refl _) _)⟩
  case round =>
    obtain ⟨k, hkn, rfl, hown, HB⟩ := hrel
    by_cases hlt : k < n
    case pos =>
      obtain ⟨b, o, key, a, ck, rfl, hbw, hki, hcell, hkc, hck, _, hrb⟩ := (HR.out _ HB.out).at_ hlt
      have hkey : keyOf Try.prog 9 (.string ⟨key.toArray⟩) = some (.string key) := keyOf_string_mk Try.underlying9 (by show key.toArray.size ≤ maxLen; unfold maxLen; rw [List.size_toArray]; omega)
      have HS := Lib.hid (KS_succ ks k key hki)
      have hd : decide ((k : Int) < n) = true := decide_eq_true (by omega)
      clear hki
      go_wp2_with (first
        | (refine wpList_string_reads rfl _ 24 9 5 rfl Try.underlying24 Try.underlying5 Try.underlying9 rfl hrb ?_)
        | (at_mapUpdate; refine wpList_mapUpdate_own _ rfl _ _ _ 55 rfl 9 4 law_str Try.underlying55 (plainElem (H := Unit) Try.prog 4) w.heap.size k _ rfl hown (by unfold maxLen; omega) _ _ _ rfl rfl hkey _ [] (plainElem_bool Try.underlying4 true) ?_; intro w1 hown1 hgrow1))
      go_roundw
      case rel => exact ⟨k + 1, by omega, by go_num, by rw [HS.out]; exact hown1, Lib.hid (HB.out.grown hgrow1 HB.out.size (fun j hj => by cases hj; exact Nat.le_refl _))⟩
      case measure => simp [intOf]; omega
    have e : k = n := by omega
    subst e
    have HU : Hid (Maps.size (KS ks k) = (unl ks).length) := Lib.hid (by unfold KS; rw [take_all (by omega), size_keys])
    have hU2 := buildM_raw (bits := bits) (ks := ks) (by have := of_decide_eq_false d1; omega) (by have := of_decide_eq_false d2; omega) (by omega)
    obtain ⟨nb, rfl⟩ : ∃ nb : Nat, bits = (nb : Int) := ⟨bits.toNat, by have := of_decide_eq_false d1; omega⟩
    obtain ⟨U, hU⟩ : ∃ U : Nat, U = (unl ks).length := ⟨_, rfl⟩
    rw [← hU, Int.toNat_natCast] at hU2
    have hd : decide ((k : Int) < k) = false := decide_eq_false (by omega)
    have hnb1 : 1 ≤ nb := by have := of_decide_eq_false d1; omega
    have hnb2 : nb ≤ 20 := by have := of_decide_eq_false d2; omega
    obtain ⟨P, hP⟩ : ∃ P : Nat, P = U * nb := ⟨_, rfl⟩
    obtain ⟨Q, hQ⟩ : ∃ Q : Nat, Q = (P + 7) / 8 := ⟨_, rfl⟩
    obtain ⟨M, hM⟩ : ∃ M : Nat, M = buildM nb ks := ⟨_, rfl⟩
    obtain ⟨R, hR⟩ : ∃ R : Nat, R = 7 * nb / 10 := ⟨_, rfl⟩
    obtain ⟨p, hp⟩ : ∃ p : Nat, p = buildP nb := ⟨_, rfl⟩
    obtain ⟨D, hD⟩ : ∃ D : Nat, D = M / 8 := ⟨_, rfl⟩
    obtain ⟨L, hL⟩ : ∃ L : Nat, L = 6 + D := ⟨_, rfl⟩
    obtain ⟨q1, q2, q3, q4, q5, q6, q7, q8, q9, q10, q11, q12, q13, q14, hM1, hM2, hM3, hp1, hp2, hLa, hLb⟩ := build_nums nb ks U P Q M R p D L hU hU2 hnb1 hnb2 hP hQ hM hR hp hD hL
    have HL := Lib.hid hL
    have HD := Lib.hid hD
    have HM := Lib.hid hM
    have Hp := Lib.hid hp
    have HUU := Lib.hid hU
    have HN1 : Hid (1 * L ≤ 281474976710656) := Lib.hid (by rw [Nat.one_mul]; exact Nat.le_trans hLb (by decide))
    have HN2 : Hid (L ≤ maxLen) := Lib.hid (Nat.le_trans hLb (by unfold maxLen; decide))
    have HN3 : Hid (w.heap.size ≤ (wr.alloc (.cells #[.int .i64 p, .int .u32 M] 58)).heap.size) := Lib.hid (Nat.le_trans HB.out.size (by simp))
    clear hU2 hP hQ hR hM hp hD hL hU
    go_wp2_with (first
      | (at_len; refine wpList_len_own _ rfl _ 55 rfl 9 4 Try.underlying55 _ w.heap.size k _ rfl hown ?_; rw [HU.out, ← HUU.out])
      | (at_make; refine wpList_make_full _ rfl (.tmp 51) (.tmp 51) 24 rfl w.heap.size 5 Try.t5 (.int .u8 0) 1 Try.underlying24 (by kernel_rfl) rfl rfl .i64 .i64 _ _ L rfl rfl (by simp) (by simp) HN1.out HN2.out HN3.out ?_; intro w3 hown3 hg3))
    clear q1 q2 q3 q4 q5 q6 q7 q8 q9 q10 q11 q12 q13 q14
    have HB3 := Lib.hid ((HB.out.alloc HB.out.size (.cells #[.int .i64 p, .int .u32 M] 58)).grown hg3 (by have := HB.out.size; simp; omega) (by simp))
    simp only [World.size_alloc, Nat.mul_one] at hown3
    have hw3 : wr.heap.size + 1 < w3.heap.size := (hown3.lt _ rfl).2
    have s0 : w3.cell? ⟨wr.heap.size, 0, none⟩ = some (.int .i64 p) := by rw [World.cell?_of_block (hg3.block wr.heap.size (by simp) (by simp))]; simp
    have s1 : w3.cell? ⟨wr.heap.size, 1, none⟩ = some (.int .u32 M) := by rw [World.cell?_of_block (hg3.block wr.heap.size (by simp) (by simp))]; simp
    have hwr : w.heap.size < wr.heap.size := hown.lt
    have hown4 := (hown.kept (World.grownBy_alloc wr (.cells #[.int .i64 p, .int .u32 M] 58) none) (by simp)).kept hg3 (by simp)
    rw [made_zeros] at hown3
    obtain ⟨g, hg⟩ : ∃ g, g = wr.heap.size + 1 := ⟨_, rfl⟩
    obtain ⟨sb, hsb⟩ : ∃ sb, sb = wr.heap.size := ⟨_, rfl⟩
    obtain ⟨fb, hfb⟩ : ∃ fb, fb = w3.heap.size := ⟨_, rfl⟩
    rw [← hg] at hown3 hw3 ⊢
    rw [← hsb] at s0 s1 hwr hg ⊢
    rw [← hfb] at hw3 ⊢
    have c0 : (w3.alloc (.cells #[.slice (some ⟨g, 0, none⟩) L L] 24)).cell? ⟨fb, 0, none⟩ = some (.slice (some ⟨g, 0, none⟩) L L) := by rw [hfb]; simp
    have s2 := cell_alloc_old (o := .cells #[.slice (some ⟨g, 0, none⟩) L L] 24) s0
    have s3 := cell_alloc_old (o := .cells #[.slice (some ⟨g, 0, none⟩) L L] 24) s1
    have hO := own_below hown3 ((Below.refl _ _).alloc (Nat.le_refl _) (.cells #[.slice (some ⟨g, 0, none⟩) L L] 24))
    have hO4 := hown4.kept (World.grownBy_alloc w3 (.cells #[.slice (some ⟨g, 0, none⟩) L L] 24) none) (by simp)
    have HB4 := Lib.hid (HB3.out.alloc HB3.out.size (.cells #[.slice (some ⟨g, 0, none⟩) L L] 24))
    have hz4 : fb < (w3.alloc (.cells #[.slice (some ⟨g, 0, none⟩) L L] 24)).heap.size := by rw [hfb]; simp
    generalize w3.alloc (.cells #[.slice (some ⟨g, 0, none⟩) L L] 24) = w4 at *
    clear s0 s1 hown3 hown4 HB3 HN3 hg3 hmm HB hown hfb hsb
    have z0 := (hO.cellAt 0 (by omega)).trans (zeros_at (k := 0) (by omega))
    have z1 := (hO.cellAt 1 (by omega)).trans (zeros_at (k := 1) (by omega))
    have hst1 := hO.stored 0 (.int .u8 66)
    have hst2 := hst1.1.stored 1 (.int .u8 p)
    have hst := hst1.2
    have f0 := hO.frozenAt 0
    have f1 := hO.frozenAt 1
    have hgs : sb ≠ g := by omega
    have hgf : fb ≠ g := by omega
    have hpm : (p : Int) % 256 = (p : Int) := by omega
    have HO1 := Lib.hid hst1
    have HO2 := Lib.hid hst2
    have hsg : w.heap.size < g := by omega
    have hsbf : sb < fb := by omega
    have hG := grown_drew (grown_trans hst1.2 hst2.2)
    have e0 : ((u8s (List.replicate L 0)).set 0 (.int .u8 66)).set 1 (.int .u8 p) = u8s (hdrTo p M 0) := by
      show _ = u8s (hdr0 p M)
      unfold hdr0 u8s
      rw [List.map_set, List.map_set, HL.out, HD.out]
      unfold u8v
      rw [UInt8.toNat_ofNat', Nat.mod_eq_of_lt (by omega)]; rfl
    have g0 := own_drew hst2.1
    rw [e0] at g0
    have g1 := hO4.kept hG (by intro e; injection e with e; omega)
    have g2 := hG.cell c0 (by simpa using hgf)
    have g3 := hG.cell s2 (by simpa using hgs)
    have g4 := hG.cell s3 (by simpa using hgs)
    have g5 := Lib.hid (HB4.out.grown hG HB4.out.size (by intro j hj; injection hj with hj; omega))
    have g6 := Nat.lt_of_lt_of_le hz4 hG.size
    have HG0 := Lib.hid (And.intro g0 (And.intro g1 (And.intro g2 (And.intro g3 (And.intro g4 (And.intro g5 g6))))))
    clear g0 g1 g2 g3 g4 g5 g6 hG e0 hst hst1 hst2 hO hg hO4
    go_wp2
    go_region
    go_wp2
    clear z0 z1 f0 f1 c0 s2 s3 HB4 hz4
    go_loopw [60] (fun i wr2 => ∃ j : Nat, j ≤ 4 ∧ i = .int .i64 j ∧ wr2.ownsRow w.heap.size 5 1 (.slice (some ⟨g, 0, none⟩) L L) L (u8s (hdrTo p M j)) ∧ wr2.ownsMap Try.prog 9 (plainElem Try.prog 4) w.heap.size k (KS ks k) ∧
        wr2.cell? ⟨fb, 0, none⟩ = some (.slice (some ⟨g, 0, none⟩) L L) ∧ wr2.cell? ⟨sb, 0, none⟩ = some (.int .i64 p) ∧ wr2.cell? ⟨sb, 1, none⟩ = some (.int .u32 M) ∧ Hid (Below w.heap.size w wr2) ∧ fb < wr2.heap.size)
      (fun i _ => 4 - (intOf i).toNat)
    case atStart => exact ⟨0, by omega, rfl, HG0.out⟩
    case round =>
      obtain ⟨j, hj4, rfl, hO, hO4, c0, s2, s3, HB4, hz4⟩ := hrel
      clear HG0 HO1 HO2
      by_cases hj : j < 4
      case pos =>
        have hdj : decide ((j : Int) < 4) = true := decide_eq_true (by omega)
        have z0 := (hO.cellAt (2 + j) (by omega))
        rw [u8s_getElem (hdrTo_length p M j ▸ (by rw [← HD.out, ← HL.out]; omega) : 2 + j < (hdrTo p M j).length)] at z0
        have f0 := hO.frozenAt (2 + j)
        have hst := hO.stored (2 + j) (.int .u8 ((M : Int) / 2 ^ (24 - 8 * j) % 256))
        have e0 : (u8s (hdrTo p M j)).set (2 + j) (.int .u8 ((M : Int) / 2 ^ (24 - 8 * j) % 256)) = u8s (hdrTo p M (j + 1)) := by
          show _ = u8s ((hdrTo p M j).set (2 + j) _)
          unfold u8s
          rw [List.map_set]
          unfold u8v
          rw [UInt8.toNat_ofNat', Int.natCast_emod, Int.natCast_ediv, Int.natCast_pow]; rfl
        rw [e0] at hst
        have hG := grown_drew hst.2
        have HO1 := Lib.hid (own_drew hst.1)
        have g1 := Lib.hid (hO4.kept hG (by intro e; injection e with e; omega))
        have g2 := Lib.hid (hG.cell c0 (by simpa using hgf))
        have g3 := Lib.hid (hG.cell s2 (by simpa using hgs))
        have g4 := Lib.hid (hG.cell s3 (by simpa using hgs))
        have g5 := Lib.hid (HB4.out.grown hG HB4.out.size (by intro j hj; injection hj with hj; omega))
        have g6 := Lib.hid (Nat.lt_of_lt_of_le hz4 hG.size)
        clear hO hst hG e0 hO4
        go_wp2
        go_region
        go_wp2
        go_roundw
        case rel => exact ⟨j + 1, by omega, by go_num, HO1.out, g1.out, g2.out, g3.out, g4.out, g5, g6.out⟩
        case measure => simp [intOf]; omega
      have e4 : j = 4 := by omega
      subst e4
      rw [hdr_done] at hO
      have hrb : w.heap.size < wr.heap.size := by omega
      clear hj hj4
      go_wp2_with (at_range; refine wpList_range_own _ rfl _ 55 rfl 9 4 law_str Try.underlying55 _ w.heap.size k _ rfl hO4 ?_; intro w5 hrg5 hg5 hs5)
      go_frame
      obtain ⟨rb, hrbe⟩ : ∃ rb, rb = wr.heap.size := ⟨_, rfl⟩
      rw [← hrbe] at hrg5 hs5 hz4 hrb ⊢
      have a0 := hO.kept hg5 (Classical.em _)
      have a1 := hg5.cell c0 (by simp)
      have a2 := hg5.cell s2 (by simp)
      have a3 := hg5.cell s3 (by simp)
      have a4 := Lib.hid (HB4.out.grown hg5 HB4.out.size (by simp))
      have a5 : fb < w5.heap.size := by omega
      have hgr : g ≠ rb := by omega
      have hfr : fb ≠ rb := by omega
      have hsr : sb ≠ rb := by omega
      clear hO hO4 c0 s2 s3 HB4 hz4 hrbe hg5
      go_loopw [13] (fun _ wr2 => ∃ (left : Lit → Bool) (cnt : Nat), wr2.ranges Try.prog 9 (plainElem Try.prog 4) w.heap.size rb k (KS ks k) left cnt ∧ wr2.ownsRow w.heap.size 5 1 (.slice (some ⟨g, 0, none⟩) L L) L (u8s (filterB p M (doneS p M ks left))) ∧
          wr2.cell? ⟨fb, 0, none⟩ = some (.slice (some ⟨g, 0, none⟩) L L) ∧ wr2.cell? ⟨sb, 0, none⟩ = some (.int .i64 p) ∧ wr2.cell? ⟨sb, 1, none⟩ = some (.int .u32 M) ∧ Hid (Below w.heap.size w wr2) ∧ fb < wr2.heap.size ∧ Hid (∀ x, left (.string x) = true → x ∈ ks))
        (fun _ wr2 => wr2.rangeLeft w.heap.size rb)
      case atStart => exact ⟨_, _, hrg5, by rw [doneS_start]; exact a0; intro x hx; exact HHas.out x ▸ List.contains_iff_mem.2 hx, a1, a2, a3, a4, a5, Lib.hid fun x hx => List.contains_iff_mem.1 (HHas.out x ▸ hx)⟩
      case round =>
        obtain ⟨left, cnt, hrg, hO, c0, s2, s3, HB4, hz4, HL4⟩ := hrel
        clear hrg5 a0 a1 a2 a3 a4 a5
        go_wp2_with (at_next; refine wpList_next_ranges _ rfl _ rfl 9 law_str _ Value.string (fun v : Value => v) (fun key kl hkey => keyOf_string_inv Try.underlying9 hkey) (fun v _ _ => ⟨v, rfl⟩) w.heap.size rb k _ _ _ rfl hrg ?_ ?_)
        · intro _ hl0
          rw [doneS_end _ _ _ _ hl0] at hO
          have HP : Hid (BuildPost nb ks w (.returned (.tuple #[.slice (some ⟨g, 0, none⟩) L L, .int .i64 0])) wr) := Lib.hid (by
            have e : L = (buildB nb ks).length := by rw [buildB_length, ← HM.out, ← HD.out, ← HL.out]
            refine .inl ⟨h0, g, by rw [← e], ?_, HB4.out⟩
            rw [← e]
            unfold buildB
            rw [← HM.out, ← Hp.out]
            exact hO)
          clear hO
          go_wp2
          go_ret2
          exact HP.out
        · intro x y kl za zb w6 cnt6 hkl hlk _ _ hrg6 hlt6 hg6 hs6 hen
          have hx := keyOf_string_inv' Try.underlying9 hkl
          subst hx
          have HX := HL4.out _ hlk
          have Hxl := Lib.hid (HKL.out _ HX)
          have b0 := hO.kept hg6 (.inr (by intro e; injection e with e; exact hgr e))
          have b1 := hg6.cell c0 (by simpa using hfr)
          have b2 := hg6.cell s2 (by simpa using hsr)
          have b3 := hg6.cell s3 (by simpa using hsr)
          have b4 := Lib.hid (HB4.out.grown hg6 HB4.out.size (by intro j hj; injection hj with hj; omega))
          have b5 : fb < w6.heap.size := by omega
          clear hO c0 s2 s3 HB4 hz4 hg6 hkl hs6
          have HST : Hid (setAll (filterB p M (doneS p M ks left)) (placesN x.data.toList p M) = filterB p M (doneS p M ks (fun z => left z && !z.sameKey (.string x.data.toList)))) := Lib.hid (by
            rw [filterB_setAll p M hM3 _ _ (placesN_lt _ _ _ (by omega))]
            exact filterB_ext _ _ fun i _ => doneS_step _ _ _ _ _ HX i)
          have HL6 : Hid (∀ y, (fun z => left z && !z.sameKey (.string x.data.toList)) (Lit.string y) = true → y ∈ ks) := Lib.hid fun y hy => HL4.out y (by
            have := (Bool.and_eq_true _ _ ▸ hy : left (Lit.string y) = true ∧ _)
            exact this.1)
          have HW1 : Hid (0 < M) := Lib.hid (by omega)
          have HW2 : Hid (6 + M / 8 = L) := Lib.hid (by rw [HL.out, HD.out])
          have HW3 : Hid (x.size ≤ 9223372036854775807) := Lib.hid Hxl.out
          clear HX HL4 hlk
          go_wp2_with (first
            | (refine wpList_bytes_of rfl _ 9 24 5 rfl Try.underlying9 Try.underlying24 Try.underlying5 _ rfl ?_; intro cap w7 hk7 hg7 hs7; have d0 := b0.kept hg7 (Classical.em _); have d1 := hg7.cell b1 (by simp); have d2 := hg7.cell b2 (by simp); have d3 := hg7.cell b3 (by simp); have d4 := Lib.hid (b4.out.grown hg7 b4.out.size (by simp)); have d5 : fb < w7.heap.size := (by omega); have d6 := hrg6.kept hg7 (by simp) (by simp); have HK7 := Lib.hid hk7; have HO7 := Lib.hid d0; clear hk7 d0 hg7 hs7 b1 b2 b3 b4 b5 hrg6)
            | (go_at_call 33; refine (each_set _ x.data.toList _ w.heap.size g L L x.size cap fb p M w7 d1 hgf HO7.out HW3.out HK7.out hp2 HW1.out hM1 HW2.out hM3).mono ?_; rintro e w8 ⟨rfl, hO8, hG8⟩; rw [HST.out] at hO8))
          have e1 := hG8.cell d1 (by simpa using hgf)
          have e2 := hG8.cell d2 (by simpa using hgs)
          have e3 := hG8.cell d3 (by simpa using hgs)
          have e4 := Lib.hid (d4.out.grown hG8 d4.out.size (by intro j hj; injection hj with hj; omega))
          have e5 := Nat.lt_of_lt_of_le d5 hG8.size
          have e6 := d6.kept hG8 (by intro e; injection e with e; omega) (by intro e; injection e with e; omega)
          clear hG8
          go_roundw
          case rel => exact ⟨_, _, _, _, _, _, _, _, _, _, ⟨_, cnt6, e6, hO8, e1, e2, e3, e4, e5, HL6⟩, rfl⟩
          case measure => rw [e6.left_eq, hrg.left_eq]; exact hlt6
end Go.Proofs.Ythjjihipodhkiaa

/-
  The statements' small helpers, walked: num, alike, started.
-/
namespace Go.Proofs.Ythjjihipodhkiaa
open Go.RowKit Go.Maps Go.WideMaps

set_option maxRecDepth 100000 in
theorem num_any (x : Int) (w : World) : Calls Try.prog 14 #[.int .i64 x] w fun e w' => e = .returned (.int .i64 x) ∧ w = w' := by
  go_enter Try.func14, Try.ntmps14
  go_wp2
  go_ret
  exact ⟨rfl, rfl⟩

set_option maxRecDepth 100000 in
theorem alike_any (a b : List UInt8) (A B : Option Addr) (n c m d : Nat) (w : World) (ha : RB w w.heap.size A n a) (hb : RB w w.heap.size B m b) :
    Calls Try.prog 15 #[.slice A n c, .slice B m d] w fun e w' => e = .returned (.bool (a == b)) ∧ w = w' := by
  have tok1 : True := trivial
  go_enter Try.func15, Try.ntmps15
  go_wp2_with (first
    | (have _t := tok1; refine wpList_string_reads rfl _ 24 9 5 rfl Try.underlying24 Try.underlying5 Try.underlying9 rfl ha ?_; clear tok1)
    | (refine wpList_string_reads rfl _ 24 9 5 rfl Try.underlying24 Try.underlying5 Try.underlying9 rfl hb ?_))
  go_ret
  exact ⟨rfl, rfl⟩

theorem RBs.of_cells {w : World} {B b o n : Nat} {ks : List (List UInt8)} (hb : b < B) (hn : ks.length = n)
    (h : ∀ (i : Nat) (k : List UInt8), ks[i]? = some k → ∃ (a : Option Addr) (c : Nat), w.cell? ⟨b, o + i, none⟩ = some (.slice a k.length c) ∧ k.length ≤ c ∧ c ≤ 9223372036854775807 ∧ (a = none → c = 0) ∧ RB w B a k.length k) :
    RBs w B (some ⟨b, o, none⟩) n ks := by
  subst hn
  have hv : ∀ (i : Nat) (u : Value), ((List.range ks.length).map fun i => (w.cell? ⟨b, o + i, none⟩).getD undef)[i]? = some u → i < ks.length ∧ u = (w.cell? ⟨b, o + i, none⟩).getD undef := by
    intro i u hu
    rw [List.getElem?_map, Option.map_eq_some_iff] at hu
    obtain ⟨j, hj, rfl⟩ := hu
    obtain ⟨hlt, e⟩ := List.getElem?_eq_some_iff.1 hj
    rw [List.getElem_range] at e
    subst e
    exact ⟨by simpa using hlt, rfl⟩
  refine ⟨(List.range ks.length).map fun i => (w.cell? ⟨b, o + i, none⟩).getD undef, ⟨by simp, fun _ => ⟨b, o, rfl, hb, fun j u hu => ?_⟩⟩, by simp, fun i k hk => ?_⟩
  · obtain ⟨hlt, rfl⟩ := hv j u hu
    obtain ⟨a, c, h1, _⟩ := h j _ (List.getElem?_eq_getElem hlt)
    rw [h1]; rfl
  · obtain ⟨a, c, h1, h2, h3, h4, h5⟩ := h i k hk
    refine ⟨a, c, ?_, h2, h3, h4, h5⟩
    have hlt := (List.getElem?_eq_some_iff.1 hk).1
    rw [List.getElem?_map, List.getElem?_range hlt, Option.map_some, h1]; rfl

theorem cell_new {W : World} {c : Array Value} {t : TypeId} {b j : Nat} {v : Value} (hb : b = W.heap.size) (hv : c[j]? = some v) : (W.alloc (.cells c t)).cell? ⟨b, j, none⟩ = some v := by
  subst hb
  simp [hv]

/-- The filter of the two keys that 'started' asks for. -/
def startK : List (List UInt8) := [[97], [98]]
def startF : List UInt8 := buildB 10 startK
theorem startF_len : startF.length = 14 := by decide +kernel
theorem startF_ok : buildE 10 startK = 0 := by decide +kernel
theorem startF_check : checkE startF = 0 := by decide +kernel
theorem startF_b : hasB startF [98] = true := by decide +kernel
theorem startF_zz : hasB startF [122, 122] = false := by decide +kernel
theorem startF_ones : 1 < onesN startF := by decide +kernel
theorem started_post {w w' : World} {e : Ending} (h : BuildPost 10 startK w e w') :
    ∃ g, e = .returned (.tuple #[.slice (some ⟨g, 0, none⟩) 14 14, .int .i64 0]) ∧ w'.ownsRow w.heap.size 5 1 (.slice (some ⟨g, 0, none⟩) 14 14) 14 (u8s startF) ∧ Below w.heap.size w w' := by
  rcases h with ⟨_, g, rfl, h2, h3⟩ | ⟨h, _⟩
  · have e : (buildB 10 startK).length = 14 := startF_len
    rw [e] at h2 ⊢
    exact ⟨g, rfl, h2, h3⟩
  · exact absurd startF_ok h
theorem RB.lit (w : World) (C : Array Value) (l : List UInt8) (t : TypeId) (fr : Nat × Nat) (hC : C.toList = u8s l) : RB (w.alloc (.cells C t fr)) (w.heap.size + 1) (some ⟨w.heap.size, 0, none⟩) l.length l :=
  RB.mk' rfl fun _ => ⟨_, 0, rfl, by omega, fun j c hj => by
    rw [Nat.zero_add, World.cell?_alloc_mark, ← Array.getElem?_toList, hC]
    exact u8s_at hj⟩
theorem startK_reads (w : World) (f0 f1 : Nat × Nat) : RBs (((w.alloc (.cells #[.int .u8 97] 5 f0)).alloc (.cells #[.int .u8 98] 5 f1)).alloc (.cells #[.slice (some ⟨w.heap.size, 0, none⟩) 1 1, .slice (some ⟨w.heap.size + 1, 0, none⟩) 1 1] 24))
    (((w.alloc (.cells #[.int .u8 97] 5 f0)).alloc (.cells #[.int .u8 98] 5 f1)).alloc (.cells #[.slice (some ⟨w.heap.size, 0, none⟩) 1 1, .slice (some ⟨w.heap.size + 1, 0, none⟩) 1 1] 24)).heap.size (some ⟨w.heap.size + 2, 0, none⟩) 2 startK := by
  have r0 : RB (w.alloc (.cells #[.int .u8 97] 5 f0)) (w.heap.size + 1) (some ⟨w.heap.size, 0, none⟩) 1 [97] := RB.lit w _ [97] _ _ rfl
  have r1 : RB ((w.alloc (.cells #[.int .u8 97] 5 f0)).alloc (.cells #[.int .u8 98] 5 f1)) (w.heap.size + 1 + 1) (some ⟨w.heap.size + 1, 0, none⟩) 1 [98] := by
    have := RB.lit (w.alloc (.cells #[.int .u8 97] 5 f0)) #[.int .u8 98] [98] 5 f1 rfl
    rwa [World.size_alloc] at this
  refine RBs.of_cells (by simp) rfl fun i k hk => ?_
  match i, hk with
  | 0, hk =>
    injection hk with hk; subst hk
    exact ⟨_, 1, cell_new (by simp) rfl, by simp, by omega, by simp, (((r0.more (by omega)).below ((Below.refl (w.heap.size + 1) _).alloc (by simp) _)).below ((Below.refl (w.heap.size + 1) _).alloc (by simp) _)).more (by simp)⟩
  | 1, hk =>
    injection hk with hk; subst hk
    exact ⟨_, 1, cell_new (by simp) rfl, by simp, by omega, by simp, (r1.below ((Below.refl (w.heap.size + 1 + 1) _).alloc (by simp) _)).more (by simp)⟩

set_option maxRecDepth 100000 in
set_option maxHeartbeats 1000000 in
theorem started_any (w : World) : Calls Try.prog 12 #[] w fun e w' => e = .returned (.bool true) ∧ Below w.heap.size w w' := by
  have HK := Lib.hid (startK_reads w)
  have kc := fun (w : World) (C : Array Value) (n c : Nat) => Lib.run_convert_bytes_const (P := Try.prog) w 24 5 C n c Try.underlying24 Try.underlying5
  have kc2 : ∀ (w : World) (o : Obj) (C : Array Value) (n c : Nat), (convert 24 24 (.slice (some ⟨w.heap.size + 1, 0, none⟩) n c)).run Try.prog ((w.alloc o).alloc (.cells C 5)) = .ok (.slice (some ⟨w.heap.size + 1, 0, none⟩) n c) ((w.alloc o).alloc (.cells C 5 (C.size, C.size + 1))) := fun w o C n c => by
    have := kc (w.alloc o) C n c
    rwa [World.size_alloc] at this
  have tok1 : True := trivial
  have d1 : decide (1 < onesN startF) = true := decide_eq_true startF_ones
  have Hc := Lib.hid startF_check
  have Hb := Lib.hid startF_b
  have Hz := Lib.hid startF_zz
  have hlim : (14 : Nat) ≤ 9223372036854775807 := by omega
  have hlim1 : (1 : Nat) ≤ 9223372036854775807 := by omega
  have hlim2 : (2 : Nat) ≤ 9223372036854775807 := by omega
  go_enter Try.func12, Try.ntmps12
  go_wp2_with (first
    | (go_at_call 13; refine (build_any 10 startK _ 2 2 _ hlim2 (HK.out _ _)).mono ?_; rintro e w1 hp; obtain ⟨g, rfl, hO1, hb1⟩ := started_post hp; have HO1 := Lib.hid hO1; clear hO1)
    | (go_at_call 23; have _t := tok1; refine (has_any startF [98] _ _ 14 14 1 1 _ hlim (RB.own (own_below HO1.out ((Below.refl _ _).alloc (Nat.le_refl _) _))) hlim1 ((RB.lit w1 _ [98] _ _ rfl).more (by simp))).mono ?_; rintro e w2 ⟨rfl, hb2⟩; rw [Hc.out, Hb.out]; clear tok1; have HO2 := Lib.hid (own_below (own_below HO1.out ((Below.refl _ _).alloc (Nat.le_refl _) _)) hb2))
    | (go_at_call 23; refine (has_any startF [122, 122] _ _ 14 14 2 2 _ hlim (RB.own (own_below HO2.out ((Below.refl _ _).alloc (Nat.le_refl _) _))) hlim2 ((RB.lit w2 _ [122, 122] _ _ rfl).more (by simp))).mono ?_; rintro e w3 ⟨rfl, hb3⟩; rw [Hc.out, Hz.out]; have HO3 := Lib.hid (own_below (own_below HO2.out ((Below.refl _ _).alloc (Nat.le_refl _) _)) hb3))
    | (go_at_call 17; refine (ones_any startF _ 14 14 _ hlim (Nat.le_refl _) (RB.own HO3.out)).mono ?_; rintro e w4 ⟨rfl, hb4⟩)
    | (go_at_call 14; refine (num_any _ _).mono ?_; rintro e wn ⟨rfl, rfl⟩))
  go_ret
  have hA := (((Below.refl w.heap.size w).alloc (Nat.le_refl _) (.cells #[.int .u8 97] 5 (1, 2))).alloc (by simp) (.cells #[.int .u8 98] 5 (1, 2))).alloc (by simp; omega) (.cells #[.slice (some ⟨w.heap.size, 0, none⟩) 1 1, .slice (some ⟨w.heap.size + 1, 0, none⟩) 1 1] 24)
  have h1 := hA.trans (hb1.mono hA.size)
  have h2 := (h1.alloc h1.size (.cells (u8s [98]).toArray 5 (1, 2)))
  have h3 := h2.trans (hb2.mono h2.size)
  have h4 := (h3.alloc h3.size (.cells (u8s [122, 122]).toArray 5 (2, 3)))
  have h5 := h4.trans (hb3.mono h4.size)
  exact ⟨rfl, h5.trans (hb4.mono h5.size)⟩

end Go.Proofs.Ythjjihipodhkiaa

/-
  The statements' 'without', walked.
-/
namespace Go.Proofs.Ythjjihipodhkiaa
open Go.RowKit

theorem Try.keyss : SliceOf Try.prog 22 24 1 24 := SliceOf.mk' (z := .slice none 0 0) Try.underlying22 (by kernel_rfl) rfl (by decide)

/-- A new list of keys is left. -/
def KeysPost (w : World) (n : Nat) (ks : List (List UInt8)) (e : Ending) (w' : World) : Prop :=
  ∃ A' c', e = .returned (.slice A' n c') ∧ n ≤ c' ∧ c' ≤ 9223372036854775807 ∧ RBs w' w'.heap.size A' n ks ∧ Below w.heap.size w w'
theorem keys_post {w w' : World} {n m : Nat} {ks : List (List UInt8)} {v : Value} {vs : List Value} (hown : w'.ownsRow w.heap.size 24 1 v m vs) (hK : KV w w.heap.size vs ks) (hb : Below w.heap.size w w') (h : m = n) : KeysPost w n ks (.returned v) w' := by
  subst h
  obtain ⟨A, c, rfl, h1, h2, _, hr⟩ := own_slice hown
  exact ⟨A, c, rfl, h1, h2, (hK.later hb).rbs hr, hb⟩

set_option maxRecDepth 100000 in
set_option maxHeartbeats 400000 in
theorem without_any (ks : List (List UInt8)) (i : Nat) (A : Option Addr) (n c : Nat) (w : World) (hn : n ≤ 1048576) (hi : i < n) (hnc : n ≤ c) (hr : RBs w w.heap.size A n ks) :
    Calls Try.prog 16 #[.slice A n c, .int .i64 i] w (KeysPost w (n - 1) (ks.take i ++ ks.drop (i + 1))) := by
  obtain ⟨vs, hR, hK⟩ := hr.kv
  have hl := hr.len
  have hvl := hK.1
  have T1 := Lib.hid (hR.take1 (m := i) (by omega))
  have T2 := Lib.hid (hR.drop1 (k := i + 1) (cap := c) (by omega) hnc)
  have O1 := Lib.hid (hK.take i).one
  have O2 := Lib.hid (hK.drop (i + 1)).one
  have HK := Lib.hid ((hK.take i).app (hK.drop (i + 1)))
  have N0 := Lib.hid (own_nil w w.heap.size 24 1)
  have tok1 : True := trivial
  clear hR hK hr hvl
  go_enter Try.func16, Try.ntmps16
  go_wp2_with (first
    | (at_builtin; have _t := tok1; refine wpList_append_reads _ rfl (.tmp 6) (.tmp 9) rfl Try.keyss w.heap.size (.slice none 0 0) 0 [] rfl N0.out w.heap.size A i c (vs.take i) rfl T1.out O1.out (by unfold maxLen; omega) (by omega) (Nat.le_refl _) ?_; intro v1 w1 hown1 hg1 hat1; clear tok1; have HB1 := Lib.hid ((Below.refl w.heap.size w).grown hg1 (Nat.le_refl _) (by simp [Value.ownBlock])))
    | (at_builtin; refine wpList_append_reads _ rfl (.tmp 11) (.tmp 15) rfl Try.keyss w.heap.size v1 (0 + i) ([] ++ vs.take i) rfl hown1 w.heap.size _ _ _ (vs.drop (i + 1)) rfl (Reads.below T2.out HB1.out) O2.out (by unfold maxLen; omega) (by omega) HB1.out.size ?_; intro v2 w2 hown2 hg2 hat2))
  all_goals
    go_ret
    refine keys_post hown2 (by rw [List.nil_append]; exact HK.out) (below_app HB1.out hown1 hg2 HB1.out.size (Nat.le_refl _)) (by omega)

end Go.Proofs.Ythjjihipodhkiaa

/-
  What Build makes is a filter; its bits counted; filters of lists with the same keys. No program in sight.
-/
namespace Go.Proofs.Ythjjihipodhkiaa
open Go.RowKit

theorem filterB_shape (p m : Nat) (S : Nat → Bool) (hp : p < 256) (hm : m < 4294967296) : shapeP (filterB p m S) = p ∧ shapeM (filterB p m S) = m := by
  have e0 := filterB_head p m S 0 (by decide)
  have e1 := filterB_head p m S 1 (by decide)
  have e2 := filterB_head p m S 2 (by decide)
  have e3 := filterB_head p m S 3 (by decide)
  have e4 := filterB_head p m S 4 (by decide)
  have e5 := filterB_head p m S 5 (by decide)
  have hl := filterB_length p m S
  unfold headB at e0 e1 e2 e3 e4 e5
  have hif : ¬((filterB p m S).length < 6 ∨ (filterB p m S)[0]? ≠ some 66) := by rw [e0, hl]; simp
  unfold shapeP shapeM
  rw [if_neg hif, if_neg hif, e1, e2, e3, e4, e5]
  simp only [List.getElem?_cons_succ, List.getElem?_cons_zero, Option.getD_some]
  unfold headN
  simp only [UInt8.toNat_ofNat']
  constructor <;> omega
theorem filterB_isF (p m : Nat) (S : Nat → Bool) (hp1 : 1 ≤ p) (hp2 : p ≤ 14) (hm1 : 64 ≤ m) (hm2 : m ≤ 20971520) (h8 : m % 8 = 0) : isF (filterB p m S) = true := by
  obtain ⟨e1, e2⟩ := filterB_shape p m S (by omega) (by omega)
  unfold isF
  rw [e1, e2, filterB_length]
  exact decide_eq_true ⟨hp1, hp2, hm1, hm2, h8, rfl⟩

/-- How many places below m are set. -/
def cntS (m : Nat) (S : Nat → Bool) : Nat := ((List.range m).filter S).length
theorem popN_pack : ∀ b0 b1 b2 b3 b4 b5 b6 b7 : Bool, popN (UInt8.ofNat (pack8 b0 b1 b2 b3 b4 b5 b6 b7)).toNat = b0.toNat + b1.toNat + b2.toNat + b3.toNat + b4.toNat + b5.toNat + b6.toNat + b7.toNat := by decide +kernel
theorem cntS_succ (m : Nat) (S : Nat → Bool) : cntS (m + 1) S = cntS m S + (S m).toNat := by
  unfold cntS
  rw [List.range_succ, List.filter_append, List.length_append]
  cases h : S m <;> simp [h]
theorem pops_pack (S : Nat → Bool) (q : Nat) : popsN ((List.range q).map fun j => packB fun t => S (8 * j + t)) = cntS (8 * q) S := by
  induction q with
  | zero => rfl
  | succ q ih =>
    rw [List.range_succ, List.map_append, List.map_cons, List.map_nil, popsN_snoc, ih]
    unfold packB
    rw [popN_pack, show 8 * (q + 1) = 8 * q + 7 + 1 from by omega, cntS_succ, cntS_succ, cntS_succ, cntS_succ, cntS_succ, cntS_succ, cntS_succ, cntS_succ]
    simp only [Nat.add_zero]
    omega
theorem filterB_ones (p m : Nat) (S : Nat → Bool) (hp1 : 1 ≤ p) (hp2 : p ≤ 14) (hm1 : 64 ≤ m) (hm2 : m ≤ 20971520) (h8 : m % 8 = 0) : onesN (filterB p m S) = cntS m S := by
  unfold onesN
  rw [filterB_isF p m S hp1 hp2 hm1 hm2 h8, if_pos rfl]
  have : (filterB p m S).drop 6 = (List.range (m / 8)).map fun j => packB fun t => S (8 * j + t) := by
    unfold filterB headB
    rfl
  rw [this, pops_pack, show 8 * (m / 8) = m from by omega]
theorem cntS_mono (m : Nat) {S T : Nat → Bool} (h : ∀ i, i < m → S i = true → T i = true) : cntS m S ≤ cntS m T := by
  unfold cntS
  refine length_le_of_nodup (List.Pairwise.filter _ List.nodup_range) fun x hx => ?_
  obtain ⟨h1, h2⟩ := List.mem_filter.1 hx
  exact List.mem_filter.2 ⟨h1, h x (List.mem_range.1 h1) h2⟩

section
variable {bits : Int} {ks js : List (List UInt8)}
theorem buildB_shape (h : buildE bits ks = 0) : shapeP (buildB bits ks) = buildP bits ∧ shapeM (buildB bits ks) = buildM bits ks :=
  filterB_shape _ _ _ (by have := buildP_le h; omega) (by have := buildM_le h; omega)
theorem buildB_isF (h : buildE bits ks = 0) : isF (buildB bits ks) = true :=
  filterB_isF _ _ _ (buildP_le h).1 (buildP_le h).2 (buildM_ge _ _) (buildM_le h) (buildM_mod _ _)
theorem buildB_ones (h : buildE bits ks = 0) : onesN (buildB bits ks) = cntS (buildM bits ks) (buildS (buildP bits) (buildM bits ks) ks) :=
  filterB_ones _ _ _ (buildP_le h).1 (buildP_le h).2 (buildM_ge _ _) (buildM_le h) (buildM_mod _ _)
theorem buildS_mono (p m : Nat) (h : ∀ x ∈ ks, x ∈ js) (i : Nat) (hi : buildS p m ks i = true) : buildS p m js i = true := by
  obtain ⟨k, hk, hp⟩ := List.any_eq_true.1 hi
  exact List.any_eq_true.2 ⟨k, h k hk, hp⟩
theorem buildB_same (bits : Int) (h : ∀ x, x ∈ ks ↔ x ∈ js) : buildB bits ks = buildB bits js := by
  have e : buildM bits ks = buildM bits js := by unfold buildM; rw [unl_same h]
  unfold buildB
  rw [e]
  apply filterB_ext
  intro i _
  rw [Bool.eq_iff_iff]
  exact ⟨buildS_mono _ _ (fun x hx => (h x).1 hx) i, buildS_mono _ _ (fun x hx => (h x).2 hx) i⟩
theorem buildM_mono (bits : Int) (h : ∀ x ∈ ks, x ∈ js) : buildM bits ks ≤ buildM bits js := by
  have := Nat.mul_le_mul_right bits.toNat (unl_mono h)
  unfold buildM; omega
theorem buildB_most (h : buildE bits ks = 0) : onesN (buildB bits ks) ≤ buildP bits * ks.length := by
  rw [buildB_ones h]
  have hl : ∀ l : List (List UInt8), (l.flatMap fun k => placesN k (buildP bits) (buildM bits ks)).length = buildP bits * l.length := by
    intro l
    induction l with
    | nil => rfl
    | cons k l ih => rw [List.flatMap_cons, List.length_append, ih, List.length_cons, Nat.mul_succ]; simp [placesN]; omega
  rw [← hl ks]
  refine length_le_of_nodup (List.Pairwise.filter _ List.nodup_range) fun x hx => ?_
  obtain ⟨_, h2⟩ := List.mem_filter.1 hx
  obtain ⟨k, hk, hp⟩ := List.any_eq_true.1 h2
  exact List.mem_flatMap.2 ⟨k, hk, List.contains_iff_mem.1 hp⟩
theorem buildB_least (h : buildE bits ks = 0) (hk : ks ≠ []) : 1 ≤ onesN (buildB bits ks) := by
  rw [buildB_ones h]
  obtain ⟨k, hk⟩ := List.exists_mem_of_ne_nil ks hk
  have hm := buildM_ge bits ks
  have hp := (buildP_le h).1
  refine List.length_pos_of_mem (a := placeN k (buildM bits ks) 0) (List.mem_filter.2 ⟨List.mem_range.2 (placeN_lt _ _ _ (by omega)), List.any_eq_true.2 ⟨k, hk, List.contains_iff_mem.2 ?_⟩⟩)
  exact List.mem_map.2 ⟨0, List.mem_range.2 (by omega), rfl⟩
/-- Fewer keys, the same shape: no bit more. -/
theorem buildB_fewer (bits : Int) (hl : (buildB bits ks).length = (buildB bits js).length) : buildM bits ks = buildM bits js ∧
    (∀ k, k < 6 → (buildB bits ks)[k]? = (buildB bits js)[k]?) := by
  have e : buildM bits ks = buildM bits js := by
    rw [buildB_length, buildB_length] at hl
    have := buildM_mod bits ks
    have := buildM_mod bits js
    omega
  refine ⟨e, fun k hk => ?_⟩
  unfold buildB
  rw [filterB_head _ _ _ _ hk, filterB_head _ _ _ _ hk, e]
end

theorem pack_test : ∀ (b0 b1 b2 b3 b4 b5 b6 b7 : Bool) (t : Fin 8), (UInt8.ofNat (pack8 b0 b1 b2 b3 b4 b5 b6 b7)).toNat.testBit t.val =
    (match t.val with | 0 => b7 | 1 => b6 | 2 => b5 | 3 => b4 | 4 => b3 | 5 => b2 | 6 => b1 | _ => b0) := by decide +kernel
theorem packB_test (f : Nat → Bool) (t : Nat) (ht : t < 8) : (packB f).toNat.testBit t = f (7 - t) := by
  have h := pack_test (f 0) (f 1) (f 2) (f 3) (f 4) (f 5) (f 6) (f 7) ⟨t, ht⟩
  unfold packB
  rw [h]
  match t, ht with
  | 0, _ => rfl
  | 1, _ => rfl
  | 2, _ => rfl
  | 3, _ => rfl
  | 4, _ => rfl
  | 5, _ => rfl
  | 6, _ => rfl
  | 7, _ => rfl
theorem packB_and (f g : Nat → Bool) (h : ∀ t, t < 8 → f t = true → g t = true) : (packB f).toNat &&& (packB g).toNat = (packB f).toNat := by
  apply Nat.eq_of_testBit_eq
  intro t
  rw [Nat.testBit_and]
  by_cases ht : t < 8
  · rw [packB_test _ _ ht, packB_test _ _ ht]
    cases hf : f (7 - t)
    · rfl
    · rw [h _ (by omega) hf]; rfl
  · have h1 : (packB f).toNat.testBit t = false := by
      apply Nat.testBit_lt_two_pow
      have h2 := (packB f).toNat_lt
      have h3 : 2 ^ 8 ≤ 2 ^ t := Nat.pow_le_pow_right (by decide) (by omega)
      omega
    rw [h1]; rfl
/-- A byte behind the head, of fewer keys and of more, in the same shape. -/
theorem buildB_and (bits : Int) {ks js : List (List UInt8)} (h : ∀ x ∈ ks, x ∈ js) (hl : (buildB bits ks).length = (buildB bits js).length) (k : Nat) (hk : 6 ≤ k) (x y : UInt8) (hx : (buildB bits ks)[k]? = some x) (hy : (buildB bits js)[k]? = some y) :
    x.toNat &&& y.toNat = x.toNat := by
  have e := (buildB_fewer bits hl).1
  have hlt := (List.getElem?_eq_some_iff.1 hx).1
  rw [buildB_length] at hlt
  obtain ⟨j, rfl⟩ : ∃ j, k = 6 + j := ⟨k - 6, by omega⟩
  unfold buildB at hx hy
  rw [filterB_at _ _ _ _ (by omega)] at hx
  rw [filterB_at _ _ _ _ (by omega)] at hy
  injection hx with hx
  injection hy with hy
  subst hx; subst hy
  refine packB_and _ _ fun t _ ht => ?_
  rw [← e]
  exact buildS_mono _ _ h _ ht

end Go.Proofs.Ythjjihipodhkiaa

/-
  Unions of filters. No program in sight.
-/
namespace Go.Proofs.Ythjjihipodhkiaa
open Go.RowKit

theorem packB_lor (f g : Nat → Bool) : UInt8.ofNat ((packB f).toNat ||| (packB g).toNat) = packB fun t => f t || g t := by
  have hb : (packB f).toNat ||| (packB g).toNat < 256 := Nat.or_lt_two_pow (n := 8) (packB f).toNat_lt (packB g).toNat_lt
  apply UInt8.toNat_inj.1
  rw [UInt8.toNat_ofNat', Nat.mod_eq_of_lt hb]
  apply Nat.eq_of_testBit_eq
  intro t
  rw [Nat.testBit_or]
  by_cases ht : t < 8
  · rw [packB_test _ _ ht, packB_test _ _ ht, packB_test _ _ ht]
  · have hz : ∀ x : UInt8, x.toNat.testBit t = false := fun x => by
      apply Nat.testBit_lt_two_pow
      have h2 := x.toNat_lt
      have h3 : 2 ^ 8 ≤ 2 ^ t := Nat.pow_le_pow_right (by decide) (by omega)
      omega
    rw [hz, hz, hz]; rfl
theorem filterB_orB (p m : Nat) (S T : Nat → Bool) : orB (filterB p m S) (filterB p m T) = filterB p m fun i => S i || T i := by
  unfold orB
  apply List.ext_getElem?
  intro k
  by_cases hk : k < 6 + m / 8
  · rw [orTo_at _ _ _ _ (by rw [filterB_length]; exact hk)]
    by_cases h6 : k < 6
    · rw [if_neg (by omega), filterB_head _ _ _ _ h6, filterB_head _ _ _ _ h6]
      have : k < (headB p m).length := by simp [headB]; omega
      rw [List.getElem?_eq_getElem this]; rfl
    · obtain ⟨j, rfl⟩ : ∃ j, k = 6 + j := ⟨k - 6, by omega⟩
      rw [if_pos ⟨by omega, by rw [filterB_length]; exact hk⟩, filterB_at _ _ _ _ (by omega), filterB_at _ _ _ _ (by omega), filterB_at _ _ _ _ (by omega)]
      simp only [Option.getD_some]
      rw [packB_lor]
  · rw [List.getElem?_eq_none (by rw [orTo_length, filterB_length]; omega), List.getElem?_eq_none (by rw [filterB_length]; omega)]
section
variable {bits : Int} {a b : List (List UInt8)}
theorem unions_E (ha : buildE bits a = 0) (hb : buildE bits b = 0) : unionE (buildB bits a) (buildB bits b) = if buildM bits a = buildM bits b then 0 else 63 := by
  unfold unionE
  rw [buildB_isF ha, buildB_isF hb, (buildB_shape ha).1, (buildB_shape ha).2, (buildB_shape hb).1, (buildB_shape hb).2]
  simp
theorem buildM_len : buildM bits a = buildM bits b ↔ (buildB bits a).length = (buildB bits b).length := by
  rw [buildB_length, buildB_length]
  have := buildM_mod bits a
  have := buildM_mod bits b
  omega
theorem unions_same (h : buildM bits a = buildM bits b) : orB (buildB bits a) (buildB bits b) = orB (buildB bits b) (buildB bits a) := by
  unfold buildB
  rw [← h, filterB_orB, filterB_orB]
  exact filterB_ext _ _ fun i _ => Bool.or_comm _ _
theorem unions_all (h : buildM bits a = buildM bits b) (h2 : buildM bits a = buildM bits (a ++ b)) : orB (buildB bits a) (buildB bits b) = buildB bits (a ++ b) := by
  unfold buildB
  rw [← h, ← h2, filterB_orB]
  refine filterB_ext _ _ fun i _ => ?_
  unfold buildS
  rw [List.any_append]
theorem orB_length (a b : List UInt8) : (orB a b).length = a.length := orTo_length _ _ _
/-- A union with oneself. -/
theorem unions_self (bits : Int) (a : List (List UInt8)) : orB (buildB bits a) (buildB bits a) = buildB bits a := by
  unfold buildB
  rw [filterB_orB]
  exact filterB_ext _ _ fun i _ => Bool.or_self _
end
end Go.Proofs.Ythjjihipodhkiaa
