/-
  Words of mine for memory, over any program: a slice that reads as a list of cells (nil let in); append onto a row of the call's own out of any such slice.
-/
import Derived.WalkKit
import Derived.WalkSpells
import Derived.WalkLawsBesides
import Derived.Deep.AppendLies
import Derived.Deep.Draws
import Derived.Maps.AppendAt
import Derived.Lib.Hide
import Derived.Deep.QuietTactic
import Derived.BigQuiet
import Derived.Laws.CopyOwn
namespace Go.Proofs.YtbcljgcilbfblaaDoor
open Go.RowKit

theorem ret_int {k : IntKind} {a b : Int} (h : a = b) : Ending.returned (.int k a) = .returned (.int k b) := by rw [h]
theorem ret_bool {a b : Bool} (h : a = b) : Ending.returned (.bool a) = .returned (.bool b) := by rw [h]

/-- The slice value '.slice A n c' holds the cells xs, below block B. -/
def Reads (w : World) (B size : Nat) (A : Option Addr) (n : Nat) (xs : List Value) : Prop :=
  xs.length = n * size ∧ (0 < n → ∃ b o, A = some ⟨b, o, none⟩ ∧ b < B ∧ ∀ j u, xs[j]? = some u → w.cell? ⟨b, o + j, none⟩ = some u)

section
variable {w w' : World} {B B' size n : Nat} {A : Option Addr} {xs : List Value}
theorem Reads.nil : Reads w B size A 0 [] := ⟨by simp, fun h => absurd h (by omega)⟩
theorem Reads.keep (h : Reads w B size A n xs) (hk : ∀ p : Addr, p.block < B → w'.cell? p = w.cell? p) : Reads w' B size A n xs :=
  ⟨h.1, fun hn => by
    obtain ⟨b, o, e, hb, hc⟩ := h.2 hn
    exact ⟨b, o, e, hb, fun j u hu => (hk _ hb).trans (hc j u hu)⟩⟩
theorem Reads.more (h : Reads w B size A n xs) (hB : B ≤ B') : Reads w B' size A n xs :=
  ⟨h.1, fun hn => by
    obtain ⟨b, o, e, hb, hc⟩ := h.2 hn
    exact ⟨b, o, e, by omega, hc⟩⟩
theorem Reads.below (h : Reads w B size A n xs) (hb : Below B w w') : Reads w' B size A n xs := h.keep fun _ hp => hb.cell hp
theorem Reads.alloc (h : Reads w B size A n xs) (hB : B ≤ w.heap.size) (o : Obj) : Reads (w.alloc o) B size A n xs := h.keep fun p hp => World.cell?_alloc_lt w o p (by omega)
theorem Reads.drew (h : Reads w B size A n xs) : Reads w.drew B size A n xs := h
theorem Reads.grown (h : Reads w B size A n xs) {row : Option Nat} (hg : w.grownBy w' row) (hB : B ≤ w.heap.size) (hr : ∀ g, row = some g → B ≤ g) : Reads w' B size A n xs :=
  h.keep fun p hp => World.cell?_of_block (hg.block p.block (by omega) (fun e => by have := hr _ e.symm; omega))
theorem Reads.take (h : Reads w B size A n xs) {m : Nat} (hm : m ≤ n) : Reads w B size A m (xs.take (m * size)) :=
  ⟨by rw [List.length_take, h.1, Nat.min_eq_left (Nat.mul_le_mul_right _ hm)], fun h0 => by
    obtain ⟨b, o, e, hb, hc⟩ := h.2 (by omega)
    exact ⟨b, o, e, hb, fun j u hu => hc j u (by rw [List.getElem?_take] at hu; split at hu <;> simp_all)⟩⟩
/-- A block that was just made. -/
theorem Reads.new (w : World) (c : Array Value) (t : TypeId) (size n : Nat) (h : c.size = n * size) : Reads (w.alloc (.cells c t)) (w.heap.size + 1) size (some ⟨w.heap.size, 0, none⟩) n c.toList :=
  ⟨by simpa using h, fun _ => ⟨w.heap.size, 0, rfl, by omega, fun j u hu => by simpa using hu⟩⟩
theorem Reads.own {base : Nat} {e : TypeId} {c : Nat} (h : w.ownsRow base e size (.slice A n c) n xs) : Reads w w.heap.size size A n xs := by
  refine ⟨h.1, fun hn => ?_⟩
  rcases h.2 with ⟨hv, h0⟩ | ⟨g, cap, cur, hv, hb, hg, _⟩
  · omega
  · have hA : A = some ⟨g, 0, none⟩ := by injection hv
    subst hA
    refine ⟨g, 0, rfl, (Array.getElem?_eq_some_iff.1 hg).1, fun j u hu => ?_⟩
    have := h.cells (g := g) rfl j u hu
    rw [Nat.zero_add]
    unfold Addr.add at this
    split at this
    · rename_i h0; subst h0; exact this
    · simpa using this
end

/-- The slice type t, its element type e, in the program's tables. -/
structure SliceOf (P : Program) (t e : TypeId) (size bytes : Nat) : Prop where
  slice : P.underlying t = some (.slice e)
  info : ∃ i z, P.info? e = some i ∧ i.zero = some z ∧ i.size = size ∧ i.bytes = bytes ∧ z.cells.size = size
  pos : 0 < size

theorem SliceOf.mk' {P : Program} {t e : TypeId} {size bytes : Nat} {z : Value} (h : P.underlying t = some (.slice e)) (hi : (P.info? e).map (fun i => (i.zero, i.size, i.bytes)) = some (some z, size, bytes)) (hz : z.cells.size = size) (hp : 0 < size) : SliceOf P t e size bytes := by
  obtain ⟨i, h1, h2, h3, h4⟩ := info_parts hi
  exact ⟨h, ⟨i, z, h1, h2, h3, h4, hz⟩, hp⟩

section
variable {P : Program} (w : World)

theorem run_append_of_nil (base : Nat) (t ty e : TypeId) (i : TypeInfo) (size : Nat) (ht : P.underlying t = some (.slice e)) (hi : P.info? e = some i)
    (v : Value) (n : Nat) (xs : List Value) (hown : w.ownsRow base e size v n xs) (c : Nat) : (Builtin.append_ #[t, t] ty #[v, .slice none 0 c]).run P w = .ok v w := by
  rcases hown.2 with ⟨rfl, rfl⟩ | ⟨g, cap, cur, rfl, _, _, hnc, _⟩
  · simp [Builtin.append_, run_underlying ht, sizeOf, typeInfo, hi, Builtin.lenOf, Builtin.firstCells]
  · simp [Builtin.append_, run_underlying ht, sizeOf, typeInfo, hi, Builtin.lenOf, Builtin.firstCells, hnc, storeCells]

theorem run_append_reads {t ty e : TypeId} {size bytes : Nat} (hs : SliceOf P t e size bytes) (base : Nat) (v : Value) (n : Nat) (xs : List Value) (hown : w.ownsRow base e size v n xs)
    (B : Nat) (A : Option Addr) (m c : Nat) (news : List Value) (hr : Reads w B size A m news) (h1 : ∀ u ∈ news, u.oneCell' = true)
    (h63 : n + m ≤ maxLen) (hbytes : (n + m) * bytes ≤ 140737488355328) (hbase : base ≤ w.heap.size) :
    ∃ v' w', (Builtin.append_ #[t, t] ty #[v, .slice A m c]).run P w = .ok v' w' ∧ w'.ownsRow base e size v' (n + m) (xs ++ news) ∧ w.grownBy w' v.ownBlock ∧
      (v'.ownBlock = v.ownBlock ∨ v'.ownBlock = some w.heap.size) := by
  obtain ⟨ht, ⟨i, z, hi, hz, hsize, hby, hzs⟩, hsz⟩ := hs
  rcases A with _ | ad
  · have hm : m = 0 := by
      rcases Nat.eq_zero_or_pos m with h0 | h0
      · exact h0
      · obtain ⟨b, o, h, _⟩ := hr.2 h0
        cases h
    subst hm
    have hn : news = [] := List.eq_nil_of_length_eq_zero (by simpa using hr.1)
    subst hn
    exact ⟨v, w, run_append_of_nil w base t ty e i size ht hi v n xs hown c, by simpa using hown, World.grownBy.refl w _, .inl rfl⟩
  · have hcells : ∀ j u, news[j]? = some u → w.cell? (ad.add j) = some u := by
      intro j u hu
      rcases Nat.eq_zero_or_pos m with h0 | h0
      · subst h0
        have hn : news = [] := List.eq_nil_of_length_eq_zero (by simpa using hr.1)
        subst hn
        simp at hu
      · obtain ⟨b, o, h, _, hc⟩ := hr.2 h0
        injection h with h
        subst h
        have := hc j u hu
        unfold Addr.add
        split
        · rename_i h0; subst h0; exact this
        · exact this
    obtain ⟨v', w', hrun, h2, h3, _, h5⟩ := run_append_own_at (P := P) w base t ty e i z size bytes ht hi hz hsize hby hzs hsz v n xs hown ad m c news hr.1 hcells h1 h63 hbytes hbase
    exact ⟨v', w', hrun, h2, h3, h5⟩

theorem wp_append_reads {o : Oper} {a : Act} {K : Act → World → Prop} {Q : Exit → Act → World → Prop} (s x : Operand) {t e : TypeId} {size bytes : Nat}
    (ho : o.op = .call { callee := .builtin .append, args := #[s, x], argTypes := #[t, t] }) (hS : SliceOf P t e size bytes)
    (base : Nat) (v : Value) (n : Nat) (xs : List Value) (hs : a.eval s = v) (hown : w.ownsRow base e size v n xs)
    (B : Nat) (A : Option Addr) (m c : Nat) (news : List Value) (hx : a.eval x = .slice A m c) (hr : Reads w B size A m news) (h1 : ∀ u ∈ news, u.oneCell' = true)
    (h63 : n + m ≤ maxLen) (hbytes : (n + m) * bytes ≤ 140737488355328) (hbase : base ≤ w.heap.size)
    (h : ∀ v' w', w'.ownsRow base e size v' (n + m) (xs ++ news) → w.grownBy w' v.ownBlock → (v'.ownBlock = v.ownBlock ∨ v'.ownBlock = some w.heap.size) → K (a.put o.dst v') w') : o.wp P a w K Q := by
  obtain ⟨v', w', hrun, h2, h3, h4⟩ := run_append_reads (P := P) w (ty := o.type) hS base v n xs hown B A m c news hr h1 h63 hbytes hbase
  unfold Oper.wp execOp
  simp only [ho, resolve, invoke, builtin, Sem.run_bind, Sem.run_pure, Result.andThen_ok, List.map_toArray, List.map_cons, List.map_nil, hs, hx, hrun]
  exact h v' w' h2 h3 h4

/-- 'append(s, x...)', s nil or of the call's own, x any slice that reads. -/
theorem wpList_append_reads {ops : Array Oper} {rest : List Oper} {o : Oper} {a : Act} {Q : Exit → Act → World → Prop} (hgd : o.guard = none) (s x : Operand) {t e : TypeId} {size bytes : Nat}
    (ho : o.op = .call { callee := .builtin .append, args := #[s, x], argTypes := #[t, t] }) (hS : SliceOf P t e size bytes)
    (base : Nat) (v : Value) (n : Nat) (xs : List Value) (hs : a.eval s = v) (hown : w.ownsRow base e size v n xs)
    (B : Nat) (A : Option Addr) (m c : Nat) (news : List Value) (hx : a.eval x = .slice A m c) (hr : Reads w B size A m news) (h1 : ∀ u ∈ news, u.oneCell' = true)
    (h63 : n + m ≤ maxLen) (hbytes : (n + m) * bytes ≤ 140737488355328) (hbase : base ≤ w.heap.size)
    (h : ∀ v' w', w'.ownsRow base e size v' (n + m) (xs ++ news) → w.grownBy w' v.ownBlock → (v'.ownBlock = v.ownBlock ∨ v'.ownBlock = some w.heap.size) → wpList P ops Q rest (a.put o.dst v') w') : wpList P ops Q (o :: rest) a w :=
  wpList_plain hgd fun _ hK => wp_append_reads w s x ho hS base v n xs hs hown B A m c news hx hr h1 h63 hbytes hbase fun v' w' h2 h3 h4 => hK _ _ (h v' w' h2 h3 h4)
end

/-- What a row of the call's own is, where it holds something. -/
theorem own_form {w : World} {base e size n : Nat} {v : Value} {xs : List Value} (h : w.ownsRow base e size v n xs) (hn : 0 < n) :
    ∃ g cap, v = .slice (some ⟨g, 0, none⟩) n cap ∧ base ≤ g ∧ g < w.heap.size ∧ n ≤ cap ∧ cap ≤ maxLen := by
  rcases h.2 with ⟨_, h0⟩ | ⟨g, cap, cur, hv, hb, hg, hc, hm, _⟩
  · omega
  · exact ⟨g, cap, hv, hb, (Array.getElem?_eq_some_iff.1 hg).1, hc, hm⟩

/-- Below, over an append's 'grownBy'. -/
theorem below_app {B : Nat} {a w w' : World} {v : Value} {e size n base : Nat} {xs : List Value} (h : Below B a w) (hown : w.ownsRow base e size v n xs) (hg : w.grownBy w' v.ownBlock) (hB : B ≤ w.heap.size) (hb : B ≤ base) : Below B a w' :=
  h.grown hg hB fun k hk => Nat.le_trans hb (hown.lt k hk).1

theorem grown_trans {a b c : World} {r : Option Nat} (h : a.grownBy b r) (k : b.grownBy c r) : a.grownBy c r :=
  ⟨k.os.trans h.os, k.tape.trans h.tape, k.output.trans h.output, Nat.le_trans h.size k.size, fun i hi hr => (k.block i (Nat.lt_of_lt_of_le hi h.size) hr).trans (h.block i hi hr)⟩
theorem below_grown {a b : World} (h : Below a.heap.size a b) (r : Option Nat) : a.grownBy b r := ⟨h.os, h.tape, h.output, h.size, fun i hi _ => h.block i hi⟩
theorem grown_below {a b : World} {r : Option Nat} (h : a.grownBy b r) {B : Nat} (hB : B ≤ a.heap.size) (hr : ∀ k, r = some k → B ≤ k) : Below B a b :=
  (Below.refl B a).grown h hB hr
theorem own_below {w w' : World} {base e size n : Nat} {v : Value} {xs : List Value} (h : w.ownsRow base e size v n xs) (hb : Below w.heap.size w w') : w'.ownsRow base e size v n xs := by
  refine h.kept (below_grown hb none) ?_
  cases hv : v.ownBlock <;> simp

/-- A world in which all that was there in W stands as it stood. -/
structure Later (W : World) where
  w : World
  h : Below W.heap.size W w
def Later.now (W : World) : Later W := ⟨W, Below.refl _ _⟩
instance (W : World) : Nonempty (Later W) := ⟨Later.now W⟩
def Later.then {W : World} (L : Later W) {w' : World} (h : Below L.w.heap.size L.w w') : Later W := ⟨w', L.h.trans (h.mono L.h.size)⟩
theorem Later.cell {W : World} (L : Later W) {p : Addr} (v : Value) (h : W.cell? p = some v) : L.w.cell? p = some v :=
  (L.h.cell (World.block_lt_of_cell? W p h)).trans h
theorem Later.calls {P : Program} {f : FuncId} {args : Array Value} {W : World} {L : Later W} {v : Value}
    (h : Calls P f args L.w fun e w' => e = .returned v ∧ Below L.w.heap.size L.w w') : Calls P f args L.w fun e w'' => e = .returned v ∧ ∃ L' : Later W, w'' = L'.w :=
  h.mono fun _ _ ⟨he, hb⟩ => ⟨he, L.then hb, rfl⟩
theorem Later.calls_same {P : Program} {f : FuncId} {args : Array Value} {W : World} {L : Later W} {v : Value}
    (h : Calls P f args L.w fun e w' => e = .returned v ∧ L.w = w') : Calls P f args L.w fun e w'' => e = .returned v ∧ ∃ L' : Later W, w'' = L'.w :=
  h.mono fun _ _ ⟨he, hb⟩ => ⟨he, L, hb.symm⟩

theorem cell_alloc_old {w : World} {p : Addr} {v : Value} {o : Obj} (h : w.cell? p = some v) : (w.alloc o).cell? p = some v :=
  (World.cell?_alloc_lt w o p (World.block_lt_of_cell? w p h)).trans h
theorem cell_set_far {w : World} {p q : Addr} {v u : Value} (h : w.cell? p = some v) (hne : q.block ≠ p.block) : (w.setCell q u).cell? p = some v :=
  (World.cell?_setCell_other w q p u (fun e => hne (by rw [e]))).trans h
theorem cell_below {w w' : World} {p : Addr} {v : Value} (hb : Below w.heap.size w w') (h : w.cell? p = some v) : w'.cell? p = some v :=
  (hb.cell (World.block_lt_of_cell? w p h)).trans h
theorem bcells {W w1 : World} (hb : Below W.heap.size W w1) : (∀ b o, b < W.heap.size → w1.cell? ⟨b, o, none⟩ = W.cell? ⟨b, o, none⟩) ∧ (∀ b o, b < W.heap.size → w1.frozen? ⟨b, o, none⟩ = W.frozen? ⟨b, o, none⟩) ∧ (∀ b, b < W.heap.size → b < w1.heap.size) :=
  ⟨fun b o h => hb.cell (p := ⟨b, o, none⟩) h, fun b o h => hb.frozen (p := ⟨b, o, none⟩) h, fun _ h => Nat.lt_of_lt_of_le h hb.size⟩

/-! For go_region_held3: one cell and 'Below', kept. -/
theorem keep_call {w x w1 : World} {p : Addr} {v : Value} (hb : Below x.heap.size x w1) (h : x.cell? p = some v ∧ Below w.heap.size w x) : w1.cell? p = some v ∧ Below w.heap.size w w1 :=
  ⟨(hb.cell (World.block_lt_of_cell? x p h.1)).trans h.1, h.2.trans (hb.mono h.2.size)⟩
theorem keep_alloc {w x : World} {p : Addr} {v : Value} {o : Obj} (h : x.cell? p = some v ∧ Below w.heap.size w x) : (x.alloc o).cell? p = some v ∧ Below w.heap.size w (x.alloc o) :=
  ⟨(World.cell?_alloc_lt x o p (World.block_lt_of_cell? x p h.1)).trans h.1, h.2.alloc h.2.size o⟩
theorem keep_set {w x : World} {p q : Addr} {v u : Value} (h : x.cell? p = some v ∧ Below w.heap.size w x) (hq : w.heap.size ≤ q.block) (hne : q.block ≠ p.block) : (x.setCell q u).cell? p = some v ∧ Below w.heap.size w (x.setCell q u) :=
  ⟨(World.cell?_setCell_other x q p u (fun e => hne (e ▸ rfl))).trans h.1, h.2.setCell hq u⟩

/-- A region that draws its order, whose operations only read and whose callees leave all that was there: one walk of the text's order. -/
theorem wp_region_later {P : Program} {id : Nat} {Q : Exit → Act → World → Prop} {a : Act} {w : World} {l : List Oper} (hm : P.follows .mixedOrders = true) (hB : Region.lexB .any l.toArray = true)
    (h : wpQuiet P l.toArray (fun w' => ∃ L : Later w, w' = L.w) (fun a' => ∀ L : Later w, Q .normal a' L.w) l a) : (Code.region id l.toArray true).wp P Q a w := by
  refine wp_region_quiet (C := fun w' => ∃ L : Later w, w' = L.w) hm hB ⟨⟨{ w with drawn := w.drawn + 1 }, ⟨rfl, rfl, rfl, Nat.le_refl _, fun _ _ => rfl⟩⟩, rfl⟩ ?_
  have e : (fun a' => ∀ w', (∃ L : Later w, w' = L.w) → Q .normal a' w') = (fun a' => ∀ L : Later w, Q .normal a' L.w) :=
    funext fun a' => propext ⟨fun h L => h _ ⟨L, rfl⟩, fun h w' ⟨L, e⟩ => e ▸ h L⟩
  rw [e]
  exact h

section
variable {P : Program}
/-- 'copy(d, s)', d a row of the call's own, s any slice that reads and is no longer. -/
theorem wpList_copy_reads {w : World} {ops : Array Oper} {rest : List Oper} {o : Oper} {a : Act} {Q : Exit → Act → World → Prop} (hgd : o.guard = none) (d s : Operand) {t e : TypeId} {bytes : Nat}
    (ho : o.op = .call { callee := .builtin .copy, args := #[d, s], argTypes := #[t, t] }) (hS : SliceOf P t e 1 bytes) (base g n cap : Nat) (cur : List Value) (hd : a.eval d = .slice (some ⟨g, 0, none⟩) n cap)
    (hown : w.ownsRow base e 1 (.slice (some ⟨g, 0, none⟩) n cap) n cur) (B : Nat) (A : Option Addr) (m c : Nat) (src : List Value) (hs : a.eval s = .slice A m c) (hr : Reads w B 1 A m src) (hmn : m ≤ n) (h1 : ∀ u ∈ src, u.oneCell' = true)
    (h : ∀ w', w'.ownsRow base e 1 (.slice (some ⟨g, 0, none⟩) n cap) n (src ++ cur.drop m) → w.grownBy w' (some g) → wpList P ops Q rest (a.put o.dst (goInt m)) w') : wpList P ops Q (o :: rest) a w := by
  obtain ⟨ht, ⟨i, z, hi, _, hsize, _, _⟩, _⟩ := hS
  have hsz : (P.info? e).map (·.size) = some 1 := by rw [hi]; simp [hsize]
  have hl : src.length = m := by have := hr.1; omega
  by_cases h0 : m = 0
  · subst h0
    have hsrc : src = [] := List.eq_nil_of_length_eq_zero hl
    subst hsrc
    exact wpList_copy_nothing hgd d s t t ho e ht hsz _ A n cap 0 c hd hs (by simp) (h w (by simpa using hown) (World.grownBy.refl _ _))
  · obtain ⟨b, of, rfl, hb, hc⟩ := hr.2 (by omega)
    rcases hown.2 with ⟨h', _⟩ | ⟨g', cap', curA, h', hbg, hg, hnc, hcm, hcs, htk⟩
    · cases h'
    · injection h' with h1' h2' h3'
      injection h1' with h1'; injection h1' with h1'
      subst h1'; subst h3'
      rw [Nat.mul_one] at hcs htk
      refine wpList_copy_own hgd d s t t ho e ht hsz g 0 n cap ⟨b, of, none⟩ m c hd hs curA e hg src (by rw [hl]; exact (Nat.min_eq_left hmn).symm) (fun j v hv => ?_) (by omega) h1 ?_
      · have := hc j v hv
        unfold Addr.add
        split
        · rename_i hj; subst hj; exact this
        · exact this
      · rw [hl]
        refine h _ ⟨?_, .inr ⟨g, cap, _, rfl, hbg, setRow_heap w g curA _ e _ hg, hnc, hcm, ?_, ?_⟩⟩ ⟨rfl, rfl, rfl, by simp [World.setRow], fun k _ hk => setRow_other w g k _ (fun e => hk (by rw [e]))⟩
        · have := hown.1
          simp only [List.length_append, List.length_drop]; omega
        · simp only [List.size_toArray, List.length_append, List.length_take, List.length_drop, Array.length_toList]; omega
        · rw [Nat.mul_one, ← htk]
          simp only [List.take_zero, List.nil_append, Nat.zero_add]
          rw [List.take_append, List.take_of_length_le (by omega), List.drop_take, hl]
end

end Go.Proofs.YtbcljgcilbfblaaDoor
