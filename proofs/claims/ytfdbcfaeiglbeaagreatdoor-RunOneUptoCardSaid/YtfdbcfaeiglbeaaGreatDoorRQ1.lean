/-
  Laid together by merge.py: Crc, Kit, Bytes, WireP, WireP2, WireP6, WireP7, WireP8, WireP9, CellP, CellP2, BlockP, BlockP2, BlockP3, BlockP4, BlockP5, BlockP6, BlockP9, BloomP, BloomP2, BloomP3a, BloomP3, BloomP4, BloomP5, BloomP6, RunP, RunP2, WireP10, RunP3, Kit2.
-/
import Derived.WalkKit
import Derived.WalkSpells
import Derived.WalkLawsBesides
import Derived.Deep.AppendLies
import Derived.Deep.Draws
import Derived.Maps.AppendAt
import Derived.Lib.Hide
import Derived.Deep.QuietTactic
import Derived.BigQuiet
import Derived.Laws.CopyOwn
import Derived.Laws.BitsAllLaws
import Derived.Maps.OwnSet
import Derived.Laws.IdiomStrings
namespace Go.Proofs.YtfdbcfaeiglbeaaGreatDoor
def rStep (c : Nat) : Nat := (c >>> 1) ^^^ (if c.testBit 0 then 2197175160 else 0)
def rIter : Nat → Nat → Nat
  | 0, c => c
  | n + 1, c => rIter n (rStep c)
theorem rIter_add (m n c : Nat) : rIter (m + n) c = rIter n (rIter m c) := by
  induction m generalizing c with
  | zero => rw [Nat.zero_add]; rfl
  | succ m ih => rw [Nat.succ_add]; exact ih _
theorem rStep_lt {c : Nat} (h : c < 4294967296) : rStep c < 4294967296 := by
  unfold rStep
  refine Nat.xor_lt_two_pow (n := 32) ?_ ?_
  · rw [Nat.shiftRight_eq_div_pow]; omega
  · split <;> omega
theorem rIter_lt (n : Nat) : ∀ {c : Nat}, c < 4294967296 → rIter n c < 4294967296 := by
  induction n with
  | zero => exact fun h => h
  | succ n ih => exact fun h => ih (rStep_lt h)
theorem rStep_xor (a b : Nat) : rStep (a ^^^ b) = rStep a ^^^ rStep b := by
  unfold rStep
  rw [Nat.shiftRight_xor_distrib, Nat.testBit_xor]
  cases a.testBit 0 <;> cases b.testBit 0 <;> simp
  · ac_rfl
  · ac_rfl
  · rw [show a >>> 1 ^^^ 2197175160 ^^^ (b >>> 1 ^^^ 2197175160) = a >>> 1 ^^^ b >>> 1 ^^^ (2197175160 ^^^ 2197175160) from by ac_rfl, Nat.xor_self, Nat.xor_zero]
theorem rIter_xor (n a b : Nat) : rIter n (a ^^^ b) = rIter n a ^^^ rIter n b := by
  induction n generalizing a b with
  | zero => rfl
  | succ n ih => show rIter n (rStep _) = _; rw [rStep_xor, ih]; rfl
end Go.Proofs.YtfdbcfaeiglbeaaGreatDoor
namespace Go.Proofs.YtfdbcfaeiglbeaaGreatDoor
open Go.RowKit
theorem ret_int {k : IntKind} {a b : Int} (h : a = b) : Ending.returned (.int k a) = .returned (.int k b) := by rw [h]
theorem ret_bool {a b : Bool} (h : a = b) : Ending.returned (.bool a) = .returned (.bool b) := by rw [h]
def Reads (w : World) (B size : Nat) (A : Option Addr) (n : Nat) (xs : List Value) : Prop :=
  xs.length = n * size ∧ (0 < n → ∃ b o, A = some ⟨b, o, none⟩ ∧ b < B ∧ ∀ j u, xs[j]? = some u → w.cell? ⟨b, o + j, none⟩ = some u)
section
variable {w w' : World} {B B' size n : Nat} {A : Option Addr} {xs : List Value}
theorem Reads.nil : Reads w B size A 0 [] := ⟨by simp, fun h => absurd h (by omega)⟩
theorem Reads.keep (h : Reads w B size A n xs) (hk : ∀ p : Addr, p.block < B → w'.cell? p = w.cell? p) : Reads w' B size A n xs :=
  ⟨h.1, fun hn => by
    obtain ⟨b, o, e, hb, hc⟩ := h.2 hn
    exact ⟨b, o, e, hb, fun j u hu => (hk _ hb).trans (hc j u hu)⟩⟩
theorem Reads.more (h : Reads w B size A n xs) (hB : B ≤ B') : Reads w B' size A n xs :=
  ⟨h.1, fun hn => by
    obtain ⟨b, o, e, hb, hc⟩ := h.2 hn
    exact ⟨b, o, e, by omega, hc⟩⟩
theorem Reads.below (h : Reads w B size A n xs) (hb : Below B w w') : Reads w' B size A n xs := h.keep fun _ hp => hb.cell hp
theorem Reads.alloc (h : Reads w B size A n xs) (hB : B ≤ w.heap.size) (o : Obj) : Reads (w.alloc o) B size A n xs := h.keep fun p hp => World.cell?_alloc_lt w o p (by omega)
theorem Reads.drew (h : Reads w B size A n xs) : Reads w.drew B size A n xs := h
theorem Reads.grown (h : Reads w B size A n xs) {row : Option Nat} (hg : w.grownBy w' row) (hB : B ≤ w.heap.size) (hr : ∀ g, row = some g → B ≤ g) : Reads w' B size A n xs :=
  h.keep fun p hp => World.cell?_of_block (hg.block p.block (by omega) (fun e => by have := hr _ e.symm; omega))
theorem Reads.take (h : Reads w B size A n xs) {m : Nat} (hm : m ≤ n) : Reads w B size A m (xs.take (m * size)) :=
  ⟨by rw [List.length_take, h.1, Nat.min_eq_left (Nat.mul_le_mul_right _ hm)], fun h0 => by
    obtain ⟨b, o, e, hb, hc⟩ := h.2 (by omega)
    exact ⟨b, o, e, hb, fun j u hu => hc j u (by rw [List.getElem?_take] at hu; split at hu <;> simp_all)⟩⟩
theorem Reads.new (w : World) (c : Array Value) (t : TypeId) (size n : Nat) (h : c.size = n * size) : Reads (w.alloc (.cells c t)) (w.heap.size + 1) size (some ⟨w.heap.size, 0, none⟩) n c.toList :=
  ⟨by simpa using h, fun _ => ⟨w.heap.size, 0, rfl, by omega, fun j u hu => by simpa using hu⟩⟩
theorem Reads.own {base : Nat} {e : TypeId} {c : Nat} (h : w.ownsRow base e size (.slice A n c) n xs) : Reads w w.heap.size size A n xs := by
  refine ⟨h.1, fun hn => ?_⟩
  rcases h.2 with ⟨hv, h0⟩ | ⟨g, cap, cur, hv, hb, hg, _⟩
  · omega
  · have hA : A = some ⟨g, 0, none⟩ := by injection hv
    subst hA
    refine ⟨g, 0, rfl, (Array.getElem?_eq_some_iff.1 hg).1, fun j u hu => ?_⟩
    have := h.cells (g := g) rfl j u hu
    rw [Nat.zero_add]
    unfold Addr.add at this
    split at this
    · rename_i h0; subst h0; exact this
    · simpa using this
end
structure SliceOf (P : Program) (t e : TypeId) (size bytes : Nat) : Prop where
  slice : P.underlying t = some (.slice e)
  info : ∃ i z, P.info? e = some i ∧ i.zero = some z ∧ i.size = size ∧ i.bytes = bytes ∧ z.cells.size = size
  pos : 0 < size
theorem SliceOf.mk' {P : Program} {t e : TypeId} {size bytes : Nat} {z : Value} (h : P.underlying t = some (.slice e)) (hi : (P.info? e).map (fun i => (i.zero, i.size, i.bytes)) = some (some z, size, bytes)) (hz : z.cells.size = size) (hp : 0 < size) : SliceOf P t e size bytes := by
  obtain ⟨i, h1, h2, h3, h4⟩ := info_parts hi
  exact ⟨h, ⟨i, z, h1, h2, h3, h4, hz⟩, hp⟩
section
variable {P : Program} (w : World)
theorem run_append_of_nil (base : Nat) (t ty e : TypeId) (i : TypeInfo) (size : Nat) (ht : P.underlying t = some (.slice e)) (hi : P.info? e = some i)
    (v : Value) (n : Nat) (xs : List Value) (hown : w.ownsRow base e size v n xs) (c : Nat) : (Builtin.append_ #[t, t] ty #[v, .slice none 0 c]).run P w = .ok v w := by
  rcases hown.2 with ⟨rfl, rfl⟩ | ⟨g, cap, cur, rfl, _, _, hnc, _⟩
  · simp [Builtin.append_, run_underlying ht, sizeOf, typeInfo, hi, Builtin.lenOf, Builtin.firstCells]
  · simp [Builtin.append_, run_underlying ht, sizeOf, typeInfo, hi, Builtin.lenOf, Builtin.firstCells, hnc, storeCells]
theorem run_append_reads {t ty e : TypeId} {size bytes : Nat} (hs : SliceOf P t e size bytes) (base : Nat) (v : Value) (n : Nat) (xs : List Value) (hown : w.ownsRow base e size v n xs)
    (B : Nat) (A : Option Addr) (m c : Nat) (news : List Value) (hr : Reads w B size A m news) (h1 : ∀ u ∈ news, u.oneCell' = true)
    (h63 : n + m ≤ maxLen) (hbytes : (n + m) * bytes ≤ 140737488355328) (hbase : base ≤ w.heap.size) :
    ∃ v' w', (Builtin.append_ #[t, t] ty #[v, .slice A m c]).run P w = .ok v' w' ∧ w'.ownsRow base e size v' (n + m) (xs ++ news) ∧ w.grownBy w' v.ownBlock ∧
      (v'.ownBlock = v.ownBlock ∨ v'.ownBlock = some w.heap.size) := by
  obtain ⟨ht, ⟨i, z, hi, hz, hsize, hby, hzs⟩, hsz⟩ := hs
  rcases A with _ | ad
  · have hm : m = 0 := by
      rcases Nat.eq_zero_or_pos m with h0 | h0
      · exact h0
      · obtain ⟨b, o, h, _⟩ := hr.2 h0
        cases h
    subst hm
    have hn : news = [] := List.eq_nil_of_length_eq_zero (by simpa using hr.1)
    subst hn
    exact ⟨v, w, run_append_of_nil w base t ty e i size ht hi v n xs hown c, by simpa using hown, World.grownBy.refl w _, .inl rfl⟩
  · have hcells : ∀ j u, news[j]? = some u → w.cell? (ad.add j) = some u := by
      intro j u hu
      rcases Nat.eq_zero_or_pos m with h0 | h0
      · subst h0
        have hn : news = [] := List.eq_nil_of_length_eq_zero (by simpa using hr.1)
        subst hn
        simp at hu
      · obtain ⟨b, o, h, _, hc⟩ := hr.2 h0
        injection h with h
        subst h
        have := hc j u hu
        unfold Addr.add
        split
        · rename_i h0; subst h0; exact this
        · exact this
    obtain ⟨v', w', hrun, h2, h3, _, h5⟩ := run_append_own_at (P := P) w base t ty e i z size bytes ht hi hz hsize hby hzs hsz v n xs hown ad m c news hr.1 hcells h1 h63 hbytes hbase
    exact ⟨v', w', hrun, h2, h3, h5⟩
theorem wp_append_reads {o : Oper} {a : Act} {K : Act → World → Prop} {Q : Exit → Act → World → Prop} (s x : Operand) {t e : TypeId} {size bytes : Nat}
    (ho : o.op = .call { callee := .builtin .append, args := #[s, x], argTypes := #[t, t] }) (hS : SliceOf P t e size bytes)
    (base : Nat) (v : Value) (n : Nat) (xs : List Value) (hs : a.eval s = v) (hown : w.ownsRow base e size v n xs)
    (B : Nat) (A : Option Addr) (m c : Nat) (news : List Value) (hx : a.eval x = .slice A m c) (hr : Reads w B size A m news) (h1 : ∀ u ∈ news, u.oneCell' = true)
    (h63 : n + m ≤ maxLen) (hbytes : (n + m) * bytes ≤ 140737488355328) (hbase : base ≤ w.heap.size)
    (h : ∀ v' w', w'.ownsRow base e size v' (n + m) (xs ++ news) → w.grownBy w' v.ownBlock → (v'.ownBlock = v.ownBlock ∨ v'.ownBlock = some w.heap.size) → K (a.put o.dst v') w') : o.wp P a w K Q := by
  obtain ⟨v', w', hrun, h2, h3, h4⟩ := run_append_reads (P := P) w (ty := o.type) hS base v n xs hown B A m c news hr h1 h63 hbytes hbase
  unfold Oper.wp execOp
  simp only [ho, resolve, invoke, builtin, Sem.run_bind, Sem.run_pure, Result.andThen_ok, List.map_toArray, List.map_cons, List.map_nil, hs, hx, hrun]
  exact h v' w' h2 h3 h4
theorem wpList_append_reads {ops : Array Oper} {rest : List Oper} {o : Oper} {a : Act} {Q : Exit → Act → World → Prop} (hgd : o.guard = none) (s x : Operand) {t e : TypeId} {size bytes : Nat}
    (ho : o.op = .call { callee := .builtin .append, args := #[s, x], argTypes := #[t, t] }) (hS : SliceOf P t e size bytes)
    (base : Nat) (v : Value) (n : Nat) (xs : List Value) (hs : a.eval s = v) (hown : w.ownsRow base e size v n xs)
    (B : Nat) (A : Option Addr) (m c : Nat) (news : List Value) (hx : a.eval x = .slice A m c) (hr : Reads w B size A m news) (h1 : ∀ u ∈ news, u.oneCell' = true)
    (h63 : n + m ≤ maxLen) (hbytes : (n + m) * bytes ≤ 140737488355328) (hbase : base ≤ w.heap.size)
    (h : ∀ v' w', w'.ownsRow base e size v' (n + m) (xs ++ news) → w.grownBy w' v.ownBlock → (v'.ownBlock = v.ownBlock ∨ v'.ownBlock = some w.heap.size) → wpList P ops Q rest (a.put o.dst v') w') : wpList P ops Q (o :: rest) a w :=
  wpList_plain hgd fun _ hK => wp_append_reads w s x ho hS base v n xs hs hown B A m c news hx hr h1 h63 hbytes hbase fun v' w' h2 h3 h4 => hK _ _ (h v' w' h2 h3 h4)
end
theorem own_form {w : World} {base e size n : Nat} {v : Value} {xs : List Value} (h : w.ownsRow base e size v n xs) (hn : 0 < n) :
    ∃ g cap, v = .slice (some ⟨g, 0, none⟩) n cap ∧ base ≤ g ∧ g < w.heap.size ∧ n ≤ cap ∧ cap ≤ maxLen := by
  rcases h.2 with ⟨_, h0⟩ | ⟨g, cap, cur, hv, hb, hg, hc, hm, _⟩
  · omega
  · exact ⟨g, cap, hv, hb, (Array.getElem?_eq_some_iff.1 hg).1, hc, hm⟩
theorem below_app {B : Nat} {a w w' : World} {v : Value} {e size n base : Nat} {xs : List Value} (h : Below B a w) (hown : w.ownsRow base e size v n xs) (hg : w.grownBy w' v.ownBlock) (hB : B ≤ w.heap.size) (hb : B ≤ base) : Below B a w' :=
  h.grown hg hB fun k hk => Nat.le_trans hb (hown.lt k hk).1
theorem grown_trans {a b c : World} {r : Option Nat} (h : a.grownBy b r) (k : b.grownBy c r) : a.grownBy c r :=
  ⟨k.os.trans h.os, k.tape.trans h.tape, k.output.trans h.output, Nat.le_trans h.size k.size, fun i hi hr => (k.block i (Nat.lt_of_lt_of_le hi h.size) hr).trans (h.block i hi hr)⟩
theorem below_grown {a b : World} (h : Below a.heap.size a b) (r : Option Nat) : a.grownBy b r := ⟨h.os, h.tape, h.output, h.size, fun i hi _ => h.block i hi⟩
theorem own_below {w w' : World} {base e size n : Nat} {v : Value} {xs : List Value} (h : w.ownsRow base e size v n xs) (hb : Below w.heap.size w w') : w'.ownsRow base e size v n xs := by
  refine h.kept (below_grown hb none) ?_
  cases hv : v.ownBlock <;> simp
structure Later (W : World) where
  w : World
  h : Below W.heap.size W w
def Later.now (W : World) : Later W := ⟨W, Below.refl _ _⟩
instance (W : World) : Nonempty (Later W) := ⟨Later.now W⟩
def Later.then {W : World} (L : Later W) {w' : World} (h : Below L.w.heap.size L.w w') : Later W := ⟨w', L.h.trans (h.mono L.h.size)⟩
theorem Later.cell {W : World} (L : Later W) {p : Addr} (v : Value) (h : W.cell? p = some v) : L.w.cell? p = some v :=
  (L.h.cell (World.block_lt_of_cell? W p h)).trans h
theorem cell_alloc_old {w : World} {p : Addr} {v : Value} {o : Obj} (h : w.cell? p = some v) : (w.alloc o).cell? p = some v :=
  (World.cell?_alloc_lt w o p (World.block_lt_of_cell? w p h)).trans h
theorem cell_below {w w' : World} {p : Addr} {v : Value} (hb : Below w.heap.size w w') (h : w.cell? p = some v) : w'.cell? p = some v :=
  (hb.cell (World.block_lt_of_cell? w p h)).trans h
theorem bcells {W w1 : World} (hb : Below W.heap.size W w1) : (∀ b o, b < W.heap.size → w1.cell? ⟨b, o, none⟩ = W.cell? ⟨b, o, none⟩) ∧ (∀ b o, b < W.heap.size → w1.frozen? ⟨b, o, none⟩ = W.frozen? ⟨b, o, none⟩) ∧ (∀ b, b < W.heap.size → b < w1.heap.size) :=
  ⟨fun b o h => hb.cell (p := ⟨b, o, none⟩) h, fun b o h => hb.frozen (p := ⟨b, o, none⟩) h, fun _ h => Nat.lt_of_lt_of_le h hb.size⟩
section
variable {P : Program}
end
def u8v (c : UInt8) : Value := .int .u8 (c.toNat : Int)
def u8s (l : List UInt8) : List Value := l.map u8v
theorem u8s_length (l : List UInt8) : (u8s l).length = l.length := by simp [u8s]
theorem u8s_append (a b : List UInt8) : u8s (a ++ b) = u8s a ++ u8s b := by simp [u8s]
theorem u8s_one (l : List UInt8) : ∀ u ∈ u8s l, u.oneCell' = true := by
  intro u hu
  obtain ⟨c, _, rfl⟩ := List.mem_map.1 hu
  rfl
theorem u8s_at {l : List UInt8} {k : Nat} {c : UInt8} (h : l[k]? = some c) : (u8s l)[k]? = some (.int .u8 (c.toNat : Int)) := by
  simp [u8s, h, u8v]
def RB (w : World) (B : Nat) (A : Option Addr) (n : Nat) (l : List UInt8) : Prop := Reads w B 1 A n (u8s l)
section
variable {w w' : World} {B B' n : Nat} {A : Option Addr} {l : List UInt8}
theorem RB.len (h : RB w B A n l) : l.length = n := by have := h.1; rw [u8s_length, Nat.mul_one] at this; exact this
theorem RB.mk' (hn : l.length = n) (h : 0 < n → ∃ b o, A = some ⟨b, o, none⟩ ∧ b < B ∧ ∀ j c, l[j]? = some c → w.cell? ⟨b, o + j, none⟩ = some (.int .u8 (c.toNat : Int))) : RB w B A n l :=
  ⟨by rw [u8s_length, Nat.mul_one]; exact hn, fun h0 => by
    obtain ⟨b, o, e, hb, hc⟩ := h h0
    refine ⟨b, o, e, hb, fun j u hu => ?_⟩
    simp only [u8s, List.getElem?_map, Option.map_eq_some_iff] at hu
    obtain ⟨c, hj, rfl⟩ := hu
    exact hc j c hj⟩
theorem RB.nil : RB w B A 0 [] := Reads.nil
theorem RB.at_ (h : RB w B A n l) {k : Nat} (hk : k < n) : ∃ b o c, A = some ⟨b, o, none⟩ ∧ b < B ∧ l[k]? = some c ∧ w.cell? ⟨b, o + k, none⟩ = some (.int .u8 (c.toNat : Int)) := by
  obtain ⟨b, o, e, hb, hc⟩ := h.2 (by omega)
  have hl := h.len
  have hk' : l[k]? = some (l[k]'(by omega)) := List.getElem?_eq_getElem (by omega)
  exact ⟨b, o, _, e, hb, hk', hc k _ (u8s_at hk')⟩
theorem RB.cell {b o : Nat} (h : RB w B (some ⟨b, o, none⟩) n l) {k : Nat} {c : UInt8} (hc : l[k]? = some c) : w.cell? ⟨b, o + k, none⟩ = some (.int .u8 (c.toNat : Int)) := by
  have hk : k < l.length := (List.getElem?_eq_some_iff.1 hc).1
  obtain ⟨b', o', e, _, h'⟩ := h.2 (by have := h.len; omega)
  injection e with e; injection e with e1 e2
  subst e1; subst e2
  exact h' k _ (u8s_at hc)
theorem RB.more (h : RB w B A n l) (hB : B ≤ B') : RB w B' A n l := Reads.more h hB
theorem RB.below (h : RB w B A n l) (hb : Below B w w') : RB w' B A n l := Reads.below h hb
theorem RB.later (h : RB w w.heap.size A n l) (hb : Below w.heap.size w w') : RB w' w'.heap.size A n l := (h.below hb).more hb.size
theorem RB.own {base : Nat} {e : TypeId} {c : Nat} (h : w.ownsRow base e 1 (.slice A n c) n (u8s l)) : RB w w.heap.size A n l := Reads.own h
theorem RB.take (h : RB w B A n l) {m : Nat} (hm : m ≤ n) : RB w B A m (l.take m) := by
  have := Reads.take h hm
  rwa [Nat.mul_one, show (u8s l).take m = u8s (l.take m) from by simp [u8s]] at this
theorem RB.drop (h : RB w B A n l) {k cap : Nat} (hk : k ≤ n) (hc : n ≤ cap) : RB w B (if cap = k then A else A.map (·.add k)) (n - k) (l.drop k) := by
  refine RB.mk' (by rw [List.length_drop, h.len]) fun hn => ?_
  obtain ⟨b, o, rfl, hb, hcell⟩ := h.2 (by omega)
  rw [if_neg (by omega)]
  refine ⟨b, o + k, ?_, hb, fun j c hj => ?_⟩
  · simp only [Option.map_some]
    unfold Addr.add
    split
    · rename_i h0; subst h0; rfl
    · rfl
  · rw [Nat.add_assoc]
    rw [List.getElem?_drop] at hj
    exact hcell _ _ (u8s_at hj)
end
theorem take_snoc {α : Type} {l : List α} {k : Nat} {c : α} (h : l[k]? = some c) : l.take (k + 1) = l.take k ++ [c] := by
  obtain ⟨hk, e⟩ := List.getElem?_eq_some_iff.1 h
  rw [List.take_succ_eq_append_getElem hk, e]
theorem take_all {α : Type} {l : List α} {k : Nat} (h : l.length ≤ k) : l.take k = l := List.take_of_length_le h
def RBs (w : World) (B : Nat) (A : Option Addr) (n : Nat) (ks : List (List UInt8)) : Prop :=
  ∃ vs : List Value, Reads w B 1 A n vs ∧ vs.length = ks.length ∧ ∀ (i : Nat) (k : List UInt8), ks[i]? = some k → ∃ (a : Option Addr) (c : Nat), vs[i]? = some (.slice a k.length c) ∧ k.length ≤ c ∧ c ≤ 9223372036854775807 ∧ (a = none → c = 0) ∧ RB w B a k.length k
section
variable {w w' : World} {B B' n : Nat} {A : Option Addr} {ks : List (List UInt8)}
theorem RBs.len (h : RBs w B A n ks) : ks.length = n := by obtain ⟨vs, h1, h2, _⟩ := h; have := h1.1; omega
theorem RBs.below (h : RBs w B A n ks) (hb : Below B w w') : RBs w' B A n ks := by
  obtain ⟨vs, h1, h2, h3⟩ := h
  exact ⟨vs, h1.below hb, h2, fun i k hk => by obtain ⟨a, c, q1, q2, q3, q4, q5⟩ := h3 i k hk; exact ⟨a, c, q1, q2, q3, q4, q5.below hb⟩⟩
theorem RBs.more (h : RBs w B A n ks) (hB : B ≤ B') : RBs w B' A n ks := by
  obtain ⟨vs, h1, h2, h3⟩ := h
  exact ⟨vs, h1.more hB, h2, fun i k hk => by obtain ⟨a, c, q1, q2, q3, q4, q5⟩ := h3 i k hk; exact ⟨a, c, q1, q2, q3, q4, q5.more hB⟩⟩
theorem RBs.later (h : RBs w w.heap.size A n ks) (hb : Below w.heap.size w w') : RBs w' w'.heap.size A n ks := (h.below hb).more hb.size
theorem RBs.at_ (h : RBs w B A n ks) {i : Nat} (hi : i < n) : ∃ b o k a c, A = some ⟨b, o, none⟩ ∧ b < B ∧ ks[i]? = some k ∧ w.cell? ⟨b, o + i, none⟩ = some (.slice a k.length c) ∧ k.length ≤ c ∧ c ≤ 9223372036854775807 ∧ (a = none → c = 0) ∧ RB w B a k.length k := by
  have hl := h.len
  obtain ⟨vs, h1, h2, h3⟩ := h
  obtain ⟨b, o, e, hb, hc⟩ := h1.2 (by omega)
  have hk : ks[i]? = some (ks[i]'(by omega)) := List.getElem?_eq_getElem (by omega)
  obtain ⟨a, c, q1, q2, q3, q4, q5⟩ := h3 i _ hk
  exact ⟨b, o, _, a, c, e, hb, hk, hc i _ q1, q2, q3, q4, q5⟩
end
def tabL : List Nat := [0, 274646895, 549293790, 820201905, 1098587580, 1361435347, 1640403810, 1905808397, 2197175160, 2460548119, 2722870694, 2987750089, 3280807620, 3553878443, 3811616794, 4084100981]
def tabN (i : Nat) : Nat := tabL[i]?.getD 0
theorem tab_iter : ∀ i : Fin 16, rIter 4 i.val = tabN i.val := by decide +kernel
theorem tabN_lt : ∀ i : Fin 16, tabN i.val < 4294967296 := by decide +kernel
theorem rStep_even (c : Nat) : rStep (2 * c) = c := by
  unfold rStep
  have : (2 * c).testBit 0 = false := by simp [Nat.testBit_zero]
  rw [this, Nat.shiftRight_eq_div_pow]; simp
theorem rIter_four (c : Nat) : rIter 4 c = (c / 16) ^^^ tabN (c % 16) := by
  have e : c = (16 * (c / 16)) ^^^ (c % 16) := by
    have h := Nat.shiftLeft_add_eq_or_of_lt (a := c / 16) (b := c % 16) (i := 4) (by omega)
    apply Nat.eq_of_testBit_eq
    intro j
    rw [Nat.testBit_xor, show 16 * (c / 16) = (c / 16) <<< 4 from by rw [Nat.shiftLeft_eq]; omega, Nat.testBit_shiftLeft, show (16 : Nat) = 2 ^ 4 from rfl, Nat.testBit_mod_two_pow, Nat.testBit_div_two_pow]
    by_cases hj : 4 ≤ j
    · have : ¬ j < 4 := by omega
      simp [hj, this]
    · have : j < 4 := by omega
      simp [hj, this]
  have e2 : rIter 4 (16 * (c / 16)) = c / 16 := by
    show rStep (rStep (rStep (rStep _))) = _
    rw [show 16 * (c / 16) = 2 * (2 * (2 * (2 * (c / 16)))) from by omega, rStep_even, rStep_even, rStep_even, rStep_even]
  have e3 : rIter 4 (c % 16) = tabN (c % 16) := tab_iter ⟨c % 16, by omega⟩
  calc rIter 4 c = rIter 4 ((16 * (c / 16)) ^^^ (c % 16)) := by rw [← e]
    _ = _ := by rw [rIter_xor, e2, e3]
def crcB (c : Nat) (b : UInt8) : Nat := rIter 8 (c ^^^ b.toNat)
def crcL (c : Nat) (l : List UInt8) : Nat := l.foldl crcB c
theorem crcL_snoc (c : Nat) (l : List UInt8) (b : UInt8) : crcL c (l ++ [b]) = crcB (crcL c l) b := by simp [crcL, List.foldl_append]
theorem crcL_app (c : Nat) (l m : List UInt8) : crcL c (l ++ m) = crcL (crcL c l) m := by simp [crcL, List.foldl_append]
theorem crcB_lt {c : Nat} (h : c < 4294967296) (b : UInt8) : crcB c b < 4294967296 :=
  rIter_lt 8 (Nat.xor_lt_two_pow (n := 32) h (by have := b.toNat_lt; omega))
def sumL (l : List UInt8) : Nat := 4294967295 - crcL 4294967295 l
theorem sumL_lt (l : List UInt8) : sumL l < 4294967296 := by unfold sumL; omega
def nib1 (c : Nat) (b : UInt8) : Nat := (c ^^^ b.toNat) % 16
def mid (c : Nat) (b : UInt8) : Nat := (c / 16) ^^^ tabN (nib1 c b)
def nib2 (c : Nat) (b : UInt8) : Nat := (mid c b ^^^ b.toNat / 16) % 16
theorem nib1_lt (c : Nat) (b : UInt8) : nib1 c b < 16 := Nat.mod_lt _ (by decide)
theorem nib2_lt (c : Nat) (b : UInt8) : nib2 c b < 16 := Nat.mod_lt _ (by decide)
theorem mid_lt {c : Nat} (h : c < 4294967296) (b : UInt8) : mid c b < 4294967296 :=
  Nat.xor_lt_two_pow (n := 32) (by omega) (tabN_lt ⟨_, nib1_lt c b⟩)
theorem xor_mod16 (a b : Nat) : (a ^^^ b) % 16 = (a % 16) ^^^ (b % 16) := by
  rw [show (16 : Nat) = 2 ^ 4 from rfl]
  apply Nat.eq_of_testBit_eq
  intro j
  simp only [Nat.testBit_mod_two_pow, Nat.testBit_xor]
  cases decide (j < 4) <;> simp
theorem xor_div16 (a b : Nat) : (a ^^^ b) / 16 = (a / 16) ^^^ (b / 16) := by
  rw [show (16 : Nat) = 2 ^ 4 from rfl]
  apply Nat.eq_of_testBit_eq
  intro j
  simp only [Nat.testBit_div_two_pow, Nat.testBit_xor]
theorem crcB_mid (c : Nat) (b : UInt8) : crcB c b = (mid c b / 16) ^^^ tabN (nib2 c b) := by
  have hb := b.toNat_lt
  have e1 : rIter 4 (c ^^^ b.toNat) = mid c b ^^^ b.toNat / 16 := by
    rw [rIter_four, xor_div16]
    unfold mid nib1
    ac_rfl
  have : crcB c b = rIter 4 (rIter 4 (c ^^^ b.toNat)) := rIter_add 4 4 _
  rw [this, e1, rIter_four, xor_div16, show b.toNat / 16 / 16 = 0 from by omega, Nat.xor_zero]
  rfl
theorem and15_walk (a : Nat) (h : a < 256) : bits .and .u8 (a : Int) 15 = ((a % 16 : Nat) : Int) := by
  rw [show (15 : Int) = ((15 : Nat) : Int) from rfl, u8_and_nat _ _ h (by omega), show (15 : Nat) = 2 ^ 4 - 1 from rfl, Nat.and_two_pow_sub_one_eq_mod]
theorem nib1_walk (c : Nat) (b : UInt8) : bits .and .u8 (bits .xor .u8 ((c : Int) % 256) (b.toNat : Int)) 15 = ((nib1 c b : Nat) : Int) := by
  have hb := b.toNat_lt
  have e : (c : Int) % 256 = ((c % 256 : Nat) : Int) := by omega
  have hx : (c % 256) ^^^ b.toNat < 256 := Nat.xor_lt_two_pow (n := 8) (by omega) (by omega)
  rw [e, u8_xor_nat _ _ (by omega) (by omega), and15_walk _ hx]
  unfold nib1
  rw [xor_mod16, xor_mod16 c, show c % 256 % 16 = c % 16 from by omega]
theorem nib2_walk (c : Nat) (b : UInt8) : bits .and .u8 (bits .xor .u8 ((mid c b : Int) % 256) ((b.toNat : Int) / 16)) 15 = ((nib2 c b : Nat) : Int) := by
  have hb := b.toNat_lt
  have e : (mid c b : Int) % 256 = ((mid c b % 256 : Nat) : Int) := by omega
  have e2 : (b.toNat : Int) / 16 = ((b.toNat / 16 : Nat) : Int) := by omega
  have hx : (mid c b % 256) ^^^ (b.toNat / 16) < 256 := Nat.xor_lt_two_pow (n := 8) (by omega) (by omega)
  rw [e, e2, u8_xor_nat _ _ (by omega) (by omega), and15_walk _ hx]
  unfold nib2
  rw [xor_mod16, xor_mod16 (mid c b), show mid c b % 256 % 16 = mid c b % 16 from by omega]
theorem mid_walk (c : Nat) (b : UInt8) (h : c < 4294967296) : bits .xor .u32 ((c : Int) / 16) ((tabN (nib1 c b) : Nat) : Int) = ((mid c b : Nat) : Int) := by
  rw [show (c : Int) / 16 = ((c / 16 : Nat) : Int) from by omega, u32_xor_nat _ _ (by omega) (tabN_lt ⟨_, nib1_lt c b⟩)]; rfl
theorem crcB_walk (c : Nat) (b : UInt8) (h : c < 4294967296) : bits .xor .u32 ((mid c b : Int) / 16) ((tabN (nib2 c b) : Nat) : Int) = ((crcB c b : Nat) : Int) := by
  have := mid_lt h b
  rw [show (mid c b : Int) / 16 = ((mid c b / 16 : Nat) : Int) from by omega, u32_xor_nat _ _ (by omega) (tabN_lt ⟨_, nib2_lt c b⟩), crcB_mid]
theorem not_u32 {C : Nat} (h : C < 4294967296) : bits .xor .u32 IntKind.u32.max (C : Int) = ((4294967295 - C : Nat) : Int) := by
  show bits .xor .u32 ((4294967295 : Nat) : Int) (C : Int) = _
  rw [u32_xor_nat _ _ (by omega) h]
  congr 1
  apply Nat.eq_of_testBit_eq
  intro j
  have h1 := Nat.testBit_two_pow_sub_succ (x := 0) (n := 32) (by omega) j
  have h2 := Nat.testBit_two_pow_sub_succ (x := C) (n := 32) (by omega) j
  rw [show (2 : Nat) ^ 32 - (0 + 1) = 4294967295 from rfl] at h1
  rw [show (2 : Nat) ^ 32 - (C + 1) = 4294967295 - C from by omega] at h2
  rw [Nat.testBit_xor, h1, h2]
  by_cases hj : j < 32
  · simp [hj]
  · have : C.testBit j = false := Nat.testBit_lt_two_pow (Nat.lt_of_lt_of_le h (by
      have : 2 ^ 32 ≤ 2 ^ j := Nat.pow_le_pow_right (by decide) (by omega)
      simpa using this))
    simp [hj, this]
def lowB (s : Nat) : List UInt8 := [UInt8.ofNat s, UInt8.ofNat (s / 256), UInt8.ofNat (s / 65536), UInt8.ofNat (s / 16777216)]
theorem u8v_mod (s : Nat) : u8v (UInt8.ofNat s) = .int .u8 ((s : Int) % 256) := by
  unfold u8v
  rw [UInt8.toNat_ofNat', Int.natCast_emod]; rfl
def TabAt (b : Nat) (w : World) : Prop := b < w.heap.size ∧ ∀ i, i < 16 → w.cell? ⟨b, i, none⟩ = some (.int .u32 (tabN i))
theorem TabAt.later {b : Nat} {w w' : World} (h : TabAt b w) (hb : Below w.heap.size w w') : TabAt b w' :=
  ⟨Nat.lt_of_lt_of_le h.1 hb.size, fun i hi => (hb.cell (p := ⟨b, i, none⟩) h.1).trans (h.2 i hi)⟩
theorem TabAt.below {b B : Nat} {w w' : World} (h : TabAt b w) (hB : b < B) (hb : Below B w w') : TabAt b w' :=
  ⟨Nat.lt_of_lt_of_le h.1 hb.size, fun i hi => (hb.cell (p := ⟨b, i, none⟩) hB).trans (h.2 i hi)⟩
def be4 (n : Nat) : List UInt8 := [UInt8.ofNat (n / 16777216), UInt8.ofNat (n / 65536), UInt8.ofNat (n / 256), UInt8.ofNat n]
def headF (n : Nat) : List UInt8 := be4 n ++ lowB (sumL (be4 n))
def frameB (l : List UInt8) : List UInt8 := headF l.length ++ l ++ lowB (sumL l)
theorem frameB_length (l : List UInt8) : (frameB l).length = l.length + 12 := by
  simp [frameB, headF, be4, lowB]
def frameE (l : List UInt8) : Int := if l.length ≤ 1048576 then 0 else 2
def frameR (l : List UInt8) : List UInt8 := if l.length ≤ 1048576 then frameB l else []
theorem i64_or_nat (a b : Nat) (ha : a < 9223372036854775808) (hb : b < 9223372036854775808) : bits .or .i64 (a : Int) (b : Int) = ((a ||| b : Nat) : Int) := by
  have hx : a ||| b < 2 ^ 63 := Nat.or_lt_two_pow (by omega) (by omega)
  show IntKind.i64.wrap ((BitVec.ofInt 64 (a : Int) ||| BitVec.ofInt 64 (b : Int)).toNat : Int) = _
  rw [BitVec.toNat_or, ofInt_u64 a (by omega), ofInt_u64 b (by omega), IntKind.wrap_i64]
  omega
def numB (x2 x3 x4 x5 : UInt8) : Nat := ((x2.toNat * 256 + x3.toNat) * 256 + x4.toNat) * 256 + x5.toNat
theorem numB_lt (x2 x3 x4 x5 : UInt8) : numB x2 x3 x4 x5 < 4294967296 := by
  have := x2.toNat_lt; have := x3.toNat_lt; have := x4.toNat_lt; have := x5.toNat_lt
  unfold numB; omega
theorem shl_or4 (a b k : Nat) (h : b < 2 ^ k) : (a * 2 ^ k) ||| b = a * 2 ^ k + b := by
  rw [← Nat.shiftLeft_eq, Nat.shiftLeft_add_eq_or_of_lt h]
theorem numB_or (x2 x3 x4 x5 : UInt8) : ((x2.toNat * 16777216 ||| x3.toNat * 65536) ||| x4.toNat * 256) ||| x5.toNat = numB x2 x3 x4 x5 := by
  have h2 := x2.toNat_lt; have h3 := x3.toNat_lt; have h4 := x4.toNat_lt; have h5 := x5.toNat_lt
  unfold numB
  have e1 : x2.toNat * 16777216 ||| x3.toNat * 65536 = (x2.toNat * 256 + x3.toNat) * 65536 := by
    have := shl_or4 x2.toNat (x3.toNat * 65536) 24 (by omega)
    rw [show (2 : Nat) ^ 24 = 16777216 from rfl] at this
    rw [this]; omega
  have e2 : (x2.toNat * 256 + x3.toNat) * 65536 ||| x4.toNat * 256 = ((x2.toNat * 256 + x3.toNat) * 256 + x4.toNat) * 256 := by
    have := shl_or4 (x2.toNat * 256 + x3.toNat) (x4.toNat * 256) 16 (by omega)
    rw [show (2 : Nat) ^ 16 = 65536 from rfl] at this
    rw [this]; omega
  have e3 := shl_or4 ((x2.toNat * 256 + x3.toNat) * 256 + x4.toNat) x5.toNat 8 (by omega)
  rw [show (2 : Nat) ^ 8 = 256 from rfl] at e3
  rw [e1, e2, e3]
theorem numB_bits (x2 x3 x4 x5 : UInt8) : bits .or .i64 (bits .or .i64 (bits .or .i64 ((x2.toNat : Int) * 16777216) ((x3.toNat : Int) * 65536)) ((x4.toNat : Int) * 256)) (x5.toNat : Int) = ((numB x2 x3 x4 x5 : Nat) : Int) := by
  have h2 := x2.toNat_lt; have h3 := x3.toNat_lt; have h4 := x4.toNat_lt; have h5 := x5.toNat_lt
  rw [show (x2.toNat : Int) * 16777216 = ((x2.toNat * 16777216 : Nat) : Int) from by omega, show (x3.toNat : Int) * 65536 = ((x3.toNat * 65536 : Nat) : Int) from by omega, show (x4.toNat : Int) * 256 = ((x4.toNat * 256 : Nat) : Int) from by omega]
  have l1 := Nat.or_lt_two_pow (n := 32) (x := x2.toNat * 16777216) (y := x3.toNat * 65536) (by omega) (by omega)
  have l2 := Nat.or_lt_two_pow (n := 32) (x := x2.toNat * 16777216 ||| x3.toNat * 65536) (y := x4.toNat * 256) l1 (by omega)
  rw [i64_or_nat _ _ (by omega) (by omega), i64_or_nat _ _ (by omega) (by omega), i64_or_nat _ _ (by omega) (by omega), numB_or]
theorem wrap64_id {x : Int} (h1 : -9223372036854775808 ≤ x) (h2 : x < 9223372036854775808) : wrap64 x = x := by unfold wrap64; omega
theorem numB_walk (x2 x3 x4 x5 : UInt8) : bits .or .i64 (bits .or .i64 (bits .or .i64 (wrap64 (wrap64 (x2.toNat : Int) * 16777216)) (wrap64 (wrap64 (x3.toNat : Int) * 65536))) (wrap64 (wrap64 (x4.toNat : Int) * 256))) (wrap64 (x5.toNat : Int)) = ((numB x2 x3 x4 x5 : Nat) : Int) := by
  have h2 := x2.toNat_lt; have h3 := x3.toNat_lt; have h4 := x4.toNat_lt; have h5 := x5.toNat_lt
  rw [wrap64_id (x := (x2.toNat : Int)) (by omega) (by omega), wrap64_id (x := (x3.toNat : Int)) (by omega) (by omega), wrap64_id (x := (x4.toNat : Int)) (by omega) (by omega), wrap64_id (x := (x5.toNat : Int)) (by omega) (by omega),
    wrap64_id (by omega) (by omega), wrap64_id (by omega) (by omega), wrap64_id (by omega) (by omega), numB_bits]
def isB (l : List UInt8) (k s : Nat) : Bool := (l.drop k).take 4 == lowB s
def numF (l : List UInt8) (k : Nat) : Nat := numB (l[k]?.getD 0) (l[k + 1]?.getD 0) (l[k + 2]?.getD 0) (l[k + 3]?.getD 0)
theorem numF_lt (l : List UInt8) (k : Nat) : numF l k < 4294967296 := numB_lt _ _ _ _
def cutF (l : List UInt8) (k m : Nat) : List UInt8 := (l.drop k).take m
def readF (l : List UInt8) (k : Nat) : List UInt8 × Nat × Nat :=
  if l.length < k + 8 then ([], 0, 10)
  else if isB l (k + 4) (sumL (cutF l k 4)) = false then ([], 0, 12)
  else if 1048576 < numF l k then ([], 0, 13)
  else if l.length < k + 8 + numF l k + 4 then ([], 0, 10)
  else if isB l (k + 8 + numF l k) (sumL (cutF l (k + 8) (numF l k))) = false then ([], 0, 12)
  else (cutF l (k + 8) (numF l k), k + 8 + numF l k + 4, 0)
def readFA (l : List UInt8) (a : Int) : List UInt8 × Nat × Nat := if a < 0 ∨ (l.length : Int) < a then ([], 0, 1) else readF l a.toNat
def uintF : Nat → Nat → List UInt8
  | 0, v => [UInt8.ofNat v]
  | k + 1, v => if v < 128 then [UInt8.ofNat v] else UInt8.ofNat (v % 128 + 128) :: uintF k (v / 128)
def uintB (v : Nat) : List UInt8 := uintF v v
theorem uintF_same : ∀ (f g v : Nat), v ≤ f → v ≤ g → uintF f v = uintF g v := by
  intro f
  induction f with
  | zero =>
    intro g v h1 h2
    obtain rfl : v = 0 := by omega
    cases g <;> rfl
  | succ f ih =>
    intro g v h1 h2
    cases g with
    | zero =>
      obtain rfl : v = 0 := by omega
      rfl
    | succ g =>
      simp only [uintF]
      split
      · rfl
      · rw [ih g (v / 128) (by omega) (by omega)]
theorem uintB_lt {v : Nat} (h : v < 128) : uintB v = [UInt8.ofNat v] := by
  unfold uintB
  cases v with
  | zero => rfl
  | succ v => simp only [uintF]; rw [if_pos h]
theorem uintB_ge {v : Nat} (h : 128 ≤ v) : uintB v = UInt8.ofNat (v % 128 + 128) :: uintB (v / 128) := by
  unfold uintB
  cases v with
  | zero => omega
  | succ v =>
    simp only [uintF]
    rw [if_neg (by omega), uintF_same v ((v + 1) / 128) _ (by omega) (Nat.le_refl _)]
theorem uintB_len : ∀ (k v : Nat), v < 128 ^ (k + 1) → (uintB v).length ≤ k + 1 := by
  intro k
  induction k with
  | zero => intro v h; rw [uintB_lt (by simpa using h)]; simp
  | succ k ih =>
    intro v h
    by_cases hv : v < 128
    · rw [uintB_lt hv]; simp
    · rw [uintB_ge (by omega), List.length_cons]
      have := ih (v / 128) (Nat.div_lt_of_lt_mul (by rw [Nat.pow_succ] at h; omega))
      omega
theorem uintB_ten {v : Nat} (h : v < 18446744073709551616) : (uintB v).length ≤ 10 := uintB_len 9 v (Nat.lt_trans h (by decide))
theorem uintB_pos (v : Nat) : 0 < (uintB v).length := by
  by_cases h : v < 128
  · rw [uintB_lt h]; simp
  · rw [uintB_ge (by omega)]; simp
theorem or128_fin : ∀ x : Fin 256, x.val ||| 128 = x.val % 128 + 128 := by decide +kernel
theorem or128_walk (V : Nat) : bits .or .u8 ((V : Int) % 256) 128 = (V : Int) % 128 + 128 := by
  rw [show (V : Int) % 256 = ((V % 256 : Nat) : Int) from by omega, show (128 : Int) = ((128 : Nat) : Int) from rfl, u8_or_nat _ _ (by omega) (by omega), or128_fin ⟨V % 256, by omega⟩]
  show ((V % 256 % 128 + 128 : Nat) : Int) = _
  omega
theorem u8v_or (V : Nat) : u8v (UInt8.ofNat (V % 128 + 128)) = .int .u8 ((V : Int) % 128 + 128) := by
  unfold u8v
  rw [UInt8.toNat_ofNat', Nat.mod_eq_of_lt (by omega)]; congr 1
def rdU : List UInt8 → Nat → Nat → Nat × Nat × Nat
  | [], _, _ => (0, 0, 10)
  | c :: r, i, v =>
    if i = 9 ∧ 1 < c.toNat then (0, 0, 13)
    else if c.toNat < 128 then (if c.toNat = 0 ∧ 0 < i then (0, 0, 11) else (v + c.toNat % 128 * 2 ^ (7 * i), i + 1, 0))
    else rdU r (i + 1) (v + c.toNat % 128 * 2 ^ (7 * i))
def readU (l : List UInt8) (a : Int) : Nat × Nat × Nat :=
  if a < 0 ∨ (l.length : Int) < a then (0, 0, 1)
  else if (rdU (l.drop a.toNat) 0 0).2.2 = 0 then ((rdU (l.drop a.toNat) 0 0).1, a.toNat + (rdU (l.drop a.toNat) 0 0).2.1, 0) else (0, 0, (rdU (l.drop a.toNat) 0 0).2.2)
theorem and127_walk (x : UInt8) : bits .and .u8 (x.toNat : Int) 127 = ((x.toNat % 128 : Nat) : Int) := by
  have := x.toNat_lt
  rw [show (127 : Int) = ((127 : Nat) : Int) from rfl, u8_and_nat _ _ (by omega) (by omega), show (127 : Nat) = 2 ^ 7 - 1 from rfl, Nat.and_two_pow_sub_one_eq_mod]
theorem pow7_le {j : Nat} (h : j ≤ 8) : 2 ^ (7 * j) ≤ 72057594037927936 := by
  have : 2 ^ (7 * j) ≤ 2 ^ 56 := Nat.pow_le_pow_right (by decide) (by omega)
  simpa using this
theorem rd_core (V y m : Nat) (hm : m ≤ 63) (hV : V < 2 ^ m) (hy : y * 2 ^ m < 18446744073709551616) : bits .or .u64 (V : Int) (IntKind.u64.wrap (IntKind.u64.wrap (y : Int) * 2 ^ m)) = ((V + y * 2 ^ m : Nat) : Int) := by
  have hp : 1 ≤ 2 ^ m := Nat.one_le_two_pow
  have hy1 : y < 18446744073709551616 := Nat.lt_of_le_of_lt (Nat.le_mul_of_pos_right y (by omega)) hy
  have e1 : IntKind.u64.wrap (y : Int) = (y : Int) := by rw [IntKind.wrap_u64]; omega
  have e2 : (y : Int) * 2 ^ m = ((y * 2 ^ m : Nat) : Int) := by rw [Int.natCast_mul, Int.natCast_pow]; rfl
  rw [e1, e2]
  have e3 : IntKind.u64.wrap ((y * 2 ^ m : Nat) : Int) = ((y * 2 ^ m : Nat) : Int) := by rw [IntKind.wrap_u64]; omega
  have hV2 : V < 18446744073709551616 := by
    have : 2 ^ m ≤ 2 ^ 63 := Nat.pow_le_pow_right (by decide) hm
    omega
  rw [e3, u64_or_nat V _ hV2 hy, Nat.or_comm, shl_or4 y V m hV, Nat.add_comm]
theorem rd_step (V j : Nat) (x : UInt8) (hj : j ≤ 8) (hV : V < 2 ^ (7 * j)) : bits .or .u64 (V : Int) (IntKind.u64.wrap (IntKind.u64.wrap (bits .and .u8 (x.toNat : Int) 127) * 2 ^ (7 * j))) = ((V + x.toNat % 128 * 2 ^ (7 * j) : Nat) : Int) := by
  rw [and127_walk]
  refine rd_core V _ _ (by omega) hV ?_
  have h1 := pow7_le hj
  have h2 : x.toNat % 128 ≤ 127 := by omega
  have := Nat.mul_le_mul h2 h1
  omega
theorem rd_next (V j x : Nat) (hV : V < 2 ^ (7 * j)) : V + x % 128 * 2 ^ (7 * j) < 2 ^ (7 * (j + 1)) := by
  have h2 : x % 128 ≤ 127 := by omega
  have := Nat.mul_le_mul_right (2 ^ (7 * j)) h2
  rw [show 7 * (j + 1) = 7 * j + 7 from by omega, Nat.pow_add]
  omega
theorem rd_last (V : Nat) (x : UInt8) (hx : x.toNat ≤ 1) (hV : V < 2 ^ 63) : bits .or .u64 (V : Int) (IntKind.u64.wrap (IntKind.u64.wrap (bits .and .u8 (x.toNat : Int) 127) * 9223372036854775808)) = ((V + x.toNat % 128 * 2 ^ (7 * 9) : Nat) : Int) := by
  rw [and127_walk, show (9223372036854775808 : Int) = 2 ^ 63 from by decide]
  refine rd_core V _ 63 (by omega) hV ?_
  have h2 : x.toNat % 128 ≤ 1 := by omega
  have := Nat.mul_le_mul_right (2 ^ 63) h2
  omega
theorem readU_at {l : List UInt8} {k j V : Nat} {r : Nat × Nat × Nat} (hk : k ≤ l.length) (hI : rdU (l.drop (k + j)) j V = rdU (l.drop k) 0 0) (hr : rdU (l.drop (k + j)) j V = r) : readU l (k : Int) = if r.2.2 = 0 then (r.1, k + r.2.1, 0) else (0, 0, r.2.2) := by
  unfold readU
  rw [if_neg (by omega), Int.toNat_natCast, ← hI, hr]
theorem pow7_step (i : Nat) : 2 ^ (7 * (i + 1)) = 128 * 2 ^ (7 * i) := by
  rw [show 7 * (i + 1) = 7 * i + 7 from by omega, Nat.pow_add]; omega
theorem rdU_uintB (r : List UInt8) : ∀ (f i V a : Nat), i + f = 9 → V * 2 ^ (7 * i) < 18446744073709551616 → (V ≠ 0 ∨ i = 0) → rdU (uintB V ++ r) i a = (a + V * 2 ^ (7 * i), i + (uintB V).length, 0) := by
  intro f
  induction f with
  | zero =>
    intro i V a hi hV h0
    obtain rfl : i = 9 := by omega
    have hV1 : V ≤ 1 := by
      have : (2 : Nat) ^ (7 * 9) = 9223372036854775808 := by decide
      rw [this] at hV
      omega
    rw [uintB_lt (by omega)]
    show rdU (UInt8.ofNat V :: r) 9 a = _
    unfold rdU
    have e : (UInt8.ofNat V).toNat = V := by rw [UInt8.toNat_ofNat', Nat.mod_eq_of_lt (by omega)]
    rw [e, if_neg (by omega), if_pos (by omega), if_neg (by omega), Nat.mod_eq_of_lt (by omega)]; rfl
  | succ f ih =>
    intro i V a hi hV h0
    by_cases h : V < 128
    · rw [uintB_lt h]
      show rdU (UInt8.ofNat V :: r) i a = _
      unfold rdU
      have e : (UInt8.ofNat V).toNat = V := by rw [UInt8.toNat_ofNat', Nat.mod_eq_of_lt (by omega)]
      rw [e, if_neg (by omega), if_pos h, if_neg (by omega), Nat.mod_eq_of_lt h]; rfl
    · rw [uintB_ge (by omega)]
      show rdU (UInt8.ofNat (V % 128 + 128) :: (uintB (V / 128) ++ r)) i a = _
      have e : (UInt8.ofNat (V % 128 + 128)).toNat = V % 128 + 128 := by rw [UInt8.toNat_ofNat', Nat.mod_eq_of_lt (by omega)]
      have e2 : V / 128 * 2 ^ (7 * (i + 1)) + V % 128 * 2 ^ (7 * i) = V * 2 ^ (7 * i) := by
        rw [pow7_step, ← Nat.mul_assoc, ← Nat.add_mul, Nat.div_add_mod']
      rw [rdU, e, if_neg (by omega), if_neg (by omega), ih (i + 1) (V / 128) _ (by omega) (by omega) (by omega), List.length_cons]
      rw [show (V % 128 + 128) % 128 = V % 128 from by omega]
      simp only [Prod.mk.injEq]
      exact ⟨by omega, by omega, trivial⟩
theorem readU_back (p r : List UInt8) (v : Nat) (hv : v < 18446744073709551616) : readU (p ++ uintB v ++ r) (p.length : Int) = (v, p.length + (uintB v).length, 0) := by
  unfold readU
  have hl : ¬((p.length : Int) < 0 ∨ ((p ++ uintB v ++ r).length : Int) < (p.length : Int)) := by
    simp only [List.length_append]; omega
  rw [if_neg hl, Int.toNat_natCast, List.append_assoc, List.drop_left' rfl, rdU_uintB r 9 0 v 0 rfl (by simpa using hv) (.inr rfl)]
  simp
def cutS (l : List UInt8) (k m : Nat) : List UInt8 := (l.drop k).take m
def readBy (l : List UInt8) (a most : Int) : List UInt8 × Nat × Nat :=
  if a < 0 ∨ (l.length : Int) < a ∨ most < 0 then ([], 0, 1)
  else if (readU l a).2.2 ≠ 0 then ([], 0, (readU l a).2.2)
  else if most < ((readU l a).1 : Int) then ([], 0, 13)
  else if l.length - (readU l a).2.1 < (readU l a).1 then ([], 0, 10)
  else (cutS l (readU l a).2.1 (readU l a).1, (readU l a).2.1 + (readU l a).1, 0)
theorem rdU_end : ∀ (l : List UInt8) (i v : Nat), (rdU l i v).2.2 = 0 → (rdU l i v).2.1 ≤ i + l.length ∧ i + 1 ≤ (rdU l i v).2.1 := by
  intro l
  induction l with
  | nil => intro i v h; cases h
  | cons c r ih =>
    intro i v h
    unfold rdU at h ⊢
    split at h
    · cases h
    · rename_i h1
      rw [if_neg h1]
      split at h
      · rename_i h2
        rw [if_pos h2]
        split at h
        · cases h
        · rename_i h3
          rw [if_neg h3]
          simp
      · rename_i h2
        rw [if_neg h2]
        have := ih _ _ h
        rw [List.length_cons]
        omega
theorem readU_end (l : List UInt8) (a : Int) (h : (readU l a).2.2 = 0) : (readU l a).2.1 ≤ l.length ∧ 0 ≤ a ∧ a.toNat < (readU l a).2.1 := by
  unfold readU at h ⊢
  split at h
  · cases h
  · rename_i h1
    rw [if_neg h1]
    split at h
    · rename_i h2
      rw [if_pos h2]
      have := rdU_end _ _ _ h2
      rw [List.length_drop] at this
      simp only
      omega
    · rename_i h2
      exact absurd h h2
theorem rdU_val : ∀ (l : List UInt8) (i v : Nat), i ≤ 9 → v < 2 ^ (7 * i) → (rdU l i v).1 < 18446744073709551616 := by
  intro l
  induction l with
  | nil => intro i v _ _; show 0 < _; omega
  | cons c r ih =>
    intro i v hi hv
    have hc := c.toNat_lt
    unfold rdU
    split
    · show 0 < _; omega
    · rename_i h1
      split
      · rename_i h2
        split
        · show 0 < _; omega
        · simp only
          by_cases h9 : i = 9
          · subst h9
            have : (2 : Nat) ^ (7 * 9) = 9223372036854775808 := by decide
            rw [this] at hv ⊢
            have : c.toNat % 128 ≤ 1 := by omega
            omega
          · have h3 := rd_next v i c.toNat hv
            have h4 : 2 ^ (7 * (i + 1)) ≤ 2 ^ 63 := Nat.pow_le_pow_right (by decide) (by omega)
            omega
      · rename_i h2
        refine ih (i + 1) _ ?_ (rd_next v i c.toNat hv)
        by_cases h9 : i = 9
        · omega
        · omega
theorem readU_val (l : List UInt8) (a : Int) : (readU l a).1 < 18446744073709551616 := by
  unfold readU
  split
  · show 0 < _; omega
  · split
    · exact rdU_val _ 0 0 (by omega) (by decide)
    · show 0 < _; omega
theorem readBy_back (p r b : List UInt8) (most : Int) (hb : b.length < 18446744073709551616) (hm : (b.length : Int) ≤ most) : readBy (p ++ (uintB b.length ++ b) ++ r) (p.length : Int) most = (b, p.length + (uintB b.length ++ b).length, 0) := by
  have h := readU_back p (b ++ r) b.length hb
  have e : p ++ uintB b.length ++ (b ++ r) = p ++ (uintB b.length ++ b) ++ r := by simp
  rw [e] at h
  unfold readBy
  rw [h]
  have h1 : ¬((p.length : Int) < 0 ∨ ((p ++ (uintB b.length ++ b) ++ r).length : Int) < (p.length : Int) ∨ most < 0) := by
    simp only [List.length_append]; omega
  rw [if_neg h1, if_neg (by simp), if_neg (by omega), if_neg (by simp only [List.length_append]; omega)]
  have c : cutS (p ++ (uintB b.length ++ b) ++ r) (p.length + (uintB b.length).length) b.length = b := by
    unfold cutS
    rw [show p ++ (uintB b.length ++ b) ++ r = (p ++ uintB b.length) ++ (b ++ r) from by simp, List.drop_left' (by simp), List.take_left' rfl]
  simp only
  rw [c, List.length_append]
  simp; omega
def cmpB : List UInt8 → List UInt8 → Int
  | [], [] => 0
  | [], _ :: _ => -1
  | _ :: _, [] => 1
  | x :: a, y :: b => if x.toNat < y.toNat then -1 else if y.toNat < x.toNat then 1 else cmpB a b
theorem cmpB_self (a : List UInt8) : cmpB a a = 0 := by
  induction a with
  | nil => rfl
  | cons x a ih => unfold cmpB; rw [if_neg (by omega), if_neg (by omega)]; exact ih
theorem cmpB_drop (a b : List UInt8) : ∀ k, a.take k = b.take k → cmpB (a.drop k) (b.drop k) = cmpB a b := by
  intro k
  induction k generalizing a b with
  | zero => intro _; rfl
  | succ k ih =>
    intro h
    cases a with
    | nil =>
      cases b with
      | nil => rfl
      | cons y b => simp at h
    | cons x a =>
      cases b with
      | nil => simp at h
      | cons y b =>
        simp only [List.take_succ_cons, List.cons.injEq] at h
        obtain ⟨rfl, h⟩ := h
        rw [List.drop_succ_cons, List.drop_succ_cons, ih a b h]
        conv => rhs; unfold cmpB
        rw [if_neg (by omega), if_neg (by omega)]
def ordC (c : UInt8) : List UInt8 := if c.toNat = 0 then [0, 255] else [c]
def ordB (l : List UInt8) : List UInt8 := l.flatMap ordC ++ [0, 1]
theorem ordC_len (c : UInt8) : (ordC c).length ≤ 2 ∧ 1 ≤ (ordC c).length := by unfold ordC; split <;> simp
theorem ordF_len (l : List UInt8) : (l.flatMap ordC).length ≤ 2 * l.length := by
  induction l with
  | nil => simp
  | cons c l ih => rw [List.flatMap_cons, List.length_append, List.length_cons]; have := ordC_len c; omega
theorem ordB_len (l : List UInt8) : (ordB l).length ≤ 2 * l.length + 2 := by unfold ordB; rw [List.length_append, show ([0, 1] : List UInt8).length = 2 from rfl]; have := ordF_len l; omega
theorem cmpB_skip (x : UInt8) (a b : List UInt8) : cmpB (x :: a) (x :: b) = cmpB a b := by
  conv => lhs; unfold cmpB
  rw [if_neg (by omega), if_neg (by omega)]
theorem cmpB_lt {x y : UInt8} (h : x.toNat < y.toNat) (a b : List UInt8) : cmpB (x :: a) (y :: b) = -1 := by
  unfold cmpB; rw [if_pos h]
theorem cmpB_gt {x y : UInt8} (h : y.toNat < x.toNat) (a b : List UInt8) : cmpB (x :: a) (y :: b) = 1 := by
  unfold cmpB; rw [if_neg (by omega), if_pos h]
theorem ord_sorts (a : List UInt8) : ∀ b x y : List UInt8, cmpB (ordB a ++ x) (ordB b ++ y) = if cmpB a b = 0 then cmpB x y else cmpB a b := by
  induction a with
  | nil =>
    intro b x y
    cases b with
    | nil =>
      show cmpB (0 :: 1 :: x) (0 :: 1 :: y) = _
      rw [cmpB_skip, cmpB_skip]; rfl
    | cons d b =>
      show cmpB (0 :: 1 :: x) ((ordC d ++ b.flatMap ordC) ++ [0, 1] ++ y) = -1
      unfold ordC
      split
      · show cmpB (0 :: 1 :: x) (0 :: 255 :: _) = -1
        rw [cmpB_skip, cmpB_lt (by decide)]
      · exact cmpB_lt (by show 0 < d.toNat; omega) _ _
  | cons c a ih =>
    intro b x y
    cases b with
    | nil =>
      show cmpB ((ordC c ++ a.flatMap ordC) ++ [0, 1] ++ x) (0 :: 1 :: y) = 1
      unfold ordC
      split
      · show cmpB (0 :: 255 :: _) (0 :: 1 :: y) = 1
        rw [cmpB_skip, cmpB_gt (by decide)]
      · exact cmpB_gt (by show 0 < c.toNat; omega) _ _
    | cons d b =>
      have e1 : ordB (c :: a) ++ x = ordC c ++ (ordB a ++ x) := by unfold ordB; simp
      have e2 : ordB (d :: b) ++ y = ordC d ++ (ordB b ++ y) := by unfold ordB; simp
      rw [e1, e2]
      rcases Nat.lt_trichotomy c.toNat d.toNat with h | h | h
      · rw [cmpB_lt h, if_neg (by decide)]
        unfold ordC
        rw [if_neg (show ¬ d.toNat = 0 by omega)]
        split
        · exact cmpB_lt (by show 0 < d.toNat; omega) _ _
        · exact cmpB_lt h _ _
      · obtain rfl := UInt8.toNat_inj.1 h
        rw [cmpB_skip]
        unfold ordC
        split
        · show cmpB (0 :: 255 :: (ordB a ++ x)) (0 :: 255 :: (ordB b ++ y)) = _
          rw [cmpB_skip, cmpB_skip, ih]
        · show cmpB (c :: (ordB a ++ x)) (c :: (ordB b ++ y)) = _
          rw [cmpB_skip, ih]
      · rw [cmpB_gt h, if_neg (by decide)]
        unfold ordC
        rw [if_neg (show ¬ c.toNat = 0 by omega)]
        split
        · exact cmpB_gt (by show 0 < c.toNat; omega) _ _
        · exact cmpB_gt h _ _
theorem cmpB_swap (a : List UInt8) : ∀ b, cmpB b a = - cmpB a b := by
  induction a with
  | nil => intro b; cases b <;> rfl
  | cons x a ih =>
    intro b
    cases b with
    | nil => rfl
    | cons y b =>
      rcases Nat.lt_trichotomy x.toNat y.toNat with h | h | h
      · rw [cmpB_lt h, cmpB_gt h]; rfl
      · obtain rfl := UInt8.toNat_inj.1 h
        rw [cmpB_skip, cmpB_skip, ih]
      · rw [cmpB_gt h, cmpB_lt h]
def rTo (v j : Nat) : List UInt8 := (List.range 8).map fun t => if 8 - j ≤ t then UInt8.ofNat (v / 256 ^ (7 - t)) else 0
def risB (v : Nat) : List UInt8 := rTo v 8
theorem rTo_len (v j : Nat) : (rTo v j).length = 8 := by simp [rTo]
theorem rTo_succ (v j : Nat) (hj : j < 8) : rTo v (j + 1) = (rTo v j).set (7 - j) (UInt8.ofNat (v / 256 ^ j)) := by
  apply List.ext_getElem?
  intro t
  rw [List.getElem?_set]
  unfold rTo
  by_cases ht : t < 8
  · rw [List.getElem?_map, List.getElem?_range ht, List.getElem?_map, List.getElem?_range ht]
    simp only [Option.map_some, List.length_map, List.length_range]
    by_cases e : 7 - j = t
    · rw [if_pos e, if_pos (by omega), if_pos (by omega), show 7 - t = j from by omega]
    · rw [if_neg e]
      by_cases h : 8 - j ≤ t
      · rw [if_pos h, if_pos (by omega)]
      · rw [if_neg h, if_neg (by omega)]
  · rw [List.getElem?_eq_none (by simp; omega), if_neg (by omega), List.getElem?_eq_none (by simp; omega)]
def big (l : List UInt8) : Nat := l.foldl (fun a c => a * 256 + c.toNat) 0
theorem big_from (l : List UInt8) : ∀ a, l.foldl (fun a c => a * 256 + c.toNat) a = a * 256 ^ l.length + big l := by
  induction l with
  | nil => intro a; simp [big]
  | cons c l ih =>
    intro a
    rw [List.foldl_cons, ih]
    unfold big
    rw [List.foldl_cons, ih (0 * 256 + c.toNat), List.length_cons, Nat.pow_succ, Nat.add_mul, Nat.add_mul]
    simp only [Nat.zero_mul, Nat.zero_add]
    rw [Nat.mul_assoc, Nat.mul_comm 256]
    unfold big
    omega
theorem big_cons (c : UInt8) (l : List UInt8) : big (c :: l) = c.toNat * 256 ^ l.length + big l := by
  show (c :: l).foldl (fun a c => a * 256 + c.toNat) 0 = _
  rw [List.foldl_cons, big_from]; simp
theorem big_lt (l : List UInt8) : big l < 256 ^ l.length := by
  induction l with
  | nil => simp [big]
  | cons c l ih =>
    rw [big_cons, List.length_cons, Nat.pow_succ]
    have hc := c.toNat_lt
    have h1 : c.toNat ≤ 255 := by omega
    have := Nat.mul_le_mul_right (256 ^ l.length) h1
    omega
theorem cmp_big : ∀ (a b : List UInt8), a.length = b.length → cmpB a b = if big a < big b then -1 else if big b < big a then 1 else 0 := by
  intro a
  induction a with
  | nil =>
    intro b h
    cases b with
    | nil => rfl
    | cons _ _ => cases h
  | cons x a ih =>
    intro b h
    cases b with
    | nil => cases h
    | cons y b =>
      have hl : a.length = b.length := by simpa using h
      have ha := big_lt a
      have hb := big_lt b
      rw [hl] at ha
      rw [big_cons, big_cons, hl]
      rcases Nat.lt_trichotomy x.toNat y.toNat with h1 | h1 | h1
      · have h2 := Nat.mul_le_mul_right (256 ^ b.length) (show x.toNat + 1 ≤ y.toNat from h1)
        rw [Nat.add_mul, Nat.one_mul] at h2
        rw [cmpB_lt h1, if_pos (by omega)]
      · obtain rfl := UInt8.toNat_inj.1 h1
        rw [cmpB_skip, ih b hl]
        by_cases h3 : big a < big b
        · rw [if_pos h3, if_pos (by omega)]
        · by_cases h4 : big b < big a
          · rw [if_neg h3, if_pos h4, if_neg (by omega), if_pos (by omega)]
          · rw [if_neg h3, if_neg h4, if_neg (by omega), if_neg (by omega)]
      · have h2 := Nat.mul_le_mul_right (256 ^ b.length) (show y.toNat + 1 ≤ x.toNat from h1)
        rw [Nat.add_mul, Nat.one_mul] at h2
        rw [cmpB_gt h1, if_neg (by omega), if_pos (by omega)]
theorem risB_big (v : Nat) (h : v < 18446744073709551616) : big (risB v) = v := by
  have e : risB v = [UInt8.ofNat (v / 72057594037927936), UInt8.ofNat (v / 281474976710656), UInt8.ofNat (v / 1099511627776), UInt8.ofNat (v / 4294967296), UInt8.ofNat (v / 16777216), UInt8.ofNat (v / 65536), UInt8.ofNat (v / 256), UInt8.ofNat v] := by
    simp [risB, rTo, List.range_succ]
  rw [e]
  unfold big
  simp only [List.foldl_cons, List.foldl_nil, UInt8.toNat_ofNat']
  omega
theorem ris_sorts (m n : Nat) (hm : m < 18446744073709551616) (hn : n < 18446744073709551616) : cmpB (risB m) (risB n) = if m < n then -1 else if n < m then 1 else 0 := by
  rw [cmp_big _ _ (by unfold risB; rw [rTo_len, rTo_len]), risB_big m hm, risB_big n hn]
def addO (x : UInt8) (j : Nat) (r : List UInt8 × Nat × Nat) : List UInt8 × Nat × Nat := if r.2.2 = 0 then (x :: r.1, r.2.1 + j, 0) else ([], 0, r.2.2)
def rdO : List UInt8 → List UInt8 × Nat × Nat
  | [] => ([], 0, 10)
  | [_] => ([], 0, 10)
  | c :: d :: t => if c.toNat = 0 then (if d.toNat = 1 then ([], 2, 0) else if d.toNat = 255 then addO 0 2 (rdO t) else ([], 0, 11)) else addO c 1 (rdO (d :: t))
theorem rdO_ne {c : UInt8} (h : c.toNat ≠ 0) (t : List UInt8) : rdO (c :: t) = addO c 1 (rdO t) := by
  cases t with
  | nil => rfl
  | cons d t => conv => lhs; unfold rdO
                rw [if_neg h]
theorem rdO_one {c d : UInt8} (h : c.toNat = 0) (h1 : d.toNat = 1) (t : List UInt8) : rdO (c :: d :: t) = ([], 2, 0) := by
  conv => lhs; unfold rdO
  rw [if_pos h, if_pos h1]
theorem rdO_zero {c d : UInt8} (h : c.toNat = 0) (h1 : d.toNat = 255) (t : List UInt8) : rdO (c :: d :: t) = addO 0 2 (rdO t) := by
  conv => lhs; unfold rdO
  rw [if_pos h, if_neg (by omega), if_pos h1]
theorem rdO_form {c d : UInt8} (h : c.toNat = 0) (h1 : d.toNat ≠ 1) (h2 : d.toNat ≠ 255) (t : List UInt8) : rdO (c :: d :: t) = ([], 0, 11) := by
  conv => lhs; unfold rdO
  rw [if_pos h, if_neg h1, if_neg h2]
theorem ordB_cons (c : UInt8) (s : List UInt8) : ordB (c :: s) = ordC c ++ ordB s := by unfold ordB; simp
theorem ordC_zero : ordC 0 = [0, 255] := rfl
theorem ordC_ne {c : UInt8} (h : c.toNat ≠ 0) : ordC c = [c] := by unfold ordC; rw [if_neg h]
theorem rdO_ord : ∀ (n : Nat) (l : List UInt8), l.length ≤ n → (rdO l).2.2 = 0 → ordB (rdO l).1 = l.take (rdO l).2.1 ∧ (rdO l).2.1 ≤ l.length ∧ 2 ≤ (rdO l).2.1 ∧ (rdO l).1.length ≤ l.length := by
  intro n
  induction n with
  | zero =>
    intro l hl h
    obtain rfl := List.eq_nil_of_length_eq_zero (show l.length = 0 by omega)
    exact absurd h (by decide)
  | succ n ih =>
    intro l hl h
    match l, hl, h with
    | [], _, h => exact absurd h (by decide)
    | [c], _, h => exact absurd h (by show ¬ (10 = 0); decide)
    | c :: d :: t, hl, h =>
      simp only [List.length_cons] at hl
      by_cases hc : c.toNat = 0
      · by_cases h1 : d.toNat = 1
        · rw [rdO_one hc h1]
          obtain rfl := UInt8.toNat_inj.1 (show c.toNat = (0 : UInt8).toNat from hc)
          obtain rfl := UInt8.toNat_inj.1 (show d.toNat = (1 : UInt8).toNat from h1)
          exact ⟨rfl, by simp, by simp, by simp⟩
        · by_cases h2 : d.toNat = 255
          · rw [rdO_zero hc h2] at h ⊢
            have h0 : (rdO t).2.2 = 0 := by unfold addO at h; split at h <;> assumption
            obtain ⟨e1, e2, e3, e4⟩ := ih t (by omega) h0
            obtain rfl := UInt8.toNat_inj.1 (show c.toNat = (0 : UInt8).toNat from hc)
            obtain rfl := UInt8.toNat_inj.1 (show d.toNat = (255 : UInt8).toNat from h2)
            unfold addO
            rw [if_pos h0]
            refine ⟨?_, by simp <;> omega, by simp <;> omega, by simp <;> omega⟩
            show ordB (0 :: (rdO t).1) = _
            rw [ordB_cons, ordC_zero, e1]
            simp
          · rw [rdO_form hc h1 h2] at h
            exact absurd h (by show ¬ (11 = 0); decide)
      · rw [rdO_ne hc] at h ⊢
        have h0 : (rdO (d :: t)).2.2 = 0 := by unfold addO at h; split at h <;> assumption
        obtain ⟨e1, e2, e3, e4⟩ := ih (d :: t) (by simp; omega) h0
        unfold addO
        rw [if_pos h0]
        refine ⟨?_, by simp only [List.length_cons] at e2 ⊢; omega, by show 2 ≤ _ + 1; omega, by simp only [List.length_cons] at e4 ⊢; omega⟩
        show ordB (c :: (rdO (d :: t)).1) = _
        rw [ordB_cons, ordC_ne hc, e1]
        simp
theorem rdO_back (s : List UInt8) : ∀ r, rdO (ordB s ++ r) = (s, (ordB s).length, 0) := by
  induction s with
  | nil => intro r; exact rdO_one rfl rfl r
  | cons c s ih =>
    intro r
    rw [ordB_cons]
    by_cases hc : c.toNat = 0
    · obtain rfl := UInt8.toNat_inj.1 (show c.toNat = (0 : UInt8).toNat from hc)
      rw [ordC_zero]
      show rdO (0 :: 255 :: (ordB s ++ r)) = _
      rw [rdO_zero rfl rfl, ih]
      rfl
    · rw [ordC_ne hc]
      show rdO (c :: (ordB s ++ r)) = _
      rw [rdO_ne hc, ih]
      rfl
def glO (out : List UInt8) (k : Nat) (r : List UInt8 × Nat × Nat) : List UInt8 × Nat × Nat := if r.2.2 = 0 then (out ++ r.1, k + r.2.1, 0) else ([], 0, r.2.2)
theorem glO_add (out : List UInt8) (k : Nat) (x : UInt8) (j : Nat) (r : List UInt8 × Nat × Nat) : glO out k (addO x j r) = glO (out ++ [x]) (k + j) r := by
  unfold glO addO
  by_cases h : r.2.2 = 0
  · simp [h]; omega
  · simp [h]
def readO (l : List UInt8) (a : Int) : List UInt8 × Nat × Nat := if a < 0 ∨ (l.length : Int) < a then ([], 0, 1) else glO [] a.toNat (rdO (l.drop a.toNat))
theorem readO_in {l : List UInt8} {k : Nat} (h : k ≤ l.length) : readO l (k : Int) = glO [] k (rdO (l.drop k)) := by
  unfold readO; rw [if_neg (by omega)]; rfl
theorem readO_end (l : List UInt8) (a : Int) (h : (readO l a).2.2 = 0) : ordB (readO l a).1 = cutS l a.toNat ((readO l a).2.1 - a.toNat) ∧ (readO l a).2.1 ≤ l.length ∧ 0 ≤ a ∧ a.toNat < (readO l a).2.1 ∧ (readO l a).1.length ≤ l.length := by
  unfold readO at h ⊢
  by_cases ha : a < 0 ∨ (l.length : Int) < a
  · rw [if_pos ha] at h; exact absurd h (by decide)
  · rw [if_neg ha] at h ⊢
    have h0 : (rdO (l.drop a.toNat)).2.2 = 0 := by unfold glO at h; split at h <;> assumption
    obtain ⟨e1, e2, e3, e4⟩ := rdO_ord _ (l.drop a.toNat) (Nat.le_refl _) h0
    unfold glO
    rw [if_pos h0]
    rw [List.length_drop] at e2 e4
    refine ⟨?_, by simp; omega, by omega, by simp; omega, by simp; omega⟩
    show ordB ([] ++ (rdO (l.drop a.toNat)).1) = cutS l a.toNat (a.toNat + (rdO (l.drop a.toNat)).2.1 - a.toNat)
    rw [List.nil_append, e1, Nat.add_sub_cancel_left]
    rfl
theorem readO_back (p s r : List UInt8) : readO (p ++ ordB s ++ r) (p.length : Int) = (s, p.length + (ordB s).length, 0) := by
  rw [readO_in (by simp <;> omega), List.append_assoc, List.drop_left, rdO_back]
  unfold glO
  rw [if_pos rfl, List.nil_append]
theorem big_snoc (l : List UInt8) (c : UInt8) : big (l ++ [c]) = big l * 256 + c.toNat := by simp [big, List.foldl_append]
theorem big_top {c : UInt8} {t : List UInt8} (hc : c.toNat ≤ 127) (ht : t.length ≤ 6) : big (c :: t) < 36028797018963968 := by
  have h1 := big_lt t
  rw [big_cons]
  have h2 := Nat.pow_le_pow_right (show 0 < 256 by decide) ht
  have h3 : c.toNat * 256 ^ t.length ≤ 127 * 256 ^ t.length := Nat.mul_le_mul_right _ hc
  have h4 : (256 : Nat) ^ 6 = 281474976710656 := by decide
  omega
theorem big_take {l : List UInt8} (h0 : (l[0]?.getD 0).toNat ≤ 127) {j : Nat} (hj : j ≤ 7) : big (l.take j) < 36028797018963968 := by
  cases j with
  | zero => simp [big]
  | succ j =>
    cases l with
    | nil => simp [big]
    | cons c t =>
      rw [List.take_succ_cons]
      exact big_top h0 (by rw [List.length_take]; omega)
theorem or_step (N : Nat) (c : UInt8) (h : N < 36028797018963968) : bits .or .i64 ((N : Int) * 256) (c.toNat : Int) = ((N * 256 + c.toNat : Nat) : Int) := by
  have hc := c.toNat_lt
  rw [show (N : Int) * 256 = ((N * 256 : Nat) : Int) from by omega, i64_or_nat _ _ (by omega) (by omega), shl_or4 N c.toNat 8 hc]
theorem big_risB {l : List UInt8} (h : l.length = 8) : risB (big l) = l := by
  have e : ∀ v, risB v = [UInt8.ofNat (v / 72057594037927936), UInt8.ofNat (v / 281474976710656), UInt8.ofNat (v / 1099511627776), UInt8.ofNat (v / 4294967296), UInt8.ofNat (v / 16777216), UInt8.ofNat (v / 65536), UInt8.ofNat (v / 256), UInt8.ofNat v] := by
    intro v; simp [risB, rTo, List.range_succ]
  match l, h with
  | [x1, x2, x3, x4, x5, x6, x7, x8], _ =>
    rw [e]
    have h1 := x1.toNat_lt; have h2 := x2.toNat_lt; have h3 := x3.toNat_lt; have h4 := x4.toNat_lt; have h5 := x5.toNat_lt; have h6 := x6.toNat_lt; have h7 := x7.toNat_lt; have h8 := x8.toNat_lt
    have hb : big [x1, x2, x3, x4, x5, x6, x7, x8] = ((((((x1.toNat * 256 + x2.toNat) * 256 + x3.toNat) * 256 + x4.toNat) * 256 + x5.toNat) * 256 + x6.toNat) * 256 + x7.toNat) * 256 + x8.toNat := by
      simp [big]
    have q : ∀ (x : UInt8) (v : Nat), v % 256 = x.toNat → UInt8.ofNat v = x := fun x v hv => UInt8.toNat_inj.1 (by rw [UInt8.toNat_ofNat']; exact hv)
    rw [q x1 _ (by rw [hb]; omega), q x2 _ (by rw [hb]; omega), q x3 _ (by rw [hb]; omega), q x4 _ (by rw [hb]; omega), q x5 _ (by rw [hb]; omega), q x6 _ (by rw [hb]; omega), q x7 _ (by rw [hb]; omega), q x8 _ (by rw [hb]; omega)]
def readR (l : List UInt8) (a : Int) : Nat × Nat × Nat :=
  if a < 0 ∨ (l.length : Int) < a then (0, 0, 1) else if l.length < a.toNat + 8 then (0, 0, 10) else if 127 < (l[a.toNat]?.getD 0).toNat then (0, 0, 13) else (big (cutS l a.toNat 8), a.toNat + 8, 0)
theorem big_half {l : List UInt8} (h : l.length = 8) (h0 : (l[0]?.getD 0).toNat ≤ 127) : big l < 9223372036854775808 := by
  match l, h with
  | c :: t, h =>
    have h1 := big_lt t
    have h2 : t.length = 7 := by simpa using h
    have h3 : c.toNat ≤ 127 := h0
    rw [big_cons, h2]
    rw [h2] at h1
    have h4 : (256 : Nat) ^ 7 = 72057594037927936 := by decide
    omega
theorem readR_end (l : List UInt8) (a : Int) (h : (readR l a).2.2 = 0) : risB (readR l a).1 = cutS l a.toNat ((readR l a).2.1 - a.toNat) ∧ (readR l a).2.1 ≤ l.length ∧ 0 ≤ a ∧ a.toNat < (readR l a).2.1 ∧ (readR l a).1 < 9223372036854775808 := by
  unfold readR at h ⊢
  by_cases ha : a < 0 ∨ (l.length : Int) < a
  · rw [if_pos ha] at h; exact absurd h (by decide)
  rw [if_neg ha] at h ⊢
  by_cases hb : l.length < a.toNat + 8
  · rw [if_pos hb] at h; exact absurd h (by decide)
  rw [if_neg hb] at h ⊢
  by_cases hc : 127 < (l[a.toNat]?.getD 0).toNat
  · rw [if_pos hc] at h; exact absurd h (by decide)
  rw [if_neg hc]
  have hl : (cutS l a.toNat 8).length = 8 := by unfold cutS; rw [List.length_take, List.length_drop]; omega
  refine ⟨?_, by show a.toNat + 8 ≤ _; omega, by omega, by show _ < a.toNat + 8; omega, ?_⟩
  · show risB (big (cutS l a.toNat 8)) = cutS l a.toNat (a.toNat + 8 - a.toNat)
    rw [Nat.add_sub_cancel_left, big_risB hl]
  · refine big_half hl ?_
    have e : (cutS l a.toNat 8)[0]? = l[a.toNat]? := by unfold cutS; rw [List.getElem?_take_of_lt (by omega), List.getElem?_drop, Nat.add_zero]
    rw [e]; omega
theorem risB_head (v : Nat) (hv : v < 9223372036854775808) (r : List UInt8) : (((risB v) ++ r)[0]?.getD 0).toNat ≤ 127 := by
  have e : risB v ++ r = UInt8.ofNat (v / 72057594037927936) :: ([UInt8.ofNat (v / 281474976710656), UInt8.ofNat (v / 1099511627776), UInt8.ofNat (v / 4294967296), UInt8.ofNat (v / 16777216), UInt8.ofNat (v / 65536), UInt8.ofNat (v / 256), UInt8.ofNat v] ++ r) := by
    simp [risB, rTo, List.range_succ]
  rw [e]
  show (UInt8.ofNat (v / 72057594037927936)).toNat ≤ 127
  rw [UInt8.toNat_ofNat']; omega
theorem readR_back (p r : List UInt8) (v : Nat) (hv : v < 9223372036854775808) : readR (p ++ risB v ++ r) (p.length : Int) = (v, p.length + 8, 0) := by
  have hl : (risB v).length = 8 := rTo_len v 8
  unfold readR
  rw [if_neg (by simp; omega), Int.toNat_natCast, if_neg (by simp only [List.length_append, hl]; omega)]
  have e : (p ++ risB v ++ r)[p.length]? = (risB v ++ r)[0]? := by rw [List.append_assoc, List.getElem?_append_right (Nat.le_refl _), Nat.sub_self]
  rw [e, if_neg (by have := risB_head v hv r; omega)]
  have c : cutS (p ++ risB v ++ r) p.length 8 = risB v := by unfold cutS; rw [List.append_assoc, List.drop_left, ← hl, List.take_left]
  rw [c, risB_big v (by omega)]
def readFl (l : List UInt8) (a : Int) : Nat × Nat × Nat := if (readR l a).2.2 = 0 then (9223372036854775807 - (readR l a).1, (readR l a).2.1, 0) else (0, 0, (readR l a).2.2)
theorem readFl_end (l : List UInt8) (a : Int) (h : (readFl l a).2.2 = 0) : risB (9223372036854775807 - (readFl l a).1) = cutS l a.toNat ((readFl l a).2.1 - a.toNat) ∧ (readFl l a).2.1 ≤ l.length ∧ 0 ≤ a ∧ a.toNat < (readFl l a).2.1 ∧ (readFl l a).1 < 9223372036854775808 := by
  unfold readFl at h ⊢
  by_cases h0 : (readR l a).2.2 = 0
  · rw [if_pos h0]
    obtain ⟨e1, e2, e3, e4, e5⟩ := readR_end l a h0
    refine ⟨?_, e2, e3, e4, by show 9223372036854775807 - (readR l a).1 < _; omega⟩
    show risB (9223372036854775807 - (9223372036854775807 - (readR l a).1)) = _
    rw [show 9223372036854775807 - (9223372036854775807 - (readR l a).1) = (readR l a).1 from by omega, e1]
  · rw [if_neg h0] at h; exact absurd h h0
theorem readFl_back (p r : List UInt8) (v : Nat) (hv : v < 9223372036854775808) : readFl (p ++ risB (9223372036854775807 - v) ++ r) (p.length : Int) = (v, p.length + 8, 0) := by
  unfold readFl
  rw [readR_back p r _ (by omega), if_pos rfl]
  show (9223372036854775807 - (9223372036854775807 - v), _, _) = _
  rw [show 9223372036854775807 - (9223372036854775807 - v) = v from by omega]
theorem cutS_app (l : List UInt8) {a q p : Nat} (h1 : a ≤ q) (h2 : q ≤ p) : cutS l a (q - a) ++ cutS l q (p - q) = cutS l a (p - a) := by
  unfold cutS
  have e : l.drop q = (l.drop a).drop (q - a) := by rw [List.drop_drop]; congr 1; omega
  rw [e, show p - a = (q - a) + (p - q) from by omega, List.take_add]
theorem rdU_canon : ∀ (l : List UInt8) (i v : Nat), (rdU l i v).2.2 = 0 → ∃ V, (rdU l i v).1 = v + V * 2 ^ (7 * i) ∧ uintB V = l.take ((rdU l i v).2.1 - i) ∧ (V ≠ 0 ∨ i = 0) ∧ i < (rdU l i v).2.1 := by
  intro l
  induction l with
  | nil => intro i v h; cases h
  | cons c r ih =>
    intro i v h
    unfold rdU at h ⊢
    split at h
    · cases h
    · rename_i h1
      rw [if_neg h1]
      split at h
      · rename_i h2
        rw [if_pos h2]
        split at h
        · cases h
        · rename_i h3
          rw [if_neg h3]
          refine ⟨c.toNat, ?_, ?_, by omega, by simp⟩
          · show v + c.toNat % 128 * 2 ^ (7 * i) = _
            rw [Nat.mod_eq_of_lt h2]
          · show uintB c.toNat = (c :: r).take (i + 1 - i)
            rw [Nat.add_sub_cancel_left, uintB_lt h2]
            simp
      · rename_i h2
        rw [if_neg h2]
        obtain ⟨V, e1, e2, e3, e4⟩ := ih _ _ h
        have hc := c.toNat_lt
        refine ⟨c.toNat % 128 + 128 * V, ?_, ?_, by omega, by omega⟩
        · rw [e1, pow7_step, Nat.add_mul, Nat.mul_comm 128 V, Nat.mul_assoc, Nat.add_assoc]
        · rw [uintB_ge (by omega), show (c.toNat % 128 + 128 * V) % 128 + 128 = c.toNat from by omega, show (c.toNat % 128 + 128 * V) / 128 = V from by omega, e2]
          generalize (rdU r (i + 1) (v + c.toNat % 128 * 2 ^ (7 * i))).2.1 = q at e4 ⊢
          rw [show q - i = (q - (i + 1)) + 1 from by omega, List.take_succ_cons]
          congr 1
          exact UInt8.toNat_inj.1 (by rw [UInt8.toNat_ofNat']; omega)
theorem readU_canon (l : List UInt8) (a : Int) (h : (readU l a).2.2 = 0) : uintB (readU l a).1 = cutS l a.toNat ((readU l a).2.1 - a.toNat) := by
  unfold readU at h ⊢
  split at h
  · cases h
  · rename_i h1
    rw [if_neg h1]
    split at h
    · rename_i h2
      rw [if_pos h2]
      obtain ⟨V, e1, e2, _, _⟩ := rdU_canon _ _ _ h2
      show uintB (rdU (l.drop a.toNat) 0 0).1 = cutS l a.toNat (a.toNat + (rdU (l.drop a.toNat) 0 0).2.1 - a.toNat)
      rw [e1, Nat.add_sub_cancel_left]
      simp only [Nat.mul_zero, Nat.pow_zero, Nat.mul_one, Nat.zero_add]
      rw [e2, Nat.sub_zero]
      rfl
    · rename_i h2
      exact absurd h h2
theorem cutS_len (l : List UInt8) {k m : Nat} (h : k + m ≤ l.length) : (cutS l k m).length = m := by unfold cutS; rw [List.length_take, List.length_drop]; omega
theorem readBy_end (l : List UInt8) (a most : Int) (h : (readBy l a most).2.2 = 0) : uintB (readBy l a most).1.length ++ (readBy l a most).1 = cutS l a.toNat ((readBy l a most).2.1 - a.toNat) ∧ (readBy l a most).2.1 ≤ l.length ∧ 0 ≤ a ∧ a.toNat < (readBy l a most).2.1 ∧ (readBy l a most).1.length ≤ l.length := by
  unfold readBy at h ⊢
  split at h
  · cases h
  · rename_i h1
    rw [if_neg h1]
    split at h
    · rename_i h2; exact absurd h h2
    · rename_i h2
      rw [if_neg h2]
      split at h
      · cases h
      · rename_i h3
        rw [if_neg h3]
        split at h
        · cases h
        · rename_i h4
          rw [if_neg h4]
          have hu : (readU l a).2.2 = 0 := by omega
          obtain ⟨e1, e2, e3⟩ := readU_end l a hu
          have e4 := readU_canon l a hu
          generalize readU l a = r at *
          have hl := cutS_len l (k := r.2.1) (m := r.1) (by omega)
          refine ⟨?_, by show r.2.1 + r.1 ≤ _; omega, e2, by show _ < r.2.1 + r.1; omega, by show (cutS l r.2.1 r.1).length ≤ _; omega⟩
          show uintB (cutS l r.2.1 r.1).length ++ cutS l r.2.1 r.1 = cutS l a.toNat (r.2.1 + r.1 - a.toNat)
          rw [hl, e4, ← cutS_app l (a := a.toNat) (q := r.2.1) (p := r.2.1 + r.1) (by omega) (by omega), Nat.add_sub_cancel_left]
structure Ent where
  row : List UInt8
  fam : Int
  qual : List UInt8
  ts : Int
  seq : Int
  kind : Int
  val : List UInt8
def checkN (r : Nat) (f : Int) (q : Nat) (t s k : Int) (v : Nat) : Int :=
  if r < 1 ∨ 256 < r then 20 else if f < 0 ∨ 7 < f then 21 else if 256 < q ∨ (k = 5 ∧ 0 < q) then 22 else if t < 1 ∨ 1099511627776 < t then 23
  else if s < 0 ∨ 17592186044431 < s then 24 else if k < 1 ∨ 5 < k then 25 else if 4096 < v ∨ (k ≠ 1 ∧ 0 < v) then 26 else 0
def checkE (e : Ent) : Int := checkN e.row.length e.fam e.qual.length e.ts e.seq e.kind e.val.length
structure OkE (e : Ent) : Prop where
  row : 1 ≤ e.row.length ∧ e.row.length ≤ 256
  fam : 0 ≤ e.fam ∧ e.fam ≤ 7
  qual : e.qual.length ≤ 256 ∧ (e.kind = 5 → e.qual = [])
  ts : 1 ≤ e.ts ∧ e.ts ≤ 1099511627776
  seq : 0 ≤ e.seq ∧ e.seq ≤ 17592186044431
  kind : 1 ≤ e.kind ∧ e.kind ≤ 5
  val : e.val.length ≤ 4096 ∧ (e.kind ≠ 1 → e.val = [])
theorem checkN_ok {r : Nat} {f : Int} {q : Nat} {t s k : Int} {v : Nat} (h : checkN r f q t s k v = 0) :
    ¬ (r < 1 ∨ 256 < r) ∧ ¬ (f < 0 ∨ 7 < f) ∧ ¬ (256 < q ∨ (k = 5 ∧ 0 < q)) ∧ ¬ (t < 1 ∨ 1099511627776 < t) ∧ ¬ (s < 0 ∨ 17592186044431 < s) ∧ ¬ (k < 1 ∨ 5 < k) ∧ ¬ (4096 < v ∨ (k ≠ 1 ∧ 0 < v)) := by
  unfold checkN at h
  repeat' split at h
  all_goals first | exact absurd h (by decide) | exact ⟨by assumption, by assumption, by assumption, by assumption, by assumption, by assumption, by assumption⟩
theorem ok_of {e : Ent} (h : checkE e = 0) : OkE e := by
  obtain ⟨h1, h2, h3, h4, h5, h6, h7⟩ := checkN_ok h
  refine ⟨by omega, by omega, ⟨by omega, fun hk => List.eq_nil_of_length_eq_zero ?_⟩, by omega, by omega, by omega, ⟨by omega, fun hk => List.eq_nil_of_length_eq_zero ?_⟩⟩
  · have := fun hp => h3 (.inr ⟨hk, hp⟩); omega
  · have := fun hp => h7 (.inr ⟨hk, hp⟩); omega
theorem of_ok {e : Ent} (h : OkE e) : checkE e = 0 := by
  obtain ⟨h1, h2, ⟨h3, h3'⟩, h4, h5, h6, h7, h7'⟩ := h
  unfold checkE checkN
  rw [if_neg (by omega), if_neg (by omega), if_neg, if_neg (by omega), if_neg (by omega), if_neg (by omega), if_neg]
  · rintro (h | ⟨h, h'⟩)
    · omega
    · rw [h7' h] at h'; simp at h'
  · rintro (h | ⟨h, h'⟩)
    · omega
    · rw [h3' h] at h'; simp at h'
def seqC (a b : Int) : Int := if a = 0 then b else a
def cmpI (a b : Int) : Int := if a < b then -1 else if b < a then 1 else 0
def firstI (x y : Bool) : Int := if x = y then 0 else if x then -1 else 1
def cmpE (a b : Ent) : Int :=
  seqC (cmpB a.row b.row) (seqC (cmpI a.fam b.fam) (seqC (firstI (a.kind == 5) (b.kind == 5)) (seqC (cmpB a.qual b.qual) (seqC (firstI (a.kind == 4) (b.kind == 4))
    (seqC (cmpI b.ts a.ts) (seqC (cmpI b.seq a.seq) (cmpI a.kind b.kind)))))))
structure Ord3 (c : Ent → Ent → Int) : Prop where
  swap : ∀ a b, c b a = - c a b
  trans : ∀ a b d, c a b ≤ 0 → c b d ≤ 0 → c a d ≤ 0
  eq : ∀ a b d, c a b = 0 → c a d = c b d
theorem Ord3.seq {c1 c2 : Ent → Ent → Int} (h1 : Ord3 c1) (h2 : Ord3 c2) : Ord3 fun a b => seqC (c1 a b) (c2 a b) := by
  refine ⟨fun a b => ?_, fun a b d hab hbd => ?_, fun a b d hab => ?_⟩
  · have e1 := h1.swap a b; have e2 := h2.swap a b
    simp only [seqC, e1, e2]
    split <;> split <;> omega
  · simp only [seqC] at hab hbd ⊢
    have q1 : c1 a b ≤ 0 := by split at hab <;> omega
    have q2 : c1 b d ≤ 0 := by split at hbd <;> omega
    have q3 := h1.trans a b d q1 q2
    by_cases h0 : c1 a d = 0
    · have e1 := h1.eq a d b h0
      have e2 := h1.swap b d
      have z1 : c1 a b = 0 := by omega
      have z2 : c1 b d = 0 := by omega
      rw [if_pos z1] at hab
      rw [if_pos z2] at hbd
      rw [if_pos h0]
      exact h2.trans a b d hab hbd
    · rw [if_neg h0]; exact q3
  · simp only [seqC] at hab ⊢
    have z1 : c1 a b = 0 := by split at hab <;> omega
    rw [if_pos z1] at hab
    rw [h1.eq a b d z1, h2.eq a b d hab]
theorem cmpB_zero : ∀ a b : List UInt8, cmpB a b = 0 → a = b := by
  intro a
  induction a with
  | nil => intro b h; cases b with
    | nil => rfl
    | cons y b => simp [cmpB] at h
  | cons x a ih =>
    intro b h
    cases b with
    | nil => simp [cmpB] at h
    | cons y b =>
      unfold cmpB at h
      split at h
      · exact absurd h (by decide)
      · split at h
        · exact absurd h (by decide)
        · rw [ih b h, show x = y from UInt8.toNat_inj.1 (by omega)]
theorem cmpB_trans : ∀ a b d : List UInt8, cmpB a b ≤ 0 → cmpB b d ≤ 0 → cmpB a d ≤ 0 := by
  intro a
  induction a with
  | nil => intro b d _ _; cases d <;> simp [cmpB]
  | cons x a ih =>
    intro b d h1 h2
    cases b with
    | nil => simp [cmpB] at h1
    | cons y b =>
      cases d with
      | nil => simp [cmpB] at h2
      | cons z d =>
        unfold cmpB at h1 h2 ⊢
        split at h1
        · split at h2
          · rw [if_pos (by omega)]; decide
          · split at h2
            · exact absurd h2 (by decide)
            · rw [if_pos (by omega)]; decide
        · split at h1
          · exact absurd h1 (by decide)
          · split at h2
            · rw [if_pos (by omega)]; decide
            · split at h2
              · exact absurd h2 (by decide)
              · rw [if_neg (by omega), if_neg (by omega)]; exact ih b d h1 h2
theorem ord_bytes (f : Ent → List UInt8) : Ord3 fun a b => cmpB (f a) (f b) :=
  ⟨fun a b => cmpB_swap _ _, fun a b d h1 h2 => cmpB_trans _ _ _ h1 h2, fun a b d h => by show cmpB (f a) (f d) = cmpB (f b) (f d); rw [cmpB_zero _ _ h]⟩
theorem ord_int (f : Ent → Int) : Ord3 fun a b => cmpI (f a) (f b) :=
  ⟨fun a b => by simp only [cmpI]; (repeat' split) <;> omega, fun a b d h1 h2 => by simp only [cmpI] at *; (repeat' split) <;> (repeat' split at h1) <;> (repeat' split at h2) <;> omega,
    fun a b d h => by simp only [cmpI] at *; (repeat' split) <;> (repeat' split at h) <;> omega⟩
theorem ord_tni (f : Ent → Int) : Ord3 fun a b => cmpI (f b) (f a) :=
  ⟨fun a b => by simp only [cmpI]; (repeat' split) <;> omega, fun a b d h1 h2 => by simp only [cmpI] at *; (repeat' split) <;> (repeat' split at h1) <;> (repeat' split at h2) <;> omega,
    fun a b d h => by simp only [cmpI] at *; (repeat' split) <;> (repeat' split at h) <;> omega⟩
theorem ord_first (f : Ent → Bool) : Ord3 fun a b => firstI (f a) (f b) :=
  ⟨fun a b => by cases f a <;> cases f b <;> decide, fun a b d => by cases f a <;> cases f b <;> cases f d <;> decide, fun a b d => by cases f a <;> cases f b <;> cases f d <;> decide⟩
theorem ord_E : Ord3 cmpE :=
  (ord_bytes Ent.row).seq ((ord_int Ent.fam).seq ((ord_first fun e => e.kind == 5).seq ((ord_bytes Ent.qual).seq ((ord_first fun e => e.kind == 4).seq
    ((ord_tni Ent.ts).seq ((ord_tni Ent.seq).seq (ord_int Ent.kind)))))))
def flg (b : Bool) : UInt8 := if b then 0 else 1
def numK (t : Int) : List UInt8 := risB (9223372036854775807 - t.toNat)
def qualK (e : Ent) : List UInt8 := if e.kind = 5 then [] else ordB e.qual ++ [flg (e.kind == 4)]
def tailK (e : Ent) : List UInt8 := numK e.ts ++ (numK e.seq ++ [UInt8.ofNat e.kind.toNat])
def keyE (e : Ent) : List UInt8 := ordB e.row ++ (UInt8.ofNat e.fam.toNat :: flg (e.kind == 5) :: (qualK e ++ tailK e))
theorem risB_len (v : Nat) : (risB v).length = 8 := rTo_len v 8
theorem cmpB_cc (c d : UInt8) (x y : List UInt8) : cmpB (c :: x) (d :: y) = if c.toNat < d.toNat then -1 else if d.toNat < c.toNat then 1 else cmpB x y := by rw [cmpB]
theorem cmp_app : ∀ (a b : List UInt8), a.length = b.length → ∀ x y, cmpB (a ++ x) (b ++ y) = seqC (cmpB a b) (cmpB x y)
  | [], [], _, x, y => by simp [seqC, cmpB]
  | [], _ :: _, h, _, _ => by simp at h
  | _ :: _, [], h, _, _ => by simp at h
  | c :: a, d :: b, h, x, y => by
    have ih := cmp_app a b (by simpa using h) x y
    rw [List.cons_append, List.cons_append, cmpB_cc, cmpB_cc]
    split
    · rfl
    · split
      · rfl
      · exact ih
theorem cmp_ord (a b x y : List UInt8) : cmpB (ordB a ++ x) (ordB b ++ y) = seqC (cmpB a b) (cmpB x y) := ord_sorts a b x y
theorem cmp_one (c d : UInt8) (x y : List UInt8) : cmpB (c :: x) (d :: y) = seqC (cmpI c.toNat d.toNat) (cmpB x y) := by
  rw [cmpB_cc]
  unfold cmpI seqC
  by_cases h1 : c.toNat < d.toNat
  · have h1' : (c.toNat : Int) < d.toNat := by omega
    simp only [if_pos h1, if_pos h1']; rfl
  · have h1' : ¬ (c.toNat : Int) < d.toNat := by omega
    simp only [if_neg h1, if_neg h1']
    by_cases h2 : d.toNat < c.toNat
    · have h2' : (d.toNat : Int) < c.toNat := by omega
      simp only [if_pos h2, if_pos h2']; rfl
    · have h2' : ¬ (d.toNat : Int) < c.toNat := by omega
      simp only [if_neg h2, if_neg h2']; rfl
theorem byte_val {t : Int} (h0 : 0 ≤ t) (h1 : t ≤ 255) : ((UInt8.ofNat t.toNat).toNat : Int) = t := by
  rw [UInt8.toNat_ofNat']; omega
theorem cmp_num {a b : Int} (ha : 0 ≤ a) (hb : 0 ≤ b) (ha' : a ≤ 17592186044431) (hb' : b ≤ 17592186044431) : cmpB (numK a) (numK b) = cmpI b a := by
  unfold numK cmpI
  rw [ris_sorts _ _ (by omega) (by omega)]
  by_cases h1 : b < a
  · rw [if_pos h1, if_pos (by omega)]
  · rw [if_neg h1, if_neg (by omega)]
    by_cases h2 : a < b
    · rw [if_pos h2, if_pos (by omega)]
    · rw [if_neg h2, if_neg (by omega)]
theorem cmp_flg (x y : Bool) : cmpI (flg x).toNat (flg y).toNat = firstI x y := by cases x <;> cases y <;> decide
theorem seqC_zero (a : Int) : seqC a 0 = a := by unfold seqC; split <;> omega
theorem tail_sorts {a b : Ent} (ha : OkE a) (hb : OkE b) : cmpB (tailK a) (tailK b) = seqC (cmpI b.ts a.ts) (seqC (cmpI b.seq a.seq) (cmpI a.kind b.kind)) := by
  have t1 := ha.ts; have t2 := hb.ts; have s1 := ha.seq; have s2 := hb.seq; have k1 := ha.kind; have k2 := hb.kind
  unfold tailK
  rw [cmp_app _ _ (by unfold numK; rw [risB_len, risB_len]), cmp_app _ _ (by unfold numK; rw [risB_len, risB_len]), cmp_num (by omega) (by omega) (by omega) (by omega), cmp_num (by omega) (by omega) (by omega) (by omega),
    cmp_one, byte_val (by omega) (by omega), byte_val (by omega) (by omega), show cmpB ([] : List UInt8) [] = 0 from rfl, seqC_zero]
theorem key_sorts {a b : Ent} (ha : OkE a) (hb : OkE b) : cmpB (keyE a) (keyE b) = cmpE a b := by
  have f1 := ha.fam; have f2 := hb.fam
  have hq : seqC (firstI (a.kind == 5) (b.kind == 5)) (cmpB (qualK a ++ tailK a) (qualK b ++ tailK b)) =
      seqC (firstI (a.kind == 5) (b.kind == 5)) (seqC (cmpB a.qual b.qual) (seqC (firstI (a.kind == 4) (b.kind == 4)) (cmpB (tailK a) (tailK b)))) := by
    unfold qualK
    by_cases h1 : a.kind = 5
    · by_cases h2 : b.kind = 5
      · rw [if_pos h1, if_pos h2, ha.qual.2 h1, hb.qual.2 h2, h1, h2]
        simp [seqC, firstI, cmpB]
      · rw [show (a.kind == 5) = true from by simpa using h1, show (b.kind == 5) = false from by simpa using h2]
        simp [seqC, firstI]
    · by_cases h2 : b.kind = 5
      · rw [show (a.kind == 5) = false from by simpa using h1, show (b.kind == 5) = true from by simpa using h2]
        simp [seqC, firstI]
      · rw [if_neg h1, if_neg h2, List.append_assoc, List.append_assoc, cmp_ord, List.singleton_append, List.singleton_append, cmp_one, cmp_flg]
  unfold keyE cmpE
  rw [cmp_ord, cmp_one, cmp_one, cmp_flg, byte_val (by omega) (by omega), byte_val (by omega) (by omega), hq, tail_sorts ha hb]
theorem numK_len (t : Int) : (numK t).length = 8 := risB_len _
theorem tailK_len (e : Ent) : (tailK e).length = 17 := by unfold tailK; simp [numK_len]
theorem qualK_len (e : Ent) : (qualK e).length ≤ 2 * e.qual.length + 3 := by
  unfold qualK
  split
  · simp
  · have := ordB_len e.qual; simp; omega
theorem keyE_len {e : Ent} (h : OkE e) : (keyE e).length ≤ 1048 := by
  have h1 := ordB_len e.row; have h2 := qualK_len e; have h3 := tailK_len e; have h4 := h.row; have h5 := h.qual.1
  unfold keyE
  simp only [List.length_append, List.length_cons]
  omega
def KeyE (e : Ent) : List UInt8 × Int := if checkE e = 0 then (keyE e, 0) else ([], checkE e)
def noEnt : Ent := ⟨[], 0, [], 0, 0, 0, []⟩
def atB (b : List UInt8) (k : Nat) : Nat := (b[k]?.getD 0).toNat
def parseN (b row : List UInt8) (fam : Nat) (qual : List UInt8) (a : Nat) : Option (Ent × Nat) :=
  if (readFl b (a : Nat)).2.2 ≠ 0 then none
  else if (readFl b ((readFl b (a : Nat)).2.1 : Nat)).2.2 ≠ 0 ∨ b.length ≤ (readFl b ((readFl b (a : Nat)).2.1 : Nat)).2.1 then none
  else some (⟨row, fam, qual, ((readFl b (a : Nat)).1 : Nat), ((readFl b ((readFl b (a : Nat)).2.1 : Nat)).1 : Nat), atB b (readFl b ((readFl b (a : Nat)).2.1 : Nat)).2.1, []⟩, (readFl b ((readFl b (a : Nat)).2.1 : Nat)).2.1 + 1)
def parseQ (b row : List UInt8) (fam : Nat) (a : Nat) : Option (Ent × Nat) :=
  if (readO b (a : Nat)).2.2 ≠ 0 ∨ b.length ≤ (readO b (a : Nat)).2.1 then none else parseN b row fam (readO b (a : Nat)).1 ((readO b (a : Nat)).2.1 + 1)
def parseE (b : List UInt8) : Option (Ent × Nat) :=
  if (readO b 0).2.2 ≠ 0 ∨ b.length < (readO b 0).2.1 + 2 then none
  else if atB b ((readO b 0).2.1 + 1) ≠ 0 then parseQ b (readO b 0).1 (atB b (readO b 0).2.1) ((readO b 0).2.1 + 2)
  else parseN b (readO b 0).1 (atB b (readO b 0).2.1) [] ((readO b 0).2.1 + 2)
def ParseKeyO (b : List UInt8) (o : Option (Ent × Nat)) : Ent × Int := match o with
  | none => (noEnt, 27)
  | some (e, _) => if checkE e = 0 ∧ keyE e = b then (e, 0) else (noEnt, 27)
def ParseKeyE (b : List UInt8) : Ent × Int := ParseKeyO b (parseE b)
theorem atB_mid (p : List UInt8) (c : UInt8) (r : List UInt8) {k : Nat} (hk : k = p.length) : atB (p ++ c :: r) k = c.toNat := by
  subst hk
  unfold atB
  rw [List.getElem?_append_right (Nat.le_refl _)]
  simp
theorem numK_back (p r : List UInt8) {t : Int} (h0 : 0 ≤ t) (h1 : t ≤ 17592186044431) {k : Nat} (hk : k = p.length) : readFl (p ++ (numK t ++ r)) (k : Nat) = (t.toNat, k + 8, 0) := by
  subst hk
  have := readFl_back p r t.toNat (by omega)
  rw [List.append_assoc] at this
  exact this
theorem readO_back' (p s r : List UInt8) {k : Nat} (hk : k = p.length) : readO (p ++ (ordB s ++ r)) (k : Nat) = (s, k + (ordB s).length, 0) := by
  subst hk
  have := readO_back p s r
  rw [List.append_assoc] at this
  exact this
theorem parseN_back {e : Ent} (h : OkE e) (p r : List UInt8) (row : List UInt8) (fam : Nat) (qual : List UInt8) {k : Nat} (hk : k = p.length) : parseN (p ++ (tailK e ++ r)) row fam qual k = some (⟨row, fam, qual, e.ts, e.seq, e.kind, []⟩, k + 17) := by
  have ht := h.ts; have hs := h.seq; have hd := h.kind
  have h1 : readFl (p ++ (tailK e ++ r)) (k : Nat) = (e.ts.toNat, k + 8, 0) := by
    have := numK_back p (numK e.seq ++ [UInt8.ofNat e.kind.toNat] ++ r) (t := e.ts) (by omega) (by omega) hk
    unfold tailK
    simp only [List.append_assoc] at *
    exact this
  have h2 : readFl (p ++ (tailK e ++ r)) ((k + 8 : Nat) : Nat) = (e.seq.toNat, k + 8 + 8, 0) := by
    have := numK_back (p ++ numK e.ts) ([UInt8.ofNat e.kind.toNat] ++ r) (t := e.seq) (by omega) (by omega) (k := k + 8) (by rw [List.length_append, numK_len]; omega)
    unfold tailK
    simp only [List.append_assoc] at *
    exact this
  have h3 : atB (p ++ (tailK e ++ r)) (k + 8 + 8) = e.kind.toNat := by
    have := atB_mid (p ++ (numK e.ts ++ numK e.seq)) (UInt8.ofNat e.kind.toNat) r (k := k + 8 + 8) (by simp only [List.length_append, numK_len]; omega)
    have e1 : (UInt8.ofNat e.kind.toNat).toNat = e.kind.toNat := by have := byte_val (t := e.kind) (by omega) (by omega); omega
    rw [e1] at this
    rw [← this]
    unfold tailK
    simp only [List.append_assoc, List.singleton_append]
  unfold parseN
  rw [h1]
  simp only
  rw [if_neg (by simp), h2]
  simp only
  rw [if_neg, h3]
  · have a1 : ((e.ts.toNat : Nat) : Int) = e.ts := by omega
    have a2 : ((e.seq.toNat : Nat) : Int) = e.seq := by omega
    have a3 : ((e.kind.toNat : Nat) : Int) = e.kind := by omega
    rw [a1, a2, a3]
  · rintro (h | h)
    · exact h rfl
    · simp only [List.length_append, tailK_len] at h
      omega
theorem ofN {t : Int} (h0 : 0 ≤ t) (h1 : t ≤ 255) : (UInt8.ofNat t.toNat).toNat = t.toNat := by have := byte_val h0 h1; omega
theorem parse_back {e : Ent} (h : OkE e) (r : List UInt8) : parseE (keyE e ++ r) = some ({ e with val := [] }, (keyE e).length) := by
  have hf := h.fam
  have hk : keyE e ++ r = ordB e.row ++ (UInt8.ofNat e.fam.toNat :: flg (e.kind == 5) :: (qualK e ++ tailK e ++ r)) := by unfold keyE; simp
  have h0 : readO (keyE e ++ r) 0 = (e.row, (ordB e.row).length, 0) := by
    rw [hk]
    have := readO_back' [] e.row (UInt8.ofNat e.fam.toNat :: flg (e.kind == 5) :: (qualK e ++ tailK e ++ r)) (k := 0) rfl
    simpa using this
  have h1 : atB (keyE e ++ r) (ordB e.row).length = e.fam.toNat := by
    rw [hk, atB_mid _ _ _ rfl, ofN (by omega) (by omega)]
  have h2 : atB (keyE e ++ r) ((ordB e.row).length + 1) = (flg (e.kind == 5)).toNat := by
    have := atB_mid (ordB e.row ++ [UInt8.ofNat e.fam.toNat]) (flg (e.kind == 5)) (qualK e ++ tailK e ++ r) (k := (ordB e.row).length + 1) (by simp)
    rw [hk, ← this]
    simp
  have hlen : ¬ ((keyE e ++ r).length < (ordB e.row).length + 2) := by rw [hk]; simp only [List.length_append, List.length_cons]; omega
  have e1 : ((e.fam.toNat : Nat) : Int) = e.fam := by omega
  unfold parseE
  rw [h0]
  simp only
  rw [if_neg (by rintro (h | h); exact h rfl; exact hlen h), h1, h2]
  by_cases h5 : e.kind = 5
  · have hb : (e.kind == 5) = true := by simpa using h5
    rw [hb, if_neg (by simp [flg])]
    have hq := h.qual.2 h5
    have hs : keyE e ++ r = (ordB e.row ++ [UInt8.ofNat e.fam.toNat, flg true]) ++ (tailK e ++ r) := by rw [hk, hb]; unfold qualK; rw [if_pos h5]; simp
    rw [hs, parseN_back h _ _ _ _ _ (by simp)]
    have hl : (keyE e).length = (ordB e.row).length + 2 + 17 := by
      unfold keyE qualK
      rw [if_pos h5]
      simp only [List.length_append, List.length_cons, tailK_len, List.length_nil]
    rw [hl, e1, hq]
  · have hb : (e.kind == 5) = false := by simpa using h5
    rw [hb, if_pos (by simp [flg])]
    have hs : keyE e ++ r = (ordB e.row ++ [UInt8.ofNat e.fam.toNat, flg false]) ++ (ordB e.qual ++ (flg (e.kind == 4) :: (tailK e ++ r))) := by rw [hk, hb]; unfold qualK; rw [if_neg h5]; simp
    have hs2 : keyE e ++ r = (ordB e.row ++ [UInt8.ofNat e.fam.toNat, flg false] ++ ordB e.qual ++ [flg (e.kind == 4)]) ++ (tailK e ++ r) := by rw [hs]; simp
    have h3 : readO (keyE e ++ r) (((ordB e.row).length + 2 : Nat) : Nat) = (e.qual, (ordB e.row).length + 2 + (ordB e.qual).length, 0) := by
      rw [hs]; exact readO_back' _ _ _ (by simp)
    unfold parseQ
    rw [h3]
    simp only
    have hlen2 : ¬ ((keyE e ++ r).length ≤ (ordB e.row).length + 2 + (ordB e.qual).length) := by rw [hs2]; simp only [List.length_append, List.length_cons, List.length_nil]; omega
    rw [if_neg (by rintro (h | h); exact h rfl; exact hlen2 h), hs2, parseN_back h _ _ _ _ _ (by simp only [List.length_append, List.length_cons, List.length_nil]), e1]
    have hl : (keyE e).length = (ordB e.row).length + 2 + (ordB e.qual).length + 1 + 17 := by
      unfold keyE qualK
      rw [if_neg h5]
      simp only [List.length_append, List.length_cons, tailK_len, List.length_nil]
      omega
    rw [hl]
theorem parse_key {e : Ent} (h : OkE e) : parseE (keyE e) = some ({ e with val := [] }, (keyE e).length) := by
  have := parse_back h []
  rwa [List.append_nil] at this
theorem OkE.bare {e : Ent} (h : OkE e) : OkE { e with val := [] } := ⟨h.row, h.fam, h.qual, h.ts, h.seq, h.kind, by simp, fun _ => rfl⟩
theorem ParseKey_back {e : Ent} (h : OkE e) : ParseKeyE (keyE e) = ({ e with val := [] }, 0) := by
  unfold ParseKeyE
  rw [parse_key h]
  exact if_pos ⟨of_ok h.bare, rfl⟩
theorem ParseKey_is {b : List UInt8} (h : (ParseKeyE b).2 = 0) : OkE (ParseKeyE b).1 ∧ keyE (ParseKeyE b).1 = b ∧ (ParseKeyE b).1.val = [] := by
  unfold ParseKeyE at h ⊢
  cases hp : parseE b with
  | none => rw [hp] at h; exact absurd (show (27 : Int) = 0 from h) (by decide)
  | some x =>
    obtain ⟨e, p⟩ := x
    rw [hp] at h
    simp only [ParseKeyO] at h ⊢
    split at h
    · rename_i hh
      rw [if_pos hh]
      have h1 := parse_key (ok_of hh.1)
      rw [hh.2, hp] at h1
      injection h1 with h1
      injection h1 with h1 _
      refine ⟨ok_of hh.1, hh.2, ?_⟩
      show e.val = []
      rw [h1]
    · exact absurd h (by decide)
theorem prefix_free {a b : Ent} (ha : OkE a) (hb : OkE b) (n : Nat) (hp : (keyE a).take n = (keyE b).take n) (hn : n = (keyE a).length) : keyE a = keyE b := by
  subst hn
  rw [List.take_length] at hp
  have h3 : keyE b = keyE a ++ (keyE b).drop (keyE a).length := by conv => lhs; rw [← List.take_append_drop (keyE a).length (keyE b), ← hp]
  have h4 := parse_back ha ((keyE b).drop (keyE a).length)
  rw [← h3, parse_key hb] at h4
  injection h4 with h4
  injection h4 with h4 h5
  rw [hp]
  exact List.take_of_length_le (by omega)
end Go.Proofs.YtfdbcfaeiglbeaaGreatDoor
namespace Go.Proofs.YtfdbcfaeiglbeaaGreatDoor
def shareN : List UInt8 → List UInt8 → Nat
  | a :: az, b :: bs => if a = b then shareN az bs + 1 else 0
  | _, _ => 0
theorem shareN_le : ∀ a b : List UInt8, shareN a b ≤ a.length ∧ shareN a b ≤ b.length
  | [], b => ⟨Nat.zero_le _, Nat.zero_le _⟩
  | a :: az, [] => ⟨Nat.zero_le _, Nat.zero_le _⟩
  | a :: az, b :: bs => by
    unfold shareN
    split
    · have := shareN_le az bs; exact ⟨Nat.succ_le_succ this.1, Nat.succ_le_succ this.2⟩
    · exact ⟨Nat.zero_le _, Nat.zero_le _⟩
theorem shareN_take : ∀ a b : List UInt8, a.take (shareN a b) = b.take (shareN a b)
  | [], b => by simp [shareN]
  | a :: az, [] => by simp [shareN]
  | a :: az, b :: bs => by
    unfold shareN
    split
    · rename_i h; subst h; simp [shareN_take az bs]
    · simp
theorem shareN_test : ∀ (a b : List UInt8) (k : Nat), k ≤ shareN a b → (k < shareN a b ↔ k < a.length ∧ k < b.length ∧ a[k]? = b[k]?)
  | [], b, k, h => by simp [shareN] at h ⊢
  | a :: az, [], k, h => by simp [shareN] at h ⊢
  | a :: az, b :: bs, k, h => by
    unfold shareN at h ⊢
    split at h
    · rename_i e
      rw [if_pos e]
      subst e
      cases k with
      | zero => simp
      | succ k =>
        have := shareN_test az bs k (by omega)
        simp only [List.length_cons, Nat.add_lt_add_iff_right, List.getElem?_cons_succ]
        omega
    · rename_i e
      rw [if_neg e]
      obtain rfl : k = 0 := by omega
      simp
      intro h; exact absurd h e
def rowK (n : Nat) (k v : List UInt8) : List UInt8 := uintB n ++ (uintB (k.drop n).length ++ k.drop n) ++ (uintB v.length ++ v)
structure BSt where
  body : List UInt8
  places : List Nat
  key : List UInt8
  n : Nat
def bst0 : BSt := ⟨[], [], [], 0⟩
def alikeB (R : Nat) (s : BSt) (k : List UInt8) : Nat := if s.n % R = 0 then 0 else shareN s.key k
def placesB (R : Nat) (s : BSt) : List Nat := if s.n % R = 0 then s.places ++ [s.body.length] else s.places
def stepB (R : Nat) (s : BSt) (k v : List UInt8) : BSt := ⟨s.body ++ rowK (alikeB R s k) k v, placesB R s, k, s.n + 1⟩
def runE (R : Nat) (s : BSt) (l : List Ent) : BSt := l.foldl (fun s e => stepB R s (keyE e) e.val) s
def runB (R : Nat) (l : List Ent) : BSt := runE R bst0 l
theorem runB_snoc (R : Nat) (l : List Ent) (e : Ent) : runB R (l ++ [e]) = stepB R (runB R l) (keyE e) e.val := by simp [runB, runE]
theorem runB_n (R : Nat) : ∀ l : List Ent, (runB R l).n = l.length := by
  have : ∀ (l : List Ent) (s : BSt), (runE R s l).n = s.n + l.length := by
    intro l
    induction l with
    | nil => intro s; rfl
    | cons e l ih => intro s; show (runE R (stepB R s (keyE e) e.val) l).n = _; rw [ih]; simp only [stepB, List.length_cons]; omega
  intro l
  have := this l bst0
  simpa [runB, bst0] using this
def four4 (n : Nat) : List UInt8 := [UInt8.ofNat (n / 16777216), UInt8.ofNat (n / 65536), UInt8.ofNat (n / 256), UInt8.ofNat n]
theorem four4_len (n : Nat) : (four4 n).length = 4 := rfl
def headB5 (R : Nat) (s : BSt) : List UInt8 := s.body ++ s.places.flatMap four4 ++ four4 s.n ++ [UInt8.ofNat R]
def layS (R : Nat) (s : BSt) : List UInt8 := headB5 R s ++ lowB (sumL (headB5 R s))
def layB (R : Nat) (l : List Ent) : List UInt8 := if l = [] then [] else layS R (runB R l)
def sizeS (s : BSt) : Nat := s.body.length + 4 * s.places.length + 9
theorem places_len (l : List Nat) : (l.flatMap four4).length = 4 * l.length := by
  induction l with
  | nil => rfl
  | cons a l ih => rw [List.flatMap_cons, List.length_append, ih, four4_len, List.length_cons]; omega
theorem lowB_len (s : Nat) : (lowB s).length = 4 := rfl
theorem layS_len (R : Nat) (s : BSt) : (layS R s).length = sizeS s := by
  unfold layS headB5 sizeS
  simp only [List.length_append, places_len, four4_len, lowB_len, List.length_singleton]
theorem layB_len (R : Nat) {l : List Ent} (h : l ≠ []) : (layB R l).length = sizeS (runB R l) := by
  unfold layB; rw [if_neg h, layS_len]
theorem row_u (p r : List UInt8) (al : Nat) (k v : List UInt8) (ha : al < 18446744073709551616) : readU (p ++ (rowK al k v ++ r)) (p.length : Int) = (al, p.length + (uintB al).length, 0) := by
  have := readU_back p ((uintB (k.drop al).length ++ k.drop al) ++ (uintB v.length ++ v) ++ r) al ha
  unfold rowK
  simp only [List.append_assoc] at *
  exact this
theorem row_k (p r : List UInt8) (al : Nat) (k v : List UInt8) (most : Int) (hk : (k.drop al).length < 18446744073709551616) (hm : ((k.drop al).length : Int) ≤ most) :
    readBy (p ++ (rowK al k v ++ r)) ((p.length + (uintB al).length : Nat) : Int) most = (k.drop al, p.length + (uintB al).length + (uintB (k.drop al).length ++ k.drop al).length, 0) := by
  have := readBy_back (p ++ uintB al) ((uintB v.length ++ v) ++ r) (k.drop al) most hk hm
  rw [List.length_append] at this
  unfold rowK
  simp only [List.append_assoc] at *
  exact this
theorem row_v (p r : List UInt8) (al : Nat) (k v : List UInt8) (most : Int) (hv : v.length < 18446744073709551616) (hm : (v.length : Int) ≤ most) :
    readBy (p ++ (rowK al k v ++ r)) ((p.length + (uintB al).length + (uintB (k.drop al).length ++ k.drop al).length : Nat) : Int) most = (v, p.length + (rowK al k v).length, 0) := by
  have := readBy_back (p ++ uintB al ++ (uintB (k.drop al).length ++ k.drop al)) r v most hv hm
  rw [List.length_append, List.length_append] at this
  have e : p.length + (rowK al k v).length = p.length + (uintB al).length + (uintB (k.drop al).length ++ k.drop al).length + (uintB v.length ++ v).length := by
    unfold rowK; rw [List.length_append, List.length_append]; omega
  rw [e, ← this]
  unfold rowK
  simp only [List.append_assoc]
theorem runB_take (R : Nat) (L : List Ent) {i : Nat} {e : Ent} (h : L[i]? = some e) : runB R (L.take (i + 1)) = stepB R (runB R (L.take i)) (keyE e) e.val := by
  rw [take_snoc h, runB_snoc]
theorem runE_body (R : Nat) : ∀ (l : List Ent) (s : BSt), ∃ t, (runE R s l).body = s.body ++ t
  | [], s => ⟨[], by simp [runE]⟩
  | e :: l, s => by
    obtain ⟨t, h⟩ := runE_body R l (stepB R s (keyE e) e.val)
    exact ⟨rowK (alikeB R s (keyE e)) (keyE e) e.val ++ t, by show (runE R (stepB R s (keyE e) e.val) l).body = _; rw [h]; simp [stepB]⟩
theorem runB_app (R : Nat) (l m : List Ent) : runB R (l ++ m) = runE R (runB R l) m := by simp [runB, runE]
theorem runB_body (R : Nat) (L : List Ent) {i : Nat} {e : Ent} (h : L[i]? = some e) : ∃ t, (runB R L).body = (runB R (L.take i)).body ++ (rowK (alikeB R (runB R (L.take i)) (keyE e)) (keyE e) e.val ++ t) := by
  have e1 : L = L.take (i + 1) ++ L.drop (i + 1) := (List.take_append_drop _ _).symm
  obtain ⟨t, ht⟩ := runE_body R (L.drop (i + 1)) (runB R (L.take (i + 1)))
  refine ⟨t, ?_⟩
  rw [congrArg (runB R) e1, runB_app, ht, runB_take R L h]
  simp [stepB]
theorem runB_key (R : Nat) : ∀ (L : List Ent) {e : Ent}, L.getLast? = some e → (runB R L).key = keyE e := fun L e h => by
  obtain ⟨l, rfl⟩ : ∃ l, L = l ++ [e] := by
    rcases List.eq_nil_or_concat L with rfl | ⟨l, a, rfl⟩
    · cases h
    · rw [List.concat_eq_append, List.getLast?_append] at h
      simp at h
      exact ⟨l, by rw [List.concat_eq_append, h]⟩
  rw [runB_snoc]; rfl
theorem alike_le (R : Nat) (s : BSt) (k : List UInt8) : alikeB R s k ≤ s.key.length ∧ alikeB R s k ≤ k.length := by
  unfold alikeB
  split
  · exact ⟨Nat.zero_le _, Nat.zero_le _⟩
  · exact shareN_le _ _
theorem alike_key (R : Nat) (s : BSt) (k : List UInt8) : s.key.take (alikeB R s k) ++ k.drop (alikeB R s k) = k := by
  have h : s.key.take (alikeB R s k) = k.take (alikeB R s k) := by
    unfold alikeB
    split
    · simp
    · exact shareN_take _ _
  rw [h, List.take_append_drop]
def lastOk (L : List Ent) (e : Ent) : Bool := match L.getLast? with
  | none => true
  | some l => decide (cmpE l e < 0)
def addC (R : Nat) (L : List Ent) (e : Ent) : Int := if checkE e ≠ 0 then checkE e else if lastOk L e = false then 30 else if 131072 < sizeS (stepB R (runB R L) (keyE e) e.val) then 53 else 0
def addL (R : Nat) (L : List Ent) (e : Ent) : List Ent := if addC R L e = 0 then L ++ [e] else L
def buildK (R : Nat) : List Ent → List Ent → Int × List Ent
  | acc, [] => (0, acc)
  | acc, e :: r => if addC R acc e = 0 then buildK R (acc ++ [e]) r else (addC R acc e, acc)
def finE (R : Nat) (L : List Ent) : List UInt8 × Int := if L = [] then ([], 54) else (layB R L, 0)
def buildE5 (R : Int) (es : List Ent) : List UInt8 × Int := if R < 1 ∨ 16 < R then ([], 1) else if (buildK R.toNat [] es).1 = 0 then finE R.toNat es else ([], (buildK R.toNat [] es).1)
theorem buildK_app (R : Nat) : ∀ (es : List Ent) (acc : List Ent) (r : List Ent), buildK R acc (es ++ r) = if (buildK R acc es).1 = 0 then buildK R (acc ++ es) r else buildK R acc es
  | [], acc, r => by simp [buildK]
  | e :: es, acc, r => by
    show (if addC R acc e = 0 then buildK R (acc ++ [e]) (es ++ r) else (addC R acc e, acc)) = if (if addC R acc e = 0 then buildK R (acc ++ [e]) es else (addC R acc e, acc)).1 = 0 then buildK R (acc ++ e :: es) r else (if addC R acc e = 0 then buildK R (acc ++ [e]) es else (addC R acc e, acc))
    by_cases h0 : addC R acc e = 0
    · simp only [h0, ↓reduceIte]
      rw [buildK_app R es (acc ++ [e]) r]
      simp
    · simp only [h0, ↓reduceIte]
theorem rowK_len (al : Nat) (k v : List UInt8) : 3 ≤ (rowK al k v).length := by
  unfold rowK
  simp only [List.length_append]
  have := uintB_pos al
  have := uintB_pos (k.drop al).length
  have := uintB_pos v.length
  omega
theorem runE_many (R : Nat) : ∀ (l : List Ent) (s : BSt), 3 * s.n ≤ s.body.length → 3 * (runE R s l).n ≤ (runE R s l).body.length
  | [], _, h => h
  | e :: l, s, h => runE_many R l (stepB R s (keyE e) e.val) (by
    have := rowK_len (alikeB R s (keyE e)) (keyE e) e.val
    simp only [stepB, List.length_append]; omega)
theorem runB_many (R : Nat) (l : List Ent) : 3 * (runB R l).n ≤ (runB R l).body.length := runE_many R l bst0 (Nat.le_refl 0)
theorem n_le_size (s : BSt) (h : 3 * s.n ≤ s.body.length) : 3 * s.n ≤ sizeS s := by unfold sizeS; omega
theorem keyE_pos (e : Ent) : 0 < (keyE e).length := by unfold keyE; simp only [List.length_append, List.length_cons]; omega
theorem cmpB_same (l : List UInt8) : cmpB l l = 0 := by
  induction l with
  | nil => simp [cmpB]
  | cons c l ih => rw [cmpB_cc, if_neg (by omega), if_neg (by omega), ih]
theorem alike_lt {R : Nat} {L : List Ent} {e : Ent} (hL : ∀ l, l ∈ L → checkE l = 0) (he : checkE e = 0) (hl : ¬ lastOk L e = false) : alikeB R (runB R L) (keyE e) < (keyE e).length := by
  have hpos := keyE_pos e
  have hle := (alike_le R (runB R L) (keyE e)).2
  rcases Nat.lt_or_ge (alikeB R (runB R L) (keyE e)) (keyE e).length with h | h
  · exact h
  have heq : alikeB R (runB R L) (keyE e) = (keyE e).length := by omega
  exfalso
  unfold alikeB at heq
  split at heq
  · omega
  · cases hg : L.getLast? with
    | none =>
      obtain rfl := List.getLast?_eq_none_iff.1 hg
      rename_i hn
      exact hn (by show 0 % R = 0; exact Nat.zero_mod R)
    | some l =>
      have hk := runB_key R L hg
      rw [hk] at heq
      have hoe := ok_of he
      have hol := ok_of (hL l (List.mem_of_getLast? hg))
      have ht := shareN_take (keyE l) (keyE e)
      rw [heq] at ht
      have hkk := prefix_free hoe hol _ ht.symm rfl
      have h0 : cmpE l e = 0 := by rw [← key_sorts hol hoe, hkk]; exact cmpB_same _
      apply hl
      unfold lastOk
      rw [hg]
      simp [h0]
def rd1 (b : List UInt8) (a : Nat) (key : List UInt8) : Option (Ent × List UInt8 × Nat) :=
  if (readU b (a : Nat)).2.2 ≠ 0 ∨ key.length < (readU b (a : Nat)).1 then none
  else if (readBy b (readU b (a : Nat)).2.1 (b.length : Nat)).2.2 ≠ 0 then none
  else if (readBy b (readBy b (readU b (a : Nat)).2.1 (b.length : Nat)).2.1 4096).2.2 ≠ 0 then none
  else if (ParseKeyE (key.take (readU b (a : Nat)).1 ++ (readBy b (readU b (a : Nat)).2.1 (b.length : Nat)).1)).2 ≠ 0 then none
  else some ({ (ParseKeyE (key.take (readU b (a : Nat)).1 ++ (readBy b (readU b (a : Nat)).2.1 (b.length : Nat)).1)).1 with val := (readBy b (readBy b (readU b (a : Nat)).2.1 (b.length : Nat)).2.1 4096).1 },
    key.take (readU b (a : Nat)).1 ++ (readBy b (readU b (a : Nat)).2.1 (b.length : Nat)).1, (readBy b (readBy b (readU b (a : Nat)).2.1 (b.length : Nat)).2.1 4096).2.1)
section
variable {b key k2 v : List UInt8} {a u p1 e1 p2 e2 p3 e3 : Nat} {e : Ent} {f : Int}
theorem rd1_a (h1 : readU b (a : Nat) = (u, p1, e1)) (h : e1 ≠ 0) : rd1 b a key = none := by unfold rd1; rw [h1, if_pos (.inl h)]
theorem rd1_b (h1 : readU b (a : Nat) = (u, p1, e1)) (h : key.length < u) : rd1 b a key = none := by unfold rd1; rw [h1, if_pos (.inr h)]
theorem rd1_go (h1 : readU b (a : Nat) = (u, p1, 0)) (h : u ≤ key.length) (h2 : readBy b p1 (b.length : Nat) = (k2, p2, e2)) : rd1 b a key = if e2 ≠ 0 then none
  else if (readBy b p2 4096).2.2 ≠ 0 then none
  else if (ParseKeyE (key.take u ++ k2)).2 ≠ 0 then none
  else some ({ (ParseKeyE (key.take u ++ k2)).1 with val := (readBy b p2 4096).1 }, key.take u ++ k2, (readBy b p2 4096).2.1) := by
  unfold rd1
  rw [h1]
  simp only [h2]
  rw [if_neg (by omega)]
theorem rd1_c (h1 : readU b (a : Nat) = (u, p1, 0)) (h : u ≤ key.length) (h2 : readBy b p1 (b.length : Nat) = (k2, p2, e2)) (h0 : e2 ≠ 0) : rd1 b a key = none := by rw [rd1_go h1 h h2, if_pos h0]
theorem rd1_d (h1 : readU b (a : Nat) = (u, p1, 0)) (h : u ≤ key.length) (h2 : readBy b p1 (b.length : Nat) = (k2, p2, 0)) (h3 : readBy b p2 4096 = (v, p3, e3)) (h0 : e3 ≠ 0) : rd1 b a key = none := by
  rw [rd1_go h1 h h2, h3, if_neg (by simp), if_pos h0]
theorem rd1_e (h1 : readU b (a : Nat) = (u, p1, 0)) (h : u ≤ key.length) (h2 : readBy b p1 (b.length : Nat) = (k2, p2, 0)) (h3 : readBy b p2 4096 = (v, p3, 0)) (h4 : ParseKeyE (key.take u ++ k2) = (e, f)) (h0 : f ≠ 0) : rd1 b a key = none := by
  rw [rd1_go h1 h h2, h3, h4, if_neg (by simp), if_neg (by simp), if_pos h0]
theorem rd1_ok (h1 : readU b (a : Nat) = (u, p1, 0)) (h : u ≤ key.length) (h2 : readBy b p1 (b.length : Nat) = (k2, p2, 0)) (h3 : readBy b p2 4096 = (v, p3, 0)) (h4 : ParseKeyE (key.take u ++ k2) = (e, 0)) : rd1 b a key = some ({ e with val := v }, key.take u ++ k2, p3) := by
  rw [rd1_go h1 h h2, h3, h4, if_neg (by simp), if_neg (by simp), if_neg (by simp)]
end
def rdF (b : List UInt8) : Nat → Option (List Ent × List UInt8 × Nat)
  | 0 => some ([], [], 0)
  | n + 1 => match rdF b n with
    | none => none
    | some (L, key, a) => match rd1 b a key with
      | none => none
      | some (e, key', a') => some (L ++ [e], key', a')
theorem rdF_none {b : List UInt8} {n m : Nat} (h : rdF b n = none) (hm : n ≤ m) : rdF b m = none := by
  induction m with
  | zero => obtain rfl : n = 0 := by omega
            exact h
  | succ m ih =>
    rcases Nat.lt_or_ge n (m + 1) with h1 | h1
    · show (match rdF b m with | none => none | some (L, key, a) => _) = none
      rw [ih (by omega)]
    · obtain rfl : n = m + 1 := by omega
      exact h
theorem rdF_step {b : List UInt8} {n : Nat} {L : List Ent} {key : List UInt8} {a : Nat} (h : rdF b n = some (L, key, a)) : rdF b (n + 1) = match rd1 b a key with
      | none => none
      | some (e, key', a') => some (L ++ [e], key', a') := by
  show (match rdF b n with | none => none | some (L, key, a) => _) = _
  rw [h]
theorem rdF_stop {b : List UInt8} {n m : Nat} {L : List Ent} {key : List UInt8} {a : Nat} (h : rdF b n = some (L, key, a)) (h1 : rd1 b a key = none) (hm : n < m) : rdF b m = none :=
  rdF_none (n := n + 1) (by rw [rdF_step h, h1]) hm
theorem rdF_go {b : List UInt8} {n : Nat} {L : List Ent} {key : List UInt8} {a : Nat} {e : Ent} {key' : List UInt8} {a' : Nat} (h : rdF b n = some (L, key, a)) (h1 : rd1 b a key = some (e, key', a')) : rdF b (n + 1) = some (L ++ [e], key', a') := by
  rw [rdF_step h, h1]
theorem rdF_len {b : List UInt8} : ∀ {n : Nat} {L : List Ent} {key : List UInt8} {a : Nat}, rdF b n = some (L, key, a) → L.length = n
  | 0, L, key, a, h => by injection h with h; injection h with h1 h; subst h1; rfl
  | n + 1, L, key, a, h => by
    cases h0 : rdF b n with
    | none => rw [rdF_none h0 (by omega)] at h; cases h
    | some r =>
      obtain ⟨L', k', a'⟩ := r
      rw [rdF_step h0] at h
      cases h1 : rd1 b a' k' with
      | none => rw [h1] at h; cases h
      | some r =>
        obtain ⟨e, k'', a''⟩ := r
        rw [h1] at h
        injection h with h; injection h with h2 h
        rw [← h2, List.length_append, rdF_len h0]; rfl
theorem uintB_lt64 {n : Nat} (h : n ≤ 1000000) : n < 18446744073709551616 := by omega
theorem rd1_back {b0 : List UInt8} (R : Nat) (L : List Ent) (t : List UInt8) (i : Nat) (e : Ent) (h : L[i]? = some e) (hok : ∀ l, l ∈ L → checkE l = 0) (hb : b0 = (runB R L).body ++ t) :
    rd1 b0 (runB R (L.take i)).body.length (runB R (L.take i)).key = some (e, keyE e, (runB R (L.take (i + 1))).body.length) := by
  obtain ⟨t', ht⟩ := runB_body R L h
  have he := ok_of (hok e (List.mem_of_getElem? h))
  obtain ⟨s, hs⟩ : ∃ s, s = runB R (L.take i) := ⟨_, rfl⟩
  rw [← hs] at ht ⊢
  have hal := alike_le R s (keyE e)
  have hak := alike_key R s (keyE e)
  obtain ⟨al, hale⟩ : ∃ z, z = alikeB R s (keyE e) := ⟨_, rfl⟩
  rw [← hale] at ht hal hak
  have hkl := keyE_len he
  have hvl := he.val.1
  have hb1 : b0 = s.body ++ (rowK al (keyE e) e.val ++ (t' ++ t)) := by rw [hb, ht]; simp [List.append_assoc]
  have hlen : (((keyE e).drop al).length : Int) ≤ (b0.length : Nat) := by
    rw [hb1]; unfold rowK
    simp only [List.length_append]; omega
  have h1 := row_u s.body (t' ++ t) al (keyE e) e.val (uintB_lt64 (by omega))
  have h2 := row_k s.body (t' ++ t) al (keyE e) e.val (b0.length : Nat) (uintB_lt64 (by rw [List.length_drop]; omega)) hlen
  have h3 := row_v s.body (t' ++ t) al (keyE e) e.val 4096 (uintB_lt64 (by omega)) (by omega)
  rw [← hb1] at h1 h2 h3
  have hP : ParseKeyE (s.key.take al ++ (keyE e).drop al) = ({ e with val := [] }, 0) := by rw [hak]; exact ParseKey_back he
  rw [rd1_ok h1 hal.1 h2 h3 hP, hak]
  have e2 : (runB R (L.take (i + 1))).body.length = s.body.length + (rowK al (keyE e) e.val).length := by
    rw [runB_take R L h, ← hs, hale]; show (s.body ++ _).length = _; rw [List.length_append]
  rw [e2]
theorem rdF_back (R : Nat) (L : List Ent) (t : List UInt8) (hok : ∀ l, l ∈ L → checkE l = 0) {b0 : List UInt8} (hb : b0 = (runB R L).body ++ t) : ∀ i, i ≤ L.length → rdF b0 i = some (L.take i, (runB R (L.take i)).key, (runB R (L.take i)).body.length)
  | 0, _ => rfl
  | i + 1, hi => by
    have h0 := rdF_back R L t hok hb i (by omega)
    have hk : L[i]? = some (L[i]'(by omega)) := List.getElem?_eq_getElem _
    have h1 := rd1_back R L t i _ hk hok hb
    rw [rdF_go h0 h1, take_snoc hk]
    rw [runB_snoc]; rfl
theorem buildK_checked (R : Nat) : ∀ (es acc : List Ent), (∀ l, l ∈ acc → checkE l = 0) → (buildK R acc es).1 = 0 → ∀ l, l ∈ acc ++ es → checkE l = 0
  | [], acc, ha, _ => by simpa using ha
  | e :: r, acc, ha, h => by
    unfold buildK at h
    split at h
    · rename_i h0
      have hc : checkE e = 0 := by
        unfold addC at h0
        split at h0
        · rename_i h1; exact absurd h0 h1
        · rename_i h1; exact Decidable.not_not.1 h1
      have := buildK_checked R r (acc ++ [e]) (fun l hl => by
        rcases List.mem_append.1 hl with h1 | h1
        · exact ha l h1
        · rw [List.mem_singleton.1 h1]; exact hc) h
      rw [List.append_assoc] at this
      exact this
    · rename_i h0; exact absurd h h0
theorem build_parts {R : Nat} {L : List Ent} {b : List UInt8} (h : buildE5 (R : Int) L = (b, 0)) : 1 ≤ R ∧ R ≤ 16 ∧ (buildK R [] L).1 = 0 ∧ L ≠ [] ∧ b = layS R (runB R L) ∧ ∀ l, l ∈ L → checkE l = 0 := by
  unfold buildE5 at h
  split at h
  · injection h with _ h; cases h
  · rename_i hR
    rw [Int.toNat_natCast] at h
    split at h
    · rename_i h0
      unfold finE at h
      split at h
      · injection h with _ h; cases h
      · rename_i hL
        injection h with h _
        refine ⟨by omega, by omega, h0, hL, ?_, ?_⟩
        · rw [← h]; unfold layB; rw [if_neg hL]
        · have := buildK_checked R L [] (fun l h => by cases h) h0
          simpa using this
    · rename_i h0; injection h with _ h; exact absurd h h0
theorem layS_foot (R : Nat) (s : BSt) : layS R s = s.body ++ (s.places.flatMap four4 ++ (four4 s.n ++ (UInt8.ofNat R :: lowB (sumL (headB5 R s))))) := by
  unfold layS headB5; simp [List.append_assoc]
def resB (b : List UInt8) : Nat := (b[b.length - 5]?.getD 0).toNat
def cntB (b : List UInt8) : Nat := numF b (b.length - 9)
def sumOkB (b : List UInt8) : Bool := lowB (sumL (b.take (b.length - 4))) == b.drop (b.length - 4)
def openR (b : List UInt8) : Option (List Ent × List UInt8 × Nat) → Option (List Ent) × Int
  | none => (none, 51)
  | some r => if buildE5 (resB b : Int) r.1 = (b, 0) then (some r.1, 0) else (none, 51)
def openE (b : List UInt8) : Option (List Ent) × Int :=
  if 131072 < b.length then (none, 2) else if b.length < 9 then (none, 51) else if sumOkB b = false then (none, 52) else openR b (rdF (b.take (b.length - 9)) (cntB b))
theorem buildK_size (R : Nat) : ∀ (es acc : List Ent), sizeS (runB R acc) ≤ 131072 → (buildK R acc es).1 = 0 → sizeS (runB R (acc ++ es)) ≤ 131072
  | [], acc, ha, _ => by simpa using ha
  | e :: r, acc, ha, h => by
    unfold buildK at h
    split at h
    · rename_i h0
      have := buildK_size R r (acc ++ [e]) (by
        rw [runB_snoc]
        unfold addC at h0
        split at h0
        · rename_i h1; exact absurd h0 h1
        · split at h0
          · cases h0
          · split at h0
            · cases h0
            · rename_i h1; exact Nat.le_of_not_lt h1) h
      rwa [List.append_assoc] at this
    · rename_i h0; exact absurd h h0
theorem numF_four (p r : List UInt8) {n k : Nat} (h : n < 4294967296) (hk : k = p.length) : numF (p ++ (four4 n ++ r)) k = n := by
  subst hk
  have e : ∀ j, (p ++ (four4 n ++ r))[p.length + j]? = (four4 n ++ r)[j]? := fun j => by rw [List.getElem?_append_right (by omega), Nat.add_sub_cancel_left]
  unfold numF
  have e0 := e 0
  rw [Nat.add_zero] at e0
  rw [e0, e 1, e 2, e 3]
  unfold four4 numB
  simp only [List.cons_append, List.nil_append, List.getElem?_cons_succ, List.getElem?_cons_zero, Option.getD_some, UInt8.toNat_ofNat']
  omega
theorem layS_len9 (R : Nat) (s : BSt) : (layS R s).length = s.body.length + (s.places.flatMap four4).length + 9 := by rw [layS_len]; unfold sizeS; rw [places_len]
theorem res_lay (R : Nat) (s : BSt) (h : R < 256) : resB (layS R s) = R := by
  unfold resB
  rw [layS_len9, layS_foot, ← List.append_assoc, ← List.append_assoc, List.getElem?_append_right (by simp only [List.length_append, four4_len]; omega)]
  rw [show s.body.length + (s.places.flatMap four4).length + 9 - 5 - (s.body ++ s.places.flatMap four4 ++ four4 s.n).length = 0 from by simp only [List.length_append, four4_len]; omega]
  show (UInt8.ofNat R).toNat = R
  rw [UInt8.toNat_ofNat']; omega
theorem cnt_lay (R : Nat) (s : BSt) (h : s.n < 4294967296) : cntB (layS R s) = s.n := by
  unfold cntB
  rw [layS_len9, layS_foot, ← List.append_assoc]
  exact numF_four _ _ h (by rw [List.length_append]; omega)
theorem sum_lay (R : Nat) (s : BSt) : sumOkB (layS R s) = true := by
  have hl : (layS R s).length - 4 = (headB5 R s).length := by unfold layS; rw [List.length_append, lowB_len]; omega
  unfold sumOkB
  rw [hl]
  unfold layS
  rw [List.take_left' rfl, List.drop_left' rfl]
  simp
theorem body_lay (R : Nat) (s : BSt) : (layS R s).take ((layS R s).length - 9) = s.body ++ s.places.flatMap four4 := by
  rw [layS_len9, layS_foot, ← List.append_assoc]
  exact List.take_left' (by rw [List.length_append]; omega)
theorem openE_lay {R : Nat} {L : List Ent} {b : List UInt8} (h : buildE5 (R : Int) L = (b, 0)) : openE b = (some L, 0) ∧ resB b = R := by
  obtain ⟨h1, h2, h3, h4, h5, h6⟩ := build_parts h
  have hsz : sizeS (runB R L) ≤ 131072 := by
    have := buildK_size R L [] (by show 9 ≤ 131072; decide) h3
    simpa using this
  have hn := runB_n R L
  have hm := n_le_size _ (runB_many R L)
  have hR : resB b = R := by rw [h5]; exact res_lay R _ (by omega)
  refine ⟨?_, hR⟩
  have hlen : b.length = sizeS (runB R L) := by rw [h5, layS_len]
  have h9 : 9 ≤ sizeS (runB R L) := by unfold sizeS; omega
  unfold openE
  rw [if_neg (by omega), if_neg (by omega), if_neg (by rw [h5, sum_lay]; decide)]
  have hc : cntB b = L.length := by rw [h5, cnt_lay R _ (by omega), hn]
  have hb : b.take (b.length - 9) = (runB R L).body ++ (runB R L).places.flatMap four4 := by rw [h5]; exact body_lay R _
  rw [hc, rdF_back R L _ h6 hb L.length (Nat.le_refl _), List.take_length]
  unfold openR
  simp only []
  rw [hR, if_pos h]
theorem openE_ok {b : List UInt8} {L : List Ent} (h : (openE b).1 = some L) : buildE5 (resB b : Int) L = (b, 0) ∧ (openE b).2 = 0 := by
  unfold openE at h ⊢
  split at h
  · cases h
  · split at h
    · cases h
    · split at h
      · cases h
      · rename_i h1 h2 h3
        rw [if_neg h1, if_neg h2, if_neg h3]
        cases hr : rdF (b.take (b.length - 9)) (cntB b) with
        | none => rw [hr] at h; cases h
        | some r =>
          rw [hr] at h
          unfold openR at h ⊢
          simp only [] at h ⊢
          split at h
          · rename_i h4
            injection h with h
            subst h
            rw [if_pos h4]
            exact ⟨h4, rfl⟩
          · cases h
theorem openE_no {b : List UInt8} (h : (openE b).1 = none) : (openE b).2 ≠ 0 := by
  unfold openE at h ⊢
  by_cases h1 : 131072 < b.length
  · rw [if_pos h1]; show (2 : Int) ≠ 0; decide
  rw [if_neg h1] at h ⊢
  by_cases h2 : b.length < 9
  · rw [if_pos h2]; show (51 : Int) ≠ 0; decide
  rw [if_neg h2] at h ⊢
  by_cases h3 : sumOkB b = false
  · rw [if_pos h3]; show (52 : Int) ≠ 0; decide
  rw [if_neg h3] at h ⊢
  cases hr : rdF (b.take (b.length - 9)) (cntB b) with
  | none => show ((51 : Int)) ≠ 0; decide
  | some r =>
    rw [hr] at h
    unfold openR at h ⊢
    simp only [] at h ⊢
    split at h
    · cases h
    · rename_i h4
      rw [if_neg h4]; show (51 : Int) ≠ 0; decide
def Asc (ks : List (List UInt8)) : Prop := ks.Pairwise fun a b => cmpB a b < 0
theorem cmpB_lt_trans {a b c : List UInt8} (h1 : cmpB a b < 0) (h2 : cmpB b c < 0) : cmpB a c < 0 := by
  have h3 := cmpB_trans a b c (by omega) (by omega)
  rcases Int.lt_or_eq_of_le h3 with h | h
  · exact h
  · have e := cmpB_zero _ _ h
    subst e
    have := cmpB_swap a b
    omega
theorem buildK_asc (R : Nat) : ∀ (es acc : List Ent), (∀ l, l ∈ acc → checkE l = 0) → Asc (acc.map keyE) → (buildK R acc es).1 = 0 → Asc ((acc ++ es).map keyE)
  | [], acc, _, ha, _ => by simpa using ha
  | e :: r, acc, hc, ha, h => by
    unfold buildK at h
    split at h
    · rename_i h0
      have h1 : checkE e = 0 := by
        unfold addC at h0
        split at h0
        · rename_i h1; exact absurd h0 h1
        · rename_i h1; exact Decidable.not_not.1 h1
      have h2 : lastOk acc e = true := by
        unfold addC at h0
        rw [if_neg (by rw [h1]; decide)] at h0
        split at h0
        · cases h0
        · rename_i h3; simpa using h3
      have hall : ∀ l, l ∈ acc ++ [e] → checkE l = 0 := fun l hl => by
        rcases List.mem_append.1 hl with h3 | h3
        · exact hc l h3
        · rw [List.mem_singleton.1 h3]; exact h1
      have h3 : Asc ((acc ++ [e]).map keyE) := by
        unfold Asc
        rw [List.map_append]
        refine List.pairwise_append.2 ⟨ha, List.pairwise_singleton _ _, fun a ha' b hb => ?_⟩
        obtain rfl := List.mem_singleton.1 hb
        rcases List.eq_nil_or_concat acc with h4 | ⟨l, z, h4⟩
        · subst h4; cases ha'
        · rw [List.concat_eq_append] at h4
          subst h4
          have h5 : cmpE z e < 0 := by
            unfold lastOk at h2
            rw [List.getLast?_append] at h2
            simpa using h2
          have h6 : cmpB (keyE z) (keyE e) < 0 := by rw [key_sorts (ok_of (hc z (by simp))) (ok_of h1)]; exact h5
          rw [List.map_append] at ha ha'
          rcases List.mem_append.1 ha' with h7 | h7
          · exact cmpB_lt_trans ((List.pairwise_append.1 ha).2.2 a h7 (keyE z) (by simp)) h6
          · have h7 : a ∈ [keyE z] := h7
            rw [List.mem_singleton.1 h7]; exact h6
      have := buildK_asc R r (acc ++ [e]) hall h3 h
      rwa [List.append_assoc] at this
    · rename_i h0; exact absurd h h0
theorem build_asc {R : Nat} {L : List Ent} {b : List UInt8} (h : buildE5 (R : Int) L = (b, 0)) : Asc (L.map keyE) := by
  obtain ⟨_, _, h3, _⟩ := build_parts h
  have := buildK_asc R L [] (fun l h => by cases h) List.Pairwise.nil h3
  simpa using this
def twN {α : Type} (p : α → Bool) (l : List α) : Nat := (l.takeWhile p).length
theorem twN_le {α : Type} (p : α → Bool) (l : List α) : twN p l ≤ l.length := (List.takeWhile_sublist _).length_le
theorem tw_iff {α : Type} {p : α → Bool} : ∀ {l : List α} {j : Nat} {x : α}, l[j]? = some x → j ≤ twN p l → (p x = true ↔ j < twN p l)
  | [], _, _, h, _ => by cases h
  | a :: l, j, x, h, hj => by
    unfold twN at hj ⊢
    rw [List.takeWhile_cons] at hj ⊢
    by_cases ha : p a = true
    · rw [if_pos ha] at hj ⊢
      cases j with
      | zero => injection h with h; subst h; simp [ha]
      | succ j =>
        have := tw_iff (p := p) (l := l) (j := j) (x := x) h (by unfold twN; simpa using hj)
        unfold twN at this
        rw [this, List.length_cons]; omega
    · rw [if_neg ha] at hj ⊢
      have hj : j ≤ 0 := hj
      obtain rfl : j = 0 := by omega
      injection h with h; subst h
      simp [ha]
def insN (m : List Ent) (e : Ent) : Nat := twN (fun x => decide (cmpE x e < 0)) m
def hitB (m : List Ent) (e : Ent) : Bool := match m[insN m e]? with
  | none => false
  | some x => cmpE x e == 0
def insE (m : List Ent) (e : Ent) : List Ent := if hitB m e = true then m else m.take (insN m e) ++ e :: m.drop (insN m e)
def AscE (m : List Ent) : Prop := m.Pairwise fun a b => cmpE a b < 0
theorem cmpE_lt_trans {a b c : Ent} (h1 : cmpE a b < 0) (h2 : cmpE b c < 0) : cmpE a c < 0 := by
  have h3 := ord_E.trans a b c (by omega) (by omega)
  rcases Int.lt_or_eq_of_le h3 with h | h
  · exact h
  · have h4 := ord_E.swap a c
    have h5 := ord_E.trans b c a (by omega) (by omega)
    have h6 := ord_E.swap b a
    omega
theorem ins_asc {m : List Ent} (hm : AscE m) (e : Ent) : AscE (insE m e) := by
  unfold insE
  split
  · exact hm
  · rename_i hh
    have e1 : m = m.take (insN m e) ++ m.drop (insN m e) := (List.take_append_drop _ _).symm
    have hp : (m.take (insN m e) ++ m.drop (insN m e)).Pairwise fun a b => cmpE a b < 0 := by rw [← e1]; exact hm
    obtain ⟨p1, p2, p3⟩ := List.pairwise_append.1 hp
    have hlow : ∀ x, x ∈ m.take (insN m e) → cmpE x e < 0 := fun x hx => by
      obtain ⟨j, hj⟩ := List.getElem?_of_mem hx
      have hlt : j < insN m e := by
        have := (List.getElem?_eq_some_iff.1 hj).1
        rw [List.length_take] at this; omega
      rw [List.getElem?_take_of_lt hlt] at hj
      have := (tw_iff (p := fun x => decide (cmpE x e < 0)) hj (Nat.le_of_lt hlt)).2 hlt
      simpa using this
    have hhigh : ∀ x, x ∈ m.drop (insN m e) → cmpE e x < 0 := fun x hx => by
      have hfirst : ∀ y, m[insN m e]? = some y → cmpE e y < 0 := fun y hy => by
        have h1 := tw_iff (p := fun x => decide (cmpE x e < 0)) hy (Nat.le_refl (insN m e))
        have h2 : ¬ cmpE y e < 0 := fun h => Nat.lt_irrefl _ (h1.1 (by simpa using h))
        have h3 : cmpE y e ≠ 0 := fun h => hh (by unfold hitB; rw [hy]; simp [h])
        have := ord_E.swap y e
        omega
      obtain ⟨j, hj⟩ := List.getElem?_of_mem hx
      rw [List.getElem?_drop] at hj
      obtain ⟨y, hy⟩ : ∃ y, m[insN m e]? = some y := ⟨_, List.getElem?_eq_getElem (by have := (List.getElem?_eq_some_iff.1 hj).1; omega)⟩
      rcases Nat.eq_zero_or_pos j with h0 | h0
      · subst h0
        rw [Nat.add_zero, hy] at hj
        injection hj with hj; subst hj
        exact hfirst _ hy
      · obtain ⟨h1, g1⟩ := List.getElem?_eq_some_iff.1 hy
        obtain ⟨h2, g2⟩ := List.getElem?_eq_some_iff.1 hj
        have h3 : cmpE y x < 0 := by
          have := List.pairwise_iff_getElem.1 hm (insN m e) (insN m e + j) h1 h2 (by omega)
          rw [g1, g2] at this
          exact this
        exact cmpE_lt_trans (hfirst y hy) h3
    refine List.pairwise_append.2 ⟨p1, List.pairwise_cons.2 ⟨hhigh, p2⟩, fun a ha b hb => ?_⟩
    rcases List.mem_cons.1 hb with rfl | hb
    · exact hlow a ha
    · exact p3 a ha b hb
end Go.Proofs.YtfdbcfaeiglbeaaGreatDoor
namespace Go.Proofs.YtfdbcfaeiglbeaaGreatDoor
open Go.RowKit
def hPrime : Nat := 1099511628211
def hBegin : Nat := 14695981039346656037
def two64 : Nat := 18446744073709551616
def hStep (h : Nat) (c : UInt8) : Nat := ((h ^^^ c.toNat) * hPrime) % two64
def hashN (l : List UInt8) : Nat := l.foldl hStep hBegin
theorem hashN_snoc (l : List UInt8) (c : UInt8) : hashN (l ++ [c]) = hStep (hashN l) c := by
  unfold hashN; rw [List.foldl_append, List.foldl_cons, List.foldl_nil]
theorem hStep_lt (h : Nat) (c : UInt8) : hStep h c < two64 := Nat.mod_lt _ (by unfold two64; omega)
theorem hashN_lt (l : List UInt8) : hashN l < two64 := by
  rcases List.eq_nil_or_concat l with rfl | ⟨a, c, rfl⟩
  · show hBegin < two64
    unfold hBegin two64; omega
  · rw [List.concat_eq_append, hashN_snoc]; exact hStep_lt _ _
def hHi (l : List UInt8) : Nat := hashN l / 4294967296
def hLo (l : List UInt8) : Nat := (hashN l % 4294967296) ||| 1
theorem hHi_lt (l : List UInt8) : hHi l < 4294967296 := by
  have := hashN_lt l; unfold two64 at this; unfold hHi; omega
theorem hLo_lt (l : List UInt8) : hLo l < 4294967296 := Nat.or_lt_two_pow (n := 32) (by omega) (by omega)
theorem hstep_walk (H : Nat) (x : UInt8) (hH : H < two64) : IntKind.u64.wrap (bits .xor .u64 (H : Int) (IntKind.u64.wrap (x.toNat : Int)) * 1099511628211) = ((hStep H x : Nat) : Int) := by
  have hx := x.toNat_lt
  have e1 : IntKind.u64.wrap (x.toNat : Int) = (x.toNat : Int) := by rw [IntKind.wrap_u64]; omega
  rw [e1, u64_xor_nat H x.toNat (by unfold two64 at hH; exact hH) (by omega), IntKind.wrap_u64]
  unfold hStep hPrime two64
  simp only [Int.natCast_emod, Int.natCast_mul]
  rfl
theorem hHi_walk (H : Nat) : (H : Int) / 4294967296 % 4294967296 = ((H / 4294967296 % 4294967296 : Nat) : Int) := by omega
theorem hLo_walk (H : Nat) : bits .or .u32 ((H : Int) % 4294967296) 1 = ((H % 4294967296 ||| 1 : Nat) : Int) := by
  have h := u32_or_nat (H % 4294967296) 1 (by omega) (by omega)
  rw [← h]; simp
def placeN (l : List UInt8) (m k : Nat) : Nat := (hHi l + k * hLo l) % 4294967296 % m
def placesN (l : List UInt8) (p m : Nat) : List Nat := (List.range p).map (placeN l m)
theorem placesN_succ (l : List UInt8) (p m : Nat) : placesN l (p + 1) m = placesN l p m ++ [placeN l m p] := by
  simp [placesN, List.range_succ]
theorem placeN_lt (l : List UInt8) (m k : Nat) (hm : 0 < m) : placeN l m k < m := Nat.mod_lt _ hm
def maskN (t : Nat) : Nat := 128 / 2 ^ t
def bitAt (l : List UInt8) (at' : Nat) : Bool := ((l[6 + at' / 8]?.getD 0).toNat &&& maskN (at' % 8)) != 0
def orBit (x : UInt8) (t : Nat) : UInt8 := UInt8.ofNat (x.toNat ||| maskN t)
def setBit (l : List UInt8) (at' : Nat) : List UInt8 := l.set (6 + at' / 8) (orBit (l[6 + at' / 8]?.getD 0) (at' % 8))
def setAll (l : List UInt8) (ps : List Nat) : List UInt8 := ps.foldl setBit l
theorem setAll_snoc (l : List UInt8) (ps : List Nat) (p : Nat) : setAll l (ps ++ [p]) = setBit (setAll l ps) p := by simp [setAll, List.foldl_append]
theorem maskN_lt (t : Nat) : maskN t < 256 := by
  unfold maskN
  have := Nat.div_le_self 128 (2 ^ t)
  omega
theorem maskN_walk (t : Nat) : (128 : Int) / 2 ^ t = ((maskN t : Nat) : Int) := by
  unfold maskN
  rw [Int.natCast_ediv, Int.natCast_pow]; rfl
theorem bit_walk (x : UInt8) (t : Nat) : (bits .and .u8 (x.toNat : Int) ((128 : Int) / 2 ^ t) != 0) = ((x.toNat &&& maskN t) != 0) := by
  have hx := x.toNat_lt
  rw [maskN_walk, u8_and_nat x.toNat (maskN t) (by omega) (maskN_lt t)]
  rw [Bool.eq_iff_iff, bne_iff_ne, bne_iff_ne]; omega
theorem orBit_walk (x : UInt8) (t : Nat) : bits .or .u8 (x.toNat : Int) ((128 : Int) / 2 ^ t) = (((orBit x t).toNat : Nat) : Int) := by
  have hx := x.toNat_lt
  have h := Nat.or_lt_two_pow (n := 8) (x := x.toNat) (y := maskN t) (by omega) (maskN_lt t)
  rw [maskN_walk, u8_or_nat x.toNat (maskN t) (by omega) (maskN_lt t)]
  unfold orBit
  rw [UInt8.toNat_ofNat', Nat.mod_eq_of_lt h]
def headN (x2 x3 x4 x5 : UInt8) : Nat := ((x2.toNat * 256 + x3.toNat) * 256 + x4.toNat) * 256 + x5.toNat
def shapeP (l : List UInt8) : Nat := if l.length < 6 ∨ l[0]? ≠ some 66 then 0 else (l[1]?.getD 0).toNat
def shapeM (l : List UInt8) : Nat := if l.length < 6 ∨ l[0]? ≠ some 66 then 0 else headN (l[2]?.getD 0) (l[3]?.getD 0) (l[4]?.getD 0) (l[5]?.getD 0)
def isF (l : List UInt8) : Bool := decide (1 ≤ shapeP l ∧ shapeP l ≤ 14 ∧ 64 ≤ shapeM l ∧ shapeM l ≤ 20971520 ∧ shapeM l % 8 = 0 ∧ l.length = 6 + shapeM l / 8)
theorem headN_lt (x2 x3 x4 x5 : UInt8) : headN x2 x3 x4 x5 < 4294967296 := by
  have := x2.toNat_lt; have := x3.toNat_lt; have := x4.toNat_lt; have := x5.toNat_lt
  unfold headN; omega
theorem shl_or (a b k : Nat) (h : b < 2 ^ k) : (a * 2 ^ k) ||| b = a * 2 ^ k + b := by
  rw [← Nat.shiftLeft_eq, Nat.shiftLeft_add_eq_or_of_lt h]
theorem head_walk (x2 x3 x4 x5 : UInt8) : ((x2.toNat * 16777216 ||| x3.toNat * 65536) ||| x4.toNat * 256) ||| x5.toNat = headN x2 x3 x4 x5 := by
  have h2 := x2.toNat_lt; have h3 := x3.toNat_lt; have h4 := x4.toNat_lt; have h5 := x5.toNat_lt
  unfold headN
  have e1 : x2.toNat * 16777216 ||| x3.toNat * 65536 = (x2.toNat * 256 + x3.toNat) * 65536 := by
    have := shl_or x2.toNat (x3.toNat * 65536) 24 (by omega)
    rw [show (2 : Nat) ^ 24 = 16777216 from rfl] at this
    rw [this]; omega
  have e2 : (x2.toNat * 256 + x3.toNat) * 65536 ||| x4.toNat * 256 = ((x2.toNat * 256 + x3.toNat) * 256 + x4.toNat) * 256 := by
    have := shl_or (x2.toNat * 256 + x3.toNat) (x4.toNat * 256) 16 (by omega)
    rw [show (2 : Nat) ^ 16 = 65536 from rfl] at this
    rw [this]; omega
  have e3 := shl_or ((x2.toNat * 256 + x3.toNat) * 256 + x4.toNat) x5.toNat 8 (by omega)
  rw [show (2 : Nat) ^ 8 = 256 from rfl] at e3
  rw [e1, e2, e3]
theorem head_bits (x2 x3 x4 x5 : UInt8) : bits .or .u32 (bits .or .u32 (bits .or .u32 ((x2.toNat : Int) * 16777216) ((x3.toNat : Int) * 65536)) ((x4.toNat : Int) * 256)) (x5.toNat : Int) = ((headN x2 x3 x4 x5 : Nat) : Int) := by
  have h2 := x2.toNat_lt; have h3 := x3.toNat_lt; have h4 := x4.toNat_lt; have h5 := x5.toNat_lt
  rw [show (x2.toNat : Int) * 16777216 = ((x2.toNat * 16777216 : Nat) : Int) from by omega, show (x3.toNat : Int) * 65536 = ((x3.toNat * 65536 : Nat) : Int) from by omega, show (x4.toNat : Int) * 256 = ((x4.toNat * 256 : Nat) : Int) from by omega]
  have l1 := Nat.or_lt_two_pow (n := 32) (x := x2.toNat * 16777216) (y := x3.toNat * 65536) (by omega) (by omega)
  have l2 := Nat.or_lt_two_pow (n := 32) (x := x2.toNat * 16777216 ||| x3.toNat * 65536) (y := x4.toNat * 256) l1 (by omega)
  rw [u32_or_nat _ _ (by omega) (by omega), u32_or_nat _ _ (by omega) (by omega), u32_or_nat _ _ (by omega) (by omega), head_walk]
def pack8 (b0 b1 b2 b3 b4 b5 b6 b7 : Bool) : Nat :=
  (if b0 then 128 else 0) + (if b1 then 64 else 0) + (if b2 then 32 else 0) + (if b3 then 16 else 0) + (if b4 then 8 else 0) + (if b5 then 4 else 0) + (if b6 then 2 else 0) + (if b7 then 1 else 0)
def bf_packB (f : Nat → Bool) : UInt8 := UInt8.ofNat (pack8 (f 0) (f 1) (f 2) (f 3) (f 4) (f 5) (f 6) (f 7))
theorem pack_fin : ∀ (b0 b1 b2 b3 b4 b5 b6 b7 : Bool) (t : Fin 8), orBit (UInt8.ofNat (pack8 b0 b1 b2 b3 b4 b5 b6 b7)) t.val =
    UInt8.ofNat (pack8 (b0 || t.val == 0) (b1 || t.val == 1) (b2 || t.val == 2) (b3 || t.val == 3) (b4 || t.val == 4) (b5 || t.val == 5) (b6 || t.val == 6) (b7 || t.val == 7)) := by decide +kernel
theorem bit_fin : ∀ (b0 b1 b2 b3 b4 b5 b6 b7 : Bool) (t : Fin 8), (((UInt8.ofNat (pack8 b0 b1 b2 b3 b4 b5 b6 b7)).toNat &&& maskN t.val) != 0) =
    (match t.val with | 0 => b0 | 1 => b1 | 2 => b2 | 3 => b3 | 4 => b4 | 5 => b5 | 6 => b6 | _ => b7) := by decide +kernel
theorem packB_or (f : Nat → Bool) (t : Nat) (ht : t < 8) : orBit (bf_packB f) t = bf_packB (fun i => f i || t == i) := pack_fin _ _ _ _ _ _ _ _ ⟨t, ht⟩
theorem packB_bit (f : Nat → Bool) (t : Nat) (ht : t < 8) : (((bf_packB f).toNat &&& maskN t) != 0) = f t := by
  have h := bit_fin (f 0) (f 1) (f 2) (f 3) (f 4) (f 5) (f 6) (f 7) ⟨t, ht⟩
  unfold bf_packB
  rw [h]
  match t, ht with
  | 0, _ => rfl
  | 1, _ => rfl
  | 2, _ => rfl
  | 3, _ => rfl
  | 4, _ => rfl
  | 5, _ => rfl
  | 6, _ => rfl
  | 7, _ => rfl
theorem packB_ext {f g : Nat → Bool} (h : ∀ t, t < 8 → f t = g t) : bf_packB f = bf_packB g := by
  unfold bf_packB
  rw [h 0 (by decide), h 1 (by decide), h 2 (by decide), h 3 (by decide), h 4 (by decide), h 5 (by decide), h 6 (by decide), h 7 (by decide)]
theorem packB_no : bf_packB (fun _ => false) = 0 := rfl
def headB (p m : Nat) : List UInt8 := [66, UInt8.ofNat p, UInt8.ofNat (m / 16777216), UInt8.ofNat (m / 65536), UInt8.ofNat (m / 256), UInt8.ofNat m]
def filterB (p m : Nat) (S : Nat → Bool) : List UInt8 := headB p m ++ (List.range (m / 8)).map fun j => bf_packB fun t => S (8 * j + t)
theorem filterB_length (p m : Nat) (S : Nat → Bool) : (filterB p m S).length = 6 + m / 8 := by simp [filterB, headB]; omega
theorem filterB_at (p m : Nat) (S : Nat → Bool) (j : Nat) (hj : j < m / 8) : (filterB p m S)[6 + j]? = some (bf_packB fun t => S (8 * j + t)) := by
  unfold filterB
  rw [List.getElem?_append_right (by simp [headB])]
  simp only [headB, List.length_cons, List.length_nil]
  rw [show 6 + j - (0 + 1 + 1 + 1 + 1 + 1 + 1) = j from by omega, List.getElem?_map, List.getElem?_range hj]; rfl
theorem filterB_head (p m : Nat) (S : Nat → Bool) (j : Nat) (hj : j < 6) : (filterB p m S)[j]? = (headB p m)[j]? := by
  unfold filterB
  rw [List.getElem?_append_left (by simp [headB]; omega)]
theorem filterB_ext (p m : Nat) {S T : Nat → Bool} (h : ∀ i, i < m → S i = T i) : filterB p m S = filterB p m T := by
  unfold filterB
  congr 1
  apply List.map_congr_left
  intro j hj
  have hj := List.mem_range.1 hj
  exact packB_ext fun t ht => h _ (by omega)
theorem filterB_set (p m : Nat) (S : Nat → Bool) (i : Nat) (hi : i < m) (h8 : m % 8 = 0) : setBit (filterB p m S) i = filterB p m (fun k => S k || i == k) := by
  have hj : i / 8 < m / 8 := by omega
  unfold setBit
  rw [filterB_at p m S (i / 8) hj]
  apply List.ext_getElem?
  intro k
  rw [List.getElem?_set]
  by_cases e : 6 + i / 8 = k
  · rw [if_pos e, if_pos (by rw [filterB_length]; omega), ← e, filterB_at _ _ _ _ hj]
    simp only [Option.getD_some]
    rw [packB_or _ _ (by omega)]
    congr 1
    apply packB_ext
    intro t ht
    have : (i % 8 == t) = (i == 8 * (i / 8) + t) := by
      rw [Bool.eq_iff_iff, beq_iff_eq, beq_iff_eq]; omega
    rw [this]
  · rw [if_neg e]
    by_cases hk : k < 6
    · rw [filterB_head _ _ _ _ hk, filterB_head _ _ _ _ hk]
    · by_cases hk2 : k < 6 + m / 8
      · obtain ⟨j, rfl⟩ : ∃ j, k = 6 + j := ⟨k - 6, by omega⟩
        rw [filterB_at _ _ _ _ (by omega), filterB_at _ _ _ _ (by omega)]
        congr 1
        apply packB_ext
        intro t ht
        have : (i == 8 * j + t) = false := by rw [beq_eq_false_iff_ne]; omega
        rw [this, Bool.or_false]
      · rw [List.getElem?_eq_none (by rw [filterB_length]; omega), List.getElem?_eq_none (by rw [filterB_length]; omega)]
theorem filterB_setAll (p m : Nat) (h8 : m % 8 = 0) : ∀ (ps : List Nat) (S : Nat → Bool), (∀ x ∈ ps, x < m) → setAll (filterB p m S) ps = filterB p m (fun k => S k || ps.contains k)
  | [], S, _ => by simp [setAll]
  | x :: ps, S, h => by
    show setAll (setBit (filterB p m S) x) ps = _
    rw [filterB_set p m S x (h x (by simp)) h8, filterB_setAll p m h8 ps _ (fun y hy => h y (by simp [hy]))]
    apply filterB_ext
    intro i _
    rw [List.contains_cons, Bool.or_assoc]
    congr 2
    rw [Bool.eq_iff_iff, beq_iff_eq, beq_iff_eq]; exact eq_comm
theorem filterB_bit (p m : Nat) (S : Nat → Bool) (i : Nat) (hi : i < m) (h8 : m % 8 = 0) : bitAt (filterB p m S) i = S i := by
  unfold bitAt
  rw [filterB_at p m S (i / 8) (by omega)]
  simp only [Option.getD_some]
  rw [packB_bit _ _ (by omega)]
  congr 1; omega
theorem placesN_lt (l : List UInt8) (p m : Nat) (hm : 0 < m) : ∀ x ∈ placesN l p m, x < m := by
  intro x hx
  obtain ⟨k, _, rfl⟩ := List.mem_map.1 hx
  exact placeN_lt l m k hm
def hdr0 (p m : Nat) : List UInt8 := ((List.replicate (6 + m / 8) 0).set 0 66).set 1 (UInt8.ofNat p)
def hdrTo (p m : Nat) : Nat → List UInt8
  | 0 => hdr0 p m
  | k + 1 => (hdrTo p m k).set (2 + k) (UInt8.ofNat (m / 2 ^ (24 - 8 * k)))
theorem hdrTo_length (p m k : Nat) : (hdrTo p m k).length = 6 + m / 8 := by
  induction k with
  | zero => simp [hdrTo, hdr0]
  | succ k ih => simp [hdrTo, ih]
theorem hdr_done (p m : Nat) : hdrTo p m 4 = filterB p m (fun _ => false) := by
  have e : (List.range (m / 8)).map (fun j => bf_packB fun t => (fun _ => false) (8 * j + t)) = List.replicate (m / 8) 0 := by
    rw [List.eq_replicate_iff]
    refine ⟨by simp, fun b hb => ?_⟩
    obtain ⟨_, _, rfl⟩ := List.mem_map.1 hb
    exact packB_no
  unfold filterB
  rw [e]
  have e2 : List.replicate (6 + m / 8) (0 : UInt8) = [0, 0, 0, 0, 0, 0] ++ List.replicate (m / 8) 0 := by
    rw [← List.replicate_append_replicate]; rfl
  simp only [hdrTo, hdr0, e2, headB]
  simp
end Go.Proofs.YtfdbcfaeiglbeaaGreatDoor
namespace Go.Proofs.YtfdbcfaeiglbeaaGreatDoor
open Go.RowKit Go.Maps
def addK (acc : List (List UInt8)) (k : List UInt8) : List (List UInt8) := if acc.contains k then acc else acc ++ [k]
def unl (ks : List (List UInt8)) : List (List UInt8) := ks.foldl addK []
theorem mem_addK (acc : List (List UInt8)) (k x : List UInt8) : x ∈ addK acc k ↔ x ∈ acc ∨ x = k := by
  unfold addK
  split
  · rename_i h
    have h := List.contains_iff_mem.1 h
    constructor
    · exact .inl
    · rintro (h1 | rfl)
      · exact h1
      · exact h
  · simp
theorem mem_foldK (ks acc : List (List UInt8)) (x : List UInt8) : x ∈ ks.foldl addK acc ↔ x ∈ acc ∨ x ∈ ks := by
  induction ks generalizing acc with
  | nil => simp
  | cons k ks ih => rw [List.foldl_cons, ih, mem_addK]; simp [or_assoc]
theorem mem_unl (ks : List (List UInt8)) (x : List UInt8) : x ∈ unl ks ↔ x ∈ ks := by unfold unl; rw [mem_foldK]; simp
theorem nodup_foldK (ks acc : List (List UInt8)) (h : acc.Nodup) : (ks.foldl addK acc).Nodup := by
  induction ks generalizing acc with
  | nil => exact h
  | cons k ks ih =>
    rw [List.foldl_cons]
    refine ih _ ?_
    unfold addK
    split
    · exact h
    · rename_i hk
      have hk : k ∉ acc := fun hm => hk (List.contains_iff_mem.2 hm)
      rw [List.nodup_append]
      exact ⟨h, by simp, fun a ha b hb => by rw [List.mem_singleton.1 hb]; intro e; exact hk (e ▸ ha)⟩
theorem nodup_unl (ks : List (List UInt8)) : (unl ks).Nodup := nodup_foldK _ _ List.nodup_nil
theorem length_le_of_nodup {α : Type} [DecidableEq α] : ∀ {a b : List α}, a.Nodup → (∀ x ∈ a, x ∈ b) → a.length ≤ b.length
  | [], _, _, _ => by simp
  | x :: a, b, hn, h => by
    have hn := List.nodup_cons.1 hn
    have hb : x ∈ b := h x (by simp)
    have := length_le_of_nodup (a := a) (b := b.erase x) hn.2 (fun y hy => (List.mem_erase_of_ne (fun e : y = x => hn.1 (e ▸ hy))).2 (h y (by simp [hy])))
    rw [List.length_erase_of_mem hb] at this
    have : 0 < b.length := List.length_pos_of_mem hb
    simp only [List.length_cons]; omega
theorem unl_le (ks : List (List UInt8)) : (unl ks).length ≤ ks.length := length_le_of_nodup (nodup_unl ks) fun x hx => (mem_unl ks x).1 hx
theorem str_same (a b : List UInt8) : (Lit.string a).sameKey (Lit.string b) = (a == b) := by
  rw [Bool.eq_iff_iff, WideAt.sameKey_iff (by trivial)]
  simp
theorem keys_lit (ks : List (List UInt8)) : ∀ x ∈ ks.map Lit.string, WideAt.IsKeyLit x := by
  intro x hx
  obtain ⟨k, _, rfl⟩ := List.mem_map.1 hx
  trivial
theorem size_keys (ks : List (List UInt8)) : Maps.size (setOf (H := Unit) (.lit (.bool true)) (ks.map Lit.string)) = (unl ks).length := by
  rw [size_setOf _ _ (keys_lit ks)]
  have : ∀ (ks acc : List (List UInt8)), (ks.map Lit.string).foldl addKey (acc.map Lit.string) = (ks.foldl addK acc).map Lit.string := by
    intro ks
    induction ks with
    | nil => intro acc; rfl
    | cons k ks ih =>
      intro acc
      rw [List.map_cons, List.foldl_cons, List.foldl_cons, ← ih]
      congr 1
      unfold addKey addK
      have : (acc.map Lit.string).any (fun y => y.sameKey (.string k)) = acc.contains k := by
        rw [List.any_map, Bool.eq_iff_iff, List.any_eq_true, List.contains_iff_mem]
        constructor
        · rintro ⟨x, hx, h⟩
          rw [Function.comp_apply, str_same, beq_iff_eq] at h
          exact h ▸ hx
        · intro h
          exact ⟨k, h, by rw [Function.comp_apply, str_same, beq_iff_eq]⟩
      rw [this]
      split <;> simp
  have h := this ks []
  rw [List.map_nil] at h
  rw [h]
  simp [unl]
theorem has_keys (ks : List (List UInt8)) (k : List UInt8) : Maps.has (setOf (H := Unit) (.lit (.bool true)) (ks.map Lit.string)) (.string k) = ks.contains k := by
  rw [has_setOf _ _ _ (keys_lit ks), List.any_map, Bool.eq_iff_iff, List.any_eq_true, List.contains_iff_mem]
  constructor
  · rintro ⟨x, hx, h⟩
    rw [Function.comp_apply, str_same, beq_iff_eq] at h
    exact h ▸ hx
  · intro h
    exact ⟨k, h, by rw [Function.comp_apply, str_same, beq_iff_eq]⟩
def buildP (bits : Int) : Nat := max 1 (7 * bits.toNat / 10)
def buildM (bits : Int) (ks : List (List UInt8)) : Nat := max 64 (((unl ks).length * bits.toNat + 7) / 8 * 8)
def buildS (p m : Nat) (ks : List (List UInt8)) : Nat → Bool := fun i => ks.any fun k => (placesN k p m).contains i
def buildB (bits : Int) (ks : List (List UInt8)) : List UInt8 := filterB (buildP bits) (buildM bits ks) (buildS (buildP bits) (buildM bits ks) ks)
def buildE (bits : Int) (ks : List (List UInt8)) : Nat := if bits < 1 ∨ 20 < bits then 60 else if 1048576 < ks.length then 61 else 0
theorem buildM_mod (bits : Int) (ks : List (List UInt8)) : buildM bits ks % 8 = 0 := by unfold buildM; omega
theorem buildM_ge (bits : Int) (ks : List (List UInt8)) : 64 ≤ buildM bits ks := by unfold buildM; omega
theorem buildE_zero {bits : Int} {ks : List (List UInt8)} (h : buildE bits ks = 0) : 1 ≤ bits ∧ bits ≤ 20 ∧ ks.length ≤ 1048576 := by
  unfold buildE at h
  split at h
  · cases h
  · split at h
    · cases h
    · omega
theorem buildM_raw {bits : Int} {ks : List (List UInt8)} (h1 : 1 ≤ bits) (h2 : bits ≤ 20) (h3 : ks.length ≤ 1048576) : (unl ks).length * bits.toNat ≤ 20971520 := by
  have := unl_le ks
  exact Nat.mul_le_mul (Nat.le_trans this h3) (show bits.toNat ≤ 20 by omega)
theorem buildM_le {bits : Int} {ks : List (List UInt8)} (h : buildE bits ks = 0) : buildM bits ks ≤ 20971520 := by
  obtain ⟨h1, h2, h3⟩ := buildE_zero h
  have := buildM_raw h1 h2 h3
  unfold buildM; omega
theorem buildP_le {bits : Int} {ks : List (List UInt8)} (h : buildE bits ks = 0) : 1 ≤ buildP bits ∧ buildP bits ≤ 14 := by
  obtain ⟨h1, h2, h3⟩ := buildE_zero h
  unfold buildP; omega
theorem buildB_length (bits : Int) (ks : List (List UInt8)) : (buildB bits ks).length = 6 + buildM bits ks / 8 := filterB_length _ _ _
def doneS (p m : Nat) (ks : List (List UInt8)) (left : Lit → Bool) : Nat → Bool := fun i => ks.any fun k => !left (.string k) && (placesN k p m).contains i
theorem doneS_start (p m : Nat) (ks : List (List UInt8)) (left : Lit → Bool) (h : ∀ k ∈ ks, left (.string k) = true) : doneS p m ks left = fun _ => false := by
  funext i
  unfold doneS
  rw [List.any_eq_false]
  intro k hk
  rw [h k hk]; simp
theorem doneS_end (p m : Nat) (ks : List (List UInt8)) (left : Lit → Bool) (h : ∀ k, left k = false) : doneS p m ks left = buildS p m ks := by
  funext i
  unfold doneS buildS
  simp [h]
theorem doneS_step (p m : Nat) (ks : List (List UInt8)) (left : Lit → Bool) (k : List UInt8) (hk : k ∈ ks) (i : Nat) :
    (doneS p m ks left i || (placesN k p m).contains i) = doneS p m ks (fun z => left z && !z.sameKey (.string k)) i := by
  unfold doneS
  rw [Bool.eq_iff_iff]
  simp only [Bool.or_eq_true, List.any_eq_true, Bool.and_eq_true, Bool.not_eq_true', str_same, Bool.and_eq_false_iff, Bool.not_eq_false', beq_iff_eq]
  constructor
  · rintro (⟨x, hx, h1, h2⟩ | h)
    · exact ⟨x, hx, .inl h1, h2⟩
    · exact ⟨k, hk, .inr rfl, h⟩
  · rintro ⟨x, hx, h1 | rfl, h2⟩
    · exact .inl ⟨x, hx, h1, h2⟩
    · exact .inr h2
end Go.Proofs.YtfdbcfaeiglbeaaGreatDoor
namespace Go.Proofs.YtfdbcfaeiglbeaaGreatDoor
open Go.RowKit
theorem wrap64_self {x : Int} (h1 : -9223372036854775808 ≤ x) (h2 : x < 9223372036854775808) : wrap64 x = x := by unfold wrap64; omega
theorem build_nums (nb : Nat) (ks : List (List UInt8)) (U P Q M R p D L : Nat) (hU : U = (unl ks).length) (hU2 : U * nb ≤ 20971520) (hnb1 : 1 ≤ nb) (hnb2 : nb ≤ 20) (hP : P = U * nb) (hQ : Q = (P + 7) / 8) (hM : M = buildM nb ks) (hR : R = 7 * nb / 10) (hp : p = buildP nb) (hD : D = M / 8) (hL : L = 6 + D) :
    wrap64 ((U : Int) * (nb : Int)) = (P : Int) ∧ wrap64 ((P : Int) + 7) = (P : Int) + 7 ∧ wrap64 (((P : Int) + 7).tdiv 8) = (Q : Int) ∧ wrap64 ((Q : Int) * 8) = (Q : Int) * 8 ∧ max 64 ((Q : Int) * 8) = (M : Int) ∧ wrap64 (7 * (nb : Int)) = 7 * (nb : Int) ∧
    wrap64 ((7 * (nb : Int)).tdiv 10) = (R : Int) ∧ max 1 (R : Int) = (p : Int) ∧ (M : Int) % 4294967296 = (M : Int) ∧ wrap64 ((M : Int).tdiv 8) = (D : Int) ∧ wrap64 (6 + (D : Int)) = (L : Int) ∧ 7 * (nb : Int) / 10 = (R : Int) ∧ (M : Int) / 8 = (D : Int) ∧ 6 + (D : Int) = (L : Int) ∧ M ≤ 20971520 ∧ 64 ≤ M ∧ M % 8 = 0 ∧ 1 ≤ p ∧ p ≤ 14 ∧ 14 ≤ L ∧ L ≤ 2621446 := by
  have e1 : (U : Int) * (nb : Int) = (P : Int) := by rw [← Int.natCast_mul, ← hP]
  rw [← hP] at hU2
  have hMQ : M = max 64 (Q * 8) := by
    rw [hM, hQ, hP, hU]
    show max 64 (((unl ks).length * (nb : Int).toNat + 7) / 8 * 8) = _
    rw [Int.toNat_natCast]
  have hpR : p = max 1 R := by
    rw [hp, hR]
    show max 1 (7 * (nb : Int).toNat / 10) = _
    rw [Int.toNat_natCast]
  clear hM hp hU hP
  have hM1 : M ≤ 20971520 ∧ 64 ≤ M ∧ M % 8 = 0 := by omega
  rw [e1]
  refine ⟨wrap64_self (by omega) (by omega), wrap64_self (by omega) (by omega), ?_, wrap64_self (by omega) (by omega), by omega, wrap64_self (by omega) (by omega), ?_, by omega, by omega, ?_, ?_, by omega, by omega, by omega, hM1.1, hM1.2.1, hM1.2.2, by omega, by omega, by omega, by omega⟩
  · rw [Int.tdiv_eq_ediv_of_nonneg (by omega), wrap64_self (by omega) (by omega)]; omega
  · rw [Int.tdiv_eq_ediv_of_nonneg (by omega), wrap64_self (by omega) (by omega)]; omega
  · rw [Int.tdiv_eq_ediv_of_nonneg (by omega), wrap64_self (by omega) (by omega)]; omega
  · rw [wrap64_self (by omega) (by omega)]; omega
theorem filterB_shape (p m : Nat) (S : Nat → Bool) (hp : p < 256) (hm : m < 4294967296) : shapeP (filterB p m S) = p ∧ shapeM (filterB p m S) = m := by
  have e0 := filterB_head p m S 0 (by decide)
  have e1 := filterB_head p m S 1 (by decide)
  have e2 := filterB_head p m S 2 (by decide)
  have e3 := filterB_head p m S 3 (by decide)
  have e4 := filterB_head p m S 4 (by decide)
  have e5 := filterB_head p m S 5 (by decide)
  have hl := filterB_length p m S
  unfold headB at e0 e1 e2 e3 e4 e5
  have hif : ¬((filterB p m S).length < 6 ∨ (filterB p m S)[0]? ≠ some 66) := by rw [e0, hl]; simp
  unfold shapeP shapeM
  rw [if_neg hif, if_neg hif, e1, e2, e3, e4, e5]
  simp only [List.getElem?_cons_succ, List.getElem?_cons_zero, Option.getD_some]
  unfold headN
  simp only [UInt8.toNat_ofNat']
  constructor <;> omega
theorem filterB_isF (p m : Nat) (S : Nat → Bool) (hp1 : 1 ≤ p) (hp2 : p ≤ 14) (hm1 : 64 ≤ m) (hm2 : m ≤ 20971520) (h8 : m % 8 = 0) : isF (filterB p m S) = true := by
  obtain ⟨e1, e2⟩ := filterB_shape p m S (by omega) (by omega)
  unfold isF
  rw [e1, e2, filterB_length]
  exact decide_eq_true ⟨hp1, hp2, hm1, hm2, h8, rfl⟩
section
variable {bits : Int} {ks js : List (List UInt8)}
theorem buildB_isF (h : buildE bits ks = 0) : isF (buildB bits ks) = true :=
  filterB_isF _ _ _ (buildP_le h).1 (buildP_le h).2 (buildM_ge _ _) (buildM_le h) (buildM_mod _ _)
end
structure OptR where
  block : Int
  bits : Int
  index : Int
  low : Int
  clock : Int
def magR : List UInt8 := [83, 84, 82, 65, 84, 65, 45, 82]
def sealI (index low clock : Int) : Bool := decide (0 ≤ index) && decide (index ≤ 1099511627776) && decide (1 ≤ clock) && decide (clock ≤ 1099511627776) && decide (0 ≤ low) && decide (low < clock)
def optOk (o : OptR) : Bool := decide (64 ≤ o.block) && decide (o.block ≤ 65536) && decide (0 ≤ o.bits) && decide (o.bits ≤ 20) && sealI o.index o.low o.clock
theorem optOk.iff {o : OptR} (h : optOk o = true) : (64 ≤ o.block ∧ o.block ≤ 65536 ∧ 0 ≤ o.bits ∧ o.bits ≤ 20) ∧ sealI o.index o.low o.clock = true := by
  unfold optOk at h
  simp only [Bool.and_eq_true, decide_eq_true_eq] at h
  exact ⟨⟨h.1.1.1.1, h.1.1.1.2, h.1.1.2, h.1.2⟩, h.2⟩
theorem sealI.iff {i l c : Int} (h : sealI i l c = true) : 0 ≤ i ∧ i ≤ 1099511627776 ∧ 1 ≤ c ∧ c ≤ 1099511627776 ∧ 0 ≤ l ∧ l < c := by
  unfold sealI at h
  simp only [Bool.and_eq_true, decide_eq_true_eq] at h
  exact ⟨h.1.1.1.1.1, h.1.1.1.1.2, h.1.1.1.2, h.1.1.2, h.1.2, h.2⟩
def outP (p : Option Ent) (e : Ent) : Bool := match p with
  | none => false
  | some q => decide (0 ≤ cmpE q e)
def lookE (index : Int) : Option Ent → List Ent → Int
  | _, [] => 0
  | p, e :: r => if checkE e ≠ 0 then checkE e else if 16 * index + 15 < e.seq then 24 else if outP p e = true then 30 else lookE index (some e) r
def prevE (L : List Ent) (i : Nat) : Option Ent := if i = 0 then none else L[i - 1]?
def lookD (index : Int) (L : List Ent) (i : Nat) : Int := lookE index (prevE L i) (L.drop i)
theorem lookD_end (index : Int) (L : List Ent) {i : Nat} (h : L.length ≤ i) : lookD index L i = 0 := by
  unfold lookD; rw [List.drop_eq_nil_of_le h]; cases prevE L i <;> rfl
theorem lookD_step (index : Int) (L : List Ent) {i : Nat} {e : Ent} (h : L[i]? = some e) : lookD index L i = if checkE e ≠ 0 then checkE e else if 16 * index + 15 < e.seq then 24 else if outP (prevE L i) e = true then 30 else lookD index L (i + 1) := by
  obtain ⟨hi, he⟩ := List.getElem?_eq_some_iff.1 h
  have h1 : L.drop i = e :: L.drop (i + 1) := by rw [← he]; exact (List.drop_eq_getElem_cons hi)
  have h2 : prevE L (i + 1) = some e := by unfold prevE; rw [if_neg (by omega), Nat.add_sub_cancel]; exact h
  unfold lookD
  rw [h1, h2]
  rfl
structure LookOk (index : Int) (L : List Ent) : Prop where
  chk : ∀ e, e ∈ L → checkE e = 0
  seq : ∀ e, e ∈ L → e.seq ≤ 16 * index + 15
  asc : ∀ i a b, L[i]? = some a → L[i + 1]? = some b → cmpE a b < 0
theorem lookE_ok {index : Int} : ∀ {L : List Ent} {p : Option Ent}, lookE index p L = 0 → (∀ e, e ∈ L → checkE e = 0 ∧ e.seq ≤ 16 * index + 15) ∧ (∀ q e, p = some q → L[0]? = some e → cmpE q e < 0) ∧ ∀ i a b, L[i]? = some a → L[i + 1]? = some b → cmpE a b < 0
  | [], p, _ => ⟨fun e h => (by cases h), fun q e _ h => (by cases h), fun i a b h => (by cases i <;> cases h)⟩
  | e :: r, p, h => by
    unfold lookE at h
    split at h
    · rename_i h0; exact absurd h h0
    rename_i h0
    split at h
    · cases h
    rename_i h1
    split at h
    · cases h
    rename_i h2
    obtain ⟨a1, a2, a3⟩ := lookE_ok h
    refine ⟨fun x hx => ?_, fun q x hp hx => ?_, fun i a b ha hb => ?_⟩
    · rcases List.mem_cons.1 hx with rfl | hx
      · exact ⟨Decidable.byContradiction h0, by omega⟩
      · exact a1 x hx
    · subst hp
      cases hx
      unfold outP at h2
      simp only [decide_eq_true_eq] at h2
      omega
    · cases i with
      | zero => cases ha; exact a2 _ _ rfl hb
      | succ i => exact a3 i a b ha hb
theorem look_ok {index : Int} {L : List Ent} (h : lookE index none L = 0) : LookOk index L := by
  obtain ⟨a1, _, a3⟩ := lookE_ok h
  exact ⟨fun e he => (a1 e he).1, fun e he => (a1 e he).2, a3⟩
theorem asc_of_next : ∀ {L : List Ent}, (∀ i a b, L[i]? = some a → L[i + 1]? = some b → cmpE a b < 0) → AscE L
  | [], _ => List.Pairwise.nil
  | [a], _ => List.Pairwise.cons (fun _ h => by cases h) List.Pairwise.nil
  | a :: b :: r, h => by
    have h1 : AscE (b :: r) := asc_of_next fun i x y hx hy => h (i + 1) x y hx hy
    have hab : cmpE a b < 0 := h 0 a b rfl rfl
    refine List.Pairwise.cons (fun x hx => ?_) h1
    rcases List.mem_cons.1 hx with rfl | hx
    · exact hab
    · exact cmpE_lt_trans hab ((List.pairwise_cons.1 h1).1 x hx)
theorem LookOk.ascE {index : Int} {L : List Ent} (h : LookOk index L) : AscE L := asc_of_next h.asc
def cutR (t : Nat) : List Ent → List Ent → List (List Ent)
  | now, [] => if now = [] then [] else [now]
  | now, e :: r => if now ≠ [] ∧ t ≤ sizeS (runB 16 now) then now :: cutR t [e] r else cutR t (now ++ [e]) r
def fullR (t : Nat) (now : List Ent) : Prop := now ≠ [] ∧ t ≤ sizeS (runB 16 now)
theorem cutR_add {t : Nat} {now r : List Ent} {e : Ent} (h : ¬ fullR t now) : cutR t now (e :: r) = cutR t (now ++ [e]) r := by
  show (if now ≠ [] ∧ t ≤ sizeS (runB 16 now) then now :: cutR t [e] r else cutR t (now ++ [e]) r) = _
  rw [if_neg (show ¬ (now ≠ [] ∧ t ≤ sizeS (runB 16 now)) from h)]
theorem cutR_full {t : Nat} {now r : List Ent} (h : fullR t now) : cutR t now r = now :: cutR t [] r := by
  cases r with
  | nil => show (if now = [] then [] else [now]) = _; rw [if_neg h.1]; rfl
  | cons e r =>
    show (if now ≠ [] ∧ t ≤ sizeS (runB 16 now) then now :: cutR t [e] r else cutR t (now ++ [e]) r) = _
    rw [if_pos (show now ≠ [] ∧ t ≤ sizeS (runB 16 now) from h), cutR_add (now := []) (fun h => h.1 rfl)]; rfl
theorem cutR_last {t : Nat} {now : List Ent} (h : now ≠ []) : cutR t now [] = [now] := by
  show (if now = [] then [] else [now]) = _; rw [if_neg h]
theorem cutR_flat (t : Nat) : ∀ (r now : List Ent), (cutR t now r).flatten = now ++ r
  | [], now => by
    show (if now = [] then [] else [now] : List (List Ent)).flatten = _
    split
    · rename_i h; rw [h]; rfl
    · simp
  | e :: r, now => by
    show (if now ≠ [] ∧ t ≤ sizeS (runB 16 now) then now :: cutR t [e] r else cutR t (now ++ [e]) r).flatten = _
    split
    · rw [List.flatten_cons, cutR_flat t r]; rfl
    · rw [cutR_flat t r, List.append_assoc]; rfl
theorem cutR_all (t : Nat) {E : Ent → Prop} {P : List Ent → Prop} (hP : ∀ now e, E e → now = [] ∨ sizeS (runB 16 now) < t → P now → P (now ++ [e])) : ∀ (r now : List Ent), (∀ e, e ∈ r → E e) → (now ≠ [] → P now) → P [] → ∀ c, c ∈ cutR t now r → c ≠ [] ∧ P c
  | [], now, _, h, _, c, hc => by
    unfold cutR at hc
    split at hc
    · cases hc
    · rename_i h0
      cases List.mem_singleton.1 hc
      exact ⟨h0, h h0⟩
  | e :: r, now, hE, h, h0, c, hc => by
    unfold cutR at hc
    split at hc
    · rename_i hf
      rcases List.mem_cons.1 hc with rfl | hc
      · exact ⟨hf.1, h hf.1⟩
      · exact cutR_all t hP r [e] (fun x hx => hE x (.tail _ hx)) (fun _ => hP [] e (hE e (.head _)) (.inl rfl) h0) h0 c hc
    · rename_i hf
      refine cutR_all t hP r (now ++ [e]) (fun x hx => hE x (.tail _ hx)) (fun _ => hP now e (hE e (.head _)) ?_ ?_) h0 c hc
      · by_cases hn : now = []
        · exact .inl hn
        · exact .inr (Nat.lt_of_not_le fun hs => hf ⟨hn, hs⟩)
      · by_cases hn : now = []
        · rw [hn]; exact h0
        · exact h hn
def rowStep (acc : List (List UInt8)) (e : Ent) : List (List UInt8) := if acc.getLast? = some e.row then acc else acc ++ [e.row]
def rowsE (L : List Ent) : List (List UInt8) := L.foldl rowStep []
theorem rowsE_snoc (L : List Ent) (e : Ent) : rowsE (L ++ [e]) = rowStep (rowsE L) e := by unfold rowsE; rw [List.foldl_append]; rfl
theorem rowStep_last (acc : List (List UInt8)) (e : Ent) : (rowStep acc e).getLast? = some e.row := by
  unfold rowStep
  split
  · assumption
  · simp
theorem rowsE_last {L : List Ent} {i : Nat} {e : Ent} (h : L[i]? = some e) : (rowsE (L.take (i + 1))).getLast? = some e.row := by
  rw [take_snoc h, rowsE_snoc]; exact rowStep_last _ _
theorem rowsE_le : ∀ (L : List Ent), (rowsE L).length ≤ L.length := by
  intro L
  suffices h : ∀ (L : List Ent) (acc : List (List UInt8)), (L.foldl rowStep acc).length ≤ acc.length + L.length by have := h L []; simpa [rowsE] using this
  intro L
  induction L with
  | nil => intro acc; simp
  | cons e r ih =>
    intro acc
    have := ih (rowStep acc e)
    have h2 : (rowStep acc e).length ≤ acc.length + 1 := by unfold rowStep; split <;> simp
    simp only [List.foldl_cons, List.length_cons]
    omega
theorem rowsE_in {L : List Ent} {e : Ent} (h : e ∈ L) : e.row ∈ rowsE L := by
  have hk : ∀ (r : List Ent) (acc : List (List UInt8)) x, x ∈ acc → x ∈ r.foldl rowStep acc := by
    intro r
    induction r with
    | nil => intro acc x hx; exact hx
    | cons a r ih => intro acc x hx; exact ih _ x (by unfold rowStep; split; exact hx; exact List.mem_append_left _ hx)
  suffices hs : ∀ (L : List Ent) (acc : List (List UInt8)), e ∈ L → e.row ∈ L.foldl rowStep acc from hs L [] h
  intro L
  induction L with
  | nil => intro acc h; cases h
  | cons a r ih =>
    intro acc h
    rcases List.mem_cons.1 h with rfl | h
    · refine hk r _ _ ?_
      have := rowStep_last acc e
      exact List.mem_of_getLast? this
    · exact ih _ h
def keyB (k : List UInt8) : List UInt8 := uintB k.length ++ k
def firstK (c : List Ent) : List UInt8 := (c.head?.map keyE).getD []
def lastK (c : List Ent) : List UInt8 := (c.getLast?.map keyE).getD []
def blocksR (cs : List (List Ent)) : List UInt8 := cs.flatMap (layB 16)
def partR (c : List Ent) : List UInt8 := keyB (firstK c) ++ keyB (lastK c) ++ uintB (layB 16 c).length
def partsR (cs : List (List Ent)) : List UInt8 := cs.flatMap partR
def indexR (cs : List (List Ent)) : List UInt8 := uintB cs.length ++ partsR cs
def sumdB (b : List UInt8) : List UInt8 := b ++ lowB (sumL b)
def filtR (o : OptR) (L : List Ent) : List UInt8 := if 0 < o.bits then buildB o.bits (rowsE L) else []
def headR (cs : List (List Ent)) : List UInt8 := magR ++ blocksR cs
def numsR (o : OptR) (L : List Ent) (cs : List (List Ent)) : List Nat := [L.length, o.index.toNat, o.low.toNat, o.clock.toNat, cs.length, (headR cs).length, (headR cs ++ sumdB (filtR o L)).length]
def risBs (ns : List Nat) : List UInt8 := ns.flatMap risB
def runC (o : OptR) (L : List Ent) (cs : List (List Ent)) : List UInt8 := headR cs ++ sumdB (filtR o L) ++ sumdB (indexR cs) ++ frameB (risBs (numsR o L cs))
def runBy (o : OptR) (L : List Ent) : List UInt8 := runC o L (cutR o.block.toNat [] L)
def refuseR (o : OptR) (L : List Ent) : Int := if optOk o = false then 74 else if L = [] then 71 else lookE o.index none L
def writeR (o : OptR) (L : List Ent) : List UInt8 × Int := if refuseR o L ≠ 0 then ([], refuseR o L) else if 16777216 < (runBy o L).length then ([], 2) else (runBy o L, 0)
theorem partsR_snoc (cs : List (List Ent)) (c : List Ent) : partsR (cs ++ [c]) = partsR cs ++ keyB (firstK c) ++ keyB (lastK c) ++ uintB (layB 16 c).length := by
  unfold partsR; rw [List.flatMap_append]; simp [partR, List.append_assoc]
theorem firstK_at {c : List Ent} {e : Ent} (h : c[0]? = some e) : firstK c = keyE e := by
  cases c with
  | nil => cases h
  | cons a r => cases h; rfl
theorem lastK_at {c : List Ent} {e : Ent} (h : c[c.length - 1]? = some e) : lastK c = keyE e := by
  unfold lastK; rw [List.getLast?_eq_getElem?, h]; rfl
def numAt (f : List UInt8) (i : Nat) : Nat := (readR f ((8 * i : Nat) : Int)).1
def numOk (f : List UInt8) (i : Nat) : Bool := decide ((readR f ((8 * i : Nat) : Int)).2.2 = 0)
def footO (b : List UInt8) : Option (List UInt8) :=
  if b.length < 68 then none else if (readFA b ((b.length - 68 : Nat) : Int)).2.2 ≠ 0 ∨ (readFA b ((b.length - 68 : Nat) : Int)).2.1 ≠ b.length ∨ (readFA b ((b.length - 68 : Nat) : Int)).1.length ≠ 56 then none else some (readFA b ((b.length - 68 : Nat) : Int)).1
def allOk (f : List UInt8) : Bool := (List.range 7).all (numOk f)
def numsO (b : List UInt8) : Option (List Nat) := match footO b with
  | none => none
  | some f => if allOk f = true then some ((List.range 7).map (numAt f)) else none
structure PcR where
  a : List UInt8
  b : List UInt8
  lo : Nat
  hi : Nat
def behR (p : Option (List UInt8)) (a : List UInt8) : Bool := match p with
  | none => false
  | some q => decide (0 ≤ cmpB q a)
def pc1 (x : List UInt8) (p at' end' : Nat) (prev : Option (List UInt8)) : Option (PcR × Nat) :=
  if (readBy x (p : Int) (x.length : Int)).2.2 ≠ 0 then none
  else if (readBy x ((readBy x (p : Int) (x.length : Int)).2.1 : Int) (x.length : Int)).2.2 ≠ 0 then none
  else if (readU x ((readBy x ((readBy x (p : Int) (x.length : Int)).2.1 : Int) (x.length : Int)).2.1 : Int)).2.2 ≠ 0 then none
  else if (readU x ((readBy x ((readBy x (p : Int) (x.length : Int)).2.1 : Int) (x.length : Int)).2.1 : Int)).1 = 0 ∨ end' - at' < (readU x ((readBy x ((readBy x (p : Int) (x.length : Int)).2.1 : Int) (x.length : Int)).2.1 : Int)).1 then none
  else if (ParseKeyE (readBy x (p : Int) (x.length : Int)).1).2 ≠ 0 ∨ (ParseKeyE (readBy x ((readBy x (p : Int) (x.length : Int)).2.1 : Int) (x.length : Int)).1).2 ≠ 0 ∨ 0 < cmpB (readBy x (p : Int) (x.length : Int)).1 (readBy x ((readBy x (p : Int) (x.length : Int)).2.1 : Int) (x.length : Int)).1 then none
  else if behR prev (readBy x (p : Int) (x.length : Int)).1 = true then none
  else some (⟨(readBy x (p : Int) (x.length : Int)).1, (readBy x ((readBy x (p : Int) (x.length : Int)).2.1 : Int) (x.length : Int)).1, at', at' + (readU x ((readBy x ((readBy x (p : Int) (x.length : Int)).2.1 : Int) (x.length : Int)).2.1 : Int)).1⟩, (readU x ((readBy x ((readBy x (p : Int) (x.length : Int)).2.1 : Int) (x.length : Int)).2.1 : Int)).2.1)
def pcsF (x : List UInt8) (end' : Nat) : Nat → Nat → Nat → Option (List UInt8) → Option (List PcR × Nat × Nat)
  | 0, p, at', _ => some ([], p, at')
  | n + 1, p, at', prev => match pc1 x p at' end' prev with
    | none => none
    | some (c, q) => match pcsF x end' n q c.hi (some c.b) with
      | none => none
      | some (l, r) => some (c :: l, r)
def pcsO (x : List UInt8) (n end' : Nat) : Option (List PcR) :=
  if (readU x 0).2.2 ≠ 0 ∨ (readU x 0).1 ≠ n then none else match pcsF x end' n (readU x 0).2.1 8 none with
  | none => none
  | some (l, p, at') => if p = x.length ∧ at' = end' then some l else none
def unsB (b : List UInt8) : Bool := b.drop (b.length - 4) == lowB (sumL (b.take (b.length - 4)))
structure RunR where
  bytes : List UInt8
  count : Nat
  index : Nat
  low : Nat
  clock : Nat
  filt : List UInt8
  ps : List PcR
def openN (b : List UInt8) (ns : List Nat) : Option RunR :=
  match ns with
  | [count, index, low, clock, blocks, fAt, iAt] =>
    if sealI index low clock = false ∨ blocks < 1 ∨ count < blocks then none
    else if fAt < 8 ∨ iAt < fAt + 4 ∨ b.length < iAt + 72 then none
    else if unsB (cutS b fAt (iAt - fAt)) = false ∨ unsB (cutS b iAt (b.length - 68 - iAt)) = false then none
    else if cutS b fAt (iAt - fAt - 4) ≠ [] ∧ isF (cutS b fAt (iAt - fAt - 4)) = false then none
    else match pcsO (cutS b iAt (b.length - 72 - iAt)) blocks fAt with
      | none => none
      | some l => some ⟨b, count, index, low, clock, cutS b fAt (iAt - fAt - 4), l⟩
  | _ => none
def openP (b : List UInt8) : Option RunR := if b.take 8 ≠ magR then none else match numsO b with
  | none => none
  | some ns => openN b ns
def openR7 (b : List UInt8) : Option RunR × Int := if 16777216 < b.length then (none, 2) else match openP b with
  | none => (none, 72)
  | some r => (some r, 0)
def blkR (r : RunR) (p : PcR) : Option (List Ent) := match openE (cutS r.bytes p.lo (p.hi - p.lo)) with
  | (some L, _) => if firstK L = p.a ∧ lastK L = p.b then some L else none
  | (none, _) => none
def allF (r : RunR) : List PcR → List Ent × Bool
  | [] => ([], true)
  | p :: l => match blkR r p with
    | none => ([], false)
    | some L => (L ++ (allF r l).1, (allF r l).2)
def allR (r : RunR) : List Ent × Bool := allF r r.ps
def keyP (k : List UInt8) : Ent := (ParseKeyE k).1
def seekF (r : RunR) (e : Ent) : List PcR → List Ent × Bool
  | [] => ([], true)
  | p :: l => if cmpE (keyP p.b) e < 0 then seekF r e l else match blkR r p with
    | none => ([], false)
    | some L => (L.filter (fun x => decide (0 ≤ cmpE x e)) ++ (seekF r e l).1, (seekF r e l).2)
theorem cutF_mid (a b c : List UInt8) {k m : Nat} (hk : k = a.length) (hm : m = b.length) : cutF (a ++ b ++ c) k m = b := by
  subst hk; subst hm
  unfold cutF
  rw [List.append_assoc, List.drop_left' rfl, List.take_left' rfl]
theorem numF_cut (X : List UInt8) (k : Nat) : numF X k = numF (cutF X k 4) 0 := by
  unfold numF cutF
  simp [List.getElem?_drop]
theorem numF_be4 (n : Nat) (h : n < 4294967296) : numF (be4 n) 0 = n := by
  unfold numF be4 numB
  simp
  omega
theorem frame_parts (p s r : List UInt8) : (p ++ frameB s ++ r = p ++ be4 s.length ++ (lowB (sumL (be4 s.length)) ++ s ++ lowB (sumL s) ++ r))
    ∧ (p ++ frameB s ++ r = (p ++ be4 s.length) ++ lowB (sumL (be4 s.length)) ++ (s ++ lowB (sumL s) ++ r))
    ∧ (p ++ frameB s ++ r = (p ++ be4 s.length ++ lowB (sumL (be4 s.length))) ++ s ++ (lowB (sumL s) ++ r))
    ∧ (p ++ frameB s ++ r = (p ++ be4 s.length ++ lowB (sumL (be4 s.length)) ++ s) ++ lowB (sumL s) ++ r) := by
  unfold frameB headF
  refine ⟨?_, ?_, ?_, ?_⟩ <;> simp
theorem readF_back (p s r : List UInt8) (hs : s.length ≤ 1048576) : readF (p ++ frameB s ++ r) p.length = (s, p.length + (s.length + 12), 0) := by
  obtain ⟨q1, q2, q3, q4⟩ := frame_parts p s r
  have c1 : cutF (p ++ frameB s ++ r) p.length 4 = be4 s.length := by rw [q1]; exact cutF_mid _ _ _ rfl rfl
  have c2 : cutF (p ++ frameB s ++ r) (p.length + 4) 4 = lowB (sumL (be4 s.length)) := by rw [q2]; exact cutF_mid _ _ _ (by rw [List.length_append]; rfl) rfl
  have c3 : cutF (p ++ frameB s ++ r) (p.length + 8) s.length = s := by rw [q3]; exact cutF_mid _ _ _ (by rw [List.length_append, List.length_append]; rfl) rfl
  have c4 : cutF (p ++ frameB s ++ r) (p.length + 8 + s.length) 4 = lowB (sumL s) := by rw [q4]; exact cutF_mid _ _ _ (by rw [List.length_append, List.length_append, List.length_append]; rfl) rfl
  have hn : numF (p ++ frameB s ++ r) p.length = s.length := by rw [numF_cut, c1, numF_be4 _ (by omega)]
  have hl : (p ++ frameB s ++ r).length = p.length + (s.length + 12) + r.length := by rw [List.length_append, List.length_append, frameB_length]
  have b2 : ∀ k u, isB (p ++ frameB s ++ r) k u = (cutF (p ++ frameB s ++ r) k 4 == lowB u) := fun _ _ => rfl
  unfold readF
  rw [b2, b2, hn, c1, c2, c3, c4, hl, if_neg (by omega), if_neg (by simp), if_neg (by omega), if_neg (by omega), if_neg (by simp)]
  simp only [Prod.mk.injEq, true_and, and_true]
  omega
theorem readFA_back (p s r : List UInt8) (hs : s.length ≤ 1048576) : readFA (p ++ frameB s ++ r) (p.length : Int) = (s, p.length + (frameB s).length, 0) := by
  unfold readFA
  rw [if_neg (by simp only [List.length_append]; omega), Int.toNat_natCast, readF_back p s r hs, frameB_length]
theorem risBs_cons (v : Nat) (ns : List Nat) : risBs (v :: ns) = risB v ++ risBs ns := rfl
theorem risBs_app (a b : List Nat) : risBs (a ++ b) = risBs a ++ risBs b := by unfold risBs; rw [List.flatMap_append]
theorem risBs_len : ∀ ns : List Nat, (risBs ns).length = 8 * ns.length
  | [] => rfl
  | v :: ns => by rw [risBs_cons, List.length_append, risB_len, risBs_len ns, List.length_cons]; omega
theorem readR_ris {ns : List Nat} {i v : Nat} (h : ns[i]? = some v) (hv : v < 9223372036854775808) : readR (risBs ns) ((8 * i : Nat) : Int) = (v, 8 * i + 8, 0) := by
  obtain ⟨hi, he⟩ := List.getElem?_eq_some_iff.1 h
  have h1 : ns = ns.take i ++ v :: ns.drop (i + 1) := by rw [← he]; rw [← List.drop_eq_getElem_cons hi, List.take_append_drop]
  have h2 : risBs ns = risBs (ns.take i) ++ risB v ++ risBs (ns.drop (i + 1)) := by
    have := congrArg risBs h1
    rw [risBs_app, risBs_cons] at this
    rw [List.append_assoc]; exact this
  have h3 : (risBs (ns.take i)).length = 8 * i := by rw [risBs_len, List.length_take]; omega
  have h4 := readR_back (risBs (ns.take i)) (risBs (ns.drop (i + 1))) v hv
  rw [← h2, h3] at h4
  exact h4
theorem numAt_ris {ns : List Nat} {i v : Nat} (h : ns[i]? = some v) (hv : v < 9223372036854775808) : numAt (risBs ns) i = v ∧ numOk (risBs ns) i = true := by
  unfold numAt numOk
  rw [readR_ris h hv]
  exact ⟨rfl, rfl⟩
theorem nums_back {ns : List Nat} (h7 : ns.length = 7) (hv : ∀ v, v ∈ ns → v < 9223372036854775808) : allOk (risBs ns) = true ∧ (List.range 7).map (numAt (risBs ns)) = ns := by
  have hb : ∀ i, i < 7 → ∃ v, ns[i]? = some v ∧ numAt (risBs ns) i = v ∧ numOk (risBs ns) i = true := fun i hi => by
    have he : ns[i]? = some (ns[i]'(by omega)) := List.getElem?_eq_getElem (by omega)
    exact ⟨_, he, numAt_ris he (hv _ (List.mem_of_getElem? he))⟩
  constructor
  · unfold allOk
    rw [List.all_eq_true]
    intro i hi
    obtain ⟨v, _, _, h⟩ := hb i (List.mem_range.1 hi)
    exact h
  · apply List.ext_getElem?
    intro i
    by_cases hi : i < 7
    · obtain ⟨v, h1, h2, _⟩ := hb i hi
      rw [List.getElem?_map, List.getElem?_range hi, h1]
      exact congrArg some h2
    · rw [List.getElem?_eq_none (by rw [List.length_map, List.length_range]; omega), List.getElem?_eq_none (by omega)]
theorem footO_back (p f : List UInt8) (hf : f.length = 56) : footO (p ++ frameB f) = some f := by
  have hl : (p ++ frameB f).length = p.length + 68 := by rw [List.length_append, frameB_length, hf]
  have h1 := readFA_back p f [] (by omega)
  rw [List.append_nil, frameB_length, hf] at h1
  unfold footO
  rw [hl, if_neg (by omega), Nat.add_sub_cancel, h1]
  rw [if_neg]
  rintro (h | h | h)
  · exact h rfl
  · exact h rfl
  · exact h hf
theorem numsO_back (p : List UInt8) {ns : List Nat} (h7 : ns.length = 7) (hv : ∀ v, v ∈ ns → v < 9223372036854775808) : numsO (p ++ frameB (risBs ns)) = some ns := by
  unfold numsO
  rw [footO_back p _ (by rw [risBs_len, h7])]
  obtain ⟨h1, h2⟩ := nums_back h7 hv
  simp only [h1, ↓reduceIte, h2]
theorem unsB_back (b : List UInt8) : unsB (sumdB b) = true := by
  have hl : (sumdB b).length - 4 = b.length := by unfold sumdB; rw [List.length_append, lowB_len]; omega
  unfold unsB
  rw [hl]
  unfold sumdB
  rw [List.take_left' rfl, List.drop_left' rfl]
  exact beq_self_eq_true _
structure ChOk (c : List Ent) : Prop where
  ne : c ≠ []
  chk : ∀ e, e ∈ c → checkE e = 0
  asc : AscE c
  bld : buildE5 16 c = (layB 16 c, 0)
theorem keyP_key {e : Ent} (h : checkE e = 0) : ParseKeyE (keyE e) = ({ e with val := [] }, 0) := by
  have ho := ok_of h
  unfold ParseKeyE
  rw [parse_key ho]
  have h1 : checkE { e with val := [] } = 0 := of_ok ⟨ho.row, ho.fam, ho.qual, ho.ts, ho.seq, ho.kind, ⟨Nat.zero_le _, fun _ => rfl⟩⟩
  show (if checkE { e with val := [] } = 0 ∧ keyE { e with val := [] } = keyE e then ({ e with val := [] }, (0 : Int)) else (noEnt, 27)) = _
  rw [if_pos ⟨h1, rfl⟩]
theorem ChOk.first {c : List Ent} (h : ChOk c) : ∃ e, c[0]? = some e ∧ e ∈ c ∧ firstK c = keyE e := by
  match c, h.ne with
  | e :: r, _ => exact ⟨e, rfl, .head _, rfl⟩
theorem ChOk.last {c : List Ent} (h : ChOk c) : ∃ e, c[c.length - 1]? = some e ∧ e ∈ c ∧ lastK c = keyE e := by
  have hl : c.length - 1 < c.length := by have := List.length_pos_iff.2 h.ne; omega
  exact ⟨c[c.length - 1], List.getElem?_eq_getElem hl, List.getElem_mem _, lastK_at (List.getElem?_eq_getElem hl)⟩
theorem ChOk.first_le {c : List Ent} (h : ChOk c) : ¬ 0 < cmpB (firstK c) (lastK c) := by
  obtain ⟨a, ha, ma, e1⟩ := h.first
  obtain ⟨b, hb, mb, e2⟩ := h.last
  rw [e1, e2, key_sorts (ok_of (h.chk a ma)) (ok_of (h.chk b mb))]
  by_cases hl : c.length - 1 = 0
  · rw [hl] at hb
    rw [ha] at hb
    cases hb
    rw [← key_sorts (ok_of (h.chk a ma)) (ok_of (h.chk a ma)), cmpB_self]
    decide
  · have hp := List.pairwise_iff_getElem.1 h.asc
    obtain ⟨h0, e0⟩ := List.getElem?_eq_some_iff.1 ha
    obtain ⟨h9, e9⟩ := List.getElem?_eq_some_iff.1 hb
    have := hp 0 (c.length - 1) h0 h9 (by omega)
    rw [e0, e9] at this
    omega
theorem keyB_len {k : List UInt8} : (keyB k).length = (uintB k.length).length + k.length := by unfold keyB; rw [List.length_append]
theorem pc1_back {x pre post : List UInt8} {c : List Ent} {end' at' : Nat} {prev : Option (List UInt8)} (hc : ChOk c) (hfit : at' + (layB 16 c).length ≤ end') (hl : 0 < (layB 16 c).length ∧ (layB 16 c).length < 18446744073709551616) (hprev : behR prev (firstK c) = false) (hx : x = pre ++ partR c ++ post) :
    pc1 x pre.length at' end' prev = some (⟨firstK c, lastK c, at', at' + (layB 16 c).length⟩, (pre ++ partR c).length) := by
  obtain ⟨a, ha, ma, e1⟩ := hc.first
  obtain ⟨b, hb, mb, e2⟩ := hc.last
  have oa := ok_of (hc.chk a ma)
  have ob := ok_of (hc.chk b mb)
  have ka := keyE_len oa
  have kb := keyE_len ob
  have hxl : x.length = pre.length + ((keyB (firstK c)).length + (keyB (lastK c)).length + (uintB (layB 16 c).length).length) + post.length := by
    rw [hx]; unfold partR; simp only [List.length_append]
  have x1 : x = pre ++ (uintB (firstK c).length ++ firstK c) ++ (keyB (lastK c) ++ uintB (layB 16 c).length ++ post) := by rw [hx]; unfold partR keyB; simp only [List.append_assoc]
  have x2 : x = (pre ++ keyB (firstK c)) ++ (uintB (lastK c).length ++ lastK c) ++ (uintB (layB 16 c).length ++ post) := by rw [hx]; unfold partR keyB; simp only [List.append_assoc]
  have x3 : x = (pre ++ keyB (firstK c) ++ keyB (lastK c)) ++ uintB (layB 16 c).length ++ post := by rw [hx]; unfold partR; simp only [List.append_assoc]
  have kf : (firstK c).length ≤ x.length := by rw [hxl, keyB_len]; omega
  have kl : (lastK c).length ≤ x.length := by rw [hxl, keyB_len, keyB_len]; omega
  have r1 : readBy x (pre.length : Int) (x.length : Int) = (firstK c, (pre ++ keyB (firstK c)).length, 0) := by
    have := readBy_back pre (keyB (lastK c) ++ uintB (layB 16 c).length ++ post) (firstK c) (x.length : Int) (by rw [e1]; omega) (by omega)
    rw [← x1] at this
    rw [this]; simp only [keyB, List.length_append]
  have r2 : readBy x (((pre ++ keyB (firstK c)).length : Nat) : Int) (x.length : Int) = (lastK c, (pre ++ keyB (firstK c) ++ keyB (lastK c)).length, 0) := by
    have := readBy_back (pre ++ keyB (firstK c)) (uintB (layB 16 c).length ++ post) (lastK c) (x.length : Int) (by rw [e2]; omega) (by omega)
    rw [← x2] at this
    rw [this]; simp only [keyB, List.length_append]
  have r3 : readU x (((pre ++ keyB (firstK c) ++ keyB (lastK c)).length : Nat) : Int) = ((layB 16 c).length, (pre ++ partR c).length, 0) := by
    have := readU_back (pre ++ keyB (firstK c) ++ keyB (lastK c)) post (layB 16 c).length hl.2
    rw [← x3] at this
    rw [this]
    unfold partR
    simp only [List.length_append, Nat.add_assoc]
  unfold pc1
  rw [r1]
  dsimp only
  rw [r2]
  dsimp only
  rw [r3]
  dsimp only
  rw [if_neg (by simp), if_neg (by simp), if_neg (by simp), if_neg (by omega), e1, e2, keyP_key (hc.chk a ma), keyP_key (hc.chk b mb), ← e1, ← e2, if_neg (by rintro (h | h | h); exact h rfl; exact h rfl; exact hc.first_le h), hprev, if_neg (by decide)]
def pcsOf : Nat → List (List Ent) → List PcR
  | _, [] => []
  | at', c :: cs => ⟨firstK c, lastK c, at', at' + (layB 16 c).length⟩ :: pcsOf (at' + (layB 16 c).length) cs
theorem blocksR_cons (c : List Ent) (cs : List (List Ent)) : blocksR (c :: cs) = layB 16 c ++ blocksR cs := rfl
theorem partsR_cons (c : List Ent) (cs : List (List Ent)) : partsR (c :: cs) = partR c ++ partsR cs := rfl
def ChsOk : Option (List UInt8) → List (List Ent) → Prop
  | _, [] => True
  | p, c :: cs => ChOk c ∧ behR p (firstK c) = false ∧ 0 < (layB 16 c).length ∧ (layB 16 c).length < 18446744073709551616 ∧ ChsOk (some (lastK c)) cs
theorem pcsF_back {x : List UInt8} {end' : Nat} : ∀ (cs : List (List Ent)) (pre : List UInt8) (at' : Nat) (prev : Option (List UInt8)), ChsOk prev cs → x = pre ++ partsR cs → at' + (blocksR cs).length = end' →
    pcsF x end' cs.length pre.length at' prev = some (pcsOf at' cs, x.length, end')
  | [], pre, at', prev, _, hx, he => by
    have hx' : x = pre := by rw [hx]; exact List.append_nil _
    subst hx'
    have : at' = end' := he
    subst this
    rfl
  | c :: cs, pre, at', prev, ⟨h1, h2, h3, h4, h5⟩, hx, he => by
    rw [blocksR_cons, List.length_append] at he
    rw [partsR_cons] at hx
    have hp := pc1_back (x := x) (pre := pre) (post := partsR cs) (end' := end') (at' := at') (prev := prev) h1 (by omega) ⟨h3, h4⟩ h2 (by rw [hx, List.append_assoc])
    have ih := pcsF_back (x := x) (end' := end') cs (pre ++ partR c) (at' + (layB 16 c).length) (some (lastK c)) h5 (by rw [hx, List.append_assoc]) (by omega)
    rw [List.length_cons]
    unfold pcsF
    rw [hp]
    dsimp only
    rw [ih]
    rfl
theorem pcsO_back (cs : List (List Ent)) {end' : Nat} (h : ChsOk none cs) (hn : cs.length < 18446744073709551616) (he : 8 + (blocksR cs).length = end') : pcsO (indexR cs) cs.length end' = some (pcsOf 8 cs) := by
  have h0 : readU (indexR cs) 0 = (cs.length, (uintB cs.length).length, 0) := by
    have := readU_back [] (partsR cs) cs.length hn
    simpa [indexR] using this
  have h1 := pcsF_back (x := indexR cs) (end' := end') cs (uintB cs.length) 8 none h rfl he
  unfold pcsO
  rw [h0]
  dsimp only
  rw [if_neg (by simp), h1]
  simp
section
variable {P : Program} {w : World}
theorem run_string_RB {B n : Nat} {A : Option Addr} {l : List UInt8} (c : Nat) (h : RB w B A n l) {src dst e : TypeId} (hs : P.underlying src = some (.slice e)) (he : P.underlying e = some (.int .u8)) (hd : P.underlying dst = some .string) :
    (convert src dst (.slice A n c)).run P w = .ok (.string ⟨l.toArray⟩) w := by
  have hl := h.len
  cases A with
  | none =>
    have hn : n = 0 := by
      rcases Nat.eq_zero_or_pos n with h0 | h0
      · exact h0
      · obtain ⟨_, _, e, _⟩ := h.2 h0
        cases e
    have hl0 : l = [] := List.eq_nil_of_length_eq_zero (by omega)
    subst hl0
    rw [run_convert_bytes_string w src dst e none n c hs he hd]
    rfl
  | some ad =>
    subst hl
    refine run_convert_bytes_back w src dst e ad c l hs he hd fun j hj => ?_
    obtain ⟨b, o, e, _, hc⟩ := h.2 (by omega)
    injection e with e
    subst e
    have := hc j _ (u8s_at (List.getElem?_eq_getElem hj))
    unfold Addr.add
    split
    · rename_i h0; subst h0; exact this
    · exact this
theorem bytes_reads (s : ByteArray) (cap : Nat) (t : TypeId) (fr : Nat × Nat) : RB (w.alloc (.cells (bytesRow s cap) t fr)) (w.heap.size + 1) (some ⟨w.heap.size, 0, none⟩) s.size s.data.toList := by
  refine RB.mk' (by rw [Array.length_toList]; rfl) fun _ => ⟨w.heap.size, 0, rfl, by omega, fun j c hj => ?_⟩
  rw [Nat.zero_add, World.cell?_alloc_mark]
  have hlt : j < s.data.size := by
    have := (List.getElem?_eq_some_iff.1 hj).1
    simpa using this
  rw [bytesRow_at s cap j hlt]
  rw [Array.getElem?_toList, Array.getElem?_eq_getElem hlt] at hj
  injection hj with hj
  rw [hj]
variable {ops : Array Oper} {rest : List Oper} {o : Oper} {a : Act} {Q : Exit → Act → World → Prop}
theorem wpList_string_reads (hg : o.guard = none) (x : Operand) (src dst e : TypeId) (hop : o.op = Op.convert src dst x) (hs : P.underlying src = some (.slice e)) (he : P.underlying e = some (.int .u8)) (hd : P.underlying dst = some .string)
    {B n c : Nat} {A : Option Addr} {l : List UInt8} (hx : a.eval x = .slice A n c) (h : RB w B A n l)
    (hK : wpList P ops Q rest (a.put o.dst (.string ⟨l.toArray⟩)) w) : wpList P ops Q (o :: rest) a w := by
  refine wpList_plain hg fun K' hK' => ?_
  have hrun := run_string_RB (P := P) (w := w) c h hs he hd
  unfold Oper.wp
  simp [execOp, hop, hx, hrun, Result.andThen]
  exact hK' _ _ hK
theorem wpList_bytes_of (hg : o.guard = none) (x : Operand) (src dst e : TypeId) (hop : o.op = Op.convert src dst x) (hs : P.underlying src = some .string) (hd : P.underlying dst = some (.slice e)) (he : P.underlying e = some (.int .u8))
    (s : ByteArray) (hx : a.eval x = .string s)
    (hK : ∀ cap w', RB w' w'.heap.size (some ⟨w.heap.size, 0, none⟩) s.size s.data.toList → w.grownBy w' none → w'.heap.size = w.heap.size + 1 → wpList P ops Q rest (a.put o.dst (.slice (some ⟨w.heap.size, 0, none⟩) s.size cap)) w') :
    wpList P ops Q (o :: rest) a w := by
  refine wpList_plain hg fun K' hK' => ?_
  have hrun := run_bytes_of_string (P := P) w src dst e s hs hd he
  unfold Oper.wp
  simp [execOp, hop, hx, hrun, Result.andThen]
  refine hK' _ _ (hK _ _ ?_ (by have h := World.grownBy_alloc w.drew (.cells (bytesRow s (grownCap w s.size 0 e)) e ((bytesRow s (grownCap w s.size 0 e)).size, (bytesRow s (grownCap w s.size 0 e)).size + 1)) none; exact ⟨h.os, h.tape, h.output, h.size, h.block⟩) (by simp))
  have := bytes_reads (w := w.drew) s (grownCap w s.size 0 e) e ((bytesRow s (grownCap w s.size 0 e)).size, (bytesRow s (grownCap w s.size 0 e)).size + 1)
  simpa using this
end
end Go.Proofs.YtfdbcfaeiglbeaaGreatDoor
