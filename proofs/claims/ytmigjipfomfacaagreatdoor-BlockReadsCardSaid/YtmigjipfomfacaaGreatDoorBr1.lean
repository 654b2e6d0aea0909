/-
  Laid together by merge.py: Crc, Kit, Bytes, WireP, WireP2, WireP6, WireP7, WireP8, WireP9, CellP, CellP2, BlockP, BlockP2, BlockP3, BlockP4, BlockP5, BlockQP, Kit2, Kit3, Kit4, WireW1, WireW2, WireW5, WireW6, WireR1, WireW10, WireW11.
-/
import Derived.WalkKit
import Derived.WalkSpells
import Derived.WalkLawsBesides
import Derived.Deep.AppendLies
import Derived.Deep.Draws
import Derived.Maps.AppendAt
import Derived.Lib.Hide
import Derived.Deep.QuietTactic
import Derived.BigQuiet
import Derived.Laws.CopyOwn
import Derived.Laws.BitsAllLaws
import Derived.Laws.IdiomStrings
import Derived.Test.YtmigjipfomfacaaGreatDoorRows
import Derived.Deep.RegionWith
import Derived.Deep.RegionLaw
import Derived.Laws.OwnMore
namespace Go.Proofs.YtmigjipfomfacaaGreatDoor
def rStep (c : Nat) : Nat := (c >>> 1) ^^^ (if c.testBit 0 then 2197175160 else 0)
def rIter : Nat → Nat → Nat
  | 0, c => c
  | n + 1, c => rIter n (rStep c)
theorem rIter_add (m n c : Nat) : rIter (m + n) c = rIter n (rIter m c) := by
  induction m generalizing c with
  | zero => rw [Nat.zero_add]; rfl
  | succ m ih => rw [Nat.succ_add]; exact ih _
theorem rIter_succ (n c : Nat) : rIter (n + 1) c = rStep (rIter n c) := rIter_add n 1 c
theorem rStep_lt {c : Nat} (h : c < 4294967296) : rStep c < 4294967296 := by
  unfold rStep
  refine Nat.xor_lt_two_pow (n := 32) ?_ ?_
  · rw [Nat.shiftRight_eq_div_pow]; omega
  · split <;> omega
theorem rIter_lt (n : Nat) : ∀ {c : Nat}, c < 4294967296 → rIter n c < 4294967296 := by
  induction n with
  | zero => exact fun h => h
  | succ n ih => exact fun h => ih (rStep_lt h)
theorem rStep_xor (a b : Nat) : rStep (a ^^^ b) = rStep a ^^^ rStep b := by
  unfold rStep
  rw [Nat.shiftRight_xor_distrib, Nat.testBit_xor]
  cases a.testBit 0 <;> cases b.testBit 0 <;> simp
  · ac_rfl
  · ac_rfl
  · rw [show a >>> 1 ^^^ 2197175160 ^^^ (b >>> 1 ^^^ 2197175160) = a >>> 1 ^^^ b >>> 1 ^^^ (2197175160 ^^^ 2197175160) from by ac_rfl, Nat.xor_self, Nat.xor_zero]
theorem rIter_xor (n a b : Nat) : rIter n (a ^^^ b) = rIter n a ^^^ rIter n b := by
  induction n generalizing a b with
  | zero => rfl
  | succ n ih => show rIter n (rStep _) = _; rw [rStep_xor, ih]; rfl
end Go.Proofs.YtmigjipfomfacaaGreatDoor
namespace Go.Proofs.YtmigjipfomfacaaGreatDoor
open Go.RowKit
theorem ret_int {k : IntKind} {a b : Int} (h : a = b) : Ending.returned (.int k a) = .returned (.int k b) := by rw [h]
def Reads (w : World) (B size : Nat) (A : Option Addr) (n : Nat) (xs : List Value) : Prop :=
  xs.length = n * size ∧ (0 < n → ∃ b o, A = some ⟨b, o, none⟩ ∧ b < B ∧ ∀ j u, xs[j]? = some u → w.cell? ⟨b, o + j, none⟩ = some u)
section
variable {w w' : World} {B B' size n : Nat} {A : Option Addr} {xs : List Value}
theorem Reads.nil : Reads w B size A 0 [] := ⟨by simp, fun h => absurd h (by omega)⟩
theorem Reads.keep (h : Reads w B size A n xs) (hk : ∀ p : Addr, p.block < B → w'.cell? p = w.cell? p) : Reads w' B size A n xs :=
  ⟨h.1, fun hn => by
    obtain ⟨b, o, e, hb, hc⟩ := h.2 hn
    exact ⟨b, o, e, hb, fun j u hu => (hk _ hb).trans (hc j u hu)⟩⟩
theorem Reads.more (h : Reads w B size A n xs) (hB : B ≤ B') : Reads w B' size A n xs :=
  ⟨h.1, fun hn => by
    obtain ⟨b, o, e, hb, hc⟩ := h.2 hn
    exact ⟨b, o, e, by omega, hc⟩⟩
theorem Reads.below (h : Reads w B size A n xs) (hb : Below B w w') : Reads w' B size A n xs := h.keep fun _ hp => hb.cell hp
theorem Reads.alloc (h : Reads w B size A n xs) (hB : B ≤ w.heap.size) (o : Obj) : Reads (w.alloc o) B size A n xs := h.keep fun p hp => World.cell?_alloc_lt w o p (by omega)
theorem Reads.drew (h : Reads w B size A n xs) : Reads w.drew B size A n xs := h
theorem Reads.grown (h : Reads w B size A n xs) {row : Option Nat} (hg : w.grownBy w' row) (hB : B ≤ w.heap.size) (hr : ∀ g, row = some g → B ≤ g) : Reads w' B size A n xs :=
  h.keep fun p hp => World.cell?_of_block (hg.block p.block (by omega) (fun e => by have := hr _ e.symm; omega))
theorem Reads.take (h : Reads w B size A n xs) {m : Nat} (hm : m ≤ n) : Reads w B size A m (xs.take (m * size)) :=
  ⟨by rw [List.length_take, h.1, Nat.min_eq_left (Nat.mul_le_mul_right _ hm)], fun h0 => by
    obtain ⟨b, o, e, hb, hc⟩ := h.2 (by omega)
    exact ⟨b, o, e, hb, fun j u hu => hc j u (by rw [List.getElem?_take] at hu; split at hu <;> simp_all)⟩⟩
theorem Reads.new (w : World) (c : Array Value) (t : TypeId) (size n : Nat) (h : c.size = n * size) : Reads (w.alloc (.cells c t)) (w.heap.size + 1) size (some ⟨w.heap.size, 0, none⟩) n c.toList :=
  ⟨by simpa using h, fun _ => ⟨w.heap.size, 0, rfl, by omega, fun j u hu => by simpa using hu⟩⟩
theorem Reads.own {base : Nat} {e : TypeId} {c : Nat} (h : w.ownsRow base e size (.slice A n c) n xs) : Reads w w.heap.size size A n xs := by
  refine ⟨h.1, fun hn => ?_⟩
  rcases h.2 with ⟨hv, h0⟩ | ⟨g, cap, cur, hv, hb, hg, _⟩
  · omega
  · have hA : A = some ⟨g, 0, none⟩ := by injection hv
    subst hA
    refine ⟨g, 0, rfl, (Array.getElem?_eq_some_iff.1 hg).1, fun j u hu => ?_⟩
    have := h.cells (g := g) rfl j u hu
    rw [Nat.zero_add]
    unfold Addr.add at this
    split at this
    · rename_i h0; subst h0; exact this
    · simpa using this
end
structure SliceOf (P : Program) (t e : TypeId) (size bytes : Nat) : Prop where
  slice : P.underlying t = some (.slice e)
  info : ∃ i z, P.info? e = some i ∧ i.zero = some z ∧ i.size = size ∧ i.bytes = bytes ∧ z.cells.size = size
  pos : 0 < size
theorem SliceOf.mk' {P : Program} {t e : TypeId} {size bytes : Nat} {z : Value} (h : P.underlying t = some (.slice e)) (hi : (P.info? e).map (fun i => (i.zero, i.size, i.bytes)) = some (some z, size, bytes)) (hz : z.cells.size = size) (hp : 0 < size) : SliceOf P t e size bytes := by
  obtain ⟨i, h1, h2, h3, h4⟩ := info_parts hi
  exact ⟨h, ⟨i, z, h1, h2, h3, h4, hz⟩, hp⟩
section
variable {P : Program} (w : World)
theorem run_append_of_nil (base : Nat) (t ty e : TypeId) (i : TypeInfo) (size : Nat) (ht : P.underlying t = some (.slice e)) (hi : P.info? e = some i)
    (v : Value) (n : Nat) (xs : List Value) (hown : w.ownsRow base e size v n xs) (c : Nat) : (Builtin.append_ #[t, t] ty #[v, .slice none 0 c]).run P w = .ok v w := by
  rcases hown.2 with ⟨rfl, rfl⟩ | ⟨g, cap, cur, rfl, _, _, hnc, _⟩
  · simp [Builtin.append_, run_underlying ht, sizeOf, typeInfo, hi, Builtin.lenOf, Builtin.firstCells]
  · simp [Builtin.append_, run_underlying ht, sizeOf, typeInfo, hi, Builtin.lenOf, Builtin.firstCells, hnc, storeCells]
theorem run_append_reads {t ty e : TypeId} {size bytes : Nat} (hs : SliceOf P t e size bytes) (base : Nat) (v : Value) (n : Nat) (xs : List Value) (hown : w.ownsRow base e size v n xs)
    (B : Nat) (A : Option Addr) (m c : Nat) (news : List Value) (hr : Reads w B size A m news) (h1 : ∀ u ∈ news, u.oneCell' = true)
    (h63 : n + m ≤ maxLen) (hbytes : (n + m) * bytes ≤ 140737488355328) (hbase : base ≤ w.heap.size) :
    ∃ v' w', (Builtin.append_ #[t, t] ty #[v, .slice A m c]).run P w = .ok v' w' ∧ w'.ownsRow base e size v' (n + m) (xs ++ news) ∧ w.grownBy w' v.ownBlock ∧
      (v'.ownBlock = v.ownBlock ∨ v'.ownBlock = some w.heap.size) := by
  obtain ⟨ht, ⟨i, z, hi, hz, hsize, hby, hzs⟩, hsz⟩ := hs
  rcases A with _ | ad
  · have hm : m = 0 := by
      rcases Nat.eq_zero_or_pos m with h0 | h0
      · exact h0
      · obtain ⟨b, o, h, _⟩ := hr.2 h0
        cases h
    subst hm
    have hn : news = [] := List.eq_nil_of_length_eq_zero (by simpa using hr.1)
    subst hn
    exact ⟨v, w, run_append_of_nil w base t ty e i size ht hi v n xs hown c, by simpa using hown, World.grownBy.refl w _, .inl rfl⟩
  · have hcells : ∀ j u, news[j]? = some u → w.cell? (ad.add j) = some u := by
      intro j u hu
      rcases Nat.eq_zero_or_pos m with h0 | h0
      · subst h0
        have hn : news = [] := List.eq_nil_of_length_eq_zero (by simpa using hr.1)
        subst hn
        simp at hu
      · obtain ⟨b, o, h, _, hc⟩ := hr.2 h0
        injection h with h
        subst h
        have := hc j u hu
        unfold Addr.add
        split
        · rename_i h0; subst h0; exact this
        · exact this
    obtain ⟨v', w', hrun, h2, h3, _, h5⟩ := run_append_own_at (P := P) w base t ty e i z size bytes ht hi hz hsize hby hzs hsz v n xs hown ad m c news hr.1 hcells h1 h63 hbytes hbase
    exact ⟨v', w', hrun, h2, h3, h5⟩
theorem wp_append_reads {o : Oper} {a : Act} {K : Act → World → Prop} {Q : Exit → Act → World → Prop} (s x : Operand) {t e : TypeId} {size bytes : Nat}
    (ho : o.op = .call { callee := .builtin .append, args := #[s, x], argTypes := #[t, t] }) (hS : SliceOf P t e size bytes)
    (base : Nat) (v : Value) (n : Nat) (xs : List Value) (hs : a.eval s = v) (hown : w.ownsRow base e size v n xs)
    (B : Nat) (A : Option Addr) (m c : Nat) (news : List Value) (hx : a.eval x = .slice A m c) (hr : Reads w B size A m news) (h1 : ∀ u ∈ news, u.oneCell' = true)
    (h63 : n + m ≤ maxLen) (hbytes : (n + m) * bytes ≤ 140737488355328) (hbase : base ≤ w.heap.size)
    (h : ∀ v' w', w'.ownsRow base e size v' (n + m) (xs ++ news) → w.grownBy w' v.ownBlock → (v'.ownBlock = v.ownBlock ∨ v'.ownBlock = some w.heap.size) → K (a.put o.dst v') w') : o.wp P a w K Q := by
  obtain ⟨v', w', hrun, h2, h3, h4⟩ := run_append_reads (P := P) w (ty := o.type) hS base v n xs hown B A m c news hr h1 h63 hbytes hbase
  unfold Oper.wp execOp
  simp only [ho, resolve, invoke, builtin, Sem.run_bind, Sem.run_pure, Result.andThen_ok, List.map_toArray, List.map_cons, List.map_nil, hs, hx, hrun]
  exact h v' w' h2 h3 h4
theorem wpList_append_reads {ops : Array Oper} {rest : List Oper} {o : Oper} {a : Act} {Q : Exit → Act → World → Prop} (hgd : o.guard = none) (s x : Operand) {t e : TypeId} {size bytes : Nat}
    (ho : o.op = .call { callee := .builtin .append, args := #[s, x], argTypes := #[t, t] }) (hS : SliceOf P t e size bytes)
    (base : Nat) (v : Value) (n : Nat) (xs : List Value) (hs : a.eval s = v) (hown : w.ownsRow base e size v n xs)
    (B : Nat) (A : Option Addr) (m c : Nat) (news : List Value) (hx : a.eval x = .slice A m c) (hr : Reads w B size A m news) (h1 : ∀ u ∈ news, u.oneCell' = true)
    (h63 : n + m ≤ maxLen) (hbytes : (n + m) * bytes ≤ 140737488355328) (hbase : base ≤ w.heap.size)
    (h : ∀ v' w', w'.ownsRow base e size v' (n + m) (xs ++ news) → w.grownBy w' v.ownBlock → (v'.ownBlock = v.ownBlock ∨ v'.ownBlock = some w.heap.size) → wpList P ops Q rest (a.put o.dst v') w') : wpList P ops Q (o :: rest) a w :=
  wpList_plain hgd fun _ hK => wp_append_reads w s x ho hS base v n xs hs hown B A m c news hx hr h1 h63 hbytes hbase fun v' w' h2 h3 h4 => hK _ _ (h v' w' h2 h3 h4)
end
theorem own_form {w : World} {base e size n : Nat} {v : Value} {xs : List Value} (h : w.ownsRow base e size v n xs) (hn : 0 < n) :
    ∃ g cap, v = .slice (some ⟨g, 0, none⟩) n cap ∧ base ≤ g ∧ g < w.heap.size ∧ n ≤ cap ∧ cap ≤ maxLen := by
  rcases h.2 with ⟨_, h0⟩ | ⟨g, cap, cur, hv, hb, hg, hc, hm, _⟩
  · omega
  · exact ⟨g, cap, hv, hb, (Array.getElem?_eq_some_iff.1 hg).1, hc, hm⟩
theorem below_app {B : Nat} {a w w' : World} {v : Value} {e size n base : Nat} {xs : List Value} (h : Below B a w) (hown : w.ownsRow base e size v n xs) (hg : w.grownBy w' v.ownBlock) (hB : B ≤ w.heap.size) (hb : B ≤ base) : Below B a w' :=
  h.grown hg hB fun k hk => Nat.le_trans hb (hown.lt k hk).1
theorem grown_trans {a b c : World} {r : Option Nat} (h : a.grownBy b r) (k : b.grownBy c r) : a.grownBy c r :=
  ⟨k.os.trans h.os, k.tape.trans h.tape, k.output.trans h.output, Nat.le_trans h.size k.size, fun i hi hr => (k.block i (Nat.lt_of_lt_of_le hi h.size) hr).trans (h.block i hi hr)⟩
theorem below_grown {a b : World} (h : Below a.heap.size a b) (r : Option Nat) : a.grownBy b r := ⟨h.os, h.tape, h.output, h.size, fun i hi _ => h.block i hi⟩
theorem own_below {w w' : World} {base e size n : Nat} {v : Value} {xs : List Value} (h : w.ownsRow base e size v n xs) (hb : Below w.heap.size w w') : w'.ownsRow base e size v n xs := by
  refine h.kept (below_grown hb none) ?_
  cases hv : v.ownBlock <;> simp
structure Later (W : World) where
  w : World
  h : Below W.heap.size W w
def Later.now (W : World) : Later W := ⟨W, Below.refl _ _⟩
instance (W : World) : Nonempty (Later W) := ⟨Later.now W⟩
def Later.then {W : World} (L : Later W) {w' : World} (h : Below L.w.heap.size L.w w') : Later W := ⟨w', L.h.trans (h.mono L.h.size)⟩
theorem Later.cell {W : World} (L : Later W) {p : Addr} (v : Value) (h : W.cell? p = some v) : L.w.cell? p = some v :=
  (L.h.cell (World.block_lt_of_cell? W p h)).trans h
theorem cell_alloc_old {w : World} {p : Addr} {v : Value} {o : Obj} (h : w.cell? p = some v) : (w.alloc o).cell? p = some v :=
  (World.cell?_alloc_lt w o p (World.block_lt_of_cell? w p h)).trans h
theorem cell_below {w w' : World} {p : Addr} {v : Value} (hb : Below w.heap.size w w') (h : w.cell? p = some v) : w'.cell? p = some v :=
  (hb.cell (World.block_lt_of_cell? w p h)).trans h
section
variable {P : Program}
end
end Go.Proofs.YtmigjipfomfacaaGreatDoor
namespace Go.Proofs.YtmigjipfomfacaaGreatDoor
open Go.RowKit
def u8v (c : UInt8) : Value := .int .u8 (c.toNat : Int)
def u8s (l : List UInt8) : List Value := l.map u8v
theorem u8s_length (l : List UInt8) : (u8s l).length = l.length := by simp [u8s]
theorem u8s_append (a b : List UInt8) : u8s (a ++ b) = u8s a ++ u8s b := by simp [u8s]
theorem u8s_one (l : List UInt8) : ∀ u ∈ u8s l, u.oneCell' = true := by
  intro u hu
  obtain ⟨c, _, rfl⟩ := List.mem_map.1 hu
  rfl
theorem u8s_at {l : List UInt8} {k : Nat} {c : UInt8} (h : l[k]? = some c) : (u8s l)[k]? = some (.int .u8 (c.toNat : Int)) := by
  simp [u8s, h, u8v]
def RB (w : World) (B : Nat) (A : Option Addr) (n : Nat) (l : List UInt8) : Prop := Reads w B 1 A n (u8s l)
section
variable {w w' : World} {B B' n : Nat} {A : Option Addr} {l : List UInt8}
theorem RB.len (h : RB w B A n l) : l.length = n := by have := h.1; rw [u8s_length, Nat.mul_one] at this; exact this
theorem RB.mk' (hn : l.length = n) (h : 0 < n → ∃ b o, A = some ⟨b, o, none⟩ ∧ b < B ∧ ∀ j c, l[j]? = some c → w.cell? ⟨b, o + j, none⟩ = some (.int .u8 (c.toNat : Int))) : RB w B A n l :=
  ⟨by rw [u8s_length, Nat.mul_one]; exact hn, fun h0 => by
    obtain ⟨b, o, e, hb, hc⟩ := h h0
    refine ⟨b, o, e, hb, fun j u hu => ?_⟩
    simp only [u8s, List.getElem?_map, Option.map_eq_some_iff] at hu
    obtain ⟨c, hj, rfl⟩ := hu
    exact hc j c hj⟩
theorem RB.nil : RB w B A 0 [] := Reads.nil
theorem RB.at_ (h : RB w B A n l) {k : Nat} (hk : k < n) : ∃ b o c, A = some ⟨b, o, none⟩ ∧ b < B ∧ l[k]? = some c ∧ w.cell? ⟨b, o + k, none⟩ = some (.int .u8 (c.toNat : Int)) := by
  obtain ⟨b, o, e, hb, hc⟩ := h.2 (by omega)
  have hl := h.len
  have hk' : l[k]? = some (l[k]'(by omega)) := List.getElem?_eq_getElem (by omega)
  exact ⟨b, o, _, e, hb, hk', hc k _ (u8s_at hk')⟩
theorem RB.cell {b o : Nat} (h : RB w B (some ⟨b, o, none⟩) n l) {k : Nat} {c : UInt8} (hc : l[k]? = some c) : w.cell? ⟨b, o + k, none⟩ = some (.int .u8 (c.toNat : Int)) := by
  have hk : k < l.length := (List.getElem?_eq_some_iff.1 hc).1
  obtain ⟨b', o', e, _, h'⟩ := h.2 (by have := h.len; omega)
  injection e with e; injection e with e1 e2
  subst e1; subst e2
  exact h' k _ (u8s_at hc)
theorem RB.more (h : RB w B A n l) (hB : B ≤ B') : RB w B' A n l := Reads.more h hB
theorem RB.below (h : RB w B A n l) (hb : Below B w w') : RB w' B A n l := Reads.below h hb
theorem RB.later (h : RB w w.heap.size A n l) (hb : Below w.heap.size w w') : RB w' w'.heap.size A n l := (h.below hb).more hb.size
theorem RB.own {base : Nat} {e : TypeId} {c : Nat} (h : w.ownsRow base e 1 (.slice A n c) n (u8s l)) : RB w w.heap.size A n l := Reads.own h
theorem RB.take (h : RB w B A n l) {m : Nat} (hm : m ≤ n) : RB w B A m (l.take m) := by
  have := Reads.take h hm
  rwa [Nat.mul_one, show (u8s l).take m = u8s (l.take m) from by simp [u8s]] at this
theorem RB.drop (h : RB w B A n l) {k cap : Nat} (hk : k ≤ n) (hc : n ≤ cap) : RB w B (if cap = k then A else A.map (·.add k)) (n - k) (l.drop k) := by
  refine RB.mk' (by rw [List.length_drop, h.len]) fun hn => ?_
  obtain ⟨b, o, rfl, hb, hcell⟩ := h.2 (by omega)
  rw [if_neg (by omega)]
  refine ⟨b, o + k, ?_, hb, fun j c hj => ?_⟩
  · simp only [Option.map_some]
    unfold Addr.add
    split
    · rename_i h0; subst h0; rfl
    · rfl
  · rw [Nat.add_assoc]
    rw [List.getElem?_drop] at hj
    exact hcell _ _ (u8s_at hj)
end
theorem take_snoc {α : Type} {l : List α} {k : Nat} {c : α} (h : l[k]? = some c) : l.take (k + 1) = l.take k ++ [c] := by
  obtain ⟨hk, e⟩ := List.getElem?_eq_some_iff.1 h
  rw [List.take_succ_eq_append_getElem hk, e]
theorem take_all {α : Type} {l : List α} {k : Nat} (h : l.length ≤ k) : l.take k = l := List.take_of_length_le h
def RBs (w : World) (B : Nat) (A : Option Addr) (n : Nat) (ks : List (List UInt8)) : Prop :=
  ∃ vs : List Value, Reads w B 1 A n vs ∧ vs.length = ks.length ∧ ∀ (i : Nat) (k : List UInt8), ks[i]? = some k → ∃ (a : Option Addr) (c : Nat), vs[i]? = some (.slice a k.length c) ∧ k.length ≤ c ∧ c ≤ 9223372036854775807 ∧ (a = none → c = 0) ∧ RB w B a k.length k
section
variable {w w' : World} {B B' n : Nat} {A : Option Addr} {ks : List (List UInt8)}
theorem RBs.len (h : RBs w B A n ks) : ks.length = n := by obtain ⟨vs, h1, h2, _⟩ := h; have := h1.1; omega
theorem RBs.below (h : RBs w B A n ks) (hb : Below B w w') : RBs w' B A n ks := by
  obtain ⟨vs, h1, h2, h3⟩ := h
  exact ⟨vs, h1.below hb, h2, fun i k hk => by obtain ⟨a, c, q1, q2, q3, q4, q5⟩ := h3 i k hk; exact ⟨a, c, q1, q2, q3, q4, q5.below hb⟩⟩
theorem RBs.more (h : RBs w B A n ks) (hB : B ≤ B') : RBs w B' A n ks := by
  obtain ⟨vs, h1, h2, h3⟩ := h
  exact ⟨vs, h1.more hB, h2, fun i k hk => by obtain ⟨a, c, q1, q2, q3, q4, q5⟩ := h3 i k hk; exact ⟨a, c, q1, q2, q3, q4, q5.more hB⟩⟩
theorem RBs.later (h : RBs w w.heap.size A n ks) (hb : Below w.heap.size w w') : RBs w' w'.heap.size A n ks := (h.below hb).more hb.size
theorem RBs.at_ (h : RBs w B A n ks) {i : Nat} (hi : i < n) : ∃ b o k a c, A = some ⟨b, o, none⟩ ∧ b < B ∧ ks[i]? = some k ∧ w.cell? ⟨b, o + i, none⟩ = some (.slice a k.length c) ∧ k.length ≤ c ∧ c ≤ 9223372036854775807 ∧ (a = none → c = 0) ∧ RB w B a k.length k := by
  have hl := h.len
  obtain ⟨vs, h1, h2, h3⟩ := h
  obtain ⟨b, o, e, hb, hc⟩ := h1.2 (by omega)
  have hk : ks[i]? = some (ks[i]'(by omega)) := List.getElem?_eq_getElem (by omega)
  obtain ⟨a, c, q1, q2, q3, q4, q5⟩ := h3 i _ hk
  exact ⟨b, o, _, a, c, e, hb, hk, hc i _ q1, q2, q3, q4, q5⟩
end
end Go.Proofs.YtmigjipfomfacaaGreatDoor
namespace Go.Proofs.YtmigjipfomfacaaGreatDoor
open Go.RowKit
def tabL : List Nat := [0, 274646895, 549293790, 820201905, 1098587580, 1361435347, 1640403810, 1905808397, 2197175160, 2460548119, 2722870694, 2987750089, 3280807620, 3553878443, 3811616794, 4084100981]
def tabN (i : Nat) : Nat := tabL[i]?.getD 0
theorem tab_iter : ∀ i : Fin 16, rIter 4 i.val = tabN i.val := by decide +kernel
theorem tabN_lt : ∀ i : Fin 16, tabN i.val < 4294967296 := by decide +kernel
theorem rStep_even (c : Nat) : rStep (2 * c) = c := by
  unfold rStep
  have : (2 * c).testBit 0 = false := by simp [Nat.testBit_zero]
  rw [this, Nat.shiftRight_eq_div_pow]; simp
theorem rIter_four (c : Nat) : rIter 4 c = (c / 16) ^^^ tabN (c % 16) := by
  have e : c = (16 * (c / 16)) ^^^ (c % 16) := by
    have h := Nat.shiftLeft_add_eq_or_of_lt (a := c / 16) (b := c % 16) (i := 4) (by omega)
    apply Nat.eq_of_testBit_eq
    intro j
    rw [Nat.testBit_xor, show 16 * (c / 16) = (c / 16) <<< 4 from by rw [Nat.shiftLeft_eq]; omega, Nat.testBit_shiftLeft, show (16 : Nat) = 2 ^ 4 from rfl, Nat.testBit_mod_two_pow, Nat.testBit_div_two_pow]
    by_cases hj : 4 ≤ j
    · have : ¬ j < 4 := by omega
      simp [hj, this]
    · have : j < 4 := by omega
      simp [hj, this]
  have e2 : rIter 4 (16 * (c / 16)) = c / 16 := by
    show rStep (rStep (rStep (rStep _))) = _
    rw [show 16 * (c / 16) = 2 * (2 * (2 * (2 * (c / 16)))) from by omega, rStep_even, rStep_even, rStep_even, rStep_even]
  have e3 : rIter 4 (c % 16) = tabN (c % 16) := tab_iter ⟨c % 16, by omega⟩
  calc rIter 4 c = rIter 4 ((16 * (c / 16)) ^^^ (c % 16)) := by rw [← e]
    _ = _ := by rw [rIter_xor, e2, e3]
def crcB (c : Nat) (b : UInt8) : Nat := rIter 8 (c ^^^ b.toNat)
def crcL (c : Nat) (l : List UInt8) : Nat := l.foldl crcB c
theorem crcL_snoc (c : Nat) (l : List UInt8) (b : UInt8) : crcL c (l ++ [b]) = crcB (crcL c l) b := by simp [crcL, List.foldl_append]
theorem crcL_app (c : Nat) (l m : List UInt8) : crcL c (l ++ m) = crcL (crcL c l) m := by simp [crcL, List.foldl_append]
theorem crcB_lt {c : Nat} (h : c < 4294967296) (b : UInt8) : crcB c b < 4294967296 :=
  rIter_lt 8 (Nat.xor_lt_two_pow (n := 32) h (by have := b.toNat_lt; omega))
def sumL (l : List UInt8) : Nat := 4294967295 - crcL 4294967295 l
theorem sumL_lt (l : List UInt8) : sumL l < 4294967296 := by unfold sumL; omega
def nib1 (c : Nat) (b : UInt8) : Nat := (c ^^^ b.toNat) % 16
def mid (c : Nat) (b : UInt8) : Nat := (c / 16) ^^^ tabN (nib1 c b)
def nib2 (c : Nat) (b : UInt8) : Nat := (mid c b ^^^ b.toNat / 16) % 16
theorem nib1_lt (c : Nat) (b : UInt8) : nib1 c b < 16 := Nat.mod_lt _ (by decide)
theorem nib2_lt (c : Nat) (b : UInt8) : nib2 c b < 16 := Nat.mod_lt _ (by decide)
theorem mid_lt {c : Nat} (h : c < 4294967296) (b : UInt8) : mid c b < 4294967296 :=
  Nat.xor_lt_two_pow (n := 32) (by omega) (tabN_lt ⟨_, nib1_lt c b⟩)
theorem xor_mod16 (a b : Nat) : (a ^^^ b) % 16 = (a % 16) ^^^ (b % 16) := by
  rw [show (16 : Nat) = 2 ^ 4 from rfl]
  apply Nat.eq_of_testBit_eq
  intro j
  simp only [Nat.testBit_mod_two_pow, Nat.testBit_xor]
  cases decide (j < 4) <;> simp
theorem xor_div16 (a b : Nat) : (a ^^^ b) / 16 = (a / 16) ^^^ (b / 16) := by
  rw [show (16 : Nat) = 2 ^ 4 from rfl]
  apply Nat.eq_of_testBit_eq
  intro j
  simp only [Nat.testBit_div_two_pow, Nat.testBit_xor]
theorem crcB_mid (c : Nat) (b : UInt8) : crcB c b = (mid c b / 16) ^^^ tabN (nib2 c b) := by
  have hb := b.toNat_lt
  have e1 : rIter 4 (c ^^^ b.toNat) = mid c b ^^^ b.toNat / 16 := by
    rw [rIter_four, xor_div16]
    unfold mid nib1
    ac_rfl
  have : crcB c b = rIter 4 (rIter 4 (c ^^^ b.toNat)) := rIter_add 4 4 _
  rw [this, e1, rIter_four, xor_div16, show b.toNat / 16 / 16 = 0 from by omega, Nat.xor_zero]
  rfl
theorem and15_walk (a : Nat) (h : a < 256) : bits .and .u8 (a : Int) 15 = ((a % 16 : Nat) : Int) := by
  rw [show (15 : Int) = ((15 : Nat) : Int) from rfl, u8_and_nat _ _ h (by omega), show (15 : Nat) = 2 ^ 4 - 1 from rfl, Nat.and_two_pow_sub_one_eq_mod]
theorem nib1_walk (c : Nat) (b : UInt8) : bits .and .u8 (bits .xor .u8 ((c : Int) % 256) (b.toNat : Int)) 15 = ((nib1 c b : Nat) : Int) := by
  have hb := b.toNat_lt
  have e : (c : Int) % 256 = ((c % 256 : Nat) : Int) := by omega
  have hx : (c % 256) ^^^ b.toNat < 256 := Nat.xor_lt_two_pow (n := 8) (by omega) (by omega)
  rw [e, u8_xor_nat _ _ (by omega) (by omega), and15_walk _ hx]
  unfold nib1
  rw [xor_mod16, xor_mod16 c, show c % 256 % 16 = c % 16 from by omega]
theorem nib2_walk (c : Nat) (b : UInt8) : bits .and .u8 (bits .xor .u8 ((mid c b : Int) % 256) ((b.toNat : Int) / 16)) 15 = ((nib2 c b : Nat) : Int) := by
  have hb := b.toNat_lt
  have e : (mid c b : Int) % 256 = ((mid c b % 256 : Nat) : Int) := by omega
  have e2 : (b.toNat : Int) / 16 = ((b.toNat / 16 : Nat) : Int) := by omega
  have hx : (mid c b % 256) ^^^ (b.toNat / 16) < 256 := Nat.xor_lt_two_pow (n := 8) (by omega) (by omega)
  rw [e, e2, u8_xor_nat _ _ (by omega) (by omega), and15_walk _ hx]
  unfold nib2
  rw [xor_mod16, xor_mod16 (mid c b), show mid c b % 256 % 16 = mid c b % 16 from by omega]
theorem mid_walk (c : Nat) (b : UInt8) (h : c < 4294967296) : bits .xor .u32 ((c : Int) / 16) ((tabN (nib1 c b) : Nat) : Int) = ((mid c b : Nat) : Int) := by
  rw [show (c : Int) / 16 = ((c / 16 : Nat) : Int) from by omega, u32_xor_nat _ _ (by omega) (tabN_lt ⟨_, nib1_lt c b⟩)]; rfl
theorem crcB_walk (c : Nat) (b : UInt8) (h : c < 4294967296) : bits .xor .u32 ((mid c b : Int) / 16) ((tabN (nib2 c b) : Nat) : Int) = ((crcB c b : Nat) : Int) := by
  have := mid_lt h b
  rw [show (mid c b : Int) / 16 = ((mid c b / 16 : Nat) : Int) from by omega, u32_xor_nat _ _ (by omega) (tabN_lt ⟨_, nib2_lt c b⟩), crcB_mid]
theorem not_u32 {C : Nat} (h : C < 4294967296) : bits .xor .u32 IntKind.u32.max (C : Int) = ((4294967295 - C : Nat) : Int) := by
  show bits .xor .u32 ((4294967295 : Nat) : Int) (C : Int) = _
  rw [u32_xor_nat _ _ (by omega) h]
  congr 1
  apply Nat.eq_of_testBit_eq
  intro j
  have h1 := Nat.testBit_two_pow_sub_succ (x := 0) (n := 32) (by omega) j
  have h2 := Nat.testBit_two_pow_sub_succ (x := C) (n := 32) (by omega) j
  rw [show (2 : Nat) ^ 32 - (0 + 1) = 4294967295 from rfl] at h1
  rw [show (2 : Nat) ^ 32 - (C + 1) = 4294967295 - C from by omega] at h2
  rw [Nat.testBit_xor, h1, h2]
  by_cases hj : j < 32
  · simp [hj]
  · have : C.testBit j = false := Nat.testBit_lt_two_pow (Nat.lt_of_lt_of_le h (by
      have : 2 ^ 32 ≤ 2 ^ j := Nat.pow_le_pow_right (by decide) (by omega)
      simpa using this))
    simp [hj, this]
def lowB (s : Nat) : List UInt8 := [UInt8.ofNat s, UInt8.ofNat (s / 256), UInt8.ofNat (s / 65536), UInt8.ofNat (s / 16777216)]
theorem u8v_mod (s : Nat) : u8v (UInt8.ofNat s) = .int .u8 ((s : Int) % 256) := by
  unfold u8v
  rw [UInt8.toNat_ofNat', Int.natCast_emod]; rfl
def TabAt (b : Nat) (w : World) : Prop := b < w.heap.size ∧ ∀ i, i < 16 → w.cell? ⟨b, i, none⟩ = some (.int .u32 (tabN i))
theorem TabAt.later {b : Nat} {w w' : World} (h : TabAt b w) (hb : Below w.heap.size w w') : TabAt b w' :=
  ⟨Nat.lt_of_lt_of_le h.1 hb.size, fun i hi => (hb.cell (p := ⟨b, i, none⟩) h.1).trans (h.2 i hi)⟩
theorem TabAt.below {b B : Nat} {w w' : World} (h : TabAt b w) (hB : b < B) (hb : Below B w w') : TabAt b w' :=
  ⟨Nat.lt_of_lt_of_le h.1 hb.size, fun i hi => (hb.cell (p := ⟨b, i, none⟩) hB).trans (h.2 i hi)⟩
theorem i64_or_nat (a b : Nat) (ha : a < 9223372036854775808) (hb : b < 9223372036854775808) : bits .or .i64 (a : Int) (b : Int) = ((a ||| b : Nat) : Int) := by
  have hx : a ||| b < 2 ^ 63 := Nat.or_lt_two_pow (by omega) (by omega)
  show IntKind.i64.wrap ((BitVec.ofInt 64 (a : Int) ||| BitVec.ofInt 64 (b : Int)).toNat : Int) = _
  rw [BitVec.toNat_or, ofInt_u64 a (by omega), ofInt_u64 b (by omega), IntKind.wrap_i64]
  omega
def numB (x2 x3 x4 x5 : UInt8) : Nat := ((x2.toNat * 256 + x3.toNat) * 256 + x4.toNat) * 256 + x5.toNat
theorem numB_lt (x2 x3 x4 x5 : UInt8) : numB x2 x3 x4 x5 < 4294967296 := by
  have := x2.toNat_lt; have := x3.toNat_lt; have := x4.toNat_lt; have := x5.toNat_lt
  unfold numB; omega
theorem shl_or4 (a b k : Nat) (h : b < 2 ^ k) : (a * 2 ^ k) ||| b = a * 2 ^ k + b := by
  rw [← Nat.shiftLeft_eq, Nat.shiftLeft_add_eq_or_of_lt h]
theorem numB_or (x2 x3 x4 x5 : UInt8) : ((x2.toNat * 16777216 ||| x3.toNat * 65536) ||| x4.toNat * 256) ||| x5.toNat = numB x2 x3 x4 x5 := by
  have h2 := x2.toNat_lt; have h3 := x3.toNat_lt; have h4 := x4.toNat_lt; have h5 := x5.toNat_lt
  unfold numB
  have e1 : x2.toNat * 16777216 ||| x3.toNat * 65536 = (x2.toNat * 256 + x3.toNat) * 65536 := by
    have := shl_or4 x2.toNat (x3.toNat * 65536) 24 (by omega)
    rw [show (2 : Nat) ^ 24 = 16777216 from rfl] at this
    rw [this]; omega
  have e2 : (x2.toNat * 256 + x3.toNat) * 65536 ||| x4.toNat * 256 = ((x2.toNat * 256 + x3.toNat) * 256 + x4.toNat) * 256 := by
    have := shl_or4 (x2.toNat * 256 + x3.toNat) (x4.toNat * 256) 16 (by omega)
    rw [show (2 : Nat) ^ 16 = 65536 from rfl] at this
    rw [this]; omega
  have e3 := shl_or4 ((x2.toNat * 256 + x3.toNat) * 256 + x4.toNat) x5.toNat 8 (by omega)
  rw [show (2 : Nat) ^ 8 = 256 from rfl] at e3
  rw [e1, e2, e3]
theorem numB_bits (x2 x3 x4 x5 : UInt8) : bits .or .i64 (bits .or .i64 (bits .or .i64 ((x2.toNat : Int) * 16777216) ((x3.toNat : Int) * 65536)) ((x4.toNat : Int) * 256)) (x5.toNat : Int) = ((numB x2 x3 x4 x5 : Nat) : Int) := by
  have h2 := x2.toNat_lt; have h3 := x3.toNat_lt; have h4 := x4.toNat_lt; have h5 := x5.toNat_lt
  rw [show (x2.toNat : Int) * 16777216 = ((x2.toNat * 16777216 : Nat) : Int) from by omega, show (x3.toNat : Int) * 65536 = ((x3.toNat * 65536 : Nat) : Int) from by omega, show (x4.toNat : Int) * 256 = ((x4.toNat * 256 : Nat) : Int) from by omega]
  have l1 := Nat.or_lt_two_pow (n := 32) (x := x2.toNat * 16777216) (y := x3.toNat * 65536) (by omega) (by omega)
  have l2 := Nat.or_lt_two_pow (n := 32) (x := x2.toNat * 16777216 ||| x3.toNat * 65536) (y := x4.toNat * 256) l1 (by omega)
  rw [i64_or_nat _ _ (by omega) (by omega), i64_or_nat _ _ (by omega) (by omega), i64_or_nat _ _ (by omega) (by omega), numB_or]
theorem wrap64_id {x : Int} (h1 : -9223372036854775808 ≤ x) (h2 : x < 9223372036854775808) : wrap64 x = x := by unfold wrap64; omega
theorem numB_walk (x2 x3 x4 x5 : UInt8) : bits .or .i64 (bits .or .i64 (bits .or .i64 (wrap64 (wrap64 (x2.toNat : Int) * 16777216)) (wrap64 (wrap64 (x3.toNat : Int) * 65536))) (wrap64 (wrap64 (x4.toNat : Int) * 256))) (wrap64 (x5.toNat : Int)) = ((numB x2 x3 x4 x5 : Nat) : Int) := by
  have h2 := x2.toNat_lt; have h3 := x3.toNat_lt; have h4 := x4.toNat_lt; have h5 := x5.toNat_lt
  rw [wrap64_id (x := (x2.toNat : Int)) (by omega) (by omega), wrap64_id (x := (x3.toNat : Int)) (by omega) (by omega), wrap64_id (x := (x4.toNat : Int)) (by omega) (by omega), wrap64_id (x := (x5.toNat : Int)) (by omega) (by omega),
    wrap64_id (by omega) (by omega), wrap64_id (by omega) (by omega), wrap64_id (by omega) (by omega), numB_bits]
def numF (l : List UInt8) (k : Nat) : Nat := numB (l[k]?.getD 0) (l[k + 1]?.getD 0) (l[k + 2]?.getD 0) (l[k + 3]?.getD 0)
theorem numF_lt (l : List UInt8) (k : Nat) : numF l k < 4294967296 := numB_lt _ _ _ _
end Go.Proofs.YtmigjipfomfacaaGreatDoor
namespace Go.Proofs.YtmigjipfomfacaaGreatDoor
open Go.RowKit
def uintF : Nat → Nat → List UInt8
  | 0, v => [UInt8.ofNat v]
  | k + 1, v => if v < 128 then [UInt8.ofNat v] else UInt8.ofNat (v % 128 + 128) :: uintF k (v / 128)
def uintB (v : Nat) : List UInt8 := uintF v v
theorem uintF_same : ∀ (f g v : Nat), v ≤ f → v ≤ g → uintF f v = uintF g v := by
  intro f
  induction f with
  | zero =>
    intro g v h1 h2
    obtain rfl : v = 0 := by omega
    cases g <;> rfl
  | succ f ih =>
    intro g v h1 h2
    cases g with
    | zero =>
      obtain rfl : v = 0 := by omega
      rfl
    | succ g =>
      simp only [uintF]
      split
      · rfl
      · rw [ih g (v / 128) (by omega) (by omega)]
theorem uintB_lt {v : Nat} (h : v < 128) : uintB v = [UInt8.ofNat v] := by
  unfold uintB
  cases v with
  | zero => rfl
  | succ v => simp only [uintF]; rw [if_pos h]
theorem uintB_ge {v : Nat} (h : 128 ≤ v) : uintB v = UInt8.ofNat (v % 128 + 128) :: uintB (v / 128) := by
  unfold uintB
  cases v with
  | zero => omega
  | succ v =>
    simp only [uintF]
    rw [if_neg (by omega), uintF_same v ((v + 1) / 128) _ (by omega) (Nat.le_refl _)]
theorem uintB_len : ∀ (k v : Nat), v < 128 ^ (k + 1) → (uintB v).length ≤ k + 1 := by
  intro k
  induction k with
  | zero => intro v h; rw [uintB_lt (by simpa using h)]; simp
  | succ k ih =>
    intro v h
    by_cases hv : v < 128
    · rw [uintB_lt hv]; simp
    · rw [uintB_ge (by omega), List.length_cons]
      have := ih (v / 128) (Nat.div_lt_of_lt_mul (by rw [Nat.pow_succ] at h; omega))
      omega
theorem uintB_ten {v : Nat} (h : v < 18446744073709551616) : (uintB v).length ≤ 10 := uintB_len 9 v (Nat.lt_trans h (by decide))
theorem uintB_pos (v : Nat) : 0 < (uintB v).length := by
  by_cases h : v < 128
  · rw [uintB_lt h]; simp
  · rw [uintB_ge (by omega)]; simp
theorem or128_fin : ∀ x : Fin 256, x.val ||| 128 = x.val % 128 + 128 := by decide +kernel
theorem or128_walk (V : Nat) : bits .or .u8 ((V : Int) % 256) 128 = (V : Int) % 128 + 128 := by
  rw [show (V : Int) % 256 = ((V % 256 : Nat) : Int) from by omega, show (128 : Int) = ((128 : Nat) : Int) from rfl, u8_or_nat _ _ (by omega) (by omega), or128_fin ⟨V % 256, by omega⟩]
  show ((V % 256 % 128 + 128 : Nat) : Int) = _
  omega
theorem u8v_or (V : Nat) : u8v (UInt8.ofNat (V % 128 + 128)) = .int .u8 ((V : Int) % 128 + 128) := by
  unfold u8v
  rw [UInt8.toNat_ofNat', Nat.mod_eq_of_lt (by omega)]; congr 1
def rdU : List UInt8 → Nat → Nat → Nat × Nat × Nat
  | [], _, _ => (0, 0, 10)
  | c :: r, i, v =>
    if i = 9 ∧ 1 < c.toNat then (0, 0, 13)
    else if c.toNat < 128 then (if c.toNat = 0 ∧ 0 < i then (0, 0, 11) else (v + c.toNat % 128 * 2 ^ (7 * i), i + 1, 0))
    else rdU r (i + 1) (v + c.toNat % 128 * 2 ^ (7 * i))
def readU (l : List UInt8) (a : Int) : Nat × Nat × Nat :=
  if a < 0 ∨ (l.length : Int) < a then (0, 0, 1)
  else if (rdU (l.drop a.toNat) 0 0).2.2 = 0 then ((rdU (l.drop a.toNat) 0 0).1, a.toNat + (rdU (l.drop a.toNat) 0 0).2.1, 0) else (0, 0, (rdU (l.drop a.toNat) 0 0).2.2)
theorem and127_walk (x : UInt8) : bits .and .u8 (x.toNat : Int) 127 = ((x.toNat % 128 : Nat) : Int) := by
  have := x.toNat_lt
  rw [show (127 : Int) = ((127 : Nat) : Int) from rfl, u8_and_nat _ _ (by omega) (by omega), show (127 : Nat) = 2 ^ 7 - 1 from rfl, Nat.and_two_pow_sub_one_eq_mod]
theorem pow7_le {j : Nat} (h : j ≤ 8) : 2 ^ (7 * j) ≤ 72057594037927936 := by
  have : 2 ^ (7 * j) ≤ 2 ^ 56 := Nat.pow_le_pow_right (by decide) (by omega)
  simpa using this
theorem rd_core (V y m : Nat) (hm : m ≤ 63) (hV : V < 2 ^ m) (hy : y * 2 ^ m < 18446744073709551616) : bits .or .u64 (V : Int) (IntKind.u64.wrap (IntKind.u64.wrap (y : Int) * 2 ^ m)) = ((V + y * 2 ^ m : Nat) : Int) := by
  have hp : 1 ≤ 2 ^ m := Nat.one_le_two_pow
  have hy1 : y < 18446744073709551616 := Nat.lt_of_le_of_lt (Nat.le_mul_of_pos_right y (by omega)) hy
  have e1 : IntKind.u64.wrap (y : Int) = (y : Int) := by rw [IntKind.wrap_u64]; omega
  have e2 : (y : Int) * 2 ^ m = ((y * 2 ^ m : Nat) : Int) := by rw [Int.natCast_mul, Int.natCast_pow]; rfl
  rw [e1, e2]
  have e3 : IntKind.u64.wrap ((y * 2 ^ m : Nat) : Int) = ((y * 2 ^ m : Nat) : Int) := by rw [IntKind.wrap_u64]; omega
  have hV2 : V < 18446744073709551616 := by
    have : 2 ^ m ≤ 2 ^ 63 := Nat.pow_le_pow_right (by decide) hm
    omega
  rw [e3, u64_or_nat V _ hV2 hy, Nat.or_comm, shl_or4 y V m hV, Nat.add_comm]
theorem rd_step (V j : Nat) (x : UInt8) (hj : j ≤ 8) (hV : V < 2 ^ (7 * j)) : bits .or .u64 (V : Int) (IntKind.u64.wrap (IntKind.u64.wrap (bits .and .u8 (x.toNat : Int) 127) * 2 ^ (7 * j))) = ((V + x.toNat % 128 * 2 ^ (7 * j) : Nat) : Int) := by
  rw [and127_walk]
  refine rd_core V _ _ (by omega) hV ?_
  have h1 := pow7_le hj
  have h2 : x.toNat % 128 ≤ 127 := by omega
  have := Nat.mul_le_mul h2 h1
  omega
theorem rd_next (V j x : Nat) (hV : V < 2 ^ (7 * j)) : V + x % 128 * 2 ^ (7 * j) < 2 ^ (7 * (j + 1)) := by
  have h2 : x % 128 ≤ 127 := by omega
  have := Nat.mul_le_mul_right (2 ^ (7 * j)) h2
  rw [show 7 * (j + 1) = 7 * j + 7 from by omega, Nat.pow_add]
  omega
theorem rd_last (V : Nat) (x : UInt8) (hx : x.toNat ≤ 1) (hV : V < 2 ^ 63) : bits .or .u64 (V : Int) (IntKind.u64.wrap (IntKind.u64.wrap (bits .and .u8 (x.toNat : Int) 127) * 9223372036854775808)) = ((V + x.toNat % 128 * 2 ^ (7 * 9) : Nat) : Int) := by
  rw [and127_walk, show (9223372036854775808 : Int) = 2 ^ 63 from by decide]
  refine rd_core V _ 63 (by omega) hV ?_
  have h2 : x.toNat % 128 ≤ 1 := by omega
  have := Nat.mul_le_mul_right (2 ^ 63) h2
  omega
theorem readU_at {l : List UInt8} {k j V : Nat} {r : Nat × Nat × Nat} (hk : k ≤ l.length) (hI : rdU (l.drop (k + j)) j V = rdU (l.drop k) 0 0) (hr : rdU (l.drop (k + j)) j V = r) : readU l (k : Int) = if r.2.2 = 0 then (r.1, k + r.2.1, 0) else (0, 0, r.2.2) := by
  unfold readU
  rw [if_neg (by omega), Int.toNat_natCast, ← hI, hr]
end Go.Proofs.YtmigjipfomfacaaGreatDoor
namespace Go.Proofs.YtmigjipfomfacaaGreatDoor
open Go.RowKit
theorem pow7_step (i : Nat) : 2 ^ (7 * (i + 1)) = 128 * 2 ^ (7 * i) := by
  rw [show 7 * (i + 1) = 7 * i + 7 from by omega, Nat.pow_add]; omega
theorem rdU_uintB (r : List UInt8) : ∀ (f i V a : Nat), i + f = 9 → V * 2 ^ (7 * i) < 18446744073709551616 → (V ≠ 0 ∨ i = 0) → rdU (uintB V ++ r) i a = (a + V * 2 ^ (7 * i), i + (uintB V).length, 0) := by
  intro f
  induction f with
  | zero =>
    intro i V a hi hV h0
    obtain rfl : i = 9 := by omega
    have hV1 : V ≤ 1 := by
      have : (2 : Nat) ^ (7 * 9) = 9223372036854775808 := by decide
      rw [this] at hV
      omega
    rw [uintB_lt (by omega)]
    show rdU (UInt8.ofNat V :: r) 9 a = _
    unfold rdU
    have e : (UInt8.ofNat V).toNat = V := by rw [UInt8.toNat_ofNat', Nat.mod_eq_of_lt (by omega)]
    rw [e, if_neg (by omega), if_pos (by omega), if_neg (by omega), Nat.mod_eq_of_lt (by omega)]; rfl
  | succ f ih =>
    intro i V a hi hV h0
    by_cases h : V < 128
    · rw [uintB_lt h]
      show rdU (UInt8.ofNat V :: r) i a = _
      unfold rdU
      have e : (UInt8.ofNat V).toNat = V := by rw [UInt8.toNat_ofNat', Nat.mod_eq_of_lt (by omega)]
      rw [e, if_neg (by omega), if_pos h, if_neg (by omega), Nat.mod_eq_of_lt h]; rfl
    · rw [uintB_ge (by omega)]
      show rdU (UInt8.ofNat (V % 128 + 128) :: (uintB (V / 128) ++ r)) i a = _
      have e : (UInt8.ofNat (V % 128 + 128)).toNat = V % 128 + 128 := by rw [UInt8.toNat_ofNat', Nat.mod_eq_of_lt (by omega)]
      have e2 : V / 128 * 2 ^ (7 * (i + 1)) + V % 128 * 2 ^ (7 * i) = V * 2 ^ (7 * i) := by
        rw [pow7_step, ← Nat.mul_assoc, ← Nat.add_mul, Nat.div_add_mod']
      rw [rdU, e, if_neg (by omega), if_neg (by omega), ih (i + 1) (V / 128) _ (by omega) (by omega) (by omega), List.length_cons]
      rw [show (V % 128 + 128) % 128 = V % 128 from by omega]
      simp only [Prod.mk.injEq]
      exact ⟨by omega, by omega, trivial⟩
theorem readU_back (p r : List UInt8) (v : Nat) (hv : v < 18446744073709551616) : readU (p ++ uintB v ++ r) (p.length : Int) = (v, p.length + (uintB v).length, 0) := by
  unfold readU
  have hl : ¬((p.length : Int) < 0 ∨ ((p ++ uintB v ++ r).length : Int) < (p.length : Int)) := by
    simp only [List.length_append]; omega
  rw [if_neg hl, Int.toNat_natCast, List.append_assoc, List.drop_left' rfl, rdU_uintB r 9 0 v 0 rfl (by simpa using hv) (.inr rfl)]
  simp
def cutS (l : List UInt8) (k m : Nat) : List UInt8 := (l.drop k).take m
def readBy (l : List UInt8) (a most : Int) : List UInt8 × Nat × Nat :=
  if a < 0 ∨ (l.length : Int) < a ∨ most < 0 then ([], 0, 1)
  else if (readU l a).2.2 ≠ 0 then ([], 0, (readU l a).2.2)
  else if most < ((readU l a).1 : Int) then ([], 0, 13)
  else if l.length - (readU l a).2.1 < (readU l a).1 then ([], 0, 10)
  else (cutS l (readU l a).2.1 (readU l a).1, (readU l a).2.1 + (readU l a).1, 0)
theorem rdU_end : ∀ (l : List UInt8) (i v : Nat), (rdU l i v).2.2 = 0 → (rdU l i v).2.1 ≤ i + l.length ∧ i + 1 ≤ (rdU l i v).2.1 := by
  intro l
  induction l with
  | nil => intro i v h; cases h
  | cons c r ih =>
    intro i v h
    unfold rdU at h ⊢
    split at h
    · cases h
    · rename_i h1
      rw [if_neg h1]
      split at h
      · rename_i h2
        rw [if_pos h2]
        split at h
        · cases h
        · rename_i h3
          rw [if_neg h3]
          simp
      · rename_i h2
        rw [if_neg h2]
        have := ih _ _ h
        rw [List.length_cons]
        omega
theorem readU_end (l : List UInt8) (a : Int) (h : (readU l a).2.2 = 0) : (readU l a).2.1 ≤ l.length ∧ 0 ≤ a ∧ a.toNat < (readU l a).2.1 := by
  unfold readU at h ⊢
  split at h
  · cases h
  · rename_i h1
    rw [if_neg h1]
    split at h
    · rename_i h2
      rw [if_pos h2]
      have := rdU_end _ _ _ h2
      rw [List.length_drop] at this
      simp only
      omega
    · rename_i h2
      exact absurd h h2
theorem rdU_val : ∀ (l : List UInt8) (i v : Nat), i ≤ 9 → v < 2 ^ (7 * i) → (rdU l i v).1 < 18446744073709551616 := by
  intro l
  induction l with
  | nil => intro i v _ _; show 0 < _; omega
  | cons c r ih =>
    intro i v hi hv
    have hc := c.toNat_lt
    unfold rdU
    split
    · show 0 < _; omega
    · rename_i h1
      split
      · rename_i h2
        split
        · show 0 < _; omega
        · simp only
          by_cases h9 : i = 9
          · subst h9
            have : (2 : Nat) ^ (7 * 9) = 9223372036854775808 := by decide
            rw [this] at hv ⊢
            have : c.toNat % 128 ≤ 1 := by omega
            omega
          · have h3 := rd_next v i c.toNat hv
            have h4 : 2 ^ (7 * (i + 1)) ≤ 2 ^ 63 := Nat.pow_le_pow_right (by decide) (by omega)
            omega
      · rename_i h2
        refine ih (i + 1) _ ?_ (rd_next v i c.toNat hv)
        by_cases h9 : i = 9
        · omega
        · omega
theorem readU_val (l : List UInt8) (a : Int) : (readU l a).1 < 18446744073709551616 := by
  unfold readU
  split
  · show 0 < _; omega
  · split
    · exact rdU_val _ 0 0 (by omega) (by decide)
    · show 0 < _; omega
theorem readBy_back (p r b : List UInt8) (most : Int) (hb : b.length < 18446744073709551616) (hm : (b.length : Int) ≤ most) : readBy (p ++ (uintB b.length ++ b) ++ r) (p.length : Int) most = (b, p.length + (uintB b.length ++ b).length, 0) := by
  have h := readU_back p (b ++ r) b.length hb
  have e : p ++ uintB b.length ++ (b ++ r) = p ++ (uintB b.length ++ b) ++ r := by simp
  rw [e] at h
  unfold readBy
  rw [h]
  have h1 : ¬((p.length : Int) < 0 ∨ ((p ++ (uintB b.length ++ b) ++ r).length : Int) < (p.length : Int) ∨ most < 0) := by
    simp only [List.length_append]; omega
  rw [if_neg h1, if_neg (by simp), if_neg (by omega), if_neg (by simp only [List.length_append]; omega)]
  have c : cutS (p ++ (uintB b.length ++ b) ++ r) (p.length + (uintB b.length).length) b.length = b := by
    unfold cutS
    rw [show p ++ (uintB b.length ++ b) ++ r = (p ++ uintB b.length) ++ (b ++ r) from by simp, List.drop_left' (by simp), List.take_left' rfl]
  simp only
  rw [c, List.length_append]
  simp; omega
end Go.Proofs.YtmigjipfomfacaaGreatDoor
namespace Go.Proofs.YtmigjipfomfacaaGreatDoor
open Go.RowKit
def cmpB : List UInt8 → List UInt8 → Int
  | [], [] => 0
  | [], _ :: _ => -1
  | _ :: _, [] => 1
  | x :: a, y :: b => if x.toNat < y.toNat then -1 else if y.toNat < x.toNat then 1 else cmpB a b
theorem cmpB_drop (a b : List UInt8) : ∀ k, a.take k = b.take k → cmpB (a.drop k) (b.drop k) = cmpB a b := by
  intro k
  induction k generalizing a b with
  | zero => intro _; rfl
  | succ k ih =>
    intro h
    cases a with
    | nil =>
      cases b with
      | nil => rfl
      | cons y b => simp at h
    | cons x a =>
      cases b with
      | nil => simp at h
      | cons y b =>
        simp only [List.take_succ_cons, List.cons.injEq] at h
        obtain ⟨rfl, h⟩ := h
        rw [List.drop_succ_cons, List.drop_succ_cons, ih a b h]
        conv => rhs; unfold cmpB
        rw [if_neg (by omega), if_neg (by omega)]
def ordC (c : UInt8) : List UInt8 := if c.toNat = 0 then [0, 255] else [c]
def ordB (l : List UInt8) : List UInt8 := l.flatMap ordC ++ [0, 1]
theorem ordC_len (c : UInt8) : (ordC c).length ≤ 2 ∧ 1 ≤ (ordC c).length := by unfold ordC; split <;> simp
theorem ordF_len (l : List UInt8) : (l.flatMap ordC).length ≤ 2 * l.length := by
  induction l with
  | nil => simp
  | cons c l ih => rw [List.flatMap_cons, List.length_append, List.length_cons]; have := ordC_len c; omega
theorem ordB_len (l : List UInt8) : (ordB l).length ≤ 2 * l.length + 2 := by unfold ordB; rw [List.length_append, show ([0, 1] : List UInt8).length = 2 from rfl]; have := ordF_len l; omega
theorem cmpB_skip (x : UInt8) (a b : List UInt8) : cmpB (x :: a) (x :: b) = cmpB a b := by
  conv => lhs; unfold cmpB
  rw [if_neg (by omega), if_neg (by omega)]
theorem cmpB_lt {x y : UInt8} (h : x.toNat < y.toNat) (a b : List UInt8) : cmpB (x :: a) (y :: b) = -1 := by
  unfold cmpB; rw [if_pos h]
theorem cmpB_gt {x y : UInt8} (h : y.toNat < x.toNat) (a b : List UInt8) : cmpB (x :: a) (y :: b) = 1 := by
  unfold cmpB; rw [if_neg (by omega), if_pos h]
theorem ord_sorts (a : List UInt8) : ∀ b x y : List UInt8, cmpB (ordB a ++ x) (ordB b ++ y) = if cmpB a b = 0 then cmpB x y else cmpB a b := by
  induction a with
  | nil =>
    intro b x y
    cases b with
    | nil =>
      show cmpB (0 :: 1 :: x) (0 :: 1 :: y) = _
      rw [cmpB_skip, cmpB_skip]; rfl
    | cons d b =>
      show cmpB (0 :: 1 :: x) ((ordC d ++ b.flatMap ordC) ++ [0, 1] ++ y) = -1
      unfold ordC
      split
      · show cmpB (0 :: 1 :: x) (0 :: 255 :: _) = -1
        rw [cmpB_skip, cmpB_lt (by decide)]
      · exact cmpB_lt (by show 0 < d.toNat; omega) _ _
  | cons c a ih =>
    intro b x y
    cases b with
    | nil =>
      show cmpB ((ordC c ++ a.flatMap ordC) ++ [0, 1] ++ x) (0 :: 1 :: y) = 1
      unfold ordC
      split
      · show cmpB (0 :: 255 :: _) (0 :: 1 :: y) = 1
        rw [cmpB_skip, cmpB_gt (by decide)]
      · exact cmpB_gt (by show 0 < c.toNat; omega) _ _
    | cons d b =>
      have e1 : ordB (c :: a) ++ x = ordC c ++ (ordB a ++ x) := by unfold ordB; simp
      have e2 : ordB (d :: b) ++ y = ordC d ++ (ordB b ++ y) := by unfold ordB; simp
      rw [e1, e2]
      rcases Nat.lt_trichotomy c.toNat d.toNat with h | h | h
      · rw [cmpB_lt h, if_neg (by decide)]
        unfold ordC
        rw [if_neg (show ¬ d.toNat = 0 by omega)]
        split
        · exact cmpB_lt (by show 0 < d.toNat; omega) _ _
        · exact cmpB_lt h _ _
      · obtain rfl := UInt8.toNat_inj.1 h
        rw [cmpB_skip]
        unfold ordC
        split
        · show cmpB (0 :: 255 :: (ordB a ++ x)) (0 :: 255 :: (ordB b ++ y)) = _
          rw [cmpB_skip, cmpB_skip, ih]
        · show cmpB (c :: (ordB a ++ x)) (c :: (ordB b ++ y)) = _
          rw [cmpB_skip, ih]
      · rw [cmpB_gt h, if_neg (by decide)]
        unfold ordC
        rw [if_neg (show ¬ c.toNat = 0 by omega)]
        split
        · exact cmpB_gt (by show 0 < c.toNat; omega) _ _
        · exact cmpB_gt h _ _
theorem cmpB_swap (a : List UInt8) : ∀ b, cmpB b a = - cmpB a b := by
  induction a with
  | nil => intro b; cases b <;> rfl
  | cons x a ih =>
    intro b
    cases b with
    | nil => rfl
    | cons y b =>
      rcases Nat.lt_trichotomy x.toNat y.toNat with h | h | h
      · rw [cmpB_lt h, cmpB_gt h]; rfl
      · obtain rfl := UInt8.toNat_inj.1 h
        rw [cmpB_skip, cmpB_skip, ih]
      · rw [cmpB_gt h, cmpB_lt h]
def rTo (v j : Nat) : List UInt8 := (List.range 8).map fun t => if 8 - j ≤ t then UInt8.ofNat (v / 256 ^ (7 - t)) else 0
def risB (v : Nat) : List UInt8 := rTo v 8
theorem rTo_len (v j : Nat) : (rTo v j).length = 8 := by simp [rTo]
theorem rTo_succ (v j : Nat) (hj : j < 8) : rTo v (j + 1) = (rTo v j).set (7 - j) (UInt8.ofNat (v / 256 ^ j)) := by
  apply List.ext_getElem?
  intro t
  rw [List.getElem?_set]
  unfold rTo
  by_cases ht : t < 8
  · rw [List.getElem?_map, List.getElem?_range ht, List.getElem?_map, List.getElem?_range ht]
    simp only [Option.map_some, List.length_map, List.length_range]
    by_cases e : 7 - j = t
    · rw [if_pos e, if_pos (by omega), if_pos (by omega), show 7 - t = j from by omega]
    · rw [if_neg e]
      by_cases h : 8 - j ≤ t
      · rw [if_pos h, if_pos (by omega)]
      · rw [if_neg h, if_neg (by omega)]
  · rw [List.getElem?_eq_none (by simp; omega), if_neg (by omega), List.getElem?_eq_none (by simp; omega)]
def big (l : List UInt8) : Nat := l.foldl (fun a c => a * 256 + c.toNat) 0
theorem big_from (l : List UInt8) : ∀ a, l.foldl (fun a c => a * 256 + c.toNat) a = a * 256 ^ l.length + big l := by
  induction l with
  | nil => intro a; simp [big]
  | cons c l ih =>
    intro a
    rw [List.foldl_cons, ih]
    unfold big
    rw [List.foldl_cons, ih (0 * 256 + c.toNat), List.length_cons, Nat.pow_succ, Nat.add_mul, Nat.add_mul]
    simp only [Nat.zero_mul, Nat.zero_add]
    rw [Nat.mul_assoc, Nat.mul_comm 256]
    unfold big
    omega
theorem big_cons (c : UInt8) (l : List UInt8) : big (c :: l) = c.toNat * 256 ^ l.length + big l := by
  show (c :: l).foldl (fun a c => a * 256 + c.toNat) 0 = _
  rw [List.foldl_cons, big_from]; simp
theorem big_lt (l : List UInt8) : big l < 256 ^ l.length := by
  induction l with
  | nil => simp [big]
  | cons c l ih =>
    rw [big_cons, List.length_cons, Nat.pow_succ]
    have hc := c.toNat_lt
    have h1 : c.toNat ≤ 255 := by omega
    have := Nat.mul_le_mul_right (256 ^ l.length) h1
    omega
theorem cmp_big : ∀ (a b : List UInt8), a.length = b.length → cmpB a b = if big a < big b then -1 else if big b < big a then 1 else 0 := by
  intro a
  induction a with
  | nil =>
    intro b h
    cases b with
    | nil => rfl
    | cons _ _ => cases h
  | cons x a ih =>
    intro b h
    cases b with
    | nil => cases h
    | cons y b =>
      have hl : a.length = b.length := by simpa using h
      have ha := big_lt a
      have hb := big_lt b
      rw [hl] at ha
      rw [big_cons, big_cons, hl]
      rcases Nat.lt_trichotomy x.toNat y.toNat with h1 | h1 | h1
      · have h2 := Nat.mul_le_mul_right (256 ^ b.length) (show x.toNat + 1 ≤ y.toNat from h1)
        rw [Nat.add_mul, Nat.one_mul] at h2
        rw [cmpB_lt h1, if_pos (by omega)]
      · obtain rfl := UInt8.toNat_inj.1 h1
        rw [cmpB_skip, ih b hl]
        by_cases h3 : big a < big b
        · rw [if_pos h3, if_pos (by omega)]
        · by_cases h4 : big b < big a
          · rw [if_neg h3, if_pos h4, if_neg (by omega), if_pos (by omega)]
          · rw [if_neg h3, if_neg h4, if_neg (by omega), if_neg (by omega)]
      · have h2 := Nat.mul_le_mul_right (256 ^ b.length) (show y.toNat + 1 ≤ x.toNat from h1)
        rw [Nat.add_mul, Nat.one_mul] at h2
        rw [cmpB_gt h1, if_neg (by omega), if_pos (by omega)]
theorem risB_big (v : Nat) (h : v < 18446744073709551616) : big (risB v) = v := by
  have e : risB v = [UInt8.ofNat (v / 72057594037927936), UInt8.ofNat (v / 281474976710656), UInt8.ofNat (v / 1099511627776), UInt8.ofNat (v / 4294967296), UInt8.ofNat (v / 16777216), UInt8.ofNat (v / 65536), UInt8.ofNat (v / 256), UInt8.ofNat v] := by
    simp [risB, rTo, List.range_succ]
  rw [e]
  unfold big
  simp only [List.foldl_cons, List.foldl_nil, UInt8.toNat_ofNat']
  omega
theorem ris_sorts (m n : Nat) (hm : m < 18446744073709551616) (hn : n < 18446744073709551616) : cmpB (risB m) (risB n) = if m < n then -1 else if n < m then 1 else 0 := by
  rw [cmp_big _ _ (by unfold risB; rw [rTo_len, rTo_len]), risB_big m hm, risB_big n hn]
end Go.Proofs.YtmigjipfomfacaaGreatDoor
namespace Go.Proofs.YtmigjipfomfacaaGreatDoor
open Go.RowKit
def addO (x : UInt8) (j : Nat) (r : List UInt8 × Nat × Nat) : List UInt8 × Nat × Nat := if r.2.2 = 0 then (x :: r.1, r.2.1 + j, 0) else ([], 0, r.2.2)
def rdO : List UInt8 → List UInt8 × Nat × Nat
  | [] => ([], 0, 10)
  | [_] => ([], 0, 10)
  | c :: d :: t => if c.toNat = 0 then (if d.toNat = 1 then ([], 2, 0) else if d.toNat = 255 then addO 0 2 (rdO t) else ([], 0, 11)) else addO c 1 (rdO (d :: t))
theorem rdO_ne {c : UInt8} (h : c.toNat ≠ 0) (t : List UInt8) : rdO (c :: t) = addO c 1 (rdO t) := by
  cases t with
  | nil => rfl
  | cons d t => conv => lhs; unfold rdO
                rw [if_neg h]
theorem rdO_one {c d : UInt8} (h : c.toNat = 0) (h1 : d.toNat = 1) (t : List UInt8) : rdO (c :: d :: t) = ([], 2, 0) := by
  conv => lhs; unfold rdO
  rw [if_pos h, if_pos h1]
theorem rdO_zero {c d : UInt8} (h : c.toNat = 0) (h1 : d.toNat = 255) (t : List UInt8) : rdO (c :: d :: t) = addO 0 2 (rdO t) := by
  conv => lhs; unfold rdO
  rw [if_pos h, if_neg (by omega), if_pos h1]
theorem rdO_form {c d : UInt8} (h : c.toNat = 0) (h1 : d.toNat ≠ 1) (h2 : d.toNat ≠ 255) (t : List UInt8) : rdO (c :: d :: t) = ([], 0, 11) := by
  conv => lhs; unfold rdO
  rw [if_pos h, if_neg h1, if_neg h2]
theorem ordB_cons (c : UInt8) (s : List UInt8) : ordB (c :: s) = ordC c ++ ordB s := by unfold ordB; simp
theorem ordC_zero : ordC 0 = [0, 255] := rfl
theorem ordC_ne {c : UInt8} (h : c.toNat ≠ 0) : ordC c = [c] := by unfold ordC; rw [if_neg h]
theorem rdO_ord : ∀ (n : Nat) (l : List UInt8), l.length ≤ n → (rdO l).2.2 = 0 → ordB (rdO l).1 = l.take (rdO l).2.1 ∧ (rdO l).2.1 ≤ l.length ∧ 2 ≤ (rdO l).2.1 ∧ (rdO l).1.length ≤ l.length := by
  intro n
  induction n with
  | zero =>
    intro l hl h
    obtain rfl := List.eq_nil_of_length_eq_zero (show l.length = 0 by omega)
    exact absurd h (by decide)
  | succ n ih =>
    intro l hl h
    match l, hl, h with
    | [], _, h => exact absurd h (by decide)
    | [c], _, h => exact absurd h (by show ¬ (10 = 0); decide)
    | c :: d :: t, hl, h =>
      simp only [List.length_cons] at hl
      by_cases hc : c.toNat = 0
      · by_cases h1 : d.toNat = 1
        · rw [rdO_one hc h1]
          obtain rfl := UInt8.toNat_inj.1 (show c.toNat = (0 : UInt8).toNat from hc)
          obtain rfl := UInt8.toNat_inj.1 (show d.toNat = (1 : UInt8).toNat from h1)
          exact ⟨rfl, by simp, by simp, by simp⟩
        · by_cases h2 : d.toNat = 255
          · rw [rdO_zero hc h2] at h ⊢
            have h0 : (rdO t).2.2 = 0 := by unfold addO at h; split at h <;> assumption
            obtain ⟨e1, e2, e3, e4⟩ := ih t (by omega) h0
            obtain rfl := UInt8.toNat_inj.1 (show c.toNat = (0 : UInt8).toNat from hc)
            obtain rfl := UInt8.toNat_inj.1 (show d.toNat = (255 : UInt8).toNat from h2)
            unfold addO
            rw [if_pos h0]
            refine ⟨?_, by simp <;> omega, by simp <;> omega, by simp <;> omega⟩
            show ordB (0 :: (rdO t).1) = _
            rw [ordB_cons, ordC_zero, e1]
            simp
          · rw [rdO_form hc h1 h2] at h
            exact absurd h (by show ¬ (11 = 0); decide)
      · rw [rdO_ne hc] at h ⊢
        have h0 : (rdO (d :: t)).2.2 = 0 := by unfold addO at h; split at h <;> assumption
        obtain ⟨e1, e2, e3, e4⟩ := ih (d :: t) (by simp; omega) h0
        unfold addO
        rw [if_pos h0]
        refine ⟨?_, by simp only [List.length_cons] at e2 ⊢; omega, by show 2 ≤ _ + 1; omega, by simp only [List.length_cons] at e4 ⊢; omega⟩
        show ordB (c :: (rdO (d :: t)).1) = _
        rw [ordB_cons, ordC_ne hc, e1]
        simp
theorem rdO_back (s : List UInt8) : ∀ r, rdO (ordB s ++ r) = (s, (ordB s).length, 0) := by
  induction s with
  | nil => intro r; exact rdO_one rfl rfl r
  | cons c s ih =>
    intro r
    rw [ordB_cons]
    by_cases hc : c.toNat = 0
    · obtain rfl := UInt8.toNat_inj.1 (show c.toNat = (0 : UInt8).toNat from hc)
      rw [ordC_zero]
      show rdO (0 :: 255 :: (ordB s ++ r)) = _
      rw [rdO_zero rfl rfl, ih]
      rfl
    · rw [ordC_ne hc]
      show rdO (c :: (ordB s ++ r)) = _
      rw [rdO_ne hc, ih]
      rfl
def glO (out : List UInt8) (k : Nat) (r : List UInt8 × Nat × Nat) : List UInt8 × Nat × Nat := if r.2.2 = 0 then (out ++ r.1, k + r.2.1, 0) else ([], 0, r.2.2)
theorem glO_add (out : List UInt8) (k : Nat) (x : UInt8) (j : Nat) (r : List UInt8 × Nat × Nat) : glO out k (addO x j r) = glO (out ++ [x]) (k + j) r := by
  unfold glO addO
  by_cases h : r.2.2 = 0
  · simp [h]; omega
  · simp [h]
def readO (l : List UInt8) (a : Int) : List UInt8 × Nat × Nat := if a < 0 ∨ (l.length : Int) < a then ([], 0, 1) else glO [] a.toNat (rdO (l.drop a.toNat))
theorem readO_in {l : List UInt8} {k : Nat} (h : k ≤ l.length) : readO l (k : Int) = glO [] k (rdO (l.drop k)) := by
  unfold readO; rw [if_neg (by omega)]; rfl
theorem readO_end (l : List UInt8) (a : Int) (h : (readO l a).2.2 = 0) : ordB (readO l a).1 = cutS l a.toNat ((readO l a).2.1 - a.toNat) ∧ (readO l a).2.1 ≤ l.length ∧ 0 ≤ a ∧ a.toNat < (readO l a).2.1 ∧ (readO l a).1.length ≤ l.length := by
  unfold readO at h ⊢
  by_cases ha : a < 0 ∨ (l.length : Int) < a
  · rw [if_pos ha] at h; exact absurd h (by decide)
  · rw [if_neg ha] at h ⊢
    have h0 : (rdO (l.drop a.toNat)).2.2 = 0 := by unfold glO at h; split at h <;> assumption
    obtain ⟨e1, e2, e3, e4⟩ := rdO_ord _ (l.drop a.toNat) (Nat.le_refl _) h0
    unfold glO
    rw [if_pos h0]
    rw [List.length_drop] at e2 e4
    refine ⟨?_, by simp; omega, by omega, by simp; omega, by simp; omega⟩
    show ordB ([] ++ (rdO (l.drop a.toNat)).1) = cutS l a.toNat (a.toNat + (rdO (l.drop a.toNat)).2.1 - a.toNat)
    rw [List.nil_append, e1, Nat.add_sub_cancel_left]
    rfl
theorem readO_back (p s r : List UInt8) : readO (p ++ ordB s ++ r) (p.length : Int) = (s, p.length + (ordB s).length, 0) := by
  rw [readO_in (by simp <;> omega), List.append_assoc, List.drop_left, rdO_back]
  unfold glO
  rw [if_pos rfl, List.nil_append]
theorem big_snoc (l : List UInt8) (c : UInt8) : big (l ++ [c]) = big l * 256 + c.toNat := by simp [big, List.foldl_append]
theorem big_top {c : UInt8} {t : List UInt8} (hc : c.toNat ≤ 127) (ht : t.length ≤ 6) : big (c :: t) < 36028797018963968 := by
  have h1 := big_lt t
  rw [big_cons]
  have h2 := Nat.pow_le_pow_right (show 0 < 256 by decide) ht
  have h3 : c.toNat * 256 ^ t.length ≤ 127 * 256 ^ t.length := Nat.mul_le_mul_right _ hc
  have h4 : (256 : Nat) ^ 6 = 281474976710656 := by decide
  omega
theorem big_take {l : List UInt8} (h0 : (l[0]?.getD 0).toNat ≤ 127) {j : Nat} (hj : j ≤ 7) : big (l.take j) < 36028797018963968 := by
  cases j with
  | zero => simp [big]
  | succ j =>
    cases l with
    | nil => simp [big]
    | cons c t =>
      rw [List.take_succ_cons]
      exact big_top h0 (by rw [List.length_take]; omega)
theorem or_step (N : Nat) (c : UInt8) (h : N < 36028797018963968) : bits .or .i64 ((N : Int) * 256) (c.toNat : Int) = ((N * 256 + c.toNat : Nat) : Int) := by
  have hc := c.toNat_lt
  rw [show (N : Int) * 256 = ((N * 256 : Nat) : Int) from by omega, i64_or_nat _ _ (by omega) (by omega), shl_or4 N c.toNat 8 hc]
theorem big_risB {l : List UInt8} (h : l.length = 8) : risB (big l) = l := by
  have e : ∀ v, risB v = [UInt8.ofNat (v / 72057594037927936), UInt8.ofNat (v / 281474976710656), UInt8.ofNat (v / 1099511627776), UInt8.ofNat (v / 4294967296), UInt8.ofNat (v / 16777216), UInt8.ofNat (v / 65536), UInt8.ofNat (v / 256), UInt8.ofNat v] := by
    intro v; simp [risB, rTo, List.range_succ]
  match l, h with
  | [x1, x2, x3, x4, x5, x6, x7, x8], _ =>
    rw [e]
    have h1 := x1.toNat_lt; have h2 := x2.toNat_lt; have h3 := x3.toNat_lt; have h4 := x4.toNat_lt; have h5 := x5.toNat_lt; have h6 := x6.toNat_lt; have h7 := x7.toNat_lt; have h8 := x8.toNat_lt
    have hb : big [x1, x2, x3, x4, x5, x6, x7, x8] = ((((((x1.toNat * 256 + x2.toNat) * 256 + x3.toNat) * 256 + x4.toNat) * 256 + x5.toNat) * 256 + x6.toNat) * 256 + x7.toNat) * 256 + x8.toNat := by
      simp [big]
    have q : ∀ (x : UInt8) (v : Nat), v % 256 = x.toNat → UInt8.ofNat v = x := fun x v hv => UInt8.toNat_inj.1 (by rw [UInt8.toNat_ofNat']; exact hv)
    rw [q x1 _ (by rw [hb]; omega), q x2 _ (by rw [hb]; omega), q x3 _ (by rw [hb]; omega), q x4 _ (by rw [hb]; omega), q x5 _ (by rw [hb]; omega), q x6 _ (by rw [hb]; omega), q x7 _ (by rw [hb]; omega), q x8 _ (by rw [hb]; omega)]
def readR (l : List UInt8) (a : Int) : Nat × Nat × Nat :=
  if a < 0 ∨ (l.length : Int) < a then (0, 0, 1) else if l.length < a.toNat + 8 then (0, 0, 10) else if 127 < (l[a.toNat]?.getD 0).toNat then (0, 0, 13) else (big (cutS l a.toNat 8), a.toNat + 8, 0)
theorem big_half {l : List UInt8} (h : l.length = 8) (h0 : (l[0]?.getD 0).toNat ≤ 127) : big l < 9223372036854775808 := by
  match l, h with
  | c :: t, h =>
    have h1 := big_lt t
    have h2 : t.length = 7 := by simpa using h
    have h3 : c.toNat ≤ 127 := h0
    rw [big_cons, h2]
    rw [h2] at h1
    have h4 : (256 : Nat) ^ 7 = 72057594037927936 := by decide
    omega
theorem readR_end (l : List UInt8) (a : Int) (h : (readR l a).2.2 = 0) : risB (readR l a).1 = cutS l a.toNat ((readR l a).2.1 - a.toNat) ∧ (readR l a).2.1 ≤ l.length ∧ 0 ≤ a ∧ a.toNat < (readR l a).2.1 ∧ (readR l a).1 < 9223372036854775808 := by
  unfold readR at h ⊢
  by_cases ha : a < 0 ∨ (l.length : Int) < a
  · rw [if_pos ha] at h; exact absurd h (by decide)
  rw [if_neg ha] at h ⊢
  by_cases hb : l.length < a.toNat + 8
  · rw [if_pos hb] at h; exact absurd h (by decide)
  rw [if_neg hb] at h ⊢
  by_cases hc : 127 < (l[a.toNat]?.getD 0).toNat
  · rw [if_pos hc] at h; exact absurd h (by decide)
  rw [if_neg hc]
  have hl : (cutS l a.toNat 8).length = 8 := by unfold cutS; rw [List.length_take, List.length_drop]; omega
  refine ⟨?_, by show a.toNat + 8 ≤ _; omega, by omega, by show _ < a.toNat + 8; omega, ?_⟩
  · show risB (big (cutS l a.toNat 8)) = cutS l a.toNat (a.toNat + 8 - a.toNat)
    rw [Nat.add_sub_cancel_left, big_risB hl]
  · refine big_half hl ?_
    have e : (cutS l a.toNat 8)[0]? = l[a.toNat]? := by unfold cutS; rw [List.getElem?_take_of_lt (by omega), List.getElem?_drop, Nat.add_zero]
    rw [e]; omega
theorem risB_head (v : Nat) (hv : v < 9223372036854775808) (r : List UInt8) : (((risB v) ++ r)[0]?.getD 0).toNat ≤ 127 := by
  have e : risB v ++ r = UInt8.ofNat (v / 72057594037927936) :: ([UInt8.ofNat (v / 281474976710656), UInt8.ofNat (v / 1099511627776), UInt8.ofNat (v / 4294967296), UInt8.ofNat (v / 16777216), UInt8.ofNat (v / 65536), UInt8.ofNat (v / 256), UInt8.ofNat v] ++ r) := by
    simp [risB, rTo, List.range_succ]
  rw [e]
  show (UInt8.ofNat (v / 72057594037927936)).toNat ≤ 127
  rw [UInt8.toNat_ofNat']; omega
theorem readR_back (p r : List UInt8) (v : Nat) (hv : v < 9223372036854775808) : readR (p ++ risB v ++ r) (p.length : Int) = (v, p.length + 8, 0) := by
  have hl : (risB v).length = 8 := rTo_len v 8
  unfold readR
  rw [if_neg (by simp; omega), Int.toNat_natCast, if_neg (by simp only [List.length_append, hl]; omega)]
  have e : (p ++ risB v ++ r)[p.length]? = (risB v ++ r)[0]? := by rw [List.append_assoc, List.getElem?_append_right (Nat.le_refl _), Nat.sub_self]
  rw [e, if_neg (by have := risB_head v hv r; omega)]
  have c : cutS (p ++ risB v ++ r) p.length 8 = risB v := by unfold cutS; rw [List.append_assoc, List.drop_left, ← hl, List.take_left]
  rw [c, risB_big v (by omega)]
def readFl (l : List UInt8) (a : Int) : Nat × Nat × Nat := if (readR l a).2.2 = 0 then (9223372036854775807 - (readR l a).1, (readR l a).2.1, 0) else (0, 0, (readR l a).2.2)
theorem readFl_end (l : List UInt8) (a : Int) (h : (readFl l a).2.2 = 0) : risB (9223372036854775807 - (readFl l a).1) = cutS l a.toNat ((readFl l a).2.1 - a.toNat) ∧ (readFl l a).2.1 ≤ l.length ∧ 0 ≤ a ∧ a.toNat < (readFl l a).2.1 ∧ (readFl l a).1 < 9223372036854775808 := by
  unfold readFl at h ⊢
  by_cases h0 : (readR l a).2.2 = 0
  · rw [if_pos h0]
    obtain ⟨e1, e2, e3, e4, e5⟩ := readR_end l a h0
    refine ⟨?_, e2, e3, e4, by show 9223372036854775807 - (readR l a).1 < _; omega⟩
    show risB (9223372036854775807 - (9223372036854775807 - (readR l a).1)) = _
    rw [show 9223372036854775807 - (9223372036854775807 - (readR l a).1) = (readR l a).1 from by omega, e1]
  · rw [if_neg h0] at h; exact absurd h h0
theorem readFl_back (p r : List UInt8) (v : Nat) (hv : v < 9223372036854775808) : readFl (p ++ risB (9223372036854775807 - v) ++ r) (p.length : Int) = (v, p.length + 8, 0) := by
  unfold readFl
  rw [readR_back p r _ (by omega), if_pos rfl]
  show (9223372036854775807 - (9223372036854775807 - v), _, _) = _
  rw [show 9223372036854775807 - (9223372036854775807 - v) = v from by omega]
end Go.Proofs.YtmigjipfomfacaaGreatDoor
namespace Go.Proofs.YtmigjipfomfacaaGreatDoor
open Go.RowKit
end Go.Proofs.YtmigjipfomfacaaGreatDoor
namespace Go.Proofs.YtmigjipfomfacaaGreatDoor
open Go.RowKit
structure Ent where
  row : List UInt8
  fam : Int
  qual : List UInt8
  ts : Int
  seq : Int
  kind : Int
  val : List UInt8
def checkN (r : Nat) (f : Int) (q : Nat) (t s k : Int) (v : Nat) : Int :=
  if r < 1 ∨ 256 < r then 20 else if f < 0 ∨ 7 < f then 21 else if 256 < q ∨ (k = 5 ∧ 0 < q) then 22 else if t < 1 ∨ 1099511627776 < t then 23
  else if s < 0 ∨ 17592186044431 < s then 24 else if k < 1 ∨ 5 < k then 25 else if 4096 < v ∨ (k ≠ 1 ∧ 0 < v) then 26 else 0
def checkE (e : Ent) : Int := checkN e.row.length e.fam e.qual.length e.ts e.seq e.kind e.val.length
structure OkE (e : Ent) : Prop where
  row : 1 ≤ e.row.length ∧ e.row.length ≤ 256
  fam : 0 ≤ e.fam ∧ e.fam ≤ 7
  qual : e.qual.length ≤ 256 ∧ (e.kind = 5 → e.qual = [])
  ts : 1 ≤ e.ts ∧ e.ts ≤ 1099511627776
  seq : 0 ≤ e.seq ∧ e.seq ≤ 17592186044431
  kind : 1 ≤ e.kind ∧ e.kind ≤ 5
  val : e.val.length ≤ 4096 ∧ (e.kind ≠ 1 → e.val = [])
theorem checkN_ok {r : Nat} {f : Int} {q : Nat} {t s k : Int} {v : Nat} (h : checkN r f q t s k v = 0) :
    ¬ (r < 1 ∨ 256 < r) ∧ ¬ (f < 0 ∨ 7 < f) ∧ ¬ (256 < q ∨ (k = 5 ∧ 0 < q)) ∧ ¬ (t < 1 ∨ 1099511627776 < t) ∧ ¬ (s < 0 ∨ 17592186044431 < s) ∧ ¬ (k < 1 ∨ 5 < k) ∧ ¬ (4096 < v ∨ (k ≠ 1 ∧ 0 < v)) := by
  unfold checkN at h
  repeat' split at h
  all_goals first | exact absurd h (by decide) | exact ⟨by assumption, by assumption, by assumption, by assumption, by assumption, by assumption, by assumption⟩
theorem ok_of {e : Ent} (h : checkE e = 0) : OkE e := by
  obtain ⟨h1, h2, h3, h4, h5, h6, h7⟩ := checkN_ok h
  refine ⟨by omega, by omega, ⟨by omega, fun hk => List.eq_nil_of_length_eq_zero ?_⟩, by omega, by omega, by omega, ⟨by omega, fun hk => List.eq_nil_of_length_eq_zero ?_⟩⟩
  · have := fun hp => h3 (.inr ⟨hk, hp⟩); omega
  · have := fun hp => h7 (.inr ⟨hk, hp⟩); omega
theorem of_ok {e : Ent} (h : OkE e) : checkE e = 0 := by
  obtain ⟨h1, h2, ⟨h3, h3'⟩, h4, h5, h6, h7, h7'⟩ := h
  unfold checkE checkN
  rw [if_neg (by omega), if_neg (by omega), if_neg, if_neg (by omega), if_neg (by omega), if_neg (by omega), if_neg]
  · rintro (h | ⟨h, h'⟩)
    · omega
    · rw [h7' h] at h'; simp at h'
  · rintro (h | ⟨h, h'⟩)
    · omega
    · rw [h3' h] at h'; simp at h'
def seqC (a b : Int) : Int := if a = 0 then b else a
def cmpI (a b : Int) : Int := if a < b then -1 else if b < a then 1 else 0
def firstI (x y : Bool) : Int := if x = y then 0 else if x then -1 else 1
def cmpE (a b : Ent) : Int :=
  seqC (cmpB a.row b.row) (seqC (cmpI a.fam b.fam) (seqC (firstI (a.kind == 5) (b.kind == 5)) (seqC (cmpB a.qual b.qual) (seqC (firstI (a.kind == 4) (b.kind == 4))
    (seqC (cmpI b.ts a.ts) (seqC (cmpI b.seq a.seq) (cmpI a.kind b.kind)))))))
structure Ord3 (c : Ent → Ent → Int) : Prop where
  swap : ∀ a b, c b a = - c a b
  trans : ∀ a b d, c a b ≤ 0 → c b d ≤ 0 → c a d ≤ 0
  eq : ∀ a b d, c a b = 0 → c a d = c b d
theorem Ord3.seq {c1 c2 : Ent → Ent → Int} (h1 : Ord3 c1) (h2 : Ord3 c2) : Ord3 fun a b => seqC (c1 a b) (c2 a b) := by
  refine ⟨fun a b => ?_, fun a b d hab hbd => ?_, fun a b d hab => ?_⟩
  · have e1 := h1.swap a b; have e2 := h2.swap a b
    simp only [seqC, e1, e2]
    split <;> split <;> omega
  · simp only [seqC] at hab hbd ⊢
    have q1 : c1 a b ≤ 0 := by split at hab <;> omega
    have q2 : c1 b d ≤ 0 := by split at hbd <;> omega
    have q3 := h1.trans a b d q1 q2
    by_cases h0 : c1 a d = 0
    · have e1 := h1.eq a d b h0
      have e2 := h1.swap b d
      have z1 : c1 a b = 0 := by omega
      have z2 : c1 b d = 0 := by omega
      rw [if_pos z1] at hab
      rw [if_pos z2] at hbd
      rw [if_pos h0]
      exact h2.trans a b d hab hbd
    · rw [if_neg h0]; exact q3
  · simp only [seqC] at hab ⊢
    have z1 : c1 a b = 0 := by split at hab <;> omega
    rw [if_pos z1] at hab
    rw [h1.eq a b d z1, h2.eq a b d hab]
theorem cmpB_zero : ∀ a b : List UInt8, cmpB a b = 0 → a = b := by
  intro a
  induction a with
  | nil => intro b h; cases b with
    | nil => rfl
    | cons y b => simp [cmpB] at h
  | cons x a ih =>
    intro b h
    cases b with
    | nil => simp [cmpB] at h
    | cons y b =>
      unfold cmpB at h
      split at h
      · exact absurd h (by decide)
      · split at h
        · exact absurd h (by decide)
        · rw [ih b h, show x = y from UInt8.toNat_inj.1 (by omega)]
theorem cmpB_trans : ∀ a b d : List UInt8, cmpB a b ≤ 0 → cmpB b d ≤ 0 → cmpB a d ≤ 0 := by
  intro a
  induction a with
  | nil => intro b d _ _; cases d <;> simp [cmpB]
  | cons x a ih =>
    intro b d h1 h2
    cases b with
    | nil => simp [cmpB] at h1
    | cons y b =>
      cases d with
      | nil => simp [cmpB] at h2
      | cons z d =>
        unfold cmpB at h1 h2 ⊢
        split at h1
        · split at h2
          · rw [if_pos (by omega)]; decide
          · split at h2
            · exact absurd h2 (by decide)
            · rw [if_pos (by omega)]; decide
        · split at h1
          · exact absurd h1 (by decide)
          · split at h2
            · rw [if_pos (by omega)]; decide
            · split at h2
              · exact absurd h2 (by decide)
              · rw [if_neg (by omega), if_neg (by omega)]; exact ih b d h1 h2
def flg (b : Bool) : UInt8 := if b then 0 else 1
def numK (t : Int) : List UInt8 := risB (9223372036854775807 - t.toNat)
def qualK (e : Ent) : List UInt8 := if e.kind = 5 then [] else ordB e.qual ++ [flg (e.kind == 4)]
def tailK (e : Ent) : List UInt8 := numK e.ts ++ (numK e.seq ++ [UInt8.ofNat e.kind.toNat])
def keyE (e : Ent) : List UInt8 := ordB e.row ++ (UInt8.ofNat e.fam.toNat :: flg (e.kind == 5) :: (qualK e ++ tailK e))
theorem risB_len (v : Nat) : (risB v).length = 8 := rTo_len v 8
theorem cmpB_cc (c d : UInt8) (x y : List UInt8) : cmpB (c :: x) (d :: y) = if c.toNat < d.toNat then -1 else if d.toNat < c.toNat then 1 else cmpB x y := by rw [cmpB]
theorem cmp_app : ∀ (a b : List UInt8), a.length = b.length → ∀ x y, cmpB (a ++ x) (b ++ y) = seqC (cmpB a b) (cmpB x y)
  | [], [], _, x, y => by simp [seqC, cmpB]
  | [], _ :: _, h, _, _ => by simp at h
  | _ :: _, [], h, _, _ => by simp at h
  | c :: a, d :: b, h, x, y => by
    have ih := cmp_app a b (by simpa using h) x y
    rw [List.cons_append, List.cons_append, cmpB_cc, cmpB_cc]
    split
    · rfl
    · split
      · rfl
      · exact ih
theorem cmp_ord (a b x y : List UInt8) : cmpB (ordB a ++ x) (ordB b ++ y) = seqC (cmpB a b) (cmpB x y) := ord_sorts a b x y
theorem cmp_one (c d : UInt8) (x y : List UInt8) : cmpB (c :: x) (d :: y) = seqC (cmpI c.toNat d.toNat) (cmpB x y) := by
  rw [cmpB_cc]
  unfold cmpI seqC
  by_cases h1 : c.toNat < d.toNat
  · have h1' : (c.toNat : Int) < d.toNat := by omega
    simp only [if_pos h1, if_pos h1']; rfl
  · have h1' : ¬ (c.toNat : Int) < d.toNat := by omega
    simp only [if_neg h1, if_neg h1']
    by_cases h2 : d.toNat < c.toNat
    · have h2' : (d.toNat : Int) < c.toNat := by omega
      simp only [if_pos h2, if_pos h2']; rfl
    · have h2' : ¬ (d.toNat : Int) < c.toNat := by omega
      simp only [if_neg h2, if_neg h2']; rfl
theorem byte_val {t : Int} (h0 : 0 ≤ t) (h1 : t ≤ 255) : ((UInt8.ofNat t.toNat).toNat : Int) = t := by
  rw [UInt8.toNat_ofNat']; omega
theorem cmp_num {a b : Int} (ha : 0 ≤ a) (hb : 0 ≤ b) (ha' : a ≤ 17592186044431) (hb' : b ≤ 17592186044431) : cmpB (numK a) (numK b) = cmpI b a := by
  unfold numK cmpI
  rw [ris_sorts _ _ (by omega) (by omega)]
  by_cases h1 : b < a
  · rw [if_pos h1, if_pos (by omega)]
  · rw [if_neg h1, if_neg (by omega)]
    by_cases h2 : a < b
    · rw [if_pos h2, if_pos (by omega)]
    · rw [if_neg h2, if_neg (by omega)]
theorem cmp_flg (x y : Bool) : cmpI (flg x).toNat (flg y).toNat = firstI x y := by cases x <;> cases y <;> decide
theorem seqC_zero (a : Int) : seqC a 0 = a := by unfold seqC; split <;> omega
theorem tail_sorts {a b : Ent} (ha : OkE a) (hb : OkE b) : cmpB (tailK a) (tailK b) = seqC (cmpI b.ts a.ts) (seqC (cmpI b.seq a.seq) (cmpI a.kind b.kind)) := by
  have t1 := ha.ts; have t2 := hb.ts; have s1 := ha.seq; have s2 := hb.seq; have k1 := ha.kind; have k2 := hb.kind
  unfold tailK
  rw [cmp_app _ _ (by unfold numK; rw [risB_len, risB_len]), cmp_app _ _ (by unfold numK; rw [risB_len, risB_len]), cmp_num (by omega) (by omega) (by omega) (by omega), cmp_num (by omega) (by omega) (by omega) (by omega),
    cmp_one, byte_val (by omega) (by omega), byte_val (by omega) (by omega), show cmpB ([] : List UInt8) [] = 0 from rfl, seqC_zero]
theorem key_sorts {a b : Ent} (ha : OkE a) (hb : OkE b) : cmpB (keyE a) (keyE b) = cmpE a b := by
  have f1 := ha.fam; have f2 := hb.fam
  have hq : seqC (firstI (a.kind == 5) (b.kind == 5)) (cmpB (qualK a ++ tailK a) (qualK b ++ tailK b)) =
      seqC (firstI (a.kind == 5) (b.kind == 5)) (seqC (cmpB a.qual b.qual) (seqC (firstI (a.kind == 4) (b.kind == 4)) (cmpB (tailK a) (tailK b)))) := by
    unfold qualK
    by_cases h1 : a.kind = 5
    · by_cases h2 : b.kind = 5
      · rw [if_pos h1, if_pos h2, ha.qual.2 h1, hb.qual.2 h2, h1, h2]
        simp [seqC, firstI, cmpB]
      · rw [show (a.kind == 5) = true from by simpa using h1, show (b.kind == 5) = false from by simpa using h2]
        simp [seqC, firstI]
    · by_cases h2 : b.kind = 5
      · rw [show (a.kind == 5) = false from by simpa using h1, show (b.kind == 5) = true from by simpa using h2]
        simp [seqC, firstI]
      · rw [if_neg h1, if_neg h2, List.append_assoc, List.append_assoc, cmp_ord, List.singleton_append, List.singleton_append, cmp_one, cmp_flg]
  unfold keyE cmpE
  rw [cmp_ord, cmp_one, cmp_one, cmp_flg, byte_val (by omega) (by omega), byte_val (by omega) (by omega), hq, tail_sorts ha hb]
theorem numK_len (t : Int) : (numK t).length = 8 := risB_len _
theorem tailK_len (e : Ent) : (tailK e).length = 17 := by unfold tailK; simp [numK_len]
theorem qualK_len (e : Ent) : (qualK e).length ≤ 2 * e.qual.length + 3 := by
  unfold qualK
  split
  · simp
  · have := ordB_len e.qual; simp; omega
theorem keyE_len {e : Ent} (h : OkE e) : (keyE e).length ≤ 1048 := by
  have h1 := ordB_len e.row; have h2 := qualK_len e; have h3 := tailK_len e; have h4 := h.row; have h5 := h.qual.1
  unfold keyE
  simp only [List.length_append, List.length_cons]
  omega
def KeyE (e : Ent) : List UInt8 × Int := if checkE e = 0 then (keyE e, 0) else ([], checkE e)
end Go.Proofs.YtmigjipfomfacaaGreatDoor
namespace Go.Proofs.YtmigjipfomfacaaGreatDoor
open Go.RowKit
def noEnt : Ent := ⟨[], 0, [], 0, 0, 0, []⟩
def atB (b : List UInt8) (k : Nat) : Nat := (b[k]?.getD 0).toNat
def parseN (b row : List UInt8) (fam : Nat) (qual : List UInt8) (a : Nat) : Option (Ent × Nat) :=
  if (readFl b (a : Nat)).2.2 ≠ 0 then none
  else if (readFl b ((readFl b (a : Nat)).2.1 : Nat)).2.2 ≠ 0 ∨ b.length ≤ (readFl b ((readFl b (a : Nat)).2.1 : Nat)).2.1 then none
  else some (⟨row, fam, qual, ((readFl b (a : Nat)).1 : Nat), ((readFl b ((readFl b (a : Nat)).2.1 : Nat)).1 : Nat), atB b (readFl b ((readFl b (a : Nat)).2.1 : Nat)).2.1, []⟩, (readFl b ((readFl b (a : Nat)).2.1 : Nat)).2.1 + 1)
def parseQ (b row : List UInt8) (fam : Nat) (a : Nat) : Option (Ent × Nat) :=
  if (readO b (a : Nat)).2.2 ≠ 0 ∨ b.length ≤ (readO b (a : Nat)).2.1 then none else parseN b row fam (readO b (a : Nat)).1 ((readO b (a : Nat)).2.1 + 1)
def parseE (b : List UInt8) : Option (Ent × Nat) :=
  if (readO b 0).2.2 ≠ 0 ∨ b.length < (readO b 0).2.1 + 2 then none
  else if atB b ((readO b 0).2.1 + 1) ≠ 0 then parseQ b (readO b 0).1 (atB b (readO b 0).2.1) ((readO b 0).2.1 + 2)
  else parseN b (readO b 0).1 (atB b (readO b 0).2.1) [] ((readO b 0).2.1 + 2)
def ParseKeyO (b : List UInt8) (o : Option (Ent × Nat)) : Ent × Int := match o with
  | none => (noEnt, 27)
  | some (e, _) => if checkE e = 0 ∧ keyE e = b then (e, 0) else (noEnt, 27)
def ParseKeyE (b : List UInt8) : Ent × Int := ParseKeyO b (parseE b)
theorem atB_mid (p : List UInt8) (c : UInt8) (r : List UInt8) {k : Nat} (hk : k = p.length) : atB (p ++ c :: r) k = c.toNat := by
  subst hk
  unfold atB
  rw [List.getElem?_append_right (Nat.le_refl _)]
  simp
theorem numK_back (p r : List UInt8) {t : Int} (h0 : 0 ≤ t) (h1 : t ≤ 17592186044431) {k : Nat} (hk : k = p.length) : readFl (p ++ (numK t ++ r)) (k : Nat) = (t.toNat, k + 8, 0) := by
  subst hk
  have := readFl_back p r t.toNat (by omega)
  rw [List.append_assoc] at this
  exact this
theorem readO_back' (p s r : List UInt8) {k : Nat} (hk : k = p.length) : readO (p ++ (ordB s ++ r)) (k : Nat) = (s, k + (ordB s).length, 0) := by
  subst hk
  have := readO_back p s r
  rw [List.append_assoc] at this
  exact this
theorem parseN_back {e : Ent} (h : OkE e) (p r : List UInt8) (row : List UInt8) (fam : Nat) (qual : List UInt8) {k : Nat} (hk : k = p.length) : parseN (p ++ (tailK e ++ r)) row fam qual k = some (⟨row, fam, qual, e.ts, e.seq, e.kind, []⟩, k + 17) := by
  have ht := h.ts; have hs := h.seq; have hd := h.kind
  have h1 : readFl (p ++ (tailK e ++ r)) (k : Nat) = (e.ts.toNat, k + 8, 0) := by
    have := numK_back p (numK e.seq ++ [UInt8.ofNat e.kind.toNat] ++ r) (t := e.ts) (by omega) (by omega) hk
    unfold tailK
    simp only [List.append_assoc] at *
    exact this
  have h2 : readFl (p ++ (tailK e ++ r)) ((k + 8 : Nat) : Nat) = (e.seq.toNat, k + 8 + 8, 0) := by
    have := numK_back (p ++ numK e.ts) ([UInt8.ofNat e.kind.toNat] ++ r) (t := e.seq) (by omega) (by omega) (k := k + 8) (by rw [List.length_append, numK_len]; omega)
    unfold tailK
    simp only [List.append_assoc] at *
    exact this
  have h3 : atB (p ++ (tailK e ++ r)) (k + 8 + 8) = e.kind.toNat := by
    have := atB_mid (p ++ (numK e.ts ++ numK e.seq)) (UInt8.ofNat e.kind.toNat) r (k := k + 8 + 8) (by simp only [List.length_append, numK_len]; omega)
    have e1 : (UInt8.ofNat e.kind.toNat).toNat = e.kind.toNat := by have := byte_val (t := e.kind) (by omega) (by omega); omega
    rw [e1] at this
    rw [← this]
    unfold tailK
    simp only [List.append_assoc, List.singleton_append]
  unfold parseN
  rw [h1]
  simp only
  rw [if_neg (by simp), h2]
  simp only
  rw [if_neg, h3]
  · have a1 : ((e.ts.toNat : Nat) : Int) = e.ts := by omega
    have a2 : ((e.seq.toNat : Nat) : Int) = e.seq := by omega
    have a3 : ((e.kind.toNat : Nat) : Int) = e.kind := by omega
    rw [a1, a2, a3]
  · rintro (h | h)
    · exact h rfl
    · simp only [List.length_append, tailK_len] at h
      omega
theorem ofN {t : Int} (h0 : 0 ≤ t) (h1 : t ≤ 255) : (UInt8.ofNat t.toNat).toNat = t.toNat := by have := byte_val h0 h1; omega
theorem parse_back {e : Ent} (h : OkE e) (r : List UInt8) : parseE (keyE e ++ r) = some ({ e with val := [] }, (keyE e).length) := by
  have hf := h.fam
  have hk : keyE e ++ r = ordB e.row ++ (UInt8.ofNat e.fam.toNat :: flg (e.kind == 5) :: (qualK e ++ tailK e ++ r)) := by unfold keyE; simp
  have h0 : readO (keyE e ++ r) 0 = (e.row, (ordB e.row).length, 0) := by
    rw [hk]
    have := readO_back' [] e.row (UInt8.ofNat e.fam.toNat :: flg (e.kind == 5) :: (qualK e ++ tailK e ++ r)) (k := 0) rfl
    simpa using this
  have h1 : atB (keyE e ++ r) (ordB e.row).length = e.fam.toNat := by
    rw [hk, atB_mid _ _ _ rfl, ofN (by omega) (by omega)]
  have h2 : atB (keyE e ++ r) ((ordB e.row).length + 1) = (flg (e.kind == 5)).toNat := by
    have := atB_mid (ordB e.row ++ [UInt8.ofNat e.fam.toNat]) (flg (e.kind == 5)) (qualK e ++ tailK e ++ r) (k := (ordB e.row).length + 1) (by simp)
    rw [hk, ← this]
    simp
  have hlen : ¬ ((keyE e ++ r).length < (ordB e.row).length + 2) := by rw [hk]; simp only [List.length_append, List.length_cons]; omega
  have e1 : ((e.fam.toNat : Nat) : Int) = e.fam := by omega
  unfold parseE
  rw [h0]
  simp only
  rw [if_neg (by rintro (h | h); exact h rfl; exact hlen h), h1, h2]
  by_cases h5 : e.kind = 5
  · have hb : (e.kind == 5) = true := by simpa using h5
    rw [hb, if_neg (by simp [flg])]
    have hq := h.qual.2 h5
    have hs : keyE e ++ r = (ordB e.row ++ [UInt8.ofNat e.fam.toNat, flg true]) ++ (tailK e ++ r) := by rw [hk, hb]; unfold qualK; rw [if_pos h5]; simp
    rw [hs, parseN_back h _ _ _ _ _ (by simp)]
    have hl : (keyE e).length = (ordB e.row).length + 2 + 17 := by
      unfold keyE qualK
      rw [if_pos h5]
      simp only [List.length_append, List.length_cons, tailK_len, List.length_nil]
    rw [hl, e1, hq]
  · have hb : (e.kind == 5) = false := by simpa using h5
    rw [hb, if_pos (by simp [flg])]
    have hs : keyE e ++ r = (ordB e.row ++ [UInt8.ofNat e.fam.toNat, flg false]) ++ (ordB e.qual ++ (flg (e.kind == 4) :: (tailK e ++ r))) := by rw [hk, hb]; unfold qualK; rw [if_neg h5]; simp
    have hs2 : keyE e ++ r = (ordB e.row ++ [UInt8.ofNat e.fam.toNat, flg false] ++ ordB e.qual ++ [flg (e.kind == 4)]) ++ (tailK e ++ r) := by rw [hs]; simp
    have h3 : readO (keyE e ++ r) (((ordB e.row).length + 2 : Nat) : Nat) = (e.qual, (ordB e.row).length + 2 + (ordB e.qual).length, 0) := by
      rw [hs]; exact readO_back' _ _ _ (by simp)
    unfold parseQ
    rw [h3]
    simp only
    have hlen2 : ¬ ((keyE e ++ r).length ≤ (ordB e.row).length + 2 + (ordB e.qual).length) := by rw [hs2]; simp only [List.length_append, List.length_cons, List.length_nil]; omega
    rw [if_neg (by rintro (h | h); exact h rfl; exact hlen2 h), hs2, parseN_back h _ _ _ _ _ (by simp only [List.length_append, List.length_cons, List.length_nil]), e1]
    have hl : (keyE e).length = (ordB e.row).length + 2 + (ordB e.qual).length + 1 + 17 := by
      unfold keyE qualK
      rw [if_neg h5]
      simp only [List.length_append, List.length_cons, tailK_len, List.length_nil]
      omega
    rw [hl]
theorem parse_key {e : Ent} (h : OkE e) : parseE (keyE e) = some ({ e with val := [] }, (keyE e).length) := by
  have := parse_back h []
  rwa [List.append_nil] at this
theorem OkE.bare {e : Ent} (h : OkE e) : OkE { e with val := [] } := ⟨h.row, h.fam, h.qual, h.ts, h.seq, h.kind, by simp, fun _ => rfl⟩
theorem ParseKey_back {e : Ent} (h : OkE e) : ParseKeyE (keyE e) = ({ e with val := [] }, 0) := by
  unfold ParseKeyE
  rw [parse_key h]
  exact if_pos ⟨of_ok h.bare, rfl⟩
theorem ParseKey_is {b : List UInt8} (h : (ParseKeyE b).2 = 0) : OkE (ParseKeyE b).1 ∧ keyE (ParseKeyE b).1 = b ∧ (ParseKeyE b).1.val = [] := by
  unfold ParseKeyE at h ⊢
  cases hp : parseE b with
  | none => rw [hp] at h; exact absurd (show (27 : Int) = 0 from h) (by decide)
  | some x =>
    obtain ⟨e, p⟩ := x
    rw [hp] at h
    simp only [ParseKeyO] at h ⊢
    split at h
    · rename_i hh
      rw [if_pos hh]
      have h1 := parse_key (ok_of hh.1)
      rw [hh.2, hp] at h1
      injection h1 with h1
      injection h1 with h1 _
      refine ⟨ok_of hh.1, hh.2, ?_⟩
      show e.val = []
      rw [h1]
    · exact absurd h (by decide)
theorem prefix_free {a b : Ent} (ha : OkE a) (hb : OkE b) (n : Nat) (hp : (keyE a).take n = (keyE b).take n) (hn : n = (keyE a).length) : keyE a = keyE b := by
  subst hn
  rw [List.take_length] at hp
  have h3 : keyE b = keyE a ++ (keyE b).drop (keyE a).length := by conv => lhs; rw [← List.take_append_drop (keyE a).length (keyE b), ← hp]
  have h4 := parse_back ha ((keyE b).drop (keyE a).length)
  rw [← h3, parse_key hb] at h4
  injection h4 with h4
  injection h4 with h4 h5
  rw [hp]
  exact List.take_of_length_le (by omega)
end Go.Proofs.YtmigjipfomfacaaGreatDoor
namespace Go.Proofs.YtmigjipfomfacaaGreatDoor
def shareN : List UInt8 → List UInt8 → Nat
  | a :: az, b :: bs => if a = b then shareN az bs + 1 else 0
  | _, _ => 0
theorem shareN_le : ∀ a b : List UInt8, shareN a b ≤ a.length ∧ shareN a b ≤ b.length
  | [], b => ⟨Nat.zero_le _, Nat.zero_le _⟩
  | a :: az, [] => ⟨Nat.zero_le _, Nat.zero_le _⟩
  | a :: az, b :: bs => by
    unfold shareN
    split
    · have := shareN_le az bs; exact ⟨Nat.succ_le_succ this.1, Nat.succ_le_succ this.2⟩
    · exact ⟨Nat.zero_le _, Nat.zero_le _⟩
theorem shareN_take : ∀ a b : List UInt8, a.take (shareN a b) = b.take (shareN a b)
  | [], b => by simp [shareN]
  | a :: az, [] => by simp [shareN]
  | a :: az, b :: bs => by
    unfold shareN
    split
    · rename_i h; subst h; simp [shareN_take az bs]
    · simp
theorem shareN_test : ∀ (a b : List UInt8) (k : Nat), k ≤ shareN a b → (k < shareN a b ↔ k < a.length ∧ k < b.length ∧ a[k]? = b[k]?)
  | [], b, k, h => by simp [shareN] at h ⊢
  | a :: az, [], k, h => by simp [shareN] at h ⊢
  | a :: az, b :: bs, k, h => by
    unfold shareN at h ⊢
    split at h
    · rename_i e
      rw [if_pos e]
      subst e
      cases k with
      | zero => simp
      | succ k =>
        have := shareN_test az bs k (by omega)
        simp only [List.length_cons, Nat.add_lt_add_iff_right, List.getElem?_cons_succ]
        omega
    · rename_i e
      rw [if_neg e]
      obtain rfl : k = 0 := by omega
      simp
      intro h; exact absurd h e
def rowK (n : Nat) (k v : List UInt8) : List UInt8 := uintB n ++ (uintB (k.drop n).length ++ k.drop n) ++ (uintB v.length ++ v)
structure BSt where
  body : List UInt8
  places : List Nat
  key : List UInt8
  n : Nat
def bst0 : BSt := ⟨[], [], [], 0⟩
def alikeB (R : Nat) (s : BSt) (k : List UInt8) : Nat := if s.n % R = 0 then 0 else shareN s.key k
def placesB (R : Nat) (s : BSt) : List Nat := if s.n % R = 0 then s.places ++ [s.body.length] else s.places
def stepB (R : Nat) (s : BSt) (k v : List UInt8) : BSt := ⟨s.body ++ rowK (alikeB R s k) k v, placesB R s, k, s.n + 1⟩
def runE (R : Nat) (s : BSt) (l : List Ent) : BSt := l.foldl (fun s e => stepB R s (keyE e) e.val) s
def runB (R : Nat) (l : List Ent) : BSt := runE R bst0 l
theorem runB_snoc (R : Nat) (l : List Ent) (e : Ent) : runB R (l ++ [e]) = stepB R (runB R l) (keyE e) e.val := by simp [runB, runE]
theorem runB_n (R : Nat) : ∀ l : List Ent, (runB R l).n = l.length := by
  have : ∀ (l : List Ent) (s : BSt), (runE R s l).n = s.n + l.length := by
    intro l
    induction l with
    | nil => intro s; rfl
    | cons e l ih => intro s; show (runE R (stepB R s (keyE e) e.val) l).n = _; rw [ih]; simp only [stepB, List.length_cons]; omega
  intro l
  have := this l bst0
  simpa [runB, bst0] using this
def four4 (n : Nat) : List UInt8 := [UInt8.ofNat (n / 16777216), UInt8.ofNat (n / 65536), UInt8.ofNat (n / 256), UInt8.ofNat n]
theorem four4_len (n : Nat) : (four4 n).length = 4 := rfl
def headB5 (R : Nat) (s : BSt) : List UInt8 := s.body ++ s.places.flatMap four4 ++ four4 s.n ++ [UInt8.ofNat R]
def layS (R : Nat) (s : BSt) : List UInt8 := headB5 R s ++ lowB (sumL (headB5 R s))
def layB (R : Nat) (l : List Ent) : List UInt8 := if l = [] then [] else layS R (runB R l)
def sizeS (s : BSt) : Nat := s.body.length + 4 * s.places.length + 9
theorem places_len (l : List Nat) : (l.flatMap four4).length = 4 * l.length := by
  induction l with
  | nil => rfl
  | cons a l ih => rw [List.flatMap_cons, List.length_append, ih, four4_len, List.length_cons]; omega
theorem lowB_len (s : Nat) : (lowB s).length = 4 := rfl
theorem layS_len (R : Nat) (s : BSt) : (layS R s).length = sizeS s := by
  unfold layS headB5 sizeS
  simp only [List.length_append, places_len, four4_len, lowB_len, List.length_singleton]
theorem row_u (p r : List UInt8) (al : Nat) (k v : List UInt8) (ha : al < 18446744073709551616) : readU (p ++ (rowK al k v ++ r)) (p.length : Int) = (al, p.length + (uintB al).length, 0) := by
  have := readU_back p ((uintB (k.drop al).length ++ k.drop al) ++ (uintB v.length ++ v) ++ r) al ha
  unfold rowK
  simp only [List.append_assoc] at *
  exact this
theorem row_k (p r : List UInt8) (al : Nat) (k v : List UInt8) (most : Int) (hk : (k.drop al).length < 18446744073709551616) (hm : ((k.drop al).length : Int) ≤ most) :
    readBy (p ++ (rowK al k v ++ r)) ((p.length + (uintB al).length : Nat) : Int) most = (k.drop al, p.length + (uintB al).length + (uintB (k.drop al).length ++ k.drop al).length, 0) := by
  have := readBy_back (p ++ uintB al) ((uintB v.length ++ v) ++ r) (k.drop al) most hk hm
  rw [List.length_append] at this
  unfold rowK
  simp only [List.append_assoc] at *
  exact this
theorem row_v (p r : List UInt8) (al : Nat) (k v : List UInt8) (most : Int) (hv : v.length < 18446744073709551616) (hm : (v.length : Int) ≤ most) :
    readBy (p ++ (rowK al k v ++ r)) ((p.length + (uintB al).length + (uintB (k.drop al).length ++ k.drop al).length : Nat) : Int) most = (v, p.length + (rowK al k v).length, 0) := by
  have := readBy_back (p ++ uintB al ++ (uintB (k.drop al).length ++ k.drop al)) r v most hv hm
  rw [List.length_append, List.length_append] at this
  have e : p.length + (rowK al k v).length = p.length + (uintB al).length + (uintB (k.drop al).length ++ k.drop al).length + (uintB v.length ++ v).length := by
    unfold rowK; rw [List.length_append, List.length_append]; omega
  rw [e, ← this]
  unfold rowK
  simp only [List.append_assoc]
theorem runB_take (R : Nat) (L : List Ent) {i : Nat} {e : Ent} (h : L[i]? = some e) : runB R (L.take (i + 1)) = stepB R (runB R (L.take i)) (keyE e) e.val := by
  rw [take_snoc h, runB_snoc]
theorem runE_body (R : Nat) : ∀ (l : List Ent) (s : BSt), ∃ t, (runE R s l).body = s.body ++ t
  | [], s => ⟨[], by simp [runE]⟩
  | e :: l, s => by
    obtain ⟨t, h⟩ := runE_body R l (stepB R s (keyE e) e.val)
    exact ⟨rowK (alikeB R s (keyE e)) (keyE e) e.val ++ t, by show (runE R (stepB R s (keyE e) e.val) l).body = _; rw [h]; simp [stepB]⟩
theorem runB_app (R : Nat) (l m : List Ent) : runB R (l ++ m) = runE R (runB R l) m := by simp [runB, runE]
theorem runB_body (R : Nat) (L : List Ent) {i : Nat} {e : Ent} (h : L[i]? = some e) : ∃ t, (runB R L).body = (runB R (L.take i)).body ++ (rowK (alikeB R (runB R (L.take i)) (keyE e)) (keyE e) e.val ++ t) := by
  have e1 : L = L.take (i + 1) ++ L.drop (i + 1) := (List.take_append_drop _ _).symm
  obtain ⟨t, ht⟩ := runE_body R (L.drop (i + 1)) (runB R (L.take (i + 1)))
  refine ⟨t, ?_⟩
  rw [congrArg (runB R) e1, runB_app, ht, runB_take R L h]
  simp [stepB]
theorem runB_key (R : Nat) : ∀ (L : List Ent) {e : Ent}, L.getLast? = some e → (runB R L).key = keyE e := fun L e h => by
  obtain ⟨l, rfl⟩ : ∃ l, L = l ++ [e] := by
    rcases List.eq_nil_or_concat L with rfl | ⟨l, a, rfl⟩
    · cases h
    · rw [List.concat_eq_append, List.getLast?_append] at h
      simp at h
      exact ⟨l, by rw [List.concat_eq_append, h]⟩
  rw [runB_snoc]; rfl
theorem alike_le (R : Nat) (s : BSt) (k : List UInt8) : alikeB R s k ≤ s.key.length ∧ alikeB R s k ≤ k.length := by
  unfold alikeB
  split
  · exact ⟨Nat.zero_le _, Nat.zero_le _⟩
  · exact shareN_le _ _
theorem alike_key (R : Nat) (s : BSt) (k : List UInt8) : s.key.take (alikeB R s k) ++ k.drop (alikeB R s k) = k := by
  have h : s.key.take (alikeB R s k) = k.take (alikeB R s k) := by
    unfold alikeB
    split
    · simp
    · exact shareN_take _ _
  rw [h, List.take_append_drop]
def lastOk (L : List Ent) (e : Ent) : Bool := match L.getLast? with
  | none => true
  | some l => decide (cmpE l e < 0)
def addC (R : Nat) (L : List Ent) (e : Ent) : Int := if checkE e ≠ 0 then checkE e else if lastOk L e = false then 30 else if 131072 < sizeS (stepB R (runB R L) (keyE e) e.val) then 53 else 0
def addL (R : Nat) (L : List Ent) (e : Ent) : List Ent := if addC R L e = 0 then L ++ [e] else L
def buildK (R : Nat) : List Ent → List Ent → Int × List Ent
  | acc, [] => (0, acc)
  | acc, e :: r => if addC R acc e = 0 then buildK R (acc ++ [e]) r else (addC R acc e, acc)
def finE (R : Nat) (L : List Ent) : List UInt8 × Int := if L = [] then ([], 54) else (layB R L, 0)
def buildE5 (R : Int) (es : List Ent) : List UInt8 × Int := if R < 1 ∨ 16 < R then ([], 1) else if (buildK R.toNat [] es).1 = 0 then finE R.toNat es else ([], (buildK R.toNat [] es).1)
theorem buildK_app (R : Nat) : ∀ (es : List Ent) (acc : List Ent) (r : List Ent), buildK R acc (es ++ r) = if (buildK R acc es).1 = 0 then buildK R (acc ++ es) r else buildK R acc es
  | [], acc, r => by simp [buildK]
  | e :: es, acc, r => by
    show (if addC R acc e = 0 then buildK R (acc ++ [e]) (es ++ r) else (addC R acc e, acc)) = if (if addC R acc e = 0 then buildK R (acc ++ [e]) es else (addC R acc e, acc)).1 = 0 then buildK R (acc ++ e :: es) r else (if addC R acc e = 0 then buildK R (acc ++ [e]) es else (addC R acc e, acc))
    by_cases h0 : addC R acc e = 0
    · simp only [h0, ↓reduceIte]
      rw [buildK_app R es (acc ++ [e]) r]
      simp
    · simp only [h0, ↓reduceIte]
theorem rowK_len (al : Nat) (k v : List UInt8) : 3 ≤ (rowK al k v).length := by
  unfold rowK
  simp only [List.length_append]
  have := uintB_pos al
  have := uintB_pos (k.drop al).length
  have := uintB_pos v.length
  omega
theorem runE_many (R : Nat) : ∀ (l : List Ent) (s : BSt), 3 * s.n ≤ s.body.length → 3 * (runE R s l).n ≤ (runE R s l).body.length
  | [], _, h => h
  | e :: l, s, h => runE_many R l (stepB R s (keyE e) e.val) (by
    have := rowK_len (alikeB R s (keyE e)) (keyE e) e.val
    simp only [stepB, List.length_append]; omega)
theorem runB_many (R : Nat) (l : List Ent) : 3 * (runB R l).n ≤ (runB R l).body.length := runE_many R l bst0 (Nat.le_refl 0)
theorem n_le_size (s : BSt) (h : 3 * s.n ≤ s.body.length) : 3 * s.n ≤ sizeS s := by unfold sizeS; omega
end Go.Proofs.YtmigjipfomfacaaGreatDoor
namespace Go.Proofs.YtmigjipfomfacaaGreatDoor
theorem keyE_pos (e : Ent) : 0 < (keyE e).length := by unfold keyE; simp only [List.length_append, List.length_cons]; omega
theorem cmpB_same (l : List UInt8) : cmpB l l = 0 := by
  induction l with
  | nil => simp [cmpB]
  | cons c l ih => rw [cmpB_cc, if_neg (by omega), if_neg (by omega), ih]
theorem alike_lt {R : Nat} {L : List Ent} {e : Ent} (hL : ∀ l, l ∈ L → checkE l = 0) (he : checkE e = 0) (hl : ¬ lastOk L e = false) : alikeB R (runB R L) (keyE e) < (keyE e).length := by
  have hpos := keyE_pos e
  have hle := (alike_le R (runB R L) (keyE e)).2
  rcases Nat.lt_or_ge (alikeB R (runB R L) (keyE e)) (keyE e).length with h | h
  · exact h
  have heq : alikeB R (runB R L) (keyE e) = (keyE e).length := by omega
  exfalso
  unfold alikeB at heq
  split at heq
  · omega
  · cases hg : L.getLast? with
    | none =>
      obtain rfl := List.getLast?_eq_none_iff.1 hg
      rename_i hn
      exact hn (by show 0 % R = 0; exact Nat.zero_mod R)
    | some l =>
      have hk := runB_key R L hg
      rw [hk] at heq
      have hoe := ok_of he
      have hol := ok_of (hL l (List.mem_of_getLast? hg))
      have ht := shareN_take (keyE l) (keyE e)
      rw [heq] at ht
      have hkk := prefix_free hoe hol _ ht.symm rfl
      have h0 : cmpE l e = 0 := by rw [← key_sorts hol hoe, hkk]; exact cmpB_same _
      apply hl
      unfold lastOk
      rw [hg]
      simp [h0]
end Go.Proofs.YtmigjipfomfacaaGreatDoor
namespace Go.Proofs.YtmigjipfomfacaaGreatDoor
def rd1 (b : List UInt8) (a : Nat) (key : List UInt8) : Option (Ent × List UInt8 × Nat) :=
  if (readU b (a : Nat)).2.2 ≠ 0 ∨ key.length < (readU b (a : Nat)).1 then none
  else if (readBy b (readU b (a : Nat)).2.1 (b.length : Nat)).2.2 ≠ 0 then none
  else if (readBy b (readBy b (readU b (a : Nat)).2.1 (b.length : Nat)).2.1 4096).2.2 ≠ 0 then none
  else if (ParseKeyE (key.take (readU b (a : Nat)).1 ++ (readBy b (readU b (a : Nat)).2.1 (b.length : Nat)).1)).2 ≠ 0 then none
  else some ({ (ParseKeyE (key.take (readU b (a : Nat)).1 ++ (readBy b (readU b (a : Nat)).2.1 (b.length : Nat)).1)).1 with val := (readBy b (readBy b (readU b (a : Nat)).2.1 (b.length : Nat)).2.1 4096).1 },
    key.take (readU b (a : Nat)).1 ++ (readBy b (readU b (a : Nat)).2.1 (b.length : Nat)).1, (readBy b (readBy b (readU b (a : Nat)).2.1 (b.length : Nat)).2.1 4096).2.1)
section
variable {b key k2 v : List UInt8} {a u p1 e1 p2 e2 p3 e3 : Nat} {e : Ent} {f : Int}
theorem rd1_a (h1 : readU b (a : Nat) = (u, p1, e1)) (h : e1 ≠ 0) : rd1 b a key = none := by unfold rd1; rw [h1, if_pos (.inl h)]
theorem rd1_b (h1 : readU b (a : Nat) = (u, p1, e1)) (h : key.length < u) : rd1 b a key = none := by unfold rd1; rw [h1, if_pos (.inr h)]
theorem rd1_go (h1 : readU b (a : Nat) = (u, p1, 0)) (h : u ≤ key.length) (h2 : readBy b p1 (b.length : Nat) = (k2, p2, e2)) : rd1 b a key = if e2 ≠ 0 then none
  else if (readBy b p2 4096).2.2 ≠ 0 then none
  else if (ParseKeyE (key.take u ++ k2)).2 ≠ 0 then none
  else some ({ (ParseKeyE (key.take u ++ k2)).1 with val := (readBy b p2 4096).1 }, key.take u ++ k2, (readBy b p2 4096).2.1) := by
  unfold rd1
  rw [h1]
  simp only [h2]
  rw [if_neg (by omega)]
theorem rd1_c (h1 : readU b (a : Nat) = (u, p1, 0)) (h : u ≤ key.length) (h2 : readBy b p1 (b.length : Nat) = (k2, p2, e2)) (h0 : e2 ≠ 0) : rd1 b a key = none := by rw [rd1_go h1 h h2, if_pos h0]
theorem rd1_d (h1 : readU b (a : Nat) = (u, p1, 0)) (h : u ≤ key.length) (h2 : readBy b p1 (b.length : Nat) = (k2, p2, 0)) (h3 : readBy b p2 4096 = (v, p3, e3)) (h0 : e3 ≠ 0) : rd1 b a key = none := by
  rw [rd1_go h1 h h2, h3, if_neg (by simp), if_pos h0]
theorem rd1_e (h1 : readU b (a : Nat) = (u, p1, 0)) (h : u ≤ key.length) (h2 : readBy b p1 (b.length : Nat) = (k2, p2, 0)) (h3 : readBy b p2 4096 = (v, p3, 0)) (h4 : ParseKeyE (key.take u ++ k2) = (e, f)) (h0 : f ≠ 0) : rd1 b a key = none := by
  rw [rd1_go h1 h h2, h3, h4, if_neg (by simp), if_neg (by simp), if_pos h0]
theorem rd1_ok (h1 : readU b (a : Nat) = (u, p1, 0)) (h : u ≤ key.length) (h2 : readBy b p1 (b.length : Nat) = (k2, p2, 0)) (h3 : readBy b p2 4096 = (v, p3, 0)) (h4 : ParseKeyE (key.take u ++ k2) = (e, 0)) : rd1 b a key = some ({ e with val := v }, key.take u ++ k2, p3) := by
  rw [rd1_go h1 h h2, h3, h4, if_neg (by simp), if_neg (by simp), if_neg (by simp)]
end
def rdF (b : List UInt8) : Nat → Option (List Ent × List UInt8 × Nat)
  | 0 => some ([], [], 0)
  | n + 1 => match rdF b n with
    | none => none
    | some (L, key, a) => match rd1 b a key with
      | none => none
      | some (e, key', a') => some (L ++ [e], key', a')
theorem rdF_none {b : List UInt8} {n m : Nat} (h : rdF b n = none) (hm : n ≤ m) : rdF b m = none := by
  induction m with
  | zero => obtain rfl : n = 0 := by omega
            exact h
  | succ m ih =>
    rcases Nat.lt_or_ge n (m + 1) with h1 | h1
    · show (match rdF b m with | none => none | some (L, key, a) => _) = none
      rw [ih (by omega)]
    · obtain rfl : n = m + 1 := by omega
      exact h
theorem rdF_step {b : List UInt8} {n : Nat} {L : List Ent} {key : List UInt8} {a : Nat} (h : rdF b n = some (L, key, a)) : rdF b (n + 1) = match rd1 b a key with
      | none => none
      | some (e, key', a') => some (L ++ [e], key', a') := by
  show (match rdF b n with | none => none | some (L, key, a) => _) = _
  rw [h]
theorem rdF_stop {b : List UInt8} {n m : Nat} {L : List Ent} {key : List UInt8} {a : Nat} (h : rdF b n = some (L, key, a)) (h1 : rd1 b a key = none) (hm : n < m) : rdF b m = none :=
  rdF_none (n := n + 1) (by rw [rdF_step h, h1]) hm
theorem rdF_go {b : List UInt8} {n : Nat} {L : List Ent} {key : List UInt8} {a : Nat} {e : Ent} {key' : List UInt8} {a' : Nat} (h : rdF b n = some (L, key, a)) (h1 : rd1 b a key = some (e, key', a')) : rdF b (n + 1) = some (L ++ [e], key', a') := by
  rw [rdF_step h, h1]
theorem rdF_len {b : List UInt8} : ∀ {n : Nat} {L : List Ent} {key : List UInt8} {a : Nat}, rdF b n = some (L, key, a) → L.length = n
  | 0, L, key, a, h => by injection h with h; injection h with h1 h; subst h1; rfl
  | n + 1, L, key, a, h => by
    cases h0 : rdF b n with
    | none => rw [rdF_none h0 (by omega)] at h; cases h
    | some r =>
      obtain ⟨L', k', a'⟩ := r
      rw [rdF_step h0] at h
      cases h1 : rd1 b a' k' with
      | none => rw [h1] at h; cases h
      | some r =>
        obtain ⟨e, k'', a''⟩ := r
        rw [h1] at h
        injection h with h; injection h with h2 h
        rw [← h2, List.length_append, rdF_len h0]; rfl
theorem uintB_lt64 {n : Nat} (h : n ≤ 1000000) : n < 18446744073709551616 := by omega
theorem rd1_back {b0 : List UInt8} (R : Nat) (L : List Ent) (t : List UInt8) (i : Nat) (e : Ent) (h : L[i]? = some e) (hok : ∀ l, l ∈ L → checkE l = 0) (hb : b0 = (runB R L).body ++ t) :
    rd1 b0 (runB R (L.take i)).body.length (runB R (L.take i)).key = some (e, keyE e, (runB R (L.take (i + 1))).body.length) := by
  obtain ⟨t', ht⟩ := runB_body R L h
  have he := ok_of (hok e (List.mem_of_getElem? h))
  obtain ⟨s, hs⟩ : ∃ s, s = runB R (L.take i) := ⟨_, rfl⟩
  rw [← hs] at ht ⊢
  have hal := alike_le R s (keyE e)
  have hak := alike_key R s (keyE e)
  obtain ⟨al, hale⟩ : ∃ z, z = alikeB R s (keyE e) := ⟨_, rfl⟩
  rw [← hale] at ht hal hak
  have hkl := keyE_len he
  have hvl := he.val.1
  have hb1 : b0 = s.body ++ (rowK al (keyE e) e.val ++ (t' ++ t)) := by rw [hb, ht]; simp [List.append_assoc]
  have hlen : (((keyE e).drop al).length : Int) ≤ (b0.length : Nat) := by
    rw [hb1]; unfold rowK
    simp only [List.length_append]; omega
  have h1 := row_u s.body (t' ++ t) al (keyE e) e.val (uintB_lt64 (by omega))
  have h2 := row_k s.body (t' ++ t) al (keyE e) e.val (b0.length : Nat) (uintB_lt64 (by rw [List.length_drop]; omega)) hlen
  have h3 := row_v s.body (t' ++ t) al (keyE e) e.val 4096 (uintB_lt64 (by omega)) (by omega)
  rw [← hb1] at h1 h2 h3
  have hP : ParseKeyE (s.key.take al ++ (keyE e).drop al) = ({ e with val := [] }, 0) := by rw [hak]; exact ParseKey_back he
  rw [rd1_ok h1 hal.1 h2 h3 hP, hak]
  have e2 : (runB R (L.take (i + 1))).body.length = s.body.length + (rowK al (keyE e) e.val).length := by
    rw [runB_take R L h, ← hs, hale]; show (s.body ++ _).length = _; rw [List.length_append]
  rw [e2]
theorem rdF_back (R : Nat) (L : List Ent) (t : List UInt8) (hok : ∀ l, l ∈ L → checkE l = 0) {b0 : List UInt8} (hb : b0 = (runB R L).body ++ t) : ∀ i, i ≤ L.length → rdF b0 i = some (L.take i, (runB R (L.take i)).key, (runB R (L.take i)).body.length)
  | 0, _ => rfl
  | i + 1, hi => by
    have h0 := rdF_back R L t hok hb i (by omega)
    have hk : L[i]? = some (L[i]'(by omega)) := List.getElem?_eq_getElem _
    have h1 := rd1_back R L t i _ hk hok hb
    rw [rdF_go h0 h1, take_snoc hk]
    rw [runB_snoc]; rfl
theorem buildK_checked (R : Nat) : ∀ (es acc : List Ent), (∀ l, l ∈ acc → checkE l = 0) → (buildK R acc es).1 = 0 → ∀ l, l ∈ acc ++ es → checkE l = 0
  | [], acc, ha, _ => by simpa using ha
  | e :: r, acc, ha, h => by
    unfold buildK at h
    split at h
    · rename_i h0
      have hc : checkE e = 0 := by
        unfold addC at h0
        split at h0
        · rename_i h1; exact absurd h0 h1
        · rename_i h1; exact Decidable.not_not.1 h1
      have := buildK_checked R r (acc ++ [e]) (fun l hl => by
        rcases List.mem_append.1 hl with h1 | h1
        · exact ha l h1
        · rw [List.mem_singleton.1 h1]; exact hc) h
      rw [List.append_assoc] at this
      exact this
    · rename_i h0; exact absurd h h0
theorem build_parts {R : Nat} {L : List Ent} {b : List UInt8} (h : buildE5 (R : Int) L = (b, 0)) : 1 ≤ R ∧ R ≤ 16 ∧ (buildK R [] L).1 = 0 ∧ L ≠ [] ∧ b = layS R (runB R L) ∧ ∀ l, l ∈ L → checkE l = 0 := by
  unfold buildE5 at h
  split at h
  · injection h with _ h; cases h
  · rename_i hR
    rw [Int.toNat_natCast] at h
    split at h
    · rename_i h0
      unfold finE at h
      split at h
      · injection h with _ h; cases h
      · rename_i hL
        injection h with h _
        refine ⟨by omega, by omega, h0, hL, ?_, ?_⟩
        · rw [← h]; unfold layB; rw [if_neg hL]
        · have := buildK_checked R L [] (fun l h => by cases h) h0
          simpa using this
    · rename_i h0; injection h with _ h; exact absurd h h0
theorem layS_foot (R : Nat) (s : BSt) : layS R s = s.body ++ (s.places.flatMap four4 ++ (four4 s.n ++ (UInt8.ofNat R :: lowB (sumL (headB5 R s))))) := by
  unfold layS headB5; simp [List.append_assoc]
end Go.Proofs.YtmigjipfomfacaaGreatDoor
namespace Go.Proofs.YtmigjipfomfacaaGreatDoor
def resB (b : List UInt8) : Nat := (b[b.length - 5]?.getD 0).toNat
def cntB (b : List UInt8) : Nat := numF b (b.length - 9)
def sumOkB (b : List UInt8) : Bool := lowB (sumL (b.take (b.length - 4))) == b.drop (b.length - 4)
def openR (b : List UInt8) : Option (List Ent × List UInt8 × Nat) → Option (List Ent) × Int
  | none => (none, 51)
  | some r => if buildE5 (resB b : Int) r.1 = (b, 0) then (some r.1, 0) else (none, 51)
def openE (b : List UInt8) : Option (List Ent) × Int :=
  if 131072 < b.length then (none, 2) else if b.length < 9 then (none, 51) else if sumOkB b = false then (none, 52) else openR b (rdF (b.take (b.length - 9)) (cntB b))
theorem buildK_size (R : Nat) : ∀ (es acc : List Ent), sizeS (runB R acc) ≤ 131072 → (buildK R acc es).1 = 0 → sizeS (runB R (acc ++ es)) ≤ 131072
  | [], acc, ha, _ => by simpa using ha
  | e :: r, acc, ha, h => by
    unfold buildK at h
    split at h
    · rename_i h0
      have := buildK_size R r (acc ++ [e]) (by
        rw [runB_snoc]
        unfold addC at h0
        split at h0
        · rename_i h1; exact absurd h0 h1
        · split at h0
          · cases h0
          · split at h0
            · cases h0
            · rename_i h1; exact Nat.le_of_not_lt h1) h
      rwa [List.append_assoc] at this
    · rename_i h0; exact absurd h h0
theorem numF_four (p r : List UInt8) {n k : Nat} (h : n < 4294967296) (hk : k = p.length) : numF (p ++ (four4 n ++ r)) k = n := by
  subst hk
  have e : ∀ j, (p ++ (four4 n ++ r))[p.length + j]? = (four4 n ++ r)[j]? := fun j => by rw [List.getElem?_append_right (by omega), Nat.add_sub_cancel_left]
  unfold numF
  have e0 := e 0
  rw [Nat.add_zero] at e0
  rw [e0, e 1, e 2, e 3]
  unfold four4 numB
  simp only [List.cons_append, List.nil_append, List.getElem?_cons_succ, List.getElem?_cons_zero, Option.getD_some, UInt8.toNat_ofNat']
  omega
theorem layS_len9 (R : Nat) (s : BSt) : (layS R s).length = s.body.length + (s.places.flatMap four4).length + 9 := by rw [layS_len]; unfold sizeS; rw [places_len]
theorem res_lay (R : Nat) (s : BSt) (h : R < 256) : resB (layS R s) = R := by
  unfold resB
  rw [layS_len9, layS_foot, ← List.append_assoc, ← List.append_assoc, List.getElem?_append_right (by simp only [List.length_append, four4_len]; omega)]
  rw [show s.body.length + (s.places.flatMap four4).length + 9 - 5 - (s.body ++ s.places.flatMap four4 ++ four4 s.n).length = 0 from by simp only [List.length_append, four4_len]; omega]
  show (UInt8.ofNat R).toNat = R
  rw [UInt8.toNat_ofNat']; omega
theorem cnt_lay (R : Nat) (s : BSt) (h : s.n < 4294967296) : cntB (layS R s) = s.n := by
  unfold cntB
  rw [layS_len9, layS_foot, ← List.append_assoc]
  exact numF_four _ _ h (by rw [List.length_append]; omega)
theorem sum_lay (R : Nat) (s : BSt) : sumOkB (layS R s) = true := by
  have hl : (layS R s).length - 4 = (headB5 R s).length := by unfold layS; rw [List.length_append, lowB_len]; omega
  unfold sumOkB
  rw [hl]
  unfold layS
  rw [List.take_left' rfl, List.drop_left' rfl]
  simp
theorem body_lay (R : Nat) (s : BSt) : (layS R s).take ((layS R s).length - 9) = s.body ++ s.places.flatMap four4 := by
  rw [layS_len9, layS_foot, ← List.append_assoc]
  exact List.take_left' (by rw [List.length_append]; omega)
theorem openE_lay {R : Nat} {L : List Ent} {b : List UInt8} (h : buildE5 (R : Int) L = (b, 0)) : openE b = (some L, 0) ∧ resB b = R := by
  obtain ⟨h1, h2, h3, h4, h5, h6⟩ := build_parts h
  have hsz : sizeS (runB R L) ≤ 131072 := by
    have := buildK_size R L [] (by show 9 ≤ 131072; decide) h3
    simpa using this
  have hn := runB_n R L
  have hm := n_le_size _ (runB_many R L)
  have hR : resB b = R := by rw [h5]; exact res_lay R _ (by omega)
  refine ⟨?_, hR⟩
  have hlen : b.length = sizeS (runB R L) := by rw [h5, layS_len]
  have h9 : 9 ≤ sizeS (runB R L) := by unfold sizeS; omega
  unfold openE
  rw [if_neg (by omega), if_neg (by omega), if_neg (by rw [h5, sum_lay]; decide)]
  have hc : cntB b = L.length := by rw [h5, cnt_lay R _ (by omega), hn]
  have hb : b.take (b.length - 9) = (runB R L).body ++ (runB R L).places.flatMap four4 := by rw [h5]; exact body_lay R _
  rw [hc, rdF_back R L _ h6 hb L.length (Nat.le_refl _), List.take_length]
  unfold openR
  simp only []
  rw [hR, if_pos h]
theorem openE_ok {b : List UInt8} {L : List Ent} (h : (openE b).1 = some L) : buildE5 (resB b : Int) L = (b, 0) ∧ (openE b).2 = 0 := by
  unfold openE at h ⊢
  split at h
  · cases h
  · split at h
    · cases h
    · split at h
      · cases h
      · rename_i h1 h2 h3
        rw [if_neg h1, if_neg h2, if_neg h3]
        cases hr : rdF (b.take (b.length - 9)) (cntB b) with
        | none => rw [hr] at h; cases h
        | some r =>
          rw [hr] at h
          unfold openR at h ⊢
          simp only [] at h ⊢
          split at h
          · rename_i h4
            injection h with h
            subst h
            rw [if_pos h4]
            exact ⟨h4, rfl⟩
          · cases h
theorem openE_no {b : List UInt8} (h : (openE b).1 = none) : (openE b).2 ≠ 0 := by
  unfold openE at h ⊢
  by_cases h1 : 131072 < b.length
  · rw [if_pos h1]; show (2 : Int) ≠ 0; decide
  rw [if_neg h1] at h ⊢
  by_cases h2 : b.length < 9
  · rw [if_pos h2]; show (51 : Int) ≠ 0; decide
  rw [if_neg h2] at h ⊢
  by_cases h3 : sumOkB b = false
  · rw [if_pos h3]; show (52 : Int) ≠ 0; decide
  rw [if_neg h3] at h ⊢
  cases hr : rdF (b.take (b.length - 9)) (cntB b) with
  | none => show ((51 : Int)) ≠ 0; decide
  | some r =>
    rw [hr] at h
    unfold openR at h ⊢
    simp only [] at h ⊢
    split at h
    · cases h
    · rename_i h4
      rw [if_neg h4]; show (51 : Int) ≠ 0; decide
end Go.Proofs.YtmigjipfomfacaaGreatDoor
namespace Go.Proofs.YtmigjipfomfacaaGreatDoor
def seekN (ks : List (List UInt8)) (key : List UInt8) : Nat := (ks.takeWhile fun k => decide (cmpB k key < 0)).length
def seekL (L : List Ent) (key : List UInt8) : Nat := seekN (L.map keyE) key
theorem seekN_le (ks : List (List UInt8)) (key : List UInt8) : seekN ks key ≤ ks.length := by
  unfold seekN; exact (List.takeWhile_sublist _).length_le
def Asc (ks : List (List UInt8)) : Prop := ks.Pairwise fun a b => cmpB a b < 0
theorem cmpB_lt_trans {a b c : List UInt8} (h1 : cmpB a b < 0) (h2 : cmpB b c < 0) : cmpB a c < 0 := by
  have h3 := cmpB_trans a b c (by omega) (by omega)
  rcases Int.lt_or_eq_of_le h3 with h | h
  · exact h
  · have e := cmpB_zero _ _ h
    subst e
    have := cmpB_swap a b
    omega
theorem seekN_iff : ∀ {ks : List (List UInt8)} (_ : Asc ks) {key : List UInt8} {i : Nat} {k : List UInt8}, ks[i]? = some k → (cmpB k key < 0 ↔ i < seekN ks key)
  | [], _, _, _, _, h => by cases h
  | a :: ks, hA, key, i, k, h => by
    obtain ⟨h1, h2⟩ := List.pairwise_cons.1 hA
    unfold seekN
    rw [List.takeWhile_cons]
    by_cases ha : cmpB a key < 0
    · rw [if_pos (by simpa using ha)]
      cases i with
      | zero => injection h with h; subst h; simp [ha]
      | succ i =>
        have := seekN_iff h2 (key := key) (i := i) h
        unfold seekN at this
        rw [this, List.length_cons]; omega
    · rw [if_neg (by simpa using ha)]
      cases i with
      | zero => injection h with h; subst h; simp [ha]
      | succ i =>
        constructor
        · intro h3
          exact absurd (cmpB_lt_trans (h1 k (List.mem_of_getElem? h)) h3) ha
        · intro h3; exact absurd h3 (Nat.not_lt_zero _)
theorem buildK_asc (R : Nat) : ∀ (es acc : List Ent), (∀ l, l ∈ acc → checkE l = 0) → Asc (acc.map keyE) → (buildK R acc es).1 = 0 → Asc ((acc ++ es).map keyE)
  | [], acc, _, ha, _ => by simpa using ha
  | e :: r, acc, hc, ha, h => by
    unfold buildK at h
    split at h
    · rename_i h0
      have h1 : checkE e = 0 := by
        unfold addC at h0
        split at h0
        · rename_i h1; exact absurd h0 h1
        · rename_i h1; exact Decidable.not_not.1 h1
      have h2 : lastOk acc e = true := by
        unfold addC at h0
        rw [if_neg (by rw [h1]; decide)] at h0
        split at h0
        · cases h0
        · rename_i h3; simpa using h3
      have hall : ∀ l, l ∈ acc ++ [e] → checkE l = 0 := fun l hl => by
        rcases List.mem_append.1 hl with h3 | h3
        · exact hc l h3
        · rw [List.mem_singleton.1 h3]; exact h1
      have h3 : Asc ((acc ++ [e]).map keyE) := by
        unfold Asc
        rw [List.map_append]
        refine List.pairwise_append.2 ⟨ha, List.pairwise_singleton _ _, fun a ha' b hb => ?_⟩
        obtain rfl := List.mem_singleton.1 hb
        rcases List.eq_nil_or_concat acc with h4 | ⟨l, z, h4⟩
        · subst h4; cases ha'
        · rw [List.concat_eq_append] at h4
          subst h4
          have h5 : cmpE z e < 0 := by
            unfold lastOk at h2
            rw [List.getLast?_append] at h2
            simpa using h2
          have h6 : cmpB (keyE z) (keyE e) < 0 := by rw [key_sorts (ok_of (hc z (by simp))) (ok_of h1)]; exact h5
          rw [List.map_append] at ha ha'
          rcases List.mem_append.1 ha' with h7 | h7
          · exact cmpB_lt_trans ((List.pairwise_append.1 ha).2.2 a h7 (keyE z) (by simp)) h6
          · have h7 : a ∈ [keyE z] := h7
            rw [List.mem_singleton.1 h7]; exact h6
      have := buildK_asc R r (acc ++ [e]) hall h3 h
      rwa [List.append_assoc] at this
    · rename_i h0; exact absurd h h0
theorem build_asc {R : Nat} {L : List Ent} {b : List UInt8} (h : buildE5 (R : Int) L = (b, 0)) : Asc (L.map keyE) := by
  obtain ⟨_, _, h3, _⟩ := build_parts h
  have := buildK_asc R L [] (fun l h => by cases h) List.Pairwise.nil h3
  simpa using this
def resN (n R : Nat) : Nat := (n + R - 1) / R
theorem resN_pos {n R : Nat} (hn : 0 < n) (hR : 1 ≤ R) : 1 ≤ resN n R := by
  unfold resN
  exact (Nat.le_div_iff_mul_le (by omega)).2 (by omega)
theorem resN_lt {n R k : Nat} (hR : 1 ≤ R) (h : k < resN n R) : k * R < n := by
  unfold resN at h
  have h1 : (k + 1) * R ≤ n + R - 1 := (Nat.le_div_iff_mul_le (by omega)).1 h
  rw [Nat.succ_mul] at h1
  omega
theorem resN_le {n R : Nat} (hR : 1 ≤ R) : resN n R ≤ n := by
  unfold resN
  rcases Nat.eq_zero_or_pos n with h | h
  · subst h; rw [Nat.div_eq_of_lt (by omega)]
    exact Nat.le_refl 0
  · refine Nat.le_of_lt_succ ((Nat.div_lt_iff_lt_mul (by omega)).2 ?_)
    have h1 : n * 1 ≤ n * R := Nat.mul_le_mul_left n hR
    rw [Nat.succ_mul]
    omega
end Go.Proofs.YtmigjipfomfacaaGreatDoor
namespace Go.Proofs.YtmigjipfomfacaaGreatDoor
def rq1 (b : List UInt8) (a : Nat) (key : List UInt8) : Option (Ent × List UInt8 × Nat) :=
  if (readU b (a : Nat)).2.2 ≠ 0 ∨ key.length < (readU b (a : Nat)).1 then none
  else if (readBy b (readU b (a : Nat)).2.1 (b.length : Nat)).2.2 ≠ 0 then none
  else if (readBy b (readBy b (readU b (a : Nat)).2.1 (b.length : Nat)).2.1 (b.length : Nat)).2.2 ≠ 0 then none
  else if (ParseKeyE (key.take (readU b (a : Nat)).1 ++ (readBy b (readU b (a : Nat)).2.1 (b.length : Nat)).1)).2 ≠ 0 then none
  else some ({ (ParseKeyE (key.take (readU b (a : Nat)).1 ++ (readBy b (readU b (a : Nat)).2.1 (b.length : Nat)).1)).1 with val := (readBy b (readBy b (readU b (a : Nat)).2.1 (b.length : Nat)).2.1 (b.length : Nat)).1 },
    key.take (readU b (a : Nat)).1 ++ (readBy b (readU b (a : Nat)).2.1 (b.length : Nat)).1, (readBy b (readBy b (readU b (a : Nat)).2.1 (b.length : Nat)).2.1 (b.length : Nat)).2.1)
section
variable {b key k2 v : List UInt8} {a u p1 e1 p2 e2 p3 e3 : Nat} {e : Ent} {f : Int}
theorem rq1_a (h1 : readU b (a : Nat) = (u, p1, e1)) (h : e1 ≠ 0) : rq1 b a key = none := by unfold rq1; rw [h1, if_pos (.inl h)]
theorem rq1_b (h1 : readU b (a : Nat) = (u, p1, e1)) (h : key.length < u) : rq1 b a key = none := by unfold rq1; rw [h1, if_pos (.inr h)]
theorem rq1_go (h1 : readU b (a : Nat) = (u, p1, 0)) (h : u ≤ key.length) (h2 : readBy b p1 (b.length : Nat) = (k2, p2, e2)) : rq1 b a key = if e2 ≠ 0 then none
  else if (readBy b p2 (b.length : Nat)).2.2 ≠ 0 then none
  else if (ParseKeyE (key.take u ++ k2)).2 ≠ 0 then none
  else some ({ (ParseKeyE (key.take u ++ k2)).1 with val := (readBy b p2 (b.length : Nat)).1 }, key.take u ++ k2, (readBy b p2 (b.length : Nat)).2.1) := by
  unfold rq1
  rw [h1]
  simp only [h2]
  rw [if_neg (by omega)]
theorem rq1_c (h1 : readU b (a : Nat) = (u, p1, 0)) (h : u ≤ key.length) (h2 : readBy b p1 (b.length : Nat) = (k2, p2, e2)) (h0 : e2 ≠ 0) : rq1 b a key = none := by rw [rq1_go h1 h h2, if_pos h0]
theorem rq1_d (h1 : readU b (a : Nat) = (u, p1, 0)) (h : u ≤ key.length) (h2 : readBy b p1 (b.length : Nat) = (k2, p2, 0)) (h3 : readBy b p2 (b.length : Nat) = (v, p3, e3)) (h0 : e3 ≠ 0) : rq1 b a key = none := by
  rw [rq1_go h1 h h2, h3, if_neg (by simp), if_pos h0]
theorem rq1_e (h1 : readU b (a : Nat) = (u, p1, 0)) (h : u ≤ key.length) (h2 : readBy b p1 (b.length : Nat) = (k2, p2, 0)) (h3 : readBy b p2 (b.length : Nat) = (v, p3, 0)) (h4 : ParseKeyE (key.take u ++ k2) = (e, f)) (h0 : f ≠ 0) : rq1 b a key = none := by
  rw [rq1_go h1 h h2, h3, h4, if_neg (by simp), if_neg (by simp), if_pos h0]
theorem rq1_ok (h1 : readU b (a : Nat) = (u, p1, 0)) (h : u ≤ key.length) (h2 : readBy b p1 (b.length : Nat) = (k2, p2, 0)) (h3 : readBy b p2 (b.length : Nat) = (v, p3, 0)) (h4 : ParseKeyE (key.take u ++ k2) = (e, 0)) : rq1 b a key = some ({ e with val := v }, key.take u ++ k2, p3) := by
  rw [rq1_go h1 h h2, h3, h4, if_neg (by simp), if_neg (by simp), if_neg (by simp)]
end
def rqF (b : List UInt8) : Nat → Option (List Ent × List UInt8 × Nat)
  | 0 => some ([], [], 0)
  | n + 1 => match rqF b n with
    | none => none
    | some (L, key, a) => match rq1 b a key with
      | none => none
      | some (e, key', a') => some (L ++ [e], key', a')
theorem rqF_none {b : List UInt8} {n m : Nat} (h : rqF b n = none) (hm : n ≤ m) : rqF b m = none := by
  induction m with
  | zero => obtain rfl : n = 0 := by omega
            exact h
  | succ m ih =>
    rcases Nat.lt_or_ge n (m + 1) with h1 | h1
    · show (match rqF b m with | none => none | some (L, key, a) => _) = none
      rw [ih (by omega)]
    · obtain rfl : n = m + 1 := by omega
      exact h
theorem rqF_step {b : List UInt8} {n : Nat} {L : List Ent} {key : List UInt8} {a : Nat} (h : rqF b n = some (L, key, a)) : rqF b (n + 1) = match rq1 b a key with
      | none => none
      | some (e, key', a') => some (L ++ [e], key', a') := by
  show (match rqF b n with | none => none | some (L, key, a) => _) = _
  rw [h]
theorem rqF_stop {b : List UInt8} {n m : Nat} {L : List Ent} {key : List UInt8} {a : Nat} (h : rqF b n = some (L, key, a)) (h1 : rq1 b a key = none) (hm : n < m) : rqF b m = none :=
  rqF_none (n := n + 1) (by rw [rqF_step h, h1]) hm
theorem rqF_go {b : List UInt8} {n : Nat} {L : List Ent} {key : List UInt8} {a : Nat} {e : Ent} {key' : List UInt8} {a' : Nat} (h : rqF b n = some (L, key, a)) (h1 : rq1 b a key = some (e, key', a')) : rqF b (n + 1) = some (L ++ [e], key', a') := by
  rw [rqF_step h, h1]
theorem rq1_back {b0 : List UInt8} (R : Nat) (L : List Ent) (t : List UInt8) (i : Nat) (e : Ent) (h : L[i]? = some e) (hok : ∀ l, l ∈ L → checkE l = 0) (hb : b0 = (runB R L).body ++ t) :
    rq1 b0 (runB R (L.take i)).body.length (runB R (L.take i)).key = some (e, keyE e, (runB R (L.take (i + 1))).body.length) := by
  obtain ⟨t', ht⟩ := runB_body R L h
  have he := ok_of (hok e (List.mem_of_getElem? h))
  obtain ⟨s, hs⟩ : ∃ s, s = runB R (L.take i) := ⟨_, rfl⟩
  rw [← hs] at ht ⊢
  have hal := alike_le R s (keyE e)
  have hak := alike_key R s (keyE e)
  obtain ⟨al, hale⟩ : ∃ z, z = alikeB R s (keyE e) := ⟨_, rfl⟩
  rw [← hale] at ht hal hak
  have hkl := keyE_len he
  have hvl := he.val.1
  have hb1 : b0 = s.body ++ (rowK al (keyE e) e.val ++ (t' ++ t)) := by rw [hb, ht]; simp [List.append_assoc]
  have hlen : (((keyE e).drop al).length : Int) ≤ (b0.length : Nat) := by
    rw [hb1]; unfold rowK
    simp only [List.length_append]; omega
  have h1 := row_u s.body (t' ++ t) al (keyE e) e.val (uintB_lt64 (by omega))
  have h2 := row_k s.body (t' ++ t) al (keyE e) e.val (b0.length : Nat) (uintB_lt64 (by rw [List.length_drop]; omega)) hlen
  have hlen2 : (e.val.length : Int) ≤ (b0.length : Nat) := by
    rw [hb1]; unfold rowK
    simp only [List.length_append]; omega
  have h3 := row_v s.body (t' ++ t) al (keyE e) e.val (b0.length : Nat) (uintB_lt64 (by omega)) hlen2
  rw [← hb1] at h1 h2 h3
  have hP : ParseKeyE (s.key.take al ++ (keyE e).drop al) = ({ e with val := [] }, 0) := by rw [hak]; exact ParseKey_back he
  rw [rq1_ok h1 hal.1 h2 h3 hP, hak]
  have e2 : (runB R (L.take (i + 1))).body.length = s.body.length + (rowK al (keyE e) e.val).length := by
    rw [runB_take R L h, ← hs, hale]; show (s.body ++ _).length = _; rw [List.length_append]
  rw [e2]
theorem rqF_back (R : Nat) (L : List Ent) (t : List UInt8) (hok : ∀ l, l ∈ L → checkE l = 0) {b0 : List UInt8} (hb : b0 = (runB R L).body ++ t) : ∀ i, i ≤ L.length → rqF b0 i = some (L.take i, (runB R (L.take i)).key, (runB R (L.take i)).body.length)
  | 0, _ => rfl
  | i + 1, hi => by
    have h0 := rqF_back R L t hok hb i (by omega)
    have hk : L[i]? = some (L[i]'(by omega)) := List.getElem?_eq_getElem _
    have h1 := rq1_back R L t i _ hk hok hb
    rw [rqF_go h0 h1, take_snoc hk]
    rw [runB_snoc]; rfl
theorem div_up (R q r : Nat) (hR : 1 ≤ R) (hr : r < R) : (R * q + r + R - 1) / R = if r = 0 then q else q + 1 := by
  split
  · rename_i h
    rw [show R * q + r + R - 1 = (R - 1) + R * q from by generalize R * q = p; omega, Nat.add_mul_div_left _ _ (by omega), Nat.div_eq_of_lt (by omega)]
    omega
  · rename_i h
    rw [show R * q + r + R - 1 = (r - 1) + R * (q + 1) from by rw [Nat.mul_add]; generalize R * q = p; omega, Nat.add_mul_div_left _ _ (by omega), Nat.div_eq_of_lt (by omega)]
    omega
theorem resN_succ (n R : Nat) (hR : 1 ≤ R) : resN (n + 1) R = if n % R = 0 then resN n R + 1 else resN n R := by
  unfold resN
  have h1 : (n + 1 + R - 1) / R = n / R + 1 := by rw [show n + 1 + R - 1 = n + R from by omega, Nat.add_div_right _ (by omega)]
  have h2 := div_up R (n / R) (n % R) hR (Nat.mod_lt n (by omega))
  rw [Nat.div_add_mod] at h2
  rw [h1, h2]
  split <;> rfl
theorem runQ_places (R : Nat) (hR : 1 ≤ R) (L : List Ent) : ∀ i, i ≤ L.length → (runB R (L.take i)).places.length = resN i R
  | 0, _ => by
    show 0 = resN 0 R
    unfold resN
    rw [Nat.div_eq_of_lt (by omega)]
  | i + 1, hi => by
    have hk : L[i]? = some (L[i]'(by omega)) := List.getElem?_eq_getElem _
    have ih := runQ_places R hR L i (by omega)
    have hn : (runB R (L.take i)).n = i := by rw [runB_n, List.length_take]; omega
    rw [runB_take R L hk, resN_succ i R hR]
    show (placesB R (runB R (L.take i))).length = _
    unfold placesB
    rw [hn]
    split
    · rw [List.length_append, ih]; rfl
    · exact ih
def bodyQ5 (b : List UInt8) : Int := (b.length : Int) - 9 - 4 * (resN (cntB b) (resB b) : Nat)
def openQR (b : List UInt8) : Option (List Ent × List UInt8 × Nat) → List Ent × Int
  | none => ([], 51)
  | some r => if buildE5 (resB b : Int) r.1 = (b, 0) then (r.1, 0) else ([], 51)
def openQ (b : List UInt8) : List Ent × Int :=
  if 131072 < b.length then ([], 2) else if b.length < 9 then ([], 51) else if sumOkB b = false then ([], 52)
  else if resB b < 1 ∨ 16 < resB b then ([], 51) else if cntB b < 1 ∨ b.length < cntB b then ([], 51)
  else if bodyQ5 b < 0 then ([], 51) else openQR b (rqF (b.take (bodyQ5 b).toNat) (cntB b))
theorem openE_ne {b : List UInt8} {L : List Ent} (h : (openE b).1 = some L) : L ≠ [] ∧ b.length ≤ 131072 := by
  obtain ⟨h1, _⟩ := openE_ok h
  obtain ⟨_, _, _, h4, h5, _⟩ := build_parts h1
  refine ⟨h4, ?_⟩
  unfold openE at h
  split at h
  · cases h
  · omega
theorem openQ_is (b : List UInt8) : openQ b = ((openE b).1.getD [], (openE b).2) := by
  by_cases h1 : 131072 < b.length
  · unfold openQ openE; rw [if_pos h1, if_pos h1]; rfl
  by_cases h2 : b.length < 9
  · unfold openQ openE; rw [if_neg h1, if_neg h1, if_pos h2, if_pos h2]; rfl
  by_cases h3 : sumOkB b = false
  · unfold openQ openE; rw [if_neg h1, if_neg h1, if_neg h2, if_neg h2, if_pos h3, if_pos h3]; rfl
  have hQ : openQ b = if resB b < 1 ∨ 16 < resB b then ([], 51) else if cntB b < 1 ∨ b.length < cntB b then ([], 51)
      else if bodyQ5 b < 0 then ([], 51) else openQR b (rqF (b.take (bodyQ5 b).toNat) (cntB b)) := by
    unfold openQ; rw [if_neg h1, if_neg h2, if_neg h3]
  have hE : openE b = openR b (rdF (b.take (b.length - 9)) (cntB b)) := by
    unfold openE; rw [if_neg h1, if_neg h2, if_neg h3]
  cases ho : (openE b).1 with
  | some L =>
    obtain ⟨hb, h0⟩ := openE_ok ho
    obtain ⟨g1, g2, g3, g4, g5, g6⟩ := build_parts hb
    have hn := runB_n (resB b) L
    have hsz : sizeS (runB (resB b) L) = b.length := by
      have := layS_len (resB b) (runB (resB b) L)
      rw [← g5] at this; exact this.symm
    have hpl : (runB (resB b) L).places.length = resN L.length (resB b) := by
      have := runQ_places (resB b) g1 L L.length (Nat.le_refl _)
      rwa [List.take_length] at this
    have hm := n_le_size _ (runB_many (resB b) L)
    have hc : cntB b = L.length := by
      have h : cntB (layS (resB b) (runB (resB b) L)) = (runB (resB b) L).n := cnt_lay _ _ (by omega)
      rw [← g5, hn] at h; exact h
    have hbody : bodyQ5 b = ((runB (resB b) L).body.length : Nat) := by
      unfold bodyQ5
      rw [hc, ← hpl, ← hsz]
      unfold sizeS
      omega
    have hpos : 0 < L.length := List.length_pos_iff.2 g4
    rw [hQ, if_neg (by omega), if_neg (by omega), if_neg (by omega), hbody, Int.toNat_natCast, hc]
    have htk : b.take (runB (resB b) L).body.length = (runB (resB b) L).body ++ [] := by
      have h5 := g5
      rw [layS_foot] at h5
      have h6 := congrArg (List.take (runB (resB b) L).body.length) h5
      rw [List.take_left] at h6
      rw [h6, List.append_nil]
    rw [rqF_back (resB b) L [] g6 htk L.length (Nat.le_refl _), List.take_length]
    unfold openQR
    simp only []
    rw [if_pos hb, h0]; rfl
  | none =>
    have h51 : (openE b).2 = 51 := by
      rw [hE] at ho ⊢
      cases hr : rdF (b.take (b.length - 9)) (cntB b) with
      | none => rfl
      | some r =>
        rw [hr] at ho
        unfold openR at ho ⊢
        simp only [] at ho ⊢
        split at ho
        · cases ho
        · rename_i h; rw [if_neg h]
    rw [h51, hQ]
    show _ = ([], 51)
    split
    · rfl
    · split
      · rfl
      · split
        · rfl
        · cases hr : rqF (b.take (bodyQ5 b).toNat) (cntB b) with
          | none => rfl
          | some r =>
            unfold openQR
            simp only []
            split
            · rename_i h
              rw [(openE_lay h).1] at ho; cases ho
            · rfl
def rseekN (L : List Ent) (key : List UInt8) : Nat := (L.takeWhile fun e => decide (cmpB (keyE e) key < 0)).length
theorem rseekN_is (L : List Ent) (key : List UInt8) : rseekN L key = seekL L key := by
  unfold rseekN seekL seekN
  induction L with
  | nil => rfl
  | cons e L ih =>
    rw [List.map_cons, List.takeWhile_cons, List.takeWhile_cons]
    split
    · rw [List.length_cons, List.length_cons, ih]
    · rfl
end Go.Proofs.YtmigjipfomfacaaGreatDoor
namespace Go.Proofs.YtmigjipfomfacaaGreatDoor
open Go.RowKit
section
variable {P : Program} {w : World}
theorem run_string_RB {B n : Nat} {A : Option Addr} {l : List UInt8} (c : Nat) (h : RB w B A n l) {src dst e : TypeId} (hs : P.underlying src = some (.slice e)) (he : P.underlying e = some (.int .u8)) (hd : P.underlying dst = some .string) :
    (convert src dst (.slice A n c)).run P w = .ok (.string ⟨l.toArray⟩) w := by
  have hl := h.len
  cases A with
  | none =>
    have hn : n = 0 := by
      rcases Nat.eq_zero_or_pos n with h0 | h0
      · exact h0
      · obtain ⟨_, _, e, _⟩ := h.2 h0
        cases e
    have hl0 : l = [] := List.eq_nil_of_length_eq_zero (by omega)
    subst hl0
    rw [run_convert_bytes_string w src dst e none n c hs he hd]
    rfl
  | some ad =>
    subst hl
    refine run_convert_bytes_back w src dst e ad c l hs he hd fun j hj => ?_
    obtain ⟨b, o, e, _, hc⟩ := h.2 (by omega)
    injection e with e
    subst e
    have := hc j _ (u8s_at (List.getElem?_eq_getElem hj))
    unfold Addr.add
    split
    · rename_i h0; subst h0; exact this
    · exact this
variable {ops : Array Oper} {rest : List Oper} {o : Oper} {a : Act} {Q : Exit → Act → World → Prop}
theorem wpList_string_reads (hg : o.guard = none) (x : Operand) (src dst e : TypeId) (hop : o.op = Op.convert src dst x) (hs : P.underlying src = some (.slice e)) (he : P.underlying e = some (.int .u8)) (hd : P.underlying dst = some .string)
    {B n c : Nat} {A : Option Addr} {l : List UInt8} (hx : a.eval x = .slice A n c) (h : RB w B A n l)
    (hK : wpList P ops Q rest (a.put o.dst (.string ⟨l.toArray⟩)) w) : wpList P ops Q (o :: rest) a w := by
  refine wpList_plain hg fun K' hK' => ?_
  have hrun := run_string_RB (P := P) (w := w) c h hs he hd
  unfold Oper.wp
  simp [execOp, hop, hx, hrun, Result.andThen]
  exact hK' _ _ hK
end
end Go.Proofs.YtmigjipfomfacaaGreatDoor
namespace Go.Proofs.YtmigjipfomfacaaGreatDoor
open Go.RowKit
def KV (w : World) (B : Nat) (vs : List Value) (ks : List (List UInt8)) : Prop :=
  vs.length = ks.length ∧ ∀ (i : Nat) (k : List UInt8), ks[i]? = some k → ∃ (a : Option Addr) (c : Nat), vs[i]? = some (.slice a k.length c) ∧ k.length ≤ c ∧ c ≤ 9223372036854775807 ∧ (a = none → c = 0) ∧ RB w B a k.length k
section
variable {w w' : World} {B B' n : Nat} {A : Option Addr} {vs us : List Value} {ks js : List (List UInt8)}
theorem RBs.kv (h : RBs w B A n ks) : ∃ vs, Reads w B 1 A n vs ∧ KV w B vs ks := by
  obtain ⟨vs, h1, h2, h3⟩ := h
  exact ⟨vs, h1, h2, h3⟩
theorem KV.rbs (h : KV w B vs ks) (hr : Reads w B 1 A n vs) : RBs w B A n ks := ⟨vs, hr, h.1, h.2⟩
theorem KV.nil : KV w B [] [] := ⟨rfl, fun i k h => by simp at h⟩
theorem KV.below (h : KV w B vs ks) (hb : Below B w w') : KV w' B vs ks :=
  ⟨h.1, fun i k hk => by obtain ⟨a, c, q1, q2, q3, q4, q5⟩ := h.2 i k hk; exact ⟨a, c, q1, q2, q3, q4, q5.below hb⟩⟩
theorem KV.more (h : KV w B vs ks) (hB : B ≤ B') : KV w B' vs ks :=
  ⟨h.1, fun i k hk => by obtain ⟨a, c, q1, q2, q3, q4, q5⟩ := h.2 i k hk; exact ⟨a, c, q1, q2, q3, q4, q5.more hB⟩⟩
theorem KV.later (h : KV w w.heap.size vs ks) (hb : Below w.heap.size w w') : KV w' w'.heap.size vs ks := (h.below hb).more hb.size
theorem KV.app (h : KV w B vs ks) (h' : KV w B us js) : KV w B (vs ++ us) (ks ++ js) := by
  refine ⟨by rw [List.length_append, List.length_append, h.1, h'.1], fun i k hk => ?_⟩
  rw [List.getElem?_append] at hk ⊢
  rw [h.1]
  split at hk
  · rename_i hi
    rw [if_pos hi]
    exact h.2 i k hk
  · rename_i hi
    rw [if_neg hi]
    exact h'.2 _ k hk
theorem KV.take (h : KV w B vs ks) (m : Nat) : KV w B (vs.take m) (ks.take m) := by
  refine ⟨by rw [List.length_take, List.length_take, h.1], fun i k hk => ?_⟩
  rw [List.getElem?_take] at hk ⊢
  split at hk
  · rename_i hi
    rw [if_pos hi]; exact h.2 i k hk
  · cases hk
theorem KV.drop (h : KV w B vs ks) (m : Nat) : KV w B (vs.drop m) (ks.drop m) := by
  refine ⟨by rw [List.length_drop, List.length_drop, h.1], fun i k hk => ?_⟩
  rw [List.getElem?_drop] at hk ⊢
  exact h.2 _ k hk
theorem KV.cons {v : Value} {k : List UInt8} (h : KV w B vs ks) (hv : ∃ (a : Option Addr) (c : Nat), v = .slice a k.length c ∧ k.length ≤ c ∧ c ≤ 9223372036854775807 ∧ (a = none → c = 0) ∧ RB w B a k.length k) : KV w B (v :: vs) (k :: ks) := by
  refine ⟨by simp [h.1], fun i x hx => ?_⟩
  cases i with
  | zero =>
    injection hx with hx; subst hx
    obtain ⟨a, c, rfl, q⟩ := hv
    exact ⟨a, c, rfl, q⟩
  | succ i => exact h.2 i x hx
theorem KV.one (h : KV w B vs ks) : ∀ u ∈ vs, u.oneCell' = true := by
  intro u hu
  obtain ⟨i, hi⟩ := List.getElem?_of_mem hu
  have hlt := (List.getElem?_eq_some_iff.1 hi).1
  obtain ⟨a, c, q, _⟩ := h.2 i _ (List.getElem?_eq_getElem (by rw [← h.1]; exact hlt))
  rw [q] at hi
  injection hi with hi
  subst hi; rfl
end
theorem own_slice {w : World} {base e size n : Nat} {v : Value} {xs : List Value} (h : w.ownsRow base e size v n xs) :
    ∃ (A : Option Addr) (c : Nat), v = .slice A n c ∧ n ≤ c ∧ c ≤ maxLen ∧ (A = none → c = 0) ∧ Reads w w.heap.size size A n xs := by
  rcases h.2 with ⟨rfl, h0⟩ | ⟨g, cap, cur, hv, hb, hg, hc, hm, _⟩
  · subst h0
    exact ⟨none, 0, rfl, Nat.le_refl _, Nat.zero_le _, fun _ => rfl, Reads.own h⟩
  · subst hv
    exact ⟨_, cap, rfl, hc, hm, (fun e => nomatch e), Reads.own h⟩
theorem own_nil (w : World) (base e size : Nat) : w.ownsRow base e size (.slice none 0 0) 0 [] := ⟨by simp, .inl ⟨rfl, rfl⟩⟩
end Go.Proofs.YtmigjipfomfacaaGreatDoor
namespace Go.Proofs.YtmigjipfomfacaaGreatDoor
open Go.RowKit
def OwnB (T : TypeId) (base : Nat) (w : World) (A : Option Addr) (c : Nat) (l : List UInt8) : Prop := w.ownsRow base T 1 (.slice A l.length c) l.length (u8s l)
section
variable {T : TypeId} {base B : Nat} {w w' : World} {A : Option Addr} {c n : Nat} {l : List UInt8}
theorem OwnB.rb (h : OwnB T base w A c l) : RB w w.heap.size A l.length l := RB.own h
theorem OwnB.later (h : OwnB T base w A c l) (hb : Below w.heap.size w w') : OwnB T base w' A c l := own_below h hb
theorem OwnB.rebase {base' : Nat} (h : OwnB T base w A c l) (hb : base' ≤ base) : OwnB T base' w A c l := by
  refine ⟨h.1, ?_⟩
  rcases h.2 with h' | ⟨g, cap, cur, h1, h2, h3⟩
  · exact .inl h'
  · exact .inr ⟨g, cap, cur, h1, Nat.le_trans hb h2, h3⟩
theorem OwnB.cap (h : OwnB T base w A c l) : l.length ≤ c ∧ c ≤ maxLen ∧ (A = none → c = 0) := by
  obtain ⟨A', c', e, h1, h2, h3, _⟩ := own_slice h
  injection e with e1 _ e2
  subst e1; subst e2
  exact ⟨h1, h2, h3⟩
theorem own_bytes {v : Value} (h : w.ownsRow base T 1 v n (u8s l)) : ∃ A c, v = .slice A l.length c ∧ OwnB T base w A c l := by
  have hn : l.length = n := by have := h.1; rw [u8s_length] at this; omega
  subst hn
  obtain ⟨A, c, rfl, _⟩ := own_slice h
  exact ⟨A, c, rfl, h⟩
def BytesPost (T : TypeId) (l : List UInt8) (w : World) (e : Ending) (w' : World) : Prop :=
  ∃ A c, e = .returned (.slice A l.length c) ∧ OwnB T w.heap.size w' A c l ∧ Below w.heap.size w w'
theorem bytes_post {v : Value} (h : w'.ownsRow w.heap.size T 1 v n (u8s l)) (hb : Below w.heap.size w w') : BytesPost T l w (.returned v) w' := by
  obtain ⟨A, c, rfl, ho⟩ := own_bytes h
  exact ⟨A, c, rfl, ho, hb⟩
def BytesPost2 (T : TypeId) (l : List UInt8) (k : Int) (w : World) (e : Ending) (w' : World) : Prop :=
  ∃ A c, e = .returned (.tuple #[.slice A l.length c, .int .i64 k]) ∧ OwnB T w.heap.size w' A c l ∧ Below w.heap.size w w'
theorem bytes_post2 {v : Value} {k : Int} (h : w'.ownsRow w.heap.size T 1 v n (u8s l)) (hb : Below w.heap.size w w') : BytesPost2 T l k w (.returned (.tuple #[v, .int .i64 k])) w' := by
  obtain ⟨A, c, rfl, ho⟩ := own_bytes h
  exact ⟨A, c, rfl, ho, hb⟩
theorem bytes_none2 {k : Int} (hb : Below w.heap.size w w') : BytesPost2 T [] k w (.returned (.tuple #[.slice none 0 0, .int .i64 k])) w' := bytes_post2 (n := 0) (own_nil _ _ _ _) hb
def BytesPost3 (T : TypeId) (l : List UInt8) (p k : Int) (w : World) (e : Ending) (w' : World) : Prop :=
  ∃ A c, e = .returned (.tuple #[.slice A l.length c, .int .i64 p, .int .i64 k]) ∧ OwnB T w.heap.size w' A c l ∧ Below w.heap.size w w'
theorem bytes_post3 {v : Value} {p k : Int} (h : w'.ownsRow w.heap.size T 1 v n (u8s l)) (hb : Below w.heap.size w w') : BytesPost3 T l p k w (.returned (.tuple #[v, .int .i64 p, .int .i64 k])) w' := by
  obtain ⟨A, c, rfl, ho⟩ := own_bytes h
  exact ⟨A, c, rfl, ho, hb⟩
theorem bytes_none3 {p k : Int} (hb : Below w.heap.size w w') : BytesPost3 T [] p k w (.returned (.tuple #[.slice none 0 0, .int .i64 p, .int .i64 k])) w' := bytes_post3 (n := 0) (own_nil _ _ _ _) hb
end
theorem below_grown_none {w w1 : World} (h : w.grownBy w1 none) : Below w.heap.size w w1 := (Below.refl w.heap.size w).grown h (Nat.le_refl _) (by simp)
theorem below_drewN {B n : Nat} {w w1 : World} (h : Below B w w1) : Below B w (w1.drewN n) := ⟨h.os, h.tape, h.output, h.size, h.block⟩
theorem i64_sum {x : Int} (h1 : -9223372036854775808 ≤ x) (h2 : x ≤ 9223372036854775807) : IntKind.i64.wrap x = x := IntWalk.i64_in _ ⟨h1, h2⟩
theorem reads_lit (w : World) (C : Array Value) (l : List UInt8) (t : TypeId) (fr : Nat × Nat) (hC : C.toList = u8s l) : RB (w.alloc (.cells C t fr)) (w.heap.size + 1) (some ⟨w.heap.size, 0, none⟩) l.length l :=
  RB.mk' rfl fun _ => ⟨_, 0, rfl, by omega, fun j c hj => by
    rw [Nat.zero_add, World.cell?_alloc_mark, ← Array.getElem?_toList, hC]
    exact u8s_at hj⟩
theorem rbs_one (w : World) (A : Option Addr) (n c : Nat) (l : List UInt8) (t : TypeId) (fr : Nat × Nat) (h1 : n ≤ c) (h2 : c ≤ 9223372036854775807) (h3 : A = none → c = 0) (hr : RB w w.heap.size A n l) :
    RBs (w.alloc (.cells #[.slice A n c] t fr)) (w.heap.size + 1) (some ⟨w.heap.size, 0, none⟩) 1 [l] := by
  obtain rfl := hr.len
  have hb : Below w.heap.size w (w.alloc (.cells #[.slice A l.length c] t fr)) := (Below.refl _ _).alloc (Nat.le_refl _) _
  refine (KV.nil.cons ⟨A, c, rfl, h1, h2, h3, (hr.below hb).more (by omega)⟩).rbs ⟨rfl, fun _ => ⟨_, 0, rfl, by omega, fun j u hu => ?_⟩⟩
  rw [Nat.zero_add, World.cell?_alloc_mark, ← Array.getElem?_toList]
  exact hu
theorem OwnB.one {T : TypeId} {base : Nat} {w : World} {A : Option Addr} {c : Nat} {l : List UInt8} (h : OwnB T base w A c l) (t : TypeId) (fr : Nat × Nat) :
    RBs (w.alloc (.cells #[.slice A l.length c] t fr)) (w.heap.size + 1) (some ⟨w.heap.size, 0, none⟩) 1 [l] := by
  obtain ⟨h1, h2, h3⟩ := h.cap
  unfold maxLen at h2
  exact rbs_one w A l.length c l t fr h1 h2 h3 h.rb
structure Sl (w : World) (A : Option Addr) (n c : Nat) (l : List UInt8) : Prop where
  rb : RB w w.heap.size A n l
  cap : n ≤ c
  lim : c ≤ 9223372036854775807
  nil : A = none → c = 0
section
variable {T : TypeId} {base : Nat} {w w' : World} {A : Option Addr} {c n m : Nat} {l : List UInt8}
theorem Sl.later (h : Sl w A n c l) (hb : Below w.heap.size w w') : Sl w' A n c l := ⟨h.rb.later hb, h.cap, h.lim, h.nil⟩
theorem Sl.len (h : Sl w A n c l) : l.length = n := h.rb.len
theorem Sl.le (h : Sl w A n c l) : n ≤ 9223372036854775807 := Nat.le_trans h.cap h.lim
theorem Sl.one (h : Sl w A n c l) (t : TypeId) (fr : Nat × Nat) : RBs (w.alloc (.cells #[.slice A n c] t fr)) (w.alloc (.cells #[.slice A n c] t fr)).heap.size (some ⟨w.heap.size, 0, none⟩) 1 [l] :=
  (rbs_one w A n c l t fr h.cap h.lim h.nil h.rb).more (by simp)
theorem Sl.take (h : Sl w A n c l) (hm : m ≤ n) : Sl w A m c (l.take m) := ⟨h.rb.take hm, Nat.le_trans hm h.cap, h.lim, h.nil⟩
theorem Sl.drop {k : Nat} (h : Sl w A n c l) (hk : k ≤ n) (hc : k < c) : Sl w (A.map (·.add k)) (n - k) (c - k) (l.drop k) := by
  have h1 := h.rb.drop (k := k) (cap := c) hk h.cap
  rw [if_neg (by omega)] at h1
  refine ⟨h1, by have := h.cap; omega, by have := h.lim; omega, fun e => ?_⟩
  cases A with
  | none => have := h.nil rfl; omega
  | some _ => cases e
theorem Sl.own (h : OwnB T base w A c l) : Sl w A l.length c l := by
  obtain ⟨h1, h2, h3⟩ := h.cap
  unfold maxLen at h2
  exact ⟨h.rb, h1, h2, h3⟩
theorem BytesPost.at_ {e : Ending} (h : BytesPost T l w e w') (hn : l.length = n) : ∃ A c, e = .returned (.slice A n c) ∧ Sl w' A n c l ∧ OwnB T w.heap.size w' A c l ∧ Below w.heap.size w w' := by
  subst hn
  obtain ⟨A, c, rfl, ho, hb⟩ := h
  exact ⟨A, c, rfl, Sl.own ho, ho, hb⟩
theorem BytesPost2.at_ {e : Ending} {k k' : Int} (h : BytesPost2 T l k w e w') (hn : l.length = n) (hk : k = k') : ∃ A c, e = .returned (.tuple #[.slice A n c, .int .i64 k']) ∧ Sl w' A n c l ∧ OwnB T w.heap.size w' A c l ∧ Below w.heap.size w w' := by
  subst hn; subst hk
  obtain ⟨A, c, rfl, ho, hb⟩ := h
  exact ⟨A, c, rfl, Sl.own ho, ho, hb⟩
theorem BytesPost3.at_ {e : Ending} {p p' k k' : Int} (h : BytesPost3 T l p k w e w') (hn : l.length = n) (hp : p = p') (hk : k = k') : ∃ A c, e = .returned (.tuple #[.slice A n c, .int .i64 p', .int .i64 k']) ∧ Sl w' A n c l ∧ OwnB T w.heap.size w' A c l ∧ Below w.heap.size w w' := by
  subst hn; subst hp; subst hk
  obtain ⟨A, c, rfl, ho, hb⟩ := h
  exact ⟨A, c, rfl, Sl.own ho, ho, hb⟩
theorem Sl.lit (w : World) (C : Array Value) (l : List UInt8) (t : TypeId) (fr : Nat × Nat) (hC : C.toList = u8s l) (hn : l.length = n) (hc : n ≤ 9223372036854775807) : Sl (w.alloc (.cells C t fr)) (some ⟨w.heap.size, 0, none⟩) n n l := by
  subst hn
  exact ⟨(reads_lit w C l t fr hC).more (by simp), Nat.le_refl _, hc, fun e => nomatch e⟩
end
theorem Sl.cons {w : World} {A : Option Addr} {n c : Nat} {l : List UInt8} {vs : List Value} {ks : List (List UInt8)} (h : Sl w A n c l) (hk : KV w w.heap.size vs ks) : KV w w.heap.size (.slice A n c :: vs) (l :: ks) := by
  obtain rfl := h.len
  exact hk.cons ⟨A, c, rfl, h.cap, h.lim, h.nil, h.rb⟩
theorem Sl.none (w : World) : Sl w none 0 0 [] := ⟨RB.nil, Nat.le_refl _, by omega, fun _ => rfl⟩
end Go.Proofs.YtmigjipfomfacaaGreatDoor
namespace Go.Proofs.YtmigjipfomfacaaGreatDoor
open Go.RowKit
set_option maxRecDepth 100000 in
set_option maxHeartbeats 1000000 in
theorem sum_any (ks : List (List UInt8)) (A : Option Addr) (n c : Nat) (w : World) (hn : n ≤ 9223372036854775807) (hr : RBs w w.heap.size A n ks) (ht : TabAt 0 w) :
    Calls Tryz.prog 54 #[.slice A n c] w fun e w' => e = .returned (.int .u32 (sumL ks.flatten)) ∧ w = w' := by
  have hlen := hr.len
  have HT := Lib.hid ht
  have HR := Lib.hid hr
  have hsg : IntKind.u32.signed = false := rfl
  clear hr ht
  go_enter Tryz.func54, Tryz.ntmps54
  go_wp2
  go_loop [3, 10] (fun s i => ∃ k : Nat, k ≤ n ∧ i = .int .i64 k ∧ ∃ C : Nat, C < 4294967296 ∧ s = .int .u32 C ∧ Hid (C = crcL 4294967295 (ks.take k).flatten)) (fun _ i => n - (intOf i).toNat)
  case atStart => exact ⟨0, Nat.zero_le _, rfl, 4294967295, by omega, rfl, Lib.hid rfl⟩
  case round =>
    obtain ⟨k, hk, rfl, C, hC, rfl, HC⟩ := hrel
    by_cases hlt : k < n
    case neg =>
      have E : Hid (bits .xor .u32 IntKind.u32.max (C : Int) = (sumL ks.flatten : Int)) := Lib.hid (by
        rw [not_u32 hC, HC.out, take_all (by omega)]; rfl)
      go_wp2
      go_ret
      exact ⟨by rw [← E.out]; rfl, rfl⟩
    obtain ⟨b, o, x, a, ck, rfl, hb, hx, hcell, hxc, hck, _, hrb⟩ := HR.out.at_ hlt
    go_wp2
    go_loop [3, 16] (fun s i => ∃ j : Nat, j ≤ x.length ∧ i = .int .i64 j ∧ ∃ D : Nat, D < 4294967296 ∧ s = .int .u32 D ∧ Hid (D = crcL C (x.take j))) (fun _ i => x.length - (intOf i).toNat)
    case atStart => exact ⟨0, Nat.zero_le _, rfl, C, hC, rfl, Lib.hid rfl⟩
    case round =>
      obtain ⟨j, hj, rfl, D, hD, rfl, HD⟩ := hrel
      by_cases hjl : j < x.length
      case neg =>
        have HN : Hid (D = crcL 4294967295 (ks.take (k + 1)).flatten) := Lib.hid (by
          rw [HD.out, take_all (by omega), HC.out, take_snoc hx, List.flatten_append, crcL_app]; simp)
        go_wp2
        go_round
        case rel => exact ⟨k + 1, by omega, by go_num, D, hD, rfl, HN⟩
        case measure => simp [intOf]; omega
      obtain ⟨b2, o2, y, rfl, hb2, hy, hcy⟩ := hrb.at_ hjl
      have e1 := nib1_walk D y
      have e2 := mid_walk D y hD
      have e3 := nib2_walk D y
      have e4 := crcB_walk D y hD
      have t1 := HT.out.2 _ (nib1_lt D y)
      have t2 := HT.out.2 _ (nib2_lt D y)
      have l1 := nib1_lt D y
      have l2 := nib2_lt D y
      go_wp2
      go_round
      case rel => exact ⟨j + 1, by omega, by go_num, crcB D y, crcB_lt hD y, rfl, Lib.hid (by rw [take_snoc hy, crcL_snoc, ← HD.out])⟩
      case measure => simp [intOf]; omega
end Go.Proofs.YtmigjipfomfacaaGreatDoor
namespace Go.Proofs.YtmigjipfomfacaaGreatDoor
open Go.RowKit
theorem Tryz.u8s' : SliceOf Tryz.prog 22 5 1 1 := SliceOf.mk' (z := .int .u8 0) Tryz.underlying22 (by kernel_rfl) rfl (by decide)
def outB (n : Nat) (a : Int) : Bool := decide (a < 0) || decide ((n : Int) < a)
theorem outB_no {n : Nat} {a : Int} (h1 : 0 ≤ a) (h2 : a ≤ n) : outB n a = false := by
  unfold outB; simp; omega
theorem outB_neg {n : Nat} {a : Int} (h : a < 0) : outB n a = true := by unfold outB; simp [h]
set_option maxRecDepth 100000 in
theorem outside_any (A : Option Addr) (n c : Nat) (a : Int) (w : World) : Calls Tryz.prog 79 #[.slice A n c, .int .i64 a] w fun e w' => e = .returned (.bool (outB n a)) ∧ w = w' := by
  by_cases h : a < 0
  · have H := Lib.hid (outB_neg (n := n) h)
    have hd : decide (a < 0) = true := decide_eq_true h
    go_enter Tryz.func79, Tryz.ntmps79
    go_wp2
    go_ret
    exact ⟨by rw [H.out]; rfl, rfl⟩
  · have hd : decide (a < 0) = false := decide_eq_false h
    have H : Hid (outB n a = decide ((n : Int) < a)) := Lib.hid (by unfold outB; rw [hd]; rfl)
    go_enter Tryz.func79, Tryz.ntmps79
    go_wp2
    go_ret
    exact ⟨by rw [H.out]; rfl, rfl⟩
set_option maxRecDepth 100000 in
theorem equal_any (a b : List UInt8) (A B : Option Addr) (n c m d : Nat) (w : World) (ha : RB w w.heap.size A n a) (hb : RB w w.heap.size B m b) :
    Calls Tryz.prog 32 #[.slice A n c, .slice B m d] w fun e w' => e = .returned (.bool (a == b)) ∧ w = w' := by
  have tok1 : True := trivial
  go_enter Tryz.func32, Tryz.ntmps32
  go_wp2_with (first
    | (have _t := tok1; refine wpList_string_reads rfl _ 22 9 5 rfl Tryz.underlying22 Tryz.underlying5 Tryz.underlying9 rfl ha ?_; clear tok1)
    | (refine wpList_string_reads rfl _ 22 9 5 rfl Tryz.underlying22 Tryz.underlying5 Tryz.underlying9 rfl hb ?_))
  go_ret
  exact ⟨rfl, rfl⟩
set_option maxRecDepth 100000 in
set_option maxHeartbeats 400000 in
theorem clone_any (l : List UInt8) (A : Option Addr) (n c : Nat) (w : World) (hn : n ≤ 140737488355328) (hA : A = none → c = 0) (hr : RB w w.heap.size A n l) :
    Calls Tryz.prog 80 #[.slice A n c] w (BytesPost 5 l w) := by
  have hl := hr.len
  have hnil := fun (w' : World) => Lib.run_eql_slice_nil (P := Tryz.prog) w' 22 5 A n c 0 0 Tryz.underlying22
  cases A with
  | none =>
    obtain rfl := hA rfl
    have hn0 : n = 0 := by
      rcases Nat.eq_zero_or_pos n with h0 | h0
      · exact h0
      · obtain ⟨_, _, e, _⟩ := hr.2 h0
        cases e
    subst hn0
    have H : Hid (BytesPost 5 l w (.returned (.slice none 0 0)) w) := Lib.hid (by
      have hl0 : l = [] := List.eq_nil_of_length_eq_zero hl
      subst hl0
      exact bytes_post (n := 0) (own_nil _ _ _ _) (Below.refl _ _))
    clear hr hl
    go_enter Tryz.func80, Tryz.ntmps80
    go_wp2
    go_ret
    exact H.out
  | some ad =>
    have O1 := Lib.hid (u8s_one l)
    have HO : Hid ((w.alloc (.cells #[] 5)).ownsRow w.heap.size 5 1 (.slice (some ⟨w.heap.size, 0, none⟩) 0 0) 0 []) := Lib.hid (World.ownsRow_made w #[] 0 (Nat.le_refl _) (by decide) rfl)
    have HR : Hid (RB (w.alloc (.cells #[] 5)) w.heap.size (some ad) n l) := Lib.hid (Reads.alloc hr (Nat.le_refl _) _)
    clear hr hA
    go_enter Tryz.func80, Tryz.ntmps80
    go_wp2_with (at_builtin; refine wpList_append_reads _ rfl (.tmp 5) (.tmp 6) rfl Tryz.u8s' w.heap.size (.slice (some ⟨w.heap.size, 0, none⟩) 0 0) 0 [] rfl HO.out w.heap.size (some ad) n c (u8s l) rfl HR.out O1.out (by unfold maxLen; omega) (by omega) (by simp) ?_; intro v1 w1 hown1 hg1 hat1)
    go_ret
    rw [List.nil_append] at hown1
    exact bytes_post hown1 (below_app ((Below.refl _ _).alloc (Nat.le_refl _) _) HO.out hg1 (by simp) (Nat.le_refl _))
end Go.Proofs.YtmigjipfomfacaaGreatDoor
namespace Go.Proofs.YtmigjipfomfacaaGreatDoor
open Go.RowKit
set_option maxRecDepth 100000 in
set_option maxHeartbeats 1000000 in
theorem uint_any (v : Nat) (w : World) (hv : v < 18446744073709551616) : Calls Tryz.prog 73 #[.int .u64 v] w (BytesPost 5 (uintB v) w) := by
  have HL := Lib.hid (uintB_ten hv)
  have HV := Lib.hid hv
  clear hv
  go_enter Tryz.func73, Tryz.ntmps73
  go_wp2
  go_loopw [0, 3] (fun x b wr => ∃ (V : Nat) (pre : List UInt8), Hid (V < 18446744073709551616) ∧ x = .int .u64 V ∧ Hid (pre ++ uintB V = uintB v) ∧ Hid (pre.length ≤ 10) ∧ wr.ownsRow w.heap.size 5 1 b pre.length (u8s pre) ∧ Hid (Below w.heap.size w wr)) (fun x _ _ => (intOf x).toNat)
  case atStart => exact ⟨v, [], HV, rfl, Lib.hid rfl, Lib.hid (by simp), own_nil _ _ _ _, Lib.hid (Below.refl _ _)⟩
  case round =>
    obtain ⟨V, pre, HV2, rfl, HP, HPL, hown, HB⟩ := hrel
    by_cases h : 128 ≤ V
    · have hd : decide ((128 : Int) ≤ (V : Int)) = true := decide_eq_true (by omega)
      have ho := or128_walk V
      have H8 := Lib.hid (u8v_or V)
      have HN : Hid ((pre ++ [UInt8.ofNat (V % 128 + 128)]) ++ uintB (V / 128) = uintB v) := Lib.hid (by rw [← HP.out, uintB_ge h]; simp)
      have HNL : Hid ((pre ++ [UInt8.ofNat (V % 128 + 128)]).length ≤ 10) := Lib.hid (by
        have := congrArg List.length HN.out
        rw [List.length_append] at this
        have := HL.out
        omega)
      obtain ⟨bv, hb⟩ : ∃ bv, bv = u3 := ⟨_, rfl⟩
      rw [← hb] at hown ⊢
      clear hb
      go_wp2_with (at_builtin; go_must (refine wpList_append_reads _ rfl (.tmp 6) (.tmp 10) rfl Tryz.u8s' w.heap.size bv pre.length (u8s pre) rfl (hown.alloc _) (wr.heap.size + 1) (some ⟨wr.heap.size, 0, none⟩) 1 1 (u8s [UInt8.ofNat (V % 128 + 128)]) rfl (by exact reads_lit wr _ [UInt8.ofNat (V % 128 + 128)] _ _ (by show _ = [u8v _]; rw [H8.out])) (u8s_one _) (by have := HPL.out; unfold maxLen; omega) (by have := HPL.out; omega) (by have := HB.out.size; simp; omega) ?_); intro v1 w1 hown1 hg1 hat1)
      have HV3 : Hid (V / 128 < 18446744073709551616) := Lib.hid (by have := HV2.out; omega)
      have hB : w.heap.size ≤ (wr.alloc (.cells #[.int .u8 ((V : Int) % 128 + 128)] 5)).heap.size := by have := HB.out.size; simp; omega
      have HB1 := Lib.hid (below_app (HB.out.alloc HB.out.size _) (hown.alloc _) hg1 hB (Nat.le_refl _))
      rw [← u8s_append] at hown1
      have hO1 : w1.ownsRow w.heap.size 5 1 v1 (pre ++ [UInt8.ofNat (V % 128 + 128)]).length (u8s (pre ++ [UInt8.ofNat (V % 128 + 128)])) := by
        rw [List.length_append]; exact hown1
      clear hown hown1 hg1 hat1 hB
      go_roundw
      case rel => exact ⟨V / 128, _, HV3, by rw [Int.natCast_ediv]; rfl, HN, HNL, hO1, HB1⟩
      case measure => simp [intOf]; omega
    · have hd : decide ((128 : Int) ≤ (V : Int)) = false := decide_eq_false (by omega)
      have hm : (V : Int) % 256 = (V : Int) := by omega
      have H8 : Hid (u8v (UInt8.ofNat V) = .int .u8 (V : Int)) := Lib.hid (by
        unfold u8v
        rw [UInt8.toNat_ofNat', Nat.mod_eq_of_lt (by omega)])
      have HN : Hid (pre ++ [UInt8.ofNat V] = uintB v) := Lib.hid (by rw [← HP.out, uintB_lt (by omega)])
      obtain ⟨bv, hb⟩ : ∃ bv, bv = u3 := ⟨_, rfl⟩
      rw [← hb] at hown ⊢
      clear hb
      go_wp2_with (at_builtin; go_must (refine wpList_append_reads _ rfl (.tmp 14) (.tmp 17) rfl Tryz.u8s' w.heap.size bv pre.length (u8s pre) rfl (hown.alloc _) (wr.heap.size + 1) (some ⟨wr.heap.size, 0, none⟩) 1 1 (u8s [UInt8.ofNat V]) rfl (by exact reads_lit wr _ [UInt8.ofNat V] _ _ (by show _ = [u8v _]; rw [H8.out])) (u8s_one _) (by have := HPL.out; unfold maxLen; omega) (by have := HPL.out; omega) (by have := HB.out.size; simp; omega) ?_); intro v1 w1 hown1 hg1 hat1)
      go_ret
      have hB : w.heap.size ≤ (wr.alloc (.cells #[.int .u8 (V : Int)] 5)).heap.size := by have := HB.out.size; simp; omega
      have HB1 := below_app (HB.out.alloc HB.out.size _) (hown.alloc _) hg1 hB (Nat.le_refl _)
      rw [← u8s_append, HN.out] at hown1
      exact bytes_post hown1 HB1
theorem uint_of (v : Nat) (a : Int) (ha : a = (v : Int)) (w : World) (hv : v < 18446744073709551616) : Calls Tryz.prog 73 #[.int .u64 a] w (BytesPost 5 (uintB v) w) := by
  subst ha
  exact uint_any v w hv
set_option maxRecDepth 100000 in
set_option maxHeartbeats 400000 in
theorem bytes_any (l : List UInt8) (A : Option Addr) (n c : Nat) (w : World) (hn : n ≤ 140737488355318) (hr : RB w w.heap.size A n l) :
    Calls Tryz.prog 74 #[.slice A n c] w (BytesPost 5 (uintB l.length ++ l) w) := by
  have HR : Hid (∀ w', Below w.heap.size w w' → RB w' w'.heap.size A n l) := Lib.hid fun w' h => hr.later h
  have HL := Lib.hid hr.len
  have HU := Lib.hid (uintB_ten (v := n) (by omega))
  clear hr
  go_enter Tryz.func74, Tryz.ntmps74
  go_wp2_with (first
    | (go_at_call 73; go_must (refine (uint_of n _ (by omega) _ (by omega)).mono ?_); rintro e w1 ⟨A1, c1, rfl, hO1, hb1⟩; have HB1 := Lib.hid hb1; have HO1 := Lib.hid hO1; clear hb1 hO1)
    | (at_builtin; go_must (refine wpList_append_reads _ rfl (.tmp 6) (.tmp 7) rfl Tryz.u8s' w.heap.size (.slice A1 (uintB n).length c1) (uintB n).length (u8s (uintB n)) rfl HO1.out _ A n c (u8s l) rfl (HR.out _ HB1.out) (u8s_one _) (by have := HU.out; unfold maxLen; omega) (by have := HU.out; omega) HB1.out.size ?_); intro v2 w2 hown2 hg2 hat2))
  go_ret
  rw [← u8s_append] at hown2
  rw [HL.out]
  exact bytes_post hown2 (below_app HB1.out HO1.out hg2 HB1.out.size (Nat.le_refl _))
end Go.Proofs.YtmigjipfomfacaaGreatDoor
namespace Go.Proofs.YtmigjipfomfacaaGreatDoor
open Go.RowKit
def RUPost (r : Nat × Nat × Nat) (w : World) (e : Ending) (w' : World) : Prop := e = .returned (.tuple #[.int .u64 r.1, .int .i64 r.2.1, .int .i64 r.2.2]) ∧ w = w'
set_option maxRecDepth 100000 in
set_option maxHeartbeats 400000 in
theorem ru_out (l : List UInt8) (A : Option Addr) (n c : Nat) (w : World) (a : Int) (hl : l.length = n) (h : a < 0 ∨ (n : Int) < a) :
    Calls Tryz.prog 57 #[.slice A n c, .int .i64 a] w (RUPost (readU l a) w) := by
  have HO : Hid (outB n a = true) := Lib.hid (by rcases h with h | h <;> simp [outB, h])
  have H : Hid (readU l a = (0, 0, 1)) := Lib.hid (by unfold readU; rw [if_pos (by omega)])
  clear h hl
  go_enter Tryz.func57, Tryz.ntmps57
  go_wp2_with (go_at_call 79; go_must (refine (outside_any A n c a _).mono ?_); rintro e w0 ⟨rfl, rfl⟩; rw [HO.out])
  go_ret3
  rw [H.out]
  exact ⟨rfl, rfl⟩
set_option maxRecDepth 100000 in
set_option maxHeartbeats 1000000 in
theorem ru_in (l : List UInt8) (A : Option Addr) (n c k : Nat) (w : World) (hn : n ≤ 9223372036854775797) (hr : RB w w.heap.size A n l) (hk : k ≤ n) :
    Calls Tryz.prog 57 #[.slice A n c, .int .i64 k] w (RUPost (readU l k) w) := by
  have HO : Hid (outB n (k : Int) = false) := Lib.hid (outB_no (by omega) (by omega))
  have hl := hr.len
  have HR := Lib.hid hr
  have HL := Lib.hid hl
  clear hr hl
  go_enter Tryz.func57, Tryz.ntmps57
  go_wp2_with (go_at_call 79; go_must (refine (outside_any A n c k _).mono ?_); rintro e w0 ⟨rfl, rfl⟩; rw [HO.out])
  go_loop [7, 8] (fun x i => ∃ (V j : Nat), Hid (V < 2 ^ (7 * j)) ∧ x = .int .u64 V ∧ i = .int .i64 j ∧ j ≤ 9 ∧ k + j ≤ n ∧ Hid (rdU (l.drop (k + j)) j V = rdU (l.drop k) 0 0)) (fun _ i => n + 1 - (intOf i).toNat)
  case atStart => exact ⟨0, 0, Lib.hid (by decide), rfl, rfl, by omega, by omega, Lib.hid rfl⟩
  case round =>
    obtain ⟨V, j, HV, rfl, rfl, hj9, hjn, HI⟩ := hrel
    by_cases hkj : k + j < n
    case neg =>
      have H : Hid (readU l k = (0, 0, 10)) := Lib.hid (readU_at (r := (0, 0, 10)) (by rw [HL.out]; exact hk) HI.out (by rw [List.drop_eq_nil_of_le (by rw [HL.out]; omega)]; rfl))
      go_wp2
      go_ret3
      rw [H.out]
      exact ⟨rfl, rfl⟩
    obtain ⟨b, o, x, eA, hb, hx, hcx⟩ := HR.out.at_ hkj
    subst eA
    have HC : Hid (l.drop (k + j) = x :: l.drop (k + (j + 1))) := Lib.hid (by
      obtain ⟨h1, h2⟩ := List.getElem?_eq_some_iff.1 hx
      rw [List.drop_eq_getElem_cons h1, h2]; rfl)
    have hx8 := x.toNat_lt
    clear hx
    have HK : Hid (k ≤ l.length) := Lib.hid (by rw [HL.out]; exact hk)
    have tail : Hid (∀ r, rdU (l.drop (k + j)) j V = r → readU l (k : Int) = if r.2.2 = 0 then (r.1, k + r.2.1, 0) else (0, 0, r.2.2)) := Lib.hid fun r h => readU_at HK.out HI.out h
    have HU : Hid (rdU (l.drop (k + j)) j V = if j = 9 ∧ 1 < x.toNat then (0, 0, 13) else if x.toNat < 128 then (if x.toNat = 0 ∧ 0 < j then (0, 0, 11) else (V + x.toNat % 128 * 2 ^ (7 * j), j + 1, 0)) else rdU (l.drop (k + (j + 1))) (j + 1) (V + x.toNat % 128 * 2 ^ (7 * j))) := Lib.hid (by rw [HC.out]; rfl)
    by_cases h9 : j = 9
    · subst h9
      have HV63 : Hid (V < 2 ^ 63) := Lib.hid HV.out
      by_cases h1 : 1 < x.toNat
      · have H : Hid (readU l k = (0, 0, 13)) := Lib.hid ((tail.out (0, 0, 13) (by rw [HU.out, if_pos ⟨rfl, h1⟩])).trans rfl)
        go_wp2
        go_ret3
        rw [H.out]
        exact ⟨rfl, rfl⟩
      by_cases h0 : x.toNat = 0
      · have H : Hid (readU l k = (0, 0, 11)) := Lib.hid ((tail.out (0, 0, 11) (by rw [HU.out, if_neg (by omega), if_pos (by omega), if_pos (by omega)])).trans rfl)
        go_wp2
        go_ret3
        rw [H.out]
        exact ⟨rfl, rfl⟩
      · have H : Hid (readU l k = (V + x.toNat % 128 * 2 ^ (7 * 9), k + 10, 0)) := Lib.hid ((tail.out (V + x.toNat % 128 * 2 ^ (7 * 9), 10, 0) (by rw [HU.out, if_neg (by omega), if_pos (by omega), if_neg (by omega)])).trans (by rw [if_pos rfl]))
        have HE := Lib.hid (rd_last V x (by omega) HV63.out)
        have hd0 : ((x.toNat : Int) == 0) = false := by rw [beq_eq_false_iff_ne]; omega
        go_wp2
        go_ret3
        rw [H.out]
        refine ⟨?_, rfl⟩
        rw [← HE.out]
        rw [show ((k + 10 : Nat) : Int) = (k : Int) + 9 + 1 from by omega]; rfl
    · have hj8 : j ≤ 8 := by omega
      have hd9 : ((j : Int) == 9) = false := by rw [beq_eq_false_iff_ne]; omega
      have HE := Lib.hid (rd_step V j x hj8 HV.out)
      by_cases hx7 : x.toNat < 128
      · by_cases h0 : x.toNat = 0
        · by_cases hj0 : j = 0
          · have H : Hid (readU l k = (V + x.toNat % 128 * 2 ^ (7 * j), k + (j + 1), 0)) := Lib.hid ((tail.out (V + x.toNat % 128 * 2 ^ (7 * j), j + 1, 0) (by rw [HU.out, if_neg (by omega), if_pos (by omega), if_neg (by omega)])).trans (by rw [if_pos rfl]))
            have hd0 : ((x.toNat : Int) == 0) = true := by rw [beq_iff_eq]; omega
            have hd1 : decide (0 < j) = false := decide_eq_false (by omega)
            clear h0 hj0
            go_wp2
            go_ret3
            rw [H.out]
            refine ⟨?_, rfl⟩
            rw [← HE.out]
            rw [show ((k + (j + 1) : Nat) : Int) = (k : Int) + j + 1 from by omega]; rfl
          · have H : Hid (readU l k = (0, 0, 11)) := Lib.hid ((tail.out (0, 0, 11) (by rw [HU.out, if_neg (by omega), if_pos (by omega), if_pos (by omega)])).trans rfl)
            have hj1 : 0 < j := by omega
            go_wp2
            go_ret3
            rw [H.out]
            exact ⟨rfl, rfl⟩
        · have H : Hid (readU l k = (V + x.toNat % 128 * 2 ^ (7 * j), k + (j + 1), 0)) := Lib.hid ((tail.out (V + x.toNat % 128 * 2 ^ (7 * j), j + 1, 0) (by rw [HU.out, if_neg (by omega), if_pos (by omega), if_neg (by omega)])).trans (by rw [if_pos rfl]))
          have hd0 : ((x.toNat : Int) == 0) = false := by rw [beq_eq_false_iff_ne]; omega
          go_wp2
          go_ret3
          rw [H.out]
          refine ⟨?_, rfl⟩
          rw [← HE.out]
          rw [show ((k + (j + 1) : Nat) : Int) = (k : Int) + j + 1 from by omega]; rfl
      · have HN : Hid (rdU (l.drop (k + (j + 1))) (j + 1) (V + x.toNat % 128 * 2 ^ (7 * j)) = rdU (l.drop k) 0 0) := Lib.hid (by
          rw [← HI.out, HU.out, if_neg (by omega), if_neg (by omega)])
        go_wp2
        go_round
        case rel => exact ⟨_, j + 1, Lib.hid (rd_next V j x.toNat HV.out), by rw [HE.out], by go_num, by omega, by omega, HN⟩
        case measure => simp [intOf]; omega
theorem ru_any (l : List UInt8) (A : Option Addr) (n c : Nat) (a : Int) (w : World) (hn : n ≤ 9223372036854775797) (hr : RB w w.heap.size A n l) :
    Calls Tryz.prog 57 #[.slice A n c, .int .i64 a] w (RUPost (readU l a) w) := by
  by_cases h : a < 0 ∨ (n : Int) < a
  · exact ru_out l A n c w a hr.len h
  · obtain ⟨k, rfl⟩ : ∃ k : Nat, a = (k : Int) := ⟨a.toNat, by omega⟩
    exact ru_in l A n c k w hn hr (by omega)
end Go.Proofs.YtmigjipfomfacaaGreatDoor
namespace Go.Proofs.YtmigjipfomfacaaGreatDoor
open Go.RowKit
set_option maxRecDepth 100000 in
theorem rSame_any (a b : List UInt8) (A B : Option Addr) (n c m d : Nat) (w : World) (ha : RB w w.heap.size A n a) (hb : RB w w.heap.size B m b) :
    Calls Tryz.prog 33 #[.slice A n c, .slice B m d] w fun e w' => e = .returned (.bool (a == b)) ∧ w = w' := by
  have tok1 : True := trivial
  go_enter Tryz.func33, Tryz.ntmps33
  go_wp2_with (first
    | (have _t := tok1; refine wpList_string_reads rfl _ 22 9 5 rfl Tryz.underlying22 Tryz.underlying5 Tryz.underlying9 rfl ha ?_; clear tok1)
    | (refine wpList_string_reads rfl _ 22 9 5 rfl Tryz.underlying22 Tryz.underlying5 Tryz.underlying9 rfl hb ?_))
  go_ret
  exact ⟨rfl, rfl⟩
theorem Sl.cut {w : World} {A : Option Addr} {n c lo hi : Nat} {l : List UInt8} (h : Sl w A n c l) (h1 : lo ≤ hi) (h2 : hi ≤ n) (hc : lo < c) : Sl w (A.map (·.add lo)) (hi - lo) (c - lo) (cutS l lo (hi - lo)) := by
  have h3 := (h.drop (k := lo) (by omega) hc).take (m := hi - lo) (by omega)
  exact h3
set_option maxRecDepth 100000 in
set_option maxHeartbeats 400000 in
theorem part_any (l : List UInt8) (A : Option Addr) (n c lo hi : Nat) (a z : Int) (ha : a = (lo : Int)) (hz : z = (hi : Int)) (w : World) (hs : Sl w A n c l) (h1 : lo ≤ hi) (h2 : hi ≤ n) (hn : n ≤ 140737488355328) :
    Calls Tryz.prog 84 #[.slice A n c, .int .i64 a, .int .i64 z] w (BytesPost 5 (cutS l lo (hi - lo)) w) := by
  subst ha; subst hz
  have hcap := hs.cap
  have hlim := hs.lim
  by_cases hc : c = lo
  · obtain rfl : hi = lo := by omega
    have HE : Hid (RB w w.heap.size A 0 []) := Lib.hid RB.nil
    have H : Hid (BytesPost 5 (cutS l hi (hi - hi)) w = BytesPost 5 [] w) := Lib.hid (by rw [Nat.sub_self]; unfold cutS; rw [List.take_zero])
    have k2 : hi - hi = 0 := by omega
    have k3 : (hi : Int) ≤ (c : Int) := by omega
    have HC := Lib.hid hc
    have k4 : c = hi := hc
    have HO := Lib.hid (own_nil w w.heap.size 5 1)
    rw [H.out]
    subst k4
    clear hs hc hlim h1
    go_enter Tryz.func84, Tryz.ntmps84
    go_wp2_with (at_builtin; go_must (refine wpList_append_reads _ rfl (.tmp 8) (.tmp 12) rfl Tryz.u8s' w.heap.size (.slice none 0 0) 0 [] rfl (own_nil _ _ _ _) _ A 0 0 (u8s []) rfl HE.out (u8s_one _) (by decide) (by decide) (Nat.le_refl _) ?_); intro v1 w1 hown1 hg1 hat1)
    go_ret
    exact bytes_post hown1 (below_app (Below.refl _ _) HO.out hg1 (Nat.le_refl _) (Nat.le_refl _))
  · have HE := Lib.hid (hs.cut h1 h2 (by omega))
    have HL : Hid ((cutS l lo (hi - lo)).length = hi - lo) := Lib.hid HE.out.len
    have k3 : (hi : Int) ≤ (c : Int) := by omega
    have k4 : (lo : Int) ≤ (hi : Int) := by omega
    have k5 : c ≠ lo := hc
    have HO := Lib.hid (own_nil w w.heap.size 5 1)
    obtain ⟨C, hC⟩ : ∃ C, C = cutS l lo (hi - lo) := ⟨_, rfl⟩
    rw [← hC] at HE HL ⊢
    clear hs hlim hC hc
    go_enter Tryz.func84, Tryz.ntmps84
    go_wp2_with (at_builtin; go_must (refine wpList_append_reads _ rfl (.tmp 8) (.tmp 12) rfl Tryz.u8s' w.heap.size (.slice none 0 0) 0 [] rfl (own_nil _ _ _ _) _ (A.map (·.add lo)) (hi - lo) (c - lo) (u8s C) rfl HE.out.rb (u8s_one _) (by unfold maxLen; omega) (by omega) (Nat.le_refl _) ?_); intro v1 w1 hown1 hg1 hat1)
    go_ret
    rw [List.nil_append] at hown1
    exact bytes_post hown1 (below_app (Below.refl _ _) HO.out hg1 (Nat.le_refl _) (Nat.le_refl _))
theorem u8v_rem (V : Nat) : u8v (UInt8.ofNat (V % 128 + 128)) = .int .u8 (128 + (V : Int) % 128) := by
  unfold u8v
  rw [UInt8.toNat_ofNat', Nat.mod_eq_of_lt (by omega)]; congr 1; omega
set_option maxRecDepth 100000 in
set_option maxHeartbeats 1000000 in
theorem rUint_any (v : Nat) (w : World) (hv : v < 18446744073709551616) : Calls Tryz.prog 50 #[.int .u64 v] w (BytesPost 5 (uintB v) w) := by
  have HL := Lib.hid (uintB_ten hv)
  have HV := Lib.hid hv
  clear hv
  go_enter Tryz.func50, Tryz.ntmps50
  go_wp2
  go_loopw [0, 3] (fun x b wr => ∃ (V : Nat) (pre : List UInt8), V < 18446744073709551616 ∧ x = .int .u64 V ∧ Hid (pre ++ uintB V = uintB v) ∧ Hid (pre.length ≤ 10) ∧ wr.ownsRow w.heap.size 5 1 b pre.length (u8s pre) ∧ Hid (Below w.heap.size w wr)) (fun x _ _ => (intOf x).toNat)
  case atStart => exact ⟨v, [], HV.out, rfl, Lib.hid rfl, Lib.hid (by simp), own_nil _ _ _ _, Lib.hid (Below.refl _ _)⟩
  case round =>
    obtain ⟨V, pre, hV2, rfl, HP, HPL, hown, HB⟩ := hrel
    by_cases h : 128 ≤ V
    · have hd : decide ((127 : Int) < (V : Int)) = true := decide_eq_true (by omega)
      have hm1 : (V : Int) % 128 < 128 := by omega
      have hm0 : 0 ≤ (V : Int) % 128 := by omega
      have hm2 : (128 + (V : Int) % 128) % 256 = 128 + (V : Int) % 128 := by omega
      have H8 := Lib.hid (u8v_rem V)
      have HN : Hid ((pre ++ [UInt8.ofNat (V % 128 + 128)]) ++ uintB (V / 128) = uintB v) := Lib.hid (by rw [← HP.out, uintB_ge h]; simp)
      have HNL : Hid ((pre ++ [UInt8.ofNat (V % 128 + 128)]).length ≤ 10) := Lib.hid (by
        have := congrArg List.length HN.out
        rw [List.length_append] at this
        have := HL.out
        omega)
      obtain ⟨bv, hb⟩ : ∃ bv, bv = u3 := ⟨_, rfl⟩
      rw [← hb] at hown ⊢
      clear hb
      go_wp2_with (at_builtin; go_must (refine wpList_append_reads _ rfl (.tmp 6) (.tmp 11) rfl Tryz.u8s' w.heap.size bv pre.length (u8s pre) rfl (hown.alloc _) (wr.heap.size + 1) (some ⟨wr.heap.size, 0, none⟩) 1 1 (u8s [UInt8.ofNat (V % 128 + 128)]) rfl (by exact reads_lit wr _ [UInt8.ofNat (V % 128 + 128)] _ _ (by show _ = [u8v _]; rw [H8.out])) (u8s_one _) (by have := HPL.out; unfold maxLen; omega) (by have := HPL.out; omega) (by have := HB.out.size; simp; omega) ?_); intro v1 w1 hown1 hg1 hat1)
      have hB : w.heap.size ≤ (wr.alloc (.cells #[.int .u8 (128 + (V : Int) % 128)] 5)).heap.size := by have := HB.out.size; simp; omega
      have HB1 := Lib.hid (below_app (HB.out.alloc HB.out.size _) (hown.alloc _) hg1 hB (Nat.le_refl _))
      rw [← u8s_append] at hown1
      have hO1 : w1.ownsRow w.heap.size 5 1 v1 (pre ++ [UInt8.ofNat (V % 128 + 128)]).length (u8s (pre ++ [UInt8.ofNat (V % 128 + 128)])) := by
        rw [List.length_append]; exact hown1
      clear hown hown1 hg1 hat1 hB hm2
      go_roundw
      case rel => exact ⟨V / 128, _, by omega, by rw [Int.natCast_ediv]; rfl, HN, HNL, hO1, HB1⟩
      case measure => simp [intOf]; omega
    · have hd : decide ((127 : Int) < (V : Int)) = false := decide_eq_false (by omega)
      have hm : (V : Int) % 256 = (V : Int) := by omega
      have H8 : Hid (u8v (UInt8.ofNat V) = .int .u8 (V : Int)) := Lib.hid (by
        unfold u8v
        rw [UInt8.toNat_ofNat', Nat.mod_eq_of_lt (by omega)])
      have HN : Hid (pre ++ [UInt8.ofNat V] = uintB v) := Lib.hid (by rw [← HP.out, uintB_lt (by omega)])
      obtain ⟨bv, hb⟩ : ∃ bv, bv = u3 := ⟨_, rfl⟩
      rw [← hb] at hown ⊢
      clear hb
      go_wp2_with (at_builtin; go_must (refine wpList_append_reads _ rfl (.tmp 15) (.tmp 18) rfl Tryz.u8s' w.heap.size bv pre.length (u8s pre) rfl (hown.alloc _) (wr.heap.size + 1) (some ⟨wr.heap.size, 0, none⟩) 1 1 (u8s [UInt8.ofNat V]) rfl (by exact reads_lit wr _ [UInt8.ofNat V] _ _ (by show _ = [u8v _]; rw [H8.out])) (u8s_one _) (by have := HPL.out; unfold maxLen; omega) (by have := HPL.out; omega) (by have := HB.out.size; simp; omega) ?_); intro v1 w1 hown1 hg1 hat1)
      go_ret
      have hB : w.heap.size ≤ (wr.alloc (.cells #[.int .u8 (V : Int)] 5)).heap.size := by have := HB.out.size; simp; omega
      have HB1 := below_app (HB.out.alloc HB.out.size _) (hown.alloc _) hg1 hB (Nat.le_refl _)
      rw [← u8s_append, HN.out] at hown1
      exact bytes_post hown1 HB1
theorem rUint_of (v : Nat) (a : Int) (ha : a = (v : Int)) (w : World) (hv : v < 18446744073709551616) : Calls Tryz.prog 50 #[.int .u64 a] w (BytesPost 5 (uintB v) w) := by
  subst ha
  exact rUint_any v w hv
set_option maxRecDepth 100000 in
theorem rOutside_any (A : Option Addr) (n c : Nat) (a : Int) (w : World) : Calls Tryz.prog 83 #[.slice A n c, .int .i64 a] w fun e w' => e = .returned (.bool (outB n a)) ∧ w = w' := by
  by_cases h : a < 0
  · have H := Lib.hid (outB_neg (n := n) h)
    have hd : decide (a < 0) = true := decide_eq_true h
    go_enter Tryz.func83, Tryz.ntmps83
    go_wp2
    go_ret
    exact ⟨by rw [H.out]; rfl, rfl⟩
  · have hd : decide (a < 0) = false := decide_eq_false h
    have H : Hid (outB n a = decide ((n : Int) < a)) := Lib.hid (by unfold outB; rw [hd]; rfl)
    go_enter Tryz.func83, Tryz.ntmps83
    go_wp2
    go_ret
    exact ⟨by rw [H.out]; rfl, rfl⟩
set_option maxRecDepth 100000 in
set_option maxHeartbeats 400000 in
theorem rBytes_any (l : List UInt8) (A : Option Addr) (n c : Nat) (w : World) (hn : n ≤ 140737488355318) (hr : RB w w.heap.size A n l) :
    Calls Tryz.prog 51 #[.slice A n c] w (BytesPost 5 (uintB l.length ++ l) w) := by
  have HR : Hid (∀ w', Below w.heap.size w w' → RB w' w'.heap.size A n l) := Lib.hid fun w' h => hr.later h
  have HL := Lib.hid hr.len
  have HU := Lib.hid (uintB_ten (v := n) (by omega))
  clear hr
  go_enter Tryz.func51, Tryz.ntmps51
  go_wp2_with (first
    | (go_at_call 50; go_must (refine (rUint_of n _ (by omega) _ (by omega)).mono ?_); rintro e w1 ⟨A1, c1, rfl, hO1, hb1⟩; have HB1 := Lib.hid hb1; have HO1 := Lib.hid hO1; clear hb1 hO1)
    | (at_builtin; go_must (refine wpList_append_reads _ rfl (.tmp 6) (.tmp 7) rfl Tryz.u8s' w.heap.size (.slice A1 (uintB n).length c1) (uintB n).length (u8s (uintB n)) rfl HO1.out _ A n c (u8s l) rfl (HR.out _ HB1.out) (u8s_one _) (by have := HU.out; unfold maxLen; omega) (by have := HU.out; omega) HB1.out.size ?_); intro v2 w2 hown2 hg2 hat2))
  go_ret
  rw [← u8s_append] at hown2
  rw [HL.out]
  exact bytes_post hown2 (below_app HB1.out HO1.out hg2 HB1.out.size (Nat.le_refl _))
set_option maxRecDepth 100000 in
set_option maxHeartbeats 400000 in
theorem rRu_out (l : List UInt8) (A : Option Addr) (n c : Nat) (w : World) (a : Int) (hl : l.length = n) (h : a < 0 ∨ (n : Int) < a) :
    Calls Tryz.prog 61 #[.slice A n c, .int .i64 a] w (RUPost (readU l a) w) := by
  have HO : Hid (outB n a = true) := Lib.hid (by rcases h with h | h <;> simp [outB, h])
  have H : Hid (readU l a = (0, 0, 1)) := Lib.hid (by unfold readU; rw [if_pos (by omega)])
  clear h hl
  go_enter Tryz.func61, Tryz.ntmps61
  go_wp2_with (go_at_call 83; go_must (refine (rOutside_any A n c a _).mono ?_); rintro e w0 ⟨rfl, rfl⟩; rw [HO.out])
  go_ret3
  rw [H.out]
  exact ⟨rfl, rfl⟩
theorem ref_mul (U x : Nat) (hU : U ≤ 72057594037927936) (hx : x < 128) : U * x < 9223372036854775808 := by
  have h1 : x ≤ 127 := by omega
  have := Nat.mul_le_mul hU h1
  omega
theorem ref_step (V U j x : Nat) (hj : j ≤ 8) (hU : U = 2 ^ (7 * j)) (hV : V < U) :
    IntKind.u64.wrap ((U : Int) * ((x : Int) % 128)) = ((U * (x % 128) : Nat) : Int) ∧ IntKind.u64.wrap ((V : Int) + ((U * (x % 128) : Nat) : Int)) = ((V + x % 128 * 2 ^ (7 * j) : Nat) : Int) ∧ IntKind.u64.wrap ((U : Int) * 128) = ((U * 128 : Nat) : Int) ∧ V + x % 128 * 2 ^ (7 * j) < U * 128 ∧ U * 128 = 2 ^ (7 * (j + 1)) := by
  have h1 := pow7_le hj
  rw [← hU] at h1
  have h2 : x % 128 < 128 := Nat.mod_lt _ (by decide)
  have h3 := ref_mul U (x % 128) h1 h2
  have e1 : (U : Int) * ((x : Int) % 128) = ((U * (x % 128) : Nat) : Int) := by rw [Int.natCast_mul, Int.natCast_emod]; rfl
  have e2 : x % 128 * 2 ^ (7 * j) = U * (x % 128) := by rw [← hU, Nat.mul_comm]
  rw [e1, e2]
  have h4 : U * (x % 128) ≤ U * 127 := Nat.mul_le_mul_left _ (by omega)
  refine ⟨?_, ?_, ?_, ?_, ?_⟩
  · rw [IntKind.wrap_u64]; omega
  · rw [IntKind.wrap_u64]; omega
  · rw [IntKind.wrap_u64]; omega
  · omega
  · rw [hU, pow7_step]; omega
theorem ref_last (V x : Nat) (hx : x ≤ 1) (hV : V < 9223372036854775808) :
    IntKind.u64.wrap ((9223372036854775808 : Int) * ((x : Int) % 128)) = ((9223372036854775808 * (x % 128) : Nat) : Int) ∧ IntKind.u64.wrap ((V : Int) + ((9223372036854775808 * (x % 128) : Nat) : Int)) = ((V + x % 128 * 2 ^ (7 * 9) : Nat) : Int) := by
  rw [show (2 : Nat) ^ (7 * 9) = 9223372036854775808 from by decide]
  constructor
  · rw [IntKind.wrap_u64]; omega
  · rw [IntKind.wrap_u64]; omega
end Go.Proofs.YtmigjipfomfacaaGreatDoor
namespace Go.Proofs.YtmigjipfomfacaaGreatDoor
open Go.RowKit
theorem cmp_lt_at {a b : List UInt8} {k : Nat} {x y : UInt8} (h : a.take k = b.take k) (ha : a[k]? = some x) (hb : b[k]? = some y) (hxy : x.toNat < y.toNat) : cmpB a b = -1 := by
  obtain ⟨h1, rfl⟩ := List.getElem?_eq_some_iff.1 ha
  obtain ⟨h2, rfl⟩ := List.getElem?_eq_some_iff.1 hb
  rw [← cmpB_drop a b k h, List.drop_eq_getElem_cons h1, List.drop_eq_getElem_cons h2, cmpB_lt hxy]
theorem cmp_gt_at {a b : List UInt8} {k : Nat} {x y : UInt8} (h : a.take k = b.take k) (ha : a[k]? = some x) (hb : b[k]? = some y) (hxy : y.toNat < x.toNat) : cmpB a b = 1 := by
  obtain ⟨h1, rfl⟩ := List.getElem?_eq_some_iff.1 ha
  obtain ⟨h2, rfl⟩ := List.getElem?_eq_some_iff.1 hb
  rw [← cmpB_drop a b k h, List.drop_eq_getElem_cons h1, List.drop_eq_getElem_cons h2, cmpB_gt hxy]
theorem cmp_eq_at {a b : List UInt8} {k : Nat} {x : UInt8} (h : a.take k = b.take k) (ha : a[k]? = some x) (hb : b[k]? = some x) : a.take (k + 1) = b.take (k + 1) := by
  rw [take_snoc ha, take_snoc hb, h]
theorem cmp_end {a b : List UInt8} {k n m : Nat} (h : a.take k = b.take k) (ha : a.length = n) (hb : b.length = m) (hk : k = n) (hm : k ≤ m) : cmpB a b = if n < m then -1 else 0 := by
  subst hk
  rw [← cmpB_drop a b k h, List.drop_eq_nil_of_le (by omega)]
  split
  · rw [List.drop_eq_getElem_cons (by omega)]; rfl
  · rw [List.drop_eq_nil_of_le (by omega)]; rfl
theorem cmp_end2 {a b : List UInt8} {k n m : Nat} (h : a.take k = b.take k) (ha : a.length = n) (hb : b.length = m) (hk : k = m) (hm : k < n) : cmpB a b = 1 := by
  subst hk
  rw [← cmpB_drop a b k h, show b.drop k = [] from List.drop_eq_nil_of_le (by omega), List.drop_eq_getElem_cons (by omega)]; rfl
theorem ordB_take {l : List UInt8} {k : Nat} {y : UInt8} (h : l[k]? = some y) : (l.take (k + 1)).flatMap ordC = (l.take k).flatMap ordC ++ ordC y := by
  rw [take_snoc h, List.flatMap_append]; simp
set_option maxRecDepth 100000 in
set_option maxHeartbeats 1000000 in
theorem ordered_any (l : List UInt8) (A : Option Addr) (n c : Nat) (w : World) (hn : n ≤ 70368744177000) (hr : RB w w.heap.size A n l) :
    Calls Tryz.prog 89 #[.slice A n c] w (BytesPost 5 (ordB l) w) := by
  have HL := Lib.hid hr.len
  have HR : Hid (∀ w', Below w.heap.size w w' → RB w' w'.heap.size A n l) := Lib.hid fun w' h => hr.later h
  have HF : Hid (∀ k, ((l.take k).flatMap ordC).length ≤ 140737488354000) := Lib.hid fun k => by
    have := ordF_len (l.take k)
    have h2 : (l.take k).length ≤ l.length := by rw [List.length_take]; omega
    have h3 := HL.out
    omega
  clear hr
  go_enter Tryz.func89, Tryz.ntmps89
  go_wp2_with (at_make; go_must (refine wpList_make_own _ rfl (.const (.int .i64 0)) (.tmp 8) 22 rfl w.heap.size 5 Tryz.t5 (.int .u8 0) 1 Tryz.underlying22 (by kernel_rfl) rfl rfl .i64 .i64 _ (n + 2) rfl rfl (by omega) (by show 1 * _ ≤ _; omega) (by unfold maxLen; omega) (Nat.le_refl _) ?_); intro w1 hown1 hg1)
  have HB1 := Lib.hid (below_grown_none hg1)
  have HO1 := Lib.hid hown1
  clear hown1 hg1
  go_loopw [3, 12] (fun v i wr => ∃ (k : Nat) (P : List UInt8), k ≤ n ∧ i = .int .i64 k ∧ Hid (P = (l.take k).flatMap ordC) ∧ wr.ownsRow w.heap.size 5 1 v P.length (u8s P) ∧ Hid (Below w.heap.size w wr)) (fun _ i _ => n - (intOf i).toNat)
  case atStart => exact ⟨0, [], Nat.zero_le _, rfl, Lib.hid rfl, HO1.out, HB1⟩
  case round =>
    clear HO1 HB1
    obtain ⟨k, P, hk, rfl, HP, hown, HB⟩ := hrel
    obtain ⟨v, hv⟩ : ∃ v, v = u3 := ⟨_, rfl⟩
    rw [← hv] at hown ⊢
    clear hv
    have HPL : Hid (P.length ≤ 140737488354000) := Lib.hid (by rw [HP.out]; exact HF.out k)
    by_cases hlt : k < n
    case neg =>
      have HE : Hid (P ++ [0, 1] = ordB l) := Lib.hid (by rw [HP.out, take_all (by have := HL.out; omega)]; rfl)
      go_wp2_with (at_builtin; go_must (refine wpList_append_reads _ rfl (.tmp 26) (.tmp 27) rfl Tryz.u8s' w.heap.size v P.length (u8s P) rfl (hown.alloc _) (wr.heap.size + 1) (some ⟨wr.heap.size, 0, none⟩) 2 2 (u8s [0, 1]) rfl (by exact reads_lit wr _ [0, 1] _ _ rfl) (u8s_one _) (by have := HPL.out; unfold maxLen; omega) (by have := HPL.out; omega) (by have := HB.out.size; simp; omega) ?_); intro v1 w1 hown1 hg1 hat1)
      go_ret
      have hB : w.heap.size ≤ (wr.alloc (.cells #[.int .u8 0, .int .u8 1] 5)).heap.size := by have := HB.out.size; simp; omega
      have HB1 := below_app (HB.out.alloc HB.out.size _) (hown.alloc _) hg1 hB (Nat.le_refl _)
      rw [← u8s_append, HE.out] at hown1
      exact bytes_post hown1 HB1
    obtain ⟨b, o, y, rfl, _, hy, hcy⟩ := (HR.out _ HB.out).at_ hlt
    have HY := Lib.hid (ordB_take hy)
    clear hy
    by_cases h0 : y.toNat = 0
    · have HN : Hid ((P ++ [y]) ++ [255] = (l.take (k + 1)).flatMap ordC) := Lib.hid (by
        rw [HY.out, HP.out]
        unfold ordC
        rw [if_pos h0, UInt8.toNat_inj.1 (show y.toNat = (0 : UInt8).toNat from h0)]; simp)
      have hd : ((y.toNat : Int) == 0) = true := by rw [beq_iff_eq]; omega
      have tok1 : True := trivial
      clear HY h0
      go_wp2_with (first
        | (at_builtin; have _t := tok1; go_must (refine wpList_append_reads _ rfl (.tmp 16) (.tmp 18) rfl Tryz.u8s' w.heap.size v P.length (u8s P) rfl (hown.alloc _) (wr.heap.size + 1) (some ⟨wr.heap.size, 0, none⟩) 1 1 (u8s [y]) rfl (by exact reads_lit wr _ [y] _ _ rfl) (u8s_one _) (by have := HPL.out; unfold maxLen; omega) (by have := HPL.out; omega) (by have := HB.out.size; simp; omega) ?_); intro v1 w1 hown1 hg1 hat1; clear tok1; have HB1 := Lib.hid (below_app (HB.out.alloc HB.out.size (.cells #[.int .u8 (y.toNat : Int)] 5)) (hown.alloc _) hg1 (by have := HB.out.size; simp; omega) (Nat.le_refl _)); rw [← u8s_append] at hown1; have HO1 := Lib.hid hown1; clear hown1 hg1 hat1)
        | (at_builtin; go_must (refine wpList_append_reads _ rfl (.tmp 22) (.tmp 23) rfl Tryz.u8s' w.heap.size v1 (P.length + 1) (u8s (P ++ [y])) rfl (HO1.out.alloc _) (w1.heap.size + 1) (some ⟨w1.heap.size, 0, none⟩) 1 1 (u8s [255]) rfl (by exact reads_lit w1 _ [255] _ _ rfl) (u8s_one _) (by have := HPL.out; unfold maxLen; omega) (by have := HPL.out; omega) (by have := HB1.out.size; simp; omega) ?_); intro v2 w2 hown2 hg2 hat2; have HB2 := Lib.hid (below_app (HB1.out.alloc HB1.out.size (.cells #[.int .u8 255] 5)) (HO1.out.alloc _) hg2 (by have := HB1.out.size; simp; omega) (Nat.le_refl _)); rw [← u8s_append] at hown2; have HO2 := Lib.hid hown2; clear hown2 hg2 hat2))
      have hO2 : w2.ownsRow w.heap.size 5 1 v2 ((P ++ [y]) ++ [255]).length (u8s ((P ++ [y]) ++ [255])) := by
        have := HO2.out
        have e : ((P ++ [y]) ++ [(255 : UInt8)]).length = P.length + 1 + 1 := by simp
        rw [e]; exact this
      clear HO2 HO1
      go_roundw
      case rel => exact ⟨k + 1, (P ++ [y]) ++ [255], by omega, by go_num, HN, hO2, HB2⟩
      case measure => simp [intOf]; omega
    · have HN : Hid (P ++ [y] = (l.take (k + 1)).flatMap ordC) := Lib.hid (by
        rw [HY.out, HP.out]
        unfold ordC
        rw [if_neg h0])
      have hd : ((y.toNat : Int) == 0) = false := by rw [beq_eq_false_iff_ne]; omega
      clear HY h0
      go_wp2_with (at_builtin; go_must (refine wpList_append_reads _ rfl (.tmp 16) (.tmp 18) rfl Tryz.u8s' w.heap.size v P.length (u8s P) rfl (hown.alloc _) (wr.heap.size + 1) (some ⟨wr.heap.size, 0, none⟩) 1 1 (u8s [y]) rfl (by exact reads_lit wr _ [y] _ _ rfl) (u8s_one _) (by have := HPL.out; unfold maxLen; omega) (by have := HPL.out; omega) (by have := HB.out.size; simp; omega) ?_); intro v1 w1 hown1 hg1 hat1; have HB1 := Lib.hid (below_app (HB.out.alloc HB.out.size (.cells #[.int .u8 (y.toNat : Int)] 5)) (hown.alloc _) hg1 (by have := HB.out.size; simp; omega) (Nat.le_refl _)); rw [← u8s_append] at hown1; have HO1 := Lib.hid hown1; clear hown1 hg1 hat1)
      have hO1 : w1.ownsRow w.heap.size 5 1 v1 (P ++ [y]).length (u8s (P ++ [y])) := by
        have := HO1.out
        rw [show (P ++ [y]).length = P.length + 1 from by simp]; exact this
      clear HO1
      go_roundw
      case rel => exact ⟨k + 1, P ++ [y], by omega, by go_num, HN, hO1, HB1⟩
      case measure => simp [intOf]; omega
end Go.Proofs.YtmigjipfomfacaaGreatDoor
namespace Go.Proofs.YtmigjipfomfacaaGreatDoor
open Go.RowKit
theorem made_zeros (L : Nat) : (madeCells (Value.int IntKind.u8 0).cells L).toList = u8s (List.replicate L 0) := by
  have e : (Value.int IntKind.u8 0).cells = #[.int .u8 0] := rfl
  rw [e]
  apply List.ext_getElem?
  intro i
  simp only [madeCells, u8s, u8v, List.map_replicate, List.getElem?_replicate, Array.toList_map, Array.toList_range, List.getElem?_map, List.size_toArray, List.length_cons, List.length_nil, Nat.zero_add, Nat.mod_one]
  by_cases h : i < L
  · rw [if_pos h, List.getElem?_range h]; rfl
  · rw [if_neg h, List.getElem?_eq_none (by simpa using h)]; rfl
theorem rTo_zero (v : Nat) : rTo v 0 = List.replicate 8 0 := by simp [rTo, List.range_succ]
theorem u8s_set' (l : List UInt8) (k : Nat) (x : UInt8) : (u8s l).set k (u8v x) = u8s (l.set k x) := by
  unfold u8s
  rw [List.map_set]
set_option maxRecDepth 100000 in
set_option maxHeartbeats 1000000 in
theorem rising_any (v : Nat) (w : World) (hv : v < 9223372036854775808) : Calls Tryz.prog 98 #[.int .i64 v] w (BytesPost2 5 (risB v) 0 w) := by
  have hd : decide ((v : Int) < 0) = false := decide_eq_false (by omega)
  go_enter Tryz.func98, Tryz.ntmps98
  go_wp2_with (at_make; go_must (refine wpList_make_full _ rfl (.const (.int .i64 8)) (.const (.int .i64 8)) 22 rfl w.heap.size 5 Tryz.t5 (.int .u8 0) 1 Tryz.underlying22 (by kernel_rfl) rfl rfl .i64 .i64 _ _ 8 rfl rfl rfl rfl (by decide) (by decide) (Nat.le_refl _) ?_); intro w1 hown1 hg1)
  have HB1 := Lib.hid (below_grown_none hg1)
  have HO1 : Hid (OwnB 5 w.heap.size w1 (some ⟨w.heap.size, 0, none⟩) 8 (rTo v 0)) := Lib.hid (by
    unfold OwnB
    rw [rTo_len, rTo_zero, ← made_zeros 8]
    exact hown1)
  clear hown1 hg1
  obtain ⟨g, hg⟩ : ∃ g, g = w.heap.size := ⟨_, rfl⟩
  have HG := Lib.hid hg
  rw [← hg] at HO1 ⊢
  clear hg
  go_loopw [0, 5] (fun x i wr => ∃ (j : Nat) (X : Nat) (I : Int), j ≤ 8 ∧ Hid (X = v / 256 ^ j) ∧ X < 9223372036854775808 ∧ x = .int .i64 X ∧ I = 7 - (j : Int) ∧ i = .int .i64 I ∧ Hid (OwnB 5 g wr (some ⟨g, 0, none⟩) 8 (rTo v j)) ∧ Hid (Below w.heap.size w wr)) (fun _ i _ => (intOf i + 1).toNat)
  case atStart => exact ⟨0, v, 7, by omega, Lib.hid (by simp), hv, rfl, rfl, rfl, HO1, HB1⟩
  case round =>
    clear HO1 HB1
    obtain ⟨j, X, I, hj, HX, hXl, rfl, hI, rfl, HO, HB⟩ := hrel
    by_cases hlt : j < 8
    case neg =>
      obtain rfl : j = 8 := by omega
      have hd2 : decide ((0 : Int) ≤ I) = false := decide_eq_false (by omega)
      clear hI
      have HP : Hid (BytesPost2 5 (risB v) 0 w (.returned (.tuple #[.slice (some ⟨g, 0, none⟩) 8 8, .int .i64 0])) wr) := Lib.hid (by
        have h := HO.out
        unfold OwnB at h
        rw [rTo_len] at h
        rw [HG.out] at h ⊢
        exact bytes_post2 (n := 8) h HB.out)
      go_wp2
      go_ret2
      exact HP.out
    obtain ⟨D, rfl⟩ : ∃ D : Nat, I = (D : Int) := ⟨I.toNat, by omega⟩
    have hD : D = 7 - j := by omega
    have hDl : D < 8 := by omega
    have HD := Lib.hid hD
    clear hI hD
    obtain ⟨x, hx⟩ : ∃ x, (rTo v j)[D]? = some x := ⟨_, List.getElem?_eq_getElem (by rw [rTo_len]; exact hDl)⟩
    have hcx : wr.cell? ⟨g, D, none⟩ = some (.int .u8 (x.toNat : Int)) := (World.ownsRow.cellAt HO.out D (by rw [rTo_len]; omega)).trans (u8s_at hx)
    have hfr : wr.frozen? ⟨g, D, none⟩ = false := World.ownsRow.frozenAt HO.out _
    have hst := World.ownsRow.stored HO.out D (u8v (UInt8.ofNat X))
    rw [u8s_set', HX.out, HD.out, ← rTo_succ v j hlt, ← HX.out, ← HD.out, u8v_mod] at hst
    have HST := Lib.hid hst
    clear hst hx
    go_wp2
    have HB2 := Lib.hid (HB.out.grown HST.out.2 HB.out.size (fun b e => by injection e with e; rw [← e, HG.out]; exact Nat.le_refl _))
    have HO2 := Lib.hid (show OwnB 5 g _ (some ⟨g, 0, none⟩) 8 (rTo v (j + 1)) from by
      have := HST.out.1
      unfold OwnB
      rw [rTo_len] at this ⊢
      exact this)
    have HX2 : Hid (X / 256 = v / 256 ^ (j + 1)) := Lib.hid (by rw [HX.out, Nat.pow_succ, Nat.div_div_eq_div_mul])
    go_roundw
    case rel => exact ⟨j + 1, X / 256, (D : Int) - 1, by omega, HX2, by omega, rfl, by have := HD.out; omega, rfl, HO2, HB2⟩
    case measure => simp [intOf]
set_option maxRecDepth 100000 in
theorem falling_any (v : Nat) (w : World) (hv : v < 9223372036854775808) : Calls Tryz.prog 91 #[.int .i64 v] w (BytesPost2 5 (risB (9223372036854775807 - v)) 0 w) := by
  have hd : decide ((v : Int) < 0) = false := decide_eq_false (by omega)
  have HC : Hid (∀ z : Int, z = 9223372036854775807 - (v : Int) → ∀ w, Calls Tryz.prog 98 #[.int .i64 z] w (BytesPost2 5 (risB (9223372036854775807 - v)) 0 w)) := Lib.hid fun z hz w => by
    rw [show z = ((9223372036854775807 - v : Nat) : Int) from by omega]
    exact rising_any _ w (by omega)
  have k1 : IntKind.i64.wrap (9223372036854775807 - (v : Int)) = 9223372036854775807 - (v : Int) := i64_sum (by omega) (by omega)
  go_enter Tryz.func91, Tryz.ntmps91
  go_wp2_with (go_at_call 98; go_must (refine (HC.out _ (by omega) _).mono ?_); rintro e w1 ⟨A1, c1, rfl, hO1, hb1⟩)
  go_ret2
  exact ⟨A1, c1, rfl, hO1, hb1⟩
end Go.Proofs.YtmigjipfomfacaaGreatDoor
