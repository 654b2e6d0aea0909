/-
  Laid together by merge.py: Crc, Kit, Bytes, WireP, WireP2, WireP6, WireP7, WireP8, WireP9, CellP, CellP2, BlockP, BlockP2, BlockP3, BlockP4, BlockP5, BlockP6, Kit2, Kit3, Kit4, WireW1, WireW2, CellW1, Kit12, CellW2, Kit5.
-/
import Derived.WalkKit
import Derived.WalkSpells
import Derived.WalkLawsBesides
import Derived.Deep.AppendLies
import Derived.Deep.Draws
import Derived.Maps.AppendAt
import Derived.Lib.Hide
import Derived.Deep.QuietTactic
import Derived.BigQuiet
import Derived.Laws.CopyOwn
import Derived.Laws.BitsAllLaws
import Derived.Laws.IdiomStrings
import Derived.Test.YtdaoinhkagmbdaaRows
import Derived.Deep.RegionWith
import Derived.Deep.RegionLaw
import Derived.Lib.BytesEntry
import Derived.Lib.Bytealg
import Derived.Laws.Externs
import Derived.Laws.EntriesVeiled
namespace Go.Proofs.Ytdaoinhkagmbdaa
end Go.Proofs.Ytdaoinhkagmbdaa
namespace Go.Proofs.Ytdaoinhkagmbdaa
open Go.RowKit
theorem ret_int {k : IntKind} {a b : Int} (h : a = b) : Ending.returned (.int k a) = .returned (.int k b) := by rw [h]
def Reads (w : World) (B size : Nat) (A : Option Addr) (n : Nat) (xs : List Value) : Prop :=
  xs.length = n * size ∧ (0 < n → ∃ b o, A = some ⟨b, o, none⟩ ∧ b < B ∧ ∀ j u, xs[j]? = some u → w.cell? ⟨b, o + j, none⟩ = some u)
section
variable {w w' : World} {B B' size n : Nat} {A : Option Addr} {xs : List Value}
theorem Reads.nil : Reads w B size A 0 [] := ⟨by simp, fun h => absurd h (by omega)⟩
theorem Reads.keep (h : Reads w B size A n xs) (hk : ∀ p : Addr, p.block < B → w'.cell? p = w.cell? p) : Reads w' B size A n xs :=
  ⟨h.1, fun hn => by
    obtain ⟨b, o, e, hb, hc⟩ := h.2 hn
    exact ⟨b, o, e, hb, fun j u hu => (hk _ hb).trans (hc j u hu)⟩⟩
theorem Reads.more (h : Reads w B size A n xs) (hB : B ≤ B') : Reads w B' size A n xs :=
  ⟨h.1, fun hn => by
    obtain ⟨b, o, e, hb, hc⟩ := h.2 hn
    exact ⟨b, o, e, by omega, hc⟩⟩
theorem Reads.below (h : Reads w B size A n xs) (hb : Below B w w') : Reads w' B size A n xs := h.keep fun _ hp => hb.cell hp
theorem Reads.alloc (h : Reads w B size A n xs) (hB : B ≤ w.heap.size) (o : Obj) : Reads (w.alloc o) B size A n xs := h.keep fun p hp => World.cell?_alloc_lt w o p (by omega)
theorem Reads.drew (h : Reads w B size A n xs) : Reads w.drew B size A n xs := h
theorem Reads.grown (h : Reads w B size A n xs) {row : Option Nat} (hg : w.grownBy w' row) (hB : B ≤ w.heap.size) (hr : ∀ g, row = some g → B ≤ g) : Reads w' B size A n xs :=
  h.keep fun p hp => World.cell?_of_block (hg.block p.block (by omega) (fun e => by have := hr _ e.symm; omega))
theorem Reads.take (h : Reads w B size A n xs) {m : Nat} (hm : m ≤ n) : Reads w B size A m (xs.take (m * size)) :=
  ⟨by rw [List.length_take, h.1, Nat.min_eq_left (Nat.mul_le_mul_right _ hm)], fun h0 => by
    obtain ⟨b, o, e, hb, hc⟩ := h.2 (by omega)
    exact ⟨b, o, e, hb, fun j u hu => hc j u (by rw [List.getElem?_take] at hu; split at hu <;> simp_all)⟩⟩
theorem Reads.new (w : World) (c : Array Value) (t : TypeId) (size n : Nat) (h : c.size = n * size) : Reads (w.alloc (.cells c t)) (w.heap.size + 1) size (some ⟨w.heap.size, 0, none⟩) n c.toList :=
  ⟨by simpa using h, fun _ => ⟨w.heap.size, 0, rfl, by omega, fun j u hu => by simpa using hu⟩⟩
theorem Reads.own {base : Nat} {e : TypeId} {c : Nat} (h : w.ownsRow base e size (.slice A n c) n xs) : Reads w w.heap.size size A n xs := by
  refine ⟨h.1, fun hn => ?_⟩
  rcases h.2 with ⟨hv, h0⟩ | ⟨g, cap, cur, hv, hb, hg, _⟩
  · omega
  · have hA : A = some ⟨g, 0, none⟩ := by injection hv
    subst hA
    refine ⟨g, 0, rfl, (Array.getElem?_eq_some_iff.1 hg).1, fun j u hu => ?_⟩
    have := h.cells (g := g) rfl j u hu
    rw [Nat.zero_add]
    unfold Addr.add at this
    split at this
    · rename_i h0; subst h0; exact this
    · simpa using this
end
structure SliceOf (P : Program) (t e : TypeId) (size bytes : Nat) : Prop where
  slice : P.underlying t = some (.slice e)
  info : ∃ i z, P.info? e = some i ∧ i.zero = some z ∧ i.size = size ∧ i.bytes = bytes ∧ z.cells.size = size
  pos : 0 < size
theorem SliceOf.mk' {P : Program} {t e : TypeId} {size bytes : Nat} {z : Value} (h : P.underlying t = some (.slice e)) (hi : (P.info? e).map (fun i => (i.zero, i.size, i.bytes)) = some (some z, size, bytes)) (hz : z.cells.size = size) (hp : 0 < size) : SliceOf P t e size bytes := by
  obtain ⟨i, h1, h2, h3, h4⟩ := info_parts hi
  exact ⟨h, ⟨i, z, h1, h2, h3, h4, hz⟩, hp⟩
section
variable {P : Program} (w : World)
theorem run_append_of_nil (base : Nat) (t ty e : TypeId) (i : TypeInfo) (size : Nat) (ht : P.underlying t = some (.slice e)) (hi : P.info? e = some i)
    (v : Value) (n : Nat) (xs : List Value) (hown : w.ownsRow base e size v n xs) (c : Nat) : (Builtin.append_ #[t, t] ty #[v, .slice none 0 c]).run P w = .ok v w := by
  rcases hown.2 with ⟨rfl, rfl⟩ | ⟨g, cap, cur, rfl, _, _, hnc, _⟩
  · simp [Builtin.append_, run_underlying ht, sizeOf, typeInfo, hi, Builtin.lenOf, Builtin.firstCells]
  · simp [Builtin.append_, run_underlying ht, sizeOf, typeInfo, hi, Builtin.lenOf, Builtin.firstCells, hnc, storeCells]
theorem run_append_reads {t ty e : TypeId} {size bytes : Nat} (hs : SliceOf P t e size bytes) (base : Nat) (v : Value) (n : Nat) (xs : List Value) (hown : w.ownsRow base e size v n xs)
    (B : Nat) (A : Option Addr) (m c : Nat) (news : List Value) (hr : Reads w B size A m news) (h1 : ∀ u ∈ news, u.oneCell' = true)
    (h63 : n + m ≤ maxLen) (hbytes : (n + m) * bytes ≤ 140737488355328) (hbase : base ≤ w.heap.size) :
    ∃ v' w', (Builtin.append_ #[t, t] ty #[v, .slice A m c]).run P w = .ok v' w' ∧ w'.ownsRow base e size v' (n + m) (xs ++ news) ∧ w.grownBy w' v.ownBlock ∧
      (v'.ownBlock = v.ownBlock ∨ v'.ownBlock = some w.heap.size) := by
  obtain ⟨ht, ⟨i, z, hi, hz, hsize, hby, hzs⟩, hsz⟩ := hs
  rcases A with _ | ad
  · have hm : m = 0 := by
      rcases Nat.eq_zero_or_pos m with h0 | h0
      · exact h0
      · obtain ⟨b, o, h, _⟩ := hr.2 h0
        cases h
    subst hm
    have hn : news = [] := List.eq_nil_of_length_eq_zero (by simpa using hr.1)
    subst hn
    exact ⟨v, w, run_append_of_nil w base t ty e i size ht hi v n xs hown c, by simpa using hown, World.grownBy.refl w _, .inl rfl⟩
  · have hcells : ∀ j u, news[j]? = some u → w.cell? (ad.add j) = some u := by
      intro j u hu
      rcases Nat.eq_zero_or_pos m with h0 | h0
      · subst h0
        have hn : news = [] := List.eq_nil_of_length_eq_zero (by simpa using hr.1)
        subst hn
        simp at hu
      · obtain ⟨b, o, h, _, hc⟩ := hr.2 h0
        injection h with h
        subst h
        have := hc j u hu
        unfold Addr.add
        split
        · rename_i h0; subst h0; exact this
        · exact this
    obtain ⟨v', w', hrun, h2, h3, _, h5⟩ := run_append_own_at (P := P) w base t ty e i z size bytes ht hi hz hsize hby hzs hsz v n xs hown ad m c news hr.1 hcells h1 h63 hbytes hbase
    exact ⟨v', w', hrun, h2, h3, h5⟩
theorem wp_append_reads {o : Oper} {a : Act} {K : Act → World → Prop} {Q : Exit → Act → World → Prop} (s x : Operand) {t e : TypeId} {size bytes : Nat}
    (ho : o.op = .call { callee := .builtin .append, args := #[s, x], argTypes := #[t, t] }) (hS : SliceOf P t e size bytes)
    (base : Nat) (v : Value) (n : Nat) (xs : List Value) (hs : a.eval s = v) (hown : w.ownsRow base e size v n xs)
    (B : Nat) (A : Option Addr) (m c : Nat) (news : List Value) (hx : a.eval x = .slice A m c) (hr : Reads w B size A m news) (h1 : ∀ u ∈ news, u.oneCell' = true)
    (h63 : n + m ≤ maxLen) (hbytes : (n + m) * bytes ≤ 140737488355328) (hbase : base ≤ w.heap.size)
    (h : ∀ v' w', w'.ownsRow base e size v' (n + m) (xs ++ news) → w.grownBy w' v.ownBlock → (v'.ownBlock = v.ownBlock ∨ v'.ownBlock = some w.heap.size) → K (a.put o.dst v') w') : o.wp P a w K Q := by
  obtain ⟨v', w', hrun, h2, h3, h4⟩ := run_append_reads (P := P) w (ty := o.type) hS base v n xs hown B A m c news hr h1 h63 hbytes hbase
  unfold Oper.wp execOp
  simp only [ho, resolve, invoke, builtin, Sem.run_bind, Sem.run_pure, Result.andThen_ok, List.map_toArray, List.map_cons, List.map_nil, hs, hx, hrun]
  exact h v' w' h2 h3 h4
theorem wpList_append_reads {ops : Array Oper} {rest : List Oper} {o : Oper} {a : Act} {Q : Exit → Act → World → Prop} (hgd : o.guard = none) (s x : Operand) {t e : TypeId} {size bytes : Nat}
    (ho : o.op = .call { callee := .builtin .append, args := #[s, x], argTypes := #[t, t] }) (hS : SliceOf P t e size bytes)
    (base : Nat) (v : Value) (n : Nat) (xs : List Value) (hs : a.eval s = v) (hown : w.ownsRow base e size v n xs)
    (B : Nat) (A : Option Addr) (m c : Nat) (news : List Value) (hx : a.eval x = .slice A m c) (hr : Reads w B size A m news) (h1 : ∀ u ∈ news, u.oneCell' = true)
    (h63 : n + m ≤ maxLen) (hbytes : (n + m) * bytes ≤ 140737488355328) (hbase : base ≤ w.heap.size)
    (h : ∀ v' w', w'.ownsRow base e size v' (n + m) (xs ++ news) → w.grownBy w' v.ownBlock → (v'.ownBlock = v.ownBlock ∨ v'.ownBlock = some w.heap.size) → wpList P ops Q rest (a.put o.dst v') w') : wpList P ops Q (o :: rest) a w :=
  wpList_plain hgd fun _ hK => wp_append_reads w s x ho hS base v n xs hs hown B A m c news hx hr h1 h63 hbytes hbase fun v' w' h2 h3 h4 => hK _ _ (h v' w' h2 h3 h4)
end
theorem own_form {w : World} {base e size n : Nat} {v : Value} {xs : List Value} (h : w.ownsRow base e size v n xs) (hn : 0 < n) :
    ∃ g cap, v = .slice (some ⟨g, 0, none⟩) n cap ∧ base ≤ g ∧ g < w.heap.size ∧ n ≤ cap ∧ cap ≤ maxLen := by
  rcases h.2 with ⟨_, h0⟩ | ⟨g, cap, cur, hv, hb, hg, hc, hm, _⟩
  · omega
  · exact ⟨g, cap, hv, hb, (Array.getElem?_eq_some_iff.1 hg).1, hc, hm⟩
theorem below_app {B : Nat} {a w w' : World} {v : Value} {e size n base : Nat} {xs : List Value} (h : Below B a w) (hown : w.ownsRow base e size v n xs) (hg : w.grownBy w' v.ownBlock) (hB : B ≤ w.heap.size) (hb : B ≤ base) : Below B a w' :=
  h.grown hg hB fun k hk => Nat.le_trans hb (hown.lt k hk).1
theorem grown_trans {a b c : World} {r : Option Nat} (h : a.grownBy b r) (k : b.grownBy c r) : a.grownBy c r :=
  ⟨k.os.trans h.os, k.tape.trans h.tape, k.output.trans h.output, Nat.le_trans h.size k.size, fun i hi hr => (k.block i (Nat.lt_of_lt_of_le hi h.size) hr).trans (h.block i hi hr)⟩
theorem below_grown {a b : World} (h : Below a.heap.size a b) (r : Option Nat) : a.grownBy b r := ⟨h.os, h.tape, h.output, h.size, fun i hi _ => h.block i hi⟩
theorem own_below {w w' : World} {base e size n : Nat} {v : Value} {xs : List Value} (h : w.ownsRow base e size v n xs) (hb : Below w.heap.size w w') : w'.ownsRow base e size v n xs := by
  refine h.kept (below_grown hb none) ?_
  cases hv : v.ownBlock <;> simp
structure Later (W : World) where
  w : World
  h : Below W.heap.size W w
def Later.now (W : World) : Later W := ⟨W, Below.refl _ _⟩
instance (W : World) : Nonempty (Later W) := ⟨Later.now W⟩
def Later.then {W : World} (L : Later W) {w' : World} (h : Below L.w.heap.size L.w w') : Later W := ⟨w', L.h.trans (h.mono L.h.size)⟩
theorem Later.cell {W : World} (L : Later W) {p : Addr} (v : Value) (h : W.cell? p = some v) : L.w.cell? p = some v :=
  (L.h.cell (World.block_lt_of_cell? W p h)).trans h
theorem cell_alloc_old {w : World} {p : Addr} {v : Value} {o : Obj} (h : w.cell? p = some v) : (w.alloc o).cell? p = some v :=
  (World.cell?_alloc_lt w o p (World.block_lt_of_cell? w p h)).trans h
theorem cell_below {w w' : World} {p : Addr} {v : Value} (hb : Below w.heap.size w w') (h : w.cell? p = some v) : w'.cell? p = some v :=
  (hb.cell (World.block_lt_of_cell? w p h)).trans h
section
variable {P : Program}
end
end Go.Proofs.Ytdaoinhkagmbdaa
namespace Go.Proofs.Ytdaoinhkagmbdaa
open Go.RowKit
def u8v (c : UInt8) : Value := .int .u8 (c.toNat : Int)
def u8s (l : List UInt8) : List Value := l.map u8v
theorem u8s_length (l : List UInt8) : (u8s l).length = l.length := by simp [u8s]
theorem u8s_append (a b : List UInt8) : u8s (a ++ b) = u8s a ++ u8s b := by simp [u8s]
theorem u8s_one (l : List UInt8) : ∀ u ∈ u8s l, u.oneCell' = true := by
  intro u hu
  obtain ⟨c, _, rfl⟩ := List.mem_map.1 hu
  rfl
theorem u8s_at {l : List UInt8} {k : Nat} {c : UInt8} (h : l[k]? = some c) : (u8s l)[k]? = some (.int .u8 (c.toNat : Int)) := by
  simp [u8s, h, u8v]
def RB (w : World) (B : Nat) (A : Option Addr) (n : Nat) (l : List UInt8) : Prop := Reads w B 1 A n (u8s l)
section
variable {w w' : World} {B B' n : Nat} {A : Option Addr} {l : List UInt8}
theorem RB.len (h : RB w B A n l) : l.length = n := by have := h.1; rw [u8s_length, Nat.mul_one] at this; exact this
theorem RB.mk' (hn : l.length = n) (h : 0 < n → ∃ b o, A = some ⟨b, o, none⟩ ∧ b < B ∧ ∀ j c, l[j]? = some c → w.cell? ⟨b, o + j, none⟩ = some (.int .u8 (c.toNat : Int))) : RB w B A n l :=
  ⟨by rw [u8s_length, Nat.mul_one]; exact hn, fun h0 => by
    obtain ⟨b, o, e, hb, hc⟩ := h h0
    refine ⟨b, o, e, hb, fun j u hu => ?_⟩
    simp only [u8s, List.getElem?_map, Option.map_eq_some_iff] at hu
    obtain ⟨c, hj, rfl⟩ := hu
    exact hc j c hj⟩
theorem RB.nil : RB w B A 0 [] := Reads.nil
theorem RB.at_ (h : RB w B A n l) {k : Nat} (hk : k < n) : ∃ b o c, A = some ⟨b, o, none⟩ ∧ b < B ∧ l[k]? = some c ∧ w.cell? ⟨b, o + k, none⟩ = some (.int .u8 (c.toNat : Int)) := by
  obtain ⟨b, o, e, hb, hc⟩ := h.2 (by omega)
  have hl := h.len
  have hk' : l[k]? = some (l[k]'(by omega)) := List.getElem?_eq_getElem (by omega)
  exact ⟨b, o, _, e, hb, hk', hc k _ (u8s_at hk')⟩
theorem RB.cell {b o : Nat} (h : RB w B (some ⟨b, o, none⟩) n l) {k : Nat} {c : UInt8} (hc : l[k]? = some c) : w.cell? ⟨b, o + k, none⟩ = some (.int .u8 (c.toNat : Int)) := by
  have hk : k < l.length := (List.getElem?_eq_some_iff.1 hc).1
  obtain ⟨b', o', e, _, h'⟩ := h.2 (by have := h.len; omega)
  injection e with e; injection e with e1 e2
  subst e1; subst e2
  exact h' k _ (u8s_at hc)
theorem RB.more (h : RB w B A n l) (hB : B ≤ B') : RB w B' A n l := Reads.more h hB
theorem RB.below (h : RB w B A n l) (hb : Below B w w') : RB w' B A n l := Reads.below h hb
theorem RB.later (h : RB w w.heap.size A n l) (hb : Below w.heap.size w w') : RB w' w'.heap.size A n l := (h.below hb).more hb.size
theorem RB.own {base : Nat} {e : TypeId} {c : Nat} (h : w.ownsRow base e 1 (.slice A n c) n (u8s l)) : RB w w.heap.size A n l := Reads.own h
theorem RB.take (h : RB w B A n l) {m : Nat} (hm : m ≤ n) : RB w B A m (l.take m) := by
  have := Reads.take h hm
  rwa [Nat.mul_one, show (u8s l).take m = u8s (l.take m) from by simp [u8s]] at this
theorem RB.drop (h : RB w B A n l) {k cap : Nat} (hk : k ≤ n) (hc : n ≤ cap) : RB w B (if cap = k then A else A.map (·.add k)) (n - k) (l.drop k) := by
  refine RB.mk' (by rw [List.length_drop, h.len]) fun hn => ?_
  obtain ⟨b, o, rfl, hb, hcell⟩ := h.2 (by omega)
  rw [if_neg (by omega)]
  refine ⟨b, o + k, ?_, hb, fun j c hj => ?_⟩
  · simp only [Option.map_some]
    unfold Addr.add
    split
    · rename_i h0; subst h0; rfl
    · rfl
  · rw [Nat.add_assoc]
    rw [List.getElem?_drop] at hj
    exact hcell _ _ (u8s_at hj)
end
theorem take_snoc {α : Type} {l : List α} {k : Nat} {c : α} (h : l[k]? = some c) : l.take (k + 1) = l.take k ++ [c] := by
  obtain ⟨hk, e⟩ := List.getElem?_eq_some_iff.1 h
  rw [List.take_succ_eq_append_getElem hk, e]
theorem take_all {α : Type} {l : List α} {k : Nat} (h : l.length ≤ k) : l.take k = l := List.take_of_length_le h
def RBs (w : World) (B : Nat) (A : Option Addr) (n : Nat) (ks : List (List UInt8)) : Prop :=
  ∃ vs : List Value, Reads w B 1 A n vs ∧ vs.length = ks.length ∧ ∀ (i : Nat) (k : List UInt8), ks[i]? = some k → ∃ (a : Option Addr) (c : Nat), vs[i]? = some (.slice a k.length c) ∧ k.length ≤ c ∧ c ≤ 9223372036854775807 ∧ (a = none → c = 0) ∧ RB w B a k.length k
section
variable {w w' : World} {B B' n : Nat} {A : Option Addr} {ks : List (List UInt8)}
theorem RBs.len (h : RBs w B A n ks) : ks.length = n := by obtain ⟨vs, h1, h2, _⟩ := h; have := h1.1; omega
theorem RBs.below (h : RBs w B A n ks) (hb : Below B w w') : RBs w' B A n ks := by
  obtain ⟨vs, h1, h2, h3⟩ := h
  exact ⟨vs, h1.below hb, h2, fun i k hk => by obtain ⟨a, c, q1, q2, q3, q4, q5⟩ := h3 i k hk; exact ⟨a, c, q1, q2, q3, q4, q5.below hb⟩⟩
theorem RBs.more (h : RBs w B A n ks) (hB : B ≤ B') : RBs w B' A n ks := by
  obtain ⟨vs, h1, h2, h3⟩ := h
  exact ⟨vs, h1.more hB, h2, fun i k hk => by obtain ⟨a, c, q1, q2, q3, q4, q5⟩ := h3 i k hk; exact ⟨a, c, q1, q2, q3, q4, q5.more hB⟩⟩
theorem RBs.later (h : RBs w w.heap.size A n ks) (hb : Below w.heap.size w w') : RBs w' w'.heap.size A n ks := (h.below hb).more hb.size
theorem RBs.at_ (h : RBs w B A n ks) {i : Nat} (hi : i < n) : ∃ b o k a c, A = some ⟨b, o, none⟩ ∧ b < B ∧ ks[i]? = some k ∧ w.cell? ⟨b, o + i, none⟩ = some (.slice a k.length c) ∧ k.length ≤ c ∧ c ≤ 9223372036854775807 ∧ (a = none → c = 0) ∧ RB w B a k.length k := by
  have hl := h.len
  obtain ⟨vs, h1, h2, h3⟩ := h
  obtain ⟨b, o, e, hb, hc⟩ := h1.2 (by omega)
  have hk : ks[i]? = some (ks[i]'(by omega)) := List.getElem?_eq_getElem (by omega)
  obtain ⟨a, c, q1, q2, q3, q4, q5⟩ := h3 i _ hk
  exact ⟨b, o, _, a, c, e, hb, hk, hc i _ q1, q2, q3, q4, q5⟩
end
end Go.Proofs.Ytdaoinhkagmbdaa
namespace Go.Proofs.Ytdaoinhkagmbdaa
open Go.RowKit
def tabL : List Nat := [0, 274646895, 549293790, 820201905, 1098587580, 1361435347, 1640403810, 1905808397, 2197175160, 2460548119, 2722870694, 2987750089, 3280807620, 3553878443, 3811616794, 4084100981]
def tabN (i : Nat) : Nat := tabL[i]?.getD 0
theorem u8v_mod (s : Nat) : u8v (UInt8.ofNat s) = .int .u8 ((s : Int) % 256) := by
  unfold u8v
  rw [UInt8.toNat_ofNat', Int.natCast_emod]; rfl
def TabAt (b : Nat) (w : World) : Prop := b < w.heap.size ∧ ∀ i, i < 16 → w.cell? ⟨b, i, none⟩ = some (.int .u32 (tabN i))
theorem TabAt.later {b : Nat} {w w' : World} (h : TabAt b w) (hb : Below w.heap.size w w') : TabAt b w' :=
  ⟨Nat.lt_of_lt_of_le h.1 hb.size, fun i hi => (hb.cell (p := ⟨b, i, none⟩) h.1).trans (h.2 i hi)⟩
theorem TabAt.below {b B : Nat} {w w' : World} (h : TabAt b w) (hB : b < B) (hb : Below B w w') : TabAt b w' :=
  ⟨Nat.lt_of_lt_of_le h.1 hb.size, fun i hi => (hb.cell (p := ⟨b, i, none⟩) hB).trans (h.2 i hi)⟩
end Go.Proofs.Ytdaoinhkagmbdaa
namespace Go.Proofs.Ytdaoinhkagmbdaa
open Go.RowKit
def uintF : Nat → Nat → List UInt8
  | 0, v => [UInt8.ofNat v]
  | k + 1, v => if v < 128 then [UInt8.ofNat v] else UInt8.ofNat (v % 128 + 128) :: uintF k (v / 128)
def uintB (v : Nat) : List UInt8 := uintF v v
theorem uintF_same : ∀ (f g v : Nat), v ≤ f → v ≤ g → uintF f v = uintF g v := by
  intro f
  induction f with
  | zero =>
    intro g v h1 h2
    obtain rfl : v = 0 := by omega
    cases g <;> rfl
  | succ f ih =>
    intro g v h1 h2
    cases g with
    | zero =>
      obtain rfl : v = 0 := by omega
      rfl
    | succ g =>
      simp only [uintF]
      split
      · rfl
      · rw [ih g (v / 128) (by omega) (by omega)]
theorem uintB_lt {v : Nat} (h : v < 128) : uintB v = [UInt8.ofNat v] := by
  unfold uintB
  cases v with
  | zero => rfl
  | succ v => simp only [uintF]; rw [if_pos h]
theorem uintB_ge {v : Nat} (h : 128 ≤ v) : uintB v = UInt8.ofNat (v % 128 + 128) :: uintB (v / 128) := by
  unfold uintB
  cases v with
  | zero => omega
  | succ v =>
    simp only [uintF]
    rw [if_neg (by omega), uintF_same v ((v + 1) / 128) _ (by omega) (Nat.le_refl _)]
theorem uintB_len : ∀ (k v : Nat), v < 128 ^ (k + 1) → (uintB v).length ≤ k + 1 := by
  intro k
  induction k with
  | zero => intro v h; rw [uintB_lt (by simpa using h)]; simp
  | succ k ih =>
    intro v h
    by_cases hv : v < 128
    · rw [uintB_lt hv]; simp
    · rw [uintB_ge (by omega), List.length_cons]
      have := ih (v / 128) (Nat.div_lt_of_lt_mul (by rw [Nat.pow_succ] at h; omega))
      omega
theorem uintB_ten {v : Nat} (h : v < 18446744073709551616) : (uintB v).length ≤ 10 := uintB_len 9 v (Nat.lt_trans h (by decide))
theorem or128_fin : ∀ x : Fin 256, x.val ||| 128 = x.val % 128 + 128 := by decide +kernel
theorem or128_walk (V : Nat) : bits .or .u8 ((V : Int) % 256) 128 = (V : Int) % 128 + 128 := by
  rw [show (V : Int) % 256 = ((V % 256 : Nat) : Int) from by omega, show (128 : Int) = ((128 : Nat) : Int) from rfl, u8_or_nat _ _ (by omega) (by omega), or128_fin ⟨V % 256, by omega⟩]
  show ((V % 256 % 128 + 128 : Nat) : Int) = _
  omega
theorem u8v_or (V : Nat) : u8v (UInt8.ofNat (V % 128 + 128)) = .int .u8 ((V : Int) % 128 + 128) := by
  unfold u8v
  rw [UInt8.toNat_ofNat', Nat.mod_eq_of_lt (by omega)]; congr 1
end Go.Proofs.Ytdaoinhkagmbdaa
namespace Go.Proofs.Ytdaoinhkagmbdaa
open Go.RowKit
end Go.Proofs.Ytdaoinhkagmbdaa
namespace Go.Proofs.Ytdaoinhkagmbdaa
open Go.RowKit
def cmpB : List UInt8 → List UInt8 → Int
  | [], [] => 0
  | [], _ :: _ => -1
  | _ :: _, [] => 1
  | x :: a, y :: b => if x.toNat < y.toNat then -1 else if y.toNat < x.toNat then 1 else cmpB a b
theorem cmpB_drop (a b : List UInt8) : ∀ k, a.take k = b.take k → cmpB (a.drop k) (b.drop k) = cmpB a b := by
  intro k
  induction k generalizing a b with
  | zero => intro _; rfl
  | succ k ih =>
    intro h
    cases a with
    | nil =>
      cases b with
      | nil => rfl
      | cons y b => simp at h
    | cons x a =>
      cases b with
      | nil => simp at h
      | cons y b =>
        simp only [List.take_succ_cons, List.cons.injEq] at h
        obtain ⟨rfl, h⟩ := h
        rw [List.drop_succ_cons, List.drop_succ_cons, ih a b h]
        conv => rhs; unfold cmpB
        rw [if_neg (by omega), if_neg (by omega)]
def ordC (c : UInt8) : List UInt8 := if c.toNat = 0 then [0, 255] else [c]
def ordB (l : List UInt8) : List UInt8 := l.flatMap ordC ++ [0, 1]
theorem ordC_len (c : UInt8) : (ordC c).length ≤ 2 ∧ 1 ≤ (ordC c).length := by unfold ordC; split <;> simp
theorem ordF_len (l : List UInt8) : (l.flatMap ordC).length ≤ 2 * l.length := by
  induction l with
  | nil => simp
  | cons c l ih => rw [List.flatMap_cons, List.length_append, List.length_cons]; have := ordC_len c; omega
theorem ordB_len (l : List UInt8) : (ordB l).length ≤ 2 * l.length + 2 := by unfold ordB; rw [List.length_append, show ([0, 1] : List UInt8).length = 2 from rfl]; have := ordF_len l; omega
theorem cmpB_skip (x : UInt8) (a b : List UInt8) : cmpB (x :: a) (x :: b) = cmpB a b := by
  conv => lhs; unfold cmpB
  rw [if_neg (by omega), if_neg (by omega)]
theorem cmpB_lt {x y : UInt8} (h : x.toNat < y.toNat) (a b : List UInt8) : cmpB (x :: a) (y :: b) = -1 := by
  unfold cmpB; rw [if_pos h]
theorem cmpB_gt {x y : UInt8} (h : y.toNat < x.toNat) (a b : List UInt8) : cmpB (x :: a) (y :: b) = 1 := by
  unfold cmpB; rw [if_neg (by omega), if_pos h]
theorem cmpB_swap (a : List UInt8) : ∀ b, cmpB b a = - cmpB a b := by
  induction a with
  | nil => intro b; cases b <;> rfl
  | cons x a ih =>
    intro b
    cases b with
    | nil => rfl
    | cons y b =>
      rcases Nat.lt_trichotomy x.toNat y.toNat with h | h | h
      · rw [cmpB_lt h, cmpB_gt h]; rfl
      · obtain rfl := UInt8.toNat_inj.1 h
        rw [cmpB_skip, cmpB_skip, ih]
      · rw [cmpB_gt h, cmpB_lt h]
def rTo (v j : Nat) : List UInt8 := (List.range 8).map fun t => if 8 - j ≤ t then UInt8.ofNat (v / 256 ^ (7 - t)) else 0
def risB (v : Nat) : List UInt8 := rTo v 8
theorem rTo_len (v j : Nat) : (rTo v j).length = 8 := by simp [rTo]
theorem rTo_succ (v j : Nat) (hj : j < 8) : rTo v (j + 1) = (rTo v j).set (7 - j) (UInt8.ofNat (v / 256 ^ j)) := by
  apply List.ext_getElem?
  intro t
  rw [List.getElem?_set]
  unfold rTo
  by_cases ht : t < 8
  · rw [List.getElem?_map, List.getElem?_range ht, List.getElem?_map, List.getElem?_range ht]
    simp only [Option.map_some, List.length_map, List.length_range]
    by_cases e : 7 - j = t
    · rw [if_pos e, if_pos (by omega), if_pos (by omega), show 7 - t = j from by omega]
    · rw [if_neg e]
      by_cases h : 8 - j ≤ t
      · rw [if_pos h, if_pos (by omega)]
      · rw [if_neg h, if_neg (by omega)]
  · rw [List.getElem?_eq_none (by simp; omega), if_neg (by omega), List.getElem?_eq_none (by simp; omega)]
end Go.Proofs.Ytdaoinhkagmbdaa
namespace Go.Proofs.Ytdaoinhkagmbdaa
open Go.RowKit
end Go.Proofs.Ytdaoinhkagmbdaa
namespace Go.Proofs.Ytdaoinhkagmbdaa
open Go.RowKit
end Go.Proofs.Ytdaoinhkagmbdaa
namespace Go.Proofs.Ytdaoinhkagmbdaa
open Go.RowKit
structure Ent where
  row : List UInt8
  fam : Int
  qual : List UInt8
  ts : Int
  seq : Int
  kind : Int
  val : List UInt8
def checkN (r : Nat) (f : Int) (q : Nat) (t s k : Int) (v : Nat) : Int :=
  if r < 1 ∨ 256 < r then 20 else if f < 0 ∨ 7 < f then 21 else if 256 < q ∨ (k = 5 ∧ 0 < q) then 22 else if t < 1 ∨ 1099511627776 < t then 23
  else if s < 0 ∨ 17592186044431 < s then 24 else if k < 1 ∨ 5 < k then 25 else if 4096 < v ∨ (k ≠ 1 ∧ 0 < v) then 26 else 0
def checkE (e : Ent) : Int := checkN e.row.length e.fam e.qual.length e.ts e.seq e.kind e.val.length
structure OkE (e : Ent) : Prop where
  row : 1 ≤ e.row.length ∧ e.row.length ≤ 256
  fam : 0 ≤ e.fam ∧ e.fam ≤ 7
  qual : e.qual.length ≤ 256 ∧ (e.kind = 5 → e.qual = [])
  ts : 1 ≤ e.ts ∧ e.ts ≤ 1099511627776
  seq : 0 ≤ e.seq ∧ e.seq ≤ 17592186044431
  kind : 1 ≤ e.kind ∧ e.kind ≤ 5
  val : e.val.length ≤ 4096 ∧ (e.kind ≠ 1 → e.val = [])
theorem checkN_ok {r : Nat} {f : Int} {q : Nat} {t s k : Int} {v : Nat} (h : checkN r f q t s k v = 0) :
    ¬ (r < 1 ∨ 256 < r) ∧ ¬ (f < 0 ∨ 7 < f) ∧ ¬ (256 < q ∨ (k = 5 ∧ 0 < q)) ∧ ¬ (t < 1 ∨ 1099511627776 < t) ∧ ¬ (s < 0 ∨ 17592186044431 < s) ∧ ¬ (k < 1 ∨ 5 < k) ∧ ¬ (4096 < v ∨ (k ≠ 1 ∧ 0 < v)) := by
  unfold checkN at h
  repeat' split at h
  all_goals first | exact absurd h (by decide) | exact ⟨by assumption, by assumption, by assumption, by assumption, by assumption, by assumption, by assumption⟩
theorem ok_of {e : Ent} (h : checkE e = 0) : OkE e := by
  obtain ⟨h1, h2, h3, h4, h5, h6, h7⟩ := checkN_ok h
  refine ⟨by omega, by omega, ⟨by omega, fun hk => List.eq_nil_of_length_eq_zero ?_⟩, by omega, by omega, by omega, ⟨by omega, fun hk => List.eq_nil_of_length_eq_zero ?_⟩⟩
  · have := fun hp => h3 (.inr ⟨hk, hp⟩); omega
  · have := fun hp => h7 (.inr ⟨hk, hp⟩); omega
def seqC (a b : Int) : Int := if a = 0 then b else a
def cmpI (a b : Int) : Int := if a < b then -1 else if b < a then 1 else 0
def firstI (x y : Bool) : Int := if x = y then 0 else if x then -1 else 1
def cmpE (a b : Ent) : Int :=
  seqC (cmpB a.row b.row) (seqC (cmpI a.fam b.fam) (seqC (firstI (a.kind == 5) (b.kind == 5)) (seqC (cmpB a.qual b.qual) (seqC (firstI (a.kind == 4) (b.kind == 4))
    (seqC (cmpI b.ts a.ts) (seqC (cmpI b.seq a.seq) (cmpI a.kind b.kind)))))))
structure Ord3 (c : Ent → Ent → Int) : Prop where
  swap : ∀ a b, c b a = - c a b
  trans : ∀ a b d, c a b ≤ 0 → c b d ≤ 0 → c a d ≤ 0
  eq : ∀ a b d, c a b = 0 → c a d = c b d
theorem Ord3.seq {c1 c2 : Ent → Ent → Int} (h1 : Ord3 c1) (h2 : Ord3 c2) : Ord3 fun a b => seqC (c1 a b) (c2 a b) := by
  refine ⟨fun a b => ?_, fun a b d hab hbd => ?_, fun a b d hab => ?_⟩
  · have e1 := h1.swap a b; have e2 := h2.swap a b
    simp only [seqC, e1, e2]
    split <;> split <;> omega
  · simp only [seqC] at hab hbd ⊢
    have q1 : c1 a b ≤ 0 := by split at hab <;> omega
    have q2 : c1 b d ≤ 0 := by split at hbd <;> omega
    have q3 := h1.trans a b d q1 q2
    by_cases h0 : c1 a d = 0
    · have e1 := h1.eq a d b h0
      have e2 := h1.swap b d
      have z1 : c1 a b = 0 := by omega
      have z2 : c1 b d = 0 := by omega
      rw [if_pos z1] at hab
      rw [if_pos z2] at hbd
      rw [if_pos h0]
      exact h2.trans a b d hab hbd
    · rw [if_neg h0]; exact q3
  · simp only [seqC] at hab ⊢
    have z1 : c1 a b = 0 := by split at hab <;> omega
    rw [if_pos z1] at hab
    rw [h1.eq a b d z1, h2.eq a b d hab]
theorem cmpB_zero : ∀ a b : List UInt8, cmpB a b = 0 → a = b := by
  intro a
  induction a with
  | nil => intro b h; cases b with
    | nil => rfl
    | cons y b => simp [cmpB] at h
  | cons x a ih =>
    intro b h
    cases b with
    | nil => simp [cmpB] at h
    | cons y b =>
      unfold cmpB at h
      split at h
      · exact absurd h (by decide)
      · split at h
        · exact absurd h (by decide)
        · rw [ih b h, show x = y from UInt8.toNat_inj.1 (by omega)]
theorem cmpB_trans : ∀ a b d : List UInt8, cmpB a b ≤ 0 → cmpB b d ≤ 0 → cmpB a d ≤ 0 := by
  intro a
  induction a with
  | nil => intro b d _ _; cases d <;> simp [cmpB]
  | cons x a ih =>
    intro b d h1 h2
    cases b with
    | nil => simp [cmpB] at h1
    | cons y b =>
      cases d with
      | nil => simp [cmpB] at h2
      | cons z d =>
        unfold cmpB at h1 h2 ⊢
        split at h1
        · split at h2
          · rw [if_pos (by omega)]; decide
          · split at h2
            · exact absurd h2 (by decide)
            · rw [if_pos (by omega)]; decide
        · split at h1
          · exact absurd h1 (by decide)
          · split at h2
            · rw [if_pos (by omega)]; decide
            · split at h2
              · exact absurd h2 (by decide)
              · rw [if_neg (by omega), if_neg (by omega)]; exact ih b d h1 h2
theorem ord_bytes (f : Ent → List UInt8) : Ord3 fun a b => cmpB (f a) (f b) :=
  ⟨fun a b => cmpB_swap _ _, fun a b d h1 h2 => cmpB_trans _ _ _ h1 h2, fun a b d h => by show cmpB (f a) (f d) = cmpB (f b) (f d); rw [cmpB_zero _ _ h]⟩
theorem ord_int (f : Ent → Int) : Ord3 fun a b => cmpI (f a) (f b) :=
  ⟨fun a b => by simp only [cmpI]; (repeat' split) <;> omega, fun a b d h1 h2 => by simp only [cmpI] at *; (repeat' split) <;> (repeat' split at h1) <;> (repeat' split at h2) <;> omega,
    fun a b d h => by simp only [cmpI] at *; (repeat' split) <;> (repeat' split at h) <;> omega⟩
theorem ord_tni (f : Ent → Int) : Ord3 fun a b => cmpI (f b) (f a) :=
  ⟨fun a b => by simp only [cmpI]; (repeat' split) <;> omega, fun a b d h1 h2 => by simp only [cmpI] at *; (repeat' split) <;> (repeat' split at h1) <;> (repeat' split at h2) <;> omega,
    fun a b d h => by simp only [cmpI] at *; (repeat' split) <;> (repeat' split at h) <;> omega⟩
theorem ord_first (f : Ent → Bool) : Ord3 fun a b => firstI (f a) (f b) :=
  ⟨fun a b => by cases f a <;> cases f b <;> decide, fun a b d => by cases f a <;> cases f b <;> cases f d <;> decide, fun a b d => by cases f a <;> cases f b <;> cases f d <;> decide⟩
theorem ord_E : Ord3 cmpE :=
  (ord_bytes Ent.row).seq ((ord_int Ent.fam).seq ((ord_first fun e => e.kind == 5).seq ((ord_bytes Ent.qual).seq ((ord_first fun e => e.kind == 4).seq
    ((ord_tni Ent.ts).seq ((ord_tni Ent.seq).seq (ord_int Ent.kind)))))))
def flg (b : Bool) : UInt8 := if b then 0 else 1
def numK (t : Int) : List UInt8 := risB (9223372036854775807 - t.toNat)
def qualK (e : Ent) : List UInt8 := if e.kind = 5 then [] else ordB e.qual ++ [flg (e.kind == 4)]
def tailK (e : Ent) : List UInt8 := numK e.ts ++ (numK e.seq ++ [UInt8.ofNat e.kind.toNat])
def keyE (e : Ent) : List UInt8 := ordB e.row ++ (UInt8.ofNat e.fam.toNat :: flg (e.kind == 5) :: (qualK e ++ tailK e))
theorem risB_len (v : Nat) : (risB v).length = 8 := rTo_len v 8
theorem cmpB_cc (c d : UInt8) (x y : List UInt8) : cmpB (c :: x) (d :: y) = if c.toNat < d.toNat then -1 else if d.toNat < c.toNat then 1 else cmpB x y := by rw [cmpB]
theorem numK_len (t : Int) : (numK t).length = 8 := risB_len _
theorem tailK_len (e : Ent) : (tailK e).length = 17 := by unfold tailK; simp [numK_len]
theorem qualK_len (e : Ent) : (qualK e).length ≤ 2 * e.qual.length + 3 := by
  unfold qualK
  split
  · simp
  · have := ordB_len e.qual; simp; omega
theorem keyE_len {e : Ent} (h : OkE e) : (keyE e).length ≤ 1048 := by
  have h1 := ordB_len e.row; have h2 := qualK_len e; have h3 := tailK_len e; have h4 := h.row; have h5 := h.qual.1
  unfold keyE
  simp only [List.length_append, List.length_cons]
  omega
def KeyE (e : Ent) : List UInt8 × Int := if checkE e = 0 then (keyE e, 0) else ([], checkE e)
end Go.Proofs.Ytdaoinhkagmbdaa
namespace Go.Proofs.Ytdaoinhkagmbdaa
open Go.RowKit
def packB (e : Ent) : List UInt8 := (uintB (keyE e).length ++ keyE e) ++ (uintB e.val.length ++ e.val)
def PackE (e : Ent) : List UInt8 × Int := if checkE e = 0 then (packB e, 0) else ([], checkE e)
end Go.Proofs.Ytdaoinhkagmbdaa
namespace Go.Proofs.Ytdaoinhkagmbdaa
end Go.Proofs.Ytdaoinhkagmbdaa
namespace Go.Proofs.Ytdaoinhkagmbdaa
end Go.Proofs.Ytdaoinhkagmbdaa
namespace Go.Proofs.Ytdaoinhkagmbdaa
section
variable {b key k2 v : List UInt8} {a u p1 e1 p2 e2 p3 e3 : Nat} {e : Ent} {f : Int}
end
end Go.Proofs.Ytdaoinhkagmbdaa
namespace Go.Proofs.Ytdaoinhkagmbdaa
end Go.Proofs.Ytdaoinhkagmbdaa
namespace Go.Proofs.Ytdaoinhkagmbdaa
end Go.Proofs.Ytdaoinhkagmbdaa
namespace Go.Proofs.Ytdaoinhkagmbdaa
def twN {α : Type} (p : α → Bool) (l : List α) : Nat := (l.takeWhile p).length
theorem twN_le {α : Type} (p : α → Bool) (l : List α) : twN p l ≤ l.length := (List.takeWhile_sublist _).length_le
theorem tw_iff {α : Type} {p : α → Bool} : ∀ {l : List α} {j : Nat} {x : α}, l[j]? = some x → j ≤ twN p l → (p x = true ↔ j < twN p l)
  | [], _, _, h, _ => by cases h
  | a :: l, j, x, h, hj => by
    unfold twN at hj ⊢
    rw [List.takeWhile_cons] at hj ⊢
    by_cases ha : p a = true
    · rw [if_pos ha] at hj ⊢
      cases j with
      | zero => injection h with h; subst h; simp [ha]
      | succ j =>
        have := tw_iff (p := p) (l := l) (j := j) (x := x) h (by unfold twN; simpa using hj)
        unfold twN at this
        rw [this, List.length_cons]; omega
    · rw [if_neg ha] at hj ⊢
      have hj : j ≤ 0 := hj
      obtain rfl : j = 0 := by omega
      injection h with h; subst h
      simp [ha]
def insN (m : List Ent) (e : Ent) : Nat := twN (fun x => decide (cmpE x e < 0)) m
def hitB (m : List Ent) (e : Ent) : Bool := match m[insN m e]? with
  | none => false
  | some x => cmpE x e == 0
def insE (m : List Ent) (e : Ent) : List Ent := if hitB m e = true then m else m.take (insN m e) ++ e :: m.drop (insN m e)
theorem ins_len (m : List Ent) (e : Ent) : (insE m e).length ≤ m.length + 1 := by
  unfold insE
  split
  · omega
  · rw [List.length_append, List.length_cons, List.length_take, List.length_drop]; omega
def AscE (m : List Ent) : Prop := m.Pairwise fun a b => cmpE a b < 0
theorem cmpE_lt_trans {a b c : Ent} (h1 : cmpE a b < 0) (h2 : cmpE b c < 0) : cmpE a c < 0 := by
  have h3 := ord_E.trans a b c (by omega) (by omega)
  rcases Int.lt_or_eq_of_le h3 with h | h
  · exact h
  · have h4 := ord_E.swap a c
    have h5 := ord_E.trans b c a (by omega) (by omega)
    have h6 := ord_E.swap b a
    omega
theorem ins_asc {m : List Ent} (hm : AscE m) (e : Ent) : AscE (insE m e) := by
  unfold insE
  split
  · exact hm
  · rename_i hh
    have e1 : m = m.take (insN m e) ++ m.drop (insN m e) := (List.take_append_drop _ _).symm
    have hp : (m.take (insN m e) ++ m.drop (insN m e)).Pairwise fun a b => cmpE a b < 0 := by rw [← e1]; exact hm
    obtain ⟨p1, p2, p3⟩ := List.pairwise_append.1 hp
    have hlow : ∀ x, x ∈ m.take (insN m e) → cmpE x e < 0 := fun x hx => by
      obtain ⟨j, hj⟩ := List.getElem?_of_mem hx
      have hlt : j < insN m e := by
        have := (List.getElem?_eq_some_iff.1 hj).1
        rw [List.length_take] at this; omega
      rw [List.getElem?_take_of_lt hlt] at hj
      have := (tw_iff (p := fun x => decide (cmpE x e < 0)) hj (Nat.le_of_lt hlt)).2 hlt
      simpa using this
    have hhigh : ∀ x, x ∈ m.drop (insN m e) → cmpE e x < 0 := fun x hx => by
      have hfirst : ∀ y, m[insN m e]? = some y → cmpE e y < 0 := fun y hy => by
        have h1 := tw_iff (p := fun x => decide (cmpE x e < 0)) hy (Nat.le_refl (insN m e))
        have h2 : ¬ cmpE y e < 0 := fun h => Nat.lt_irrefl _ (h1.1 (by simpa using h))
        have h3 : cmpE y e ≠ 0 := fun h => hh (by unfold hitB; rw [hy]; simp [h])
        have := ord_E.swap y e
        omega
      obtain ⟨j, hj⟩ := List.getElem?_of_mem hx
      rw [List.getElem?_drop] at hj
      obtain ⟨y, hy⟩ : ∃ y, m[insN m e]? = some y := ⟨_, List.getElem?_eq_getElem (by have := (List.getElem?_eq_some_iff.1 hj).1; omega)⟩
      rcases Nat.eq_zero_or_pos j with h0 | h0
      · subst h0
        rw [Nat.add_zero, hy] at hj
        injection hj with hj; subst hj
        exact hfirst _ hy
      · obtain ⟨h1, g1⟩ := List.getElem?_eq_some_iff.1 hy
        obtain ⟨h2, g2⟩ := List.getElem?_eq_some_iff.1 hj
        have h3 : cmpE y x < 0 := by
          have := List.pairwise_iff_getElem.1 hm (insN m e) (insN m e + j) h1 h2 (by omega)
          rw [g1, g2] at this
          exact this
        exact cmpE_lt_trans (hfirst y hy) h3
    refine List.pairwise_append.2 ⟨p1, List.pairwise_cons.2 ⟨hhigh, p2⟩, fun a ha b hb => ?_⟩
    rcases List.mem_cons.1 hb with rfl | hb
    · exact hlow a ha
    · exact p3 a ha b hb
end Go.Proofs.Ytdaoinhkagmbdaa
namespace Go.Proofs.Ytdaoinhkagmbdaa
open Go.RowKit
section
variable {P : Program} {w : World}
variable {ops : Array Oper} {rest : List Oper} {o : Oper} {a : Act} {Q : Exit → Act → World → Prop}
end
end Go.Proofs.Ytdaoinhkagmbdaa
namespace Go.Proofs.Ytdaoinhkagmbdaa
open Go.RowKit
def KV (w : World) (B : Nat) (vs : List Value) (ks : List (List UInt8)) : Prop :=
  vs.length = ks.length ∧ ∀ (i : Nat) (k : List UInt8), ks[i]? = some k → ∃ (a : Option Addr) (c : Nat), vs[i]? = some (.slice a k.length c) ∧ k.length ≤ c ∧ c ≤ 9223372036854775807 ∧ (a = none → c = 0) ∧ RB w B a k.length k
section
variable {w w' : World} {B B' n : Nat} {A : Option Addr} {vs us : List Value} {ks js : List (List UInt8)}
theorem RBs.kv (h : RBs w B A n ks) : ∃ vs, Reads w B 1 A n vs ∧ KV w B vs ks := by
  obtain ⟨vs, h1, h2, h3⟩ := h
  exact ⟨vs, h1, h2, h3⟩
theorem KV.rbs (h : KV w B vs ks) (hr : Reads w B 1 A n vs) : RBs w B A n ks := ⟨vs, hr, h.1, h.2⟩
theorem KV.nil : KV w B [] [] := ⟨rfl, fun i k h => by simp at h⟩
theorem KV.below (h : KV w B vs ks) (hb : Below B w w') : KV w' B vs ks :=
  ⟨h.1, fun i k hk => by obtain ⟨a, c, q1, q2, q3, q4, q5⟩ := h.2 i k hk; exact ⟨a, c, q1, q2, q3, q4, q5.below hb⟩⟩
theorem KV.more (h : KV w B vs ks) (hB : B ≤ B') : KV w B' vs ks :=
  ⟨h.1, fun i k hk => by obtain ⟨a, c, q1, q2, q3, q4, q5⟩ := h.2 i k hk; exact ⟨a, c, q1, q2, q3, q4, q5.more hB⟩⟩
theorem KV.later (h : KV w w.heap.size vs ks) (hb : Below w.heap.size w w') : KV w' w'.heap.size vs ks := (h.below hb).more hb.size
theorem KV.app (h : KV w B vs ks) (h' : KV w B us js) : KV w B (vs ++ us) (ks ++ js) := by
  refine ⟨by rw [List.length_append, List.length_append, h.1, h'.1], fun i k hk => ?_⟩
  rw [List.getElem?_append] at hk ⊢
  rw [h.1]
  split at hk
  · rename_i hi
    rw [if_pos hi]
    exact h.2 i k hk
  · rename_i hi
    rw [if_neg hi]
    exact h'.2 _ k hk
theorem KV.take (h : KV w B vs ks) (m : Nat) : KV w B (vs.take m) (ks.take m) := by
  refine ⟨by rw [List.length_take, List.length_take, h.1], fun i k hk => ?_⟩
  rw [List.getElem?_take] at hk ⊢
  split at hk
  · rename_i hi
    rw [if_pos hi]; exact h.2 i k hk
  · cases hk
theorem KV.drop (h : KV w B vs ks) (m : Nat) : KV w B (vs.drop m) (ks.drop m) := by
  refine ⟨by rw [List.length_drop, List.length_drop, h.1], fun i k hk => ?_⟩
  rw [List.getElem?_drop] at hk ⊢
  exact h.2 _ k hk
theorem KV.cons {v : Value} {k : List UInt8} (h : KV w B vs ks) (hv : ∃ (a : Option Addr) (c : Nat), v = .slice a k.length c ∧ k.length ≤ c ∧ c ≤ 9223372036854775807 ∧ (a = none → c = 0) ∧ RB w B a k.length k) : KV w B (v :: vs) (k :: ks) := by
  refine ⟨by simp [h.1], fun i x hx => ?_⟩
  cases i with
  | zero =>
    injection hx with hx; subst hx
    obtain ⟨a, c, rfl, q⟩ := hv
    exact ⟨a, c, rfl, q⟩
  | succ i => exact h.2 i x hx
theorem KV.one (h : KV w B vs ks) : ∀ u ∈ vs, u.oneCell' = true := by
  intro u hu
  obtain ⟨i, hi⟩ := List.getElem?_of_mem hu
  have hlt := (List.getElem?_eq_some_iff.1 hi).1
  obtain ⟨a, c, q, _⟩ := h.2 i _ (List.getElem?_eq_getElem (by rw [← h.1]; exact hlt))
  rw [q] at hi
  injection hi with hi
  subst hi; rfl
end
theorem own_slice {w : World} {base e size n : Nat} {v : Value} {xs : List Value} (h : w.ownsRow base e size v n xs) :
    ∃ (A : Option Addr) (c : Nat), v = .slice A n c ∧ n ≤ c ∧ c ≤ maxLen ∧ (A = none → c = 0) ∧ Reads w w.heap.size size A n xs := by
  rcases h.2 with ⟨rfl, h0⟩ | ⟨g, cap, cur, hv, hb, hg, hc, hm, _⟩
  · subst h0
    exact ⟨none, 0, rfl, Nat.le_refl _, Nat.zero_le _, fun _ => rfl, Reads.own h⟩
  · subst hv
    exact ⟨_, cap, rfl, hc, hm, (fun e => nomatch e), Reads.own h⟩
theorem own_nil (w : World) (base e size : Nat) : w.ownsRow base e size (.slice none 0 0) 0 [] := ⟨by simp, .inl ⟨rfl, rfl⟩⟩
end Go.Proofs.Ytdaoinhkagmbdaa
namespace Go.Proofs.Ytdaoinhkagmbdaa
open Go.RowKit
def OwnB (T : TypeId) (base : Nat) (w : World) (A : Option Addr) (c : Nat) (l : List UInt8) : Prop := w.ownsRow base T 1 (.slice A l.length c) l.length (u8s l)
section
variable {T : TypeId} {base B : Nat} {w w' : World} {A : Option Addr} {c n : Nat} {l : List UInt8}
theorem OwnB.rb (h : OwnB T base w A c l) : RB w w.heap.size A l.length l := RB.own h
theorem OwnB.later (h : OwnB T base w A c l) (hb : Below w.heap.size w w') : OwnB T base w' A c l := own_below h hb
theorem OwnB.rebase {base' : Nat} (h : OwnB T base w A c l) (hb : base' ≤ base) : OwnB T base' w A c l := by
  refine ⟨h.1, ?_⟩
  rcases h.2 with h' | ⟨g, cap, cur, h1, h2, h3⟩
  · exact .inl h'
  · exact .inr ⟨g, cap, cur, h1, Nat.le_trans hb h2, h3⟩
theorem OwnB.cap (h : OwnB T base w A c l) : l.length ≤ c ∧ c ≤ maxLen ∧ (A = none → c = 0) := by
  obtain ⟨A', c', e, h1, h2, h3, _⟩ := own_slice h
  injection e with e1 _ e2
  subst e1; subst e2
  exact ⟨h1, h2, h3⟩
theorem own_bytes {v : Value} (h : w.ownsRow base T 1 v n (u8s l)) : ∃ A c, v = .slice A l.length c ∧ OwnB T base w A c l := by
  have hn : l.length = n := by have := h.1; rw [u8s_length] at this; omega
  subst hn
  obtain ⟨A, c, rfl, _⟩ := own_slice h
  exact ⟨A, c, rfl, h⟩
def BytesPost (T : TypeId) (l : List UInt8) (w : World) (e : Ending) (w' : World) : Prop :=
  ∃ A c, e = .returned (.slice A l.length c) ∧ OwnB T w.heap.size w' A c l ∧ Below w.heap.size w w'
theorem bytes_post {v : Value} (h : w'.ownsRow w.heap.size T 1 v n (u8s l)) (hb : Below w.heap.size w w') : BytesPost T l w (.returned v) w' := by
  obtain ⟨A, c, rfl, ho⟩ := own_bytes h
  exact ⟨A, c, rfl, ho, hb⟩
def BytesPost2 (T : TypeId) (l : List UInt8) (k : Int) (w : World) (e : Ending) (w' : World) : Prop :=
  ∃ A c, e = .returned (.tuple #[.slice A l.length c, .int .i64 k]) ∧ OwnB T w.heap.size w' A c l ∧ Below w.heap.size w w'
theorem bytes_post2 {v : Value} {k : Int} (h : w'.ownsRow w.heap.size T 1 v n (u8s l)) (hb : Below w.heap.size w w') : BytesPost2 T l k w (.returned (.tuple #[v, .int .i64 k])) w' := by
  obtain ⟨A, c, rfl, ho⟩ := own_bytes h
  exact ⟨A, c, rfl, ho, hb⟩
theorem bytes_none2 {k : Int} (hb : Below w.heap.size w w') : BytesPost2 T [] k w (.returned (.tuple #[.slice none 0 0, .int .i64 k])) w' := bytes_post2 (n := 0) (own_nil _ _ _ _) hb
def BytesPost3 (T : TypeId) (l : List UInt8) (p k : Int) (w : World) (e : Ending) (w' : World) : Prop :=
  ∃ A c, e = .returned (.tuple #[.slice A l.length c, .int .i64 p, .int .i64 k]) ∧ OwnB T w.heap.size w' A c l ∧ Below w.heap.size w w'
end
theorem below_grown_none {w w1 : World} (h : w.grownBy w1 none) : Below w.heap.size w w1 := (Below.refl w.heap.size w).grown h (Nat.le_refl _) (by simp)
theorem below_drewN {B n : Nat} {w w1 : World} (h : Below B w w1) : Below B w (w1.drewN n) := ⟨h.os, h.tape, h.output, h.size, h.block⟩
theorem i64_sum {x : Int} (h1 : -9223372036854775808 ≤ x) (h2 : x ≤ 9223372036854775807) : IntKind.i64.wrap x = x := IntWalk.i64_in _ ⟨h1, h2⟩
theorem reads_lit (w : World) (C : Array Value) (l : List UInt8) (t : TypeId) (fr : Nat × Nat) (hC : C.toList = u8s l) : RB (w.alloc (.cells C t fr)) (w.heap.size + 1) (some ⟨w.heap.size, 0, none⟩) l.length l :=
  RB.mk' rfl fun _ => ⟨_, 0, rfl, by omega, fun j c hj => by
    rw [Nat.zero_add, World.cell?_alloc_mark, ← Array.getElem?_toList, hC]
    exact u8s_at hj⟩
theorem rbs_one (w : World) (A : Option Addr) (n c : Nat) (l : List UInt8) (t : TypeId) (fr : Nat × Nat) (h1 : n ≤ c) (h2 : c ≤ 9223372036854775807) (h3 : A = none → c = 0) (hr : RB w w.heap.size A n l) :
    RBs (w.alloc (.cells #[.slice A n c] t fr)) (w.heap.size + 1) (some ⟨w.heap.size, 0, none⟩) 1 [l] := by
  obtain rfl := hr.len
  have hb : Below w.heap.size w (w.alloc (.cells #[.slice A l.length c] t fr)) := (Below.refl _ _).alloc (Nat.le_refl _) _
  refine (KV.nil.cons ⟨A, c, rfl, h1, h2, h3, (hr.below hb).more (by omega)⟩).rbs ⟨rfl, fun _ => ⟨_, 0, rfl, by omega, fun j u hu => ?_⟩⟩
  rw [Nat.zero_add, World.cell?_alloc_mark, ← Array.getElem?_toList]
  exact hu
theorem OwnB.one {T : TypeId} {base : Nat} {w : World} {A : Option Addr} {c : Nat} {l : List UInt8} (h : OwnB T base w A c l) (t : TypeId) (fr : Nat × Nat) :
    RBs (w.alloc (.cells #[.slice A l.length c] t fr)) (w.heap.size + 1) (some ⟨w.heap.size, 0, none⟩) 1 [l] := by
  obtain ⟨h1, h2, h3⟩ := h.cap
  unfold maxLen at h2
  exact rbs_one w A l.length c l t fr h1 h2 h3 h.rb
structure Sl (w : World) (A : Option Addr) (n c : Nat) (l : List UInt8) : Prop where
  rb : RB w w.heap.size A n l
  cap : n ≤ c
  lim : c ≤ 9223372036854775807
  nil : A = none → c = 0
section
variable {T : TypeId} {base : Nat} {w w' : World} {A : Option Addr} {c n m : Nat} {l : List UInt8}
theorem Sl.later (h : Sl w A n c l) (hb : Below w.heap.size w w') : Sl w' A n c l := ⟨h.rb.later hb, h.cap, h.lim, h.nil⟩
theorem Sl.len (h : Sl w A n c l) : l.length = n := h.rb.len
theorem Sl.le (h : Sl w A n c l) : n ≤ 9223372036854775807 := Nat.le_trans h.cap h.lim
theorem Sl.one (h : Sl w A n c l) (t : TypeId) (fr : Nat × Nat) : RBs (w.alloc (.cells #[.slice A n c] t fr)) (w.alloc (.cells #[.slice A n c] t fr)).heap.size (some ⟨w.heap.size, 0, none⟩) 1 [l] :=
  (rbs_one w A n c l t fr h.cap h.lim h.nil h.rb).more (by simp)
theorem Sl.take (h : Sl w A n c l) (hm : m ≤ n) : Sl w A m c (l.take m) := ⟨h.rb.take hm, Nat.le_trans hm h.cap, h.lim, h.nil⟩
theorem Sl.drop {k : Nat} (h : Sl w A n c l) (hk : k ≤ n) (hc : k < c) : Sl w (A.map (·.add k)) (n - k) (c - k) (l.drop k) := by
  have h1 := h.rb.drop (k := k) (cap := c) hk h.cap
  rw [if_neg (by omega)] at h1
  refine ⟨h1, by have := h.cap; omega, by have := h.lim; omega, fun e => ?_⟩
  cases A with
  | none => have := h.nil rfl; omega
  | some _ => cases e
theorem Sl.own (h : OwnB T base w A c l) : Sl w A l.length c l := by
  obtain ⟨h1, h2, h3⟩ := h.cap
  unfold maxLen at h2
  exact ⟨h.rb, h1, h2, h3⟩
theorem BytesPost.at_ {e : Ending} (h : BytesPost T l w e w') (hn : l.length = n) : ∃ A c, e = .returned (.slice A n c) ∧ Sl w' A n c l ∧ OwnB T w.heap.size w' A c l ∧ Below w.heap.size w w' := by
  subst hn
  obtain ⟨A, c, rfl, ho, hb⟩ := h
  exact ⟨A, c, rfl, Sl.own ho, ho, hb⟩
theorem BytesPost2.at_ {e : Ending} {k k' : Int} (h : BytesPost2 T l k w e w') (hn : l.length = n) (hk : k = k') : ∃ A c, e = .returned (.tuple #[.slice A n c, .int .i64 k']) ∧ Sl w' A n c l ∧ OwnB T w.heap.size w' A c l ∧ Below w.heap.size w w' := by
  subst hn; subst hk
  obtain ⟨A, c, rfl, ho, hb⟩ := h
  exact ⟨A, c, rfl, Sl.own ho, ho, hb⟩
theorem BytesPost3.at_ {e : Ending} {p p' k k' : Int} (h : BytesPost3 T l p k w e w') (hn : l.length = n) (hp : p = p') (hk : k = k') : ∃ A c, e = .returned (.tuple #[.slice A n c, .int .i64 p', .int .i64 k']) ∧ Sl w' A n c l ∧ OwnB T w.heap.size w' A c l ∧ Below w.heap.size w w' := by
  subst hn; subst hp; subst hk
  obtain ⟨A, c, rfl, ho, hb⟩ := h
  exact ⟨A, c, rfl, Sl.own ho, ho, hb⟩
theorem Sl.lit (w : World) (C : Array Value) (l : List UInt8) (t : TypeId) (fr : Nat × Nat) (hC : C.toList = u8s l) (hn : l.length = n) (hc : n ≤ 9223372036854775807) : Sl (w.alloc (.cells C t fr)) (some ⟨w.heap.size, 0, none⟩) n n l := by
  subst hn
  exact ⟨(reads_lit w C l t fr hC).more (by simp), Nat.le_refl _, hc, fun e => nomatch e⟩
end
theorem Sl.cons {w : World} {A : Option Addr} {n c : Nat} {l : List UInt8} {vs : List Value} {ks : List (List UInt8)} (h : Sl w A n c l) (hk : KV w w.heap.size vs ks) : KV w w.heap.size (.slice A n c :: vs) (l :: ks) := by
  obtain rfl := h.len
  exact hk.cons ⟨A, c, rfl, h.cap, h.lim, h.nil, h.rb⟩
theorem Sl.none (w : World) : Sl w none 0 0 [] := ⟨RB.nil, Nat.le_refl _, by omega, fun _ => rfl⟩
end Go.Proofs.Ytdaoinhkagmbdaa
namespace Go.Proofs.Ytdaoinhkagmbdaa
open Go.RowKit
end Go.Proofs.Ytdaoinhkagmbdaa
namespace Go.Proofs.Ytdaoinhkagmbdaa
open Go.RowKit
theorem Try.u8s' : SliceOf Try.prog 28 5 1 1 := SliceOf.mk' (z := .int .u8 0) Try.underlying28 (by kernel_rfl) rfl (by decide)
end Go.Proofs.Ytdaoinhkagmbdaa
namespace Go.Proofs.Ytdaoinhkagmbdaa
open Go.RowKit
def outI (n lo hi : Int) : Bool := decide (n < lo) || decide (hi < n)
set_option maxRecDepth 100000 in
set_option maxHeartbeats 1000000 in
theorem cOutside_any (n lo hi : Int) (w : World) : Calls Try.prog 93 #[.int .i64 n, .int .i64 lo, .int .i64 hi] w fun e w' => e = .returned (.bool (outI n lo hi)) ∧ w = w' := by
  unfold outI
  by_cases h : n < lo
  · have hd : decide (n < lo) = true := decide_eq_true h
    go_enter Try.func93, Try.ntmps93
    go_wp2
    go_ret
    exact ⟨by simp [hd], rfl⟩
  · have hd : decide (n < lo) = false := decide_eq_false h
    go_enter Try.func93, Try.ntmps93
    go_wp2
    go_ret
    exact ⟨by simp, rfl⟩
theorem hid_iff {p : Prop} : Hid p ↔ p := ⟨Hid.out, Lib.hid⟩
theorem outI_pos {n lo hi : Int} (h : outI n lo hi = true) : n < lo ∨ hi < n := by unfold outI at h; simpa using h
theorem outI_neg {n lo hi : Int} (h : ¬ outI n lo hi = true) : outI n lo hi = false := by simpa using h
theorem outI_no {n lo hi : Int} (h : outI n lo hi = false) : ¬ (n < lo ∨ hi < n) := by unfold outI at h; simp at h; omega
set_option maxRecDepth 100000 in
set_option maxHeartbeats 4000000 in
theorem check_any (A : Option Addr) (n c : Nat) (f : Int) (B : Option Addr) (m d : Nat) (t s k : Int) (D : Option Addr) (v q : Nat) (w : World) :
    Calls Try.prog 72 #[.agg #[.slice A n c, .int .i64 f, .slice B m d, .int .i64 t, .int .i64 s, .int .i64 k, .slice D v q]] w fun e w' => e = .returned (.int .i64 (checkN n f m t s k v)) ∧ Below w.heap.size w w' := by
  have HB : Hid (∀ o, Below w.heap.size w (w.alloc o)) := Lib.hid fun o => (Below.refl _ w).alloc (Nat.le_refl _) o
  go_enter Try.func72, Try.ntmps72
  by_cases h0 : outI n 1 256 = true
  · have o0 := Lib.hid (outI_pos h0)
    go_wp2_with (go_at_call 93; refine (cOutside_any _ _ _ _).mono ?_; rintro e w' ⟨rfl, rfl⟩)
    go_ret
    refine ⟨?_, HB.out _⟩
    clear HB
    have HZ : checkN n f m t s k v = 20 := by
      simp only [hid_iff] at *
      unfold checkN
      (repeat' split) <;> first | rfl | omega
    rw [HZ]; rfl
  have p0 := Lib.hid (outI_no (outI_neg h0))
  replace h0 := outI_neg h0
  by_cases h1 : outI f 0 7 = true
  · have o1 := Lib.hid (outI_pos h1)
    go_wp2_with (go_at_call 93; refine (cOutside_any _ _ _ _).mono ?_; rintro e w' ⟨rfl, rfl⟩)
    go_ret
    refine ⟨?_, HB.out _⟩
    clear HB
    have HZ : checkN n f m t s k v = 21 := by
      simp only [hid_iff] at *
      unfold checkN
      (repeat' split) <;> first | rfl | omega
    rw [HZ]; rfl
  have p1 := Lib.hid (outI_no (outI_neg h1))
  replace h1 := outI_neg h1
  by_cases h2 : 256 < m
  · have d1 : decide ((256 : Int) < (m : Int)) = true := decide_eq_true (by omega)
    have d1n : decide (256 < m) = true := decide_eq_true h2
    go_wp2_with (go_at_call 93; refine (cOutside_any _ _ _ _).mono ?_; rintro e w' ⟨rfl, rfl⟩)
    go_ret
    refine ⟨?_, HB.out _⟩
    clear HB
    have HZ : checkN n f m t s k v = 22 := by
      simp only [hid_iff] at *
      unfold checkN
      (repeat' split) <;> first | rfl | omega
    rw [HZ]; rfl
  have da2 : decide ((256 : Int) < (m : Int)) = false := decide_eq_false (by omega)
  have db2 : decide (256 < m) = false := decide_eq_false h2
  by_cases k2 : k = 5
  · have e2 : (k == 5) = true := by simpa using k2
    replace k2 := Lib.hid k2
    by_cases l2 : 0 < m
    · have d1 : decide ((0 : Int) < (m : Int)) = true := decide_eq_true (by omega)
      have d1n : decide (0 < m) = true := decide_eq_true l2
      go_wp2_with (go_at_call 93; refine (cOutside_any _ _ _ _).mono ?_; rintro e w' ⟨rfl, rfl⟩)
      go_ret
      refine ⟨?_, HB.out _⟩
      clear HB
      have HZ : checkN n f m t s k v = 22 := by
        simp only [hid_iff] at *
        unfold checkN
        (repeat' split) <;> first | rfl | omega
      rw [HZ]; rfl
    have dc2 : decide ((0 : Int) < (m : Int)) = false := decide_eq_false (by omega)
    have dd2 : decide (0 < m) = false := decide_eq_false l2
    by_cases h3 : outI t 1 1099511627776 = true
    · have o3 := Lib.hid (outI_pos h3)
      go_wp2_with (go_at_call 93; refine (cOutside_any _ _ _ _).mono ?_; rintro e w' ⟨rfl, rfl⟩)
      go_ret
      refine ⟨?_, HB.out _⟩
      clear HB
      have HZ : checkN n f m t s k v = 23 := by
        simp only [hid_iff] at *
        unfold checkN
        (repeat' split) <;> first | rfl | omega
      rw [HZ]; rfl
    have p3 := Lib.hid (outI_no (outI_neg h3))
    replace h3 := outI_neg h3
    by_cases h4 : outI s 0 17592186044431 = true
    · have o4 := Lib.hid (outI_pos h4)
      go_wp2_with (go_at_call 93; refine (cOutside_any _ _ _ _).mono ?_; rintro e w' ⟨rfl, rfl⟩)
      go_ret
      refine ⟨?_, HB.out _⟩
      clear HB
      have HZ : checkN n f m t s k v = 24 := by
        simp only [hid_iff] at *
        unfold checkN
        (repeat' split) <;> first | rfl | omega
      rw [HZ]; rfl
    have p4 := Lib.hid (outI_no (outI_neg h4))
    replace h4 := outI_neg h4
    by_cases h5 : outI k 1 5 = true
    · have o5 := Lib.hid (outI_pos h5)
      go_wp2_with (go_at_call 93; refine (cOutside_any _ _ _ _).mono ?_; rintro e w' ⟨rfl, rfl⟩)
      go_ret
      refine ⟨?_, HB.out _⟩
      clear HB
      have HZ : checkN n f m t s k v = 25 := by
        simp only [hid_iff] at *
        unfold checkN
        (repeat' split) <;> first | rfl | omega
      rw [HZ]; rfl
    have p5 := Lib.hid (outI_no (outI_neg h5))
    replace h5 := outI_neg h5
    by_cases h6 : 4096 < v
    · have d1 : decide ((4096 : Int) < (v : Int)) = true := decide_eq_true (by omega)
      have d1n : decide (4096 < v) = true := decide_eq_true h6
      go_wp2_with (go_at_call 93; refine (cOutside_any _ _ _ _).mono ?_; rintro e w' ⟨rfl, rfl⟩)
      go_ret
      refine ⟨?_, HB.out _⟩
      clear HB
      have HZ : checkN n f m t s k v = 26 := by
        simp only [hid_iff] at *
        unfold checkN
        (repeat' split) <;> first | rfl | omega
      rw [HZ]; rfl
    have da6 : decide ((4096 : Int) < (v : Int)) = false := decide_eq_false (by omega)
    have db6 : decide (4096 < v) = false := decide_eq_false h6
    by_cases k6 : ¬ k = 1
    · have e6 : (k != 1) = true := by simpa using k6
      replace k6 := Lib.hid k6
      by_cases l6 : 0 < v
      · have d1 : decide ((0 : Int) < (v : Int)) = true := decide_eq_true (by omega)
        have d1n : decide (0 < v) = true := decide_eq_true l6
        go_wp2_with (go_at_call 93; refine (cOutside_any _ _ _ _).mono ?_; rintro e w' ⟨rfl, rfl⟩)
        go_ret
        refine ⟨?_, HB.out _⟩
        clear HB
        have HZ : checkN n f m t s k v = 26 := by
          simp only [hid_iff] at *
          unfold checkN
          (repeat' split) <;> first | rfl | omega
        rw [HZ]; rfl
      have dc6 : decide ((0 : Int) < (v : Int)) = false := decide_eq_false (by omega)
      have dd6 : decide (0 < v) = false := decide_eq_false l6
      go_wp2_with (go_at_call 93; refine (cOutside_any _ _ _ _).mono ?_; rintro e w' ⟨rfl, rfl⟩)
      go_ret
      refine ⟨?_, HB.out _⟩
      clear HB
      have HZ : checkN n f m t s k v = 0 := by
        simp only [hid_iff] at *
        unfold checkN
        (repeat' split) <;> first | rfl | omega
      rw [HZ]; rfl
    have e6 : (k != 1) = false := by simpa using k6
    replace k6 := Lib.hid k6
    go_wp2_with (go_at_call 93; refine (cOutside_any _ _ _ _).mono ?_; rintro e w' ⟨rfl, rfl⟩)
    go_ret
    refine ⟨?_, HB.out _⟩
    clear HB
    have HZ : checkN n f m t s k v = 0 := by
      simp only [hid_iff] at *
      unfold checkN
      (repeat' split) <;> first | rfl | omega
    rw [HZ]; rfl
  have e2 : (k == 5) = false := by simpa using k2
  replace k2 := Lib.hid k2
  by_cases h3 : outI t 1 1099511627776 = true
  · have o3 := Lib.hid (outI_pos h3)
    go_wp2_with (go_at_call 93; refine (cOutside_any _ _ _ _).mono ?_; rintro e w' ⟨rfl, rfl⟩)
    go_ret
    refine ⟨?_, HB.out _⟩
    clear HB
    have HZ : checkN n f m t s k v = 23 := by
      simp only [hid_iff] at *
      unfold checkN
      (repeat' split) <;> first | rfl | omega
    rw [HZ]; rfl
  have p3 := Lib.hid (outI_no (outI_neg h3))
  replace h3 := outI_neg h3
  by_cases h4 : outI s 0 17592186044431 = true
  · have o4 := Lib.hid (outI_pos h4)
    go_wp2_with (go_at_call 93; refine (cOutside_any _ _ _ _).mono ?_; rintro e w' ⟨rfl, rfl⟩)
    go_ret
    refine ⟨?_, HB.out _⟩
    clear HB
    have HZ : checkN n f m t s k v = 24 := by
      simp only [hid_iff] at *
      unfold checkN
      (repeat' split) <;> first | rfl | omega
    rw [HZ]; rfl
  have p4 := Lib.hid (outI_no (outI_neg h4))
  replace h4 := outI_neg h4
  by_cases h5 : outI k 1 5 = true
  · have o5 := Lib.hid (outI_pos h5)
    go_wp2_with (go_at_call 93; refine (cOutside_any _ _ _ _).mono ?_; rintro e w' ⟨rfl, rfl⟩)
    go_ret
    refine ⟨?_, HB.out _⟩
    clear HB
    have HZ : checkN n f m t s k v = 25 := by
      simp only [hid_iff] at *
      unfold checkN
      (repeat' split) <;> first | rfl | omega
    rw [HZ]; rfl
  have p5 := Lib.hid (outI_no (outI_neg h5))
  replace h5 := outI_neg h5
  by_cases h6 : 4096 < v
  · have d1 : decide ((4096 : Int) < (v : Int)) = true := decide_eq_true (by omega)
    have d1n : decide (4096 < v) = true := decide_eq_true h6
    go_wp2_with (go_at_call 93; refine (cOutside_any _ _ _ _).mono ?_; rintro e w' ⟨rfl, rfl⟩)
    go_ret
    refine ⟨?_, HB.out _⟩
    clear HB
    have HZ : checkN n f m t s k v = 26 := by
      simp only [hid_iff] at *
      unfold checkN
      (repeat' split) <;> first | rfl | omega
    rw [HZ]; rfl
  have da6 : decide ((4096 : Int) < (v : Int)) = false := decide_eq_false (by omega)
  have db6 : decide (4096 < v) = false := decide_eq_false h6
  by_cases k6 : ¬ k = 1
  · have e6 : (k != 1) = true := by simpa using k6
    replace k6 := Lib.hid k6
    by_cases l6 : 0 < v
    · have d1 : decide ((0 : Int) < (v : Int)) = true := decide_eq_true (by omega)
      have d1n : decide (0 < v) = true := decide_eq_true l6
      go_wp2_with (go_at_call 93; refine (cOutside_any _ _ _ _).mono ?_; rintro e w' ⟨rfl, rfl⟩)
      go_ret
      refine ⟨?_, HB.out _⟩
      clear HB
      have HZ : checkN n f m t s k v = 26 := by
        simp only [hid_iff] at *
        unfold checkN
        (repeat' split) <;> first | rfl | omega
      rw [HZ]; rfl
    have dc6 : decide ((0 : Int) < (v : Int)) = false := decide_eq_false (by omega)
    have dd6 : decide (0 < v) = false := decide_eq_false l6
    go_wp2_with (go_at_call 93; refine (cOutside_any _ _ _ _).mono ?_; rintro e w' ⟨rfl, rfl⟩)
    go_ret
    refine ⟨?_, HB.out _⟩
    clear HB
    have HZ : checkN n f m t s k v = 0 := by
      simp only [hid_iff] at *
      unfold checkN
      (repeat' split) <;> first | rfl | omega
    rw [HZ]; rfl
  have e6 : (k != 1) = false := by simpa using k6
  replace k6 := Lib.hid k6
  go_wp2_with (go_at_call 93; refine (cOutside_any _ _ _ _).mono ?_; rintro e w' ⟨rfl, rfl⟩)
  go_ret
  refine ⟨?_, HB.out _⟩
  clear HB
  have HZ : checkN n f m t s k v = 0 := by
    simp only [hid_iff] at *
    unfold checkN
    (repeat' split) <;> first | rfl | omega
  rw [HZ]; rfl
end Go.Proofs.Ytdaoinhkagmbdaa
namespace Go.Proofs.Ytdaoinhkagmbdaa
open Go.RowKit
theorem run_sizeOf_of {P : Program} {t : TypeId} {n : Nat} (h : (P.info? t).map (·.size) = some n) (w : World) : (sizeOf t).run P w = .ok n w := by
  cases hd : P.info? t with
  | none => rw [hd] at h; cases h
  | some i =>
    rw [hd] at h
    injection h with h
    simp [sizeOf, typeInfo, hd, h]
theorem run_isAgg_of {P : Program} {t : TypeId} {b : Bool} (h : (P.underlying t).map (fun d => match d with | .struct _ | .array _ _ => true | _ => false) = some b) (w : World) : (isAgg t).run P w = .ok b w := by
  cases hd : P.underlying t with
  | none => rw [hd] at h; cases h
  | some d =>
    rw [hd] at h
    unfold isAgg
    rw [Sem.run_bind, run_underlying hd w]
    cases d <;> simp_all
theorem run_index_arr {P : Program} (w : World) (t e : TypeId) (n : Nat) (cs : Array Value) (k : Nat) (v : Value) (ht : P.underlying t = some (.array n e)) (hs : (P.info? e).map (·.size) = some 1)
    (ha : (P.underlying e).map (fun d => match d with | .struct _ | .array _ _ => true | _ => false) = some false) (hk : k < n) (hv : cs[k]? = some v) :
    (Instr.index t (.agg cs) (.int .i64 (k : Int))).run P w = .ok v w := by
  have hs := run_sizeOf_of hs w
  have ha := run_isAgg_of ha w
  unfold Instr.index
  simp [asIntOf, Sem.run_bind, run_underlying ht, hs, part, ha, hk, hv]
end Go.Proofs.Ytdaoinhkagmbdaa
namespace Go.Proofs.Ytdaoinhkagmbdaa
open Go.RowKit
section
variable {P : Program} {w : World}
theorem ints_back (l : List UInt8) : Lib.bytesOf (l.map fun c => (c.toNat : Int)) = l := by
  unfold Lib.bytesOf
  rw [List.map_map]
  conv => rhs; rw [← List.map_id l]
  exact List.map_congr_left fun x _ => by simp
theorem run_bytesOf_RB {B n : Nat} {A : Option Addr} {l : List UInt8} (c : Nat) (h : RB w B A n l) : (Extern.Bytes.bytesOf (.slice A n c)).run P w = .ok ⟨l.toArray⟩ w := by
  have hl := h.len
  cases A with
  | none =>
    have hn : n = 0 := by
      rcases Nat.eq_zero_or_pos n with h0 | h0
      · exact h0
      · obtain ⟨_, _, e, _⟩ := h.2 h0
        cases e
    have hl0 : l = [] := List.eq_nil_of_length_eq_zero (by omega)
    subst hl0
    rfl
  | some ad =>
    have h1 := Lib.run_loadBytesX (P := P) (w := w) (l.map fun c => (c.toNat : Int)) ad .empty (fun j x hj => by
      rw [List.getElem?_map] at hj
      cases hx : l[j]? with
      | none => rw [hx] at hj; cases hj
      | some y =>
        rw [hx] at hj
        injection hj with hj
        subst hj
        have hjl : j < l.length := (List.getElem?_eq_some_iff.1 hx).1
        obtain ⟨b, o, e, _, hc⟩ := h.2 (by omega)
        injection e with e
        subst e
        have := hc j _ (u8s_at hx)
        unfold Addr.add
        split
        · rename_i h0; subst h0; exact this
        · exact this)
    rw [List.length_map, hl, ints_back] at h1
    have he : (⟨ByteArray.empty.data ++ l.toArray⟩ : ByteArray) = ⟨l.toArray⟩ := by
      apply ByteArray.ext
      show (#[] : Array UInt8) ++ l.toArray = l.toArray
      simp
    rw [he] at h1
    exact h1
theorem compareBytes_eq : ∀ a b : List UInt8, Lib.compareBytes a b = cmpB a b
  | [], [] => rfl
  | [], _ :: _ => rfl
  | _ :: _, [] => rfl
  | x :: a, y :: b => by
    rw [cmpB_cc, Lib.compareBytes, compareBytes_eq a b]
    by_cases h : x < y
    · rw [if_pos h, if_pos (UInt8.lt_iff_toNat_lt.1 h)]
    · rw [if_neg h, if_neg (fun h' => h (UInt8.lt_iff_toNat_lt.2 h'))]
      by_cases h2 : y < x
      · rw [if_pos h2, if_pos (UInt8.lt_iff_toNat_lt.1 h2)]
      · rw [if_neg h2, if_neg (fun h' => h2 (UInt8.lt_iff_toNat_lt.2 h'))]
theorem run_compare_RB {B B' n m : Nat} {A A' : Option Addr} {a b : List UInt8} (c d : Nat) (ha : RB w B A n a) (hb : RB w B' A' m b) :
    (Extern.BytealgCompare.compare #[.slice A n c, .slice A' m d]).run P w = .ok (.int .i64 (cmpB a b)) w := by
  change Sem.run P (do pure (goInt (Extern.BytealgCompare.cmp (← Extern.Bytes.bytesOf (.slice A n c)) (← Extern.Bytes.bytesOf (.slice A' m d))))) w = _
  simp only [Sem.run_bind, Sem.run_pure, run_bytesOf_RB c ha, run_bytesOf_RB d hb, Result.andThen]
  rw [Lib.cmp_eq, compareBytes_eq]
  rfl
end
set_option maxRecDepth 100000 in
set_option maxHeartbeats 1000000 in
theorem bcmp_any (a b : List UInt8) (A B : Option Addr) (n c m d : Nat) (w : World) (ha : RB w w.heap.size A n a) (hb : RB w w.heap.size B m b) :
    Calls Try.prog 78 #[.slice A n c, .slice B m d] w fun e w' => e = .returned (.int .i64 (cmpB a b)) ∧ w = w' := by
  go_enter Try.func78, Try.ntmps78
  go_wp2
  rw [run_callFunc_extern Try.func95 (by kernel_rfl) (by kernel_rfl) (by kernel_rfl) (e := Extern.BytealgCompare.compare) (by kernel_rfl), run_compare_RB c d ha hb]
  simp only [Result.andThen]
  rw [Oper.upon_value]
  go_wp2
  go_ret
  exact ⟨rfl, rfl⟩
set_option maxRecDepth 100000 in
theorem isNaN_any (x : Int) (w : World) : Calls Try.prog 96 #[.int .i64 x] w fun e w' => e = .returned (.bool false) ∧ w = w' := by
  go_enter Try.func96, Try.ntmps96
  go_wp2
  go_ret
  exact ⟨by simp, rfl⟩
set_option maxRecDepth 100000 in
set_option maxHeartbeats 1000000 in
theorem icmp_any (x y : Int) (w : World) : Calls Try.prog 80 #[.int .i64 x, .int .i64 y] w fun e w' => e = .returned (.int .i64 (cmpI x y)) ∧ w = w' := by
  go_enter Try.func80, Try.ntmps80
  go_wp2_with (go_at_call 96; refine (isNaN_any _ _).mono ?_; rintro e w' ⟨rfl, rfl⟩)
  all_goals (go_ret; refine ⟨ret_int ?_, rfl⟩; unfold cmpI; (repeat' split) <;> first | rfl | (exfalso; omega))
set_option maxRecDepth 100000 in
set_option maxHeartbeats 1000000 in
theorem cFirst_any (z : Int) (A : Option Addr) (n c : Nat) (f : Int) (B : Option Addr) (m d : Nat) (t s k : Int) (D : Option Addr) (v q : Nat) (A' : Option Addr) (n' c' : Nat) (f' : Int) (B' : Option Addr) (m' d' : Nat) (t' s' k' : Int) (D' : Option Addr) (v' q' : Nat) (w : World) :
    Calls Try.prog 82 #[.int .i64 z, .agg #[.slice A n c, .int .i64 f, .slice B m d, .int .i64 t, .int .i64 s, .int .i64 k, .slice D v q], .agg #[.slice A' n' c', .int .i64 f', .slice B' m' d', .int .i64 t', .int .i64 s', .int .i64 k', .slice D' v' q']] w fun e w' => e = .returned (.int .i64 (firstI (k == z) (k' == z))) ∧ Below w.heap.size w w' := by
  have HB : Hid (∀ o o', Below w.heap.size w ((w.alloc o).alloc o')) := Lib.hid fun o o' => ((Below.refl _ w).alloc (Nat.le_refl _) o).alloc (by simp) o'
  unfold firstI
  generalize h1 : (k == z) = x
  generalize h2 : (k' == z) = y
  cases x <;> cases y <;> (
    go_enter Try.func82, Try.ntmps82
    go_wp2_with (go_quiet (fail))
    go_ret
    exact ⟨rfl, below_drewN (HB.out _ _)⟩)
abbrev entV (A : Option Addr) (n c : Nat) (B : Option Addr) (m d : Nat) (D : Option Addr) (v q : Nat) (e : Ent) : Value := .agg #[.slice A n c, .int .i64 e.fam, .slice B m d, .int .i64 e.ts, .int .i64 e.seq, .int .i64 e.kind, .slice D v q]
structure En (w : World) (A : Option Addr) (n c : Nat) (B : Option Addr) (m d : Nat) (D : Option Addr) (v q : Nat) (e : Ent) : Prop where
  row : Sl w A n c e.row
  qual : Sl w B m d e.qual
  val : Sl w D v q e.val
theorem En.later {w w' : World} {A : Option Addr} {n c : Nat} {B : Option Addr} {m d : Nat} {D : Option Addr} {v q : Nat} {e : Ent} (h : En w A n c B m d D v q e) (hb : Below w.heap.size w w') : En w' A n c B m d D v q e := ⟨h.row.later hb, h.qual.later hb, h.val.later hb⟩
def stepC (a b : Ent) : Nat → Int
  | 0 => cmpB a.row b.row
  | 1 => cmpI a.fam b.fam
  | 2 => firstI (a.kind == 5) (b.kind == 5)
  | 3 => cmpB a.qual b.qual
  | 4 => firstI (a.kind == 4) (b.kind == 4)
  | 5 => cmpI b.ts a.ts
  | 6 => cmpI b.seq a.seq
  | _ => cmpI a.kind b.kind
theorem below_up {a b c : World} (h : Below a.heap.size a b) (k : Below b.heap.size b c) : Below a.heap.size a c := h.trans (k.mono h.size)
theorem two_boxes (w : World) : ∀ o o', Below w.heap.size w ((w.alloc o).alloc o') := fun o o' => ((Below.refl _ w).alloc (Nat.le_refl _) o).alloc (by simp) o'
set_option maxRecDepth 100000 in
set_option maxHeartbeats 1000000 in
theorem step1_any (a b : Ent) (A : Option Addr) (n c : Nat) (B : Option Addr) (m d : Nat) (D : Option Addr) (v q : Nat) (A' : Option Addr) (n' c' : Nat) (B' : Option Addr) (m' d' : Nat) (D' : Option Addr) (v' q' : Nat) (w : World) (ha : En w A n c B m d D v q a) (hb : En w A' n' c' B' m' d' D' v' q' b) :
    Calls Try.prog 77 #[entV A n c B m d D v q a, entV A' n' c' B' m' d' D' v' q' b] w fun e w1 => e = .returned (.int .i64 (stepC a b 0)) ∧ Below w.heap.size w w1 := by
  unfold entV
  have HB := Lib.hid (two_boxes w)
  have H1 : Hid (∀ w1, Below w.heap.size w w1 → Sl w1 A n c a.row) := Lib.hid fun w1 h => (ha.later h).row
  have H2 : Hid (∀ w1, Below w.heap.size w w1 → Sl w1 A' n' c' b.row) := Lib.hid fun w1 h => (hb.later h).row
  clear ha hb
  go_enter Try.func77, Try.ntmps77
  go_wp2_with (go_at_call 78; go_must (refine (bcmp_any a.row b.row _ _ _ _ _ _ _ (H1.out _ (HB.out _ _)).rb (H2.out _ (HB.out _ _)).rb).mono ?_; rintro e w1 ⟨rfl, rfl⟩))
  go_ret
  exact ⟨rfl, HB.out _ _⟩
set_option maxRecDepth 100000 in
set_option maxHeartbeats 1000000 in
theorem step2_any (a b : Ent) (A : Option Addr) (n c : Nat) (B : Option Addr) (m d : Nat) (D : Option Addr) (v q : Nat) (A' : Option Addr) (n' c' : Nat) (B' : Option Addr) (m' d' : Nat) (D' : Option Addr) (v' q' : Nat) (w : World) (_ha : En w A n c B m d D v q a) (_hb : En w A' n' c' B' m' d' D' v' q' b) :
    Calls Try.prog 79 #[entV A n c B m d D v q a, entV A' n' c' B' m' d' D' v' q' b] w fun e w1 => e = .returned (.int .i64 (stepC a b 1)) ∧ Below w.heap.size w w1 := by
  unfold entV
  have HB := Lib.hid (two_boxes w)
  clear _ha _hb
  go_enter Try.func79, Try.ntmps79
  go_wp2_with (go_at_call 80; go_must (refine (icmp_any _ _ _).mono ?_; rintro e w1 ⟨rfl, rfl⟩))
  go_ret
  exact ⟨rfl, HB.out _ _⟩
set_option maxRecDepth 100000 in
set_option maxHeartbeats 1000000 in
theorem step3_any (a b : Ent) (A : Option Addr) (n c : Nat) (B : Option Addr) (m d : Nat) (D : Option Addr) (v q : Nat) (A' : Option Addr) (n' c' : Nat) (B' : Option Addr) (m' d' : Nat) (D' : Option Addr) (v' q' : Nat) (w : World) (_ha : En w A n c B m d D v q a) (_hb : En w A' n' c' B' m' d' D' v' q' b) :
    Calls Try.prog 81 #[entV A n c B m d D v q a, entV A' n' c' B' m' d' D' v' q' b] w fun e w1 => e = .returned (.int .i64 (stepC a b 2)) ∧ Below w.heap.size w w1 := by
  unfold entV
  have HB := Lib.hid (two_boxes w)
  clear _ha _hb
  go_enter Try.func81, Try.ntmps81
  go_wp2_with (go_at_call 82; go_must (refine (cFirst_any _ _ _ _ _ _ _ _ _ _ _ _ _ _ _ _ _ _ _ _ _ _ _ _ _ _ _ _).mono ?_; rintro e w1 ⟨rfl, hb1⟩; have HB1 := Lib.hid (below_up (HB.out _ _) hb1); clear hb1))
  go_ret
  exact ⟨rfl, HB1.out⟩
set_option maxRecDepth 100000 in
set_option maxHeartbeats 1000000 in
theorem step4_any (a b : Ent) (A : Option Addr) (n c : Nat) (B : Option Addr) (m d : Nat) (D : Option Addr) (v q : Nat) (A' : Option Addr) (n' c' : Nat) (B' : Option Addr) (m' d' : Nat) (D' : Option Addr) (v' q' : Nat) (w : World) (ha : En w A n c B m d D v q a) (hb : En w A' n' c' B' m' d' D' v' q' b) :
    Calls Try.prog 83 #[entV A n c B m d D v q a, entV A' n' c' B' m' d' D' v' q' b] w fun e w1 => e = .returned (.int .i64 (stepC a b 3)) ∧ Below w.heap.size w w1 := by
  unfold entV
  have HB := Lib.hid (two_boxes w)
  have H1 : Hid (∀ w1, Below w.heap.size w w1 → Sl w1 B m d a.qual) := Lib.hid fun w1 h => (ha.later h).qual
  have H2 : Hid (∀ w1, Below w.heap.size w w1 → Sl w1 B' m' d' b.qual) := Lib.hid fun w1 h => (hb.later h).qual
  clear ha hb
  go_enter Try.func83, Try.ntmps83
  go_wp2_with (go_at_call 78; go_must (refine (bcmp_any a.qual b.qual _ _ _ _ _ _ _ (H1.out _ (HB.out _ _)).rb (H2.out _ (HB.out _ _)).rb).mono ?_; rintro e w1 ⟨rfl, rfl⟩))
  go_ret
  exact ⟨rfl, HB.out _ _⟩
set_option maxRecDepth 100000 in
set_option maxHeartbeats 1000000 in
theorem step5_any (a b : Ent) (A : Option Addr) (n c : Nat) (B : Option Addr) (m d : Nat) (D : Option Addr) (v q : Nat) (A' : Option Addr) (n' c' : Nat) (B' : Option Addr) (m' d' : Nat) (D' : Option Addr) (v' q' : Nat) (w : World) (_ha : En w A n c B m d D v q a) (_hb : En w A' n' c' B' m' d' D' v' q' b) :
    Calls Try.prog 84 #[entV A n c B m d D v q a, entV A' n' c' B' m' d' D' v' q' b] w fun e w1 => e = .returned (.int .i64 (stepC a b 4)) ∧ Below w.heap.size w w1 := by
  unfold entV
  have HB := Lib.hid (two_boxes w)
  clear _ha _hb
  go_enter Try.func84, Try.ntmps84
  go_wp2_with (go_at_call 82; go_must (refine (cFirst_any _ _ _ _ _ _ _ _ _ _ _ _ _ _ _ _ _ _ _ _ _ _ _ _ _ _ _ _).mono ?_; rintro e w1 ⟨rfl, hb1⟩; have HB1 := Lib.hid (below_up (HB.out _ _) hb1); clear hb1))
  go_ret
  exact ⟨rfl, HB1.out⟩
set_option maxRecDepth 100000 in
set_option maxHeartbeats 1000000 in
theorem step6_any (a b : Ent) (A : Option Addr) (n c : Nat) (B : Option Addr) (m d : Nat) (D : Option Addr) (v q : Nat) (A' : Option Addr) (n' c' : Nat) (B' : Option Addr) (m' d' : Nat) (D' : Option Addr) (v' q' : Nat) (w : World) (_ha : En w A n c B m d D v q a) (_hb : En w A' n' c' B' m' d' D' v' q' b) :
    Calls Try.prog 85 #[entV A n c B m d D v q a, entV A' n' c' B' m' d' D' v' q' b] w fun e w1 => e = .returned (.int .i64 (stepC a b 5)) ∧ Below w.heap.size w w1 := by
  unfold entV
  have HB := Lib.hid (two_boxes w)
  clear _ha _hb
  go_enter Try.func85, Try.ntmps85
  go_wp2_with (go_at_call 80; go_must (refine (icmp_any _ _ _).mono ?_; rintro e w1 ⟨rfl, rfl⟩))
  go_ret
  exact ⟨rfl, HB.out _ _⟩
set_option maxRecDepth 100000 in
set_option maxHeartbeats 1000000 in
theorem step7_any (a b : Ent) (A : Option Addr) (n c : Nat) (B : Option Addr) (m d : Nat) (D : Option Addr) (v q : Nat) (A' : Option Addr) (n' c' : Nat) (B' : Option Addr) (m' d' : Nat) (D' : Option Addr) (v' q' : Nat) (w : World) (_ha : En w A n c B m d D v q a) (_hb : En w A' n' c' B' m' d' D' v' q' b) :
    Calls Try.prog 86 #[entV A n c B m d D v q a, entV A' n' c' B' m' d' D' v' q' b] w fun e w1 => e = .returned (.int .i64 (stepC a b 6)) ∧ Below w.heap.size w w1 := by
  unfold entV
  have HB := Lib.hid (two_boxes w)
  clear _ha _hb
  go_enter Try.func86, Try.ntmps86
  go_wp2_with (go_at_call 80; go_must (refine (icmp_any _ _ _).mono ?_; rintro e w1 ⟨rfl, rfl⟩))
  go_ret
  exact ⟨rfl, HB.out _ _⟩
set_option maxRecDepth 100000 in
set_option maxHeartbeats 1000000 in
theorem step8_any (a b : Ent) (A : Option Addr) (n c : Nat) (B : Option Addr) (m d : Nat) (D : Option Addr) (v q : Nat) (A' : Option Addr) (n' c' : Nat) (B' : Option Addr) (m' d' : Nat) (D' : Option Addr) (v' q' : Nat) (w : World) (_ha : En w A n c B m d D v q a) (_hb : En w A' n' c' B' m' d' D' v' q' b) :
    Calls Try.prog 87 #[entV A n c B m d D v q a, entV A' n' c' B' m' d' D' v' q' b] w fun e w1 => e = .returned (.int .i64 (stepC a b 7)) ∧ Below w.heap.size w w1 := by
  unfold entV
  have HB := Lib.hid (two_boxes w)
  clear _ha _hb
  go_enter Try.func87, Try.ntmps87
  go_wp2_with (go_at_call 80; go_must (refine (icmp_any _ _ _).mono ?_; rintro e w1 ⟨rfl, rfl⟩))
  go_ret
  exact ⟨rfl, HB.out _ _⟩
set_option maxRecDepth 100000 in
set_option maxHeartbeats 1000000 in
theorem steps_any (w : World) : Calls Try.prog 54 #[] w fun e w1 => e = .returned (.agg #[.func (.func 77) #[] #[], .func (.func 79) #[] #[], .func (.func 81) #[] #[], .func (.func 83) #[] #[], .func (.func 84) #[] #[], .func (.func 85) #[] #[], .func (.func 86) #[] #[], .func (.func 87) #[] #[]]) ∧ Below w.heap.size w w1 := by
  go_enter Try.func54, Try.ntmps54
  go_wp2
  (try simp only [Exit.inBlock, Exit.then])
  refine bodyPost_ret (results_cell_row rfl _ _ w.heap.size 93 _ (0, 0) (.array 8 53) rfl (heap_alloc_new _ _) (by kernel_rfl) rfl (by kernel_rfl)) rfl ?_
  exact ⟨rfl, (Below.refl _ w).alloc (Nat.le_refl _) _⟩
theorem cmpE_first (a b : Ent) (k : Nat) (hk : k < 8) (h : ∀ i, i < k → stepC a b i = 0) (hn : stepC a b k ≠ 0) : stepC a b k = cmpE a b := by
  have z : ∀ i, i < k → stepC a b i = 0 := h
  have hc : cmpE a b = seqC (stepC a b 0) (seqC (stepC a b 1) (seqC (stepC a b 2) (seqC (stepC a b 3) (seqC (stepC a b 4) (seqC (stepC a b 5) (seqC (stepC a b 6) (stepC a b 7))))))) := rfl
  rw [hc]
  have hk' : k = 0 ∨ k = 1 ∨ k = 2 ∨ k = 3 ∨ k = 4 ∨ k = 5 ∨ k = 6 ∨ k = 7 := by omega
  rcases hk' with rfl | rfl | rfl | rfl | rfl | rfl | rfl | rfl
  · simp only [seqC, if_neg hn]
  · simp only [seqC, z 0 (by decide), if_true, if_neg hn]
  · simp only [seqC, z 0 (by decide), z 1 (by decide), if_true, if_neg hn]
  · simp only [seqC, z 0 (by decide), z 1 (by decide), z 2 (by decide), if_true, if_neg hn]
  · simp only [seqC, z 0 (by decide), z 1 (by decide), z 2 (by decide), z 3 (by decide), if_true, if_neg hn]
  · simp only [seqC, z 0 (by decide), z 1 (by decide), z 2 (by decide), z 3 (by decide), z 4 (by decide), if_true, if_neg hn]
  · simp only [seqC, z 0 (by decide), z 1 (by decide), z 2 (by decide), z 3 (by decide), z 4 (by decide), z 5 (by decide), if_true, if_neg hn]
  · simp only [seqC, z 0 (by decide), z 1 (by decide), z 2 (by decide), z 3 (by decide), z 4 (by decide), z 5 (by decide), z 6 (by decide), if_true]
theorem cmpE_none (a b : Ent) (h : ∀ i, i < 8 → stepC a b i = 0) : cmpE a b = 0 := by
  have hc : cmpE a b = seqC (stepC a b 0) (seqC (stepC a b 1) (seqC (stepC a b 2) (seqC (stepC a b 3) (seqC (stepC a b 4) (seqC (stepC a b 5) (seqC (stepC a b 6) (stepC a b 7))))))) := rfl
  rw [hc]
  simp only [seqC, h 0 (by decide), h 1 (by decide), h 2 (by decide), h 3 (by decide), h 4 (by decide), h 5 (by decide), h 6 (by decide), h 7 (by decide), if_true]
structure Two (w : World) (T : TypeId) (c1 c2 : Array Value) (x : World) : Prop where
  up : Below w.heap.size w x
  at1 : ∀ i v, c1[i]? = some v → x.cell? ⟨w.heap.size, i, none⟩ = some v
  at2 : ∀ i v, c2[i]? = some v → x.cell? ⟨w.heap.size + 1, i, none⟩ = some v
  size : w.heap.size + 2 ≤ x.heap.size
theorem Two.new (w : World) (T : TypeId) (c1 c2 : Array Value) : Two w T c1 c2 ((w.alloc (.cells c1 T)).alloc (.cells c2 T)) := by
  have s1 : (w.alloc (.cells c1 T)).heap.size = w.heap.size + 1 := by show (w.heap.push _).size = _; simp
  refine ⟨two_boxes w _ _, fun i v h => ?_, fun i v h => ?_, by show _ ≤ ((w.heap.push _).push _).size; simp⟩
  · rw [World.cell?_alloc_lt _ _ _ (by rw [s1]; exact Nat.lt_succ_self _)]
    simpa using h
  · rw [← s1]; simpa using h
theorem Two.later {w x y : World} {T : TypeId} {c1 c2 : Array Value} (h : Two w T c1 c2 x) (k : Below x.heap.size x y) : Two w T c1 c2 y := by
  have hs := h.size
  exact ⟨h.up.trans (k.mono h.up.size), fun i v e => (k.cell (p := ⟨w.heap.size, i, none⟩) (by show w.heap.size < x.heap.size; omega)).trans (h.at1 i v e),
    fun i v e => (k.cell (p := ⟨w.heap.size + 1, i, none⟩) (by show w.heap.size + 1 < x.heap.size; omega)).trans (h.at2 i v e), Nat.le_trans hs k.size⟩
theorem boxed1 {w x : World} {T : TypeId} {c1 c2 : Array Value} (h : Two w T c1 c2 x) {i : Nat} {v : Value} (e : c1[i]? = some v) : x.cell? ⟨w.heap.size, i, none⟩ = some v := h.at1 i v e
theorem boxed2 {w x : World} {T : TypeId} {c1 c2 : Array Value} (h : Two w T c1 c2 x) {i : Nat} {v : Value} (e : c2[i]? = some v) : x.cell? ⟨w.heap.size + 1, i, none⟩ = some v := h.at2 i v e
theorem below_keep2 {w x y : World} {T : TypeId} {c1 c2 : Array Value} (h : Two w T c1 c2 x) (k : Below x.heap.size x y) : Two w T c1 c2 y := h.later k
theorem below_of_two {w x : World} {T : TypeId} {c1 c2 : Array Value} (h : Two w T c1 c2 x) : Below w.heap.size w x := h.up
theorem idx0 (w : World) : (Instr.index 93 (.agg #[.func (.func 77) #[] #[], .func (.func 79) #[] #[], .func (.func 81) #[] #[], .func (.func 83) #[] #[], .func (.func 84) #[] #[], .func (.func 85) #[] #[], .func (.func 86) #[] #[], .func (.func 87) #[] #[]]) (.int .i64 0)).run Try.prog w = .ok (.func (.func 77) #[] #[]) w := run_index_arr w _ 53 8 _ 0 _ (by kernel_rfl) (by kernel_rfl) (by kernel_rfl) (by decide) rfl
theorem idx1 (w : World) : (Instr.index 93 (.agg #[.func (.func 77) #[] #[], .func (.func 79) #[] #[], .func (.func 81) #[] #[], .func (.func 83) #[] #[], .func (.func 84) #[] #[], .func (.func 85) #[] #[], .func (.func 86) #[] #[], .func (.func 87) #[] #[]]) (.int .i64 1)).run Try.prog w = .ok (.func (.func 79) #[] #[]) w := run_index_arr w _ 53 8 _ 1 _ (by kernel_rfl) (by kernel_rfl) (by kernel_rfl) (by decide) rfl
theorem idx2 (w : World) : (Instr.index 93 (.agg #[.func (.func 77) #[] #[], .func (.func 79) #[] #[], .func (.func 81) #[] #[], .func (.func 83) #[] #[], .func (.func 84) #[] #[], .func (.func 85) #[] #[], .func (.func 86) #[] #[], .func (.func 87) #[] #[]]) (.int .i64 2)).run Try.prog w = .ok (.func (.func 81) #[] #[]) w := run_index_arr w _ 53 8 _ 2 _ (by kernel_rfl) (by kernel_rfl) (by kernel_rfl) (by decide) rfl
theorem idx3 (w : World) : (Instr.index 93 (.agg #[.func (.func 77) #[] #[], .func (.func 79) #[] #[], .func (.func 81) #[] #[], .func (.func 83) #[] #[], .func (.func 84) #[] #[], .func (.func 85) #[] #[], .func (.func 86) #[] #[], .func (.func 87) #[] #[]]) (.int .i64 3)).run Try.prog w = .ok (.func (.func 83) #[] #[]) w := run_index_arr w _ 53 8 _ 3 _ (by kernel_rfl) (by kernel_rfl) (by kernel_rfl) (by decide) rfl
theorem idx4 (w : World) : (Instr.index 93 (.agg #[.func (.func 77) #[] #[], .func (.func 79) #[] #[], .func (.func 81) #[] #[], .func (.func 83) #[] #[], .func (.func 84) #[] #[], .func (.func 85) #[] #[], .func (.func 86) #[] #[], .func (.func 87) #[] #[]]) (.int .i64 4)).run Try.prog w = .ok (.func (.func 84) #[] #[]) w := run_index_arr w _ 53 8 _ 4 _ (by kernel_rfl) (by kernel_rfl) (by kernel_rfl) (by decide) rfl
theorem idx5 (w : World) : (Instr.index 93 (.agg #[.func (.func 77) #[] #[], .func (.func 79) #[] #[], .func (.func 81) #[] #[], .func (.func 83) #[] #[], .func (.func 84) #[] #[], .func (.func 85) #[] #[], .func (.func 86) #[] #[], .func (.func 87) #[] #[]]) (.int .i64 5)).run Try.prog w = .ok (.func (.func 85) #[] #[]) w := run_index_arr w _ 53 8 _ 5 _ (by kernel_rfl) (by kernel_rfl) (by kernel_rfl) (by decide) rfl
theorem idx6 (w : World) : (Instr.index 93 (.agg #[.func (.func 77) #[] #[], .func (.func 79) #[] #[], .func (.func 81) #[] #[], .func (.func 83) #[] #[], .func (.func 84) #[] #[], .func (.func 85) #[] #[], .func (.func 86) #[] #[], .func (.func 87) #[] #[]]) (.int .i64 6)).run Try.prog w = .ok (.func (.func 86) #[] #[]) w := run_index_arr w _ 53 8 _ 6 _ (by kernel_rfl) (by kernel_rfl) (by kernel_rfl) (by decide) rfl
theorem idx7 (w : World) : (Instr.index 93 (.agg #[.func (.func 77) #[] #[], .func (.func 79) #[] #[], .func (.func 81) #[] #[], .func (.func 83) #[] #[], .func (.func 84) #[] #[], .func (.func 85) #[] #[], .func (.func 86) #[] #[], .func (.func 87) #[] #[]]) (.int .i64 7)).run Try.prog w = .ok (.func (.func 87) #[] #[]) w := run_index_arr w _ 53 8 _ 7 _ (by kernel_rfl) (by kernel_rfl) (by kernel_rfl) (by decide) rfl
theorem Hid.map {p q : Prop} (h : Hid p) (f : p → q) : Hid q := Lib.hid (f h.out)
set_option maxRecDepth 100000 in
set_option maxHeartbeats 4000000 in
theorem compare_any (a b : Ent) (A : Option Addr) (n c : Nat) (B : Option Addr) (m d : Nat) (D : Option Addr) (v q : Nat) (A' : Option Addr) (n' c' : Nat) (B' : Option Addr) (m' d' : Nat) (D' : Option Addr) (v' q' : Nat) (w : World) (ha : En w A n c B m d D v q a) (hb : En w A' n' c' B' m' d' D' v' q' b) :
    Calls Try.prog 27 #[entV A n c B m d D v q a, entV A' n' c' B' m' d' D' v' q' b] w fun e w1 => e = .returned (.int .i64 (cmpE a b)) ∧ Below w.heap.size w w1 := by
  have HA : Hid (∀ w1, Below w.heap.size w w1 → En w1 A n c B m d D v q a) := Lib.hid fun _ h => ha.later h
  have HC : Hid (∀ w1, Below w.heap.size w w1 → En w1 A' n' c' B' m' d' D' v' q' b) := Lib.hid fun _ h => hb.later h
  have HT := Lib.hid (Two.new w 30 #[.slice A n c, .int .i64 a.fam, .slice B m d, .int .i64 a.ts, .int .i64 a.seq, .int .i64 a.kind, .slice D v q] #[.slice A' n' c', .int .i64 b.fam, .slice B' m' d', .int .i64 b.ts, .int .i64 b.seq, .int .i64 b.kind, .slice D' v' q'])
  unfold entV
  clear ha hb
  go_enter Try.func27, Try.ntmps27
  go_wp2_with (go_at_call 54; refine (steps_any _).mono ?_; rintro e w1 ⟨rfl, hb1⟩; have HB1 := Lib.hid (below_keep2 HT.out hb1); clear hb1 HT)
  go_loopw [9] (fun i wr => ∃ k : Nat, k ≤ 8 ∧ i = .int .i64 k ∧ Hid (∀ i, i < k → stepC a b i = 0) ∧ Hid (Two w 30 #[.slice A n c, .int .i64 a.fam, .slice B m d, .int .i64 a.ts, .int .i64 a.seq, .int .i64 a.kind, .slice D v q] #[.slice A' n' c', .int .i64 b.fam, .slice B' m' d', .int .i64 b.ts, .int .i64 b.seq, .int .i64 b.kind, .slice D' v' q'] wr)) (fun i _ => 8 - (intOf i).toNat)
  case atStart => exact ⟨0, by decide, rfl, Lib.hid fun i hi => absurd hi (Nat.not_lt_zero _), HB1⟩
  case round =>
    obtain ⟨k, hk, hi, HF, HW⟩ := hrel
    have HE := Lib.hid (below_of_two HW.out)
    have c10 := boxed1 HW.out (i := 0) (v := .slice A n c) rfl
    have c20 := boxed2 HW.out (i := 0) (v := .slice A' n' c') rfl
    have c11 := boxed1 HW.out (i := 1) (v := .int .i64 a.fam) rfl
    have c21 := boxed2 HW.out (i := 1) (v := .int .i64 b.fam) rfl
    have c12 := boxed1 HW.out (i := 2) (v := .slice B m d) rfl
    have c22 := boxed2 HW.out (i := 2) (v := .slice B' m' d') rfl
    have c13 := boxed1 HW.out (i := 3) (v := .int .i64 a.ts) rfl
    have c23 := boxed2 HW.out (i := 3) (v := .int .i64 b.ts) rfl
    have c14 := boxed1 HW.out (i := 4) (v := .int .i64 a.seq) rfl
    have c24 := boxed2 HW.out (i := 4) (v := .int .i64 b.seq) rfl
    have c15 := boxed1 HW.out (i := 5) (v := .int .i64 a.kind) rfl
    have c25 := boxed2 HW.out (i := 5) (v := .int .i64 b.kind) rfl
    have c16 := boxed1 HW.out (i := 6) (v := .slice D v q) rfl
    have c26 := boxed2 HW.out (i := 6) (v := .slice D' v' q') rfl
    clear HB1
    have hk' : k = 0 ∨ k = 1 ∨ k = 2 ∨ k = 3 ∨ k = 4 ∨ k = 5 ∨ k = 6 ∨ k = 7 ∨ k = 8 := by omega
    clear hk
    rcases hk' with rfl | rfl | rfl | rfl | rfl | rfl | rfl | rfl | rfl
    case inr.inr.inr.inr.inr.inr.inr.inr =>
      replace hi : _ = Value.int .i64 8 := hi
      subst hi
      have HZ := Lib.hid (cmpE_none a b HF.out)
      clear HF HA HC
      go_wp2
      go_ret
      exact ⟨by rw [HZ.out]; rfl, below_of_two HW.out⟩
    case inl =>
      replace hi : _ = Value.int .i64 0 := hi
      subst hi
      have S : ∀ (z : Unit) (_ : Hid True), Calls Try.prog 77 #[.agg #[.slice A n c, .int .i64 a.fam, .slice B m d, .int .i64 a.ts, .int .i64 a.seq, .int .i64 a.kind, .slice D v q], .agg #[.slice A' n' c', .int .i64 b.fam, .slice B' m' d', .int .i64 b.ts, .int .i64 b.seq, .int .i64 b.kind, .slice D' v' q']] wr (fun e w1 => e = .returned (.int .i64 (stepC a b 0)) ∧ Below wr.heap.size wr w1) := fun _ _ => step1_any a b _ _ _ _ _ _ _ _ _ _ _ _ _ _ _ _ _ _ wr (HA.out wr HE.out) (HC.out wr HE.out)
      clear HA HC
      have ix := fun w => idx0 w
      by_cases hz : stepC a b 0 = 0
      · have HZ : Hid (∀ i, i < 1 → stepC a b i = 0) := Lib.hid fun i hi => if h : i = 0 then h ▸ hz else HF.out i (by omega)
        rw [hz] at S
        clear hz HF
        go_wp2_with (go_at_call 77; go_must (refine (S () (Lib.hid trivial)).mono ?_); rintro e w2 ⟨rfl, hb2⟩; have HB2 := Lib.hid (below_keep2 HW.out hb2); clear hb2)
        go_roundw
        case measure => decide
        case rel => exact ⟨1, by omega, rfl, HZ, HB2⟩
      · have HZ := Lib.hid (cmpE_first a b 0 (by decide) HF.out hz)
        have t1 : (stepC a b 0 == 0) = false := by simpa using hz
        have t2 : (stepC a b 0 != 0) = true := by simpa using hz
        clear HF hz
        generalize stepC a b 0 = z at S t1 t2 HZ
        go_wp2_with (go_at_call 77; go_must (refine (S () (Lib.hid trivial)).mono ?_); rintro e w2 ⟨rfl, hb2⟩; have HB2 := Lib.hid (below_keep2 HW.out hb2); clear hb2)
        go_ret
        exact ⟨by rw [← HZ.out]; rfl, below_of_two HB2.out⟩
    case inr.inl =>
      replace hi : _ = Value.int .i64 1 := hi
      subst hi
      have S : ∀ (z : Unit) (_ : Hid True), Calls Try.prog 79 #[.agg #[.slice A n c, .int .i64 a.fam, .slice B m d, .int .i64 a.ts, .int .i64 a.seq, .int .i64 a.kind, .slice D v q], .agg #[.slice A' n' c', .int .i64 b.fam, .slice B' m' d', .int .i64 b.ts, .int .i64 b.seq, .int .i64 b.kind, .slice D' v' q']] wr (fun e w1 => e = .returned (.int .i64 (stepC a b 1)) ∧ Below wr.heap.size wr w1) := fun _ _ => step2_any a b _ _ _ _ _ _ _ _ _ _ _ _ _ _ _ _ _ _ wr (HA.out wr HE.out) (HC.out wr HE.out)
      clear HA HC
      have ix := fun w => idx1 w
      by_cases hz : stepC a b 1 = 0
      · have HZ : Hid (∀ i, i < 2 → stepC a b i = 0) := Lib.hid fun i hi => if h : i = 1 then h ▸ hz else HF.out i (by omega)
        rw [hz] at S
        clear hz HF
        go_wp2_with (go_at_call 79; go_must (refine (S () (Lib.hid trivial)).mono ?_); rintro e w2 ⟨rfl, hb2⟩; have HB2 := Lib.hid (below_keep2 HW.out hb2); clear hb2)
        go_roundw
        case measure => decide
        case rel => exact ⟨2, by omega, rfl, HZ, HB2⟩
      · have HZ := Lib.hid (cmpE_first a b 1 (by decide) HF.out hz)
        have t1 : (stepC a b 1 == 0) = false := by simpa using hz
        have t2 : (stepC a b 1 != 0) = true := by simpa using hz
        clear HF hz
        generalize stepC a b 1 = z at S t1 t2 HZ
        go_wp2_with (go_at_call 79; go_must (refine (S () (Lib.hid trivial)).mono ?_); rintro e w2 ⟨rfl, hb2⟩; have HB2 := Lib.hid (below_keep2 HW.out hb2); clear hb2)
        go_ret
        exact ⟨by rw [← HZ.out]; rfl, below_of_two HB2.out⟩
    case inr.inr.inl =>
      replace hi : _ = Value.int .i64 2 := hi
      subst hi
      have S : ∀ (z : Unit) (_ : Hid True), Calls Try.prog 81 #[.agg #[.slice A n c, .int .i64 a.fam, .slice B m d, .int .i64 a.ts, .int .i64 a.seq, .int .i64 a.kind, .slice D v q], .agg #[.slice A' n' c', .int .i64 b.fam, .slice B' m' d', .int .i64 b.ts, .int .i64 b.seq, .int .i64 b.kind, .slice D' v' q']] wr (fun e w1 => e = .returned (.int .i64 (stepC a b 2)) ∧ Below wr.heap.size wr w1) := fun _ _ => step3_any a b _ _ _ _ _ _ _ _ _ _ _ _ _ _ _ _ _ _ wr (HA.out wr HE.out) (HC.out wr HE.out)
      clear HA HC
      have ix := fun w => idx2 w
      by_cases hz : stepC a b 2 = 0
      · have HZ : Hid (∀ i, i < 3 → stepC a b i = 0) := Lib.hid fun i hi => if h : i = 2 then h ▸ hz else HF.out i (by omega)
        rw [hz] at S
        clear hz HF
        go_wp2_with (go_at_call 81; go_must (refine (S () (Lib.hid trivial)).mono ?_); rintro e w2 ⟨rfl, hb2⟩; have HB2 := Lib.hid (below_keep2 HW.out hb2); clear hb2)
        go_roundw
        case measure => decide
        case rel => exact ⟨3, by omega, rfl, HZ, HB2⟩
      · have HZ := Lib.hid (cmpE_first a b 2 (by decide) HF.out hz)
        have t1 : (stepC a b 2 == 0) = false := by simpa using hz
        have t2 : (stepC a b 2 != 0) = true := by simpa using hz
        clear HF hz
        generalize stepC a b 2 = z at S t1 t2 HZ
        go_wp2_with (go_at_call 81; go_must (refine (S () (Lib.hid trivial)).mono ?_); rintro e w2 ⟨rfl, hb2⟩; have HB2 := Lib.hid (below_keep2 HW.out hb2); clear hb2)
        go_ret
        exact ⟨by rw [← HZ.out]; rfl, below_of_two HB2.out⟩
    case inr.inr.inr.inl =>
      replace hi : _ = Value.int .i64 3 := hi
      subst hi
      have S : ∀ (z : Unit) (_ : Hid True), Calls Try.prog 83 #[.agg #[.slice A n c, .int .i64 a.fam, .slice B m d, .int .i64 a.ts, .int .i64 a.seq, .int .i64 a.kind, .slice D v q], .agg #[.slice A' n' c', .int .i64 b.fam, .slice B' m' d', .int .i64 b.ts, .int .i64 b.seq, .int .i64 b.kind, .slice D' v' q']] wr (fun e w1 => e = .returned (.int .i64 (stepC a b 3)) ∧ Below wr.heap.size wr w1) := fun _ _ => step4_any a b _ _ _ _ _ _ _ _ _ _ _ _ _ _ _ _ _ _ wr (HA.out wr HE.out) (HC.out wr HE.out)
      clear HA HC
      have ix := fun w => idx3 w
      by_cases hz : stepC a b 3 = 0
      · have HZ : Hid (∀ i, i < 4 → stepC a b i = 0) := Lib.hid fun i hi => if h : i = 3 then h ▸ hz else HF.out i (by omega)
        rw [hz] at S
        clear hz HF
        go_wp2_with (go_at_call 83; go_must (refine (S () (Lib.hid trivial)).mono ?_); rintro e w2 ⟨rfl, hb2⟩; have HB2 := Lib.hid (below_keep2 HW.out hb2); clear hb2)
        go_roundw
        case measure => decide
        case rel => exact ⟨4, by omega, rfl, HZ, HB2⟩
      · have HZ := Lib.hid (cmpE_first a b 3 (by decide) HF.out hz)
        have t1 : (stepC a b 3 == 0) = false := by simpa using hz
        have t2 : (stepC a b 3 != 0) = true := by simpa using hz
        clear HF hz
        generalize stepC a b 3 = z at S t1 t2 HZ
        go_wp2_with (go_at_call 83; go_must (refine (S () (Lib.hid trivial)).mono ?_); rintro e w2 ⟨rfl, hb2⟩; have HB2 := Lib.hid (below_keep2 HW.out hb2); clear hb2)
        go_ret
        exact ⟨by rw [← HZ.out]; rfl, below_of_two HB2.out⟩
    case inr.inr.inr.inr.inl =>
      replace hi : _ = Value.int .i64 4 := hi
      subst hi
      have S : ∀ (z : Unit) (_ : Hid True), Calls Try.prog 84 #[.agg #[.slice A n c, .int .i64 a.fam, .slice B m d, .int .i64 a.ts, .int .i64 a.seq, .int .i64 a.kind, .slice D v q], .agg #[.slice A' n' c', .int .i64 b.fam, .slice B' m' d', .int .i64 b.ts, .int .i64 b.seq, .int .i64 b.kind, .slice D' v' q']] wr (fun e w1 => e = .returned (.int .i64 (stepC a b 4)) ∧ Below wr.heap.size wr w1) := fun _ _ => step5_any a b _ _ _ _ _ _ _ _ _ _ _ _ _ _ _ _ _ _ wr (HA.out wr HE.out) (HC.out wr HE.out)
      clear HA HC
      have ix := fun w => idx4 w
      by_cases hz : stepC a b 4 = 0
      · have HZ : Hid (∀ i, i < 5 → stepC a b i = 0) := Lib.hid fun i hi => if h : i = 4 then h ▸ hz else HF.out i (by omega)
        rw [hz] at S
        clear hz HF
        go_wp2_with (go_at_call 84; go_must (refine (S () (Lib.hid trivial)).mono ?_); rintro e w2 ⟨rfl, hb2⟩; have HB2 := Lib.hid (below_keep2 HW.out hb2); clear hb2)
        go_roundw
        case measure => decide
        case rel => exact ⟨5, by omega, rfl, HZ, HB2⟩
      · have HZ := Lib.hid (cmpE_first a b 4 (by decide) HF.out hz)
        have t1 : (stepC a b 4 == 0) = false := by simpa using hz
        have t2 : (stepC a b 4 != 0) = true := by simpa using hz
        clear HF hz
        generalize stepC a b 4 = z at S t1 t2 HZ
        go_wp2_with (go_at_call 84; go_must (refine (S () (Lib.hid trivial)).mono ?_); rintro e w2 ⟨rfl, hb2⟩; have HB2 := Lib.hid (below_keep2 HW.out hb2); clear hb2)
        go_ret
        exact ⟨by rw [← HZ.out]; rfl, below_of_two HB2.out⟩
    case inr.inr.inr.inr.inr.inl =>
      replace hi : _ = Value.int .i64 5 := hi
      subst hi
      have S : ∀ (z : Unit) (_ : Hid True), Calls Try.prog 85 #[.agg #[.slice A n c, .int .i64 a.fam, .slice B m d, .int .i64 a.ts, .int .i64 a.seq, .int .i64 a.kind, .slice D v q], .agg #[.slice A' n' c', .int .i64 b.fam, .slice B' m' d', .int .i64 b.ts, .int .i64 b.seq, .int .i64 b.kind, .slice D' v' q']] wr (fun e w1 => e = .returned (.int .i64 (stepC a b 5)) ∧ Below wr.heap.size wr w1) := fun _ _ => step6_any a b _ _ _ _ _ _ _ _ _ _ _ _ _ _ _ _ _ _ wr (HA.out wr HE.out) (HC.out wr HE.out)
      clear HA HC
      have ix := fun w => idx5 w
      by_cases hz : stepC a b 5 = 0
      · have HZ : Hid (∀ i, i < 6 → stepC a b i = 0) := Lib.hid fun i hi => if h : i = 5 then h ▸ hz else HF.out i (by omega)
        rw [hz] at S
        clear hz HF
        go_wp2_with (go_at_call 85; go_must (refine (S () (Lib.hid trivial)).mono ?_); rintro e w2 ⟨rfl, hb2⟩; have HB2 := Lib.hid (below_keep2 HW.out hb2); clear hb2)
        go_roundw
        case measure => decide
        case rel => exact ⟨6, by omega, rfl, HZ, HB2⟩
      · have HZ := Lib.hid (cmpE_first a b 5 (by decide) HF.out hz)
        have t1 : (stepC a b 5 == 0) = false := by simpa using hz
        have t2 : (stepC a b 5 != 0) = true := by simpa using hz
        clear HF hz
        generalize stepC a b 5 = z at S t1 t2 HZ
        go_wp2_with (go_at_call 85; go_must (refine (S () (Lib.hid trivial)).mono ?_); rintro e w2 ⟨rfl, hb2⟩; have HB2 := Lib.hid (below_keep2 HW.out hb2); clear hb2)
        go_ret
        exact ⟨by rw [← HZ.out]; rfl, below_of_two HB2.out⟩
    case inr.inr.inr.inr.inr.inr.inl =>
      replace hi : _ = Value.int .i64 6 := hi
      subst hi
      have S : ∀ (z : Unit) (_ : Hid True), Calls Try.prog 86 #[.agg #[.slice A n c, .int .i64 a.fam, .slice B m d, .int .i64 a.ts, .int .i64 a.seq, .int .i64 a.kind, .slice D v q], .agg #[.slice A' n' c', .int .i64 b.fam, .slice B' m' d', .int .i64 b.ts, .int .i64 b.seq, .int .i64 b.kind, .slice D' v' q']] wr (fun e w1 => e = .returned (.int .i64 (stepC a b 6)) ∧ Below wr.heap.size wr w1) := fun _ _ => step7_any a b _ _ _ _ _ _ _ _ _ _ _ _ _ _ _ _ _ _ wr (HA.out wr HE.out) (HC.out wr HE.out)
      clear HA HC
      have ix := fun w => idx6 w
      by_cases hz : stepC a b 6 = 0
      · have HZ : Hid (∀ i, i < 7 → stepC a b i = 0) := Lib.hid fun i hi => if h : i = 6 then h ▸ hz else HF.out i (by omega)
        rw [hz] at S
        clear hz HF
        go_wp2_with (go_at_call 86; go_must (refine (S () (Lib.hid trivial)).mono ?_); rintro e w2 ⟨rfl, hb2⟩; have HB2 := Lib.hid (below_keep2 HW.out hb2); clear hb2)
        go_roundw
        case measure => decide
        case rel => exact ⟨7, by omega, rfl, HZ, HB2⟩
      · have HZ := Lib.hid (cmpE_first a b 6 (by decide) HF.out hz)
        have t1 : (stepC a b 6 == 0) = false := by simpa using hz
        have t2 : (stepC a b 6 != 0) = true := by simpa using hz
        clear HF hz
        generalize stepC a b 6 = z at S t1 t2 HZ
        go_wp2_with (go_at_call 86; go_must (refine (S () (Lib.hid trivial)).mono ?_); rintro e w2 ⟨rfl, hb2⟩; have HB2 := Lib.hid (below_keep2 HW.out hb2); clear hb2)
        go_ret
        exact ⟨by rw [← HZ.out]; rfl, below_of_two HB2.out⟩
    case inr.inr.inr.inr.inr.inr.inr.inl =>
      replace hi : _ = Value.int .i64 7 := hi
      subst hi
      have S : ∀ (z : Unit) (_ : Hid True), Calls Try.prog 87 #[.agg #[.slice A n c, .int .i64 a.fam, .slice B m d, .int .i64 a.ts, .int .i64 a.seq, .int .i64 a.kind, .slice D v q], .agg #[.slice A' n' c', .int .i64 b.fam, .slice B' m' d', .int .i64 b.ts, .int .i64 b.seq, .int .i64 b.kind, .slice D' v' q']] wr (fun e w1 => e = .returned (.int .i64 (stepC a b 7)) ∧ Below wr.heap.size wr w1) := fun _ _ => step8_any a b _ _ _ _ _ _ _ _ _ _ _ _ _ _ _ _ _ _ wr (HA.out wr HE.out) (HC.out wr HE.out)
      clear HA HC
      have ix := fun w => idx7 w
      by_cases hz : stepC a b 7 = 0
      · have HZ : Hid (∀ i, i < 8 → stepC a b i = 0) := Lib.hid fun i hi => if h : i = 7 then h ▸ hz else HF.out i (by omega)
        rw [hz] at S
        clear hz HF
        go_wp2_with (go_at_call 87; go_must (refine (S () (Lib.hid trivial)).mono ?_); rintro e w2 ⟨rfl, hb2⟩; have HB2 := Lib.hid (below_keep2 HW.out hb2); clear hb2)
        go_roundw
        case measure => decide
        case rel => exact ⟨8, by omega, rfl, HZ, HB2⟩
      · have HZ := Lib.hid (cmpE_first a b 7 (by decide) HF.out hz)
        have t1 : (stepC a b 7 == 0) = false := by simpa using hz
        have t2 : (stepC a b 7 != 0) = true := by simpa using hz
        clear HF hz
        generalize stepC a b 7 = z at S t1 t2 HZ
        go_wp2_with (go_at_call 87; go_must (refine (S () (Lib.hid trivial)).mono ?_); rintro e w2 ⟨rfl, hb2⟩; have HB2 := Lib.hid (below_keep2 HW.out hb2); clear hb2)
        go_ret
        exact ⟨by rw [← HZ.out]; rfl, below_of_two HB2.out⟩
end Go.Proofs.Ytdaoinhkagmbdaa
namespace Go.Proofs.Ytdaoinhkagmbdaa
open Go.RowKit
section
variable {w x y : World} {A : Option Addr} {n c : Nat} {l : List UInt8} {row row' : Option Nat}
theorem Reads.apart {_B size : Nat} {xs : List Value} (h : Reads w w.heap.size size A n xs) (hg : w.grownBy y row) (hne : 0 < n → ∀ a, A = some a → some a.block ≠ row) : Reads y y.heap.size size A n xs :=
  ⟨h.1, fun hn => by
    obtain ⟨b, o, rfl, hb, hc⟩ := h.2 hn
    refine ⟨b, o, rfl, Nat.lt_of_lt_of_le hb hg.size, fun j u hu => ?_⟩
    have e : y.cell? ⟨b, o + j, none⟩ = w.cell? ⟨b, o + j, none⟩ := World.cell?_of_block (hg.block b hb (fun e => hne hn _ rfl (e ▸ rfl)))
    exact e.trans (hc j u hu)⟩
theorem Sl.apart (h : Sl w A n c l) (hg : w.grownBy y row) (hne : 0 < n → ∀ a, A = some a → some a.block ≠ row) : Sl y A n c l :=
  ⟨Reads.apart (_B := 0) h.rb hg hne, h.cap, h.lim, h.nil⟩
theorem Sl.block_lt (h : Sl w A n c l) (hn : 0 < n) : ∀ a, A = some a → a.block < w.heap.size := by
  intro a ha
  obtain ⟨b, o, e, hb, _⟩ := h.rb.2 hn
  rw [ha] at e; injection e with e; subst e; exact hb
end
def Fam (w : World) (row : Option Nat) (vs : List Value) (ks : List (List UInt8)) (more : List UInt8) : Prop :=
  vs.length = ks.length ∧ ∀ (i : Nat) (k : List UInt8), ks[i]? = some k → ∃ (a : Option Addr) (c : Nat), vs[i]? = some (.slice a k.length c) ∧ Sl w a (k.length + more.length) c (k ++ more) ∧ ∀ x, a = some x → some x.block ≠ row
section
variable {w x y : World} {row row' : Option Nat} {vs : List Value} {ks : List (List UInt8)} {more : List UInt8}
theorem Fam.nil : Fam w row [] [] more := ⟨rfl, fun i k h => by simp at h⟩
theorem Fam.later (h : Fam w row vs ks more) (hb : Below w.heap.size w x) : Fam x row vs ks more :=
  ⟨h.1, fun i k hk => by obtain ⟨a, c, q1, q2, q3⟩ := h.2 i k hk; exact ⟨a, c, q1, q2.later hb, q3⟩⟩
theorem Fam.step (h : Fam w row vs ks more) (hm : 0 < more.length) (hg : w.grownBy x row) (hr : row' = row ∨ row' = some w.heap.size) : Fam x row' vs ks more :=
  ⟨h.1, fun i k hk => by
    obtain ⟨a, c, q1, q2, q3⟩ := h.2 i k hk
    refine ⟨a, c, q1, q2.apart hg (fun _ => q3), fun z hz => ?_⟩
    rcases hr with rfl | rfl
    · exact q3 z hz
    · have := q2.block_lt (by omega) z hz
      intro e; injection e with e; omega⟩
theorem Fam.snoc (h : Fam w row vs ks more) {a : Option Addr} {c : Nat} {k : List UInt8} (hs : Sl w a (k.length + more.length) c (k ++ more)) (hne : ∀ x, a = some x → some x.block ≠ row) : Fam w row (vs ++ [.slice a k.length c]) (ks ++ [k]) more := by
  refine ⟨by simp [h.1], fun i q hq => ?_⟩
  rw [List.getElem?_append] at hq ⊢
  rw [h.1]
  split at hq
  · rename_i hi
    rw [if_pos hi]; exact h.2 i q hq
  · rename_i hi
    rw [if_neg hi]
    have h0 : i - ks.length = 0 := by
      have := (List.getElem?_eq_some_iff.1 hq).1
      simp at this; omega
    rw [h0] at hq ⊢
    injection hq with hq; subst hq
    exact ⟨a, c, rfl, hs, hne⟩
theorem Fam.kv (h : Fam w row vs ks more) : KV w w.heap.size vs ks :=
  ⟨h.1, fun i k hk => by
    obtain ⟨a, c, q1, q2, _⟩ := h.2 i k hk
    have := q2.take (m := k.length) (by omega)
    rw [List.take_left' rfl] at this
    exact ⟨a, c, q1, this.cap, this.lim, this.nil, this.rb⟩⟩
theorem Fam.at_ (h : Fam w row vs ks more) {i : Nat} {k : List UInt8} (hk : ks[i]? = some k) : ∃ a c, vs[i]? = some (.slice a k.length c) ∧ Sl w a (k.length + more.length) c (k ++ more) := by
  obtain ⟨a, c, q1, q2, _⟩ := h.2 i k hk
  exact ⟨a, c, q1, q2⟩
end
theorem own_row_lt {w : World} {base e size n : Nat} {v : Value} {xs : List Value} (h : w.ownsRow base e size v n xs) : ∀ g, v.ownBlock = some g → g < w.heap.size := fun g hg => (World.ownsRow.lt h g hg).2
end Go.Proofs.Ytdaoinhkagmbdaa
