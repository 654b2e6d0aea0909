/-
  The kits, laid together.
-/
import Derived.Test.YtbcljgcilbfblaaDoorKit4
import Derived.Laws.OwnMore
import Derived.Deep.MidRow
import Derived.Deep.RegionHeld3
import Derived.Great.BuildSlice
namespace Go.Proofs.YtbcljgcilbfblaaDoor
open Go.RowKit
theorem run_sizeOf_of {P : Program} {t : TypeId} {n : Nat} (h : (P.info? t).map (·.size) = some n) (w : World) : (sizeOf t).run P w = .ok n w := by
  cases hd : P.info? t with
  | none => rw [hd] at h; cases h
  | some i =>
    rw [hd] at h
    injection h with h
    simp [sizeOf, typeInfo, hd, h]
theorem run_isAgg_of {P : Program} {t : TypeId} {b : Bool} (h : (P.underlying t).map (fun d => match d with | .struct _ | .array _ _ => true | _ => false) = some b) (w : World) : (isAgg t).run P w = .ok b w := by
  cases hd : P.underlying t with
  | none => rw [hd] at h; cases h
  | some d =>
    rw [hd] at h
    unfold isAgg
    rw [Sem.run_bind, run_underlying hd w]
    cases d <;> simp_all
theorem run_index_arr {P : Program} (w : World) (t e : TypeId) (n : Nat) (cs : Array Value) (k : Nat) (v : Value) (ht : P.underlying t = some (.array n e)) (hs : (P.info? e).map (·.size) = some 1)
    (ha : (P.underlying e).map (fun d => match d with | .struct _ | .array _ _ => true | _ => false) = some false) (hk : k < n) (hv : cs[k]? = some v) :
    (Instr.index t (.agg cs) (.int .i64 (k : Int))).run P w = .ok v w := by
  have hs := run_sizeOf_of hs w
  have ha := run_isAgg_of ha w
  unfold Instr.index
  simp [asIntOf, Sem.run_bind, run_underlying ht, hs, part, ha, hk, hv]
end Go.Proofs.YtbcljgcilbfblaaDoor

namespace Go.Proofs.YtbcljgcilbfblaaDoor
open Go.RowKit

section
variable {w x y : World} {A : Option Addr} {n c : Nat} {l : List UInt8} {row row' : Option Nat}
theorem Reads.apart {_B size : Nat} {xs : List Value} (h : Reads w w.heap.size size A n xs) (hg : w.grownBy y row) (hne : 0 < n → ∀ a, A = some a → some a.block ≠ row) : Reads y y.heap.size size A n xs :=
  ⟨h.1, fun hn => by
    obtain ⟨b, o, rfl, hb, hc⟩ := h.2 hn
    refine ⟨b, o, rfl, Nat.lt_of_lt_of_le hb hg.size, fun j u hu => ?_⟩
    have e : y.cell? ⟨b, o + j, none⟩ = w.cell? ⟨b, o + j, none⟩ := World.cell?_of_block (hg.block b hb (fun e => hne hn _ rfl (e ▸ rfl)))
    exact e.trans (hc j u hu)⟩
theorem Sl.apart (h : Sl w A n c l) (hg : w.grownBy y row) (hne : 0 < n → ∀ a, A = some a → some a.block ≠ row) : Sl y A n c l :=
  ⟨Reads.apart (_B := 0) h.rb hg hne, h.cap, h.lim, h.nil⟩
theorem Sl.block_lt (h : Sl w A n c l) (hn : 0 < n) : ∀ a, A = some a → a.block < w.heap.size := by
  intro a ha
  obtain ⟨b, o, e, hb, _⟩ := h.rb.2 hn
  rw [ha] at e; injection e with e; subst e; exact hb
end

/-- Slices that read as the lists, each with the same marks behind it; none lies in the row. -/
def Fam (w : World) (row : Option Nat) (vs : List Value) (ks : List (List UInt8)) (more : List UInt8) : Prop :=
  vs.length = ks.length ∧ ∀ (i : Nat) (k : List UInt8), ks[i]? = some k → ∃ (a : Option Addr) (c : Nat), vs[i]? = some (.slice a k.length c) ∧ Sl w a (k.length + more.length) c (k ++ more) ∧ ∀ x, a = some x → some x.block ≠ row
section
variable {w x y : World} {row row' : Option Nat} {vs : List Value} {ks : List (List UInt8)} {more : List UInt8}
theorem Fam.nil : Fam w row [] [] more := ⟨rfl, fun i k h => by simp at h⟩
theorem Fam.later (h : Fam w row vs ks more) (hb : Below w.heap.size w x) : Fam x row vs ks more :=
  ⟨h.1, fun i k hk => by obtain ⟨a, c, q1, q2, q3⟩ := h.2 i k hk; exact ⟨a, c, q1, q2.later hb, q3⟩⟩
theorem Fam.step (h : Fam w row vs ks more) (hm : 0 < more.length) (hg : w.grownBy x row) (hr : row' = row ∨ row' = some w.heap.size) : Fam x row' vs ks more :=
  ⟨h.1, fun i k hk => by
    obtain ⟨a, c, q1, q2, q3⟩ := h.2 i k hk
    refine ⟨a, c, q1, q2.apart hg (fun _ => q3), fun z hz => ?_⟩
    rcases hr with rfl | rfl
    · exact q3 z hz
    · have := q2.block_lt (by omega) z hz
      intro e; injection e with e; omega⟩
theorem Fam.snoc (h : Fam w row vs ks more) {a : Option Addr} {c : Nat} {k : List UInt8} (hs : Sl w a (k.length + more.length) c (k ++ more)) (hne : ∀ x, a = some x → some x.block ≠ row) : Fam w row (vs ++ [.slice a k.length c]) (ks ++ [k]) more := by
  refine ⟨by simp [h.1], fun i q hq => ?_⟩
  rw [List.getElem?_append] at hq ⊢
  rw [h.1]
  split at hq
  · rename_i hi
    rw [if_pos hi]; exact h.2 i q hq
  · rename_i hi
    rw [if_neg hi]
    have h0 : i - ks.length = 0 := by
      have := (List.getElem?_eq_some_iff.1 hq).1
      simp at this; omega
    rw [h0] at hq ⊢
    injection hq with hq; subst hq
    exact ⟨a, c, rfl, hs, hne⟩
theorem Fam.kv (h : Fam w row vs ks more) : KV w w.heap.size vs ks :=
  ⟨h.1, fun i k hk => by
    obtain ⟨a, c, q1, q2, _⟩ := h.2 i k hk
    have := q2.take (m := k.length) (by omega)
    rw [List.take_left' rfl] at this
    exact ⟨a, c, q1, this.cap, this.lim, this.nil, this.rb⟩⟩
theorem Fam.at_ (h : Fam w row vs ks more) {i : Nat} {k : List UInt8} (hk : ks[i]? = some k) : ∃ a c, vs[i]? = some (.slice a k.length c) ∧ Sl w a (k.length + more.length) c (k ++ more) := by
  obtain ⟨a, c, q1, q2, _⟩ := h.2 i k hk
  exact ⟨a, c, q1, q2⟩
end
/-- Where a slice of one's own lies: apart from what grew before. -/
theorem OwnB.far {T : TypeId} {base : Nat} {w : World} {A : Option Addr} {c : Nat} {l : List UInt8} (h : OwnB T base w A c l) {row : Option Nat} (hr : ∀ g, row = some g → g < base) : ∀ a, A = some a → some a.block ≠ row := by
  intro a ha e
  have h1 := hr a.block e.symm
  have h2 := (World.ownsRow.lt h a.block (by rw [ha]; rfl)).1
  omega
theorem own_row_lt {w : World} {base e size n : Nat} {v : Value} {xs : List Value} (h : w.ownsRow base e size v n xs) : ∀ g, v.ownBlock = some g → g < w.heap.size := fun g hg => (World.ownsRow.lt h g hg).2

end Go.Proofs.YtbcljgcilbfblaaDoor

namespace Go.Proofs.YtbcljgcilbfblaaDoor
open Go.RowKit

/-- Of the blocks that were there, only those in S have changed. -/
structure Chg (S : Nat → Prop) (w w' : World) : Prop where
  os : w'.os = w.os
  tape : w'.tape = w.tape
  output : w'.output = w.output
  size : w.heap.size ≤ w'.heap.size
  block : ∀ k, k < w.heap.size → ¬ S k → w'.heap[k]? = w.heap[k]?

section
variable {S S' : Nat → Prop} {w x y : World} {B : Nat} {row : Option Nat}
theorem Chg.refl (S : Nat → Prop) (w : World) : Chg S w w := ⟨rfl, rfl, rfl, Nat.le_refl _, fun _ _ _ => rfl⟩
theorem Chg.trans (h : Chg S w x) (k : Chg S x y) : Chg S w y :=
  ⟨k.os.trans h.os, k.tape.trans h.tape, k.output.trans h.output, Nat.le_trans h.size k.size, fun i hi hs => (k.block i (Nat.lt_of_lt_of_le hi h.size) hs).trans (h.block i hi hs)⟩
theorem Chg.mono (h : Chg S w x) (hs : ∀ k, k < w.heap.size → S k → S' k) : Chg S' w x := ⟨h.os, h.tape, h.output, h.size, fun k hk hn => h.block k hk fun e => hn (hs k hk e)⟩
theorem Below.chg (h : Below B w x) : Chg (fun k => B ≤ k) w x := ⟨h.os, h.tape, h.output, h.size, fun k _ hn => h.block k (by omega)⟩
theorem Below.chg0 (h : Below w.heap.size w x) : Chg S w x := ⟨h.os, h.tape, h.output, h.size, fun k hk _ => h.block k hk⟩
theorem grown_chg (h : w.grownBy x row) : Chg (fun k => row = some k) w x := ⟨h.os, h.tape, h.output, h.size, fun k hk hn => h.block k hk fun e => hn e.symm⟩
theorem Chg.below (h : Chg S w x) (hB : B ≤ w.heap.size) (hs : ∀ k, k < w.heap.size → S k → B ≤ k) : Below B w x :=
  ⟨h.os, h.tape, h.output, h.size, fun k hk => h.block k (by omega) fun e => by have := hs k (by omega) e; omega⟩
theorem Chg.alloc (h : Chg S w x) (o : Obj) : Chg S w (x.alloc o) := h.trans (Below.chg0 ((Below.refl _ _).alloc (Nat.le_refl _) o))
theorem Chg.setCell (w : World) (p : Addr) (v : Value) : Chg (fun k => k = p.block) w (w.setCell p v) :=
  ⟨rfl, rfl, rfl, by simp [World.setCell], fun k _ hn => Below.heap_setCell _ _ _ _ hn⟩
theorem Chg.cell (h : Chg S w x) {p : Addr} {v : Value} (hc : w.cell? p = some v) (hn : ¬ S p.block) : x.cell? p = some v :=
  (World.cell?_of_block (h.block _ (World.block_lt_of_cell? w p hc) hn)).trans hc
theorem Reads.chg {size n : Nat} {A : Option Addr} {xs : List Value} (h : Reads w w.heap.size size A n xs) (hc : Chg S w x) (hn : 0 < n → ∀ a, A = some a → ¬ S a.block) : Reads x x.heap.size size A n xs :=
  ⟨h.1, fun h0 => by
    obtain ⟨b, o, rfl, hb, hcell⟩ := h.2 h0
    exact ⟨b, o, rfl, Nat.lt_of_lt_of_le hb hc.size, fun j u hu => hc.cell (p := ⟨b, o + j, none⟩) (hcell j u hu) (hn h0 ⟨b, o, none⟩ rfl)⟩⟩
theorem Sl.chg {A : Option Addr} {n c : Nat} {l : List UInt8} (h : Sl w A n c l) (hc : Chg S w x) (hn : 0 < n → ∀ a, A = some a → ¬ S a.block) : Sl x A n c l := ⟨Reads.chg h.rb hc hn, h.cap, h.lim, h.nil⟩
theorem own_chg {base e size n : Nat} {v : Value} {xs : List Value} (h : w.ownsRow base e size v n xs) (hc : Chg S w x) (hn : ∀ g, v.ownBlock = some g → ¬ S g) : x.ownsRow base e size v n xs := by
  refine ⟨h.1, ?_⟩
  rcases h.2 with h | ⟨g, cap, cur, rfl, hb, hg, hr⟩
  · exact .inl h
  · refine .inr ⟨g, cap, cur, rfl, hb, ?_, hr⟩
    rw [hc.block g (Array.getElem?_eq_some_iff.1 hg).1 (hn g rfl)]; exact hg
end

/-- Rows of bytes of one's own; no two share a block. -/
def RowsB (T : TypeId) (base : Nat) (w : World) (rs : List (Option Addr × Nat × List UInt8)) : Prop :=
  (∀ (i : Nat) r, rs[i]? = some r → OwnB T base w r.1 r.2.1 r.2.2) ∧ ∀ (i j : Nat) r s, rs[i]? = some r → rs[j]? = some s → i ≠ j → ∀ a b, r.1 = some a → s.1 = some b → a.block ≠ b.block
section
variable {T : TypeId} {base : Nat} {w x : World} {rs : List (Option Addr × Nat × List UInt8)} {S : Nat → Prop}
theorem RowsB.nil : RowsB T base w [] := ⟨fun i r h => by simp at h, fun i j r s h => by simp at h⟩
theorem RowsB.chg (h : RowsB T base w rs) (hc : Chg S w x) (hn : ∀ (i : Nat) r, rs[i]? = some r → ∀ a, r.1 = some a → ¬ S a.block) : RowsB T base x rs :=
  ⟨fun i r hr => own_chg (h.1 i r hr) hc fun g hg => by
    obtain ⟨A, c, l⟩ := r
    cases A with
    | none => cases hg
    | some a => injection hg with hg; subst hg; exact hn i _ hr a rfl, h.2⟩
theorem RowsB.later (h : RowsB T base w rs) (hb : Below w.heap.size w x) : RowsB T base x rs := h.chg (S := fun _ => False) (Below.chg0 hb) fun _ _ _ _ _ e => e
theorem OwnB.lt {A : Option Addr} {c : Nat} {l : List UInt8} (h : OwnB T base w A c l) {a : Addr} (ha : A = some a) : base ≤ a.block ∧ a.block < w.heap.size := by
  subst ha; exact World.ownsRow.lt h a.block rfl
theorem OwnB.zero {A : Option Addr} {c : Nat} {l : List UInt8} (h : OwnB T base w A c l) {a : Addr} (ha : A = some a) : a = ⟨a.block, 0, none⟩ := by
  subst ha
  rcases h.2 with ⟨e, _⟩ | ⟨g, cap, cur, e, _⟩
  · cases e
  · injection e with e; injection e with e; subst e; rfl
theorem RowsB.snoc (h : RowsB T base w rs) {A : Option Addr} {c : Nat} {l : List UInt8} (ho : OwnB T base w A c l) (hne : ∀ (i : Nat) r, rs[i]? = some r → ∀ a b, r.1 = some a → A = some b → a.block ≠ b.block) : RowsB T base w (rs ++ [(A, c, l)]) := by
  have hget : ∀ (i : Nat) r, (rs ++ [(A, c, l)])[i]? = some r → (i < rs.length ∧ rs[i]? = some r) ∨ (i = rs.length ∧ r = (A, c, l)) := by
    intro i r hr
    rw [List.getElem?_append] at hr
    split at hr
    · rename_i hi; exact .inl ⟨hi, hr⟩
    · rename_i hi
      have h0 : i - rs.length = 0 := by
        have := (List.getElem?_eq_some_iff.1 hr).1
        simp at this; omega
      rw [h0] at hr
      injection hr with hr
      exact .inr ⟨by omega, hr.symm⟩
  refine ⟨fun i r hr => ?_, fun i j r s hr hs hij a b ha hb => ?_⟩
  · rcases hget i r hr with ⟨_, h1⟩ | ⟨_, rfl⟩
    · exact h.1 i r h1
    · exact ho
  · rcases hget i r hr with ⟨h0, h1⟩ | ⟨h0, rfl⟩ <;> rcases hget j s hs with ⟨k0, k1⟩ | ⟨k0, rfl⟩
    · exact h.2 i j r s h1 k1 hij a b ha hb
    · exact hne i r h1 a b ha hb
    · exact fun e => hne j s k1 b a hb ha e.symm
    · omega
/-- A row that was made since. -/
theorem RowsB.fresh (h : RowsB T base w rs) (hb : Below w.heap.size w x) {A : Option Addr} {c : Nat} {l : List UInt8} (ho : OwnB T w.heap.size x A c l) (hle : base ≤ w.heap.size) : RowsB T base x (rs ++ [(A, c, l)]) :=
  (h.later hb).snoc (ho.rebase hle) fun i r hr a b ha hb' e => by
    have h1 := ((h.1 i r hr).lt ha).2
    have h2 := (ho.lt hb').1
    omega
theorem u8s_set5 (l : List UInt8) (k : Nat) (x : UInt8) : (u8s l).set k (u8v x) = u8s (l.set k x) := by
  unfold u8s
  rw [List.map_set]
/-- One byte of one row is written. -/
theorem RowsB.store (h : RowsB T base w rs) {i k g c : Nat} {l : List UInt8} (hr : rs[i]? = some (some ⟨g, 0, none⟩, c, l)) (u : UInt8) :
    RowsB T base (w.setCell ⟨g, k, none⟩ (u8v u)) (rs.set i (some ⟨g, 0, none⟩, c, l.set k u)) ∧ Chg (fun b => b = g) w (w.setCell ⟨g, k, none⟩ (u8v u)) := by
  have hC := Chg.setCell w ⟨g, k, none⟩ (u8v u)
  have ho := h.1 i _ hr
  have hs := World.ownsRow.stored ho k (u8v u)
  rw [u8s_set5] at hs
  have hlt : i < rs.length := (List.getElem?_eq_some_iff.1 hr).1
  have hget : ∀ (j : Nat) r, (rs.set i (some ⟨g, 0, none⟩, c, l.set k u))[j]? = some r → (j = i ∧ r = (some ⟨g, 0, none⟩, c, l.set k u)) ∨ (j ≠ i ∧ rs[j]? = some r) := by
    intro j r hj
    rw [List.getElem?_set] at hj
    by_cases e : i = j
    · subst e
      rw [if_pos rfl, if_pos hlt] at hj
      injection hj with hj
      exact .inl ⟨rfl, hj.symm⟩
    · rw [if_neg e] at hj
      exact .inr ⟨fun h => e h.symm, hj⟩
  refine ⟨⟨fun j r hj => ?_, fun j q r s hj hq hjq a b ha hb => ?_⟩, hC⟩
  · rcases hget j r hj with ⟨rfl, rfl⟩ | ⟨hne, hj⟩
    · have := hs.1
      show World.ownsRow _ _ _ _ _ _ _
      rw [List.length_set]
      exact this
    · refine own_chg (h.1 j r hj) hC fun b hb e => ?_
      obtain ⟨A, c', l'⟩ := r
      cases A with
      | none => cases hb
      | some a =>
        injection hb with hb
        subst hb
        exact h.2 j i _ _ hj hr hne a ⟨g, 0, none⟩ rfl rfl e
  · rcases hget j r hj with ⟨rfl, rfl⟩ | ⟨hne, hj1⟩ <;> rcases hget q s hq with ⟨rfl, rfl⟩ | ⟨hne', hq1⟩
    · exact absurd rfl hjq
    · injection ha with ha; subst ha
      exact h.2 j q _ s hr hq1 hjq _ b rfl hb
    · injection hb with hb; subst hb
      exact h.2 j q r _ hj1 hr hjq a _ ha rfl
    · exact h.2 j q r s hj1 hq1 hjq a b ha hb
end

theorem spot_none6 {w : World} {a : Addr} {v : Value} (h : w.cell? a = some v) : a.spot = none := by
  unfold World.cell? at h
  split at h
  · split at h
    · cases h
    · rename_i h'; simpa using h'
  · cases h
section
variable {P : Program} (w : World)
/-- append onto a row of one's own: besides what the kit says: the old value still owns what it owned; each old cell is as it was, or lies in the row behind what it held and holds what was appended. -/
theorem run_append_cells {t ty e : TypeId} {bytes : Nat} (hs : SliceOf P t e 1 bytes) (base : Nat) (v : Value) (n : Nat) (xs : List Value) (hown : w.ownsRow base e 1 v n xs)
    (B : Nat) (A : Option Addr) (m c : Nat) (news : List Value) (hr : Reads w B 1 A m news) (h1 : ∀ u ∈ news, u.oneCell' = true)
    (h63 : n + m ≤ maxLen) (hbytes : (n + m) * bytes ≤ 140737488355328) (hbase : base ≤ w.heap.size) :
    ∃ v' w', (Builtin.append_ #[t, t] ty #[v, .slice A m c]).run P w = .ok v' w' ∧ w'.ownsRow base e 1 v' (n + m) (xs ++ news) ∧ w.grownBy w' v.ownBlock ∧
      (v'.ownBlock = v.ownBlock ∨ v'.ownBlock = some w.heap.size) ∧ w'.ownsRow base e 1 v n xs ∧
      (∀ p u, w.cell? p = some u → w'.cell? p = some u ∨ (some p.block = v.ownBlock ∧ p.spot = none ∧ n ≤ p.off ∧ p.off < n + m ∧ w'.cell? p = news[p.off - n]?)) := by
  obtain ⟨v', w', hrun, q1, q2, q3⟩ := run_append_reads (P := P) w (ty := ty) hs base v n xs hown B A m c news hr h1 h63 hbytes hbase
  refine ⟨v', w', hrun, q1, q2, q3, ?_⟩
  -- where nothing that was there turns
  have still : (∀ k, k < w.heap.size → w'.heap[k]? = w.heap[k]?) → w'.ownsRow base e 1 v n xs ∧ (∀ p u, w.cell? p = some u → w'.cell? p = some u ∨ (some p.block = v.ownBlock ∧ p.spot = none ∧ n ≤ p.off ∧ p.off < n + m ∧ w'.cell? p = news[p.off - n]?)) := fun hk => by
    have hb : Below w.heap.size w w' := ⟨q2.os, q2.tape, q2.output, q2.size, hk⟩
    exact ⟨own_below hown hb, fun p u hp => .inl (cell_below hb hp)⟩
  obtain ⟨ht, ⟨i, z, hi, hz, hsize, hby, hzs⟩, hsz⟩ := hs
  rcases hown.2 with ⟨rfl, rfl⟩ | ⟨g, cap, cur, rfl, hbg, hg, hnc, hcm, hcs, htake⟩
  · exact still fun k hk => q2.block k hk (by simp [Value.ownBlock])
  · rcases A with _ | ad
    · have hm : m = 0 := by
        rcases Nat.eq_zero_or_pos m with h0 | h0
        · exact h0
        · obtain ⟨b, o, h, _⟩ := hr.2 h0
          cases h
      subst hm
      have hrun' := run_append_of_nil w base t ty e i 1 ht hi (.slice (some ⟨g, 0, none⟩) n cap) n xs hown c
      rw [hrun'] at hrun
      injection hrun with hv hw
      subst hw
      exact still fun _ _ => rfl
    · have hcells : ∀ j u, news[j]? = some u → w.cell? (ad.add j) = some u := by
        intro j u hu
        rcases Nat.eq_zero_or_pos m with h0 | h0
        · subst h0
          have hn : news = [] := List.eq_nil_of_length_eq_zero (by simpa using hr.1)
          subst hn
          simp at hu
        · obtain ⟨b, o, h, _, hc⟩ := hr.2 h0
          injection h with h
          subst h
          have := hc j u hu
          unfold Addr.add
          split
          · rename_i h0; subst h0; exact this
          · exact this
      have hnl : news.length = m := by have := hr.1; omega
      have hcl : cur.size = cap := by rw [hcs, Nat.mul_one]
      by_cases hroom : n + m ≤ cap
      · have hrun' := run_append_room (P := P) w t ty e i ht hi g n cap cur hg ad m c news (by rw [hsize, Nat.mul_one]; exact hnl) hcells h1 hroom (by rw [hsize, Nat.mul_one, hnl]; omega)
        rw [hrun'] at hrun
        injection hrun with hv hw
        rw [hsize, Nat.mul_one, hnl] at hw
        obtain ⟨cs, hcsd⟩ : ∃ cs : List Value, cs = cur.toList.take n ++ news ++ cur.toList.drop (n + m) := ⟨_, rfl⟩
        rw [← hcsd] at hw
        have hclen : cs.length = cap := by
          rw [hcsd, List.length_append, List.length_append, List.length_take, List.length_drop, Array.length_toList, hcl, hnl]; omega
        have hgw : w'.heap[g]? = some (.cells cs.toArray e (0, 0)) := by rw [← hw]; exact setRow_heap w g cur _ e _ hg
        have hcell : ∀ j, w'.cell? ⟨g, j, none⟩ = cs[j]? := fun j => by
          rw [cell_of_row w' g j _ e _ hgw]; simp
        have hcell0 : ∀ j, w.cell? ⟨g, j, none⟩ = cur.toList[j]? := fun j => by
          rw [cell_of_row w g j _ e _ hg]; simp
        refine ⟨⟨hown.1, .inr ⟨g, cap, cs.toArray, rfl, hbg, hgw, hnc, hcm, by simp [hclen], ?_⟩⟩, fun p u hp => ?_⟩
        · have htl : (cur.toList.take n).length = n := by rw [List.length_take, Array.length_toList, hcl]; omega
          rw [Nat.mul_one] at htake ⊢
          show cs.take n = xs
          rw [hcsd, List.append_assoc, List.take_left' htl]
          exact htake
        · by_cases hpg : p.block = g
          · have hsp := spot_none6 hp
            obtain ⟨pb, po, ps⟩ := p
            simp at hpg hsp
            subst hpg; subst hsp
            rw [hcell0] at hp
            by_cases h2 : n ≤ po ∧ po < n + m
            · refine .inr ⟨rfl, rfl, h2.1, h2.2, ?_⟩
              rw [hcell, hcsd, List.getElem?_append_left (by rw [List.length_append, List.length_take, Array.length_toList, hcl, hnl]; omega), List.getElem?_append_right (by rw [List.length_take, Array.length_toList, hcl]; omega)]
              rw [List.length_take, Array.length_toList, hcl, Nat.min_eq_left (by omega)]
            · refine .inl ?_
              rw [hcell, hcsd]
              by_cases h3 : po < n
              · rw [List.append_assoc, List.getElem?_append_left (by rw [List.length_take, Array.length_toList, hcl]; omega), List.getElem?_take_of_lt h3]
                exact hp
              · rw [List.getElem?_append_right (by rw [List.length_append, List.length_take, Array.length_toList, hcl, hnl]; omega), List.getElem?_drop, List.length_append, List.length_take, Array.length_toList, hcl, hnl, Nat.min_eq_left (by omega)]
                rw [show n + m + (po - (n + m)) = po from by omega]
                exact hp
          · exact .inl (q2.cell hp (fun e => hpg (by injection e)))
      · have holds : ∀ j u, xs[j]? = some u → w.cell? ((⟨g, 0, none⟩ : Addr).add j) = some u := hown.cells (g := g) rfl
        have hrun' := run_append_grow (P := P) w t ty e i z ht hi hz ⟨g, 0, none⟩ n cap xs (by rw [hsize]; exact hown.1) holds ad m c news (by rw [hsize, Nat.mul_one]; exact hnl) hcells (by omega) (by unfold maxLen at h63; omega) (growslice_fits (by omega) (by rw [hby]; exact hbytes))
        rw [hrun'] at hrun
        injection hrun with hv hw
        refine still fun k hk => ?_
        rw [← hw]
        exact heap_alloc_old w.drew _ hk
end

end Go.Proofs.YtbcljgcilbfblaaDoor

namespace Go.Proofs.YtbcljgcilbfblaaDoor
open Go.RowKit

/-- Slices that read as the lists; none that holds something lies in the row. -/
def FamS (w : World) (row : Option Nat) (vs : List Value) (ks : List (List UInt8)) : Prop :=
  vs.length = ks.length ∧ ∀ (i : Nat) (k : List UInt8), ks[i]? = some k → ∃ (a : Option Addr) (c : Nat), vs[i]? = some (.slice a k.length c) ∧ Sl w a k.length c k ∧ (0 < k.length → ∀ x, a = some x → some x.block ≠ row)
section
variable {w x y : World} {row row' : Option Nat} {vs : List Value} {ks : List (List UInt8)} {S : Nat → Prop}
theorem FamS.nil : FamS w row [] [] := ⟨rfl, fun i k h => by simp at h⟩
theorem FamS.chg (h : FamS w row vs ks) (hc : Chg S w x) (hn : ∀ (i : Nat) (k : List UInt8) (a : Addr) (n c : Nat), ks[i]? = some k → 0 < k.length → vs[i]? = some (.slice (some a) n c) → ¬ S a.block) : FamS x row vs ks :=
  ⟨h.1, fun i k hk => by
    obtain ⟨a, c, q1, q2, q3⟩ := h.2 i k hk
    refine ⟨a, c, q1, q2.chg hc fun h0 b hb => ?_, q3⟩
    subst hb
    exact hn i k b _ c hk h0 q1⟩
theorem FamS.later (h : FamS w row vs ks) (hb : Below w.heap.size w x) : FamS x row vs ks :=
  ⟨h.1, fun i k hk => by obtain ⟨a, c, q1, q2, q3⟩ := h.2 i k hk; exact ⟨a, c, q1, q2.later hb, q3⟩⟩
theorem FamS.step (h : FamS w row vs ks) (hg : w.grownBy x row) (hr : row' = row ∨ row' = some w.heap.size) : FamS x row' vs ks :=
  ⟨h.1, fun i k hk => by
    obtain ⟨a, c, q1, q2, q3⟩ := h.2 i k hk
    refine ⟨a, c, q1, q2.apart hg q3, fun h0 z hz => ?_⟩
    rcases hr with rfl | rfl
    · exact q3 h0 z hz
    · have := q2.block_lt h0 z hz
      intro e; injection e with e; omega⟩
theorem FamS.snoc (h : FamS w row vs ks) {a : Option Addr} {c n : Nat} {k : List UInt8} (hs : Sl w a n c k) (hne : 0 < k.length → ∀ x, a = some x → some x.block ≠ row) : FamS w row (vs ++ [.slice a n c]) (ks ++ [k]) := by
  obtain rfl := hs.len
  refine ⟨by simp [h.1], fun i q hq => ?_⟩
  rw [List.getElem?_append] at hq ⊢
  rw [h.1]
  split at hq
  · rename_i hi
    rw [if_pos hi]; exact h.2 i q hq
  · rename_i hi
    rw [if_neg hi]
    have h0 : i - ks.length = 0 := by
      have := (List.getElem?_eq_some_iff.1 hq).1
      simp at this; omega
    rw [h0] at hq ⊢
    injection hq with hq; subst hq
    exact ⟨a, c, rfl, hs, hne⟩
theorem FamS.kv (h : FamS w row vs ks) : KV w w.heap.size vs ks :=
  ⟨h.1, fun i k hk => by
    obtain ⟨a, c, q1, q2, _⟩ := h.2 i k hk
    exact ⟨a, c, q1, q2.cap, q2.lim, q2.nil, q2.rb⟩⟩
theorem FamS.at_ (h : FamS w row vs ks) {i : Nat} {k : List UInt8} (hk : ks[i]? = some k) : ∃ a c, vs[i]? = some (.slice a k.length c) ∧ Sl w a k.length c k := by
  obtain ⟨a, c, q1, q2, _⟩ := h.2 i k hk
  exact ⟨a, c, q1, q2⟩
end

/-- A list written full with a mark, so far. -/
def fillTo (l : List UInt8) (m : UInt8) (k : Nat) : List UInt8 := List.replicate k m ++ l.drop k
theorem fillTo_zero (l : List UInt8) (m : UInt8) : fillTo l m 0 = l := by simp [fillTo]
theorem fillTo_len {l : List UInt8} {k : Nat} (m : UInt8) (h : k ≤ l.length) : (fillTo l m k).length = l.length := by simp [fillTo]; omega
theorem fillTo_all (l : List UInt8) (m : UInt8) : fillTo l m l.length = List.replicate l.length m := by simp [fillTo]
theorem fillTo_set {l : List UInt8} {k : Nat} (m : UInt8) (h : k < l.length) : (fillTo l m k).set k m = fillTo l m (k + 1) := by
  unfold fillTo
  rw [List.set_append_right _ _ (by simp), List.length_replicate, Nat.sub_self, List.drop_eq_getElem_cons h]
  rw [List.set_cons_zero, List.replicate_succ']
  simp
theorem rep_at (n : Nat) (m : UInt8) {k : Nat} (h : k < n) : (List.replicate n m)[k]? = some m := by simp [h]

/-- What a longer row keeps, its beginning keeps. -/
theorem own_prefix {T : TypeId} {base : Nat} {w w1 : World} {a : Addr} {c : Nat} {l : List UInt8} {v : Value} {n : Nat} {xs : List Value} (h1 : OwnB T base w (some a) c l) (h2 : w.ownsRow base T 1 v n xs) (hb : v.ownBlock = some a.block) (h3 : w1.ownsRow base T 1 v n xs) (hn : l.length ≤ n) : OwnB T base w1 (some a) c l := by
  rcases h1.2 with ⟨e, _⟩ | ⟨g, cap, cur, e, hg1, hg2, hc1, hc2, hc3, hc4⟩
  · cases e
  injection e with e0 _ e2
  injection e0 with e0
  subst e0; subst e2
  rcases h2.2 with ⟨rfl, _⟩ | ⟨g', cap', cur', rfl, k1, k2, k3, k4, k5, k6⟩
  · cases hb
  injection hb with hb
  obtain rfl : g' = g := hb
  rw [hg2] at k2
  injection k2 with k2; injection k2 with k2
  subst k2
  rcases h3.2 with ⟨e, _⟩ | ⟨g2, cap2, cur2, e, j1, j2, j3, j4, j5, j6⟩
  · cases e
  injection e with e0 _ e2
  injection e0 with e0; injection e0 with e0
  subst e0; subst e2
  refine ⟨h1.1, .inr ⟨g', c, cur2, rfl, hg1, j2, hc1, hc2, by omega, ?_⟩⟩
  rw [← hc4]
  have e1 : cur.toList.take (l.length * 1) = (cur.toList.take (n * 1)).take (l.length * 1) := by rw [List.take_take, Nat.min_eq_left (by omega)]
  have e2 : cur2.toList.take (l.length * 1) = (cur2.toList.take (n * 1)).take (l.length * 1) := by rw [List.take_take, Nat.min_eq_left (by omega)]
  rw [e1, e2, k6, j6]
/-- The same behind an append onto the longer row, or onto a row elsewhere. -/
theorem own_under {T : TypeId} {base : Nat} {w w1 : World} {A : Option Addr} {c : Nat} {l : List UInt8} {v : Value} {n : Nat} {xs : List Value} (h1 : OwnB T base w A c l) (h2 : w.ownsRow base T 1 v n xs) (hg : w.grownBy w1 v.ownBlock) (h3 : w1.ownsRow base T 1 v n xs) (hn : l.length ≤ n) : OwnB T base w1 A c l := by
  cases A with
  | none => exact own_chg h1 (grown_chg hg) fun g hg => by cases hg
  | some a =>
    by_cases hb : v.ownBlock = some a.block
    · exact own_prefix h1 h2 hb h3 hn
    · exact own_chg h1 (grown_chg hg) fun g hg' e => by
        injection hg' with hg'
        rw [e] at hb
        exact hb (by rw [hg'])

section
variable {P : Program} (w : World)
theorem wp_append_cells {o : Oper} {a : Act} {K : Act → World → Prop} {Q : Exit → Act → World → Prop} (s x : Operand) {t e : TypeId} {bytes : Nat}
    (ho : o.op = .call { callee := .builtin .append, args := #[s, x], argTypes := #[t, t] }) (hS : SliceOf P t e 1 bytes)
    (base : Nat) (v : Value) (n : Nat) (xs : List Value) (hs : a.eval s = v) (hown : w.ownsRow base e 1 v n xs)
    (B : Nat) (A : Option Addr) (m c : Nat) (news : List Value) (hx : a.eval x = .slice A m c) (hr : Reads w B 1 A m news) (h1 : ∀ u ∈ news, u.oneCell' = true)
    (h63 : n + m ≤ maxLen) (hbytes : (n + m) * bytes ≤ 140737488355328) (hbase : base ≤ w.heap.size)
    (h : ∀ v' w', w'.ownsRow base e 1 v' (n + m) (xs ++ news) → w.grownBy w' v.ownBlock → (v'.ownBlock = v.ownBlock ∨ v'.ownBlock = some w.heap.size) → w'.ownsRow base e 1 v n xs →
      (∀ p u, w.cell? p = some u → w'.cell? p = some u ∨ (some p.block = v.ownBlock ∧ p.spot = none ∧ n ≤ p.off ∧ p.off < n + m ∧ w'.cell? p = news[p.off - n]?)) → K (a.put o.dst v') w') : o.wp P a w K Q := by
  obtain ⟨v', w', hrun, h2, h3, h4, h5, h6⟩ := run_append_cells (P := P) w (ty := o.type) hS base v n xs hown B A m c news hr h1 h63 hbytes hbase
  unfold Oper.wp execOp
  simp only [ho, resolve, invoke, builtin, Sem.run_bind, Sem.run_pure, Result.andThen_ok, List.map_toArray, List.map_cons, List.map_nil, hs, hx, hrun]
  exact h v' w' h2 h3 h4 h5 h6
/-- 'append(s, x...)', s nil or of the call's own, x any slice that reads; cell by cell. -/
theorem wpList_append_cells {ops : Array Oper} {rest : List Oper} {o : Oper} {a : Act} {Q : Exit → Act → World → Prop} (hgd : o.guard = none) (s x : Operand) {t e : TypeId} {bytes : Nat}
    (ho : o.op = .call { callee := .builtin .append, args := #[s, x], argTypes := #[t, t] }) (hS : SliceOf P t e 1 bytes)
    (base : Nat) (v : Value) (n : Nat) (xs : List Value) (hs : a.eval s = v) (hown : w.ownsRow base e 1 v n xs)
    (B : Nat) (A : Option Addr) (m c : Nat) (news : List Value) (hx : a.eval x = .slice A m c) (hr : Reads w B 1 A m news) (h1 : ∀ u ∈ news, u.oneCell' = true)
    (h63 : n + m ≤ maxLen) (hbytes : (n + m) * bytes ≤ 140737488355328) (hbase : base ≤ w.heap.size)
    (h : ∀ v' w', w'.ownsRow base e 1 v' (n + m) (xs ++ news) → w.grownBy w' v.ownBlock → (v'.ownBlock = v.ownBlock ∨ v'.ownBlock = some w.heap.size) → w'.ownsRow base e 1 v n xs →
      (∀ p u, w.cell? p = some u → w'.cell? p = some u ∨ (some p.block = v.ownBlock ∧ p.spot = none ∧ n ≤ p.off ∧ p.off < n + m ∧ w'.cell? p = news[p.off - n]?)) → wpList P ops Q rest (a.put o.dst v') w') : wpList P ops Q (o :: rest) a w :=
  wpList_plain hgd fun _ hK => wp_append_cells w s x ho hS base v n xs hs hown B A m c news hx hr h1 h63 hbytes hbase fun v' w' h2 h3 h4 h5 h6 => hK _ _ (h v' w' h2 h3 h4 h5 h6)
end
theorem grown_at {H0 : Nat} {r r' row : Option Nat} {H : Nat} (h : r = row ∨ ∀ g, r = some g → H0 ≤ g) (hat : r' = r ∨ r' = some H) (hle : H0 ≤ H) : r' = row ∨ ∀ g, r' = some g → H0 ≤ g := by
  rcases hat with rfl | rfl
  · exact h
  · exact .inr fun g hg => by injection hg with hg; omega
/-- What a grown row leaves of rows elsewhere. -/
theorem grown_keep {w x y : World} {r row : Option Nat} (h : w.grownBy x row) (k : x.grownBy y r) (hr : r = row ∨ ∀ g, r = some g → w.heap.size ≤ g) : w.grownBy y row :=
  ⟨k.os.trans h.os, k.tape.trans h.tape, k.output.trans h.output, Nat.le_trans h.size k.size, fun i hi hn => (k.block i (Nat.lt_of_lt_of_le hi h.size) (fun e => by
    rcases hr with rfl | hr
    · exact hn e
    · have := hr i e.symm; omega)).trans (h.block i hi hn)⟩

end Go.Proofs.YtbcljgcilbfblaaDoor

namespace Go.Proofs.YtbcljgcilbfblaaDoor
open Go.RowKit

abbrev RowL := List (Option Addr × Nat × List UInt8)
/-- The first k rows written full, each with its mark. -/
def fillR (mk : Nat → UInt8) (rs : RowL) (k : Nat) : RowL := rs.mapIdx fun i r => if i < k then (r.1, r.2.1, List.replicate r.2.2.length (mk i)) else r
theorem fillR_len (mk : Nat → UInt8) (rs : RowL) (k : Nat) : (fillR mk rs k).length = rs.length := by simp [fillR]
theorem fillR_get (mk : Nat → UInt8) (rs : RowL) (k i : Nat) : (fillR mk rs k)[i]? = rs[i]?.map fun r => if i < k then (r.1, r.2.1, List.replicate r.2.2.length (mk i)) else r := by simp [fillR, List.getElem?_mapIdx]
theorem fillR_zero (mk : Nat → UInt8) (rs : RowL) : fillR mk rs 0 = rs := by
  apply List.ext_getElem?
  intro i
  rw [fillR_get]
  cases rs[i]? <;> simp
theorem fillR_start {mk : Nat → UInt8} {rs : RowL} {j : Nat} {A : Option Addr} {c : Nat} {l : List UInt8} (h : rs[j]? = some (A, c, l)) (m : UInt8) : (fillR mk rs j).set j (A, c, fillTo l m 0) = fillR mk rs j := by
  apply List.ext_getElem?
  intro i
  rw [List.getElem?_set, fillTo_zero, fillR_len]
  by_cases e : j = i
  · subst e
    rw [if_pos rfl, if_pos (List.getElem?_eq_some_iff.1 h).1, fillR_get, h]
    simp
  · rw [if_neg e]
theorem fillR_done {mk : Nat → UInt8} {rs : RowL} {j : Nat} {A : Option Addr} {c : Nat} {l : List UInt8} (h : rs[j]? = some (A, c, l)) : (fillR mk rs j).set j (A, c, fillTo l (mk j) l.length) = fillR mk rs (j + 1) := by
  apply List.ext_getElem?
  intro i
  rw [List.getElem?_set, fillTo_all, fillR_len, fillR_get, fillR_get]
  by_cases e : j = i
  · subst e
    rw [if_pos rfl, if_pos (List.getElem?_eq_some_iff.1 h).1, h]
    simp
  · rw [if_neg e]
    congr 1
    funext r
    by_cases h1 : i < j
    · rw [if_pos h1, if_pos (by omega)]
    · rw [if_neg h1, if_neg (by omega)]

section
variable {T : TypeId} {base : Nat} {w x : World} {rs : RowL} {mk : Nat → UInt8}
/-- The next byte of the row that is being written. -/
theorem RowsB.fill {j k g c : Nat} {l : List UInt8} (h : RowsB T base w ((fillR mk rs j).set j (some ⟨g, 0, none⟩, c, fillTo l (mk j) k))) (hr : rs[j]? = some (some ⟨g, 0, none⟩, c, l)) (hk : k < l.length) :
    RowsB T base (w.setCell ⟨g, k, none⟩ (u8v (mk j))) ((fillR mk rs j).set j (some ⟨g, 0, none⟩, c, fillTo l (mk j) (k + 1))) ∧ Chg (fun b => b = g) w (w.setCell ⟨g, k, none⟩ (u8v (mk j))) := by
  have hlt := (List.getElem?_eq_some_iff.1 hr).1
  have h2 := h.store (i := j) (k := k) (g := g) (c := c) (l := fillTo l (mk j) k) (by rw [List.getElem?_set, if_pos rfl, if_pos (by rw [fillR_len]; exact hlt)]) (mk j)
  rw [List.set_set, fillTo_set _ hk] at h2
  exact h2
/-- A row's cells. -/
theorem RowsB.cell {i g c k : Nat} {l : List UInt8} (h : RowsB T base w rs) (hr : rs[i]? = some (some ⟨g, 0, none⟩, c, l)) {u : UInt8} (hk : l[k]? = some u) : w.cell? ⟨g, k, none⟩ = some (.int .u8 (u.toNat : Int)) ∧ w.frozen? ⟨g, k, none⟩ = false := by
  have ho : OwnB T base w (some ⟨g, 0, none⟩) c l := h.1 i _ hr
  have hlt := (List.getElem?_eq_some_iff.1 hk).1
  exact ⟨(World.ownsRow.cellAt ho k (by omega)).trans (u8s_at hk), World.ownsRow.frozenAt ho k⟩
theorem RowsB.form {i c : Nat} {A : Option Addr} {l : List UInt8} (h : RowsB T base w rs) (hr : rs[i]? = some (A, c, l)) (hl : 0 < l.length) : ∃ g, A = some ⟨g, 0, none⟩ ∧ base ≤ g ∧ g < w.heap.size := by
  have ho := h.1 i _ hr
  cases A with
  | none =>
    obtain ⟨A', c', e, _, _, h3, _⟩ := own_slice ho
    injection e with e1 e2 e3
    subst e1; subst e3
    have := (ho.cap).2.2 rfl
    have h4 := (ho.cap).1
    simp only at this h4
    omega
  | some a => exact ⟨a.block, by rw [← ho.zero rfl], ho.lt rfl⟩
theorem RowsB.sl_at {i c n : Nat} {A : Option Addr} {l : List UInt8} (h : RowsB T base w rs) (hr : rs[i]? = some (A, c, l)) (hn : l.length = n) : Sl w A n c l := hn ▸ Sl.own (h.1 i _ hr)
theorem RowsB.sl {i c : Nat} {A : Option Addr} {l : List UInt8} (h : RowsB T base w rs) (hr : rs[i]? = some (A, c, l)) : Sl w A l.length c l := Sl.own (h.1 i _ hr)
/-- One row was appended to. -/
theorem RowsB.grow {i c : Nat} {A : Option Addr} {l : List UInt8} (h : RowsB T base w rs) (hr : rs[i]? = some (A, c, l)) (hg : w.grownBy x (A.map (·.block))) (ho : OwnB T base x A c l) : RowsB T base x rs := by
  refine ⟨fun j r hj => ?_, h.2⟩
  by_cases e : j = i
  · subst e
    rw [hr] at hj; injection hj with hj; subst hj
    exact ho
  · refine own_chg (h.1 j r hj) (grown_chg hg) fun g hg' e' => ?_
    obtain ⟨B, d, l'⟩ := r
    cases B with
    | none => cases hg'
    | some b =>
      injection hg' with hg'
      cases A with
      | none => cases e'
      | some a =>
        injection e' with e'
        exact h.2 j i _ _ hj hr e b a rfl rfl (by rw [hg', ← e'])
theorem RowsB.fillRs (h : RowsB T base w rs) {ss : RowL} (hlen : ∀ (i : Nat) s, ss[i]? = some s → ∃ r, rs[i]? = some r ∧ r.1 = s.1) (ho : ∀ (i : Nat) s, ss[i]? = some s → OwnB T base w s.1 s.2.1 s.2.2) : RowsB T base w ss :=
  ⟨ho, fun i j r s hr hs hij a b ha hb => by
    obtain ⟨r', hr', e1⟩ := hlen i r hr
    obtain ⟨s', hs', e2⟩ := hlen j s hs
    exact h.2 i j r' s' hr' hs' hij a b (e1.trans ha) (e2.trans hb)⟩
/-- Some of the rows, in another order. -/
theorem RowsB.pick (h : RowsB T base w rs) {ss : RowL} (f : Nat → Nat) (hf : ∀ i j, i < ss.length → j < ss.length → i ≠ j → f i ≠ f j) (hs : ∀ (i : Nat) s, ss[i]? = some s → rs[f i]? = some s) : RowsB T base w ss :=
  ⟨fun i s hi => h.1 _ s (hs i s hi), fun i j r s hr hs' hij a b ha hb => h.2 (f i) (f j) r s (hs i r hr) (hs j s hs') (hf i j (List.getElem?_eq_some_iff.1 hr).1 (List.getElem?_eq_some_iff.1 hs').1 hij) a b ha hb⟩
end

theorem lit_one8 (w : World) (u : Value) (t : TypeId) (H : Nat) (h : w.heap.size = H) : Reads (w.alloc (.cells #[u] t)) (H + 1) 1 (some ⟨H, 0, none⟩) 1 [u] := by
  subst h; exact Reads.new w #[u] t 1 1 rfl
/-- What was lengthened lies in none of the rows that are still to be lengthened. -/
def Aps (rs : RowL) (k : Nat) (vs : List Value) : Prop := ∀ (i j : Nat) (a b : Addr) (n c : Nat) r, vs[j]? = some (.slice (some a) n c) → 0 < n → k ≤ i → rs[i]? = some r → r.1 = some b → a.block ≠ b.block
theorem Aps.nil (rs : RowL) : Aps rs 0 [] := fun i j a b n c r h => by simp at h
section
variable {T e : TypeId} {base H3 : Nat} {wr w2 w3 : World} {rs : RowL} {v v3 : Value} {vs : List Value} {ks : List (List UInt8)} {k gk ca c' : Nat} {l l' : List UInt8} {A' : Option Addr}
theorem more_own (hown : wr.ownsRow H3 e 1 v k vs) (hg2 : wr.grownBy w2 (some gk)) (hlt : gk < H3) : w2.ownsRow H3 e 1 v k vs :=
  own_chg hown (grown_chg hg2) fun g hg e' => by
    have := (World.ownsRow.lt hown g hg).1
    injection e' with e'; omega
theorem more_step {N : Nat} (hN : l'.length = N) (hR : RowsB T base wr rs) (hk : rs[k]? = some (some ⟨gk, 0, none⟩, ca, l)) (hF : FamS wr v.ownBlock vs ks) (hA : Aps rs k vs) (hown : wr.ownsRow H3 e 1 v k vs)
    (hH : ∀ (i : Nat) r a, rs[i]? = some r → r.1 = some a → a.block < H3) (hle : H3 ≤ wr.heap.size)
    (hg2 : wr.grownBy w2 (some gk)) (ho2 : OwnB T base w2 (some ⟨gk, 0, none⟩) ca l) (hs2 : OwnB T base w2 A' c' l') (hblk : ∀ a, A' = some a → some gk = some a.block ∨ wr.heap.size ≤ a.block)
    (hg3 : (w2.alloc (.cells #[.slice A' N c'] e)).grownBy w3 v.ownBlock) (hat3 : v3.ownBlock = v.ownBlock ∨ v3.ownBlock = some (w2.alloc (.cells #[.slice A' N c'] e)).heap.size) :
    RowsB T base w3 rs ∧ FamS w3 v3.ownBlock (vs ++ [.slice A' N c']) (ks ++ [l']) ∧ Aps rs (k + 1) (vs ++ [.slice A' N c']) ∧ (∀ S : Nat → Prop, S gk → (∀ b, H3 ≤ b → S b) → Chg S wr w3) := by
  subst hN
  have hgkl : gk < H3 := hH k _ ⟨gk, 0, none⟩ hk rfl
  have hal : Below w2.heap.size w2 (w2.alloc (.cells #[.slice A' l'.length c'] e)) := (Below.refl _ _).alloc (Nat.le_refl _) _
  have hvb : ∀ g, v.ownBlock = some g → H3 ≤ g ∧ g < wr.heap.size := fun g hg => World.ownsRow.lt hown g hg
  have hR2 : RowsB T base w2 rs := hR.grow hk hg2 ho2
  have hF2 : FamS w2 v.ownBlock vs ks := hF.chg (grown_chg hg2) fun i q a n c hq hq0 hv e' => by
    have hn : 0 < n := by
      obtain ⟨a2, c2, h1, _, _⟩ := hF.2 i q hq
      rw [hv] at h1; injection h1 with h1; injection h1 with _ h1 _; omega
    injection e' with e'
    exact hA k i a ⟨gk, 0, none⟩ n c _ hv hn (Nat.le_refl _) hk rfl e'.symm
  have hne : 0 < l'.length → ∀ x, A' = some x → some x.block ≠ v.ownBlock := fun _ x hx e' => by
    have h1 := hvb _ e'.symm
    rcases hblk x hx with h | h
    · injection h with h; omega
    · omega
  have hF3 := ((hF2.later hal).snoc ((Sl.own hs2).later hal) hne).step hg3 hat3
  refine ⟨?_, hF3, ?_, fun S h1 h2 => ?_⟩
  · refine (hR2.later hal).chg (grown_chg hg3) fun i r hr a ha e' => ?_
    have h1 := hH i r a hr ha
    have h2 := hvb _ e'
    omega
  · intro i j a b n c r hj hn hi hr hb
    rw [List.getElem?_append] at hj
    split at hj
    · exact hA i j a b n c r hj hn (by omega) hr hb
    · have h0 : j - vs.length = 0 := by
        have := (List.getElem?_eq_some_iff.1 hj).1
        simp at this; omega
      rw [h0] at hj
      injection hj with hj
      injection hj with hj _ _
      rcases hblk a hj with h | h
      · injection h with h
        have := hR.2 k i _ r hk hr (by omega) ⟨gk, 0, none⟩ b rfl hb
        rw [← h]; exact this
      · have h1 := hH i r b hr hb
        omega
  · have c1 : Chg S wr w2 := (grown_chg hg2).mono fun b _ e' => by injection e' with e'; subst e'; exact h1
    have c2 : Chg S w2 (w2.alloc (.cells #[.slice A' l'.length c'] e)) := Below.chg0 hal
    have c3 : Chg S (w2.alloc (.cells #[.slice A' l'.length c'] e)) w3 := (grown_chg hg3).mono fun b _ e' => h2 b (hvb b e').1
    exact (c1.trans c2).trans c3
end

end Go.Proofs.YtbcljgcilbfblaaDoor

namespace Go.Proofs.YtbcljgcilbfblaaDoor
open Go.RowKit

/-- A row as a list holds it. -/
def valR (r : Option Addr × Nat × List UInt8) : Value := .slice r.1 r.2.2.length r.2.1
/-- None of the rows lies in the list's block. -/
def Off (v : Value) (zs : RowL) : Prop := ∀ g, v.ownBlock = some g → ∀ (i : Nat) r a, zs[i]? = some r → r.1 = some a → a.block ≠ g
structure ApSt (T e : TypeId) (B : Nat) (w : World) (lv wv : Value) (rs ws ps : RowL) : Prop where
  rows : RowsB T B w (rs ++ ws ++ ps)
  ol : w.ownsRow B e 1 lv rs.length (rs.map valR)
  ow : w.ownsRow B e 1 wv ws.length (ws.map valR)
  al : Off lv (rs ++ ws ++ ps)
  aw : Off wv (rs ++ ws ++ ps)
  ne : ∀ g, lv.ownBlock = some g → wv.ownBlock ≠ some g
  le : B ≤ w.heap.size
theorem move_get (rs ws ps : RowL) (i : Nat) : (rs ++ ps ++ ws)[i]? = (rs ++ ws ++ ps)[if i < rs.length then i else if i < rs.length + ps.length then i + ws.length else if i < rs.length + ps.length + ws.length then i - ps.length else i]? := by
  by_cases h1 : i < rs.length
  · rw [if_pos h1, List.append_assoc, List.append_assoc, List.getElem?_append_left h1, List.getElem?_append_left h1]
  · rw [if_neg h1]
    by_cases h2 : i < rs.length + ps.length
    · rw [if_pos h2, List.getElem?_append_left (by rw [List.length_append]; exact h2), List.getElem?_append_right (by omega), List.getElem?_append_right (by rw [List.length_append]; omega), List.length_append]
      congr 1; omega
    · rw [if_neg h2]
      by_cases h3 : i < rs.length + ps.length + ws.length
      · rw [if_pos h3, List.getElem?_append_right (by rw [List.length_append]; omega), List.length_append, List.getElem?_append_left (by rw [List.length_append]; omega), List.getElem?_append_right (by omega)]
        congr 1; omega
      · rw [if_neg h3, List.getElem?_eq_none (by rw [List.length_append, List.length_append]; omega), List.getElem?_eq_none (by rw [List.length_append, List.length_append]; omega)]
section
variable {T e : TypeId} {B : Nat} {w x : World} {lv wv v' : Value} {rs ws ps : RowL}
theorem RowsB.move (h : RowsB T B w (rs ++ ws ++ ps)) : RowsB T B w (rs ++ ps ++ ws) := by
  refine h.pick (fun i => if i < rs.length then i else if i < rs.length + ps.length then i + ws.length else if i < rs.length + ps.length + ws.length then i - ps.length else i) (fun i j hi hj hij => ?_) fun i s hs => by rw [← move_get]; exact hs
  simp only [List.length_append] at hi hj
  split <;> split <;> (try split) <;> (try split) <;> (try split) <;> (try split) <;> omega
theorem Off.move {v : Value} (h : Off v (rs ++ ws ++ ps)) : Off v (rs ++ ps ++ ws) := fun g hg i r a hr ha => h g hg _ r a (by rw [← move_get]; exact hr) ha
theorem ApSt.nil (h : B ≤ w.heap.size) : ApSt T e B w (.slice none 0 0) (.slice none 0 0) [] [] [] :=
  ⟨RowsB.nil, own_nil _ _ _ _, own_nil _ _ _ _, fun g hg => (by cases hg), fun g hg => (by cases hg), fun g hg => (by cases hg), h⟩
theorem ApSt.later (h : ApSt T e B w lv wv rs ws ps) (hb : Below w.heap.size w x) : ApSt T e B x lv wv rs ws ps :=
  ⟨h.rows.later hb, own_below h.ol hb, own_below h.ow hb, h.al, h.aw, h.ne, Nat.le_trans h.le hb.size⟩
theorem off_snoc {v : Value} {A : Option Addr} {c : Nat} {l : List UInt8} {zs : RowL} (h : Off v zs) (hv : ∀ g, v.ownBlock = some g → g < w.heap.size) (ho : OwnB T w.heap.size x A c l) : Off v (zs ++ [(A, c, l)]) := fun g hg i r a hr ha => by
  rw [List.getElem?_append] at hr
  split at hr
  · exact h g hg i r a hr ha
  · have h0 : i - zs.length = 0 := by
      have := (List.getElem?_eq_some_iff.1 hr).1
      simp at this; omega
    rw [h0] at hr
    injection hr with hr; subst hr
    have h1 := (ho.lt ha).1
    have h2 := hv g hg
    omega
theorem ApSt.fresh (h : ApSt T e B w lv wv rs ws ps) (hb : Below w.heap.size w x) {A : Option Addr} {c : Nat} {l : List UInt8} (ho : OwnB T w.heap.size x A c l) : ApSt T e B x lv wv rs ws (ps ++ [(A, c, l)]) := by
  have h' := h.later hb
  refine ⟨?_, h'.ol, h'.ow, ?_, ?_, h.ne, h'.le⟩
  · rw [← List.append_assoc]; exact h.rows.fresh hb ho h.le
  · rw [← List.append_assoc]; exact off_snoc h.al (own_row_lt h.ol) ho
  · rw [← List.append_assoc]; exact off_snoc h.aw (own_row_lt h.ow) ho
theorem off_grown {v v' : Value} {zs : RowL} (h : Off v zs) (hat : v'.ownBlock = v.ownBlock ∨ v'.ownBlock = some w.heap.size) (hR : RowsB T B w zs) : Off v' zs := fun g hg i r a hr ha => by
  rcases hat with e | e
  · exact h g (e ▸ hg) i r a hr ha
  · rw [e] at hg; injection hg with hg
    have := ((hR.1 i r hr).lt ha).2
    omega
theorem rows_grown {v : Value} {zs : RowL} (hR : RowsB T B w zs) (h : Off v zs) (hg : w.grownBy x v.ownBlock) : RowsB T B x zs :=
  hR.chg (grown_chg hg) fun i r hr a ha e => h a.block e i r a hr ha rfl
/-- What is pending goes into the first list. -/
theorem ApSt.appL (h : ApSt T e B w lv wv rs ws ps) {o : Obj} {n : Nat} {us : List Value} (hn : rs.length + ps.length = n) (hu : rs.map valR ++ ps.map valR = us) (ho : x.ownsRow B e 1 v' n us) (hg : (w.alloc o).grownBy x lv.ownBlock) (hat : v'.ownBlock = lv.ownBlock ∨ v'.ownBlock = some (w.alloc o).heap.size) : ApSt T e B x v' wv (rs ++ ps) ws [] := by
  subst hn; subst hu
  have ha : ApSt T e B (w.alloc o) lv wv rs ws ps := h.later ((Below.refl _ _).alloc (Nat.le_refl _) o)
  refine ⟨?_, ?_, own_chg ha.ow (grown_chg hg) fun g hg hu => ha.ne g hu hg, ?_, ?_, fun g hg hu => ?_, Nat.le_trans ha.le hg.size⟩
  · rw [List.append_nil]; exact (rows_grown ha.rows ha.al hg).move
  · rw [List.length_append, List.map_append]; exact ho
  · rw [List.append_nil]; exact (off_grown ha.al hat ha.rows).move
  · rw [List.append_nil]; exact ha.aw.move
  · rcases hat with e | e
    · exact ha.ne g (e ▸ hg) hu
    · rw [e] at hg; injection hg with hg
      have := own_row_lt ha.ow g hu
      omega
/-- .. into the second. -/
theorem ApSt.appW (h : ApSt T e B w lv wv rs ws ps) {o : Obj} {n : Nat} {us : List Value} (hn : ws.length + ps.length = n) (hu : ws.map valR ++ ps.map valR = us) (ho : x.ownsRow B e 1 v' n us) (hg : (w.alloc o).grownBy x wv.ownBlock) (hat : v'.ownBlock = wv.ownBlock ∨ v'.ownBlock = some (w.alloc o).heap.size) : ApSt T e B x lv v' rs (ws ++ ps) [] := by
  subst hn; subst hu
  have ha : ApSt T e B (w.alloc o) lv wv rs ws ps := h.later ((Below.refl _ _).alloc (Nat.le_refl _) o)
  refine ⟨?_, own_chg ha.ol (grown_chg hg) fun g hg hu => ha.ne g hg hu, ?_, ?_, ?_, fun g hg hu => ?_, Nat.le_trans ha.le hg.size⟩
  · rw [List.append_nil, ← List.append_assoc]; exact rows_grown ha.rows ha.aw hg
  · rw [List.length_append, List.map_append]; exact ho
  · rw [List.append_nil, ← List.append_assoc]; exact ha.al
  · rw [List.append_nil, ← List.append_assoc]; exact off_grown ha.aw hat ha.rows
  · rcases hat with e | e
    · exact ha.ne g hg (e ▸ hu)
    · rw [e] at hu; injection hu with hu
      have := own_row_lt ha.ol g hg
      omega
end

/-- The lengthened ones. -/
def moreL (mk : Nat → UInt8) (rs : RowL) (q : Nat) : List (List UInt8) := (List.range q).map fun i => List.replicate (2 * ((rs[i]?.map fun r => r.2.2.length).getD 0) + 70) (mk i)
theorem moreL_zero (mk : Nat → UInt8) (rs : RowL) : moreL mk rs 0 = [] := rfl
theorem moreL_succ (mk : Nat → UInt8) {rs : RowL} {q : Nat} {A : Option Addr} {c : Nat} {l : List UInt8} (h : rs[q]? = some (A, c, l)) : moreL mk rs (q + 1) = moreL mk rs q ++ [List.replicate (2 * l.length + 70) (mk q)] := by simp [moreL, List.range_succ, h]
theorem moreL_at (mk : Nat → UInt8) {rs : RowL} {q i : Nat} (hi : i < q) {A : Option Addr} {c : Nat} {l : List UInt8} (h : rs[i]? = some (A, c, l)) : (moreL mk rs q)[i]? = some (List.replicate (2 * l.length + 70) (mk i)) := by simp [moreL, List.getElem?_map, List.getElem?_range hi, h]
section
variable {T e : TypeId} {base H3 : Nat} {wr w2 w3 : World} {rs : RowL} {v v3 : Value} {vs : List Value} {ks : List (List UInt8)} {k ca c' : Nat} {l l' : List UInt8} {A A' : Option Addr}
theorem more_own2 (hown : wr.ownsRow H3 e 1 v k vs) (hg2 : wr.grownBy w2 (A.map (·.block))) (hlt : ∀ a, A = some a → a.block < H3) : w2.ownsRow H3 e 1 v k vs :=
  own_chg hown (grown_chg hg2) fun g hg e' => by
    have := (World.ownsRow.lt hown g hg).1
    cases A with
    | none => cases e'
    | some a => injection e' with e'; have : a.block < H3 := hlt a rfl; have e'' : a.block = g := e'; omega
/-- more_step, of any row. -/
theorem more_step2 {N : Nat} (hN : l'.length = N) (hR : RowsB T base wr rs) (hk : rs[k]? = some (A, ca, l)) (hF : FamS wr v.ownBlock vs ks) (hA : Aps rs k vs) (hown : wr.ownsRow H3 e 1 v k vs)
    (hH : ∀ (i : Nat) r a, rs[i]? = some r → r.1 = some a → a.block < H3) (hle : H3 ≤ wr.heap.size)
    (hg2 : wr.grownBy w2 (A.map (·.block))) (ho2 : OwnB T base w2 A ca l) (hs2 : OwnB T base w2 A' c' l') (hblk : ∀ a, A' = some a → A.map (·.block) = some a.block ∨ wr.heap.size ≤ a.block)
    (hg3 : (w2.alloc (.cells #[.slice A' N c'] e)).grownBy w3 v.ownBlock) (hat3 : v3.ownBlock = v.ownBlock ∨ v3.ownBlock = some (w2.alloc (.cells #[.slice A' N c'] e)).heap.size) :
    RowsB T base w3 rs ∧ FamS w3 v3.ownBlock (vs ++ [.slice A' N c']) (ks ++ [l']) ∧ Aps rs (k + 1) (vs ++ [.slice A' N c']) ∧ (∀ S : Nat → Prop, (∀ a, A = some a → S a.block) → (∀ b, H3 ≤ b → S b) → Chg S wr w3) := by
  subst hN
  have hgkl : ∀ a, A = some a → a.block < H3 := fun a ha => hH k _ a hk ha
  have hal : Below w2.heap.size w2 (w2.alloc (.cells #[.slice A' l'.length c'] e)) := (Below.refl _ _).alloc (Nat.le_refl _) _
  have hvb : ∀ g, v.ownBlock = some g → H3 ≤ g ∧ g < wr.heap.size := fun g hg => World.ownsRow.lt hown g hg
  have hR2 : RowsB T base w2 rs := hR.grow hk hg2 ho2
  have hF2 : FamS w2 v.ownBlock vs ks := hF.chg (grown_chg hg2) fun i q a n c hq hq0 hv e' => by
    have hn : 0 < n := by
      obtain ⟨a2, c2, h1, _, _⟩ := hF.2 i q hq
      rw [hv] at h1; injection h1 with h1; injection h1 with _ h1 _; omega
    cases A with
    | none => cases e'
    | some b =>
      injection e' with e'
      exact hA k i a b n c _ hv hn (Nat.le_refl _) hk rfl e'.symm
  have hne : 0 < l'.length → ∀ x, A' = some x → some x.block ≠ v.ownBlock := fun _ x hx e' => by
    have h1 := hvb _ e'.symm
    rcases hblk x hx with h | h
    · cases A with
      | none => cases h
      | some b => injection h with h; have h3 : b.block < H3 := hgkl b rfl; have h4 : b.block = x.block := h; omega
    · omega
  have hF3 := ((hF2.later hal).snoc ((Sl.own hs2).later hal) hne).step hg3 hat3
  refine ⟨?_, hF3, ?_, fun S h1 h2 => ?_⟩
  · refine (hR2.later hal).chg (grown_chg hg3) fun i r hr a ha e' => ?_
    have h1 := hH i r a hr ha
    have h2 := hvb _ e'
    omega
  · intro i j a b n c r hj hn hi hr hb
    rw [List.getElem?_append] at hj
    split at hj
    · exact hA i j a b n c r hj hn (by omega) hr hb
    · have h0 : j - vs.length = 0 := by
        have := (List.getElem?_eq_some_iff.1 hj).1
        simp at this; omega
      rw [h0] at hj
      injection hj with hj
      injection hj with hj _ _
      rcases hblk a hj with h | h
      · cases A with
        | none => cases h
        | some g =>
          injection h with h
          have := hR.2 k i _ r hk hr (by omega) g b rfl hb
          rw [← h]; exact this
      · have h1 := hH i r b hr hb
        omega
  · have c1 : Chg S wr w2 := (grown_chg hg2).mono fun b _ e' => by
      cases A with
      | none => cases e'
      | some g => injection e' with e'; subst e'; exact h1 g rfl
    have c2 : Chg S w2 (w2.alloc (.cells #[.slice A' l'.length c'] e)) := Below.chg0 hal
    have c3 : Chg S (w2.alloc (.cells #[.slice A' l'.length c'] e)) w3 := (grown_chg hg3).mono fun b _ e' => h2 b (hvb b e').1
    exact (c1.trans c2).trans c3
end

end Go.Proofs.YtbcljgcilbfblaaDoor

namespace Go.Proofs.YtbcljgcilbfblaaDoor
open Go.RowKit

/-- A list of rows; all of it one's own, all apart. -/
structure LR (T e : TypeId) (B : Nat) (w : World) (A : Option Addr) (n c : Nat) (rs : RowL) (ks : List (List UInt8)) : Prop where
  ol : w.ownsRow B e 1 (.slice A n c) n (rs.map valR)
  rows : RowsB T B w rs
  off : Off (.slice A n c) rs
  cont : rs.map (·.2.2) = ks
  len : rs.length = n
theorem cont_one10 {zs : RowL} {L : List (List UInt8)} (h : zs.map (·.2.2) = L) {k : Nat} {F : List UInt8} (hk : L[k]? = some F) : ∃ a ca, zs[k]? = some (a, ca, F) := by
  rw [← h, List.getElem?_map] at hk
  cases hz : zs[k]? with
  | none => rw [hz] at hk; cases hk
  | some r =>
    rw [hz] at hk; injection hk with hk
    exact ⟨r.1, r.2.1, by rw [← hk]⟩
section
variable {T e : TypeId} {B n c : Nat} {w x : World} {lv wv : Value} {A : Option Addr} {rs : RowL} {ks : List (List UInt8)} {S : Nat → Prop}
theorem ApSt.lr (h : ApSt T e B w lv wv rs [] []) (hk : rs.map (·.2.2) = ks) (hn : rs.length = n) : ∃ A c, lv = .slice A n c ∧ LR T e B w A n c rs ks := by
  obtain ⟨h1, h2, _, h3, _⟩ := h
  rw [List.append_nil, List.append_nil] at h1 h3
  rw [hn] at h2
  obtain ⟨A, c, rfl, _⟩ := own_slice h2
  exact ⟨A, c, rfl, h2, h1, h3, hk, hn⟩
theorem LR.len_ks (h : LR T e B w A n c rs ks) : ks.length = n := by rw [← h.cont, List.length_map, h.len]
theorem LR.chg (h : LR T e B w A n c rs ks) (hc : Chg S w x) (h1 : ∀ a, A = some a → ¬ S a.block) (h2 : ∀ (i : Nat) r a, rs[i]? = some r → r.1 = some a → ¬ S a.block) : LR T e B x A n c rs ks :=
  ⟨own_chg h.ol hc fun g hg => by
    cases A with
    | none => cases hg
    | some a => injection hg with hg; subst hg; exact h1 a rfl, h.rows.chg hc fun i r hr a ha => h2 i r a hr ha, h.off, h.cont, h.len⟩
theorem LR.later (h : LR T e B w A n c rs ks) (hb : Below w.heap.size w x) : LR T e B x A n c rs ks := h.chg (S := fun _ => False) (Below.chg0 hb) (fun _ _ e => e) fun _ _ _ _ _ e => e
theorem LR.cell (h : LR T e B w A n c rs ks) {i : Nat} {a : Option Addr} {ca : Nat} {l : List UInt8} (hr : rs[i]? = some (a, ca, l)) : ∃ g, A = some ⟨g, 0, none⟩ ∧ B ≤ g ∧ g < w.heap.size ∧ w.cell? ⟨g, i, none⟩ = some (.slice a l.length ca) := by
  have hlt := (List.getElem?_eq_some_iff.1 hr).1
  have hn := h.len
  obtain ⟨g, cap, hv, h1, h2, _⟩ := own_form h.ol (by omega)
  injection hv with hv _ _
  subst hv
  exact ⟨g, rfl, h1, h2, (World.ownsRow.cellAt h.ol i (by omega)).trans (by rw [List.getElem?_map, hr]; rfl)⟩
theorem LR.at_ (h : LR T e B w A n c rs ks) {i : Nat} {l : List UInt8} (hk : ks[i]? = some l) : ∃ a ca, rs[i]? = some (a, ca, l) ∧ Sl w a l.length ca l := by
  obtain ⟨a, ca, hr⟩ := cont_one10 h.cont hk
  exact ⟨a, ca, hr, h.rows.sl hr⟩
theorem LR.kv (h : LR T e B w A n c rs ks) : KV w w.heap.size (rs.map valR) ks :=
  ⟨by rw [List.length_map, h.len, h.len_ks], fun i k hk => by
    obtain ⟨a, ca, hr, hs⟩ := h.at_ hk
    exact ⟨a, ca, by rw [List.getElem?_map, hr]; rfl, hs.cap, hs.lim, hs.nil, hs.rb⟩⟩
theorem LR.rbs (h : LR T e B w A n c rs ks) : RBs w w.heap.size A n ks := h.kv.rbs (Reads.own h.ol)
end

/-- A slice that begins with n bytes and goes on with t alone: behind an append of t's to a row that is at least n long, wherever that lies, it is what it was. -/
theorem Sl.retail {w x : World} {A : Option Addr} {n N M N' c : Nat} {l : List UInt8} {t : UInt8} {row : Option Nat} (h : Sl w A (n + N) c (l ++ List.replicate N t)) (hl : l.length = n) (hA : ∀ a, A = some a → a.off = 0) (hM : n ≤ M)
    (hc : ∀ p u, w.cell? p = some u → x.cell? p = some u ∨ (some p.block = row ∧ p.spot = Option.none ∧ M ≤ p.off ∧ p.off < M + N' ∧ x.cell? p = (u8s (List.replicate N' t))[p.off - M]?)) (hsz : w.heap.size ≤ x.heap.size) : Sl x A (n + N) c (l ++ List.replicate N t) := by
  refine ⟨RB.mk' h.len fun h0 => ?_, h.cap, h.lim, h.nil⟩
  obtain ⟨b, o, e, hb, hcell⟩ := h.rb.2 h0
  have ho : o = 0 := hA ⟨b, o, Option.none⟩ e
  refine ⟨b, o, e, Nat.lt_of_lt_of_le hb hsz, fun j u hj => ?_⟩
  have h1 := hcell j _ (u8s_at hj)
  rcases hc _ _ h1 with h2 | ⟨_, _, h2, h3, h4⟩
  · exact h2
  · simp only at h2 h3 h4
    rw [h4]
    have hj' : u = t := by
      rw [List.getElem?_append_right (by omega), List.getElem?_replicate] at hj
      split at hj
      · injection hj with hj; exact hj.symm
      · cases hj
    rw [hj']
    refine u8s_at ?_
    rw [List.getElem?_replicate, if_pos (by omega)]
theorem own_off {T : TypeId} {base : Nat} {w : World} {A : Option Addr} {c : Nat} {l : List UInt8} (h : OwnB T base w A c l) : ∀ a, A = some a → a.off = 0 := fun a ha => by rw [h.zero ha]

/-- The lengthened ones of the first q rows, three of each. -/
def moreW (mk tl : Nat → UInt8) (rs : RowL) (q : Nat) : List (List UInt8) := (List.range q).flatMap fun i =>
  [List.replicate ((rs[i]?.map fun r => r.2.2.length).getD 0) (mk i) ++ List.replicate 1 (tl i), List.replicate ((rs[i]?.map fun r => r.2.2.length).getD 0) (mk i) ++ List.replicate 2 (tl i), List.replicate ((rs[i]?.map fun r => r.2.2.length).getD 0) (mk i) ++ List.replicate 70 (tl i)]
theorem moreW_succ (mk tl : Nat → UInt8) {rs : RowL} {q : Nat} {A : Option Addr} {c : Nat} {l : List UInt8} (h : rs[q]? = some (A, c, l)) : moreW mk tl rs (q + 1) = moreW mk tl rs q ++ [List.replicate l.length (mk q) ++ List.replicate 1 (tl q), List.replicate l.length (mk q) ++ List.replicate 2 (tl q), List.replicate l.length (mk q) ++ List.replicate 70 (tl q)] := by simp [moreW, List.range_succ, h]
theorem moreW_len (mk tl : Nat → UInt8) (rs : RowL) (q : Nat) : (moreW mk tl rs q).length = 3 * q := by
  induction q with
  | zero => rfl
  | succ q ih =>
    have : (moreW mk tl rs (q + 1)).length = (moreW mk tl rs q).length + 3 := by simp [moreW, List.range_succ]
    omega
def extW : Nat → Nat
  | 0 => 1
  | 1 => 2
  | _ => 70
theorem moreW_at (mk tl : Nat → UInt8) {rs : RowL} {q i d : Nat} (hi : i < q) (hd : d < 3) {A : Option Addr} {c : Nat} {l : List UInt8} (h : rs[i]? = some (A, c, l)) : (moreW mk tl rs q)[3 * i + d]? = some (List.replicate l.length (mk i) ++ List.replicate (extW d) (tl i)) := by
  induction q with
  | zero => omega
  | succ q ih =>
    have e : moreW mk tl rs (q + 1) = moreW mk tl rs q ++ [List.replicate ((rs[q]?.map fun r => r.2.2.length).getD 0) (mk q) ++ List.replicate 1 (tl q), List.replicate ((rs[q]?.map fun r => r.2.2.length).getD 0) (mk q) ++ List.replicate 2 (tl q), List.replicate ((rs[q]?.map fun r => r.2.2.length).getD 0) (mk q) ++ List.replicate 70 (tl q)] := by simp [moreW, List.range_succ]
    rw [e]
    by_cases h1 : i < q
    · rw [List.getElem?_append_left (by rw [moreW_len]; omega)]
      exact ih h1
    · obtain rfl : i = q := by omega
      rw [List.getElem?_append_right (by rw [moreW_len]; omega), moreW_len, h]
      match d, hd with
      | 0, _ => simp [extW]
      | 1, _ => simp [extW, show 3 * i + 1 - 3 * i = 1 from by omega]
      | 2, _ => simp [extW, show 3 * i + 2 - 3 * i = 2 from by omega]
section
variable {T e : TypeId} {base H3 : Nat} {wr w2 w3 : World} {rs : RowL} {v v3 : Value} {vs : List Value} {ks : List (List UInt8)} {k m ca : Nat} {l : List UInt8} {A : Option Addr}
theorem Aps.three {vs us : List Value} (h : Aps rs k vs) (hu : ∀ (j : Nat) (a : Addr) (n c : Nat), us[j]? = some (.slice (some a) n c) → 0 < n → ∀ (i : Nat) (b : Addr) r, k + 1 ≤ i → rs[i]? = some r → r.1 = some b → a.block ≠ b.block) : Aps rs (k + 1) (vs ++ us) := by
  intro i j a b n c r hj hn hi hr hb
  rw [List.getElem?_append] at hj
  split at hj
  · exact h i j a b n c r hj hn (by omega) hr hb
  · exact hu _ a n c hj hn i b r hi hr hb
/-- The row k was lengthened three times; the list of what came of it takes the three. -/
theorem more_step3 {A1 A2 A3 : Option Addr} {N1 N2 N3 c1 c2 c3 : Nat} {l1 l2 l3 : List UInt8} (hR : RowsB T base wr rs) (hk : rs[k]? = some (A, ca, l)) (hF : FamS wr v.ownBlock vs ks) (hA : Aps rs k vs) (hown : wr.ownsRow H3 e 1 v m vs)
    (hH : ∀ (i : Nat) r a, rs[i]? = some r → r.1 = some a → a.block < H3) (hle : H3 ≤ wr.heap.size)
    (hg2 : wr.grownBy w2 (A.map (·.block))) (ho2 : OwnB T base w2 A ca l)
    (s1 : Sl w2 A1 N1 c1 l1) (s2 : Sl w2 A2 N2 c2 l2) (s3 : Sl w2 A3 N3 c3 l3)
    (b1 : ∀ a, A1 = some a → A.map (·.block) = some a.block ∨ wr.heap.size ≤ a.block) (b2 : ∀ a, A2 = some a → A.map (·.block) = some a.block ∨ wr.heap.size ≤ a.block) (b3 : ∀ a, A3 = some a → A.map (·.block) = some a.block ∨ wr.heap.size ≤ a.block)
    {o : Obj} (hg3 : (w2.alloc o).grownBy w3 v.ownBlock) (hat3 : v3.ownBlock = v.ownBlock ∨ v3.ownBlock = some (w2.alloc o).heap.size) :
    RowsB T base w3 rs ∧ FamS w3 v3.ownBlock (vs ++ [.slice A1 N1 c1, .slice A2 N2 c2, .slice A3 N3 c3]) (ks ++ [l1, l2, l3]) ∧ Aps rs (k + 1) (vs ++ [.slice A1 N1 c1, .slice A2 N2 c2, .slice A3 N3 c3]) ∧ (∀ S : Nat → Prop, (∀ a, A = some a → S a.block) → (∀ b, H3 ≤ b → S b) → Chg S wr w3) := by
  have hgkl : ∀ a, A = some a → a.block < H3 := fun a ha => hH k _ a hk ha
  have hal : Below w2.heap.size w2 (w2.alloc o) := (Below.refl _ _).alloc (Nat.le_refl _) _
  have hvb : ∀ g, v.ownBlock = some g → H3 ≤ g ∧ g < wr.heap.size := fun g hg => World.ownsRow.lt hown g hg
  have hR2 : RowsB T base w2 rs := hR.grow hk hg2 ho2
  have hF2 : FamS w2 v.ownBlock vs ks := hF.chg (grown_chg hg2) fun i q a n c hq hq0 hv e' => by
    have hn : 0 < n := by
      obtain ⟨a2, c2, h1, _, _⟩ := hF.2 i q hq
      rw [hv] at h1; injection h1 with h1; injection h1 with _ h1 _; omega
    cases A with
    | none => cases e'
    | some b =>
      injection e' with e'
      exact hA k i a b n c _ hv hn (Nat.le_refl _) hk rfl e'.symm
  have hne : ∀ A' : Option Addr, (∀ a : Addr, A' = some a → A.map (·.block) = some a.block ∨ wr.heap.size ≤ a.block) → ∀ x : Addr, A' = some x → some x.block ≠ v.ownBlock := fun A' hb x hx e' => by
    have h1 := hvb _ e'.symm
    rcases hb x hx with h | h
    · cases A with
      | none => cases h
      | some b => injection h with h; have h3 : b.block < H3 := hgkl b rfl; have h4 : b.block = x.block := h; omega
    · omega
  have hF3 := ((((hF2.later hal).snoc (s1.later hal) fun _ => hne A1 b1).snoc (s2.later hal) fun _ => hne A2 b2).snoc (s3.later hal) fun _ => hne A3 b3).step hg3 hat3
  simp only [List.append_assoc, List.cons_append, List.nil_append] at hF3
  refine ⟨?_, hF3, hA.three fun j a n c hj hn i b r hi hr hb => ?_, fun S h1 h2 => ?_⟩
  · refine (hR2.later hal).chg (grown_chg hg3) fun i r hr a ha e' => ?_
    have h1 := hH i r a hr ha
    have h2 := hvb _ e'
    omega
  · have key : ∀ A' : Option Addr, (∀ a : Addr, A' = some a → A.map (·.block) = some a.block ∨ wr.heap.size ≤ a.block) → A' = some a → a.block ≠ b.block := fun A' hb' ha => by
      rcases hb' a ha with h | h
      · cases A with
        | none => cases h
        | some g =>
          injection h with h
          have := hR.2 k i _ r hk hr (by omega) g b rfl hb
          rw [← h]; exact this
      · have h1 := hH i r b hr hb
        omega
    match j, hj with
    | 0, hj => injection hj with hj; injection hj with hj _ _; exact key A1 b1 hj
    | 1, hj => injection hj with hj; injection hj with hj _ _; exact key A2 b2 hj
    | 2, hj => injection hj with hj; injection hj with hj _ _; exact key A3 b3 hj
    | j + 3, hj => simp at hj
  · have c1 : Chg S wr w2 := (grown_chg hg2).mono fun b _ e' => by
      cases A with
      | none => cases e'
      | some g => injection e' with e'; subst e'; exact h1 g rfl
    have c2 : Chg S w2 (w2.alloc o) := Below.chg0 hal
    have c3 : Chg S (w2.alloc o) w3 := (grown_chg hg3).mono fun b _ e' => h2 b (hvb b e').1
    exact (c1.trans c2).trans c3
end

theorem Chg.trans3 {S : Nat → Prop} {w x y : World} {H : Nat} (h : Chg S w x) (k : Chg (fun b => S b ∨ H ≤ b) x y) (hle : w.heap.size ≤ H) : Chg S w y :=
  ⟨k.os.trans h.os, k.tape.trans h.tape, k.output.trans h.output, Nat.le_trans h.size k.size, fun b hb hn => (k.block b (Nat.lt_of_lt_of_le hb h.size) (fun e => by rcases e with e | e; exact hn e; omega)).trans (h.block b hb hn)⟩
section
variable {P : Program} (w : World)
/-- 'append(s, x...)' in a region that draws its order; cell by cell. -/
theorem step_append_cells {ops : Array Oper} {o : Oper} {a : Act} {K : Act → World → Prop} {Q : Exit → Act → World → Prop} {E : Prop} (hgd : o.guard = none) (s x : Operand) {t e : TypeId} {bytes : Nat}
    (ho : o.op = .call { callee := .builtin .append, args := #[s, x], argTypes := #[t, t] }) (hS : SliceOf P t e 1 bytes)
    (base : Nat) (v : Value) (n : Nat) (xs : List Value) (hs : a.eval s = v) (hown : w.ownsRow base e 1 v n xs)
    (B : Nat) (A : Option Addr) (m c : Nat) (news : List Value) (hx : a.eval x = .slice A m c) (hr : Reads w B 1 A m news) (h1 : ∀ u ∈ news, u.oneCell' = true)
    (h63 : n + m ≤ maxLen) (hbytes : (n + m) * bytes ≤ 140737488355328) (hbase : base ≤ w.heap.size)
    (h : ∀ v' w', w'.ownsRow base e 1 v' (n + m) (xs ++ news) → w.grownBy w' v.ownBlock → (v'.ownBlock = v.ownBlock ∨ v'.ownBlock = some w.heap.size) → w'.ownsRow base e 1 v n xs →
      (∀ p u, w.cell? p = some u → w'.cell? p = some u ∨ (some p.block = v.ownBlock ∧ p.spot = none ∧ n ≤ p.off ∧ p.off < n + m ∧ w'.cell? p = news[p.off - n]?)) → K (a.put o.dst v') w') :
    if Region.wanted o (yielded ops a.tmps) = true then Oper.wp P o a w K Q else E := by
  have hw : Region.wanted o (yielded ops a.tmps) = true := by simp [Region.wanted, hgd]
  rw [if_pos hw]
  exact wp_append_cells w s x ho hS base v n xs hs hown B A m c news hx hr h1 h63 hbytes hbase h
end
/-- Held while a row is lengthened: a cell elsewhere, the row itself, what was there. -/
structure GC (T : TypeId) (base : Nat) (w : World) (p : Addr) (u : Value) (A : Option Addr) (c : Nat) (l : List UInt8) (x : World) : Prop where
  cell : x.cell? p = some u
  own : OwnB T base x A c l
  grown : w.grownBy x (A.map (·.block))
section
variable {T : TypeId} {base c n : Nat} {w x y : World} {p : Addr} {u : Value} {A : Option Addr} {l : List UInt8}
theorem GC.call (h : GC T base w p u A c l x) (hb : Below x.heap.size x y) : GC T base w p u A c l y := ⟨cell_below hb h.cell, h.own.later hb, grown_trans h.grown (below_grown hb _)⟩
theorem own_block (A : Option Addr) (n c : Nat) : (Value.slice A n c).ownBlock = A.map (·.block) := by cases A <;> rfl
theorem GC.app (h : GC T base w p u A c l x) (hne : A.map (·.block) ≠ some p.block) (hg : x.grownBy y (Value.slice A n c).ownBlock) (ho : OwnB T base y A c l) : GC T base w p u A c l y := by
  rw [own_block] at hg
  exact ⟨(hg.cell h.cell fun e => hne e.symm), ho, grown_trans h.grown hg⟩
theorem GC.call2 {Q : World → Prop} (hq : ∀ x y, Below x.heap.size x y → Q x → Q y) (h : x.cell? p = some u ∧ GC T base w p u A c l x ∧ Q x) (hb : Below x.heap.size x y) : y.cell? p = some u ∧ GC T base w p u A c l y ∧ Q y := ⟨cell_below hb h.1, h.2.1.call hb, hq x y hb h.2.2⟩
theorem GC.app2 {Q : World → Prop} (h : x.cell? p = some u ∧ GC T base w p u A c l x ∧ Q x) (hne : A.map (·.block) ≠ some p.block) (hg : x.grownBy y (Value.slice A n c).ownBlock) (ho : OwnB T base y A c l) (hq : Q y) : y.cell? p = some u ∧ GC T base w p u A c l y ∧ Q y := ⟨(h.2.1.app hne hg ho).cell, h.2.1.app hne hg ho, hq⟩
theorem GC.call1 (h : x.cell? p = some u ∧ GC T base w p u A c l x) (hb : Below x.heap.size x y) : y.cell? p = some u ∧ GC T base w p u A c l y := ⟨cell_below hb h.1, h.2.call hb⟩
theorem GC.app1 (h : x.cell? p = some u ∧ GC T base w p u A c l x) (hne : A.map (·.block) ≠ some p.block) (hg : x.grownBy y (Value.slice A n c).ownBlock) (ho : OwnB T base y A c l) : y.cell? p = some u ∧ GC T base w p u A c l y := ⟨(h.2.app hne hg ho).cell, h.2.app hne hg ho⟩
theorem own_len (h : OwnB T base x A c l) (hl : l.length = n) : x.ownsRow base T 1 (.slice A n c) n (u8s l) := hl ▸ h
theorem own_of_len (h : x.ownsRow base T 1 (.slice A n c) n (u8s l)) (hl : l.length = n) : OwnB T base x A c l := by subst hl; exact h
end

theorem app_marks {T : TypeId} {base L N : Nat} {w : World} {A : Option Addr} {c : Nat} {m t : UInt8} (h : w.ownsRow base T 1 (.slice A (L + N) c) (L + N) (u8s (List.replicate L m) ++ u8s (List.replicate N t))) : OwnB T base w A c (List.replicate L m ++ List.replicate N t) := by
  rw [← u8s_append] at h; exact own_of_len h (by simp)
/-- Where what was lengthened lies: in the row's block, or in one made since. -/
def Blk (w : World) (A A' : Option Addr) : Prop := ∀ x, A' = some x → A.map (·.block) = some x.block ∨ w.heap.size ≤ x.block
theorem blk_of {w : World} {A A1 : Option Addr} {n c n1 c1 H : Nat} (h : (Value.slice A1 n1 c1).ownBlock = (Value.slice A n c).ownBlock ∨ (Value.slice A1 n1 c1).ownBlock = some H) (hle : w.heap.size ≤ H) : Blk w A A1 := fun a ha => by
  subst ha
  rcases h with h | h
  · rw [own_block A] at h; exact .inl h.symm
  · injection h with h; exact .inr (by omega)
theorem blk_row {w : World} {A A' : Option Addr} (h : Blk w A A') : A'.map (·.block) = A.map (·.block) ∨ ∀ g, A'.map (·.block) = some g → w.heap.size ≤ g := by
  cases A' with
  | none => exact .inr fun g hg => by cases hg
  | some x =>
    rcases h x rfl with h | h
    · exact .inl h.symm
    · refine .inr fun g hg => ?_
      injection hg with hg
      have hg : x.block = g := hg
      omega
/-- The lengthened row takes one more; the row, and what it was lengthened to before, stand. -/
theorem grow_step {T : TypeId} {base L j ca c5 c6 N2 c2 N4 c4 : Nat} {wr x y : World} {p : Addr} {u : Value} {A A5 A6 A2 A4 : Option Addr} {m t : UInt8} (hG : GC T base wr p u A ca (List.replicate L m) x) (hO : OwnB T base x A5 c5 (List.replicate L m ++ List.replicate j t)) (hK : Blk wr A A5)
    (s2 : Sl x A2 (L + N2) c2 (List.replicate L m ++ List.replicate N2 t)) (o2 : ∀ a, A2 = some a → a.off = 0) (s4 : Sl x A4 (L + N4) c4 (List.replicate L m ++ List.replicate N4 t)) (o4 : ∀ a, A4 = some a → a.off = 0)
    (hne : A.map (·.block) ≠ some p.block) (hlt : p.block < wr.heap.size)
    (hown : y.ownsRow base T 1 (.slice A6 (L + j + 1) c6) (L + j + 1) (u8s (List.replicate L m ++ List.replicate j t) ++ u8s (List.replicate 1 t))) (hg : x.grownBy y (Value.slice A5 (L + j) c5).ownBlock)
    (hat : (Value.slice A6 (L + j + 1) c6).ownBlock = (Value.slice A5 (L + j) c5).ownBlock ∨ (Value.slice A6 (L + j + 1) c6).ownBlock = some x.heap.size) (hold : y.ownsRow base T 1 (.slice A5 (L + j) c5) (L + j) (u8s (List.replicate L m ++ List.replicate j t)))
    (hcell : ∀ p u, x.cell? p = some u → y.cell? p = some u ∨ (some p.block = (Value.slice A5 (L + j) c5).ownBlock ∧ p.spot = none ∧ L + j ≤ p.off ∧ p.off < L + j + 1 ∧ y.cell? p = (u8s (List.replicate 1 t))[p.off - (L + j)]?)) :
    OwnB T base y A6 c6 (List.replicate L m ++ List.replicate (j + 1) t) ∧ GC T base wr p u A ca (List.replicate L m) y ∧ Blk wr A A6 ∧ Sl y A2 (L + N2) c2 (List.replicate L m ++ List.replicate N2 t) ∧ Sl y A4 (L + N4) c4 (List.replicate L m ++ List.replicate N4 t) := by
  have hr := blk_row hK
  have hxs : wr.heap.size ≤ x.heap.size := hG.grown.size
  have hne' : some p.block ≠ (Value.slice A5 (L + j) c5).ownBlock := fun e => by
    rw [own_block] at e
    rcases hr with h | h
    · exact hne (h ▸ e.symm)
    · have := h _ e.symm; omega
  refine ⟨?_, ⟨hg.cell hG.cell hne', ?_, ?_⟩, fun z hz => ?_, s2.retail (by simp) o2 (by omega) hcell hg.size, s4.retail (by simp) o4 (by omega) hcell hg.size⟩
  · rw [← u8s_append, List.append_assoc, List.replicate_append_replicate] at hown
    exact own_of_len hown (by simp; omega)
  · exact own_under hG.own (own_len hO (by simp)) hg hold (by simp)
  · exact grown_keep hG.grown hg (by rw [own_block]; exact hr)
  · subst hz
    rcases hat with h | h
    · rw [own_block A5] at h
      rcases hr with h' | h'
      · exact .inl (by rw [← h', ← h]; rfl)
      · exact .inr (h' _ h.symm)
    · injection h with h; exact .inr (by omega)

end Go.Proofs.YtbcljgcilbfblaaDoor

namespace Go.Proofs.YtbcljgcilbfblaaDoor
open Go.RowKit

structure BkC (w : World) (g : Nat) (lv wv : Value) : Prop where
  c0 : w.cell? ⟨g, 0, none⟩ = some lv
  c1 : w.cell? ⟨g, 1, none⟩ = some wv
  f0 : w.frozen? ⟨g, 0, none⟩ = false
  f1 : w.frozen? ⟨g, 1, none⟩ = false
def pickR (zs : RowL) (is : List Nat) : RowL := is.map fun i => zs[i]?.getD (none, 0, [])
structure BkH (T e : TypeId) (B g : Nat) (w : World) (lv wv : Value) (zs : RowL) (is js : List Nat) : Prop where
  box : BkC w g lv wv
  gB : g < B
  le : B ≤ w.heap.size
  rows : RowsB T B w zs
  ol : w.ownsRow B e 1 lv is.length ((pickR zs is).map valR)
  ow : w.ownsRow B e 1 wv js.length ((pickR zs js).map valR)
  al : Off lv zs
  aw : Off wv zs
  ne : ∀ g, lv.ownBlock = some g → wv.ownBlock ≠ some g
  nd : (is ++ js).Nodup
  lt : ∀ i, i ∈ is ++ js → i < zs.length
/-- Each copy holds what its row holds. -/
def SameC (zs : RowL) (is js : List Nat) : Prop := is.length = js.length ∧ ∀ (k i j : Nat), is[k]? = some i → js[k]? = some j → ∀ a c l, zs[i]? = some (a, c, l) → ∃ a' c', zs[j]? = some (a', c', l)
def Far (g : Nat) (lv wv : Value) (b : Nat) : Prop := b ≠ g ∧ lv.ownBlock ≠ some b ∧ wv.ownBlock ≠ some b
section
variable {T e : TypeId} {B g : Nat} {w x : World} {lv wv v' : Value} {zs rs : RowL} {is js : List Nat} {S : Nat → Prop}
theorem BkC.chg (h : BkC w g lv wv) (hc : Chg S w x) (hn : ¬ S g) : BkC x g lv wv := by
  have hlt : g < w.heap.size := World.block_lt_of_cell? w ⟨g, 0, none⟩ h.c0
  have hb := hc.block g hlt hn
  exact ⟨hc.cell h.c0 hn, hc.cell h.c1 hn, (World.frozen?_of_block (w := w) hb).trans h.f0, (World.frozen?_of_block (w := w) hb).trans h.f1⟩
theorem BkC.set0 (h : BkC w g lv wv) (v : Value) : BkC (w.setCell ⟨g, 0, none⟩ v) g v wv :=
  ⟨World.cell?_setCell_same _ _ _ h.c0, (World.cell?_setCell_other _ _ _ _ (by simp)).trans h.c1, by rw [World.frozen?_setCell]; exact h.f0, by rw [World.frozen?_setCell]; exact h.f1⟩
theorem BkC.set1 (h : BkC w g lv wv) (v : Value) : BkC (w.setCell ⟨g, 1, none⟩ v) g lv v :=
  ⟨(World.cell?_setCell_other _ _ _ _ (by simp)).trans h.c0, World.cell?_setCell_same _ _ _ h.c1, by rw [World.frozen?_setCell]; exact h.f0, by rw [World.frozen?_setCell]; exact h.f1⟩
theorem pickR_app {zs rs : RowL} {is : List Nat} (h : ∀ i, i ∈ is → i < zs.length) : pickR (zs ++ rs) is = pickR zs is := by
  unfold pickR
  apply List.map_congr_left
  intro i hi
  rw [List.getElem?_append_left (h i hi)]
theorem pickR_snoc (zs : RowL) (is : List Nat) {i : Nat} {r : Option Addr × Nat × List UInt8} (h : zs[i]? = some r) : pickR zs (is ++ [i]) = pickR zs is ++ [r] := by
  unfold pickR
  rw [List.map_append, List.map_cons, List.map_nil, h]; rfl
theorem pickR_at {zs : RowL} {is : List Nat} {k i : Nat} {r : Option Addr × Nat × List UInt8} (hk : is[k]? = some i) (h : zs[i]? = some r) : (pickR zs is)[k]? = some r := by
  unfold pickR
  rw [List.getElem?_map, hk, Option.map_some, h]; rfl
theorem pickR_get {zs : RowL} {is : List Nat} (hl : ∀ i, i ∈ is → i < zs.length) {k : Nat} {r : Option Addr × Nat × List UInt8} (h : (pickR zs is)[k]? = some r) : ∃ i, is[k]? = some i ∧ zs[i]? = some r := by
  unfold pickR at h
  rw [List.getElem?_map] at h
  cases hk : is[k]? with
  | none => rw [hk] at h; cases h
  | some i =>
    rw [hk] at h
    injection h with h
    have h : zs[i]?.getD (none, 0, []) = r := h
    refine ⟨i, rfl, ?_⟩
    have hi := hl i (List.mem_of_getElem? hk)
    rw [List.getElem?_eq_getElem hi] at h ⊢
    rw [← h]; rfl
theorem RowsB.pickL (h : RowsB T B w zs) (hn : is.Nodup) (hl : ∀ i, i ∈ is → i < zs.length) : RowsB T B w (pickR zs is) := by
  refine ⟨fun k r hr => ?_, fun k q r s hr hs hkq a b ha hb => ?_⟩
  · obtain ⟨i, _, h2⟩ := pickR_get hl hr
    exact h.1 i r h2
  · obtain ⟨i, h1, h2⟩ := pickR_get hl hr
    obtain ⟨j, h3, h4⟩ := pickR_get hl hs
    refine h.2 i j r s h2 h4 (fun e => hkq ?_) a b ha hb
    subst e
    obtain ⟨p1, p2⟩ := List.getElem?_eq_some_iff.1 h1
    obtain ⟨p3, p4⟩ := List.getElem?_eq_some_iff.1 h3
    have hpw := List.pairwise_iff_getElem.1 hn
    rcases Nat.lt_trichotomy k q with h5 | h5 | h5
    · exact absurd (p2.trans p4.symm) (hpw k q p1 p3 h5)
    · exact h5
    · exact absurd (p4.trans p2.symm) (hpw q k p3 p1 h5)
theorem RowsB.app (h : RowsB T B w zs) (hb : Below w.heap.size w x) (hr : RowsB T w.heap.size x rs) (hle : B ≤ w.heap.size) : RowsB T B x (zs ++ rs) := by
  have hz := h.later hb
  refine ⟨fun i r hi => ?_, fun i j r s hi hj hij a b ha hb' => ?_⟩
  · rw [List.getElem?_append] at hi
    split at hi
    · exact hz.1 i r hi
    · exact (hr.1 _ r hi).rebase hle
  · rw [List.getElem?_append] at hi hj
    split at hi <;> split at hj
    · exact hz.2 i j r s hi hj hij a b ha hb'
    · have h1 := ((h.1 i r hi).lt ha).2
      have h2 := ((hr.1 _ s hj).lt hb').1
      omega
    · have h1 := ((hr.1 _ r hi).lt ha).1
      have h2 := ((h.1 j s hj).lt hb').2
      omega
    · exact hr.2 _ _ r s hi hj (by omega) a b ha hb'
theorem off_app {v : Value} (h : Off v zs) (hv : ∀ g, v.ownBlock = some g → g < w.heap.size) (hr : RowsB T w.heap.size x rs) : Off v (zs ++ rs) := fun g hg i r a hi ha => by
  rw [List.getElem?_append] at hi
  split at hi
  · exact h g hg i r a hi ha
  · have h1 := ((hr.1 _ r hi).lt ha).1
    have h2 := hv g hg
    omega
theorem BkH.add (h : BkH T e B g w lv wv zs is js) (hb : Below w.heap.size w x) (hr : RowsB T w.heap.size x rs) : BkH T e B g x lv wv (zs ++ rs) is js := by
  have hlt : g < w.heap.size := Nat.lt_of_lt_of_le h.gB h.le
  refine ⟨h.box.chg (S := fun _ => False) (Below.chg0 hb) (fun e => e), h.gB, Nat.le_trans h.le hb.size, h.rows.app hb hr h.le, ?_, ?_, off_app h.al (own_row_lt h.ol) hr, off_app h.aw (own_row_lt h.ow) hr, h.ne, h.nd, fun i hi => ?_⟩
  · rw [pickR_app fun i hi => h.lt i (List.mem_append_left _ hi)]; exact own_below h.ol hb
  · rw [pickR_app fun i hi => h.lt i (List.mem_append_right _ hi)]; exact own_below h.ow hb
  · have := h.lt i hi
    rw [List.length_append]; omega
theorem BkH.later (h : BkH T e B g w lv wv zs is js) (hb : Below w.heap.size w x) : BkH T e B g x lv wv zs is js := by
  have h1 := h.add hb (rs := []) RowsB.nil
  rw [List.append_nil] at h1
  exact h1
theorem own_ge {w : World} {base e size n : Nat} {v : Value} {xs : List Value} (h : w.ownsRow base e size v n xs) : ∀ g, v.ownBlock = some g → base ≤ g := fun g hg => (World.ownsRow.lt h g hg).1
theorem own_set {n : Nat} {v : Value} {xs : List Value} (h : w.ownsRow B e 1 v n xs) (hg : g < B) (k : Nat) (u : Value) : (w.setCell ⟨g, k, none⟩ u).ownsRow B e 1 v n xs :=
  own_chg h (Chg.setCell w ⟨g, k, none⟩ u) fun b hb e' => by have := own_ge h b hb; simp only at e'; omega
theorem rows_set (h : RowsB T B w zs) (hg : g < B) (k : Nat) (u : Value) : RowsB T B (w.setCell ⟨g, k, none⟩ u) zs :=
  h.chg (Chg.setCell w ⟨g, k, none⟩ u) fun i r hr a ha e' => by have := ((h.1 i r hr).lt ha).1; simp only at e'; omega
theorem BkH.appL (h : BkH T e B g w lv wv zs is js) {i : Nat} {r : Option Addr × Nat × List UInt8} (hi : zs[i]? = some r) (hni : i ∉ is ++ js) {o : Obj} {us : List Value} (hu : us = [valR r])
    (ho : x.ownsRow B e 1 v' (is.length + 1) ((pickR zs is).map valR ++ us)) (hg : (w.alloc o).grownBy x lv.ownBlock) (hat : v'.ownBlock = lv.ownBlock ∨ v'.ownBlock = some (w.alloc o).heap.size) :
    BkH T e B g (x.setCell ⟨g, 0, none⟩ v') v' wv zs (is ++ [i]) js ∧ Chg (fun b => b = g ∨ lv.ownBlock = some b) w (x.setCell ⟨g, 0, none⟩ v') ∧ (∀ b, b < w.heap.size → lv.ownBlock ≠ some b → v'.ownBlock ≠ some b) := by
  subst hu
  have ha := h.later ((Below.refl _ _).alloc (Nat.le_refl _) o)
  have hgl : lv.ownBlock ≠ some g := fun e' => by have := own_ge h.ol g e'; have := h.gB; omega
  have hbx := (ha.box.chg (grown_chg hg) hgl).set0 v'
  refine ⟨⟨hbx, h.gB, ?_, ?_, ?_, ?_, off_grown ha.al hat ha.rows, ha.aw, fun b hb hu => ?_, ?_, fun k hk => ?_⟩, ?_, fun b hb hne e' => ?_⟩
  · rw [World.size_setCell]; exact Nat.le_trans ha.le hg.size
  · exact rows_set (rows_grown ha.rows ha.al hg) h.gB 0 v'
  · rw [pickR_snoc zs is hi, List.length_append, List.map_append]; exact own_set ho h.gB 0 v'
  · exact own_set (own_chg ha.ow (grown_chg hg) fun b hb hu => ha.ne b hu hb) h.gB 0 v'
  · rcases hat with e' | e'
    · exact ha.ne b (e' ▸ hb) hu
    · rw [e'] at hb; injection hb with hb
      have := own_row_lt ha.ow b hu
      omega
  · have hp : (is ++ js ++ [i]).Perm (is ++ [i] ++ js) := by
      rw [List.append_assoc, List.append_assoc]
      exact List.Perm.append_left _ List.perm_append_comm
    refine hp.nodup ?_
    rw [List.nodup_append]
    refine ⟨h.nd, by simp, fun a ha b hb => ?_⟩
    simp at hb
    intro e'
    exact hni (hb ▸ e' ▸ ha)
  · rw [List.append_assoc] at hk
    rcases List.mem_append.1 hk with h1 | h1
    · exact h.lt k (List.mem_append_left _ h1)
    · rcases List.mem_append.1 h1 with h2 | h2
      · simp at h2
        subst h2
        exact (List.getElem?_eq_some_iff.1 hi).1
      · exact h.lt k (List.mem_append_right _ h2)
  · have c1 : Chg (fun b => b = g ∨ lv.ownBlock = some b) w (w.alloc o) := Below.chg0 ((Below.refl _ _).alloc (Nat.le_refl _) o)
    have c2 : Chg (fun b => b = g ∨ lv.ownBlock = some b) (w.alloc o) x := (grown_chg hg).mono fun b _ hb => .inr hb
    have c3 : Chg (fun b => b = g ∨ lv.ownBlock = some b) x (x.setCell ⟨g, 0, none⟩ v') := (Chg.setCell x ⟨g, 0, none⟩ v').mono fun b _ hb => .inl hb
    exact (c1.trans c2).trans c3
  · rcases hat with h1 | h1
    · exact hne (h1 ▸ e')
    · rw [h1] at e'; injection e' with e'
      have : (w.alloc o).heap.size = b := e'
      simp at this; omega
theorem BkH.appW (h : BkH T e B g w lv wv zs is js) {i : Nat} {r : Option Addr × Nat × List UInt8} (hi : zs[i]? = some r) (hni : i ∉ is ++ js) {o : Obj} {us : List Value} (hu : us = [valR r])
    (ho : x.ownsRow B e 1 v' (js.length + 1) ((pickR zs js).map valR ++ us)) (hg : (w.alloc o).grownBy x wv.ownBlock) (hat : v'.ownBlock = wv.ownBlock ∨ v'.ownBlock = some (w.alloc o).heap.size) :
    BkH T e B g (x.setCell ⟨g, 1, none⟩ v') lv v' zs is (js ++ [i]) ∧ Chg (fun b => b = g ∨ wv.ownBlock = some b) w (x.setCell ⟨g, 1, none⟩ v') ∧ (∀ b, b < w.heap.size → wv.ownBlock ≠ some b → v'.ownBlock ≠ some b) := by
  subst hu
  have ha := h.later ((Below.refl _ _).alloc (Nat.le_refl _) o)
  have hgl : wv.ownBlock ≠ some g := fun e' => by have := own_ge h.ow g e'; have := h.gB; omega
  have hbx := (ha.box.chg (grown_chg hg) hgl).set1 v'
  refine ⟨⟨hbx, h.gB, ?_, ?_, ?_, ?_, ha.al, off_grown ha.aw hat ha.rows, fun b hb hu => ?_, ?_, fun k hk => ?_⟩, ?_, fun b hb hne e' => ?_⟩
  · rw [World.size_setCell]; exact Nat.le_trans ha.le hg.size
  · exact rows_set (rows_grown ha.rows ha.aw hg) h.gB 1 v'
  · exact own_set (own_chg ha.ol (grown_chg hg) fun b hb hu => ha.ne b hb hu) h.gB 1 v'
  · rw [pickR_snoc zs js hi, List.length_append, List.map_append]; exact own_set ho h.gB 1 v'
  · rcases hat with e' | e'
    · exact ha.ne b hb (e' ▸ hu)
    · rw [e'] at hu; injection hu with hu
      have := own_row_lt ha.ol b hb
      omega
  · rw [← List.append_assoc, List.nodup_append]
    refine ⟨h.nd, by simp, fun a ha b hb => ?_⟩
    simp at hb
    intro e'
    exact hni (hb ▸ e' ▸ ha)
  · rw [← List.append_assoc] at hk
    rcases List.mem_append.1 hk with h1 | h1
    · exact h.lt k h1
    · simp at h1
      subst h1
      exact (List.getElem?_eq_some_iff.1 hi).1
  · have c1 : Chg (fun b => b = g ∨ wv.ownBlock = some b) w (w.alloc o) := Below.chg0 ((Below.refl _ _).alloc (Nat.le_refl _) o)
    have c2 : Chg (fun b => b = g ∨ wv.ownBlock = some b) (w.alloc o) x := (grown_chg hg).mono fun b _ hb => .inr hb
    have c3 : Chg (fun b => b = g ∨ wv.ownBlock = some b) x (x.setCell ⟨g, 1, none⟩ v') := (Chg.setCell x ⟨g, 1, none⟩ v').mono fun b _ hb => .inl hb
    exact (c1.trans c2).trans c3
  · rcases hat with h1 | h1
    · exact hne (h1 ▸ e')
    · rw [h1] at e'; injection e' with e'
      have : (w.alloc o).heap.size = b := e'
      simp at this; omega
theorem SameC.keep {i : Nat} {a a' : Option Addr} {c c' : Nat} {l : List UInt8} (h : SameC zs is js) (hl : ∀ i, i ∈ is ++ js → i < zs.length) (hi : zs[i]? = some (a, c, l)) : SameC (zs ++ [(a', c', l)]) (is ++ [i]) (js ++ [zs.length]) := by
  refine ⟨by rw [List.length_append, List.length_append, h.1]; rfl, fun k p q hp hq b d m hz => ?_⟩
  rw [List.getElem?_append] at hp hq
  split at hp
  · rename_i hk
    rw [if_pos (by rw [← h.1]; exact hk)] at hq
    have hpm := hl p (List.mem_append_left _ (List.mem_of_getElem? hp))
    have hqm := hl q (List.mem_append_right _ (List.mem_of_getElem? hq))
    rw [List.getElem?_append_left hpm] at hz
    obtain ⟨b', d', hz'⟩ := h.2 k p q hp hq b d m hz
    exact ⟨b', d', by rw [List.getElem?_append_left hqm]; exact hz'⟩
  · rename_i hk
    rw [if_neg (by rw [← h.1]; exact hk)] at hq
    have h0 : k - is.length = 0 := by
      have := (List.getElem?_eq_some_iff.1 hp).1
      simp at this; omega
    rw [h0] at hp
    rw [← h.1, h0] at hq
    injection hp with hp
    injection hq with hq
    subst hp; subst hq
    rw [List.getElem?_append_left (List.getElem?_eq_some_iff.1 hi).1, hi] at hz
    injection hz with hz
    injection hz with _ hz
    injection hz with _ hz
    subst hz
    exact ⟨a', c', by rw [List.getElem?_append_right (Nat.le_refl _), Nat.sub_self]; rfl⟩
theorem SameC.app (h : SameC zs is js) (hl : ∀ i, i ∈ is ++ js → i < zs.length) (rs : RowL) : SameC (zs ++ rs) is js :=
  ⟨h.1, fun k p q hp hq b d m hz => by
    have hpm := hl p (List.mem_append_left _ (List.mem_of_getElem? hp))
    have hqm := hl q (List.mem_append_right _ (List.mem_of_getElem? hq))
    rw [List.getElem?_append_left hpm] at hz
    obtain ⟨b', d', hz'⟩ := h.2 k p q hp hq b d m hz
    exact ⟨b', d', by rw [List.getElem?_append_left hqm]; exact hz'⟩⟩
end

end Go.Proofs.YtbcljgcilbfblaaDoor

namespace Go.Proofs.YtbcljgcilbfblaaDoor
open Go.RowKit

section
variable {w x y : World} {cs : Array Value}
theorem own_low {base base' : Nat} {e : TypeId} {s n : Nat} {v : Value} {xs : List Value} (h : w.ownsRow base e s v n xs) (hb : base' ≤ base) : w.ownsRow base' e s v n xs := by
  refine ⟨h.1, ?_⟩
  rcases h.2 with h' | ⟨g, cap, cur, h1, h2, h3⟩
  · exact .inl h'
  · exact .inr ⟨g, cap, cur, h1, Nat.le_trans hb h2, h3⟩
/-- The box that w's next place holds is there still. -/
structure Bx (w : World) (cs : Array Value) (x : World) : Prop where
  up : Below w.heap.size w x
  at_ : ∀ i v, cs[i]? = some v → x.cell? ⟨w.heap.size, i, none⟩ = some v
  size : w.heap.size + 1 ≤ x.heap.size
theorem Bx.new (w : World) (cs : Array Value) (T : TypeId) : Bx w cs (w.alloc (.cells cs T)) :=
  ⟨(Below.refl _ w).alloc (Nat.le_refl _) _, fun i v h => by simpa using h, by show _ ≤ (w.heap.push _).size; simp⟩
theorem Bx.later (h : Bx w cs x) (k : Below x.heap.size x y) : Bx w cs y :=
  ⟨h.up.trans (k.mono h.up.size), fun i v e => (k.cell (p := ⟨w.heap.size, i, none⟩) h.size).trans (h.at_ i v e), Nat.le_trans h.size k.size⟩
theorem Bx.alloc (h : Bx w cs x) (o : Obj) : Bx w cs (x.alloc o) := h.later ((Below.refl _ x).alloc (Nat.le_refl _) o)
theorem Bx.grow {e : TypeId} {s n : Nat} {v : Value} {xs : List Value} (h : Bx w cs x) (hown : x.ownsRow (w.heap.size + 1) e s v n xs) (hg : x.grownBy y v.ownBlock) : Bx w cs y :=
  ⟨below_app h.up hown hg h.up.size (by omega), fun i u hu => hg.cell (h.at_ i u hu) (fun e => Nat.lt_irrefl _ (Nat.lt_of_lt_of_le (Nat.lt_succ_self _) (hown.lt _ e.symm).1)), Nat.le_trans h.size hg.size⟩
theorem Bx.cell (h : Bx w cs x) {i : Nat} {v : Value} (e : cs[i]? = some v) : x.cell? ⟨w.heap.size, i, none⟩ = some v := h.at_ i v e
/-- What was made later lies aside of an older row that grows. -/
theorem own_aside {b1 base : Nat} {e e' : TypeId} {s s' n n' : Nat} {u v : Value} {xs us : List Value} {z : World} (h : x.ownsRow b1 e' s' u n' us) (hown : z.ownsRow base e s v n xs) (hz : z.heap.size ≤ b1) (hg : x.grownBy y v.ownBlock) : y.ownsRow b1 e' s' u n' us :=
  own_chg h (grown_chg hg) fun g hg' e' => by
    have h1 := (World.ownsRow.lt h g hg').1
    have h2 := (World.ownsRow.lt hown g e').2
    omega
theorem keepB3 {p q r : Addr} {a b c : Value} (h : x.cell? p = some a ∧ x.cell? q = some b ∧ x.cell? r = some c ∧ Bx w cs x) (k : Below x.heap.size x y) : y.cell? p = some a ∧ y.cell? q = some b ∧ y.cell? r = some c ∧ Bx w cs y :=
  ⟨cell_below k h.1, cell_below k h.2.1, cell_below k h.2.2.1, h.2.2.2.later k⟩
theorem keepA3 {p q r : Addr} {a b c : Value} {o : Obj} (h : x.cell? p = some a ∧ x.cell? q = some b ∧ x.cell? r = some c ∧ Bx w cs x) : (x.alloc o).cell? p = some a ∧ (x.alloc o).cell? q = some b ∧ (x.alloc o).cell? r = some c ∧ Bx w cs (x.alloc o) :=
  keepB3 h ((Below.refl _ x).alloc (Nat.le_refl _) o)
theorem keepG3 {i j k : Nat} {a b c : Value} {e : TypeId} {s n : Nat} {v : Value} {xs : List Value} (h : x.cell? ⟨w.heap.size, i, none⟩ = some a ∧ x.cell? ⟨w.heap.size, j, none⟩ = some b ∧ x.cell? ⟨w.heap.size, k, none⟩ = some c ∧ Bx w cs x) (hown : x.ownsRow (w.heap.size + 1) e s v n xs) (hg : x.grownBy y v.ownBlock) :
    y.cell? ⟨w.heap.size, i, none⟩ = some a ∧ y.cell? ⟨w.heap.size, j, none⟩ = some b ∧ y.cell? ⟨w.heap.size, k, none⟩ = some c ∧ Bx w cs y := by
  have hne : some w.heap.size ≠ v.ownBlock := fun e => Nat.lt_irrefl _ (Nat.lt_of_lt_of_le (Nat.lt_succ_self _) (hown.lt _ e.symm).1)
  exact ⟨hg.cell h.1 hne, hg.cell h.2.1 hne, hg.cell h.2.2.1 hne, h.2.2.2.grow hown hg⟩
end
end Go.Proofs.YtbcljgcilbfblaaDoor

namespace Go.Proofs.YtbcljgcilbfblaaDoor
open Go.RowKit

section
variable {w x y : World} {cs : List (Array Value)}
structure Bxs (w : World) (cs : List (Array Value)) (x : World) : Prop where
  up : Below w.heap.size w x
  size : w.heap.size + cs.length ≤ x.heap.size
  cell : ∀ (j : Nat) c (i : Nat) v, cs[j]? = some c → c[i]? = some v → x.cell? ⟨w.heap.size + j, i, none⟩ = some v
  fz : ∀ (j : Nat) c (i : Nat), cs[j]? = some c → x.frozen? ⟨w.heap.size + j, i, none⟩ = false
theorem Bxs.nil (w : World) : Bxs w [] w := ⟨Below.refl _ _, Nat.le_refl _, fun j c i v h => (by simp at h), fun j c i h => (by simp at h)⟩
theorem Bxs.later (h : Bxs w cs x) (k : Below x.heap.size x y) : Bxs w cs y := by
  have hlt : ∀ (j : Nat) c, cs[j]? = some c → w.heap.size + j < x.heap.size := fun j c hj => by
    have := (List.getElem?_eq_some_iff.1 hj).1
    have := h.size
    omega
  exact ⟨h.up.trans (k.mono h.up.size), Nat.le_trans h.size k.size, fun j c i v hj hi => (k.cell (p := ⟨w.heap.size + j, i, none⟩) (hlt j c hj)).trans (h.cell j c i v hj hi),
    fun j c i hj => (k.frozen (p := ⟨w.heap.size + j, i, none⟩) (hlt j c hj)).trans (h.fz j c i hj)⟩
theorem Bxs.push {T : TypeId} {c : Array Value} (h : Bxs w cs x) (hs : x.heap.size = w.heap.size + cs.length) : Bxs w (cs ++ [c]) (x.alloc (.cells c T)) := by
  have k := h.later ((Below.refl _ x).alloc (Nat.le_refl _) (.cells c T))
  refine ⟨k.up, ?_, fun j d i v hj hi => ?_, fun j d i hj => ?_⟩
  · show _ ≤ (x.heap.push _).size
    simp only [Array.size_push, List.length_append, List.length_cons, List.length_nil]; omega
  · rcases Nat.lt_or_ge j cs.length with hlt | hge
    · rw [List.getElem?_append_left hlt] at hj; exact k.cell j d i v hj hi
    · rw [List.getElem?_append_right hge] at hj
      have : j = cs.length := by have := (List.getElem?_eq_some_iff.1 hj).1; simp at this; omega
      subst this
      simp at hj
      subst hj
      rw [← hs]
      simpa using hi
  · rcases Nat.lt_or_ge j cs.length with hlt | hge
    · rw [List.getElem?_append_left hlt] at hj; exact k.fz j d i hj
    · rw [List.getElem?_append_right hge] at hj
      have : j = cs.length := by have := (List.getElem?_eq_some_iff.1 hj).1; simp at this; omega
      subst this
      rw [← hs]
      simp
theorem Bxs.one (w : World) (T : TypeId) (c : Array Value) : Bxs w [c] (w.alloc (.cells c T)) := (Bxs.nil w).push (by simp)
theorem Bxs.two (w : World) (T : TypeId) (c c' : Array Value) : Bxs w [c, c'] ((w.alloc (.cells c T)).alloc (.cells c' T)) := (Bxs.one w T c).push (by show (w.heap.push _).size = _; simp)
theorem Bxs.three (w : World) (T : TypeId) (c c' c'' : Array Value) : Bxs w [c, c', c''] (((w.alloc (.cells c T)).alloc (.cells c' T)).alloc (.cells c'' T)) := (Bxs.two w T c c').push (by show ((w.heap.push _).push _).size = _; simp)
/-- One cell is written. -/
theorem Bxs.set (h : Bxs w cs x) {j : Nat} {c : Array Value} (i : Nat) (v : Value) (hj : cs[j]? = some c) (hi : i < c.size) : Bxs w (cs.set j (c.set! i v)) (x.setCell ⟨w.heap.size + j, i, none⟩ v) := by
  have hjl := (List.getElem?_eq_some_iff.1 hj).1
  have hget : ∀ (k : Nat) d, (cs.set j (c.set! i v))[k]? = some d → (k = j ∧ d = c.set! i v) ∨ (k ≠ j ∧ cs[k]? = some d) := fun k d hk => by
    rw [List.getElem?_set] at hk
    by_cases e : j = k
    · subst e; rw [if_pos rfl, if_pos hjl] at hk; injection hk with hk; exact .inl ⟨rfl, hk.symm⟩
    · rw [if_neg e] at hk; exact .inr ⟨fun h => e h.symm, hk⟩
  refine ⟨h.up.setCell (Nat.le_add_right _ _) v, by rw [List.length_set]; exact Nat.le_trans h.size (by simp), fun k d n u hk hn => ?_, fun k d n hk => ?_⟩
  · rcases hget k d hk with ⟨rfl, rfl⟩ | ⟨hne, hk⟩
    · by_cases e : n = i
      · subst e
        have : u = v := by simp [hi] at hn; exact hn.symm
        subst this
        exact World.cell?_setCell_same _ _ _ (h.cell k c n c[n] hj (by simp [hi]))
      · have : c[n]? = some u := by
          rw [Array.set!_eq_setIfInBounds, Array.getElem?_setIfInBounds_ne (fun h => e h.symm)] at hn; exact hn
        rw [World.cell?_setCell_other _ _ _ _ (fun e' => by injection e' with _ e'; exact e e'.symm)]
        exact h.cell k c n u hj this
    · rw [World.cell?_setCell_other _ _ _ _ (fun e' => by injection e' with e' _; omega)]
      exact h.cell k d n u hk hn
  · rw [World.frozen?_setCell]
    rcases hget k d hk with ⟨rfl, rfl⟩ | ⟨hne, hk⟩
    · exact h.fz k c n hj
    · exact h.fz k d n hk
theorem Bxs.c0 (h : Bxs w cs x) {c : Array Value} {i : Nat} {v : Value} (hj : cs[0]? = some c) (hi : c[i]? = some v) : x.cell? ⟨w.heap.size, i, none⟩ = some v := h.cell 0 c i v hj hi
theorem Bxs.c1 (h : Bxs w cs x) {c : Array Value} {i : Nat} {v : Value} (hj : cs[1]? = some c) (hi : c[i]? = some v) : x.cell? ⟨w.heap.size + 1, i, none⟩ = some v := h.cell 1 c i v hj hi
theorem Bxs.c2 (h : Bxs w cs x) {c : Array Value} {i : Nat} {v : Value} (hj : cs[2]? = some c) (hi : c[i]? = some v) : x.cell? ⟨w.heap.size + 1 + 1, i, none⟩ = some v := h.cell 2 c i v hj hi
theorem Bxs.f0 (h : Bxs w cs x) {c : Array Value} (hj : cs[0]? = some c) : ∀ i, x.frozen? ⟨w.heap.size, i, none⟩ = false := fun i => h.fz 0 c i hj
theorem Bxs.f1 (h : Bxs w cs x) {c : Array Value} (hj : cs[1]? = some c) : ∀ i, x.frozen? ⟨w.heap.size + 1, i, none⟩ = false := fun i => h.fz 1 c i hj
theorem Bxs.f2 (h : Bxs w cs x) {c : Array Value} (hj : cs[2]? = some c) : ∀ i, x.frozen? ⟨w.heap.size + 1 + 1, i, none⟩ = false := fun i => h.fz 2 c i hj
theorem Bxs.cells0 (h : Bxs w cs x) {c : Array Value} (hj : cs[0]? = some c) : ∀ j v, c[j]? = some v → x.cell? ⟨w.heap.size, j, none⟩ = some v := fun j v hv => h.cell 0 c j v hj hv
/-- Boxes, and rows of bytes made since, that lie aside of one another. -/
structure Bt (T : TypeId) (w : World) (cs : List (Array Value)) (rs : RowL) (x : World) : Prop where
  box : Bxs w cs x
  rows : RowsB T (w.heap.size + cs.length) x rs
variable {T : TypeId} {rs : RowL}
theorem Bt.of (h : Bxs w cs x) : Bt T w cs [] x := ⟨h, RowsB.nil⟩
theorem Bt.later (h : Bt T w cs rs x) (k : Below x.heap.size x y) : Bt T w cs rs y := ⟨h.box.later k, h.rows.later k⟩
theorem Bt.drew (h : Bt T w cs rs x) : Bt T w cs rs x.drew := h.later (Below.refl _ _).drew
theorem Bt.fresh (h : Bt T w cs rs x) (k : Below x.heap.size x y) {A : Option Addr} {c : Nat} {l : List UInt8} (ho : OwnB T x.heap.size y A c l) : Bt T w cs (rs ++ [(A, c, l)]) y := ⟨h.box.later k, h.rows.fresh k ho h.box.size⟩
theorem Bt.freshR (h : Bt T w cs rs x) (k : Below x.heap.size x y) {rs' : RowL} (hr : RowsB T x.heap.size y rs') : Bt T w cs (rs ++ rs') y := ⟨h.box.later k, h.rows.app k hr h.box.size⟩
theorem Bt.alloc (h : Bt T w cs rs x) (o : Obj) : Bt T w cs rs (x.alloc o) := h.later ((Below.refl _ x).alloc (Nat.le_refl _) o)
theorem rows_pre {B : Nat} {us vs : RowL} (h : RowsB T B x (us ++ vs)) : RowsB T B x us :=
  ⟨fun i r hr => h.1 i r (by rw [List.getElem?_append_left (List.getElem?_eq_some_iff.1 hr).1]; exact hr), fun i j r s hr hs => h.2 i j r s (by rw [List.getElem?_append_left (List.getElem?_eq_some_iff.1 hr).1]; exact hr) (by rw [List.getElem?_append_left (List.getElem?_eq_some_iff.1 hs).1]; exact hs)⟩
theorem Bt.set (h : Bt T w cs rs x) {j : Nat} {c : Array Value} (i : Nat) (v : Value) (hj : cs[j]? = some c) (hi : i < c.size) : Bt T w (cs.set j (c.set! i v)) rs (x.setCell ⟨w.heap.size + j, i, none⟩ v) := by
  have hlt := (List.getElem?_eq_some_iff.1 hj).1
  refine ⟨h.box.set i v hj hi, ?_⟩
  rw [List.length_set]
  exact rows_set h.rows (by omega) i v
theorem Bt.s1_0 {a0 a1 a2 a3 a4 a5 a6 : Value} {c0 : Array Value} {r : List (Array Value)} (u : Value) (h : Bt T w (c0 :: #[a0, a1, a2, a3, a4, a5, a6] :: r) rs x) : Bt T w (c0 :: #[u, a1, a2, a3, a4, a5, a6] :: r) rs (x.setCell ⟨w.heap.size + 1, 0, none⟩ u) := h.set (j := 1) 0 u rfl (show 0 < 7 by decide)
theorem Bt.s1_1 {a0 a1 a2 a3 a4 a5 a6 : Value} {c0 : Array Value} {r : List (Array Value)} (u : Value) (h : Bt T w (c0 :: #[a0, a1, a2, a3, a4, a5, a6] :: r) rs x) : Bt T w (c0 :: #[a0, u, a2, a3, a4, a5, a6] :: r) rs (x.setCell ⟨w.heap.size + 1, 1, none⟩ u) := h.set (j := 1) 1 u rfl (show 1 < 7 by decide)
theorem Bt.s1_2 {a0 a1 a2 a3 a4 a5 a6 : Value} {c0 : Array Value} {r : List (Array Value)} (u : Value) (h : Bt T w (c0 :: #[a0, a1, a2, a3, a4, a5, a6] :: r) rs x) : Bt T w (c0 :: #[a0, a1, u, a3, a4, a5, a6] :: r) rs (x.setCell ⟨w.heap.size + 1, 2, none⟩ u) := h.set (j := 1) 2 u rfl (show 2 < 7 by decide)
theorem Bt.s1_3 {a0 a1 a2 a3 a4 a5 a6 : Value} {c0 : Array Value} {r : List (Array Value)} (u : Value) (h : Bt T w (c0 :: #[a0, a1, a2, a3, a4, a5, a6] :: r) rs x) : Bt T w (c0 :: #[a0, a1, a2, u, a4, a5, a6] :: r) rs (x.setCell ⟨w.heap.size + 1, 3, none⟩ u) := h.set (j := 1) 3 u rfl (show 3 < 7 by decide)
theorem Bt.s1_4 {a0 a1 a2 a3 a4 a5 a6 : Value} {c0 : Array Value} {r : List (Array Value)} (u : Value) (h : Bt T w (c0 :: #[a0, a1, a2, a3, a4, a5, a6] :: r) rs x) : Bt T w (c0 :: #[a0, a1, a2, a3, u, a5, a6] :: r) rs (x.setCell ⟨w.heap.size + 1, 4, none⟩ u) := h.set (j := 1) 4 u rfl (show 4 < 7 by decide)
theorem Bt.s1_5 {a0 a1 a2 a3 a4 a5 a6 : Value} {c0 : Array Value} {r : List (Array Value)} (u : Value) (h : Bt T w (c0 :: #[a0, a1, a2, a3, a4, a5, a6] :: r) rs x) : Bt T w (c0 :: #[a0, a1, a2, a3, a4, u, a6] :: r) rs (x.setCell ⟨w.heap.size + 1, 5, none⟩ u) := h.set (j := 1) 5 u rfl (show 5 < 7 by decide)
theorem Bt.s2_0 {a0 a1 a2 a3 a4 a5 a6 : Value} {c0 c1 : Array Value} {r : List (Array Value)} (u : Value) (h : Bt T w (c0 :: c1 :: #[a0, a1, a2, a3, a4, a5, a6] :: r) rs x) : Bt T w (c0 :: c1 :: #[u, a1, a2, a3, a4, a5, a6] :: r) rs (x.setCell ⟨w.heap.size + 1 + 1, 0, none⟩ u) := h.set (j := 2) 0 u rfl (show 0 < 7 by decide)
theorem Bt.s2_1 {a0 a1 a2 a3 a4 a5 a6 : Value} {c0 c1 : Array Value} {r : List (Array Value)} (u : Value) (h : Bt T w (c0 :: c1 :: #[a0, a1, a2, a3, a4, a5, a6] :: r) rs x) : Bt T w (c0 :: c1 :: #[a0, u, a2, a3, a4, a5, a6] :: r) rs (x.setCell ⟨w.heap.size + 1 + 1, 1, none⟩ u) := h.set (j := 2) 1 u rfl (show 1 < 7 by decide)
theorem Bt.s2_2 {a0 a1 a2 a3 a4 a5 a6 : Value} {c0 c1 : Array Value} {r : List (Array Value)} (u : Value) (h : Bt T w (c0 :: c1 :: #[a0, a1, a2, a3, a4, a5, a6] :: r) rs x) : Bt T w (c0 :: c1 :: #[a0, a1, u, a3, a4, a5, a6] :: r) rs (x.setCell ⟨w.heap.size + 1 + 1, 2, none⟩ u) := h.set (j := 2) 2 u rfl (show 2 < 7 by decide)
theorem Bt.s2_3 {a0 a1 a2 a3 a4 a5 a6 : Value} {c0 c1 : Array Value} {r : List (Array Value)} (u : Value) (h : Bt T w (c0 :: c1 :: #[a0, a1, a2, a3, a4, a5, a6] :: r) rs x) : Bt T w (c0 :: c1 :: #[a0, a1, a2, u, a4, a5, a6] :: r) rs (x.setCell ⟨w.heap.size + 1 + 1, 3, none⟩ u) := h.set (j := 2) 3 u rfl (show 3 < 7 by decide)
theorem Bt.s2_4 {a0 a1 a2 a3 a4 a5 a6 : Value} {c0 c1 : Array Value} {r : List (Array Value)} (u : Value) (h : Bt T w (c0 :: c1 :: #[a0, a1, a2, a3, a4, a5, a6] :: r) rs x) : Bt T w (c0 :: c1 :: #[a0, a1, a2, a3, u, a5, a6] :: r) rs (x.setCell ⟨w.heap.size + 1 + 1, 4, none⟩ u) := h.set (j := 2) 4 u rfl (show 4 < 7 by decide)
theorem Bt.s2_5 {a0 a1 a2 a3 a4 a5 a6 : Value} {c0 c1 : Array Value} {r : List (Array Value)} (u : Value) (h : Bt T w (c0 :: c1 :: #[a0, a1, a2, a3, a4, a5, a6] :: r) rs x) : Bt T w (c0 :: c1 :: #[a0, a1, a2, a3, a4, u, a6] :: r) rs (x.setCell ⟨w.heap.size + 1 + 1, 5, none⟩ u) := h.set (j := 2) 5 u rfl (show 5 < 7 by decide)
theorem Bt.s0_0 {a0 a1 a2 a3 a4 a5 a6 : Value} {r : List (Array Value)} (u : Value) (h : Bt T w (#[a0, a1, a2, a3, a4, a5, a6] :: r) rs x) : Bt T w (#[u, a1, a2, a3, a4, a5, a6] :: r) rs (x.setCell ⟨w.heap.size, 0, none⟩ u) := h.set (j := 0) 0 u rfl (show 0 < 7 by decide)
theorem Bt.s0_1 {a0 a1 a2 a3 a4 a5 a6 : Value} {r : List (Array Value)} (u : Value) (h : Bt T w (#[a0, a1, a2, a3, a4, a5, a6] :: r) rs x) : Bt T w (#[a0, u, a2, a3, a4, a5, a6] :: r) rs (x.setCell ⟨w.heap.size, 1, none⟩ u) := h.set (j := 0) 1 u rfl (show 1 < 7 by decide)
theorem Bt.s0_2 {a0 a1 a2 a3 a4 a5 a6 : Value} {r : List (Array Value)} (u : Value) (h : Bt T w (#[a0, a1, a2, a3, a4, a5, a6] :: r) rs x) : Bt T w (#[a0, a1, u, a3, a4, a5, a6] :: r) rs (x.setCell ⟨w.heap.size, 2, none⟩ u) := h.set (j := 0) 2 u rfl (show 2 < 7 by decide)
theorem Bt.s0_3 {a0 a1 a2 a3 a4 a5 a6 : Value} {r : List (Array Value)} (u : Value) (h : Bt T w (#[a0, a1, a2, a3, a4, a5, a6] :: r) rs x) : Bt T w (#[a0, a1, a2, u, a4, a5, a6] :: r) rs (x.setCell ⟨w.heap.size, 3, none⟩ u) := h.set (j := 0) 3 u rfl (show 3 < 7 by decide)
theorem Bt.s0_4 {a0 a1 a2 a3 a4 a5 a6 : Value} {r : List (Array Value)} (u : Value) (h : Bt T w (#[a0, a1, a2, a3, a4, a5, a6] :: r) rs x) : Bt T w (#[a0, a1, a2, a3, u, a5, a6] :: r) rs (x.setCell ⟨w.heap.size, 4, none⟩ u) := h.set (j := 0) 4 u rfl (show 4 < 7 by decide)
theorem Bt.s0_5 {a0 a1 a2 a3 a4 a5 a6 : Value} {r : List (Array Value)} (u : Value) (h : Bt T w (#[a0, a1, a2, a3, a4, a5, a6] :: r) rs x) : Bt T w (#[a0, a1, a2, a3, a4, u, a6] :: r) rs (x.setCell ⟨w.heap.size, 5, none⟩ u) := h.set (j := 0) 5 u rfl (show 5 < 7 by decide)
theorem Bt.s0_6 {a0 a1 a2 a3 a4 a5 a6 : Value} {r : List (Array Value)} (u : Value) (h : Bt T w (#[a0, a1, a2, a3, a4, a5, a6] :: r) rs x) : Bt T w (#[a0, a1, a2, a3, a4, a5, u] :: r) rs (x.setCell ⟨w.heap.size, 6, none⟩ u) := h.set (j := 0) 6 u rfl (show 6 < 7 by decide)
theorem Bt.fill7 {c : Array Value} {r : List (Array Value)} (h : Bt T w (c :: r) rs x) (hc : c.size = 7) (v0 v1 v2 v3 v4 v5 v6 : Value) : Bt T w (#[v0, v1, v2, v3, v4, v5, v6] :: r) rs
    (((((((x.setCell ⟨w.heap.size, 0, none⟩ v0).setCell ⟨w.heap.size, 1, none⟩ v1).setCell ⟨w.heap.size, 2, none⟩ v2).setCell ⟨w.heap.size, 3, none⟩ v3).setCell ⟨w.heap.size, 4, none⟩ v4).setCell ⟨w.heap.size, 5, none⟩ v5).setCell ⟨w.heap.size, 6, none⟩ v6) := by
  obtain ⟨l⟩ := c
  match l, hc with
  | [b0, b1, b2, b3, b4, b5, b6], _ =>
    exact Bt.s0_6 v6 (Bt.s0_5 v5 (Bt.s0_4 v4 (Bt.s0_3 v3 (Bt.s0_2 v2 (Bt.s0_1 v1 (Bt.s0_0 v0 h))))))
theorem Bxs.setAside (h : Bxs w cs x) {g i : Nat} {v : Value} (hg : w.heap.size + cs.length ≤ g) : Bxs w cs (x.setCell ⟨g, i, none⟩ v) := by
  have hne : ∀ (j : Nat) c, cs[j]? = some c → w.heap.size + j ≠ g := fun j c hj => by have := (List.getElem?_eq_some_iff.1 hj).1; omega
  refine ⟨h.up.setCell (Nat.le_trans (Nat.le_add_right _ _) hg) v, Nat.le_trans h.size (by simp), fun j c k u hj hk => ?_, fun j c k hj => ?_⟩
  · rw [World.cell?_setCell_other _ _ _ _ (fun e => by injection e with e _; exact hne j c hj e.symm)]
    exact h.cell j c k u hj hk
  · rw [World.frozen?_setCell]
    exact h.fz j c k hj
theorem Bt.setAside (h : Bt T w cs rs x) (g i : Nat) (v : Value) (hg : w.heap.size + cs.length ≤ g) (hoff : ∀ (i : Nat) r a, rs[i]? = some r → r.1 = some a → a.block ≠ g) : Bt T w cs rs (x.setCell ⟨g, i, none⟩ v) :=
  ⟨h.box.setAside hg, h.rows.chg (Chg.setCell x ⟨g, i, none⟩ v) fun i r hr a ha => hoff i r a hr ha⟩
theorem rows_under {B : Nat} (h : RowsB T B x rs) : ∀ (i : Nat) r a, rs[i]? = some r → r.1 = some a → a.block < x.heap.size := fun i r a hr ha => by
  have ho := h.1 i r hr
  obtain ⟨A, c, l⟩ := r
  cases ha
  exact (World.ownsRow.lt ho _ rfl).2
theorem rows_off {B : Nat} (h : RowsB T B x rs) {A : Option Addr} {c : Nat} {l : List UInt8} (ho : OwnB T (x.heap.size + 1) y A c l) : ∀ (i : Nat) r a, (rs ++ [(A, c, l)])[i]? = some r → r.1 = some a → a.block ≠ x.heap.size := fun i r a hr ha => by
  rcases Nat.lt_or_ge i rs.length with hl | hl
  · rw [List.getElem?_append_left hl] at hr
    exact Nat.ne_of_lt (rows_under h i r a hr ha)
  · rw [List.getElem?_append_right hl] at hr
    have : i - rs.length = 0 := by have := (List.getElem?_eq_some_iff.1 hr).1; simp at this; omega
    rw [this] at hr
    injection hr with hr
    subst hr
    cases ha
    have := (World.ownsRow.lt ho _ rfl).1
    omega
theorem rows_pick3 {B : Nat} {r0 r1 r2 r3 r4 : Option Addr × Nat × List UInt8} (h : RowsB T B x [r0, r1, r2, r3, r4]) : RowsB T B x [r1, r2, r4] := by
  refine h.pick (fun i => if i = 0 then 1 else if i = 1 then 2 else 4) (fun i j hi hj hne => ?_) fun i s hs => ?_
  · have hi : i < 3 := hi
    have hj : j < 3 := hj
    (repeat' split) <;> omega
  · match i, hs with
    | 0, hs => exact hs
    | 1, hs => exact hs
    | 2, hs => exact hs
end
section
variable {P : Program}
theorem run_loadVar_at {w : World} {g : Nat} {ty : TypeId} {cs : Array Value} (hc : ∀ j v, cs[j]? = some v → w.cell? ⟨g, j, none⟩ = some v)
    (ha : (P.underlying ty).map (fun d => match d with | .struct _ | .array _ _ => true | _ => false) = some true) (hi : (P.info? ty).map (·.size) = some cs.size) :
    (loadVar ty ⟨g, 0, none⟩).run P w = .ok (.agg cs) w := by
  have hl : (loadCells ⟨g, 0, none⟩ cs.toList.length).run P w = .ok cs.toList.toArray w :=
    run_loadCells_list (P := P) w ⟨g, 0, none⟩ cs.toList (fun j v hv => by
      have hadd : (⟨g, 0, none⟩ : Addr).add j = ⟨g, j, none⟩ := by unfold Addr.add; split <;> simp_all
      rw [hadd]
      exact hc j v (by simpa using hv))
  simp only [Array.length_toList, Array.toArray_toList] at hl
  have h1 := run_isAgg_of ha w
  have h2 := run_sizeOf_of hi w
  simp [loadVar, Sem.run_bind, h1, h2, hl]
/-- The results: a boxed struct and what lies in a slot. -/
theorem results_box1 {fn : Func} {p t : Tmp} {ty : TypeId} (h : fn.results = #[.cell p ty, .tmp t]) (tmps : Array Value) (w : World) (g : Nat) (cs : Array Value)
    (hp : tmps.getD p undef = .pointer (some ⟨g, 0, none⟩)) (hc : ∀ j v, cs[j]? = some v → w.cell? ⟨g, j, none⟩ = some v)
    (ha : (P.underlying ty).map (fun d => match d with | .struct _ | .array _ _ => true | _ => false) = some true) (hi : (P.info? ty).map (·.size) = some cs.size) :
    (results fn tmps).run P w = .ok (.tuple #[.agg cs, tmps.getD t undef]) w := by
  have hp' : tmps[p]?.getD undef = .pointer (some ⟨g, 0, none⟩) := by simpa using hp
  simp [results, h, hp', asAddr, run_loadVar_at hc ha hi]
theorem results_box2 {fn : Func} {p t t' : Tmp} {ty : TypeId} (h : fn.results = #[.cell p ty, .tmp t, .tmp t']) (tmps : Array Value) (w : World) (g : Nat) (cs : Array Value)
    (hp : tmps.getD p undef = .pointer (some ⟨g, 0, none⟩)) (hc : ∀ j v, cs[j]? = some v → w.cell? ⟨g, j, none⟩ = some v)
    (ha : (P.underlying ty).map (fun d => match d with | .struct _ | .array _ _ => true | _ => false) = some true) (hi : (P.info? ty).map (·.size) = some cs.size) :
    (results fn tmps).run P w = .ok (.tuple #[.agg cs, tmps.getD t undef, tmps.getD t' undef]) w := by
  have hp' : tmps[p]?.getD undef = .pointer (some ⟨g, 0, none⟩) := by simpa using hp
  simp [results, h, hp', asAddr, run_loadVar_at hc ha hi]
end
end Go.Proofs.YtbcljgcilbfblaaDoor

namespace Go.Proofs.YtbcljgcilbfblaaDoor
open Go.RowKit

section
variable {w x y : World} {T : TypeId} {rs : RowL}
theorem Bt.s1_6 {c0 : Array Value} {a0 a1 a2 a3 a4 a5 a6 : Value} {r : List (Array Value)} (u : Value) (h : Bt T w (c0 :: #[a0, a1, a2, a3, a4, a5, a6] :: r) rs x) : Bt T w (c0 :: #[a0, a1, a2, a3, a4, a5, u] :: r) rs (x.setCell ⟨w.heap.size + 1, 6, none⟩ u) := h.set (j := 1) 6 u rfl (show 6 < 7 by decide)
theorem Bt.fill7_1 {c0 c1 : Array Value} {r : List (Array Value)} (h : Bt T w (c0 :: c1 :: r) rs x) (hc : c1.size = 7) (v0 v1 v2 v3 v4 v5 v6 : Value) : Bt T w (c0 :: #[v0, v1, v2, v3, v4, v5, v6] :: r) rs
    (((((((x.setCell ⟨w.heap.size + 1, 0, none⟩ v0).setCell ⟨w.heap.size + 1, 1, none⟩ v1).setCell ⟨w.heap.size + 1, 2, none⟩ v2).setCell ⟨w.heap.size + 1, 3, none⟩ v3).setCell ⟨w.heap.size + 1, 4, none⟩ v4).setCell ⟨w.heap.size + 1, 5, none⟩ v5).setCell ⟨w.heap.size + 1, 6, none⟩ v6) := by
  obtain ⟨l⟩ := c1
  match l, hc with
  | [b0, b1, b2, b3, b4, b5, b6], _ => exact Bt.s1_6 v6 (Bt.s1_5 v5 (Bt.s1_4 v4 (Bt.s1_3 v3 (Bt.s1_2 v2 (Bt.s1_1 v1 (Bt.s1_0 v0 h))))))
theorem Bxs.cells1 {cs : List (Array Value)} (h : Bxs w cs x) {c : Array Value} (hj : cs[1]? = some c) : ∀ j v, c[j]? = some v → x.cell? ⟨w.heap.size + 1, j, none⟩ = some v := fun j v hv => h.cell 1 c j v hj hv
theorem results_box0 {P : Program} {fn : Func} {p : Tmp} {ty : TypeId} (h : fn.results = #[.cell p ty]) (tmps : Array Value) (w : World) (g : Nat) (cs : Array Value)
    (hp : tmps.getD p undef = .pointer (some ⟨g, 0, none⟩)) (hc : ∀ j v, cs[j]? = some v → w.cell? ⟨g, j, none⟩ = some v)
    (ha : (P.underlying ty).map (fun d => match d with | .struct _ | .array _ _ => true | _ => false) = some true) (hi : (P.info? ty).map (·.size) = some cs.size) :
    (results fn tmps).run P w = .ok (.agg cs) w := by
  have hp' : tmps[p]?.getD undef = .pointer (some ⟨g, 0, none⟩) := by simpa using hp
  simp [results, h, hp', asAddr, run_loadVar_at hc ha hi]
end
end Go.Proofs.YtbcljgcilbfblaaDoor

namespace Go.Proofs.YtbcljgcilbfblaaDoor
open Go.RowKit

section
variable {w x y : World} {T : TypeId}
theorem rep_snoc (n : Nat) (m : UInt8) : List.replicate n m ++ [m] = List.replicate (n + 1) m := by rw [List.replicate_succ']
/-- Marks are written over by the same marks. -/
def Over (m : UInt8) (w x : World) : Prop := w.heap.size ≤ x.heap.size ∧ ∀ p u, w.cell? p = some u → x.cell? p = some u ∨ x.cell? p = some (u8v m)
theorem Over.refl (m : UInt8) (w : World) : Over m w w := ⟨Nat.le_refl _, fun _p _u h => .inl h⟩
theorem Over.trans {m : UInt8} (h : Over m w x) (k : Over m x y) : Over m w y := ⟨Nat.le_trans h.1 k.1, fun p u e => by
  rcases h.2 p u e with e | e
  · exact k.2 p u e
  · rcases k.2 p _ e with e | e <;> exact .inr e⟩
theorem Over.alloc {m : UInt8} (w : World) (o : Obj) : Over m w (w.alloc o) := ⟨((Below.refl _ w).alloc (Nat.le_refl _) o).size, fun _p _u e => .inl (cell_alloc_old e)⟩
theorem over_app {m : UInt8} {v : Value} {n q : Nat} (hs : w.heap.size ≤ x.heap.size)
    (h : ∀ p u, w.cell? p = some u → x.cell? p = some u ∨ (some p.block = v.ownBlock ∧ p.spot = none ∧ n ≤ p.off ∧ p.off < n + q ∧ x.cell? p = (u8s (List.replicate q m))[p.off - n]?)) : Over m w x := ⟨hs, fun p u e => by
  rcases h p u e with e | ⟨_, _, h1, h2, e⟩
  · exact .inl e
  · refine .inr ?_
    rw [e]
    unfold u8s
    rw [List.getElem?_map, List.getElem?_replicate, if_pos (by omega)]
    rfl⟩
theorem Sl.remark {A : Option Addr} {n c : Nat} {m : UInt8} (h : Sl w A n c (List.replicate n m)) (k : Over m w x) : Sl x A n c (List.replicate n m) := by
  refine ⟨RB.mk' (by simp) fun h0 => ?_, h.cap, h.lim, h.nil⟩
  obtain ⟨b, o, _, rfl, hb, _, _⟩ := h.rb.at_ (k := 0) h0
  refine ⟨b, o, rfl, Nat.lt_of_lt_of_le hb k.1, fun j u hj => ?_⟩
  have hu : u = m := by
    have := List.getElem?_eq_some_iff.1 hj
    obtain ⟨_, e⟩ := this
    simp at e
    exact e.symm
  subst hu
  rcases k.2 _ _ (h.rb.cell hj) with e | e <;> exact e
theorem own_cell {base g c k : Nat} {l : List UInt8} {u : UInt8} (h : OwnB T base w (some ⟨g, 0, none⟩) c l) (hk : l[k]? = some u) : w.cell? ⟨g, k, none⟩ = some (.int .u8 (u.toNat : Int)) ∧ w.frozen? ⟨g, k, none⟩ = false :=
  (RowsB.nil.snoc h (fun i r hr => by simp at hr)).cell (i := 0) rfl hk
theorem own_store {base g c : Nat} {l : List UInt8} (h : OwnB T base w (some ⟨g, 0, none⟩) c l) (k : Nat) (u : UInt8) : OwnB T base (w.setCell ⟨g, k, none⟩ (u8v u)) (some ⟨g, 0, none⟩) c (l.set k u) :=
  ((RowsB.nil.snoc h (fun i r hr => by simp at hr)).store (i := 0) (k := k) rfl u).1.1 0 _ rfl
/-- The four lists that 'longer' hands out of the row A. -/
structure Lng (w : World) (A : Option Addr) (n : Nat) (m : UInt8) (g : Nat) (x : World) : Prop where
  ge : w.heap.size ≤ g
  lt : g < x.heap.size
  all : ∃ c A1 c1 A2 c2 A3 c3, (x.cell? ⟨g, 0, none⟩ = some (.slice A n c) ∧ x.cell? ⟨g, 1, none⟩ = some (.slice A1 (n + 1) c1) ∧ x.cell? ⟨g, 2, none⟩ = some (.slice A2 (n + 2) c2) ∧ x.cell? ⟨g, 3, none⟩ = some (.slice A3 (n + 101) c3)) ∧
    (Sl x A n c (List.replicate n m) ∧ Sl x A1 (n + 1) c1 (List.replicate (n + 1) m) ∧ Sl x A2 (n + 2) c2 (List.replicate (n + 2) m) ∧ Sl x A3 (n + 101) c3 (List.replicate (n + 101) m)) ∧ Blk w A A1 ∧ Blk w A A2 ∧ Blk w A A3
theorem Lng.chg {A : Option Addr} {n : Nat} {m : UInt8} {g : Nat} {S : Nat → Prop} (h : Lng w A n m g x) (hc : Chg S x y) (hS : ∀ b, S b → b < w.heap.size ∧ A.map (·.block) ≠ some b) : Lng w A n m g y := by
  obtain ⟨c, A1, c1, A2, c2, A3, c3, ⟨q0, q1, q2, q3⟩, ⟨s0, s1, s2, s3⟩, b1, b2, b3⟩ := h.all
  have hg : ¬ S g := fun e => by have := (hS g e).1; have := h.ge; omega
  have hA : ∀ a, A = some a → ¬ S a.block := fun a ha e => (hS _ e).2 (by rw [ha]; rfl)
  have hB : ∀ {A' : Option Addr}, Blk w A A' → ∀ a, A' = some a → ¬ S a.block := fun hb a ha e => by
    rcases hb a ha with h' | h'
    · exact (hS _ e).2 h'
    · have := (hS _ e).1; omega
  exact ⟨h.ge, Nat.lt_of_lt_of_le h.lt hc.size, c, A1, c1, A2, c2, A3, c3, ⟨hc.cell q0 hg, hc.cell q1 hg, hc.cell q2 hg, hc.cell q3 hg⟩,
    ⟨s0.chg hc fun _ => hA, s1.chg hc fun _ => hB b1, s2.chg hc fun _ => hB b2, s3.chg hc fun _ => hB b3⟩, b1, b2, b3⟩
theorem Lng.later {A : Option Addr} {n : Nat} {m : UInt8} {g : Nat} (h : Lng w A n m g x) (hb : Below x.heap.size x y) : Lng w A n m g y := h.chg (S := fun _ => False) (Below.chg0 hb) fun _b e => e.elim
theorem blk_step {A A5 A6 : Option Addr} {n5 c5 n6 c6 H : Nat} (h : Blk w A A5) (hat : (Value.slice A6 n6 c6).ownBlock = (Value.slice A5 n5 c5).ownBlock ∨ (Value.slice A6 n6 c6).ownBlock = some H) (hle : w.heap.size ≤ H) : Blk w A A6 := fun a ha => by
  subst ha
  rcases hat with e | e
  · rw [own_block A5] at e
    cases A5 with
    | none => cases e
    | some z =>
      have e : some a.block = some z.block := e
      rcases h z rfl with h | h
      · exact .inl (h.trans e.symm)
      · injection e with e; exact .inr (by omega)
  · injection e with e
    have e : a.block = H := e
    exact .inr (by omega)
theorem chg_blk {A A5 : Option Addr} {n5 c5 : Nat} {o : Obj} (h : Chg (fun b => A.map (·.block) = some b) w x) (hb : Blk w A A5) (hg : (x.alloc o).grownBy y (Value.slice A5 n5 c5).ownBlock) : Chg (fun b => A.map (·.block) = some b) w y := by
  have h2 := h.alloc o
  have h3 := grown_chg hg
  refine ⟨h3.os.trans h2.os, h3.tape.trans h2.tape, h3.output.trans h2.output, Nat.le_trans h2.size h3.size, fun b hlt hn => (h3.block b (Nat.lt_of_lt_of_le hlt h2.size) fun e => ?_).trans (h2.block b hlt hn)⟩
  rw [own_block] at e
  cases A5 with
  | none => cases e
  | some z =>
    have e : some z.block = some b := e
    rcases hb z rfl with h' | h'
    · exact hn (h'.trans e)
    · injection e with e; omega
end
end Go.Proofs.YtbcljgcilbfblaaDoor

namespace Go.Proofs.YtbcljgcilbfblaaDoor
open Go.RowKit

section
variable {P : Program} {ops : Array Oper} {Q : Exit → Act → World → Prop}
/-- Every edge goes back; no operation is guarded. -/
def regOk (ops : Array Oper) : Bool := (List.range ops.size).all fun i => match ops[i]? with
  | none => true
  | some o => o.guard.isNone && o.after.all fun e => !Region.binds .any e || decide (e.on < i)
theorem regOk_at (h : regOk ops = true) {i : Nat} {o : Oper} (ho : ops[i]? = some o) : o.guard = none ∧ ∀ e, e ∈ o.after → Region.binds .any e = true → e.on < i := by
  have hi := (Array.getElem?_eq_some_iff.1 ho).1
  have h1 := List.all_eq_true.1 h i (List.mem_range.2 hi)
  simp only [ho, Bool.and_eq_true, Option.isNone_iff_eq_none, Array.all_eq_true_iff_forall_mem, Bool.or_eq_true, Bool.not_eq_true', decide_eq_true_eq] at h1
  refine ⟨h1.1, fun e he hb => ?_⟩
  rcases h1.2 e he with h2 | h2
  · rw [hb] at h2; cases h2
  · exact h2
theorem ready_iff {L : Array Bool} {i : Nat} : i ∈ Region.ready .any ops L ↔ ∃ o, ops[i]? = some o ∧ L.getD i true = false ∧ ∀ e, e ∈ o.after → Region.binds .any e = true → L.getD e.on false = true := by
  unfold Region.ready
  rw [List.mem_filter, List.mem_range]
  constructor
  · rintro ⟨h1, h2⟩
    cases ho : ops[i]? with
    | none => rw [ho] at h2; simp at h2
    | some o =>
      rw [ho] at h2
      simp only [Option.map_some, Option.getD_some, Bool.and_eq_true, Bool.not_eq_true', Array.all_eq_true_iff_forall_mem, Bool.or_eq_true] at h2
      refine ⟨o, rfl, h2.1, fun e he hb => ?_⟩
      rcases h2.2 e he with h3 | h3
      · rw [hb] at h3; cases h3
      · exact h3
  · rintro ⟨o, ho, h1, h2⟩
    refine ⟨(Array.getElem?_eq_some_iff.1 ho).1, ?_⟩
    rw [ho]
    simp only [Option.map_some, Option.getD_some, Bool.and_eq_true, Bool.not_eq_true', Array.all_eq_true_iff_forall_mem, Bool.or_eq_true]
    refine ⟨h1, fun e he => ?_⟩
    cases hb : Region.binds .any e with
    | false => exact .inl rfl
    | true => exact .inr (h2 e he hb)
theorem getD_two {L : Array Bool} {i : Nat} (h : i < L.size) : L.getD i true = L.getD i false := by
  simp [Array.getD, h]
theorem set_getD {L : Array Bool} {i : Nat} (h : i < L.size) : (fun j => (L.setIfInBounds i true).getD j false) = fun j => j == i || L.getD j false := by
  funext j
  simp only [Array.getD_eq_getD_getElem?, Array.getElem?_setIfInBounds]
  by_cases e : i = j
  · subst e; simp [h]
  · have : (j == i) = false := by simpa using fun h => e h.symm
    simp [e, this]
theorem all_listed (hk : regOk ops = true) {L : Array Bool} (hL : L.size = ops.size) (hr : Region.ready .any ops L = []) : ∀ i, i < ops.size → L.getD i false = true := by
  intro i
  induction i using Nat.strongRecOn with
  | ind i ih =>
    intro hi
    cases hb : L.getD i false with
    | true => rfl
    | false =>
      have ho : ops[i]? = some ops[i] := Array.getElem?_eq_getElem hi
      have hm : i ∈ Region.ready .any ops L := ready_iff.2 ⟨_, ho, by rw [getD_two (by omega)]; exact hb, fun e he hb' => by
        have h1 := (regOk_at hk ho).2 e he hb'
        exact ih _ h1 (by omega)⟩
      rw [hr] at hm
      cases hm
theorem filter_less {p p' : Nat → Bool} {l : List Nat} {i : Nat} (hi : i ∈ l) (h1 : p i = true) (h2 : p' i = false) (h : ∀ j, p' j = true → p j = true) : (l.filter p').length < (l.filter p).length := by
  have e : l.filter p' = (l.filter p).filter p' := by
    rw [List.filter_filter]
    refine List.filter_congr fun j _ => ?_
    cases hj : p' j with
    | false => rfl
    | true => rw [h j hj]; rfl
  rw [e]
  exact List.length_filter_lt_length_iff_exists.2 ⟨i, List.mem_filter.2 ⟨hi, h1⟩, by simp [h2]⟩
/-- A region that draws its order: what holds of the operations that are done, kept by each. -/
theorem wp_region_inv {id : Nat} {a : Act} {w : World} (hm : P.follows .mixedOrders = true) (hk : regOk ops = true) (I : (Nat → Bool) → Act → World → Prop)
    (h0 : I (fun _ => false) a w.drew)
    (hs : ∀ (i : Nat) o, ops[i]? = some o → ∀ D a w, I D a w → D i = false → (∀ e, e ∈ o.after → Region.binds .any e = true → D e.on = true) → o.wp P a w (I fun j => j == i || D j) Q)
    (he : ∀ D a w, (∀ i, i < ops.size → D i = true) → I D a w → Q .normal a w) : (Code.region id ops true).wp P Q a w := by
  refine wp_region_any hm ?_
  have main : ∀ fuel (L : Array Bool) a w, L.size = ops.size → I (fun j => L.getD j false) a w → ((List.range ops.size).filter fun i => !L.getD i false).length ≤ fuel → wpAny P .any ops Q fuel L a w := by
    intro fuel
    induction fuel with
    | zero =>
      intro L a w hL hI hc
      have hall : ∀ i, i < ops.size → L.getD i false = true := fun i hi => by
        cases hb : L.getD i false with
        | true => rfl
        | false =>
          have : i ∈ (List.range ops.size).filter fun i => !L.getD i false := List.mem_filter.2 ⟨List.mem_range.2 hi, by simp [hb]⟩
          have := List.length_pos_of_mem this
          omega
      refine ⟨?_, he _ _ _ hall hI⟩
      cases hr : Region.ready .any ops L with
      | nil => rfl
      | cons i r =>
        obtain ⟨o, ho, h1, _⟩ := ready_iff.1 (show i ∈ Region.ready .any ops L by rw [hr]; simp)
        have hi := (Array.getElem?_eq_some_iff.1 ho).1
        rw [getD_two (by omega), hall i hi] at h1
        cases h1
    | succ fuel ih =>
      intro L a w hL hI hc
      refine ⟨fun hr => he _ _ _ (all_listed hk hL hr) hI, fun i hi => ?_⟩
      obtain ⟨o, ho, h1, h2⟩ := ready_iff.1 hi
      have hlt := (Array.getElem?_eq_some_iff.1 ho).1
      rw [getD_two (by omega)] at h1
      have hg := (regOk_at hk ho).1
      unfold wpOp
      rw [ho]
      have hw : Region.wanted o (yielded ops a.tmps) = true := by unfold Region.wanted; rw [hg]
      simp only [hw, if_true]
      refine .inl (Oper.wp_mono (fun a' w' hI' => ih _ a' w' (by simpa using hL) (by rw [set_getD (by omega)]; exact hI') ?_) (hs i o ho _ a w hI h1 h2))
      have := filter_less (p := fun i => !L.getD i false) (p' := fun j => !(L.setIfInBounds i true).getD j false) (l := List.range ops.size) (i := i) (List.mem_range.2 hlt) (by rw [h1]; rfl) (by
        rw [congrFun (set_getD (L := L) (i := i) (by omega)) i]
        simp) (fun j hj => by
        rw [congrFun (set_getD (L := L) (i := i) (by omega)) j] at hj
        simp only [Bool.not_eq_true', Bool.or_eq_false_iff] at hj
        rw [hj.2]; rfl)
      omega
  exact main _ _ _ _ (by simp) (by
    have e : (fun j => (Array.replicate ops.size false).getD j false) = fun _ => false := by
      funext j
      simp only [Array.getD_eq_getD_getElem?, Array.getElem?_replicate]
      split <;> rfl
    rw [e]; exact h0) (Nat.le_trans (List.length_filter_le _ _) (by simp))

/-! ### Frames that differ from a given one in some slots alone -/
structure Same (S : List Nat) (b a : Act) : Prop where
  size : a.tmps.size = b.tmps.size
  rest : a.defers = b.defers
  at_ : ∀ k, k ∉ S → a.tmps[k]? = b.tmps[k]?
theorem Same.refl (S : List Nat) (a : Act) : Same S a a := ⟨rfl, rfl, fun _ _ => rfl⟩
theorem Same.put {S : List Nat} {b a : Act} (h : Same S b a) {d : Nat} (hd : d ∈ S) (x : Value) : Same S b (a.put (some d) x) :=
  ⟨by simp [Act.put, h.size], h.rest, fun k hk => by
    have : d ≠ k := fun e => hk (e ▸ hd)
    simp only [Act.put, Array.getElem?_setIfInBounds_ne this]
    exact h.at_ k hk⟩
theorem eval_tmp (a : Act) (k : Nat) : a.eval (.tmp k) = a.tmps.getD k undef := rfl
theorem put_same {a : Act} {d : Nat} (h : d < a.tmps.size) (x : Value) : (a.put (some d) x).eval (.tmp d) = x := by
  simp [eval_tmp, Act.put, h]
theorem put_other {a : Act} {d k : Nat} (h : d ≠ k) (x : Value) : (a.put (some d) x).eval (.tmp k) = a.eval (.tmp k) := by
  simp [eval_tmp, Act.put, Array.getElem?_setIfInBounds_ne h]
theorem Same.eval {S : List Nat} {b a : Act} (h : Same S b a) {k : Nat} (hk : k ∉ S) : a.eval (.tmp k) = b.eval (.tmp k) := by
  simp only [eval_tmp, Array.getD_eq_getD_getElem?, h.at_ k hk]
/-- The frame b with the slots S as v says. -/
def putsF (b : Act) (S : List Nat) (v : Nat → Value) : Act := S.foldl (fun a s => a.put (some s) (v s)) b
theorem putsF_size (S : List Nat) (v : Nat → Value) : ∀ b : Act, (putsF b S v).tmps.size = b.tmps.size ∧ (putsF b S v).defers = b.defers := by
  induction S with
  | nil => intro b; exact ⟨rfl, rfl⟩
  | cons s S ih =>
    intro b
    obtain ⟨h1, h2⟩ := ih (b.put (some s) (v s))
    exact ⟨by show (putsF (b.put (some s) (v s)) S v).tmps.size = _; rw [h1]; simp [Act.put], h2⟩
theorem putsF_at (v : Nat → Value) (S : List Nat) : ∀ (b : Act) (k : Nat), k < b.tmps.size → (putsF b S v).tmps[k]? = if k ∈ S then some (v k) else b.tmps[k]? := by
  induction S with
  | nil => intro b k _; simp [putsF]
  | cons s S ih =>
    intro b k hk
    show (putsF (b.put (some s) (v s)) S v).tmps[k]? = _
    rw [ih _ k (by simpa [Act.put] using hk)]
    by_cases h1 : k ∈ S
    · simp [h1]
    · rw [if_neg h1]
      by_cases h2 : k = s
      · subst h2; simp [Act.put, hk]
      · rw [if_neg (by simp [h1, h2])]
        simp [Act.put, Array.getElem?_setIfInBounds_ne (fun e => h2 e.symm)]
theorem Same.puts {S : List Nat} {b a : Act} (h : Same S b a) : a = putsF b S fun k => a.eval (.tmp k) := by
  obtain ⟨h1, h2⟩ := putsF_size S (fun k => a.eval (.tmp k)) b
  have ht : a.tmps = (putsF b S fun k => a.eval (.tmp k)).tmps := by
    refine Array.ext_getElem? fun k => ?_
    by_cases hk : k < b.tmps.size
    · rw [putsF_at _ _ _ _ hk]
      by_cases hs : k ∈ S
      · rw [if_pos hs]
        have hk' : k < a.tmps.size := by rw [h.size]; exact hk
        simp [eval_tmp, hk']
      · rw [if_neg hs]; exact h.at_ k hs
    · rw [Array.getElem?_eq_none (by rw [h.size]; omega), Array.getElem?_eq_none (by rw [h1]; omega)]
  have hd : a.defers = (putsF b S fun k => a.eval (.tmp k)).defers := h.rest.trans h2.symm
  obtain ⟨t, d⟩ := a
  generalize (putsF b S fun k => Act.eval { tmps := t, defers := d } (.tmp k)) = z at *
  obtain ⟨t', d'⟩ := z
  simp only at ht hd
  subst ht; subst hd
  rfl

def AllOps (C : Nat → Oper → Prop) : Nat → List Oper → Prop
  | _, [] => True
  | k, o :: l => C k o ∧ AllOps C (k + 1) l
theorem AllOps.at_ {C : Nat → Oper → Prop} : ∀ {l : List Oper} {k : Nat}, AllOps C k l → ∀ (i : Nat) o, l[i]? = some o → C (k + i) o
  | [], _, _, i, o, h => by simp at h
  | x :: l, k, h, i, o, hi => by
    cases i with
    | zero => injection hi with hi; subst hi; exact h.1
    | succ i =>
      have := AllOps.at_ h.2 i o hi
      rwa [show k + 1 + i = k + (i + 1) from by omega] at this
/-- What is done is done with all that goes ahead of it. -/
def Closed (l : List Oper) (D : Nat → Bool) : Prop := ∀ (i : Nat) o, l[i]? = some o → D i = true → ∀ e, e ∈ o.after → Region.binds .any e = true → D e.on = true
/-- One operation's duty: it puts something into its slot, and what holds of what is done holds on. -/
def RegStep (P : Program) (Q : Exit → Act → World → Prop) (l : List Oper) (S : List Nat) (b : Act) (R : (Nat → Bool) → (Nat → Value) → World → Prop) (i : Nat) (o : Oper) : Prop :=
  ∀ D a w, Closed l D → Same S b a → R D (fun k => a.eval (.tmp k)) w → D i = false → (∀ e, e ∈ o.after → Region.binds .any e = true → D e.on = true) →
    o.wp P a w (fun a' w' => Same S b a' ∧ R (fun j => j == i || D j) (fun k => a'.eval (.tmp k)) w') Q
/-- The region's law, over frames: S are the slots that it writes; R speaks of what is done, of the slots and the world. -/
theorem wp_region_reg {id : Nat} {l : List Oper} {a : Act} {w : World} (hm : P.follows .mixedOrders = true) (hk : regOk l.toArray = true) (S : List Nat) (R : (Nat → Bool) → (Nat → Value) → World → Prop)
    (h0 : R (fun _ => false) (fun k => a.eval (.tmp k)) w.drew) (hs : AllOps (RegStep P Q l S a R) 0 l)
    (he : ∀ D v w', (∀ i, i < l.length → D i = true) → R D v w' → Q .normal (putsF a S v) w') : (Code.region id l.toArray true).wp P Q a w := by
  refine wp_region_inv hm hk (fun D a' w' => Closed l D ∧ Same S a a' ∧ R D (fun k => a'.eval (.tmp k)) w') ⟨(fun i o _ h => nomatch h), Same.refl S a, h0⟩ (fun i o ho D a' w' hI hd hp => ?_) fun D a' w' hd hI => ?_
  · have := AllOps.at_ hs i o (by simpa using ho)
    rw [Nat.zero_add] at this
    refine Oper.wp_mono (fun a'' w'' h => ⟨fun j oj hj hD e he hb => ?_, h⟩) (this D a' w' hI.1 hI.2.1 hI.2.2 hd hp)
    simp only [Bool.or_eq_true, beq_iff_eq] at hD ⊢
    rcases hD with rfl | hD
    · have : oj = o := by
        have h1 : l.toArray[j]? = l[j]? := by simp
        rw [h1, hj] at ho; injection ho
      subst this
      exact .inr (hp e he hb)
    · exact .inr (hI.1 j oj hj hD e he hb)
  · have := he D _ w' (fun i hi => hd i (by simpa using hi)) hI.2.2
    rw [← hI.2.1.puts] at this
    exact this

/-! ### Single operations -/
/-- A function of the program's own. -/
def GoFn (P : Program) (f : FuncId) : Prop := ∃ fn, P.funcs[f]? = some fn ∧ (fn.name == "runtime.NumGoroutine") = false ∧ fn.body.isNone = false
theorem run_callFunc_go {f : FuncId} (h : GoFn P f) (args : Array Value) (w : World) : (callFunc f args).run P w = .ok (.enter f args) w := by
  obtain ⟨fn, h1, h2, h3⟩ := h
  have e2 : (fn.name == "runtime.NumGoroutine") = false := h2
  have e3 : fn.body.isNone = false := h3
  unfold callFunc
  have hp : program.run P w = .ok P w := rfl
  simp only [Sem.run_bind, hp, Result.andThen_ok, h1, e2, e3, Bool.false_eq_true, if_false, Sem.run_pure]
theorem wp_call_go {o : Oper} {a : Act} {w : World} {K : Act → World → Prop} {f : FuncId} {xs : Array Operand} {ats : Array TypeId} (ho : o.op = .call { callee := .value (.func f), args := xs, argTypes := ats }) (hf : GoFn P f)
    (vals : Array Value) (hv : xs.map a.eval = vals) (hc : Calls P f vals w fun e w' => ∃ v, e = .returned v ∧ K (a.put o.dst v) w') : o.wp P a w K Q := by
  subst hv
  have hrun : (execOp a.eval o).run P w = .ok (.enter f (xs.map a.eval)) w := by
    obtain ⟨dst, op, type, pos, after, guard⟩ := o
    simp only at ho
    subst ho
    rw [execOp_call_go]
    have e : #[] ++ xs.map a.eval ++ #[] = xs.map a.eval := by simp
    rw [e]
    exact run_callFunc_go hf _ w
  unfold Oper.wp
  rw [hrun, Oper.upon_enter]
  refine hc.mono fun e w' ⟨v, he, hK⟩ => ?_
  subst he
  exact hK
/-- A type whose values are rows of n cells. -/
structure RowTy (P : Program) (ty : TypeId) (n : Nat) : Prop where
  desc : ∃ d, P.underlying ty = some d ∧ d.isRow = true
  size : (P.info? ty).map (·.size) = some n
theorem wp_load_row7 {o : Oper} {a : Act} {w : World} {K : Act → World → Prop} {ty : TypeId} {x : Operand} (ho : o.op = .load ty x) {g : Nat} {cs : List Value} (hx : a.eval x = .pointer (some ⟨g, 0, none⟩)) (hr : w.rangeAt g 0 cs) (ht : RowTy P ty cs.length)
    (hK : K (a.put o.dst (.agg cs.toArray)) w) : o.wp P a w K Q := by
  obtain ⟨⟨d, hu, hd⟩, hi⟩ := ht
  exact wp_load_mid ty x ho g 0 hx cs d hr hu hd hi hK
theorem wpList_load_row7 {rest : List Oper} {o : Oper} {a : Act} {w : World} (hgd : Region.wanted o (yielded ops a.tmps) = true) (ty : TypeId) (x : Operand) (ho : o.op = .load ty x) {g : Nat} {cs : List Value} (hx : a.eval x = .pointer (some ⟨g, 0, none⟩)) (hr : w.rangeAt g 0 cs) (ht : RowTy P ty cs.length)
    (hK : wpList P ops Q rest (a.put o.dst (.agg cs.toArray)) w) : wpList P ops Q (o :: rest) a w :=
  BigFrame.wpList_want hgd fun _ h => wp_load_row7 ho hx hr ht (h _ _ hK)
end
end Go.Proofs.YtbcljgcilbfblaaDoor

namespace Go.Proofs.YtbcljgcilbfblaaDoor
open Go.RowKit

abbrev Bx1 := Option (Nat × List Value)
/-- All that the call has made: boxes (none: a place that is not made yet), rows of bytes; all apart. -/
structure St (T : TypeId) (w : World) (bs : List Bx1) (rs : RowL) (x : World) : Prop where
  up : Below w.heap.size w x
  box : ∀ (i : Nat) g cs, bs[i]? = some (some (g, cs)) → w.heap.size ≤ g ∧ g < x.heap.size ∧ x.rangeAt g 0 cs ∧ ∀ j, x.frozen? ⟨g, j, none⟩ = false
  ne : ∀ (i j : Nat) g cs h ds, bs[i]? = some (some (g, cs)) → bs[j]? = some (some (h, ds)) → i ≠ j → g ≠ h
  rows : RowsB T w.heap.size x rs
  off : ∀ (i j : Nat) g cs r a, bs[i]? = some (some (g, cs)) → rs[j]? = some r → r.1 = some a → a.block ≠ g

section
variable {T : TypeId} {w x y : World} {bs : List Bx1} {rs : RowL} {i g : Nat} {cs vs : List Value}
theorem St.nil (T : TypeId) (w : World) : St T w [] [] w := ⟨Below.refl _ _, fun i g cs h => by simp at h, fun i j g cs h ds h1 => by simp at h1, RowsB.nil, fun i j g cs r a h => by simp at h⟩
theorem range_below {g : Nat} (h : x.rangeAt g 0 cs) (k : Below x.heap.size x y) : y.rangeAt g 0 cs := fun j v hv => cell_below k (h j v hv)
theorem St.later (h : St T w bs rs x) (k : Below x.heap.size x y) : St T w bs rs y :=
  ⟨h.up.trans (k.mono h.up.size), fun i g cs hb => by
    obtain ⟨h1, h2, h3, h4⟩ := h.box i g cs hb
    exact ⟨h1, Nat.lt_of_lt_of_le h2 k.size, range_below h3 k, fun j => (k.frozen (p := ⟨g, j, none⟩) h2).trans (h4 j)⟩, h.ne, h.rows.later k, h.off⟩
theorem St.drew (h : St T w bs rs x) : St T w bs rs x.drew := h.later (Below.refl _ _).drew
theorem St.range (h : St T w bs rs x) (hb : bs[i]? = some (some (g, cs))) : x.rangeAt g 0 cs := (h.box i g cs hb).2.2.1
theorem St.cell (h : St T w bs rs x) (hb : bs[i]? = some (some (g, cs))) {j : Nat} {v : Value} (hv : cs[j]? = some v) : x.cell? ⟨g, j, none⟩ = some v := by have := h.range hb j v hv; rwa [Nat.zero_add] at this
theorem St.fz (h : St T w bs rs x) (hb : bs[i]? = some (some (g, cs))) (j : Nat) : x.frozen? ⟨g, j, none⟩ = false := (h.box i g cs hb).2.2.2 j
theorem St.more (h : St T w bs rs x) : St T w (bs ++ [none]) rs x := by
  have hg : ∀ (i : Nat) b, (bs ++ [none])[i]? = some (some b) → bs[i]? = some (some b) := fun i b hi => by
    rw [List.getElem?_append] at hi
    split at hi
    · exact hi
    · rw [List.getElem?_singleton] at hi; split at hi <;> simp at hi
  exact ⟨h.up, fun i g cs hb => h.box i g cs (hg i _ hb), fun i j g cs g' ds h1 h2 => h.ne i j g cs g' ds (hg i _ h1) (hg j _ h2), h.rows, fun i j g cs r a h1 => h.off i j g cs r a (hg i _ h1)⟩
theorem set_get {b : Bx1} {c : Nat × List Value} {j : Nat} (hj : (bs.set i b)[j]? = some (some c)) : (j = i ∧ b = some c) ∨ (j ≠ i ∧ bs[j]? = some (some c)) := by
  rw [List.getElem?_set] at hj
  by_cases e : i = j
  · subst e
    rw [if_pos rfl] at hj
    split at hj
    · injection hj with hj; exact .inl ⟨rfl, hj⟩
    · cases hj
  · rw [if_neg e] at hj
    exact .inr ⟨fun h => e h.symm, hj⟩
theorem range_new (w : World) (cs : List Value) (t : TypeId) : (w.alloc (.cells cs.toArray t)).rangeAt w.heap.size 0 cs := fun j v hv => by
  rw [Nat.zero_add]; simpa using hv
/-- A place is made. -/
theorem St.fill {t : TypeId} (h : St T w bs rs x) (i : Nat) (cs : List Value) (hn : bs[i]? = some none) : St T w (bs.set i (some (x.heap.size, cs))) rs (x.alloc (.cells cs.toArray t)) := by
  have hb : Below x.heap.size x (x.alloc (.cells cs.toArray t)) := (Below.refl _ x).alloc (Nat.le_refl _) _
  have k := h.later hb
  have hsz : x.heap.size < (x.alloc (.cells cs.toArray t)).heap.size := by show _ < (x.heap.push _).size; simp
  refine ⟨k.up, fun j g ds hj => ?_, fun j q g ds g' ds' hj hq hne => ?_, k.rows, fun j q g ds r a hj hq ha => ?_⟩
  · rcases set_get hj with ⟨rfl, e⟩ | ⟨_, hj⟩
    · injection e with e; injection e with e1 e2; subst e1; subst e2
      exact ⟨h.up.size, hsz, range_new _ _ _, fun j => by simp⟩
    · exact k.box j g ds hj
  · rcases set_get hj with ⟨rfl, e⟩ | ⟨h1, hj1⟩ <;> rcases set_get hq with ⟨rfl, e'⟩ | ⟨h2, hq1⟩
    · exact absurd rfl hne
    · injection e with e; injection e with e1 _; subst e1
      exact Nat.ne_of_gt (h.box q g' ds' hq1).2.1
    · injection e' with e'; injection e' with e1 _; subst e1
      exact Nat.ne_of_lt (h.box j g ds hj1).2.1
    · exact h.ne j q g ds g' ds' hj1 hq1 hne
  · rcases set_get hj with ⟨rfl, e⟩ | ⟨h1, hj⟩
    · injection e with e; injection e with e1 _; subst e1
      exact Nat.ne_of_lt (((h.rows.1 q r hq).lt ha).2)
    · exact h.off j q g ds r a hj hq ha
theorem St.push {t : TypeId} (h : St T w bs rs x) (cs : List Value) : St T w (bs ++ [some (x.heap.size, cs)]) rs (x.alloc (.cells cs.toArray t)) := by
  have := (h.more).fill (t := t) bs.length cs (by simp)
  simpa using this
/-- Blocks that are not the call's boxes change. -/
theorem St.chg {S : Nat → Prop} (h : St T w bs rs x) (hc : Chg S x y) (hS : ∀ b, S b → w.heap.size ≤ b) (hb : ∀ (i : Nat) g cs, bs[i]? = some (some (g, cs)) → ¬ S g) (hr : ∀ (i : Nat) r, rs[i]? = some r → ∀ a, r.1 = some a → ¬ S a.block) : St T w bs rs y :=
  ⟨h.up.trans (hc.below h.up.size fun k _ hk => hS k hk), fun i g cs hi => by
    obtain ⟨h1, h2, h3, h4⟩ := h.box i g cs hi
    refine ⟨h1, Nat.lt_of_lt_of_le h2 hc.size, fun j v hv => hc.cell (h3 j v hv) (hb i g cs hi), fun j => ?_⟩
    have := hc.block g h2 (hb i g cs hi)
    have h5 := h4 j
    unfold World.frozen? at h5 ⊢
    rw [this]; exact h5, h.ne, h.rows.chg hc hr, h.off⟩
theorem setCells_chg (g : Nat) : ∀ (vs : List Value) (o : Nat) (x : World), Chg (fun b => b = g) x (x.setCells g o vs)
  | [], _, x => Chg.refl _ x
  | v :: vs, o, x => (Chg.setCell x ⟨g, o, none⟩ v).trans (setCells_chg g vs (o + 1) _)
/-- A box is written whole. -/
theorem St.put (h : St T w bs rs x) (hb : bs[i]? = some (some (g, cs))) (hl : vs.length = cs.length) : St T w (bs.set i (some (g, vs))) rs (x.setCells g 0 vs) ∧ Chg (fun b => b = g) x (x.setCells g 0 vs) := by
  have hc := setCells_chg g vs 0 x
  obtain ⟨hw, hx, hr, hf⟩ := h.box i g cs hb
  have ht : x.there g 0 vs.length := fun j hj => ⟨hr.isSome j (by omega), by rw [Nat.zero_add]; exact hf j⟩
  have hfz : ∀ q, (x.setCells g 0 vs).frozen? q = x.frozen? q := fun q => World.frozen?_setCells _ _ _ _ _
  refine ⟨⟨h.up.trans (hc.below h.up.size fun k _ hk => by rw [hk]; exact hw), fun j g' ds hj => ?_, fun j q g' ds g'' ds' hj hq hne => ?_, h.rows.chg hc fun q r hq a ha => h.off i q g cs r a hb hq ha, fun j q g' ds r a hj hq ha => ?_⟩, hc⟩
  · rcases set_get hj with ⟨rfl, e⟩ | ⟨h1, hj⟩
    · injection e with e; injection e with e1 e2; subst e1; subst e2
      exact ⟨hw, Nat.lt_of_lt_of_le hx hc.size, World.rangeAt_setCells_same x g 0 vs ht, fun j => (hfz _).trans (hf j)⟩
    · obtain ⟨a1, a2, a3, a4⟩ := h.box j g' ds hj
      exact ⟨a1, Nat.lt_of_lt_of_le a2 hc.size, World.rangeAt_setCells_apart a3 g 0 vs (.inl (h.ne j i g' ds g cs hj hb h1)), fun j => (hfz _).trans (a4 j)⟩
  · rcases set_get hj with ⟨rfl, e⟩ | ⟨h1, hj1⟩ <;> rcases set_get hq with ⟨rfl, e'⟩ | ⟨h2, hq1⟩
    · exact absurd rfl hne
    · injection e with e; injection e with e1 _; subst e1
      exact h.ne j q g cs g'' ds' hb hq1 hne
    · injection e' with e'; injection e' with e1 _; subst e1
      exact h.ne j q g' ds g cs hj1 hb hne
    · exact h.ne j q g' ds g'' ds' hj1 hq1 hne
  · rcases set_get hj with ⟨rfl, e⟩ | ⟨h1, hj⟩
    · injection e with e; injection e with e1 _; subst e1
      exact h.off j q g cs r a hb hq ha
    · exact h.off j q g' ds r a hj hq ha
/-- Rows that a call has made since. -/
theorem St.app (h : St T w bs rs x) (k : Below x.heap.size x y) {rs' : RowL} (hr : RowsB T x.heap.size y rs') : St T w bs (rs ++ rs') y :=
  ⟨(h.later k).up, (h.later k).box, h.ne, h.rows.app k hr h.up.size, fun i j g cs r a hb hj ha => by
    rw [List.getElem?_append] at hj
    split at hj
    · exact h.off i j g cs r a hb hj ha
    · have h1 := ((hr.1 _ r hj).lt ha).1
      have h2 := (h.box i g cs hb).2.1
      omega⟩
theorem St.fresh (h : St T w bs rs x) (k : Below x.heap.size x y) {A : Option Addr} {c : Nat} {l : List UInt8} (ho : OwnB T x.heap.size y A c l) : St T w bs (rs ++ [(A, c, l)]) y :=
  h.app k (RowsB.nil.snoc ho fun i r hr => by simp at hr)
theorem St.sl {c n : Nat} {A : Option Addr} {l : List UInt8} (h : St T w bs rs x) (hr : rs[i]? = some (A, c, l)) (hn : l.length = n) : Sl x A n c l := h.rows.sl_at hr hn
theorem St.own {c : Nat} {A : Option Addr} {l : List UInt8} (h : St T w bs rs x) (hr : rs[i]? = some (A, c, l)) : OwnB T w.heap.size x A c l := h.rows.1 i _ hr
theorem RowsB.erase {B : Nat} (h : RowsB T B x rs) (i : Nat) : RowsB T B x (rs.eraseIdx i) :=
  h.pick (fun j => if j < i then j else j + 1) (fun a b _ _ hne => by split <;> split <;> omega) fun j s hs => by
    rw [List.getElem?_eraseIdx] at hs
    split at hs
    · rename_i hj; rw [if_pos hj]; exact hs
    · rename_i hj; rw [if_neg hj]; exact hs
theorem erase_from {j : Nat} {r : Option Addr × Nat × List UInt8} (h : (rs.eraseIdx i)[j]? = some r) : ∃ k, k ≠ i ∧ rs[k]? = some r := by
  rw [List.getElem?_eraseIdx] at h
  split at h
  · exact ⟨j, by omega, h⟩
  · exact ⟨j + 1, by omega, h⟩
theorem St.erase (h : St T w bs rs x) (i : Nat) : St T w bs (rs.eraseIdx i) x := ⟨h.up, h.box, h.ne, h.rows.erase i, fun q j g cs r a hb hr ha => by
  obtain ⟨k, _, hk⟩ := erase_from hr
  exact h.off q k g cs r a hb hk ha⟩
/-- A row is written over and lengthened: the others stand. -/
theorem St.lng {A : Option Addr} {c : Nat} {l : List UInt8} (h : St T w bs rs x) (hr : rs[i]? = some (A, c, l)) (hc : Chg (fun b => A.map (·.block) = some b) x y) : St T w bs (rs.eraseIdx i) y := by
  have hS : ∀ b, A.map (·.block) = some b → ∃ a, A = some a ∧ a.block = b := fun b e => by
    cases A with
    | none => cases e
    | some a => injection e with e; exact ⟨a, rfl, e⟩
  refine (h.erase i).chg hc (fun b e => ?_) (fun q g cs hb e => ?_) fun j r hj a ha e => ?_
  · obtain ⟨a, ha, rfl⟩ := hS b e
    exact ((h.rows.1 i _ hr).lt ha).1
  · obtain ⟨a, ha, e'⟩ := hS g e
    exact h.off q i g cs _ a hb hr ha e'
  · obtain ⟨k, hk, hj⟩ := erase_from hj
    obtain ⟨b, hb, e'⟩ := hS _ e
    exact h.rows.2 i k _ r hr hj (fun e => hk e.symm) b a hb ha e'
theorem Lng.aside {x0 : World} {A A' : Option Addr} {c c' n g i j : Nat} {m : UInt8} {l l' : List UInt8} (L : Lng x0 A n m g x) (h : St T w bs rs x0) (hi : rs[i]? = some (A, c, l)) (hj : rs[j]? = some (A', c', l')) (hne : i ≠ j) (hc : Chg (fun b => A'.map (·.block) = some b) x y) : Lng x0 A n m g y := by
  refine L.chg hc fun b e => ?_
  cases A' with
  | none => cases e
  | some a =>
    injection e with e
    have e : a.block = b := e
    subst e
    refine ⟨((h.rows.1 j _ hj).lt rfl).2, fun e => ?_⟩
    cases A with
    | none => cases e
    | some a' =>
      injection e with e
      exact h.rows.2 i j _ _ hi hj hne a' a rfl rfl e
theorem Lng.box {x0 : World} {A : Option Addr} {c n g k i g1 : Nat} {m : UInt8} {l : List UInt8} {cs : List Value} (L : Lng x0 A n m g x) (h : St T w bs rs x0) (hb : bs[k]? = some (some (g1, cs))) (hi : rs[i]? = some (A, c, l)) (hc : Chg (fun b => b = g1) x y) : Lng x0 A n m g y := by
  refine L.chg hc fun b e => ?_
  subst e
  refine ⟨(h.box k _ cs hb).2.1, fun e => ?_⟩
  cases A with
  | none => cases e
  | some a =>
    injection e with e
    exact h.off k i _ cs _ a hb hi rfl e
theorem RowsB.lift {B B' : Nat} (h : RowsB T B x rs) (hb : B' ≤ B) : RowsB T B' x rs := ⟨fun i r hr => (h.1 i r hr).rebase hb, h.2⟩
end

section
variable {P : Program} {ops : Array Oper} {Q : Exit → Act → World → Prop}
theorem wp_alloc_row {o : Oper} {a : Act} {w : World} {K : Act → World → Prop} {ty : TypeId} (ho : o.op = .alloc ty) {z : Value} (hz : (P.info? ty).bind (·.zero) = some z)
    (hK : K (a.put o.dst (.pointer (some ⟨w.heap.size, 0, none⟩))) (w.alloc (.cells z.cells ty))) : o.wp P a w K Q := by
  cases hi : P.info? ty with
  | none => rw [hi] at hz; cases hz
  | some i =>
    rw [hi] at hz
    have hz : i.zero = some z := hz
    unfold Oper.wp execOp
    simp [ho, Instr.alloc, zeroValue, typeInfo, hi, hz, newVar, newRow, Sem.run_bind, Oper.upon]
    exact hK
theorem wp_store_row {o : Oper} {a : Act} {w : World} {K : Act → World → Prop} {ty : TypeId} {x y : Operand} (ho : o.op = .store ty x y) {g : Nat} {cs vs : List Value} (hx : a.eval x = .pointer (some ⟨g, 0, none⟩)) (hy : a.eval y = .agg vs.toArray)
    (hr : w.rangeAt g 0 cs) (hf : ∀ j, w.frozen? ⟨g, j, none⟩ = false) (hl : vs.length = cs.length) (ht : (P.info? ty).map (·.size) = some vs.length) (h1 : ∀ u ∈ vs, u.oneCell' = true)
    (hK : K (a.put o.dst undef) (w.setCells g 0 vs)) : o.wp P a w K Q :=
  wp_store_mid ty x y ho g 0 vs.toArray hx hy (fun j hj => ⟨hr.isSome j (by simpa [hl] using hj), by rw [Nat.zero_add]; exact hf j⟩) (by simpa using ht) (all_oneCell_toArray h1) hK
theorem wpList_store_row {rest : List Oper} {o : Oper} {a : Act} {w : World} (hgd : Region.wanted o (yielded ops a.tmps) = true) (ty : TypeId) (x y : Operand) (ho : o.op = .store ty x y) {g : Nat} {cs vs : List Value} (hx : a.eval x = .pointer (some ⟨g, 0, none⟩)) (hy : a.eval y = .agg vs.toArray)
    (hr : w.rangeAt g 0 cs) (hf : ∀ j, w.frozen? ⟨g, j, none⟩ = false) (hl : vs.length = cs.length) (ht : (P.info? ty).map (·.size) = some vs.length) (h1 : ∀ u ∈ vs, u.oneCell' = true)
    (hK : wpList P ops Q rest (a.put o.dst undef) (w.setCells g 0 vs)) : wpList P ops Q (o :: rest) a w :=
  BigFrame.wpList_want hgd fun _ h => wp_store_row ho hx hy hr hf hl ht h1 (h _ _ hK)
theorem wpList_alloc_st {rest : List Oper} {o : Oper} {a : Act} {W : World} (hgd : Region.wanted o (yielded ops a.tmps) = true) (ty : TypeId) (ho : o.op = .alloc ty) {T : TypeId} {w : World} {bs : List Bx1} {rs : RowL} (h : St T w bs rs W) (cs : List Value) (hz : (P.info? ty).bind (·.zero) = some (.agg cs.toArray))
    (hK : ∀ g W', St T w (bs ++ [some (g, cs)]) rs W' → Below W.heap.size W W' → wpList P ops Q rest (a.put o.dst (.pointer (some ⟨g, 0, none⟩))) W') : wpList P ops Q (o :: rest) a W :=
  BigFrame.wpList_want hgd fun _ hk => wp_alloc_row ho hz (hk _ _ (hK _ _ (h.push cs) ((Below.refl _ _).alloc (Nat.le_refl _) _)))
theorem wpList_store_st {rest : List Oper} {o : Oper} {a : Act} {W : World} (hgd : Region.wanted o (yielded ops a.tmps) = true) (ty : TypeId) (x y : Operand) (ho : o.op = .store ty x y) {T : TypeId} {w : World} {bs : List Bx1} {rs : RowL} (h : St T w bs rs W) (i : Nat) {g : Nat} {cs : List Value} (hb : bs[i]? = some (some (g, cs)))
    (hx : a.eval x = .pointer (some ⟨g, 0, none⟩)) (vs : List Value) (hy : a.eval y = .agg vs.toArray) (hl : vs.length = cs.length) (ht : (P.info? ty).map (·.size) = some vs.length) (h1 : ∀ u ∈ vs, u.oneCell' = true)
    (hK : ∀ W', St T w (bs.set i (some (g, vs))) rs W' → Chg (fun b => b = g) W W' → wpList P ops Q rest (a.put o.dst undef) W') : wpList P ops Q (o :: rest) a W :=
  wpList_store_row hgd ty x y ho hx hy (h.range hb) (h.fz hb) hl ht h1 (hK _ (h.put hb hl).1 (h.put hb hl).2)
end
end Go.Proofs.YtbcljgcilbfblaaDoor

namespace Go.Proofs.YtbcljgcilbfblaaDoor
open Go.RowKit

/-- Where the parts stand: slots of the loaded, of the answer, of the place; numbers of the operations. -/
structure Parts where
  k : Nat
  s : Nat → Nat
  u : Nat → Nat
  t : Nat → Nat
  L : Nat → Nat
  C : Nat → Nat
  A : Nat → Nat
  X : Nat → Nat
def Parts.slots (p : Parts) : List Nat := (List.range p.k).flatMap fun j => [p.s j, p.u j, p.t j]
def apartB (l : List Nat) : Bool := decide l.Nodup
def Parts.sl (p : Parts) (j : Nat) : List Nat := [p.s j, p.u j, p.t j]
def Parts.op (p : Parts) (j : Nat) : List Nat := [p.L j, p.C j, p.A j, p.X j]
def Parts.ok (p : Parts) (n : Nat) : Bool := (List.range p.k).all fun j => decide ((p.sl j).Nodup) && decide ((p.op j).Nodup) && (p.sl j).all (fun d => decide (d < n)) &&
  (List.range p.k).all fun i => i == j || ((p.sl i).all fun x => !(p.sl j).contains x) && (p.op i).all fun x => !(p.op j).contains x
theorem ok_at {p : Parts} {m : Nat} (h : p.ok m = true) {j : Nat} (hj : j < p.k) : ((p.sl j).Nodup ∧ (p.op j).Nodup ∧ ∀ d ∈ p.sl j, d < m) ∧ ∀ i, i < p.k → i ≠ j → (∀ x ∈ p.sl i, ∀ y ∈ p.sl j, x ≠ y) ∧ ∀ x ∈ p.op i, ∀ y ∈ p.op j, x ≠ y := by
  have h1 := List.all_eq_true.1 h j (List.mem_range.2 hj)
  simp only [Bool.and_eq_true, decide_eq_true_eq, List.all_eq_true, Bool.or_eq_true, beq_iff_eq, Bool.not_eq_true', List.mem_range] at h1
  obtain ⟨⟨⟨a1, a2⟩, a3⟩, a4⟩ := h1
  refine ⟨⟨a1, a2, a3⟩, fun i hi hne => ?_⟩
  rcases a4 i hi with e | ⟨b1, b2⟩
  · exact absurd e hne
  · exact ⟨fun x hx y hy e => by subst e; have := b1 x hx; simp at this; exact this hy, fun x hx y hy e => by subst e; have := b2 x hx; simp at this; exact this hy⟩
def edgeB (o : Oper) (n : Nat) : Bool := o.after.any fun e => Region.binds .any e && e.on == n
theorem edge_on {o : Oper} {n : Nat} {D : Nat → Bool} (h : edgeB o n = true) (hp : ∀ e, e ∈ o.after → Region.binds .any e = true → D e.on = true) : D n = true := by
  obtain ⟨e, he, hb⟩ := Array.any_eq_true'.1 h
  simp only [Bool.and_eq_true, beq_iff_eq] at hb
  rw [← hb.2]
  exact hp e he hb.1
def chainB (l : List Oper) (C : Nat → Nat) (k : Nat) : Bool := (List.range (k - 1)).all fun j => match l[C (j + 1)]? with
  | some o => edgeB o (C j)
  | none => false
theorem chain_down {l : List Oper} {C : Nat → Nat} {k : Nat} {D : Nat → Bool} (h : chainB l C k = true) (hc : Closed l D) {j : Nat} (hj : D (C j) = false) : ∀ i, j ≤ i → i < k → D (C i) = false := by
  intro i
  induction i with
  | zero => intro h0 _; obtain rfl : j = 0 := by omega
            exact hj
  | succ i ih =>
    intro h0 h1
    rcases Nat.lt_or_ge i j with hlt | hge
    · obtain rfl : j = i + 1 := by omega
      exact hj
    · cases hd : D (C (i + 1)) with
      | false => rfl
      | true =>
        have h2 := List.all_eq_true.1 h i (List.mem_range.2 (by omega))
        split at h2
        · rename_i o ho
          have := edge_on h2 (hc _ o ho hd)
          rw [ih hge (by omega)] at this
          cases this
        · cases h2
section
variable {P : Program} {Q : Exit → Act → World → Prop} {T : TypeId} {w : World} {bs : List Bx1} {rs : RowL}
/-- What holds of one part. -/
structure Part1 (p : Parts) (n : Nat) (arg : List Value) (Pst : Value → RowL → Prop) (j : Nat) (D : Nat → Bool) (v : Nat → Value) (b : Bx1) (R : RowL) : Prop where
  load : D (p.L j) = true → v (p.s j) = .agg arg.toArray
  no : D (p.C j) = false → R = []
  call : D (p.C j) = true → Pst (v (p.u j)) R
  nob : D (p.A j) = false → b = none
  box : D (p.A j) = true → ∃ g cs, v (p.t j) = .pointer (some ⟨g, 0, none⟩) ∧ b = some (g, cs) ∧ cs.length = n ∧ (D (p.X j) = true → v (p.u j) = .agg cs.toArray)
theorem slot_ne {p : Parts} {m : Nat} (h : p.ok m = true) {i j : Nat} (hi : i < p.k) (hj : j < p.k) (hne : i ≠ j) :
    (p.s i ≠ p.s j ∧ p.s i ≠ p.u j ∧ p.s i ≠ p.t j ∧ p.u i ≠ p.s j ∧ p.u i ≠ p.u j ∧ p.u i ≠ p.t j ∧ p.t i ≠ p.s j ∧ p.t i ≠ p.u j ∧ p.t i ≠ p.t j) := by
  have k := ((ok_at h hj).2 i hi hne).1
  unfold Parts.sl at k
  exact ⟨k _ (by simp) _ (by simp), k _ (by simp) _ (by simp), k _ (by simp) _ (by simp), k _ (by simp) _ (by simp), k _ (by simp) _ (by simp), k _ (by simp) _ (by simp), k _ (by simp) _ (by simp), k _ (by simp) _ (by simp), k _ (by simp) _ (by simp)⟩
theorem oper_ne {p : Parts} {m : Nat} (h : p.ok m = true) {i j : Nat} (hi : i < p.k) (hj : j < p.k) (hne : i ≠ j) :
    ∀ x ∈ [p.L i, p.C i, p.A i, p.X i], ∀ y ∈ [p.L j, p.C j, p.A j, p.X j], x ≠ y := ((ok_at h hj).2 i hi hne).2
theorem own_ne {p : Parts} {m : Nat} (h : p.ok m = true) {j : Nat} (hj : j < p.k) : (p.s j ≠ p.u j ∧ p.s j ≠ p.t j ∧ p.u j ≠ p.t j) ∧ (p.L j ≠ p.C j ∧ p.L j ≠ p.A j ∧ p.L j ≠ p.X j ∧ p.C j ≠ p.A j ∧ p.C j ≠ p.X j ∧ p.A j ≠ p.X j) ∧ (p.s j < m ∧ p.u j < m ∧ p.t j < m) := by
  obtain ⟨h1, h2, h3⟩ := (ok_at h hj).1
  unfold Parts.sl at h1 h3
  unfold Parts.op at h2
  simp only [List.nodup_cons, List.mem_cons, List.not_mem_nil, not_or, or_false] at h1 h2
  exact ⟨⟨h1.1.1, h1.1.2, h1.2.1⟩, ⟨h2.1.1, h2.1.2.1, h2.1.2.2, h2.2.1.1, h2.2.1.2, h2.2.2.1⟩, h3 _ (by simp), h3 _ (by simp), h3 _ (by simp)⟩
theorem slot_in {p : Parts} {j : Nat} (hj : j < p.k) : p.s j ∈ p.slots ∧ p.u j ∈ p.slots ∧ p.t j ∈ p.slots :=
  ⟨List.mem_flatMap.2 ⟨j, List.mem_range.2 hj, by simp⟩, List.mem_flatMap.2 ⟨j, List.mem_range.2 hj, by simp⟩, List.mem_flatMap.2 ⟨j, List.mem_range.2 hj, by simp⟩⟩
/-- A part that is not meant stays. -/
theorem Part1.other {p : Parts} {n : Nat} {arg : List Value} {Pst : Value → RowL → Prop} {j : Nat} {D D' : Nat → Bool} {v v' : Nat → Value} {b : Bx1} {R : RowL} (h : Part1 p n arg Pst j D v b R)
    (hD : D' (p.L j) = D (p.L j) ∧ D' (p.C j) = D (p.C j) ∧ D' (p.A j) = D (p.A j) ∧ D' (p.X j) = D (p.X j)) (hv : v' (p.s j) = v (p.s j) ∧ v' (p.u j) = v (p.u j) ∧ v' (p.t j) = v (p.t j)) : Part1 p n arg Pst j D' v' b R := by
  obtain ⟨d1, d2, d3, d4⟩ := hD
  obtain ⟨v1, v2, v3⟩ := hv
  refine ⟨fun e => ?_, fun e => ?_, fun e => ?_, fun e => ?_, fun e => ?_⟩
  · rw [v1]; exact h.load (d1 ▸ e)
  · exact h.no (d2 ▸ e)
  · rw [v2]; exact h.call (d2 ▸ e)
  · exact h.nob (d3 ▸ e)
  · rw [v2, v3, d4]; exact h.box (d3 ▸ e)
def Rows1 (R : Nat → RowL) (k : Nat) : RowL := (List.range k).flatMap R
def Boxes1 (b : Nat → Bx1) (k : Nat) : List Bx1 := (List.range k).map b
/-- What holds of the region. -/
def PartR (p : Parts) (T : TypeId) (w : World) (bs : List Bx1) (rs : RowL) (n : Nat) (arg : Nat → List Value) (Pst : Nat → Value → RowL → Prop) (D : Nat → Bool) (v : Nat → Value) (x : World) : Prop :=
  ∃ (b : Nat → Bx1) (R : Nat → RowL), St T w (bs ++ Boxes1 b p.k) (rs ++ Rows1 R p.k) x ∧ ∀ j, j < p.k → Part1 p n (arg j) (Pst j) j D v (b j) (R j)
variable {p : Parts} {n m : Nat} {arg : Nat → List Value} {Pst : Nat → Value → RowL → Prop} {l : List Oper} {f0 : Act} {o : Oper} {j : Nat}
def upd {α : Type} (f : Nat → α) (j : Nat) (x : α) : Nat → α := fun i => if i = j then x else f i
theorem upd_same {α : Type} (f : Nat → α) (j : Nat) (x : α) : upd f j x j = x := by simp [upd]
theorem upd_other {α : Type} {f : Nat → α} {j i : Nat} {x : α} (h : i ≠ j) : upd f j x i = f i := by simp [upd, h]
theorem boxes_upd (b : Nat → Bx1) (k : Nat) (x : Bx1) : Boxes1 (upd b j x) k = (Boxes1 b k).set j x := by
  refine List.ext_getElem? fun i => ?_
  unfold Boxes1
  rw [List.getElem?_set, List.getElem?_map, List.getElem?_map]
  by_cases hi : i < k
  · rw [List.getElem?_range hi]
    by_cases e : j = i
    · subst e; simp [hi, upd]
    · have e2 : i ≠ j := fun h => e h.symm
      simp [upd, e, e2]
  · rw [List.getElem?_eq_none (by simpa using hi)]
    by_cases e : j = i
    · subst e; simp [hi]
    · simp [e]
theorem boxes_at {b : Nat → Bx1} {k : Nat} (hj : j < k) : (bs ++ Boxes1 b k)[bs.length + j]? = some (b j) := by
  rw [List.getElem?_append_right (by omega)]
  simp [Boxes1, hj]
theorem rows_upd {R : Nat → RowL} {k : Nat} {x : RowL} (hj : j < k) (h : ∀ i, j ≤ i → i < k → R i = []) : Rows1 (upd R j x) k = Rows1 R k ++ x := by
  unfold Rows1
  obtain ⟨d, rfl⟩ : ∃ d, k = j + 1 + d := ⟨k - (j + 1), by omega⟩
  have hcut : ∀ F : Nat → RowL, (List.range (j + 1 + d)).flatMap F = (List.range j).flatMap F ++ F j ++ ((List.range d).map (j + 1 + ·)).flatMap F := fun F => by
    rw [List.range_add, List.flatMap_append, List.range_succ, List.flatMap_append]; simp
  have hnil : ∀ F : Nat → RowL, (∀ i, j < i → i < j + 1 + d → F i = []) → ((List.range d).map (j + 1 + ·)).flatMap F = [] := fun F hF => by
    rw [List.flatMap_eq_nil_iff]
    intro i hi
    obtain ⟨q, hq, rfl⟩ := List.mem_map.1 hi
    exact hF _ (by omega) (by have := List.mem_range.1 hq; omega)
  have hpre : (List.range j).flatMap (upd R j x) = (List.range j).flatMap R := by
    unfold List.flatMap
    congr 1
    exact List.map_congr_left fun i hi => upd_other (by have := List.mem_range.1 hi; omega)
  rw [hcut, hcut, hnil _ (fun i h1 h2 => by rw [upd_other (by omega)]; exact h i (by omega) h2), hnil _ (fun i h1 h2 => h i (by omega) h2), hpre, upd_same, h j (Nat.le_refl _) hj]
  simp
theorem done_same (D : Nat → Bool) (i : Nat) : (i == i || D i) = true := by simp
theorem done_other {D : Nat → Bool} {i q : Nat} (h : q ≠ i) : (q == i || D q) = D q := by simp [h]
/-- The others stay. -/
theorem others {D : Nat → Bool} {a : Act} {b : Nat → Bx1} {R : Nat → RowL} (hok : p.ok m = true) (hj : j < p.k) (h : ∀ i, i < p.k → Part1 p n (arg i) (Pst i) i D (fun q => a.eval (.tmp q)) (b i) (R i)) {c d : Nat} {x : Value}
    (hc : c ∈ [p.L j, p.C j, p.A j, p.X j]) (hd : d = p.s j ∨ d = p.u j ∨ d = p.t j) {i : Nat} (hi : i < p.k) (hne : i ≠ j) : Part1 p n (arg i) (Pst i) i (fun q => q == c || D q) (fun q => (a.put (some d) x).eval (.tmp q)) (b i) (R i) := by
  have h1 := oper_ne hok hi hj hne
  obtain ⟨n1, n2, n3, n4, n5, n6, n7, n8, n9⟩ := slot_ne hok hi hj hne
  refine (h i hi).other ⟨done_other (h1 _ (by simp) c hc), done_other (h1 _ (by simp) c hc), done_other (h1 _ (by simp) c hc), done_other (h1 _ (by simp) c hc)⟩ ?_
  rcases hd with rfl | rfl | rfl
  · exact ⟨put_other n1.symm x, put_other n4.symm x, put_other n7.symm x⟩
  · exact ⟨put_other n2.symm x, put_other n5.symm x, put_other n8.symm x⟩
  · exact ⟨put_other n3.symm x, put_other n6.symm x, put_other n9.symm x⟩
theorem part_load {ty : TypeId} {q i g : Nat} (hok : p.ok f0.tmps.size = true) (hj : j < p.k) (ho : o.op = .load ty (.tmp q)) (hd : o.dst = some (p.s j)) (hq : q ∉ p.slots) (he : f0.eval (.tmp q) = .pointer (some ⟨g, 0, none⟩)) (hb : bs[i]? = some (some (g, arg j))) (ht : RowTy P ty (arg j).length) :
    RegStep P Q l p.slots f0 (PartR p T w bs rs n arg Pst) (p.L j) o := by
  intro D a x hcl hs ⟨b, R, hst, hp⟩ hD hpre
  obtain ⟨⟨o1, o2, o3⟩, ⟨e1, e2, e3, e4, e5, e6⟩, ⟨m1, m2, m3⟩⟩ := own_ne hok hj
  refine wp_load_row7 ho ((hs.eval hq).trans he) (hst.range (i := i) (by rw [List.getElem?_append_left (List.getElem?_eq_some_iff.1 hb).1]; exact hb)) ht ?_
  rw [hd]
  refine ⟨hs.put (slot_in hj).1 _, b, R, hst, fun i hi => ?_⟩
  by_cases e : i = j
  · subst e
    have h := hp i hi
    refine ⟨fun _ => put_same (by rw [hs.size]; exact m1) _, fun e => h.no (by rwa [done_other e1.symm] at e), fun e => ?_, fun e => h.nob (by rwa [done_other e2.symm] at e), fun e => ?_⟩
    · rw [put_other o1]; exact h.call (by rwa [done_other e1.symm] at e)
    · rw [put_other o1, put_other o2, done_other e3.symm]; exact h.box (by rwa [done_other e2.symm] at e)
  · exact others hok hj hp (by simp) (.inl rfl) hi e
theorem part_call {f : FuncId} {ats : Array TypeId} (hok : p.ok f0.tmps.size = true) (hj : j < p.k) (ho : o.op = .call { callee := .value (.func f), args := #[.tmp (p.s j)], argTypes := ats }) (hd : o.dst = some (p.u j)) (hf : GoFn P f)
    (hL : edgeB o (p.L j) = true) (hch : chainB l p.C p.k = true) (hX : ∃ ox, l[p.X j]? = some ox ∧ edgeB ox (p.C j) = true)
    (hc : ∀ x, Below w.heap.size w x → Calls P f #[.agg (arg j).toArray] x fun e y => ∃ v R, e = .returned v ∧ Pst j v R ∧ RowsB T x.heap.size y R ∧ Below x.heap.size x y) :
    RegStep P Q l p.slots f0 (PartR p T w bs rs n arg Pst) (p.C j) o := by
  intro D a x hcl hs ⟨b, R, hst, hp⟩ hD hpre
  obtain ⟨⟨o1, o2, o3⟩, ⟨e1, e2, e3, e4, e5, e6⟩, ⟨m1, m2, m3⟩⟩ := own_ne hok hj
  have hl := (hp j hj).load (edge_on hL hpre)
  refine wp_call_go ho hf #[.agg (arg j).toArray] (by simp only [List.map_toArray, List.map_cons, List.map_nil]; rw [show a.eval (.tmp (p.s j)) = _ from hl]) ((hc x hst.up).mono fun e y ⟨v, R', he, hP, hR, hB⟩ => ⟨v, he, ?_⟩)
  rw [hd]
  have hno := chain_down hch hcl hD
  have hXf : D (p.X j) = false := by
    obtain ⟨ox, hox, hoe⟩ := hX
    cases h : D (p.X j) with
    | false => rfl
    | true => have := edge_on hoe (hcl _ _ hox h); rw [hD] at this; cases this
  refine ⟨hs.put (slot_in hj).2.1 _, b, upd R j R', ?_, fun i hi => ?_⟩
  · rw [rows_upd hj fun i h1 h2 => (hp i h2).no (hno i h1 h2), ← List.append_assoc]
    exact hst.app hB hR
  · by_cases e : i = j
    · subst e
      have h := hp i hi
      rw [upd_same]
      refine ⟨fun e => ?_, fun e => ?_, fun _ => ?_, fun e => h.nob (by rwa [done_other e4.symm] at e), fun e => ?_⟩
      · rw [put_other o1.symm]; exact h.load (by rwa [done_other e1] at e)
      · rw [done_same] at e; cases e
      · rw [put_same (by rw [hs.size]; exact m2)]; exact hP
      · obtain ⟨g, cs, h1, h2, h3, h4⟩ := h.box (by rwa [done_other e4.symm] at e)
        refine ⟨g, cs, by rw [put_other o3]; exact h1, h2, h3, fun e => ?_⟩
        rw [done_other e5.symm, hXf] at e; cases e
    · rw [upd_other e]
      exact others hok hj hp (by simp) (.inr (.inl rfl)) hi e
theorem part_alloc {ty : TypeId} {cs : List Value} (hok : p.ok f0.tmps.size = true) (hj : j < p.k) (ho : o.op = .alloc ty) (hd : o.dst = some (p.t j)) (hz : (P.info? ty).bind (·.zero) = some (.agg cs.toArray)) (hn : cs.length = n)
    (hX : ∃ ox, l[p.X j]? = some ox ∧ edgeB ox (p.A j) = true) : RegStep P Q l p.slots f0 (PartR p T w bs rs n arg Pst) (p.A j) o := by
  intro D a x hcl hs ⟨b, R, hst, hp⟩ hD hpre
  obtain ⟨⟨o1, o2, o3⟩, ⟨e1, e2, e3, e4, e5, e6⟩, ⟨m1, m2, m3⟩⟩ := own_ne hok hj
  refine wp_alloc_row ho hz ?_
  rw [hd]
  have hXf : D (p.X j) = false := by
    obtain ⟨ox, hox, hoe⟩ := hX
    cases h : D (p.X j) with
    | false => rfl
    | true => have := edge_on hoe (hcl _ _ hox h); rw [hD] at this; cases this
  refine ⟨hs.put (slot_in hj).2.2 _, upd b j (some (x.heap.size, cs)), R, ?_, fun i hi => ?_⟩
  · have h := hst.fill (t := ty) (bs.length + j) cs (by rw [boxes_at hj, (hp j hj).nob hD])
    rw [boxes_upd]
    rw [List.set_append_right _ _ (by omega), show bs.length + j - bs.length = j from by omega] at h
    exact h
  · by_cases e : i = j
    · subst e
      have h := hp i hi
      rw [upd_same]
      refine ⟨fun e => ?_, fun e => h.no (by rwa [done_other e4] at e), fun e => ?_, fun e => ?_, fun _ => ⟨_, cs, put_same (by rw [hs.size]; exact m3) _, rfl, hn, fun e => ?_⟩⟩
      · rw [put_other o2.symm]; exact h.load (by rwa [done_other e2] at e)
      · rw [put_other o3.symm]; exact h.call (by rwa [done_other e4] at e)
      · rw [done_same] at e; cases e
      · rw [done_other e6.symm, hXf] at e; cases e
    · rw [upd_other e]
      exact others hok hj hp (by simp) (.inr (.inr rfl)) hi e
theorem part_store {ty : TypeId} (hok : p.ok f0.tmps.size = true) (hj : j < p.k) (ho : o.op = .store ty (.tmp (p.t j)) (.tmp (p.u j))) (hd : o.dst = none) (hA : edgeB o (p.A j) = true) (hC : edgeB o (p.C j) = true)
    (hP : ∀ v R, Pst j v R → ∃ cs : List Value, v = .agg cs.toArray ∧ cs.length = n ∧ ∀ u ∈ cs, u.oneCell' = true) (ht : (P.info? ty).map (·.size) = some n) : RegStep P Q l p.slots f0 (PartR p T w bs rs n arg Pst) (p.X j) o := by
  intro D a x hcl hs ⟨b, R, hst, hp⟩ hD hpre
  obtain ⟨⟨o1, o2, o3⟩, ⟨e1, e2, e3, e4, e5, e6⟩, ⟨m1, m2, m3⟩⟩ := own_ne hok hj
  obtain ⟨g, cs, h1, h2, h3, _⟩ := (hp j hj).box (edge_on hA hpre)
  have hc := (hp j hj).call (edge_on hC hpre)
  obtain ⟨vs, k1, k2, k3⟩ := hP _ _ hc
  have hb : (bs ++ Boxes1 b p.k)[bs.length + j]? = some (some (g, cs)) := by rw [boxes_at hj, h2]
  refine wp_store_row ho h1 k1 (hst.range hb) (hst.fz hb) (by rw [k2, h3]) (by rw [k2]; exact ht) k3 ?_
  rw [hd]
  refine ⟨hs, upd b j (some (g, vs)), R, ?_, fun i hi => ?_⟩
  · have h := (hst.put (vs := vs) hb (by rw [k2, h3])).1
    rw [boxes_upd]
    rw [List.set_append_right _ _ (by omega), show bs.length + j - bs.length = j from by omega] at h
    exact h
  · by_cases e : i = j
    · subst e
      have h := hp i hi
      rw [upd_same]
      refine ⟨fun e => h.load (by rwa [done_other e3] at e), fun e => h.no (by rwa [done_other e5] at e), fun e => h.call (by rwa [done_other e5] at e), fun e => ?_, fun e => ⟨g, vs, h1, rfl, k2, fun _ => k1⟩⟩
      rw [done_other e6, edge_on hA hpre] at e; cases e
    · rw [upd_other e]
      have q := oper_ne hok hi hj e
      exact (hp i hi).other ⟨done_other (q _ (by simp) _ (by simp)), done_other (q _ (by simp) _ (by simp)), done_other (q _ (by simp) _ (by simp)), done_other (q _ (by simp) _ (by simp))⟩ ⟨rfl, rfl, rfl⟩
theorem partR_start {v : Nat → Value} {x : World} (h : St T w bs rs x) : PartR p T w bs rs n arg Pst (fun _ => false) v x := by
  refine ⟨fun _ => none, fun _ => [], ?_, fun j _ => ⟨(fun e => nomatch e), fun _ => rfl, (fun e => nomatch e), fun _ => rfl, (fun e => nomatch e)⟩⟩
  have e1 : Rows1 (fun _ => []) p.k = [] := by unfold Rows1; simp
  have e2 : ∀ k, St T w (bs ++ Boxes1 (fun _ => none) k) rs x := by
    intro k
    induction k with
    | zero => simpa [Boxes1] using h
    | succ k ih =>
      have := ih.more
      simpa [Boxes1, List.range_succ] using this
  rw [e1, List.append_nil]
  exact e2 p.k
end
end Go.Proofs.YtbcljgcilbfblaaDoor

namespace Go.Proofs.YtbcljgcilbfblaaDoor
open Go.RowKit

section
variable {P : Program} {Q : Exit → Act → World → Prop} {S : World → Prop} {l : List Oper} {fuel : Nat} {listed : Array Bool} {a : Act} {w : World} {i : Nat} {o : Oper} {v : Value}
theorem lx_start {id : Nat} (hm : P.follows .mixedOrders = true) (_hS : S w.drew) (h : wpAnyH P .any l.toArray Q S l.length (Array.replicate l.length false) a w.drew) : (Code.region id l.toArray true).wp P Q a w :=
  wp_region_held (S := S) hm (by simpa using h)
theorem lx_at (hi : l[i]? = some o) : l.toArray[i]? = some o := by simpa using hi
theorem lx_take (i : Nat) {o : Oper} (hi : l[i]? = some o) (hs : Region.noSelect l.toArray = true) (hf : Region.free .any l.toArray listed i = true) (hr : (Region.ready .any l.toArray listed).contains i = true)
    (hQ : ∀ c a w, Q (.panic c) (a.put o.dst v) w → Q (.panic c) a w) (hy : YieldsIf P l.toArray S o v a) (hS : S w)
    (h : wpAnyH P .any l.toArray Q S fuel (listed.setIfInBounds i true) (a.put o.dst v) w) : wpAnyH P .any l.toArray Q S (fuel + 1) listed a w :=
  wpAnyH_take (lx_at hi) hs hf hr hQ hy hS h
/-- A guarded operation that is not wanted. -/
theorem lx_skip (i : Nat) {o : Oper} (hi : l[i]? = some o) (hs : Region.noSelect l.toArray = true) (hf : Region.free .any l.toArray listed i = true) (hr : (Region.ready .any l.toArray listed).contains i = true)
    (hQ : ∀ c a w, Q (.panic c) (a.put o.dst undef) w → Q (.panic c) a w) (hw : Region.wanted o (yielded l.toArray a.tmps) = false) (hS : S w)
    (h : wpAnyH P .any l.toArray Q S fuel (listed.setIfInBounds i true) (a.put o.dst undef) w) : wpAnyH P .any l.toArray Q S (fuel + 1) listed a w :=
  wpAnyH_take (lx_at hi) hs hf hr hQ (.inr ⟨hw, rfl⟩) hS h
theorem lx_call (i : Nat) {o : Oper} {f : FuncId} {xs : List Operand} {ats : Array TypeId} (hi : l[i]? = some o) (hr : Region.ready .any l.toArray listed = [i]) (hw : Region.wanted o (yielded l.toArray a.tmps) = true)
    (ho : o.op = .call { callee := .value (.func f), args := xs.toArray, argTypes := ats }) (hf : GoFn P f) (vals : List Value) (hv : xs.map a.eval = vals)
    (hc : Calls P f vals.toArray w fun e w' => ∃ v, e = .returned v ∧ S w' ∧ wpAnyH P .any l.toArray Q S fuel (listed.setIfInBounds i true) (a.put o.dst v) w') : wpAnyH P .any l.toArray Q S (fuel + 1) listed a w := by
  refine wpAnyH_all hr (by simp) fun j hj => ?_
  obtain rfl : j = i := by simpa using hj
  unfold wpOp
  rw [lx_at hi]
  simp only [hw, if_true]
  exact .inl (wp_call_go ho hf vals.toArray (by rw [List.map_toArray, hv]) hc)
theorem lx_done (hr : Region.ready .any l.toArray listed = []) (h : Q .normal a w) : wpAnyH P .any l.toArray Q S fuel listed a w := wpAnyH_done hr h fuel
theorem ev_tmp (l : List Value) (d : List Deferred) (k : Nat) : Act.eval { tmps := l.toArray, defers := d } (.tmp k) = (l[k]?).getD undef := by simp [eval_tmp]
theorem ev_const (a : Act) (v : Value) : a.eval (.const v) = v := rfl
/-! What yields. -/
theorem yi_row {ty : TypeId} {x : Operand} (hw : Region.wanted o (yielded l.toArray a.tmps) = true) (ho : o.op = .load ty x) {g : Nat} {cs : List Value} (hx : a.eval x = .pointer (some ⟨g, 0, none⟩)) (hr : ∀ w, S w → w.rangeAt g 0 cs) (ht : RowTy P ty cs.length) :
    YieldsIf P l.toArray S o (.agg cs.toArray) a := by
  obtain ⟨⟨d, hu, hd⟩, hi⟩ := ht
  refine .inl ⟨hw, fun w hS => ?_⟩
  unfold execOp
  simp only [ho, hx, Instr.loadAt, Instr.sureAddr, Sem.run_bind, Sem.run_pure, Result.andThen_ok, run_loadVar_mid w g 0 ty cs d (hr w hS) hu hd hi]
theorem yi_cell {ty : TypeId} {x : Operand} (hw : Region.wanted o (yielded l.toArray a.tmps) = true) (ho : o.op = .load ty x) {g k : Nat} (hx : a.eval x = .pointer (some ⟨g, k, none⟩)) (hr : ∀ w, S w → w.cell? ⟨g, k, none⟩ = some v) (ha : ∀ w, (isAgg ty).run P w = .ok false w) :
    YieldsIf P l.toArray S o v a := by
  refine .inl ⟨hw, fun w hS => ?_⟩
  have h := hr w hS
  unfold execOp
  simp only [ho, hx, Instr.loadAt, Instr.sureAddr, loadVar, Sem.run_bind, Sem.run_pure, Result.andThen_ok, ha w, Bool.false_eq_true, if_false]
  simp [go_sem, h]
theorem yi_move {x : Operand} (hw : Region.wanted o (yielded l.toArray a.tmps) = true) (ho : o.op = .move x) (hx : a.eval x = v) : YieldsIf P l.toArray S o v a := .inl ⟨hw, fun w _ => by subst hx; unfold execOp; simp only [ho, Sem.run_pure]⟩
theorem yi_assign {x : Operand} (hw : Region.wanted o (yielded l.toArray a.tmps) = true) (ho : o.op = .assign x) (hx : a.eval x = v) : YieldsIf P l.toArray S o v a := .inl ⟨hw, fun w _ => by subst hx; unfold execOp; simp only [ho, Sem.run_pure]⟩
theorem yi_pick {c x y : Operand} {b : Bool} (hw : Region.wanted o (yielded l.toArray a.tmps) = true) (ho : o.op = .pick c x y) (hc : a.eval c = .bool b) (hv : (if b then a.eval x else a.eval y) = v) : YieldsIf P l.toArray S o v a := .inl ⟨hw, fun w _ => by
  subst hv
  unfold execOp
  simp only [ho, hc, asBool, Sem.run_bind, Sem.run_pure, Result.andThen_ok]⟩
theorem yi_run (hw : Region.wanted o (yielded l.toArray a.tmps) = true) (h : ∀ w, (execOp a.eval o).run P w = .ok (.value v) w) : YieldsIf P l.toArray S o v a := .inl ⟨hw, fun w _ => h w⟩
end
end Go.Proofs.YtbcljgcilbfblaaDoor

namespace Go.Proofs.YtbcljgcilbfblaaDoor
open Go.RowKit

section
variable {T : TypeId} {w x y : World} {bs : List Bx1} {rs : RowL} {i g : Nat} {cs vs : List Value}
/-- A box is written. -/
theorem St.write (h : St T w bs rs x) (hb : bs[i]? = some (some (g, cs))) (hc : Chg (fun b => b = g) x y) (hr' : y.rangeAt g 0 vs) (hfz : ∀ q, y.frozen? q = x.frozen? q) : St T w (bs.set i (some (g, vs))) rs y := by
  obtain ⟨hw, hx, hr, hf⟩ := h.box i g cs hb
  refine ⟨h.up.trans (hc.below h.up.size fun k _ hk => by rw [hk]; exact hw), fun j g' ds hj => ?_, fun j q g' ds g'' ds' hj hq hne => ?_, h.rows.chg hc fun q r hq a ha => h.off i q g cs r a hb hq ha, fun j q g' ds r a hj hq ha => ?_⟩
  · rcases set_get hj with ⟨rfl, e⟩ | ⟨h1, hj⟩
    · injection e with e; injection e with e1 e2; subst e1; subst e2
      exact ⟨hw, Nat.lt_of_lt_of_le hx hc.size, hr', fun j => (hfz _).trans (hf j)⟩
    · obtain ⟨a1, a2, a3, a4⟩ := h.box j g' ds hj
      exact ⟨a1, Nat.lt_of_lt_of_le a2 hc.size, fun k v hk => hc.cell (a3 k v hk) (h.ne j i g' ds g cs hj hb h1), fun j => (hfz _).trans (a4 j)⟩
  · rcases set_get hj with ⟨rfl, e⟩ | ⟨h1, hj1⟩ <;> rcases set_get hq with ⟨rfl, e'⟩ | ⟨h2, hq1⟩
    · exact absurd rfl hne
    · injection e with e; injection e with e1 _; subst e1
      exact h.ne j q g cs g'' ds' hb hq1 hne
    · injection e' with e'; injection e' with e1 _; subst e1
      exact h.ne j q g' ds g cs hj1 hb hne
    · exact h.ne j q g' ds g'' ds' hj1 hq1 hne
  · rcases set_get hj with ⟨rfl, e⟩ | ⟨h1, hj⟩
    · injection e with e; injection e with e1 _; subst e1
      exact h.off _ q g cs r a hb hq ha
    · exact h.off j q g' ds r a hj hq ha
/-- One cell of a box is written. -/
theorem St.put1 (h : St T w bs rs x) (hb : bs[i]? = some (some (g, cs))) (j : Nat) (v : Value) : St T w (bs.set i (some (g, cs.set j v))) rs (x.setCells g j [v]) ∧ Chg (fun b => b = g) x (x.setCells g j [v]) := by
  have hc := setCells_chg g [v] j x
  obtain ⟨hw, hx, hr, hf⟩ := h.box i g cs hb
  refine ⟨h.write hb hc (fun k u hk => ?_) fun q => World.frozen?_setCells _ _ _ _ _, hc⟩
  show (x.setCell ⟨g, j, none⟩ v).cell? ⟨g, 0 + k, none⟩ = some u
  rw [Nat.zero_add]
  rw [List.getElem?_set] at hk
  by_cases e : j = k
  · subst e
    rw [if_pos rfl] at hk
    split at hk
    · rename_i hlt
      injection hk with hk; subst hk
      have := hr j _ (List.getElem?_eq_getElem hlt)
      rw [Nat.zero_add] at this
      exact World.cell?_setCell_same _ _ _ this
    · cases hk
  · rw [if_neg e] at hk
    rw [World.cell?_setCell_other _ _ _ _ (fun e' => by injection e' with _ e' _; exact e e')]
    have := hr k u hk
    rwa [Nat.zero_add] at this
end
section
variable {P : Program} {ops : Array Oper} {Q : Exit → Act → World → Prop}
theorem one_cells {v : Value} (h : v.oneCell' = true) : v.cells = #[v] := by cases v <;> first | rfl | simp_all [Value.oneCell']
theorem run_storeVar_one (w : World) (b o : Nat) (ty : TypeId) (v : Value) (hs : (w.cell? ⟨b, o, none⟩).isSome = true) (hf : w.frozen? ⟨b, o, none⟩ = false) (h1 : v.oneCell' = true) (hi : (P.info? ty).map (·.size) = some 1) :
    (storeVar ty ⟨b, o, none⟩ v).run P w = .ok () (w.setCells b o [v]) := by
  have := run_storeCells_cells (P := P) b o [v] 0 w (fun j hj => by
    obtain rfl : j = 0 := (by simpa using hj)
    simpa using hs) (fun j hj => by
    obtain rfl : j = 0 := (by simpa using hj)
    simpa using hf) (fun u hu => by
    obtain rfl : u = v := (by simpa using hu)
    exact h1)
  cases hq : P.info? ty with
  | none => simp [hq] at hi
  | some i =>
    have hs : i.size = 1 := by simpa [hq] using hi
    simp only [Nat.add_zero] at this
    simp [storeVar, sizeOf, typeInfo, hq, one_cells h1, hs, this]
theorem wpList_store_cell {rest : List Oper} {o : Oper} {a : Act} {W : World} (hgd : Region.wanted o (yielded ops a.tmps) = true) (ty : TypeId) (x y : Operand) (ho : o.op = .store ty x y) {T : TypeId} {w : World} {bs : List Bx1} {rs : RowL} (h : St T w bs rs W) (i : Nat) {g : Nat} {cs : List Value} (hb : bs[i]? = some (some (g, cs)))
    (j : Nat) (hx : a.eval x = .pointer (some ⟨g, j, none⟩)) (hj : j < cs.length) (v : Value) (hy : a.eval y = v) (ht : (P.info? ty).map (·.size) = some 1) (h1 : v.oneCell' = true)
    (hK : ∀ W', St T w (bs.set i (some (g, cs.set j v))) rs W' → Chg (fun b => b = g) W W' → wpList P ops Q rest (a.put o.dst undef) W') : wpList P ops Q (o :: rest) a W := by
  refine BigFrame.wpList_want hgd fun _ hk => ?_
  have hp := h.put1 hb j v
  unfold Oper.wp execOp
  have hs : (W.cell? ⟨g, j, none⟩).isSome = true := by
    rw [h.cell hb (List.getElem?_eq_getElem hj)]; rfl
  simp only [ho, hx, hy, Instr.storeAt, Instr.sureAddr, Sem.run_bind, Sem.run_pure, Result.andThen_ok, run_storeVar_one W g j ty v hs (h.fz hb j) h1 ht]
  exact hk _ _ (hK _ hp.1 hp.2)
end
end Go.Proofs.YtbcljgcilbfblaaDoor

namespace Go.Proofs.YtbcljgcilbfblaaDoor
open Go.RowKit

section
variable {P : Program} {Q : Exit → Act → World → Prop} {T : TypeId} {w : World} {bs : List Bx1} {rs : RowL}
/-- What holds of one part. bx: is it a box? -/
structure PartG (p : Parts) (bx : Bool) (n : Nat) (av : Value) (Pst : Value → RowL → Prop) (j : Nat) (D : Nat → Bool) (v : Nat → Value) (b : Bx1) (R : RowL) : Prop where
  load : D (p.L j) = true → v (p.s j) = av
  no : D (p.C j) = false → R = []
  call : D (p.C j) = true → Pst (v (p.u j)) R
  nob : bx = true → D (p.A j) = false → b = none
  nob0 : bx = false → b = none
  box : bx = true → D (p.A j) = true → ∃ g cs, v (p.t j) = .pointer (some ⟨g, 0, none⟩) ∧ b = some (g, cs) ∧ cs.length = n ∧ (D (p.X j) = true → v (p.u j) = .agg cs.toArray)
  asg : bx = false → D (p.X j) = true → v (p.t j) = v (p.u j)
theorem PartG.other {p : Parts} {bx : Bool} {n : Nat} {av : Value} {Pst : Value → RowL → Prop} {j : Nat} {D D' : Nat → Bool} {v v' : Nat → Value} {b : Bx1} {R : RowL} (h : PartG p bx n av Pst j D v b R)
    (hD : D' (p.L j) = D (p.L j) ∧ D' (p.C j) = D (p.C j) ∧ D' (p.A j) = D (p.A j) ∧ D' (p.X j) = D (p.X j)) (hv : v' (p.s j) = v (p.s j) ∧ v' (p.u j) = v (p.u j) ∧ v' (p.t j) = v (p.t j)) : PartG p bx n av Pst j D' v' b R := by
  obtain ⟨d1, d2, d3, d4⟩ := hD
  obtain ⟨v1, v2, v3⟩ := hv
  refine ⟨fun e => ?_, fun e => ?_, fun e => ?_, fun hb e => ?_, h.nob0, fun hb e => ?_, fun hb e => ?_⟩
  · rw [v1]; exact h.load (d1 ▸ e)
  · exact h.no (d2 ▸ e)
  · rw [v2]; exact h.call (d2 ▸ e)
  · exact h.nob hb (d3 ▸ e)
  · rw [v2, v3, d4]; exact h.box hb (d3 ▸ e)
  · rw [v2, v3]; exact h.asg hb (d4 ▸ e)
def PartRG (p : Parts) (bx : Nat → Bool) (T : TypeId) (w : World) (bs : List Bx1) (rs : RowL) (n : Nat) (av : Nat → Value) (Pst : Nat → Value → RowL → Prop) (D : Nat → Bool) (v : Nat → Value) (x : World) : Prop :=
  ∃ (b : Nat → Bx1) (R : Nat → RowL), St T w (bs ++ Boxes1 b p.k) (rs ++ Rows1 R p.k) x ∧ ∀ j, j < p.k → PartG p (bx j) n (av j) (Pst j) j D v (b j) (R j)
variable {p : Parts} {bx : Nat → Bool} {n m : Nat} {av : Nat → Value} {Pst : Nat → Value → RowL → Prop} {l : List Oper} {f0 : Act} {o : Oper} {j : Nat}
/-- The others stay. -/
theorem othersG {D : Nat → Bool} {a : Act} {b : Nat → Bx1} {R : Nat → RowL} (hok : p.ok m = true) (hj : j < p.k) (h : ∀ i, i < p.k → PartG p (bx i) n (av i) (Pst i) i D (fun q => a.eval (.tmp q)) (b i) (R i)) {c d : Nat} {x : Value}
    (hc : c ∈ [p.L j, p.C j, p.A j, p.X j]) (hd : d = p.s j ∨ d = p.u j ∨ d = p.t j) {i : Nat} (hi : i < p.k) (hne : i ≠ j) : PartG p (bx i) n (av i) (Pst i) i (fun q => q == c || D q) (fun q => (a.put (some d) x).eval (.tmp q)) (b i) (R i) := by
  have h1 := oper_ne hok hi hj hne
  obtain ⟨n1, n2, n3, n4, n5, n6, n7, n8, n9⟩ := slot_ne hok hi hj hne
  refine (h i hi).other ⟨done_other (h1 _ (by simp) c hc), done_other (h1 _ (by simp) c hc), done_other (h1 _ (by simp) c hc), done_other (h1 _ (by simp) c hc)⟩ ?_
  rcases hd with rfl | rfl | rfl
  · exact ⟨put_other n1.symm x, put_other n4.symm x, put_other n7.symm x⟩
  · exact ⟨put_other n2.symm x, put_other n5.symm x, put_other n8.symm x⟩
  · exact ⟨put_other n3.symm x, put_other n6.symm x, put_other n9.symm x⟩
theorem partG_load {ty : TypeId} {q i g : Nat} {cs : List Value} (hok : p.ok f0.tmps.size = true) (hj : j < p.k) (ho : o.op = .load ty (.tmp q)) (hd : o.dst = some (p.s j)) (hq : q ∉ p.slots) (he : f0.eval (.tmp q) = .pointer (some ⟨g, 0, none⟩)) (hb : bs[i]? = some (some (g, cs))) (ht : RowTy P ty cs.length) (ha : av j = .agg cs.toArray) :
    RegStep P Q l p.slots f0 (PartRG p bx T w bs rs n av Pst) (p.L j) o := by
  intro D a x hcl hs ⟨b, R, hst, hp⟩ hD hpre
  obtain ⟨⟨o1, o2, o3⟩, ⟨e1, e2, e3, e4, e5, e6⟩, ⟨m1, m2, m3⟩⟩ := own_ne hok hj
  refine wp_load_row7 ho ((hs.eval hq).trans he) (hst.range (i := i) (by rw [List.getElem?_append_left (List.getElem?_eq_some_iff.1 hb).1]; exact hb)) ht ?_
  rw [hd]
  refine ⟨hs.put (slot_in hj).1 _, b, R, hst, fun i hi => ?_⟩
  by_cases e : i = j
  · subst e
    have h := hp i hi
    refine ⟨fun _ => (put_same (by rw [hs.size]; exact m1) _).trans ha.symm, fun e => h.no (by rwa [done_other e1.symm] at e), fun e => ?_, fun hb e => h.nob hb (by rwa [done_other e2.symm] at e), h.nob0, fun hb e => ?_, fun hb e => ?_⟩
    · rw [put_other o1]; exact h.call (by rwa [done_other e1.symm] at e)
    · rw [put_other o1, put_other o2, done_other e3.symm]; exact h.box hb (by rwa [done_other e2.symm] at e)
    · rw [put_other o1, put_other o2]; exact h.asg hb (by rwa [done_other e3.symm] at e)
  · exact othersG hok hj hp (by simp) (.inl rfl) hi e
theorem partG_move {q : Nat} (hok : p.ok f0.tmps.size = true) (hj : j < p.k) (ho : o.op = .move (.tmp q)) (hd : o.dst = some (p.s j)) (hq : q ∉ p.slots) (he : f0.eval (.tmp q) = av j) :
    RegStep P Q l p.slots f0 (PartRG p bx T w bs rs n av Pst) (p.L j) o := by
  intro D a x hcl hs ⟨b, R, hst, hp⟩ hD hpre
  obtain ⟨⟨o1, o2, o3⟩, ⟨e1, e2, e3, e4, e5, e6⟩, ⟨m1, m2, m3⟩⟩ := own_ne hok hj
  have hrun : (execOp a.eval o).run P x = .ok (.value (av j)) x := by
    unfold execOp
    simp only [ho, Sem.run_pure]
    rw [hs.eval hq, he]
  unfold Oper.wp
  rw [hrun, Oper.upon_value, hd]
  refine ⟨hs.put (slot_in hj).1 _, b, R, hst, fun i hi => ?_⟩
  by_cases e : i = j
  · subst e
    have h := hp i hi
    refine ⟨fun _ => put_same (by rw [hs.size]; exact m1) _, fun e => h.no (by rwa [done_other e1.symm] at e), fun e => ?_, fun hb e => h.nob hb (by rwa [done_other e2.symm] at e), h.nob0, fun hb e => ?_, fun hb e => ?_⟩
    · rw [put_other o1]; exact h.call (by rwa [done_other e1.symm] at e)
    · rw [put_other o1, put_other o2, done_other e3.symm]; exact h.box hb (by rwa [done_other e2.symm] at e)
    · rw [put_other o1, put_other o2]; exact h.asg hb (by rwa [done_other e3.symm] at e)
  · exact othersG hok hj hp (by simp) (.inl rfl) hi e
theorem partG_call {f : FuncId} {xs : List Operand} {vals : List Value} {ats : Array TypeId} (hok : p.ok f0.tmps.size = true) (hj : j < p.k) (ho : o.op = .call { callee := .value (.func f), args := (Operand.tmp (p.s j) :: xs).toArray, argTypes := ats }) (hxs : ∀ a : Act, xs.map a.eval = vals) (hd : o.dst = some (p.u j)) (hf : GoFn P f)
    (hL : edgeB o (p.L j) = true) (hch : chainB l p.C p.k = true) (hX : ∃ ox, l[p.X j]? = some ox ∧ edgeB ox (p.C j) = true)
    (hc : ∀ x, Below w.heap.size w x → Calls P f (av j :: vals).toArray x fun e y => ∃ v R, e = .returned v ∧ Pst j v R ∧ RowsB T x.heap.size y R ∧ Below x.heap.size x y) :
    RegStep P Q l p.slots f0 (PartRG p bx T w bs rs n av Pst) (p.C j) o := by
  intro D a x hcl hs ⟨b, R, hst, hp⟩ hD hpre
  obtain ⟨⟨o1, o2, o3⟩, ⟨e1, e2, e3, e4, e5, e6⟩, ⟨m1, m2, m3⟩⟩ := own_ne hok hj
  have hl := (hp j hj).load (edge_on hL hpre)
  refine wp_call_go ho hf (av j :: vals).toArray (by rw [List.map_toArray, List.map_cons, hxs a, show a.eval (.tmp (p.s j)) = _ from hl]) ((hc x hst.up).mono fun e y ⟨v, R', he, hP, hR, hB⟩ => ⟨v, he, ?_⟩)
  rw [hd]
  have hno := chain_down hch hcl hD
  have hXf : D (p.X j) = false := by
    obtain ⟨ox, hox, hoe⟩ := hX
    cases h : D (p.X j) with
    | false => rfl
    | true => have := edge_on hoe (hcl _ _ hox h); rw [hD] at this; cases this
  refine ⟨hs.put (slot_in hj).2.1 _, b, upd R j R', ?_, fun i hi => ?_⟩
  · rw [rows_upd hj fun i h1 h2 => (hp i h2).no (hno i h1 h2), ← List.append_assoc]
    exact hst.app hB hR
  · by_cases e : i = j
    · subst e
      have h := hp i hi
      rw [upd_same]
      refine ⟨fun e => ?_, fun e => ?_, fun _ => ?_, fun hb e => h.nob hb (by rwa [done_other e4.symm] at e), h.nob0, fun hb e => ?_, fun hb e => ?_⟩
      · rw [put_other o1.symm]; exact h.load (by rwa [done_other e1] at e)
      · rw [done_same] at e; cases e
      · rw [put_same (by rw [hs.size]; exact m2)]; exact hP
      · obtain ⟨g, cs, h1, h2, h3, h4⟩ := h.box hb (by rwa [done_other e4.symm] at e)
        refine ⟨g, cs, by rw [put_other o3]; exact h1, h2, h3, fun e => ?_⟩
        rw [done_other e5.symm, hXf] at e; cases e
      · rw [done_other e5.symm, hXf] at e; cases e
    · rw [upd_other e]
      exact othersG hok hj hp (by simp) (.inr (.inl rfl)) hi e
theorem partG_alloc {ty : TypeId} {cs : List Value} (hok : p.ok f0.tmps.size = true) (hj : j < p.k) (hbx : bx j = true) (ho : o.op = .alloc ty) (hd : o.dst = some (p.t j)) (hz : (P.info? ty).bind (·.zero) = some (.agg cs.toArray)) (hn : cs.length = n)
    (hX : ∃ ox, l[p.X j]? = some ox ∧ edgeB ox (p.A j) = true) : RegStep P Q l p.slots f0 (PartRG p bx T w bs rs n av Pst) (p.A j) o := by
  intro D a x hcl hs ⟨b, R, hst, hp⟩ hD hpre
  obtain ⟨⟨o1, o2, o3⟩, ⟨e1, e2, e3, e4, e5, e6⟩, ⟨m1, m2, m3⟩⟩ := own_ne hok hj
  refine wp_alloc_row ho hz ?_
  rw [hd]
  have hXf : D (p.X j) = false := by
    obtain ⟨ox, hox, hoe⟩ := hX
    cases h : D (p.X j) with
    | false => rfl
    | true => have := edge_on hoe (hcl _ _ hox h); rw [hD] at this; cases this
  refine ⟨hs.put (slot_in hj).2.2 _, upd b j (some (x.heap.size, cs)), R, ?_, fun i hi => ?_⟩
  · have h := hst.fill (t := ty) (bs.length + j) cs (by rw [boxes_at hj, (hp j hj).nob hbx hD])
    rw [boxes_upd]
    rw [List.set_append_right _ _ (by omega), show bs.length + j - bs.length = j from by omega] at h
    exact h
  · by_cases e : i = j
    · subst e
      have h := hp i hi
      rw [upd_same]
      refine ⟨fun e => ?_, fun e => h.no (by rwa [done_other e4] at e), fun e => ?_, fun hb e => ?_, fun hb => absurd (hbx.symm.trans hb) (by simp), fun _ _ => ⟨_, cs, put_same (by rw [hs.size]; exact m3) _, rfl, hn, fun e => ?_⟩, fun hb => absurd (hbx.symm.trans hb) (by simp)⟩
      · rw [put_other o2.symm]; exact h.load (by rwa [done_other e2] at e)
      · rw [put_other o3.symm]; exact h.call (by rwa [done_other e4] at e)
      · rw [done_same] at e; cases e
      · rw [done_other e6.symm, hXf] at e; cases e
    · rw [upd_other e]
      exact othersG hok hj hp (by simp) (.inr (.inr rfl)) hi e
theorem partG_store {ty : TypeId} (hok : p.ok f0.tmps.size = true) (hj : j < p.k) (hbx : bx j = true) (ho : o.op = .store ty (.tmp (p.t j)) (.tmp (p.u j))) (hd : o.dst = none) (hA : edgeB o (p.A j) = true) (hC : edgeB o (p.C j) = true)
    (hP : ∀ v R, Pst j v R → ∃ cs : List Value, v = .agg cs.toArray ∧ cs.length = n ∧ ∀ u ∈ cs, u.oneCell' = true) (ht : (P.info? ty).map (·.size) = some n) : RegStep P Q l p.slots f0 (PartRG p bx T w bs rs n av Pst) (p.X j) o := by
  intro D a x hcl hs ⟨b, R, hst, hp⟩ hD hpre
  obtain ⟨⟨o1, o2, o3⟩, ⟨e1, e2, e3, e4, e5, e6⟩, ⟨m1, m2, m3⟩⟩ := own_ne hok hj
  obtain ⟨g, cs, h1, h2, h3, _⟩ := (hp j hj).box hbx (edge_on hA hpre)
  have hc := (hp j hj).call (edge_on hC hpre)
  obtain ⟨vs, k1, k2, k3⟩ := hP _ _ hc
  have hb : (bs ++ Boxes1 b p.k)[bs.length + j]? = some (some (g, cs)) := by rw [boxes_at hj, h2]
  refine wp_store_row ho h1 k1 (hst.range hb) (hst.fz hb) (by rw [k2, h3]) (by rw [k2]; exact ht) k3 ?_
  rw [hd]
  refine ⟨hs, upd b j (some (g, vs)), R, ?_, fun i hi => ?_⟩
  · have h := (hst.put (vs := vs) hb (by rw [k2, h3])).1
    rw [boxes_upd]
    rw [List.set_append_right _ _ (by omega), show bs.length + j - bs.length = j from by omega] at h
    exact h
  · by_cases e : i = j
    · subst e
      have h := hp i hi
      rw [upd_same]
      refine ⟨fun e => h.load (by rwa [done_other e3] at e), fun e => h.no (by rwa [done_other e5] at e), fun e => h.call (by rwa [done_other e5] at e), fun hb e => ?_, fun hb => absurd (hbx.symm.trans hb) (by simp), fun _ e => ⟨g, vs, h1, rfl, k2, fun _ => k1⟩, fun hb => absurd (hbx.symm.trans hb) (by simp)⟩
      rw [done_other e6, edge_on hA hpre] at e; cases e
    · rw [upd_other e]
      have q := oper_ne hok hi hj e
      exact (hp i hi).other ⟨done_other (q _ (by simp) _ (by simp)), done_other (q _ (by simp) _ (by simp)), done_other (q _ (by simp) _ (by simp)), done_other (q _ (by simp) _ (by simp))⟩ ⟨rfl, rfl, rfl⟩
/-- No box: the answer is moved into its variable. -/
theorem partG_asg (hok : p.ok f0.tmps.size = true) (hj : j < p.k) (hbx : bx j = false) (ho : o.op = .assign (.tmp (p.u j))) (hd : o.dst = some (p.t j)) : RegStep P Q l p.slots f0 (PartRG p bx T w bs rs n av Pst) (p.X j) o := by
  intro D a x hcl hs ⟨b, R, hst, hp⟩ hD hpre
  obtain ⟨⟨o1, o2, o3⟩, ⟨e1, e2, e3, e4, e5, e6⟩, ⟨m1, m2, m3⟩⟩ := own_ne hok hj
  have hrun : (execOp a.eval o).run P x = .ok (.value (a.eval (.tmp (p.u j)))) x := by
    unfold execOp
    simp only [ho, Sem.run_pure]
  unfold Oper.wp
  rw [hrun, Oper.upon_value, hd]
  refine ⟨hs.put (slot_in hj).2.2 _, b, R, hst, fun i hi => ?_⟩
  by_cases e : i = j
  · subst e
    have h := hp i hi
    refine ⟨fun e => ?_, fun e => h.no (by rwa [done_other e5] at e), fun e => ?_, fun hb => absurd (hbx.symm.trans hb) (by simp), h.nob0, fun hb => absurd (hbx.symm.trans hb) (by simp), fun _ _ => ?_⟩
    · rw [put_other o2.symm]; exact h.load (by rwa [done_other e3] at e)
    · rw [put_other o3.symm]; exact h.call (by rwa [done_other e5] at e)
    · rw [put_same (by rw [hs.size]; exact m3), put_other o3.symm]
  · exact othersG hok hj hp (by simp) (.inr (.inr rfl)) hi e
theorem partRG_start {v : Nat → Value} {x : World} (h : St T w bs rs x) : PartRG p bx T w bs rs n av Pst (fun _ => false) v x := by
  refine ⟨fun _ => none, fun _ => [], ?_, fun j _ => ⟨(fun e => nomatch e), fun _ => rfl, (fun e => nomatch e), fun _ _ => rfl, fun _ => rfl, (fun _ e => nomatch e), (fun _ e => nomatch e)⟩⟩
  have e1 : Rows1 (fun _ => []) p.k = [] := by unfold Rows1; simp
  have e2 : ∀ k, St T w (bs ++ Boxes1 (fun _ => none) k) rs x := by
    intro k
    induction k with
    | zero => simpa [Boxes1] using h
    | succ k ih =>
      have := ih.more
      simpa [Boxes1, List.range_succ] using this
  rw [e1, List.append_nil]
  exact e2 p.k
/-- Places that were kept free and stayed so are struck. -/
theorem St.cut {bs' : List Bx1} {x : World} (h : St T w (bs ++ bs') rs x) : St T w bs rs x :=
  ⟨h.up, fun i g cs hb => h.box i g cs (by rw [List.getElem?_append_left (List.getElem?_eq_some_iff.1 hb).1]; exact hb), fun i j g cs g' ds h1 h2 => h.ne i j g cs g' ds (by rw [List.getElem?_append_left (List.getElem?_eq_some_iff.1 h1).1]; exact h1) (by rw [List.getElem?_append_left (List.getElem?_eq_some_iff.1 h2).1]; exact h2), h.rows, fun i j g cs r a hb => h.off i j g cs r a (by rw [List.getElem?_append_left (List.getElem?_eq_some_iff.1 hb).1]; exact hb)⟩
theorem wpList_load_cell {ops : Array Oper} {rest : List Oper} {o : Oper} {a : Act} {W : World} (hgd : Region.wanted o (yielded ops a.tmps) = true) (ty : TypeId) (x : Operand) (ho : o.op = .load ty x) {g k : Nat} {v : Value} (hx : a.eval x = .pointer (some ⟨g, k, none⟩)) (hr : W.cell? ⟨g, k, none⟩ = some v) (ha : ∀ w, (isAgg ty).run P w = .ok false w)
    (hK : wpList P ops Q rest (a.put o.dst v) W) : wpList P ops Q (o :: rest) a W := by
  refine BigFrame.wpList_want hgd fun _ hk => ?_
  have hrun : (execOp a.eval o).run P W = .ok (.value v) W := by
    unfold execOp
    simp only [ho, hx, Instr.loadAt, Instr.sureAddr, loadVar, Sem.run_bind, Sem.run_pure, Result.andThen_ok, ha W, Bool.false_eq_true, if_false]
    simp [go_sem, hr]
  unfold Oper.wp
  rw [hrun, Oper.upon_value]
  exact hk _ _ hK
end
end Go.Proofs.YtbcljgcilbfblaaDoor

namespace Go.Proofs.YtbcljgcilbfblaaDoor
open Go.RowKit

section
variable {P : Program} {Q : Exit → Act → World → Prop} {S : World → Prop} {l : List Oper} {fuel : Nat} {listed : Array Bool} {a : Act} {w : World} {i : Nat} {o : Oper} {v : Value}
theorem yi_rowO {ty : TypeId} {x : Operand} (hw : Region.wanted o (yielded l.toArray a.tmps) = true) (ho : o.op = .load ty x) {g k : Nat} {cs : List Value} (hx : a.eval x = .pointer (some ⟨g, k, none⟩)) (hr : ∀ w, S w → w.rangeAt g k cs) (ht : RowTy P ty cs.length) :
    YieldsIf P l.toArray S o (.agg cs.toArray) a := by
  obtain ⟨⟨d, hu, hd⟩, hi⟩ := ht
  refine .inl ⟨hw, fun w hS => ?_⟩
  unfold execOp
  simp only [ho, hx, Instr.loadAt, Instr.sureAddr, Sem.run_bind, Sem.run_pure, Result.andThen_ok, run_loadVar_mid w g k ty cs d (hr w hS) hu hd hi]
/-- A whole box is written, the only operation that may come up. -/
theorem lx_store (i : Nat) {o : Oper} {ty : TypeId} {x y : Operand} (hi : l[i]? = some o) (hr : Region.ready .any l.toArray listed = [i]) (hw : Region.wanted o (yielded l.toArray a.tmps) = true)
    (ho : o.op = .store ty x y) {T : TypeId} {z : World} {bs : List Bx1} {rs : RowL} (h : St T z bs rs w) (j : Nat) {g : Nat} {cs : List Value} (hb : bs[j]? = some (some (g, cs))) (hx : a.eval x = .pointer (some ⟨g, 0, none⟩)) (vs : List Value) (hy : a.eval y = .agg vs.toArray)
    (hl : vs.length = cs.length) (ht : (P.info? ty).map (·.size) = some vs.length) (h1 : ∀ u ∈ vs, u.oneCell' = true)
    (hK : ∀ w', St T z (bs.set j (some (g, vs))) rs w' → Chg (fun b => b = g) w w' → S w' ∧ wpAnyH P .any l.toArray Q S fuel (listed.setIfInBounds i true) (a.put o.dst undef) w') : wpAnyH P .any l.toArray Q S (fuel + 1) listed a w := by
  refine wpAnyH_all hr (by simp) fun q hq => ?_
  obtain rfl : q = i := by simpa using hq
  unfold wpOp
  rw [lx_at hi]
  simp only [hw, if_true]
  have hp := h.put (vs := vs) hb hl
  exact .inl (wp_store_row ho hx hy (h.range hb) (h.fz hb) hl ht h1 (hK _ hp.1 hp.2))
end
section
variable {T : TypeId} {w x : World} {bs bs' : List Bx1} {rs rs' : RowL}
theorem St.cutRows (h : St T w bs (rs ++ rs') x) : St T w bs rs x :=
  ⟨h.up, h.box, h.ne, rows_pre h.rows, fun i j g cs r a hb hr => h.off i j g cs r a hb (by rw [List.getElem?_append_left (List.getElem?_eq_some_iff.1 hr).1]; exact hr)⟩
end
section
variable {P : Program} {Q : Exit → Act → World → Prop} {T : TypeId} {w : World} {bs : List Bx1} {rs : RowL} {p : Parts} {bx : Nat → Bool} {n : Nat} {av : Nat → Value} {Pst : Nat → Value → RowL → Prop} {l : List Oper} {f0 : Act} {o : Oper} {j : Nat}
theorem partG_callS {f : FuncId} {xs : List Operand} {vals : List Value} {ats : Array TypeId} (hok : p.ok f0.tmps.size = true) (hj : j < p.k) (ho : o.op = .call { callee := .value (.func f), args := (Operand.tmp (p.s j) :: xs).toArray, argTypes := ats }) (hxs : ∀ a : Act, xs.map a.eval = vals) (hd : o.dst = some (p.u j)) (hf : GoFn P f)
    (hL : edgeB o (p.L j) = true) (hch : chainB l p.C p.k = true) (hX : ∃ ox, l[p.X j]? = some ox ∧ edgeB ox (p.C j) = true)
    (hc : ∀ x bs' rs', St T w (bs ++ bs') (rs ++ rs') x → Calls P f (av j :: vals).toArray x fun e y => ∃ v R, e = .returned v ∧ Pst j v R ∧ RowsB T x.heap.size y R ∧ Below x.heap.size x y) :
    RegStep P Q l p.slots f0 (PartRG p bx T w bs rs n av Pst) (p.C j) o := by
  intro D a x hcl hs ⟨b, R, hst, hp⟩ hD hpre
  obtain ⟨⟨o1, o2, o3⟩, ⟨e1, e2, e3, e4, e5, e6⟩, ⟨m1, m2, m3⟩⟩ := own_ne hok hj
  have hl := (hp j hj).load (edge_on hL hpre)
  refine wp_call_go ho hf (av j :: vals).toArray (by rw [List.map_toArray, List.map_cons, hxs a, show a.eval (.tmp (p.s j)) = _ from hl]) ((hc x _ _ hst).mono fun e y ⟨v, R', he, hP, hR, hB⟩ => ⟨v, he, ?_⟩)
  rw [hd]
  have hno := chain_down hch hcl hD
  have hXf : D (p.X j) = false := by
    obtain ⟨ox, hox, hoe⟩ := hX
    cases h : D (p.X j) with
    | false => rfl
    | true => have := edge_on hoe (hcl _ _ hox h); rw [hD] at this; cases this
  refine ⟨hs.put (slot_in hj).2.1 _, b, upd R j R', ?_, fun i hi => ?_⟩
  · rw [rows_upd hj fun i h1 h2 => (hp i h2).no (hno i h1 h2), ← List.append_assoc]
    exact hst.app hB hR
  · by_cases e : i = j
    · subst e
      have h := hp i hi
      rw [upd_same]
      refine ⟨fun e => ?_, fun e => ?_, fun _ => ?_, fun hb e => h.nob hb (by rwa [done_other e4.symm] at e), h.nob0, fun hb e => ?_, fun hb e => ?_⟩
      · rw [put_other o1.symm]; exact h.load (by rwa [done_other e1] at e)
      · rw [done_same] at e; cases e
      · rw [put_same (by rw [hs.size]; exact m2)]; exact hP
      · obtain ⟨g, cs, h1, h2, h3, h4⟩ := h.box hb (by rwa [done_other e4.symm] at e)
        refine ⟨g, cs, by rw [put_other o3]; exact h1, h2, h3, fun e => ?_⟩
        rw [done_other e5.symm, hXf] at e; cases e
      · rw [done_other e5.symm, hXf] at e; cases e
    · rw [upd_other e]
      exact othersG hok hj hp (by simp) (.inr (.inl rfl)) hi e
end
section
variable {p : Parts} {n : Nat} {av : Value} {Pst : Value → RowL → Prop} {j : Nat} {D : Nat → Bool} {v : Nat → Value} {b : Bx1} {R : RowL}
theorem PartG.end0 (h : PartG p false n av Pst j D v b R) (hC : D (p.C j) = true) (hX : D (p.X j) = true) : b = none ∧ Pst (v (p.t j)) R := ⟨h.nob0 rfl, by rw [h.asg rfl hX]; exact h.call hC⟩
theorem PartG.end1 (h : PartG p true n av Pst j D v b R) (hC : D (p.C j) = true) (hA : D (p.A j) = true) (hX : D (p.X j) = true) : ∃ g cs, v (p.t j) = .pointer (some ⟨g, 0, none⟩) ∧ b = some (g, cs) ∧ Pst (.agg cs.toArray) R := by
  obtain ⟨g, cs, h1, h2, _, h4⟩ := h.box rfl hA
  exact ⟨g, cs, h1, h2, by rw [← h4 hX]; exact h.call hC⟩
end
end Go.Proofs.YtbcljgcilbfblaaDoor

namespace Go.Proofs.YtbcljgcilbfblaaDoor
open Go.RowKit

/-- A thing of the call's own: a box (its address, its cells), or a row (its element type, the cells that an element has, its slice, its length, its cells). -/
structure Ob where
  bx : Bool
  ty : TypeId
  sz : Nat
  v : Value
  n : Nat
  cs : List Value
  raw : Option (Obj → Prop)
def boxO (g : Nat) (cs : List Value) : Ob := ⟨true, 0, 0, .pointer (some ⟨g, 0, none⟩), 0, cs, none⟩
def rowO (T : TypeId) (sz : Nat) (v : Value) (n : Nat) (cs : List Value) : Ob := ⟨false, T, sz, v, n, cs, none⟩
def bytO (T : TypeId) (r : Option Addr × Nat × List UInt8) : Ob := ⟨false, T, 1, .slice r.1 r.2.2.length r.2.1, r.2.2.length, u8s r.2.2, none⟩
/-- A place that is free. -/
def nilO : Ob := ⟨false, 0, 1, .slice none 0 0, 0, [], none⟩
/-- A block of which this is known. -/
def phiO (k : Nat) (φ : Obj → Prop) : Ob := ⟨true, 0, 0, .pointer (some ⟨k, 0, none⟩), 0, [], some φ⟩
/-- A block that lies as it lay. -/
def rawO (k : Nat) (r : Obj) : Ob := phiO k fun o => o = r
def vBlock : Value → Option Nat
  | .pointer (some a) => some a.block
  | .slice (some a) _ _ => some a.block
  | _ => none
def Ob.blk (o : Ob) : Option Nat := vBlock o.v
def Ob.at0 (B : Nat) (x : World) (o : Ob) : Prop :=
  (o.bx = true → ∃ g, o.v = .pointer (some ⟨g, 0, none⟩) ∧ B ≤ g ∧ g < x.heap.size ∧ x.rangeAt g 0 o.cs ∧ ∀ j, x.frozen? ⟨g, j, none⟩ = false) ∧
  (o.bx = false → x.ownsRow B o.ty o.sz o.v o.n o.cs)
def Ob.at_ (B : Nat) (x : World) (o : Ob) : Prop := match o.raw with
  | some φ => ∃ k r, o.v = .pointer (some ⟨k, 0, none⟩) ∧ B ≤ k ∧ x.heap[k]? = some r ∧ φ r
  | none => o.at0 B x
def Ap (o p : Ob) : Prop := ∀ b, o.blk = some b → p.blk ≠ some b
structure OW (w : World) (os : List Ob) (x : World) : Prop where
  up : Below w.heap.size w x
  ob : ∀ o, o ∈ os → o.at_ w.heap.size x
  ne : os.Pairwise Ap

section
variable {w x y : World} {os os' ps : List Ob} {o p : Ob} {B g i j n sz c : Nat} {T : TypeId} {v : Value} {cs vs news : List Value} {S : Nat → Prop} {A : Option Addr} {l : List UInt8}
theorem own_vblock {e : TypeId} (h : w.ownsRow B e sz v n cs) : vBlock v = v.ownBlock := by
  rcases h.2 with ⟨rfl, _⟩ | ⟨g, cap, cur, rfl, _⟩ <;> rfl
theorem own_rebase {B' : Nat} (h : w.ownsRow B T sz v n cs) (hb : B' ≤ B) : w.ownsRow B' T sz v n cs := by
  refine ⟨h.1, ?_⟩
  rcases h.2 with h | ⟨g, cap, cur, hv, hg, hr⟩
  · exact .inl h
  · exact .inr ⟨g, cap, cur, hv, Nat.le_trans hb hg, hr⟩
theorem Ap.symm (h : Ap o p) : Ap p o := fun b hb e => h b e hb
theorem Ob.at0.lt {b : Nat} (h : o.at0 B x) (hb : o.blk = some b) : B ≤ b ∧ b < x.heap.size := by
  cases hq : o.bx with
  | true =>
    obtain ⟨g, h1, h2, h3, _⟩ := h.1 hq
    unfold Ob.blk at hb; rw [h1] at hb; injection hb with hb; subst hb; exact ⟨h2, h3⟩
  | false =>
    have h1 := h.2 hq
    unfold Ob.blk at hb; rw [own_vblock h1] at hb; exact World.ownsRow.lt h1 b hb
theorem Ob.at0.chg (h : o.at0 B x) (hc : Chg S x y) (hn : ∀ b, o.blk = some b → ¬ S b) : o.at0 B y := by
  refine ⟨fun hq => ?_, fun hq => ?_⟩
  · obtain ⟨g, h1, h2, h3, h4, h5⟩ := h.1 hq
    have hg : ¬ S g := hn g (by unfold Ob.blk; rw [h1]; rfl)
    exact ⟨g, h1, h2, Nat.lt_of_lt_of_le h3 hc.size, fun j v hv => hc.cell (h4 j v hv) hg, fun j => (World.frozen?_of_block (hc.block g h3 hg)).trans (h5 j)⟩
  · exact own_chg (h.2 hq) hc fun g hg => hn g (by unfold Ob.blk; rw [own_vblock (h.2 hq)]; exact hg)
theorem Ob.at0.mono {B' : Nat} (h : o.at0 B x) (hb : B' ≤ B) : o.at0 B' x :=
  ⟨fun hq => by
    obtain ⟨g, h1, h2, h3⟩ := h.1 hq
    exact ⟨g, h1, Nat.le_trans hb h2, h3⟩, fun hq => own_rebase (h.2 hq) hb⟩
theorem Ob.at_.some_ {φ : Obj → Prop} (h : o.at_ B x) (hr : o.raw = some φ) : ∃ k r, o.v = .pointer (some ⟨k, 0, none⟩) ∧ B ≤ k ∧ x.heap[k]? = some r ∧ φ r := by
  unfold Ob.at_ at h; rw [hr] at h; exact h
theorem Ob.at_.none_ (h : o.at_ B x) (hr : o.raw = none) : o.at0 B x := by
  unfold Ob.at_ at h; rw [hr] at h; exact h
theorem Ob.at_mk0 (hr : o.raw = none) (h : o.at0 B x) : o.at_ B x := by
  unfold Ob.at_; rw [hr]; exact h
theorem Ob.at_mkr {φ : Obj → Prop} (hr : o.raw = some φ) (h : ∃ k r, o.v = .pointer (some ⟨k, 0, none⟩) ∧ B ≤ k ∧ x.heap[k]? = some r ∧ φ r) : o.at_ B x := by
  unfold Ob.at_; rw [hr]; exact h
theorem Ob.at_.lt {b : Nat} (h : o.at_ B x) (hb : o.blk = some b) : B ≤ b ∧ b < x.heap.size := by
  cases hr : o.raw with
  | none => exact (h.none_ hr).lt hb
  | some φ =>
    obtain ⟨k, r, h1, h2, h3, _⟩ := h.some_ hr
    unfold Ob.blk at hb; rw [h1] at hb; injection hb with hb; subst hb
    exact ⟨h2, (Array.getElem?_eq_some_iff.1 h3).1⟩
theorem Ob.at_.chg (h : o.at_ B x) (hc : Chg S x y) (hn : ∀ b, o.blk = some b → ¬ S b) : o.at_ B y := by
  cases hr : o.raw with
  | none => exact Ob.at_mk0 hr ((h.none_ hr).chg hc hn)
  | some φ =>
    obtain ⟨k, r, h1, h2, h3, h4⟩ := h.some_ hr
    exact Ob.at_mkr hr ⟨k, r, h1, h2, (hc.block k (Array.getElem?_eq_some_iff.1 h3).1 (hn k (by unfold Ob.blk; rw [h1]; rfl))).trans h3, h4⟩
theorem Ob.at_.mono {B' : Nat} (h : o.at_ B x) (hb : B' ≤ B) : o.at_ B' x := by
  cases hr : o.raw with
  | none => exact Ob.at_mk0 hr ((h.none_ hr).mono hb)
  | some φ =>
    obtain ⟨k, r, h1, h2, h3⟩ := h.some_ hr
    exact Ob.at_mkr hr ⟨k, r, h1, Nat.le_trans hb h2, h3⟩
theorem OW.nil (w : World) : OW w [] w := ⟨Below.refl _ _, fun o h => (by cases h), List.Pairwise.nil⟩
theorem OW.later (h : OW w os x) (k : Below x.heap.size x y) : OW w os y :=
  ⟨h.up.trans (k.mono h.up.size), fun o ho => (h.ob o ho).chg (S := fun _ => False) (Below.chg0 k) fun _ _ e => e, h.ne⟩
theorem OW.drew (h : OW w os x) : OW w os x.drew := h.later (Below.refl _ _).drew
theorem OW.al (h : OW w os x) (o : Obj) : OW w os (x.alloc o) := h.later ((Below.refl _ _).alloc (Nat.le_refl _) o)
theorem OW.perm (h : OW w os x) (hp : os.Perm os') : OW w os' x :=
  ⟨h.up, fun o ho => h.ob o (hp.mem_iff.2 ho), (hp.pairwise_iff (fun h => Ap.symm h)).1 h.ne⟩
theorem OW.sub (h : OW w os x) (hp : os'.Sublist os) : OW w os' x := ⟨h.up, fun o ho => h.ob o (hp.mem ho), h.ne.sublist hp⟩
theorem OW.erase (h : OW w os x) (i : Nat) : OW w (os.eraseIdx i) x := h.sub (List.eraseIdx_sublist _ _)
theorem OW.left (h : OW w (os ++ ps) x) : OW w os x := h.sub (List.sublist_append_left _ _)
theorem OW.right (h : OW w (os ++ ps) x) : OW w ps x := h.sub (List.sublist_append_right _ _)
theorem OW.app (h : OW w os x) (k : OW x ps y) : OW w (os ++ ps) y := by
  have h' := h.later k.up
  refine ⟨h'.up, fun o ho => ?_, ?_⟩
  · rcases List.mem_append.1 ho with ho | ho
    · exact h'.ob o ho
    · exact (k.ob o ho).mono h.up.size
  · refine List.pairwise_append.2 ⟨h.ne, k.ne, fun a ha b hb c hc e => ?_⟩
    have h1 := ((h.ob a ha).lt hc).2
    have h2 := ((k.ob b hb).lt e).1
    omega
theorem split_at {α : Type} {l : List α} {i : Nat} {a : α} (h : l[i]? = some a) : ∃ l1 l2, l = l1 ++ a :: l2 ∧ l1.length = i := by
  obtain ⟨hi, e⟩ := List.getElem?_eq_some_iff.1 h
  refine ⟨l.take i, l.drop (i + 1), ?_, by simp; omega⟩
  rw [← e, List.getElem_cons_drop, List.take_append_drop]
theorem OW.front (h : OW w os x) (hi : os[i]? = some o) : OW w (o :: os.eraseIdx i) x := by
  obtain ⟨l1, l2, rfl, rfl⟩ := split_at hi
  have e : (l1 ++ o :: l2).eraseIdx l1.length = l1 ++ l2 := by
    rw [List.eraseIdx_append_of_length_le (Nat.le_refl _), Nat.sub_self]; rfl
  rw [e]
  exact h.perm List.perm_middle
/-- One thing is turned into another: blocks of its own change alone, and new ones. -/
theorem OW.upd (h : OW w os x) (hi : os[i]? = some o) (hc : Chg S x y) (hS : ∀ b, b < x.heap.size → S b → o.blk = some b) (ho : p.at_ w.heap.size y) (hb : ∀ b, p.blk = some b → o.blk = some b ∨ x.heap.size ≤ b) : OW w (os.set i p) y := by
  obtain ⟨l1, l2, rfl, rfl⟩ := split_at hi
  have e : (l1 ++ o :: l2).set l1.length p = l1 ++ p :: l2 := by
    rw [List.set_append_right _ _ (Nat.le_refl _), Nat.sub_self]; rfl
  rw [e]
  obtain ⟨n1, n2, n3⟩ := List.pairwise_append.1 h.ne
  obtain ⟨n4, n5⟩ := List.pairwise_cons.1 n2
  have keep : ∀ q, q ∈ l1 ++ o :: l2 → Ap o q → q.at_ w.heap.size y := fun q hq ha =>
    (h.ob q hq).chg hc fun b hb hs => ha b (hS b ((h.ob q hq).lt hb).2 hs) hb
  have ap : ∀ q, q ∈ l1 ++ o :: l2 → Ap o q → Ap p q := fun q hq ha b hpb hqb => by
    rcases hb b hpb with h1 | h1
    · exact ha b h1 hqb
    · have := ((h.ob q hq).lt hqb).2; omega
  refine ⟨h.up.trans (hc.below h.up.size fun k hk hs => ((h.ob o (by simp)).lt (hS k hk hs)).1), fun q hq => ?_, List.pairwise_append.2 ⟨n1, List.pairwise_cons.2 ⟨fun q hq => ap q (by simp [hq]) (n4 q hq), n5⟩, fun q hq r hr => ?_⟩⟩
  · rcases List.mem_append.1 hq with h1 | h1
    · exact keep q (by simp [h1]) (Ap.symm (n3 q h1 o (by simp)))
    · rcases List.mem_cons.1 h1 with rfl | h1
      · exact ho
      · exact keep q (by simp [h1]) (n4 q h1)
  · rcases List.mem_cons.1 hr with rfl | h1
    · exact Ap.symm (ap q (by simp [hq]) (Ap.symm (n3 q hq o (by simp))))
    · exact n3 q hq r (by simp [h1])
theorem OW.get (h : OW w os x) (hi : os[i]? = some o) : o.at_ w.heap.size x := h.ob o (List.mem_of_getElem? hi)
theorem OW.apart (h : OW w os x) (hi : os[i]? = some o) (hj : os[j]? = some p) (hne : i ≠ j) : Ap o p := by
  obtain ⟨h1, e1⟩ := List.getElem?_eq_some_iff.1 hi
  obtain ⟨h2, e2⟩ := List.getElem?_eq_some_iff.1 hj
  subst e1; subst e2
  rcases Nat.lt_or_gt_of_ne hne with h3 | h3
  · exact List.pairwise_iff_getElem.1 h.ne i j h1 h2 h3
  · exact Ap.symm (List.pairwise_iff_getElem.1 h.ne j i h2 h1 h3)
/-! What is read. -/
theorem OW.box (h : OW w os x) (hi : os[i]? = some (boxO g cs)) : w.heap.size ≤ g ∧ g < x.heap.size ∧ x.rangeAt g 0 cs ∧ ∀ j, x.frozen? ⟨g, j, none⟩ = false := by
  obtain ⟨g', h1, h2⟩ := (h.get hi).1 rfl
  injection h1 with h1; injection h1 with h1; injection h1 with h1
  subst h1; exact h2
theorem OW.range (h : OW w os x) (hi : os[i]? = some (boxO g cs)) : x.rangeAt g 0 cs := (h.box hi).2.2.1
theorem OW.cell (h : OW w os x) (hi : os[i]? = some (boxO g cs)) (hv : cs[j]? = some v) : x.cell? ⟨g, j, none⟩ = some v := by
  have := h.range hi j v hv; rwa [Nat.zero_add] at this
theorem OW.fz (h : OW w os x) (hi : os[i]? = some (boxO g cs)) (j : Nat) : x.frozen? ⟨g, j, none⟩ = false := (h.box hi).2.2.2 j
theorem OW.row (h : OW w os x) (hi : os[i]? = some (rowO T sz v n cs)) : x.ownsRow w.heap.size T sz v n cs := (h.get hi).2 rfl
theorem OW.byt (h : OW w os x) (hi : os[i]? = some (bytO T (A, c, l))) : OwnB T w.heap.size x A c l := (h.get hi).2 rfl
theorem OW.sl (h : OW w os x) (hi : os[i]? = some (bytO T (A, c, l))) (hn : l.length = n) : Sl x A n c l := hn ▸ Sl.own (h.byt hi)
/-! By membership. -/
theorem OW.cellm (h : OW w os x) (hm : boxO g cs ∈ os) (hv : cs[j]? = some v) : x.cell? ⟨g, j, none⟩ = some v := by
  obtain ⟨i, hi⟩ := List.getElem?_of_mem hm
  exact h.cell hi hv
theorem OW.rangem (h : OW w os x) (hm : boxO g cs ∈ os) : x.rangeAt g 0 cs := by
  obtain ⟨i, hi⟩ := List.getElem?_of_mem hm
  exact h.range hi
theorem OW.rowm (h : OW w os x) (hm : rowO T sz v n cs ∈ os) : x.ownsRow w.heap.size T sz v n cs := (h.ob _ hm).2 rfl
theorem OW.slm (h : OW w os x) (hm : bytO T (A, c, l) ∈ os) (hn : l.length = n) : Sl x A n c l := hn ▸ Sl.own (h.rowm (T := T) (sz := 1) hm)
theorem perm_front {α : Type} {l : List α} {a : α} (hi : l[i]? = some a) : l.Perm (a :: l.eraseIdx i) := by
  obtain ⟨l1, l2, rfl, rfl⟩ := split_at hi
  have e : (l1 ++ a :: l2).eraseIdx l1.length = l1 ++ l2 := by
    rw [List.eraseIdx_append_of_length_le (Nat.le_refl _), Nat.sub_self]; rfl
  rw [e]
  exact List.perm_middle
/-! What comes in. -/
theorem OW.row1 (k : Below x.heap.size x y) (h : y.ownsRow x.heap.size T sz v n cs) : OW x [rowO T sz v n cs] y :=
  ⟨k, fun o ho => by
    obtain rfl := List.mem_singleton.1 ho
    exact ⟨(fun e => nomatch e), fun _ => h⟩, List.pairwise_singleton _ _⟩
theorem OW.byt1 (k : Below x.heap.size x y) (h : OwnB T x.heap.size y A c l) : OW x [bytO T (A, c, l)] y :=
  ⟨k, fun o ho => by
    obtain rfl := List.mem_singleton.1 ho
    exact ⟨(fun e => nomatch e), fun _ => h⟩, List.pairwise_singleton _ _⟩
theorem OW.box1 (x : World) (t : TypeId) (cs : List Value) : OW x [boxO x.heap.size cs] (x.alloc (.cells cs.toArray t)) :=
  ⟨(Below.refl _ _).alloc (Nat.le_refl _) _, fun o ho => by
    obtain rfl := List.mem_singleton.1 ho
    exact ⟨fun _ => ⟨x.heap.size, rfl, Nat.le_refl _, by show _ < (x.heap.push _).size; simp, range_new _ _ _, fun j => by simp⟩, fun e => nomatch e⟩, List.pairwise_singleton _ _⟩
theorem OW.lit1 (x : World) (C : Array Value) (e : TypeId) (sz n : Nat) (hm : n ≤ maxLen) (hs : C.size = n * sz) : OW x [rowO e sz (.slice (some ⟨x.heap.size, 0, none⟩) n n) n C.toList] (x.alloc (.cells C e)) :=
  OW.row1 ((Below.refl _ _).alloc (Nat.le_refl _) _) (World.ownsRow_lit x C n (Nat.le_refl _) hm hs)
theorem byt_blk (r : Option Addr × Nat × List UInt8) : (bytO T r).blk = r.1.map (·.block) := by
  obtain ⟨A, c, l⟩ := r
  cases A <;> rfl
theorem OW.rows1 {rs : RowL} (k : Below x.heap.size x y) (h : RowsB T x.heap.size y rs) : OW x (rs.map (bytO T)) y := by
  refine ⟨k, fun o ho => ?_, ?_⟩
  · obtain ⟨r, hr, rfl⟩ := List.mem_map.1 ho
    obtain ⟨i, hi⟩ := List.getElem?_of_mem hr
    exact ⟨(fun e => nomatch e), fun _ => h.1 i r hi⟩
  · rw [List.pairwise_map]
    refine List.pairwise_iff_getElem.2 fun i j hi hj hij b hb e => ?_
    rw [byt_blk] at hb e
    obtain ⟨a, ha, ha'⟩ := Option.map_eq_some_iff.1 hb
    obtain ⟨a2, ha2, ha2'⟩ := Option.map_eq_some_iff.1 e
    exact h.2 i j _ _ (List.getElem?_eq_getElem hi) (List.getElem?_eq_getElem hj) (Nat.ne_of_lt hij) a a2 ha ha2 (ha'.trans ha2'.symm)
theorem OW.toRows {rs : RowL} (h : OW w (rs.map (bytO T)) x) : RowsB T w.heap.size x rs := by
  refine ⟨fun i r hr => (h.ob _ (List.mem_map_of_mem (List.mem_of_getElem? hr))).2 rfl, fun i j r s hr hs hij a b ha hb e => ?_⟩
  exact h.apart (i := i) (j := j) (by rw [List.getElem?_map, hr]; rfl) (by rw [List.getElem?_map, hs]; rfl) hij a.block (by rw [byt_blk, ha]; rfl) (by rw [byt_blk, hb, e]; rfl)
/-- All that a St holds. -/
theorem St.ow {T : TypeId} {bs : List (Nat × List Value)} {rs : RowL} (h : St T w (bs.map some) rs x) : OW w (bs.map (fun b => boxO b.1 b.2) ++ rs.map (bytO T)) x := by
  have hr := OW.rows1 (x := w) h.up h.rows
  refine ⟨h.up, fun o ho => ?_, List.pairwise_append.2 ⟨?_, hr.ne, fun o ho p hp b hb e => ?_⟩⟩
  · rcases List.mem_append.1 ho with ho | ho
    · obtain ⟨⟨g, cs⟩, hb, rfl⟩ := List.mem_map.1 ho
      obtain ⟨i, hi⟩ := List.getElem?_of_mem hb
      obtain ⟨h1, h2, h3, h4⟩ := h.box i g cs (by rw [List.getElem?_map, hi]; rfl)
      exact ⟨fun _ => ⟨g, rfl, h1, h2, h3, h4⟩, fun e => nomatch e⟩
    · exact hr.ob o ho
  · rw [List.pairwise_map]
    refine List.pairwise_iff_getElem.2 fun i j hi hj hij b hb e => ?_
    injection hb with hb
    injection e with e
    refine h.ne i j bs[i].1 bs[i].2 bs[j].1 bs[j].2 (by rw [List.getElem?_map, List.getElem?_eq_getElem hi]; rfl) (by rw [List.getElem?_map, List.getElem?_eq_getElem hj]; rfl) (Nat.ne_of_lt hij) (hb.trans e.symm)
  · obtain ⟨⟨g, cs⟩, hb', rfl⟩ := List.mem_map.1 ho
    obtain ⟨r, hr', rfl⟩ := List.mem_map.1 hp
    obtain ⟨i, hi⟩ := List.getElem?_of_mem hb'
    obtain ⟨j, hj⟩ := List.getElem?_of_mem hr'
    rw [byt_blk] at e
    obtain ⟨a, ha, ha'⟩ := Option.map_eq_some_iff.1 e
    injection hb with hb
    exact h.off i j g cs r a (by rw [List.getElem?_map, hi]; rfl) hj ha (ha'.trans hb.symm)
/-! What is written. -/
theorem OW.putR (h : OW w os x) (hi : os[i]? = some (boxO g cs)) (hc : Chg (fun b => b = g) x y) (hr : y.rangeAt g 0 vs) (hf : ∀ q, y.frozen? q = x.frozen? q) : OW w (os.set i (boxO g vs)) y := by
  obtain ⟨h1, h2, h3, h4⟩ := h.box hi
  exact h.upd hi hc (fun b _ e => by subst e; rfl) ⟨fun _ => ⟨g, rfl, h1, Nat.lt_of_lt_of_le h2 hc.size, hr, fun j => (hf _).trans (h4 j)⟩, fun e => nomatch e⟩ fun b hb => .inl hb
/-- A box is written whole. -/
theorem OW.put (h : OW w os x) (hi : os[i]? = some (boxO g cs)) (hl : vs.length = cs.length) : OW w (os.set i (boxO g vs)) (x.setCells g 0 vs) := by
  obtain ⟨h1, h2, h3, h4⟩ := h.box hi
  exact h.putR hi (setCells_chg g vs 0 x) (World.rangeAt_setCells_same x g 0 vs fun j hj => ⟨h3.isSome j (by omega), by rw [Nat.zero_add]; exact h4 j⟩) fun q => World.frozen?_setCells _ _ _ _ _
/-- One cell of a box is written. -/
theorem OW.put1 (h : OW w os x) (hi : os[i]? = some (boxO g cs)) (j : Nat) (u : Value) : OW w (os.set i (boxO g (cs.set j u))) (x.setCell ⟨g, j, none⟩ u) := by
  obtain ⟨h1, h2, hr, h4⟩ := h.box hi
  refine h.putR hi (Chg.setCell x ⟨g, j, none⟩ u) (fun k q hk => ?_) fun q => World.frozen?_setCell _ _ _ _
  rw [Nat.zero_add]
  rw [List.getElem?_set] at hk
  by_cases e : j = k
  · subst e
    rw [if_pos rfl] at hk
    split at hk
    · rename_i hlt
      injection hk with hk; subst hk
      have := hr j _ (List.getElem?_eq_getElem hlt)
      rw [Nat.zero_add] at this
      exact World.cell?_setCell_same _ _ _ this
    · cases hk
  · rw [if_neg e] at hk
    rw [World.cell?_setCell_other _ _ _ _ (fun e' => by injection e' with _ e' _; exact e e')]
    have := hr k q hk
    rwa [Nat.zero_add] at this
/-- A row was appended to. -/
theorem OW.grow {v' : Value} {m : Nat} (h : OW w os x) (hi : os[i]? = some (rowO T sz v n cs)) (ho : y.ownsRow w.heap.size T sz v' m vs) (hg : x.grownBy y v.ownBlock) (hat : v'.ownBlock = v.ownBlock ∨ v'.ownBlock = some x.heap.size) : OW w (os.set i (rowO T sz v' m vs)) y := by
  have hr := h.row hi
  refine h.upd hi (grown_chg hg) (fun b _ e => by show vBlock v = _; rw [own_vblock hr]; exact e) ⟨(fun e => nomatch e), fun _ => ho⟩ fun b hb => ?_
  have hb : vBlock v' = some b := hb
  rw [own_vblock ho] at hb
  rcases hat with e | e
  · left; show vBlock v = _; rw [own_vblock hr, ← e]; exact hb
  · right; rw [e] at hb; injection hb with hb; omega
/-- One cell of a row is written. -/
theorem OW.store {cap : Nat} (h : OW w os x) (hi : os[i]? = some (rowO T sz (.slice (some ⟨g, 0, none⟩) n cap) n cs)) (j : Nat) (u : Value) : OW w (os.set i (rowO T sz (.slice (some ⟨g, 0, none⟩) n cap) n (cs.set j u))) (x.setCell ⟨g, j, none⟩ u) :=
  h.upd hi (Chg.setCell x ⟨g, j, none⟩ u) (fun b _ e => by subst e; rfl) ⟨(fun e => nomatch e), fun _ => (World.ownsRow.stored (h.row hi) j u).1⟩ fun b hb => .inl hb
end
end Go.Proofs.YtbcljgcilbfblaaDoor

namespace Go.Proofs.YtbcljgcilbfblaaDoor
open Go.RowKit

section
variable {P : Program} {ops : Array Oper} {Q : Exit → Act → World → Prop} {F : List Nat} {S : World → Prop}
def finB (F : List Nat) (listed : Array Bool) : Bool := F.any fun k => listed.getD k false
/-- As wpAnyH; once one of F has come up, S is not asked any more. -/
def wpAnyT (P : Program) (ops : Array Oper) (Q : Exit → Act → World → Prop) (F : List Nat) (S : World → Prop) : Nat → Array Bool → Act → World → Prop
  | 0, listed, a, w => Region.ready .any ops listed = [] ∧ Q .normal a w
  | fuel + 1, listed, a, w =>
    (Region.ready .any ops listed = [] → Q .normal a w) ∧
    ∀ i ∈ Region.ready .any ops listed, wpOp P ops Q i (fun a' w' => (finB F (listed.setIfInBounds i true) = false → S w') ∧ wpAnyT P ops Q F S fuel (listed.setIfInBounds i true) a' w') a w
theorem wpAny_of_T : ∀ (fuel : Nat) (listed : Array Bool) (a : Act) (w : World), wpAnyT P ops Q F S fuel listed a w → wpAny P .any ops Q fuel listed a w
  | 0, _, _, _, h => h
  | fuel + 1, _, _, _, h => ⟨h.1, fun i hi => wpOp_mono (fun a' w' h' => wpAny_of_T fuel _ a' w' h'.2) (h.2 i hi)⟩
/-- D: none of these comes up ahead of operation i. -/
def depB (ops : Array Oper) (i : Nat) (D : List Nat) : Bool := !D.contains i && D.all fun k => match ops[k]? with
  | none => false
  | some o => o.after.any fun e => Region.binds .any e && (e.on == i || D.contains e.on)
theorem getD_ne {L : Array Bool} {j k : Nat} (d : Bool) (h : j ≠ k) : (L.setIfInBounds j true).getD k d = L.getD k d := by
  simp only [Array.getD_eq_getD_getElem?, Array.getElem?_setIfInBounds_ne h]
theorem fin_off {D : List Nat} {L : Array Bool} (hF : F.all (D.contains ·) = true) (hL : ∀ k, k ∈ D → L.getD k false = false) : finB F L = false := by
  unfold finB
  rw [List.any_eq_false]
  intro k hk
  have h1 := List.all_eq_true.1 hF k hk
  rw [hL k (by simpa using h1)]; simp
theorem fin_set {L : Array Bool} {i : Nat} (hi : F.contains i = false) : finB F (L.setIfInBounds i true) = finB F L := by
  unfold finB
  have : ∀ G : List Nat, (∀ k, k ∈ G → k ≠ i) → (G.any fun k => (L.setIfInBounds i true).getD k false) = G.any fun k => L.getD k false := fun G => by
    induction G with
    | nil => intro _; rfl
    | cons k G ih =>
      intro h
      rw [List.any_cons, List.any_cons, ih fun q hq => h q (List.mem_cons_of_mem _ hq), getD_ne false (fun e => h k (by simp) e.symm)]
  exact this F fun k hk e => by
    subst e
    have : F.contains k = true := by simpa using hk
    rw [hi] at this; cases this
theorem wpAnyT_first {i : Nat} {oi : Oper} {v : Value} (R : World → Prop) (hi : ops[i]? = some oi) (hsel : ∀ (j : Nat) (o : Oper) cs b, ops[j]? = some o → o.op ≠ .select cs b)
    (hQ : ∀ c a w, Q (.panic c) (a.put oi.dst v) w → Q (.panic c) a w) (D : List Nat) (hD : depB ops i D = true) (hiF : F.contains i = false)
    (hR : ∀ (L : Array Bool) w, (∀ k, k ∈ D → L.getD k false = false) → (finB F L = false → S w) → R w) :
    ∀ (fuel : Nat) (listed : Array Bool) (a : Act) (w : World),
      (∀ j oj, ops[j]? = some oj → j ≠ i → listed.getD j true = false → (∀ e ∈ oj.after, Region.binds .any e = true → e.on ≠ i) → oi.apart ops oj = true) →
      i ∈ Region.ready .any ops listed → (∀ k, k ∈ D → listed.getD k false = false) → YieldsIf P ops R oi v a → (finB F listed = false → S w) →
      wpAnyT P ops Q F S fuel (listed.setIfInBounds i true) (a.put oi.dst v) w → wpAnyT P ops Q F S (fuel + 1) listed a w := by
  obtain ⟨hDi, hDe⟩ := Bool.and_eq_true_iff.1 hD
  intro fuel
  induction fuel with
  | zero =>
    intro listed a w _ hr hun hy hS H
    refine ⟨fun h => (by rw [h] at hr; cases hr), fun j hj => ?_⟩
    by_cases hji : j = i
    · subst hji; exact hy.wpOp hi (hR listed w hun hS) ⟨fun e => hS (by rwa [fin_set hiF] at e), H⟩
    · have := ready_mono hj hji
      rw [H.1] at this
      cases this
  | succ fuel ih =>
    intro listed a w hfree hr hun hy hS H
    refine ⟨fun h => (by rw [h] at hr; cases hr), fun j hj => ?_⟩
    by_cases hji : j = i
    · subst hji; exact hy.wpOp hi (hR listed w hun hS) ⟨fun e => hS (by rwa [fin_set hiF] at e), H⟩
    · have h1 := H.2 j (ready_mono hj hji)
      obtain ⟨hjun, oj, hoj, hall⟩ := mem_ready.1 hj
      have hiun := (mem_ready.1 hr).1
      have hi0 : listed.getD i false = true → False := fun h1 => by
        rcases Nat.lt_or_ge i listed.size with h' | h'
        · simp [h'] at hiun h1; rw [hiun] at h1; cases h1
        · simp [Array.getElem?_eq_none h'] at h1
      have hnot : ∀ e ∈ oj.after, Region.binds .any e = true → e.on ≠ i := fun e he hb heq => hi0 (heq ▸ hall e he hb)
      have hjD : j ∉ D := fun hjm => by
        have h2 := List.all_eq_true.1 hDe j hjm
        rw [hoj] at h2
        have h2' : oj.after.any (fun e => Region.binds .any e && (e.on == i || D.contains e.on)) = true := h2
        rw [← Array.any_toList, List.any_eq_true] at h2'
        obtain ⟨e, he, h3⟩ := h2'
        have he := Array.mem_toList_iff.1 he
        obtain ⟨hb, h4⟩ := Bool.and_eq_true_iff.1 h3
        have h5 := hall e he hb
        rcases Bool.or_eq_true_iff.1 h4 with h6 | h6
        · exact hi0 ((beq_iff_eq.1 h6) ▸ h5)
        · rw [hun e.on (by simpa using h6)] at h5; cases h5
      have hiD : i ∉ D := by simpa using hDi
      have hun' : ∀ k, k ∈ D → (listed.setIfInBounds j true).getD k false = false := fun k hk => by
        have h3 : j ≠ k := fun e => hjD (by rw [e]; exact hk)
        rw [getD_ne false h3]; exact hun k hk
      have h2 := wpOp_putIf hoj (hfree j oj hoj hji hjun hnot) (fun cs b => hsel i oi cs b hi) (fun cs b => hsel j oj cs b hoj) hQ hy h1
      have hfree' : ∀ k ok, ops[k]? = some ok → k ≠ i → (listed.setIfInBounds j true).getD k true = false →
          (∀ e ∈ ok.after, Region.binds .any e = true → e.on ≠ i) → oi.apart ops ok = true := fun k ok hk hki hun hno => by
        refine hfree k ok hk hki ?_ hno
        by_cases hjk : j = k
        · subst hjk; exact hjun
        · rw [getD_ne true hjk] at hun; exact hun
      refine wpOp_mono (fun a' w' h3 => ?_) h2
      have hS' : finB F (listed.setIfInBounds j true) = false → S w' := fun e => h3.2.1 (by rw [Array.setIfInBounds_comm _ _ (Ne.symm hji), fin_set hiF]; exact e)
      refine ⟨hS', ih (listed.setIfInBounds j true) a' w' hfree' (ready_mono hr (Ne.symm hji)) hun' h3.1 hS' ?_⟩
      rw [Array.setIfInBounds_comm _ _ hji]
      exact h3.2.2
end
section
variable {P : Program} {Q : Exit → Act → World → Prop} {F : List Nat} {S : World → Prop} {l : List Oper} {fuel : Nat} {listed : Array Bool} {a : Act} {w : World} {i : Nat} {o : Oper} {v : Value}
theorem lt_start {id : Nat} (F : List Nat) (hm : P.follows .mixedOrders = true) (h : ∀ z, Below w.heap.size w z → ∃ S, wpAnyT P l.toArray Q F S l.length (Array.replicate l.length false) a z) : (Code.region id l.toArray true).wp P Q a w := by
  obtain ⟨S, h⟩ := h w.drew (Below.refl _ _).drew
  exact wp_region_any hm (wpAny_of_T _ _ _ _ (by simpa using h))
/-- What reads where S holds: all of F waits for it. -/
theorem lt_take (i : Nat) (D : List Nat) {o : Oper} (hi : l[i]? = some o) (hs : Region.noSelect l.toArray = true) (hf : Region.free .any l.toArray listed i = true) (hr : (Region.ready .any l.toArray listed).contains i = true)
    (hd : depB l.toArray i D = true) (hF : (F.all (D.contains ·) && !F.contains i && D.all (fun k => !listed.getD k false)) = true)
    (hQ : ∀ c a w, Q (.panic c) (a.put o.dst v) w → Q (.panic c) a w) (hy : YieldsIf P l.toArray S o v a) (hS : S w)
    (h : wpAnyT P l.toArray Q F S fuel (listed.setIfInBounds i true) (a.put o.dst v) w) : wpAnyT P l.toArray Q F S (fuel + 1) listed a w := by
  simp only [Bool.and_eq_true, Bool.not_eq_true'] at hF
  exact wpAnyT_first S (lx_at hi) (Region.noSelect_spec hs) hQ D hd hF.1.2 (fun L w hL hS => hS (fin_off hF.1.1 hL)) fuel listed a w (Region.free_spec (lx_at hi) hf) (by simpa using hr) (fun k hk => by simpa using List.all_eq_true.1 hF.2 k hk) hy (fun _ => hS) h
/-- What yields in whatever world. -/
theorem lt_pure (i : Nat) {o : Oper} (hi : l[i]? = some o) (hs : Region.noSelect l.toArray = true) (hf : Region.free .any l.toArray listed i = true) (hr : (Region.ready .any l.toArray listed).contains i = true) (hiF : F.contains i = false)
    (hQ : ∀ c a w, Q (.panic c) (a.put o.dst v) w → Q (.panic c) a w) (hy : YieldsIf P l.toArray (fun _ => True) o v a) (hS : finB F listed = false → S w)
    (h : wpAnyT P l.toArray Q F S fuel (listed.setIfInBounds i true) (a.put o.dst v) w) : wpAnyT P l.toArray Q F S (fuel + 1) listed a w :=
  wpAnyT_first (fun _ => True) (lx_at hi) (Region.noSelect_spec hs) hQ [] (by simp [depB]) hiF (fun _ _ _ _ => trivial) fuel listed a w (Region.free_spec (lx_at hi) hf) (by simpa using hr) (fun k hk => by cases hk) hy hS h
theorem lt_skip (i : Nat) {o : Oper} (hi : l[i]? = some o) (hs : Region.noSelect l.toArray = true) (hf : Region.free .any l.toArray listed i = true) (hr : (Region.ready .any l.toArray listed).contains i = true) (hiF : F.contains i = false)
    (hQ : ∀ c a w, Q (.panic c) (a.put o.dst undef) w → Q (.panic c) a w) (hw : Region.wanted o (yielded l.toArray a.tmps) = false) (hS : finB F listed = false → S w)
    (h : wpAnyT P l.toArray Q F S fuel (listed.setIfInBounds i true) (a.put o.dst undef) w) : wpAnyT P l.toArray Q F S (fuel + 1) listed a w :=
  lt_pure i hi hs hf hr hiF hQ (.inr ⟨hw, rfl⟩) hS h
/-- The same behind the first of F. -/
theorem lt_pureF (i : Nat) {o : Oper} (hi : l[i]? = some o) (hs : Region.noSelect l.toArray = true) (hf : Region.free .any l.toArray listed i = true) (hr : (Region.ready .any l.toArray listed).contains i = true) (hiF : F.contains i = false) (hfin : finB F listed = true)
    (hQ : ∀ c a w, Q (.panic c) (a.put o.dst v) w → Q (.panic c) a w) (hy : YieldsIf P l.toArray (fun _ => True) o v a)
    (h : wpAnyT P l.toArray Q F S fuel (listed.setIfInBounds i true) (a.put o.dst v) w) : wpAnyT P l.toArray Q F S (fuel + 1) listed a w :=
  lt_pure i hi hs hf hr hiF hQ hy (fun e => by rw [hfin] at e; cases e) h
/-- The only one that may come up. -/
theorem lt_op (i : Nat) {o : Oper} (hi : l[i]? = some o) (hr : Region.ready .any l.toArray listed = [i]) (hw : Region.wanted o (yielded l.toArray a.tmps) = true)
    (h : o.wp P a w (fun a' w' => (finB F (listed.setIfInBounds i true) = false → S w') ∧ wpAnyT P l.toArray Q F S fuel (listed.setIfInBounds i true) a' w') Q) : wpAnyT P l.toArray Q F S (fuel + 1) listed a w := by
  refine ⟨fun h0 => ?_, fun j hj => ?_⟩
  · rw [hr] at h0; cases h0
  rw [hr] at hj
  obtain rfl : j = i := by simpa using hj
  unfold wpOp
  rw [lx_at hi]
  simp only [hw, if_true]
  exact .inl h
/-- One of the last, or behind them. -/
theorem lt_end (i : Nat) {o : Oper} (hi : l[i]? = some o) (hr : Region.ready .any l.toArray listed = [i]) (hw : Region.wanted o (yielded l.toArray a.tmps) = true) (hfin : finB F (listed.setIfInBounds i true) = true)
    (h : o.wp P a w (wpAnyT P l.toArray Q F S fuel (listed.setIfInBounds i true)) Q) : wpAnyT P l.toArray Q F S (fuel + 1) listed a w :=
  lt_op i hi hr hw (Oper.wp_mono (fun _ _ h => ⟨(fun e => by rw [hfin] at e; cases e), h⟩) h)
theorem lt_call (i : Nat) {o : Oper} {f : FuncId} {xs : List Operand} {ats : Array TypeId} (hi : l[i]? = some o) (hr : Region.ready .any l.toArray listed = [i]) (hw : Region.wanted o (yielded l.toArray a.tmps) = true)
    (ho : o.op = .call { callee := .value (.func f), args := xs.toArray, argTypes := ats }) (hf : GoFn P f) (vals : List Value) (hv : xs.map a.eval = vals)
    (hc : Calls P f vals.toArray w fun e w' => ∃ v, e = .returned v ∧ (finB F (listed.setIfInBounds i true) = false → S w') ∧ wpAnyT P l.toArray Q F S fuel (listed.setIfInBounds i true) (a.put o.dst v) w') : wpAnyT P l.toArray Q F S (fuel + 1) listed a w :=
  lt_op i hi hr hw (wp_call_go ho hf vals.toArray (by rw [List.map_toArray, hv]) hc)
theorem lt_done (hr : Region.ready .any l.toArray listed = []) (h : Q .normal a w) : wpAnyT P l.toArray Q F S fuel listed a w := by
  cases fuel with
  | zero => exact ⟨hr, h⟩
  | succ f => exact ⟨fun _ => h, fun i hi => (by rw [hr] at hi; cases hi)⟩
end
/-! ### Single operations over what the call owns -/
section
variable {P : Program} {Q : Exit → Act → World → Prop} {K : Act → World → Prop} {o : Oper} {a : Act} {w x : World} {os : List Ob}
theorem wpo_append {t e : TypeId} {size bytes : Nat} (s y : Operand) (ho : o.op = .call { callee := .builtin .append, args := #[s, y], argTypes := #[t, t] }) (hS : SliceOf P t e size bytes) (h : OW w os x) (i : Nat) {v : Value} {n : Nat} {cs : List Value} (hi : os[i]? = some (rowO e size v n cs)) (hs : a.eval s = v)
    (B : Nat) (A : Option Addr) (m c : Nat) (news : List Value) (hy : a.eval y = .slice A m c) (hr : Reads x B size A m news) (h1 : ∀ u ∈ news, u.oneCell' = true) (h63 : n + m ≤ maxLen) (hbytes : (n + m) * bytes ≤ 140737488355328)
    (hK : ∀ A' c' z, OW w (os.set i (rowO e size (.slice A' (n + m) c') (n + m) (cs ++ news))) z → x.grownBy z v.ownBlock → K (a.put o.dst (.slice A' (n + m) c')) z) : o.wp P a x K Q := by
  refine wp_append_reads x s y ho hS w.heap.size v n cs hs (h.row hi) B A m c news hy hr h1 h63 hbytes h.up.size fun v' w' h2 h3 h4 => ?_
  obtain ⟨A', c', rfl, _⟩ := own_slice h2
  exact hK A' c' w' (h.grow hi h2 h3 h4) h3
theorem wpo_build {t e : TypeId} {len sz bytes : Nat} {parts : Array (Nat × Operand)} (ho : o.op = .buildSlice t len parts) (C : Array Value) (hS : SliceOf P t e sz bytes) (z : Value) (hz : (P.info? e).bind (·.zero) = some z) (hsm : ¬ len * sz > 2 ^ 24) (hp : ¬ len * sz = 0) (hm : len ≤ maxLen) (hsz : C.size = len * sz)
    (hf : Instr.fill (fun i => some (i * sz, sz)) ((Array.range (len * sz)).map (z.cells[· % z.cells.size]!)) (parts.map fun (i, x) => (i, a.eval x)).toList = some C)
    (h : OW w os x) (hK : ∀ g z, OW w (os ++ [rowO e sz (.slice (some ⟨g, 0, none⟩) len len) len C.toList]) z → Below x.heap.size x z → K (a.put o.dst (.slice (some ⟨g, 0, none⟩) len len)) z) : o.wp P a x K Q := by
  obtain ⟨ht, ⟨i, z', hi, hz', hsize, _, _⟩, _⟩ := hS
  rw [hi] at hz
  have hz : i.zero = some z := hz
  rw [hz'] at hz; injection hz with hz; subst hz
  subst hsize
  exact wp_buildSlice t e len parts ho C i z' ht hi hz' hsm hp hf (hK _ _ (h.app (OW.lit1 x C e i.size len hm hsz)) ((Below.refl _ _).alloc (Nat.le_refl _) _))
theorem wpo_box {t : TypeId} {y : Operand} (ho : o.op = .box t y) (cs : List Value) (hx : (a.eval y).cells = cs.toArray) (h : OW w os x) (hK : ∀ g z, OW w (os ++ [boxO g cs]) z → Below x.heap.size x z → K (a.put o.dst (.pointer (some ⟨g, 0, none⟩))) z) : o.wp P a x K Q := by
  unfold Oper.wp execOp
  simp only [ho, Sem.run_bind, Instr.box, newVar, newRow, run_newObj_alloc, Sem.run_pure, Result.andThen_ok, hx]
  exact hK _ _ (h.app (OW.box1 x t cs)) ((Below.refl _ _).alloc (Nat.le_refl _) _)
theorem wpo_alloc {t : TypeId} (ho : o.op = .alloc t) (cs : List Value) (hz : (P.info? t).bind (·.zero) = some (.agg cs.toArray) ∨ ∃ v : Value, (P.info? t).bind (·.zero) = some v ∧ v.cells = cs.toArray) (h : OW w os x) (hK : ∀ g z, OW w (os ++ [boxO g cs]) z → Below x.heap.size x z → K (a.put o.dst (.pointer (some ⟨g, 0, none⟩))) z) : o.wp P a x K Q := by
  obtain ⟨v, hv, hc⟩ : ∃ v : Value, (P.info? t).bind (·.zero) = some v ∧ v.cells = cs.toArray := by
    rcases hz with h | h
    · exact ⟨_, h, rfl⟩
    · exact h
  refine wp_alloc_row ho hv ?_
  rw [hc]
  exact hK _ _ (h.app (OW.box1 x t cs)) ((Below.refl _ _).alloc (Nat.le_refl _) _)
theorem wpo_put {t : TypeId} {p y : Operand} (ho : o.op = .store t p y) (h : OW w os x) (i : Nat) {g : Nat} {cs : List Value} (hi : os[i]? = some (boxO g cs)) (hx : a.eval p = .pointer (some ⟨g, 0, none⟩)) (vs : List Value) (hy : a.eval y = .agg vs.toArray) (hl : vs.length = cs.length) (ht : (P.info? t).map (·.size) = some vs.length) (h1 : ∀ u ∈ vs, u.oneCell' = true)
    (hK : ∀ z, OW w (os.set i (boxO g vs)) z → Chg (fun b => b = g) x z → K (a.put o.dst undef) z) : o.wp P a x K Q :=
  wp_store_row ho hx hy (h.range hi) (h.fz hi) hl ht h1 (hK _ (h.put hi hl) (setCells_chg g vs 0 x))
theorem wpo_put1 {t : TypeId} {p y : Operand} (ho : o.op = .store t p y) (h : OW w os x) (i : Nat) {g : Nat} {cs : List Value} (hi : os[i]? = some (boxO g cs)) (j : Nat) (hx : a.eval p = .pointer (some ⟨g, j, none⟩)) (hj : j < cs.length) (v : Value) (hy : a.eval y = v) (ht : (P.info? t).map (·.size) = some 1) (h1 : v.oneCell' = true)
    (hK : ∀ z, OW w (os.set i (boxO g (cs.set j v))) z → Chg (fun b => b = g) x z → K (a.put o.dst undef) z) : o.wp P a x K Q := by
  unfold Oper.wp execOp
  have hs : (x.cell? ⟨g, j, none⟩).isSome = true := by
    rw [h.cell hi (List.getElem?_eq_getElem hj)]; rfl
  simp only [ho, hx, hy, Instr.storeAt, Instr.sureAddr, Sem.run_bind, Sem.run_pure, Result.andThen_ok, run_storeVar_one x g j t v hs (h.fz hi j) h1 ht]
  exact hK _ (h.put1 hi j v) (Chg.setCell x ⟨g, j, none⟩ v)
theorem wpo_store {t : TypeId} {p y : Operand} (ho : o.op = .store t p y) (h : OW w os x) (i : Nat) {T : TypeId} {sz g n cap : Nat} {cs : List Value} (hi : os[i]? = some (rowO T sz (.slice (some ⟨g, 0, none⟩) n cap) n cs)) (j : Nat) (hx : a.eval p = .pointer (some ⟨g, j, none⟩)) (hj : j < n * sz) (v : Value) (hy : a.eval y = v) (ht : (P.info? t).map (·.size) = some 1) (h1 : v.oneCell' = true)
    (hK : ∀ z, OW w (os.set i (rowO T sz (.slice (some ⟨g, 0, none⟩) n cap) n (cs.set j v))) z → Chg (fun b => b = g) x z → K (a.put o.dst undef) z) : o.wp P a x K Q := by
  unfold Oper.wp execOp
  have hr := h.row hi
  have hs : (x.cell? ⟨g, j, none⟩).isSome = true := by
    rw [World.ownsRow.cellAt hr j hj, List.getElem?_eq_getElem (by rw [hr.1]; exact hj)]; rfl
  simp only [ho, hx, hy, Instr.storeAt, Instr.sureAddr, Sem.run_bind, Sem.run_pure, Result.andThen_ok, run_storeVar_one x g j t v hs (World.ownsRow.frozenAt hr j) h1 ht]
  exact hK _ (h.store hi j v) (Chg.setCell x ⟨g, j, none⟩ v)
end
/-! ### The same along a list -/
section
variable {P : Program} {ops : Array Oper} {Q : Exit → Act → World → Prop} {rest : List Oper} {o : Oper} {a : Act} {w x : World} {os : List Ob}
theorem wl_append {t e : TypeId} {size bytes : Nat} (hgd : Region.wanted o (yielded ops a.tmps) = true) (s y : Operand) (ho : o.op = .call { callee := .builtin .append, args := #[s, y], argTypes := #[t, t] }) (hS : SliceOf P t e size bytes) (h : OW w os x) (i : Nat) {v : Value} {n : Nat} {cs : List Value} (hi : os[i]? = some (rowO e size v n cs)) (hs : a.eval s = v)
    (B : Nat) (A : Option Addr) (m c : Nat) (news : List Value) (hy : a.eval y = .slice A m c) (hr : Reads x B size A m news) (h1 : ∀ u ∈ news, u.oneCell' = true) (h63 : n + m ≤ maxLen) (hbytes : (n + m) * bytes ≤ 140737488355328)
    (hK : ∀ A' c' z, OW w (os.set i (rowO e size (.slice A' (n + m) c') (n + m) (cs ++ news))) z → x.grownBy z v.ownBlock → wpList P ops Q rest (a.put o.dst (.slice A' (n + m) c')) z) : wpList P ops Q (o :: rest) a x :=
  BigFrame.wpList_want hgd fun _ hk => wpo_append s y ho hS h i hi hs B A m c news hy hr h1 h63 hbytes fun A' c' z hz hg => hk _ _ (hK A' c' z hz hg)
theorem wl_build {t e : TypeId} {len sz bytes : Nat} (hgd : Region.wanted o (yielded ops a.tmps) = true) (parts : Array (Nat × Operand)) (ho : o.op = .buildSlice t len parts) (C : Array Value) (hS : SliceOf P t e sz bytes) (z : Value) (hz : (P.info? e).bind (·.zero) = some z) (hsm : ¬ len * sz > 2 ^ 24) (hp : ¬ len * sz = 0) (hm : len ≤ maxLen) (hsz : C.size = len * sz)
    (hf : Instr.fill (fun i => some (i * sz, sz)) ((Array.range (len * sz)).map (z.cells[· % z.cells.size]!)) (parts.map fun (i, x) => (i, a.eval x)).toList = some C)
    (h : OW w os x) (hK : ∀ g z, OW w (os ++ [rowO e sz (.slice (some ⟨g, 0, none⟩) len len) len C.toList]) z → Below x.heap.size x z → wpList P ops Q rest (a.put o.dst (.slice (some ⟨g, 0, none⟩) len len)) z) : wpList P ops Q (o :: rest) a x :=
  BigFrame.wpList_want hgd fun _ hk => wpo_build ho C hS z hz hsm hp hm hsz hf h fun g z hz hb => hk _ _ (hK g z hz hb)
theorem wl_box {t : TypeId} (hgd : Region.wanted o (yielded ops a.tmps) = true) (y : Operand) (ho : o.op = .box t y) (cs : List Value) (hx : (a.eval y).cells = cs.toArray) (h : OW w os x) (hK : ∀ g z, OW w (os ++ [boxO g cs]) z → Below x.heap.size x z → wpList P ops Q rest (a.put o.dst (.pointer (some ⟨g, 0, none⟩))) z) : wpList P ops Q (o :: rest) a x :=
  BigFrame.wpList_want hgd fun _ hk => wpo_box ho cs hx h fun g z hz hb => hk _ _ (hK g z hz hb)
theorem wl_alloc {t : TypeId} (hgd : Region.wanted o (yielded ops a.tmps) = true) (ho : o.op = .alloc t) (cs : List Value) (hz : (P.info? t).bind (·.zero) = some (.agg cs.toArray) ∨ ∃ v : Value, (P.info? t).bind (·.zero) = some v ∧ v.cells = cs.toArray) (h : OW w os x) (hK : ∀ g z, OW w (os ++ [boxO g cs]) z → Below x.heap.size x z → wpList P ops Q rest (a.put o.dst (.pointer (some ⟨g, 0, none⟩))) z) : wpList P ops Q (o :: rest) a x :=
  BigFrame.wpList_want hgd fun _ hk => wpo_alloc ho cs hz h fun g z hz hb => hk _ _ (hK g z hz hb)
theorem wl_put {t : TypeId} (hgd : Region.wanted o (yielded ops a.tmps) = true) (p y : Operand) (ho : o.op = .store t p y) (h : OW w os x) (i : Nat) {g : Nat} {cs : List Value} (hi : os[i]? = some (boxO g cs)) (hx : a.eval p = .pointer (some ⟨g, 0, none⟩)) (vs : List Value) (hy : a.eval y = .agg vs.toArray) (hl : vs.length = cs.length) (ht : (P.info? t).map (·.size) = some vs.length) (h1 : ∀ u ∈ vs, u.oneCell' = true)
    (hK : ∀ z, OW w (os.set i (boxO g vs)) z → Chg (fun b => b = g) x z → wpList P ops Q rest (a.put o.dst undef) z) : wpList P ops Q (o :: rest) a x :=
  BigFrame.wpList_want hgd fun _ hk => wpo_put ho h i hi hx vs hy hl ht h1 fun z hz hc => hk _ _ (hK z hz hc)
theorem wl_put1 {t : TypeId} (hgd : Region.wanted o (yielded ops a.tmps) = true) (p y : Operand) (ho : o.op = .store t p y) (h : OW w os x) (i : Nat) {g : Nat} {cs : List Value} (hi : os[i]? = some (boxO g cs)) (j : Nat) (hx : a.eval p = .pointer (some ⟨g, j, none⟩)) (hj : j < cs.length) (v : Value) (hy : a.eval y = v) (ht : (P.info? t).map (·.size) = some 1) (h1 : v.oneCell' = true)
    (hK : ∀ z, OW w (os.set i (boxO g (cs.set j v))) z → Chg (fun b => b = g) x z → wpList P ops Q rest (a.put o.dst undef) z) : wpList P ops Q (o :: rest) a x :=
  BigFrame.wpList_want hgd fun _ hk => wpo_put1 ho h i hi j hx hj v hy ht h1 fun z hz hc => hk _ _ (hK z hz hc)
theorem wl_store {t : TypeId} (hgd : Region.wanted o (yielded ops a.tmps) = true) (p y : Operand) (ho : o.op = .store t p y) (h : OW w os x) (i : Nat) {T : TypeId} {sz g n cap : Nat} {cs : List Value} (hi : os[i]? = some (rowO T sz (.slice (some ⟨g, 0, none⟩) n cap) n cs)) (j : Nat) (hx : a.eval p = .pointer (some ⟨g, j, none⟩)) (hj : j < n * sz) (v : Value) (hy : a.eval y = v) (ht : (P.info? t).map (·.size) = some 1) (h1 : v.oneCell' = true)
    (hK : ∀ z, OW w (os.set i (rowO T sz (.slice (some ⟨g, 0, none⟩) n cap) n (cs.set j v))) z → Chg (fun b => b = g) x z → wpList P ops Q rest (a.put o.dst undef) z) : wpList P ops Q (o :: rest) a x :=
  BigFrame.wpList_want hgd fun _ hk => wpo_store ho h i hi j hx hj v hy ht h1 fun z hz hc => hk _ _ (hK z hz hc)
end
end Go.Proofs.YtbcljgcilbfblaaDoor

namespace Go.Proofs.YtbcljgcilbfblaaDoor
open Go.RowKit

theorem setCells_chgo (g : Nat) (vs : List Value) : ∀ (o : Nat) (x : World), Chg (fun b => b = g) x (x.setCells g o vs) := fun o x => setCells_chg g vs o x
def midL (cs : List Value) (o : Nat) (vs : List Value) : List Value := cs.take o ++ vs ++ cs.drop (o + vs.length)
section
variable {w x y : World} {os os' ps : List Ob} {g o : Nat} {cs vs : List Value}
theorem rangeAt_part {b : Nat} (h : x.rangeAt b 0 cs) (k n : Nat) : x.rangeAt b k ((cs.drop k).take n) := fun j v hj => by
  rw [List.getElem?_take] at hj
  split at hj
  · rw [List.getElem?_drop] at hj
    have := h (k + j) v hj
    rwa [Nat.zero_add] at this
  · cases hj
theorem OW.part (h : OW w os x) {i : Nat} (hi : os[i]? = some (boxO g cs)) (k n : Nat) : x.rangeAt g k ((cs.drop k).take n) := rangeAt_part (h.range hi) k n
theorem OW.putAt (h : OW w os x) {i : Nat} (hi : os[i]? = some (boxO g cs)) (hl : o + vs.length ≤ cs.length) : OW w (os.set i (boxO g (midL cs o vs))) (x.setCells g o vs) := by
  obtain ⟨h1, h2, h3, h4⟩ := h.box hi
  have ht : x.there g o vs.length := fun j hj => ⟨by
    have := h3.isSome (o + j) (by omega)
    rwa [Nat.zero_add] at this, h4 _⟩
  refine h.putR hi (setCells_chgo g vs o x) (fun j v hj => ?_) fun q => World.frozen?_setCells _ _ _ _ _
  rw [Nat.zero_add]
  unfold midL at hj
  have lt : (cs.take o).length = o := by rw [List.length_take]; omega
  rcases Nat.lt_or_ge j o with h5 | h5
  · rw [List.append_assoc, List.getElem?_append_left (by omega), List.getElem?_take_of_lt h5] at hj
    have h6 : x.rangeAt g 0 (cs.take o) := fun q u hq => h3 q u (by
      rw [List.getElem?_take] at hq
      split at hq
      · exact hq
      · cases hq)
    have h7 := World.rangeAt_setCells_apart h6 g o vs (.inr (.inl (by omega)))
    have := h7 j v (by rw [List.getElem?_take_of_lt h5]; exact hj)
    rwa [Nat.zero_add] at this
  · rcases Nat.lt_or_ge j (o + vs.length) with h6 | h6
    · rw [List.getElem?_append_left (by rw [List.length_append]; omega), List.getElem?_append_right (by omega), lt] at hj
      have h7 := World.rangeAt_setCells_same x g o vs ht (j - o) v hj
      rwa [show o + (j - o) = j from by omega] at h7
    · rw [List.getElem?_append_right (by rw [List.length_append]; omega), List.length_append, lt, List.getElem?_drop] at hj
      have h8 : x.rangeAt g (o + vs.length) (cs.drop (o + vs.length)) := fun q u hq => by
        rw [List.getElem?_drop] at hq
        have := h3 _ u hq
        rwa [Nat.zero_add] at this
      have h7 := World.rangeAt_setCells_apart h8 g o vs (.inr (.inr (Nat.le_refl _)))
      have := h7 (j - (o + vs.length)) v (by rw [List.getElem?_drop]; exact hj)
      rwa [show o + vs.length + (j - (o + vs.length)) = j from by omega] at this
end
section
variable {P : Program} {ops : Array Oper} {Q : Exit → Act → World → Prop} {K : Act → World → Prop} {rest : List Oper} {o : Oper} {a : Act} {w x : World} {os : List Ob}
theorem wp_load_at {ty : TypeId} {y : Operand} (ho : o.op = .load ty y) {g k : Nat} {cs : List Value} (hx : a.eval y = .pointer (some ⟨g, k, none⟩)) (hr : w.rangeAt g k cs) (ht : RowTy P ty cs.length)
    (hK : K (a.put o.dst (.agg cs.toArray)) w) : o.wp P a w K Q := by
  obtain ⟨⟨d, hu, hd⟩, hi⟩ := ht
  exact wp_load_mid ty y ho g k hx cs d hr hu hd hi hK
theorem wpList_load_at (hgd : Region.wanted o (yielded ops a.tmps) = true) (ty : TypeId) (y : Operand) (ho : o.op = .load ty y) {g k : Nat} {cs : List Value} (hx : a.eval y = .pointer (some ⟨g, k, none⟩)) (hr : w.rangeAt g k cs) (ht : RowTy P ty cs.length)
    (hK : wpList P ops Q rest (a.put o.dst (.agg cs.toArray)) w) : wpList P ops Q (o :: rest) a w :=
  BigFrame.wpList_want hgd fun _ h => wp_load_at ho hx hr ht (h _ _ hK)
theorem wpo_putAt {t : TypeId} {p y : Operand} (ho : o.op = .store t p y) (h : OW w os x) (i : Nat) {g k : Nat} {cs : List Value} (hi : os[i]? = some (boxO g cs)) (hx : a.eval p = .pointer (some ⟨g, k, none⟩)) (vs : List Value) (hy : a.eval y = .agg vs.toArray) (hl : k + vs.length ≤ cs.length) (ht : (P.info? t).map (·.size) = some vs.length) (h1 : ∀ u ∈ vs, u.oneCell' = true)
    (hK : ∀ z, OW w (os.set i (boxO g (midL cs k vs))) z → Chg (fun b => b = g) x z → K (a.put o.dst undef) z) : o.wp P a x K Q :=
  wp_store_mid t p y ho g k vs.toArray hx hy (fun j hj => ⟨by
    have := (h.range hi).isSome (k + j) (by simp at hj; omega)
    rwa [Nat.zero_add] at this, h.fz hi _⟩) (by simpa using ht) (all_oneCell_toArray h1) (hK _ (h.putAt hi hl) (setCells_chgo g vs k x))
theorem wl_putAt {t : TypeId} (hgd : Region.wanted o (yielded ops a.tmps) = true) (p y : Operand) (ho : o.op = .store t p y) (h : OW w os x) (i : Nat) {g k : Nat} {cs : List Value} (hi : os[i]? = some (boxO g cs)) (hx : a.eval p = .pointer (some ⟨g, k, none⟩)) (vs : List Value) (hy : a.eval y = .agg vs.toArray) (hl : k + vs.length ≤ cs.length) (ht : (P.info? t).map (·.size) = some vs.length) (h1 : ∀ u ∈ vs, u.oneCell' = true)
    (hK : ∀ z, OW w (os.set i (boxO g (midL cs k vs))) z → Chg (fun b => b = g) x z → wpList P ops Q rest (a.put o.dst undef) z) : wpList P ops Q (o :: rest) a x :=
  BigFrame.wpList_want hgd fun _ hk => wpo_putAt ho h i hi hx vs hy hl ht h1 fun z hz hc => hk _ _ (hK z hz hc)
end
end Go.Proofs.YtbcljgcilbfblaaDoor

namespace Go.Proofs.YtbcljgcilbfblaaDoor
open Go.RowKit

theorem bytO_app (T : TypeId) (A : Option Addr) (c n m : Nat) (l r : List UInt8) (hn : l.length = n) (hm : r.length = m) : rowO T 1 (.slice A (n + m) c) (n + m) (u8s l ++ u8s r) = bytO T (A, c, l ++ r) := by
  subst hn; subst hm
  unfold bytO rowO
  simp [u8s]
section
variable {P : Program} {ops : Array Oper} {Q : Exit → Act → World → Prop} {K : Act → World → Prop} {rest : List Oper} {o : Oper} {a : Act} {w x : World} {os : List Ob}
theorem wpo_appB {t e : TypeId} (s y : Operand) (ho : o.op = .call { callee := .builtin .append, args := #[s, y], argTypes := #[t, t] }) (hS : SliceOf P t e 1 1) (h : OW w os x) (i : Nat) {A : Option Addr} {c n : Nat} {l : List UInt8} (hi : os[i]? = some (bytO e (A, c, l))) (hn : l.length = n) (hs : a.eval s = .slice A n c)
    (B : Nat) (A2 : Option Addr) (m c2 : Nat) (r : List UInt8) (hy : a.eval y = .slice A2 m c2) (hr : RB x B A2 m r) (hb : n + m ≤ 140737488355328)
    (hK : ∀ A' c' z, OW w (os.set i (bytO e (A', c', l ++ r))) z → x.grownBy z (Value.slice A n c).ownBlock → K (a.put o.dst (.slice A' (n + m) c')) z) : o.wp P a x K Q := by
  subst hn
  refine wpo_append s y ho hS h i (v := .slice A l.length c) (n := l.length) (cs := u8s l) hi hs B A2 m c2 (u8s r) hy hr (u8s_one r) (by unfold maxLen; omega) (by omega) fun A' c' z hz hg => hK A' c' z ?_ hg
  rw [bytO_app e A' c' _ m l r rfl hr.len] at hz
  exact hz
theorem wl_appB {t e : TypeId} (hgd : Region.wanted o (yielded ops a.tmps) = true) (s y : Operand) (ho : o.op = .call { callee := .builtin .append, args := #[s, y], argTypes := #[t, t] }) (hS : SliceOf P t e 1 1) (h : OW w os x) (i : Nat) {A : Option Addr} {c n : Nat} {l : List UInt8} (hi : os[i]? = some (bytO e (A, c, l))) (hn : l.length = n) (hs : a.eval s = .slice A n c)
    (B : Nat) (A2 : Option Addr) (m c2 : Nat) (r : List UInt8) (hy : a.eval y = .slice A2 m c2) (hr : RB x B A2 m r) (hb : n + m ≤ 140737488355328)
    (hK : ∀ A' c' z, OW w (os.set i (bytO e (A', c', l ++ r))) z → wpList P ops Q rest (a.put o.dst (.slice A' (n + m) c')) z) : wpList P ops Q (o :: rest) a x :=
  BigFrame.wpList_want hgd fun _ hk => wpo_appB s y ho hS h i hi hn hs B A2 m c2 r hy hr hb fun A' c' z hz _ => hk _ _ (hK A' c' z hz)
theorem wl_make0 {t e : TypeId} {size bytes : Nat} (hg : o.guard = none) (l c : Operand) (hop : o.op = Op.makeSlice t l c) (hS : SliceOf P t e size bytes) (n : Nat) (C : Int) (hl : a.eval l = .int .i64 0) (hc : a.eval c = .int .i64 C) (hC : C = (n : Int)) (b2 : bytes * n ≤ 281474976710656) (b3 : n ≤ maxLen) (h : OW w os x)
    (hK : ∀ g z, OW w (os ++ [rowO e size (.slice (some ⟨g, 0, none⟩) 0 n) 0 []]) z → Below x.heap.size x z → wpList P ops Q rest (a.put o.dst (.slice (some ⟨g, 0, none⟩) 0 n)) z) : wpList P ops Q (o :: rest) a x := by
  obtain ⟨ht, ⟨i, z, hi, hz, hsz, hby, _⟩, _⟩ := hS
  subst hby
  refine wpList_make_own x hg l c t hop x.heap.size e i z size ht hi hz hsz .i64 .i64 C n hl hc hC b2 b3 (Nat.le_refl _) fun w' ho hgr => ?_
  have hb := below_grown_none hgr
  exact hK _ _ (h.app (OW.row1 hb ho)) hb
theorem wl_makeN {t e : TypeId} {size bytes : Nat} (hg : o.guard = none) (l c : Operand) (hop : o.op = Op.makeSlice t l c) (hS : SliceOf P t e size bytes) (z : Value) (hz : (P.info? e).bind (·.zero) = some z) (n : Nat) (L C : Int) (hl : a.eval l = .int .i64 L) (hc : a.eval c = .int .i64 C) (hL : L = (n : Int)) (hC : C = (n : Int)) (b2 : bytes * n ≤ 281474976710656) (b3 : n ≤ maxLen) (h : OW w os x)
    (hK : ∀ g y, OW w (os ++ [rowO e size (.slice (some ⟨g, 0, none⟩) n n) n (madeCells z.cells (n * size)).toList]) y → Below x.heap.size x y → wpList P ops Q rest (a.put o.dst (.slice (some ⟨g, 0, none⟩) n n)) y) : wpList P ops Q (o :: rest) a x := by
  obtain ⟨ht, ⟨i, z', hi, hz', hsz, hby, _⟩, _⟩ := hS
  subst hby
  rw [hi] at hz
  have hz : i.zero = some z := hz
  rw [hz'] at hz; injection hz with hz; subst hz
  refine wpList_make_full x hg l c t hop x.heap.size e i z' size ht hi hz' hsz .i64 .i64 L C n hl hc hL hC b2 b3 (Nat.le_refl _) fun w' ho hgr => ?_
  have hb := below_grown_none hgr
  exact hK _ _ (h.app (OW.row1 hb ho)) hb
end
theorem OW.nilRow {w x : World} {os : List Ob} (h : OW w os x) (T : TypeId) (sz : Nat) : OW w (os ++ [rowO T sz (.slice none 0 0) 0 []]) x := h.app ⟨Below.refl _ _, fun o ho => by
  obtain rfl := List.mem_singleton.1 ho
  exact ⟨(fun e => nomatch e), fun _ => own_nil _ _ _ _⟩, List.pairwise_singleton _ _⟩
theorem OW.nilB {w x : World} {os : List Ob} (h : OW w os x) (T : TypeId) : OW w (os ++ [bytO T (none, 0, [])]) x := h.nilRow T 1
theorem OW.bytes2 {w y : World} {T : TypeId} {A : Option Addr} {c : Nat} {l l' : List UInt8} {v : Value} {k k' : Int} {n : Nat} (h : OW w [bytO T (A, c, l)] y) (hl : l = l') (hn : l.length = n) (hk : k = k') (hv : v = .slice A n c) : BytesPost2 T l' k' w (.returned (.tuple #[v, .int .i64 k])) y := by
  subst hl; subst hk; subst hn; subst hv
  exact ⟨A, c, rfl, h.byt (i := 0) rfl, h.up⟩
theorem OW.bytes1 {w y : World} {T : TypeId} {A : Option Addr} {c : Nat} {l l' : List UInt8} {v : Value} {n : Nat} (h : OW w [bytO T (A, c, l)] y) (hl : l = l') (hn : l.length = n) (hv : v = .slice A n c) : BytesPost T l' w (.returned v) y := by
  subst hl; subst hn; subst hv
  exact ⟨A, c, rfl, h.byt (i := 0) rfl, h.up⟩
end Go.Proofs.YtbcljgcilbfblaaDoor
