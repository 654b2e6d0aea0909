/-
  Worlds in which only some blocks have changed; rows of bytes of one's own that lie apart; append, cell by cell. Over any program.
-/
import Derived.Test.YtkkfiffgldhahaaDoorKit5
import Derived.Laws.OwnMore
namespace Go.Proofs.YtkkfiffgldhahaaDoor
open Go.RowKit

/-- Of the blocks that were there, only those in S have changed. -/
structure Chg (S : Nat → Prop) (w w' : World) : Prop where
  os : w'.os = w.os
  tape : w'.tape = w.tape
  output : w'.output = w.output
  size : w.heap.size ≤ w'.heap.size
  block : ∀ k, k < w.heap.size → ¬ S k → w'.heap[k]? = w.heap[k]?

section
variable {S S' : Nat → Prop} {w x y : World} {B : Nat} {row : Option Nat}
theorem Chg.refl (S : Nat → Prop) (w : World) : Chg S w w := ⟨rfl, rfl, rfl, Nat.le_refl _, fun _ _ _ => rfl⟩
theorem Chg.trans (h : Chg S w x) (k : Chg S x y) : Chg S w y :=
  ⟨k.os.trans h.os, k.tape.trans h.tape, k.output.trans h.output, Nat.le_trans h.size k.size, fun i hi hs => (k.block i (Nat.lt_of_lt_of_le hi h.size) hs).trans (h.block i hi hs)⟩
theorem Chg.mono (h : Chg S w x) (hs : ∀ k, k < w.heap.size → S k → S' k) : Chg S' w x := ⟨h.os, h.tape, h.output, h.size, fun k hk hn => h.block k hk fun e => hn (hs k hk e)⟩
theorem Below.chg (h : Below B w x) : Chg (fun k => B ≤ k) w x := ⟨h.os, h.tape, h.output, h.size, fun k _ hn => h.block k (by omega)⟩
theorem Below.chg0 (h : Below w.heap.size w x) : Chg S w x := ⟨h.os, h.tape, h.output, h.size, fun k hk _ => h.block k hk⟩
theorem grown_chg (h : w.grownBy x row) : Chg (fun k => row = some k) w x := ⟨h.os, h.tape, h.output, h.size, fun k hk hn => h.block k hk fun e => hn e.symm⟩
theorem Chg.below (h : Chg S w x) (hB : B ≤ w.heap.size) (hs : ∀ k, k < w.heap.size → S k → B ≤ k) : Below B w x :=
  ⟨h.os, h.tape, h.output, h.size, fun k hk => h.block k (by omega) fun e => by have := hs k (by omega) e; omega⟩
theorem Chg.alloc (h : Chg S w x) (o : Obj) : Chg S w (x.alloc o) := h.trans (Below.chg0 ((Below.refl _ _).alloc (Nat.le_refl _) o))
theorem Chg.setCell (w : World) (p : Addr) (v : Value) : Chg (fun k => k = p.block) w (w.setCell p v) :=
  ⟨rfl, rfl, rfl, by simp [World.setCell], fun k _ hn => Below.heap_setCell _ _ _ _ hn⟩
theorem Chg.cell (h : Chg S w x) {p : Addr} {v : Value} (hc : w.cell? p = some v) (hn : ¬ S p.block) : x.cell? p = some v :=
  (World.cell?_of_block (h.block _ (World.block_lt_of_cell? w p hc) hn)).trans hc
theorem Reads.chg {size n : Nat} {A : Option Addr} {xs : List Value} (h : Reads w w.heap.size size A n xs) (hc : Chg S w x) (hn : 0 < n → ∀ a, A = some a → ¬ S a.block) : Reads x x.heap.size size A n xs :=
  ⟨h.1, fun h0 => by
    obtain ⟨b, o, rfl, hb, hcell⟩ := h.2 h0
    exact ⟨b, o, rfl, Nat.lt_of_lt_of_le hb hc.size, fun j u hu => hc.cell (p := ⟨b, o + j, none⟩) (hcell j u hu) (hn h0 ⟨b, o, none⟩ rfl)⟩⟩
theorem Sl.chg {A : Option Addr} {n c : Nat} {l : List UInt8} (h : Sl w A n c l) (hc : Chg S w x) (hn : 0 < n → ∀ a, A = some a → ¬ S a.block) : Sl x A n c l := ⟨Reads.chg h.rb hc hn, h.cap, h.lim, h.nil⟩
theorem own_chg {base e size n : Nat} {v : Value} {xs : List Value} (h : w.ownsRow base e size v n xs) (hc : Chg S w x) (hn : ∀ g, v.ownBlock = some g → ¬ S g) : x.ownsRow base e size v n xs := by
  refine ⟨h.1, ?_⟩
  rcases h.2 with h | ⟨g, cap, cur, rfl, hb, hg, hr⟩
  · exact .inl h
  · refine .inr ⟨g, cap, cur, rfl, hb, ?_, hr⟩
    rw [hc.block g (Array.getElem?_eq_some_iff.1 hg).1 (hn g rfl)]; exact hg
end

/-- Rows of bytes of one's own; no two share a block. -/
def RowsB (T : TypeId) (base : Nat) (w : World) (rs : List (Option Addr × Nat × List UInt8)) : Prop :=
  (∀ (i : Nat) r, rs[i]? = some r → OwnB T base w r.1 r.2.1 r.2.2) ∧ ∀ (i j : Nat) r s, rs[i]? = some r → rs[j]? = some s → i ≠ j → ∀ a b, r.1 = some a → s.1 = some b → a.block ≠ b.block
section
variable {T : TypeId} {base : Nat} {w x : World} {rs : List (Option Addr × Nat × List UInt8)} {S : Nat → Prop}
theorem RowsB.nil : RowsB T base w [] := ⟨fun i r h => by simp at h, fun i j r s h => by simp at h⟩
theorem RowsB.chg (h : RowsB T base w rs) (hc : Chg S w x) (hn : ∀ (i : Nat) r, rs[i]? = some r → ∀ a, r.1 = some a → ¬ S a.block) : RowsB T base x rs :=
  ⟨fun i r hr => own_chg (h.1 i r hr) hc fun g hg => by
    obtain ⟨A, c, l⟩ := r
    cases A with
    | none => cases hg
    | some a => injection hg with hg; subst hg; exact hn i _ hr a rfl, h.2⟩
theorem RowsB.later (h : RowsB T base w rs) (hb : Below w.heap.size w x) : RowsB T base x rs := h.chg (S := fun _ => False) (Below.chg0 hb) fun _ _ _ _ _ e => e
theorem OwnB.lt {A : Option Addr} {c : Nat} {l : List UInt8} (h : OwnB T base w A c l) {a : Addr} (ha : A = some a) : base ≤ a.block ∧ a.block < w.heap.size := by
  subst ha; exact World.ownsRow.lt h a.block rfl
theorem OwnB.zero {A : Option Addr} {c : Nat} {l : List UInt8} (h : OwnB T base w A c l) {a : Addr} (ha : A = some a) : a = ⟨a.block, 0, none⟩ := by
  subst ha
  rcases h.2 with ⟨e, _⟩ | ⟨g, cap, cur, e, _⟩
  · cases e
  · injection e with e; injection e with e; subst e; rfl
theorem RowsB.snoc (h : RowsB T base w rs) {A : Option Addr} {c : Nat} {l : List UInt8} (ho : OwnB T base w A c l) (hne : ∀ (i : Nat) r, rs[i]? = some r → ∀ a b, r.1 = some a → A = some b → a.block ≠ b.block) : RowsB T base w (rs ++ [(A, c, l)]) := by
  have hget : ∀ (i : Nat) r, (rs ++ [(A, c, l)])[i]? = some r → (i < rs.length ∧ rs[i]? = some r) ∨ (i = rs.length ∧ r = (A, c, l)) := by
    intro i r hr
    rw [List.getElem?_append] at hr
    split at hr
    · rename_i hi; exact .inl ⟨hi, hr⟩
    · rename_i hi
      have h0 : i - rs.length = 0 := by
        have := (List.getElem?_eq_some_iff.1 hr).1
        simp at this; omega
      rw [h0] at hr
      injection hr with hr
      exact .inr ⟨by omega, hr.symm⟩
  refine ⟨fun i r hr => ?_, fun i j r s hr hs hij a b ha hb => ?_⟩
  · rcases hget i r hr with ⟨_, h1⟩ | ⟨_, rfl⟩
    · exact h.1 i r h1
    · exact ho
  · rcases hget i r hr with ⟨h0, h1⟩ | ⟨h0, rfl⟩ <;> rcases hget j s hs with ⟨k0, k1⟩ | ⟨k0, rfl⟩
    · exact h.2 i j r s h1 k1 hij a b ha hb
    · exact hne i r h1 a b ha hb
    · exact fun e => hne j s k1 b a hb ha e.symm
    · omega
/-- A row that was made since. -/
theorem RowsB.fresh (h : RowsB T base w rs) (hb : Below w.heap.size w x) {A : Option Addr} {c : Nat} {l : List UInt8} (ho : OwnB T w.heap.size x A c l) (hle : base ≤ w.heap.size) : RowsB T base x (rs ++ [(A, c, l)]) :=
  (h.later hb).snoc (ho.rebase hle) fun i r hr a b ha hb' e => by
    have h1 := ((h.1 i r hr).lt ha).2
    have h2 := (ho.lt hb').1
    omega
theorem u8s_set5 (l : List UInt8) (k : Nat) (x : UInt8) : (u8s l).set k (u8v x) = u8s (l.set k x) := by
  unfold u8s
  rw [List.map_set]
/-- One byte of one row is written. -/
theorem RowsB.store (h : RowsB T base w rs) {i k g c : Nat} {l : List UInt8} (hr : rs[i]? = some (some ⟨g, 0, none⟩, c, l)) (u : UInt8) :
    RowsB T base (w.setCell ⟨g, k, none⟩ (u8v u)) (rs.set i (some ⟨g, 0, none⟩, c, l.set k u)) ∧ Chg (fun b => b = g) w (w.setCell ⟨g, k, none⟩ (u8v u)) := by
  have hC := Chg.setCell w ⟨g, k, none⟩ (u8v u)
  have ho := h.1 i _ hr
  have hs := World.ownsRow.stored ho k (u8v u)
  rw [u8s_set5] at hs
  have hlt : i < rs.length := (List.getElem?_eq_some_iff.1 hr).1
  have hget : ∀ (j : Nat) r, (rs.set i (some ⟨g, 0, none⟩, c, l.set k u))[j]? = some r → (j = i ∧ r = (some ⟨g, 0, none⟩, c, l.set k u)) ∨ (j ≠ i ∧ rs[j]? = some r) := by
    intro j r hj
    rw [List.getElem?_set] at hj
    by_cases e : i = j
    · subst e
      rw [if_pos rfl, if_pos hlt] at hj
      injection hj with hj
      exact .inl ⟨rfl, hj.symm⟩
    · rw [if_neg e] at hj
      exact .inr ⟨fun h => e h.symm, hj⟩
  refine ⟨⟨fun j r hj => ?_, fun j q r s hj hq hjq a b ha hb => ?_⟩, hC⟩
  · rcases hget j r hj with ⟨rfl, rfl⟩ | ⟨hne, hj⟩
    · have := hs.1
      show World.ownsRow _ _ _ _ _ _ _
      rw [List.length_set]
      exact this
    · refine own_chg (h.1 j r hj) hC fun b hb e => ?_
      obtain ⟨A, c', l'⟩ := r
      cases A with
      | none => cases hb
      | some a =>
        injection hb with hb
        subst hb
        exact h.2 j i _ _ hj hr hne a ⟨g, 0, none⟩ rfl rfl e
  · rcases hget j r hj with ⟨rfl, rfl⟩ | ⟨hne, hj1⟩ <;> rcases hget q s hq with ⟨rfl, rfl⟩ | ⟨hne', hq1⟩
    · exact absurd rfl hjq
    · injection ha with ha; subst ha
      exact h.2 j q _ s hr hq1 hjq _ b rfl hb
    · injection hb with hb; subst hb
      exact h.2 j q r _ hj1 hr hjq a _ ha rfl
    · exact h.2 j q r s hj1 hq1 hjq a b ha hb
end

theorem spot_none6 {w : World} {a : Addr} {v : Value} (h : w.cell? a = some v) : a.spot = none := by
  unfold World.cell? at h
  split at h
  · split at h
    · cases h
    · rename_i h'; simpa using h'
  · cases h
section
variable {P : Program} (w : World)
/-- append onto a row of one's own: besides what the kit says: the old value still owns what it owned; each old cell is as it was, or lies in the row behind what it held and holds what was appended. -/
theorem run_append_cells {t ty e : TypeId} {bytes : Nat} (hs : SliceOf P t e 1 bytes) (base : Nat) (v : Value) (n : Nat) (xs : List Value) (hown : w.ownsRow base e 1 v n xs)
    (B : Nat) (A : Option Addr) (m c : Nat) (news : List Value) (hr : Reads w B 1 A m news) (h1 : ∀ u ∈ news, u.oneCell' = true)
    (h63 : n + m ≤ maxLen) (hbytes : (n + m) * bytes ≤ 140737488355328) (hbase : base ≤ w.heap.size) :
    ∃ v' w', (Builtin.append_ #[t, t] ty #[v, .slice A m c]).run P w = .ok v' w' ∧ w'.ownsRow base e 1 v' (n + m) (xs ++ news) ∧ w.grownBy w' v.ownBlock ∧
      (v'.ownBlock = v.ownBlock ∨ v'.ownBlock = some w.heap.size) ∧ w'.ownsRow base e 1 v n xs ∧
      (∀ p u, w.cell? p = some u → w'.cell? p = some u ∨ (some p.block = v.ownBlock ∧ p.spot = none ∧ n ≤ p.off ∧ p.off < n + m ∧ w'.cell? p = news[p.off - n]?)) := by
  obtain ⟨v', w', hrun, q1, q2, q3⟩ := run_append_reads (P := P) w (ty := ty) hs base v n xs hown B A m c news hr h1 h63 hbytes hbase
  refine ⟨v', w', hrun, q1, q2, q3, ?_⟩
  -- where nothing that was there turns
  have still : (∀ k, k < w.heap.size → w'.heap[k]? = w.heap[k]?) → w'.ownsRow base e 1 v n xs ∧ (∀ p u, w.cell? p = some u → w'.cell? p = some u ∨ (some p.block = v.ownBlock ∧ p.spot = none ∧ n ≤ p.off ∧ p.off < n + m ∧ w'.cell? p = news[p.off - n]?)) := fun hk => by
    have hb : Below w.heap.size w w' := ⟨q2.os, q2.tape, q2.output, q2.size, hk⟩
    exact ⟨own_below hown hb, fun p u hp => .inl (cell_below hb hp)⟩
  obtain ⟨ht, ⟨i, z, hi, hz, hsize, hby, hzs⟩, hsz⟩ := hs
  rcases hown.2 with ⟨rfl, rfl⟩ | ⟨g, cap, cur, rfl, hbg, hg, hnc, hcm, hcs, htake⟩
  · exact still fun k hk => q2.block k hk (by simp [Value.ownBlock])
  · rcases A with _ | ad
    · have hm : m = 0 := by
        rcases Nat.eq_zero_or_pos m with h0 | h0
        · exact h0
        · obtain ⟨b, o, h, _⟩ := hr.2 h0
          cases h
      subst hm
      have hrun' := run_append_of_nil w base t ty e i 1 ht hi (.slice (some ⟨g, 0, none⟩) n cap) n xs hown c
      rw [hrun'] at hrun
      injection hrun with hv hw
      subst hw
      exact still fun _ _ => rfl
    · have hcells : ∀ j u, news[j]? = some u → w.cell? (ad.add j) = some u := by
        intro j u hu
        rcases Nat.eq_zero_or_pos m with h0 | h0
        · subst h0
          have hn : news = [] := List.eq_nil_of_length_eq_zero (by simpa using hr.1)
          subst hn
          simp at hu
        · obtain ⟨b, o, h, _, hc⟩ := hr.2 h0
          injection h with h
          subst h
          have := hc j u hu
          unfold Addr.add
          split
          · rename_i h0; subst h0; exact this
          · exact this
      have hnl : news.length = m := by have := hr.1; omega
      have hcl : cur.size = cap := by rw [hcs, Nat.mul_one]
      by_cases hroom : n + m ≤ cap
      · have hrun' := run_append_room (P := P) w t ty e i ht hi g n cap cur hg ad m c news (by rw [hsize, Nat.mul_one]; exact hnl) hcells h1 hroom (by rw [hsize, Nat.mul_one, hnl]; omega)
        rw [hrun'] at hrun
        injection hrun with hv hw
        rw [hsize, Nat.mul_one, hnl] at hw
        obtain ⟨cs, hcsd⟩ : ∃ cs : List Value, cs = cur.toList.take n ++ news ++ cur.toList.drop (n + m) := ⟨_, rfl⟩
        rw [← hcsd] at hw
        have hclen : cs.length = cap := by
          rw [hcsd, List.length_append, List.length_append, List.length_take, List.length_drop, Array.length_toList, hcl, hnl]; omega
        have hgw : w'.heap[g]? = some (.cells cs.toArray e (0, 0)) := by rw [← hw]; exact setRow_heap w g cur _ e _ hg
        have hcell : ∀ j, w'.cell? ⟨g, j, none⟩ = cs[j]? := fun j => by
          rw [cell_of_row w' g j _ e _ hgw]; simp
        have hcell0 : ∀ j, w.cell? ⟨g, j, none⟩ = cur.toList[j]? := fun j => by
          rw [cell_of_row w g j _ e _ hg]; simp
        refine ⟨⟨hown.1, .inr ⟨g, cap, cs.toArray, rfl, hbg, hgw, hnc, hcm, by simp [hclen], ?_⟩⟩, fun p u hp => ?_⟩
        · have htl : (cur.toList.take n).length = n := by rw [List.length_take, Array.length_toList, hcl]; omega
          rw [Nat.mul_one] at htake ⊢
          show cs.take n = xs
          rw [hcsd, List.append_assoc, List.take_left' htl]
          exact htake
        · by_cases hpg : p.block = g
          · have hsp := spot_none6 hp
            obtain ⟨pb, po, ps⟩ := p
            simp at hpg hsp
            subst hpg; subst hsp
            rw [hcell0] at hp
            by_cases h2 : n ≤ po ∧ po < n + m
            · refine .inr ⟨rfl, rfl, h2.1, h2.2, ?_⟩
              rw [hcell, hcsd, List.getElem?_append_left (by rw [List.length_append, List.length_take, Array.length_toList, hcl, hnl]; omega), List.getElem?_append_right (by rw [List.length_take, Array.length_toList, hcl]; omega)]
              rw [List.length_take, Array.length_toList, hcl, Nat.min_eq_left (by omega)]
            · refine .inl ?_
              rw [hcell, hcsd]
              by_cases h3 : po < n
              · rw [List.append_assoc, List.getElem?_append_left (by rw [List.length_take, Array.length_toList, hcl]; omega), List.getElem?_take_of_lt h3]
                exact hp
              · rw [List.getElem?_append_right (by rw [List.length_append, List.length_take, Array.length_toList, hcl, hnl]; omega), List.getElem?_drop, List.length_append, List.length_take, Array.length_toList, hcl, hnl, Nat.min_eq_left (by omega)]
                rw [show n + m + (po - (n + m)) = po from by omega]
                exact hp
          · exact .inl (q2.cell hp (fun e => hpg (by injection e)))
      · have holds : ∀ j u, xs[j]? = some u → w.cell? ((⟨g, 0, none⟩ : Addr).add j) = some u := hown.cells (g := g) rfl
        have hrun' := run_append_grow (P := P) w t ty e i z ht hi hz ⟨g, 0, none⟩ n cap xs (by rw [hsize]; exact hown.1) holds ad m c news (by rw [hsize, Nat.mul_one]; exact hnl) hcells (by omega) (by unfold maxLen at h63; omega) (growslice_fits (by omega) (by rw [hby]; exact hbytes))
        rw [hrun'] at hrun
        injection hrun with hv hw
        refine still fun k hk => ?_
        rw [← hw]
        exact heap_alloc_old w.drew _ hk
end

end Go.Proofs.YtkkfiffgldhahaaDoor
