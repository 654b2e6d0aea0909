/-
  A book: a struct of two lists, one of rows, one of copies of them. Over any program.
-/
import Derived.Test.YtkkfiffgldhahaaDoorKit10
namespace Go.Proofs.YtkkfiffgldhahaaDoor
open Go.RowKit

structure BkC (w : World) (g : Nat) (lv wv : Value) : Prop where
  c0 : w.cell? ⟨g, 0, none⟩ = some lv
  c1 : w.cell? ⟨g, 1, none⟩ = some wv
  f0 : w.frozen? ⟨g, 0, none⟩ = false
  f1 : w.frozen? ⟨g, 1, none⟩ = false
def pickR (zs : RowL) (is : List Nat) : RowL := is.map fun i => zs[i]?.getD (none, 0, [])
structure BkH (T e : TypeId) (B g : Nat) (w : World) (lv wv : Value) (zs : RowL) (is js : List Nat) : Prop where
  box : BkC w g lv wv
  gB : g < B
  le : B ≤ w.heap.size
  rows : RowsB T B w zs
  ol : w.ownsRow B e 1 lv is.length ((pickR zs is).map valR)
  ow : w.ownsRow B e 1 wv js.length ((pickR zs js).map valR)
  al : Off lv zs
  aw : Off wv zs
  ne : ∀ g, lv.ownBlock = some g → wv.ownBlock ≠ some g
  nd : (is ++ js).Nodup
  lt : ∀ i, i ∈ is ++ js → i < zs.length
/-- Each copy holds what its row holds. -/
def SameC (zs : RowL) (is js : List Nat) : Prop := is.length = js.length ∧ ∀ (k i j : Nat), is[k]? = some i → js[k]? = some j → ∀ a c l, zs[i]? = some (a, c, l) → ∃ a' c', zs[j]? = some (a', c', l)
def Far (g : Nat) (lv wv : Value) (b : Nat) : Prop := b ≠ g ∧ lv.ownBlock ≠ some b ∧ wv.ownBlock ≠ some b
section
variable {T e : TypeId} {B g : Nat} {w x : World} {lv wv v' : Value} {zs rs : RowL} {is js : List Nat} {S : Nat → Prop}
theorem BkC.chg (h : BkC w g lv wv) (hc : Chg S w x) (hn : ¬ S g) : BkC x g lv wv := by
  have hlt : g < w.heap.size := World.block_lt_of_cell? w ⟨g, 0, none⟩ h.c0
  have hb := hc.block g hlt hn
  exact ⟨hc.cell h.c0 hn, hc.cell h.c1 hn, (World.frozen?_of_block (w := w) hb).trans h.f0, (World.frozen?_of_block (w := w) hb).trans h.f1⟩
theorem BkC.set0 (h : BkC w g lv wv) (v : Value) : BkC (w.setCell ⟨g, 0, none⟩ v) g v wv :=
  ⟨World.cell?_setCell_same _ _ _ h.c0, (World.cell?_setCell_other _ _ _ _ (by simp)).trans h.c1, by rw [World.frozen?_setCell]; exact h.f0, by rw [World.frozen?_setCell]; exact h.f1⟩
theorem BkC.set1 (h : BkC w g lv wv) (v : Value) : BkC (w.setCell ⟨g, 1, none⟩ v) g lv v :=
  ⟨(World.cell?_setCell_other _ _ _ _ (by simp)).trans h.c0, World.cell?_setCell_same _ _ _ h.c1, by rw [World.frozen?_setCell]; exact h.f0, by rw [World.frozen?_setCell]; exact h.f1⟩
theorem pickR_app {zs rs : RowL} {is : List Nat} (h : ∀ i, i ∈ is → i < zs.length) : pickR (zs ++ rs) is = pickR zs is := by
  unfold pickR
  apply List.map_congr_left
  intro i hi
  rw [List.getElem?_append_left (h i hi)]
theorem pickR_snoc (zs : RowL) (is : List Nat) {i : Nat} {r : Option Addr × Nat × List UInt8} (h : zs[i]? = some r) : pickR zs (is ++ [i]) = pickR zs is ++ [r] := by
  unfold pickR
  rw [List.map_append, List.map_cons, List.map_nil, h]; rfl
theorem pickR_at {zs : RowL} {is : List Nat} {k i : Nat} {r : Option Addr × Nat × List UInt8} (hk : is[k]? = some i) (h : zs[i]? = some r) : (pickR zs is)[k]? = some r := by
  unfold pickR
  rw [List.getElem?_map, hk, Option.map_some, h]; rfl
theorem pickR_get {zs : RowL} {is : List Nat} (hl : ∀ i, i ∈ is → i < zs.length) {k : Nat} {r : Option Addr × Nat × List UInt8} (h : (pickR zs is)[k]? = some r) : ∃ i, is[k]? = some i ∧ zs[i]? = some r := by
  unfold pickR at h
  rw [List.getElem?_map] at h
  cases hk : is[k]? with
  | none => rw [hk] at h; cases h
  | some i =>
    rw [hk] at h
    injection h with h
    have h : zs[i]?.getD (none, 0, []) = r := h
    refine ⟨i, rfl, ?_⟩
    have hi := hl i (List.mem_of_getElem? hk)
    rw [List.getElem?_eq_getElem hi] at h ⊢
    rw [← h]; rfl
theorem RowsB.pickL (h : RowsB T B w zs) (hn : is.Nodup) (hl : ∀ i, i ∈ is → i < zs.length) : RowsB T B w (pickR zs is) := by
  refine ⟨fun k r hr => ?_, fun k q r s hr hs hkq a b ha hb => ?_⟩
  · obtain ⟨i, _, h2⟩ := pickR_get hl hr
    exact h.1 i r h2
  · obtain ⟨i, h1, h2⟩ := pickR_get hl hr
    obtain ⟨j, h3, h4⟩ := pickR_get hl hs
    refine h.2 i j r s h2 h4 (fun e => hkq ?_) a b ha hb
    subst e
    obtain ⟨p1, p2⟩ := List.getElem?_eq_some_iff.1 h1
    obtain ⟨p3, p4⟩ := List.getElem?_eq_some_iff.1 h3
    have hpw := List.pairwise_iff_getElem.1 hn
    rcases Nat.lt_trichotomy k q with h5 | h5 | h5
    · exact absurd (p2.trans p4.symm) (hpw k q p1 p3 h5)
    · exact h5
    · exact absurd (p4.trans p2.symm) (hpw q k p3 p1 h5)
theorem RowsB.app (h : RowsB T B w zs) (hb : Below w.heap.size w x) (hr : RowsB T w.heap.size x rs) (hle : B ≤ w.heap.size) : RowsB T B x (zs ++ rs) := by
  have hz := h.later hb
  refine ⟨fun i r hi => ?_, fun i j r s hi hj hij a b ha hb' => ?_⟩
  · rw [List.getElem?_append] at hi
    split at hi
    · exact hz.1 i r hi
    · exact (hr.1 _ r hi).rebase hle
  · rw [List.getElem?_append] at hi hj
    split at hi <;> split at hj
    · exact hz.2 i j r s hi hj hij a b ha hb'
    · have h1 := ((h.1 i r hi).lt ha).2
      have h2 := ((hr.1 _ s hj).lt hb').1
      omega
    · have h1 := ((hr.1 _ r hi).lt ha).1
      have h2 := ((h.1 j s hj).lt hb').2
      omega
    · exact hr.2 _ _ r s hi hj (by omega) a b ha hb'
theorem off_app {v : Value} (h : Off v zs) (hv : ∀ g, v.ownBlock = some g → g < w.heap.size) (hr : RowsB T w.heap.size x rs) : Off v (zs ++ rs) := fun g hg i r a hi ha => by
  rw [List.getElem?_append] at hi
  split at hi
  · exact h g hg i r a hi ha
  · have h1 := ((hr.1 _ r hi).lt ha).1
    have h2 := hv g hg
    omega
theorem BkH.add (h : BkH T e B g w lv wv zs is js) (hb : Below w.heap.size w x) (hr : RowsB T w.heap.size x rs) : BkH T e B g x lv wv (zs ++ rs) is js := by
  have hlt : g < w.heap.size := Nat.lt_of_lt_of_le h.gB h.le
  refine ⟨h.box.chg (S := fun _ => False) (Below.chg0 hb) (fun e => e), h.gB, Nat.le_trans h.le hb.size, h.rows.app hb hr h.le, ?_, ?_, off_app h.al (own_row_lt h.ol) hr, off_app h.aw (own_row_lt h.ow) hr, h.ne, h.nd, fun i hi => ?_⟩
  · rw [pickR_app fun i hi => h.lt i (List.mem_append_left _ hi)]; exact own_below h.ol hb
  · rw [pickR_app fun i hi => h.lt i (List.mem_append_right _ hi)]; exact own_below h.ow hb
  · have := h.lt i hi
    rw [List.length_append]; omega
theorem BkH.later (h : BkH T e B g w lv wv zs is js) (hb : Below w.heap.size w x) : BkH T e B g x lv wv zs is js := by
  have h1 := h.add hb (rs := []) RowsB.nil
  rw [List.append_nil] at h1
  exact h1
theorem own_ge {w : World} {base e size n : Nat} {v : Value} {xs : List Value} (h : w.ownsRow base e size v n xs) : ∀ g, v.ownBlock = some g → base ≤ g := fun g hg => (World.ownsRow.lt h g hg).1
theorem own_set {n : Nat} {v : Value} {xs : List Value} (h : w.ownsRow B e 1 v n xs) (hg : g < B) (k : Nat) (u : Value) : (w.setCell ⟨g, k, none⟩ u).ownsRow B e 1 v n xs :=
  own_chg h (Chg.setCell w ⟨g, k, none⟩ u) fun b hb e' => by have := own_ge h b hb; simp only at e'; omega
theorem rows_set (h : RowsB T B w zs) (hg : g < B) (k : Nat) (u : Value) : RowsB T B (w.setCell ⟨g, k, none⟩ u) zs :=
  h.chg (Chg.setCell w ⟨g, k, none⟩ u) fun i r hr a ha e' => by have := ((h.1 i r hr).lt ha).1; simp only at e'; omega
theorem BkH.appL (h : BkH T e B g w lv wv zs is js) {i : Nat} {r : Option Addr × Nat × List UInt8} (hi : zs[i]? = some r) (hni : i ∉ is ++ js) {o : Obj} {us : List Value} (hu : us = [valR r])
    (ho : x.ownsRow B e 1 v' (is.length + 1) ((pickR zs is).map valR ++ us)) (hg : (w.alloc o).grownBy x lv.ownBlock) (hat : v'.ownBlock = lv.ownBlock ∨ v'.ownBlock = some (w.alloc o).heap.size) :
    BkH T e B g (x.setCell ⟨g, 0, none⟩ v') v' wv zs (is ++ [i]) js ∧ Chg (fun b => b = g ∨ lv.ownBlock = some b) w (x.setCell ⟨g, 0, none⟩ v') ∧ (∀ b, b < w.heap.size → lv.ownBlock ≠ some b → v'.ownBlock ≠ some b) := by
  subst hu
  have ha := h.later ((Below.refl _ _).alloc (Nat.le_refl _) o)
  have hgl : lv.ownBlock ≠ some g := fun e' => by have := own_ge h.ol g e'; have := h.gB; omega
  have hbx := (ha.box.chg (grown_chg hg) hgl).set0 v'
  refine ⟨⟨hbx, h.gB, ?_, ?_, ?_, ?_, off_grown ha.al hat ha.rows, ha.aw, fun b hb hu => ?_, ?_, fun k hk => ?_⟩, ?_, fun b hb hne e' => ?_⟩
  · rw [World.size_setCell]; exact Nat.le_trans ha.le hg.size
  · exact rows_set (rows_grown ha.rows ha.al hg) h.gB 0 v'
  · rw [pickR_snoc zs is hi, List.length_append, List.map_append]; exact own_set ho h.gB 0 v'
  · exact own_set (own_chg ha.ow (grown_chg hg) fun b hb hu => ha.ne b hu hb) h.gB 0 v'
  · rcases hat with e' | e'
    · exact ha.ne b (e' ▸ hb) hu
    · rw [e'] at hb; injection hb with hb
      have := own_row_lt ha.ow b hu
      omega
  · have hp : (is ++ js ++ [i]).Perm (is ++ [i] ++ js) := by
      rw [List.append_assoc, List.append_assoc]
      exact List.Perm.append_left _ List.perm_append_comm
    refine hp.nodup ?_
    rw [List.nodup_append]
    refine ⟨h.nd, by simp, fun a ha b hb => ?_⟩
    simp at hb
    intro e'
    exact hni (hb ▸ e' ▸ ha)
  · rw [List.append_assoc] at hk
    rcases List.mem_append.1 hk with h1 | h1
    · exact h.lt k (List.mem_append_left _ h1)
    · rcases List.mem_append.1 h1 with h2 | h2
      · simp at h2
        subst h2
        exact (List.getElem?_eq_some_iff.1 hi).1
      · exact h.lt k (List.mem_append_right _ h2)
  · have c1 : Chg (fun b => b = g ∨ lv.ownBlock = some b) w (w.alloc o) := Below.chg0 ((Below.refl _ _).alloc (Nat.le_refl _) o)
    have c2 : Chg (fun b => b = g ∨ lv.ownBlock = some b) (w.alloc o) x := (grown_chg hg).mono fun b _ hb => .inr hb
    have c3 : Chg (fun b => b = g ∨ lv.ownBlock = some b) x (x.setCell ⟨g, 0, none⟩ v') := (Chg.setCell x ⟨g, 0, none⟩ v').mono fun b _ hb => .inl hb
    exact (c1.trans c2).trans c3
  · rcases hat with h1 | h1
    · exact hne (h1 ▸ e')
    · rw [h1] at e'; injection e' with e'
      have : (w.alloc o).heap.size = b := e'
      simp at this; omega
theorem BkH.appW (h : BkH T e B g w lv wv zs is js) {i : Nat} {r : Option Addr × Nat × List UInt8} (hi : zs[i]? = some r) (hni : i ∉ is ++ js) {o : Obj} {us : List Value} (hu : us = [valR r])
    (ho : x.ownsRow B e 1 v' (js.length + 1) ((pickR zs js).map valR ++ us)) (hg : (w.alloc o).grownBy x wv.ownBlock) (hat : v'.ownBlock = wv.ownBlock ∨ v'.ownBlock = some (w.alloc o).heap.size) :
    BkH T e B g (x.setCell ⟨g, 1, none⟩ v') lv v' zs is (js ++ [i]) ∧ Chg (fun b => b = g ∨ wv.ownBlock = some b) w (x.setCell ⟨g, 1, none⟩ v') ∧ (∀ b, b < w.heap.size → wv.ownBlock ≠ some b → v'.ownBlock ≠ some b) := by
  subst hu
  have ha := h.later ((Below.refl _ _).alloc (Nat.le_refl _) o)
  have hgl : wv.ownBlock ≠ some g := fun e' => by have := own_ge h.ow g e'; have := h.gB; omega
  have hbx := (ha.box.chg (grown_chg hg) hgl).set1 v'
  refine ⟨⟨hbx, h.gB, ?_, ?_, ?_, ?_, ha.al, off_grown ha.aw hat ha.rows, fun b hb hu => ?_, ?_, fun k hk => ?_⟩, ?_, fun b hb hne e' => ?_⟩
  · rw [World.size_setCell]; exact Nat.le_trans ha.le hg.size
  · exact rows_set (rows_grown ha.rows ha.aw hg) h.gB 1 v'
  · exact own_set (own_chg ha.ol (grown_chg hg) fun b hb hu => ha.ne b hb hu) h.gB 1 v'
  · rw [pickR_snoc zs js hi, List.length_append, List.map_append]; exact own_set ho h.gB 1 v'
  · rcases hat with e' | e'
    · exact ha.ne b hb (e' ▸ hu)
    · rw [e'] at hu; injection hu with hu
      have := own_row_lt ha.ol b hb
      omega
  · rw [← List.append_assoc, List.nodup_append]
    refine ⟨h.nd, by simp, fun a ha b hb => ?_⟩
    simp at hb
    intro e'
    exact hni (hb ▸ e' ▸ ha)
  · rw [← List.append_assoc] at hk
    rcases List.mem_append.1 hk with h1 | h1
    · exact h.lt k h1
    · simp at h1
      subst h1
      exact (List.getElem?_eq_some_iff.1 hi).1
  · have c1 : Chg (fun b => b = g ∨ wv.ownBlock = some b) w (w.alloc o) := Below.chg0 ((Below.refl _ _).alloc (Nat.le_refl _) o)
    have c2 : Chg (fun b => b = g ∨ wv.ownBlock = some b) (w.alloc o) x := (grown_chg hg).mono fun b _ hb => .inr hb
    have c3 : Chg (fun b => b = g ∨ wv.ownBlock = some b) x (x.setCell ⟨g, 1, none⟩ v') := (Chg.setCell x ⟨g, 1, none⟩ v').mono fun b _ hb => .inl hb
    exact (c1.trans c2).trans c3
  · rcases hat with h1 | h1
    · exact hne (h1 ▸ e')
    · rw [h1] at e'; injection e' with e'
      have : (w.alloc o).heap.size = b := e'
      simp at this; omega
theorem SameC.keep {i : Nat} {a a' : Option Addr} {c c' : Nat} {l : List UInt8} (h : SameC zs is js) (hl : ∀ i, i ∈ is ++ js → i < zs.length) (hi : zs[i]? = some (a, c, l)) : SameC (zs ++ [(a', c', l)]) (is ++ [i]) (js ++ [zs.length]) := by
  refine ⟨by rw [List.length_append, List.length_append, h.1]; rfl, fun k p q hp hq b d m hz => ?_⟩
  rw [List.getElem?_append] at hp hq
  split at hp
  · rename_i hk
    rw [if_pos (by rw [← h.1]; exact hk)] at hq
    have hpm := hl p (List.mem_append_left _ (List.mem_of_getElem? hp))
    have hqm := hl q (List.mem_append_right _ (List.mem_of_getElem? hq))
    rw [List.getElem?_append_left hpm] at hz
    obtain ⟨b', d', hz'⟩ := h.2 k p q hp hq b d m hz
    exact ⟨b', d', by rw [List.getElem?_append_left hqm]; exact hz'⟩
  · rename_i hk
    rw [if_neg (by rw [← h.1]; exact hk)] at hq
    have h0 : k - is.length = 0 := by
      have := (List.getElem?_eq_some_iff.1 hp).1
      simp at this; omega
    rw [h0] at hp
    rw [← h.1, h0] at hq
    injection hp with hp
    injection hq with hq
    subst hp; subst hq
    rw [List.getElem?_append_left (List.getElem?_eq_some_iff.1 hi).1, hi] at hz
    injection hz with hz
    injection hz with _ hz
    injection hz with _ hz
    subst hz
    exact ⟨a', c', by rw [List.getElem?_append_right (Nat.le_refl _), Nat.sub_self]; rfl⟩
theorem SameC.app (h : SameC zs is js) (hl : ∀ i, i ∈ is ++ js → i < zs.length) (rs : RowL) : SameC (zs ++ rs) is js :=
  ⟨h.1, fun k p q hp hq b d m hz => by
    have hpm := hl p (List.mem_append_left _ (List.mem_of_getElem? hp))
    have hqm := hl q (List.mem_append_right _ (List.mem_of_getElem? hq))
    rw [List.getElem?_append_left hpm] at hz
    obtain ⟨b', d', hz'⟩ := h.2 k p q hp hq b d m hz
    exact ⟨b', d', by rw [List.getElem?_append_left hqm]; exact hz'⟩⟩
end

end Go.Proofs.YtkkfiffgldhahaaDoor
