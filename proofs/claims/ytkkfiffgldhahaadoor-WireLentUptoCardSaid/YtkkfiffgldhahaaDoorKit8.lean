/-
  Rows written full one behind the other, then lengthened. Over any program.
-/
import Derived.Test.YtkkfiffgldhahaaDoorKit7
namespace Go.Proofs.YtkkfiffgldhahaaDoor
open Go.RowKit

abbrev RowL := List (Option Addr × Nat × List UInt8)
/-- The first k rows written full, each with its mark. -/
def fillR (mk : Nat → UInt8) (rs : RowL) (k : Nat) : RowL := rs.mapIdx fun i r => if i < k then (r.1, r.2.1, List.replicate r.2.2.length (mk i)) else r
theorem fillR_len (mk : Nat → UInt8) (rs : RowL) (k : Nat) : (fillR mk rs k).length = rs.length := by simp [fillR]
theorem fillR_get (mk : Nat → UInt8) (rs : RowL) (k i : Nat) : (fillR mk rs k)[i]? = rs[i]?.map fun r => if i < k then (r.1, r.2.1, List.replicate r.2.2.length (mk i)) else r := by simp [fillR, List.getElem?_mapIdx]
theorem fillR_zero (mk : Nat → UInt8) (rs : RowL) : fillR mk rs 0 = rs := by
  apply List.ext_getElem?
  intro i
  rw [fillR_get]
  cases rs[i]? <;> simp
theorem fillR_start {mk : Nat → UInt8} {rs : RowL} {j : Nat} {A : Option Addr} {c : Nat} {l : List UInt8} (h : rs[j]? = some (A, c, l)) (m : UInt8) : (fillR mk rs j).set j (A, c, fillTo l m 0) = fillR mk rs j := by
  apply List.ext_getElem?
  intro i
  rw [List.getElem?_set, fillTo_zero, fillR_len]
  by_cases e : j = i
  · subst e
    rw [if_pos rfl, if_pos (List.getElem?_eq_some_iff.1 h).1, fillR_get, h]
    simp
  · rw [if_neg e]
theorem fillR_done {mk : Nat → UInt8} {rs : RowL} {j : Nat} {A : Option Addr} {c : Nat} {l : List UInt8} (h : rs[j]? = some (A, c, l)) : (fillR mk rs j).set j (A, c, fillTo l (mk j) l.length) = fillR mk rs (j + 1) := by
  apply List.ext_getElem?
  intro i
  rw [List.getElem?_set, fillTo_all, fillR_len, fillR_get, fillR_get]
  by_cases e : j = i
  · subst e
    rw [if_pos rfl, if_pos (List.getElem?_eq_some_iff.1 h).1, h]
    simp
  · rw [if_neg e]
    congr 1
    funext r
    by_cases h1 : i < j
    · rw [if_pos h1, if_pos (by omega)]
    · rw [if_neg h1, if_neg (by omega)]

section
variable {T : TypeId} {base : Nat} {w x : World} {rs : RowL} {mk : Nat → UInt8}
/-- The next byte of the row that is being written. -/
theorem RowsB.fill {j k g c : Nat} {l : List UInt8} (h : RowsB T base w ((fillR mk rs j).set j (some ⟨g, 0, none⟩, c, fillTo l (mk j) k))) (hr : rs[j]? = some (some ⟨g, 0, none⟩, c, l)) (hk : k < l.length) :
    RowsB T base (w.setCell ⟨g, k, none⟩ (u8v (mk j))) ((fillR mk rs j).set j (some ⟨g, 0, none⟩, c, fillTo l (mk j) (k + 1))) ∧ Chg (fun b => b = g) w (w.setCell ⟨g, k, none⟩ (u8v (mk j))) := by
  have hlt := (List.getElem?_eq_some_iff.1 hr).1
  have h2 := h.store (i := j) (k := k) (g := g) (c := c) (l := fillTo l (mk j) k) (by rw [List.getElem?_set, if_pos rfl, if_pos (by rw [fillR_len]; exact hlt)]) (mk j)
  rw [List.set_set, fillTo_set _ hk] at h2
  exact h2
/-- A row's cells. -/
theorem RowsB.cell {i g c k : Nat} {l : List UInt8} (h : RowsB T base w rs) (hr : rs[i]? = some (some ⟨g, 0, none⟩, c, l)) {u : UInt8} (hk : l[k]? = some u) : w.cell? ⟨g, k, none⟩ = some (.int .u8 (u.toNat : Int)) ∧ w.frozen? ⟨g, k, none⟩ = false := by
  have ho : OwnB T base w (some ⟨g, 0, none⟩) c l := h.1 i _ hr
  have hlt := (List.getElem?_eq_some_iff.1 hk).1
  exact ⟨(World.ownsRow.cellAt ho k (by omega)).trans (u8s_at hk), World.ownsRow.frozenAt ho k⟩
theorem RowsB.form {i c : Nat} {A : Option Addr} {l : List UInt8} (h : RowsB T base w rs) (hr : rs[i]? = some (A, c, l)) (hl : 0 < l.length) : ∃ g, A = some ⟨g, 0, none⟩ ∧ base ≤ g ∧ g < w.heap.size := by
  have ho := h.1 i _ hr
  cases A with
  | none =>
    obtain ⟨A', c', e, _, _, h3, _⟩ := own_slice ho
    injection e with e1 e2 e3
    subst e1; subst e3
    have := (ho.cap).2.2 rfl
    have h4 := (ho.cap).1
    simp only at this h4
    omega
  | some a => exact ⟨a.block, by rw [← ho.zero rfl], ho.lt rfl⟩
theorem RowsB.sl_at {i c n : Nat} {A : Option Addr} {l : List UInt8} (h : RowsB T base w rs) (hr : rs[i]? = some (A, c, l)) (hn : l.length = n) : Sl w A n c l := hn ▸ Sl.own (h.1 i _ hr)
theorem RowsB.sl {i c : Nat} {A : Option Addr} {l : List UInt8} (h : RowsB T base w rs) (hr : rs[i]? = some (A, c, l)) : Sl w A l.length c l := Sl.own (h.1 i _ hr)
/-- One row was appended to. -/
theorem RowsB.grow {i c : Nat} {A : Option Addr} {l : List UInt8} (h : RowsB T base w rs) (hr : rs[i]? = some (A, c, l)) (hg : w.grownBy x (A.map (·.block))) (ho : OwnB T base x A c l) : RowsB T base x rs := by
  refine ⟨fun j r hj => ?_, h.2⟩
  by_cases e : j = i
  · subst e
    rw [hr] at hj; injection hj with hj; subst hj
    exact ho
  · refine own_chg (h.1 j r hj) (grown_chg hg) fun g hg' e' => ?_
    obtain ⟨B, d, l'⟩ := r
    cases B with
    | none => cases hg'
    | some b =>
      injection hg' with hg'
      cases A with
      | none => cases e'
      | some a =>
        injection e' with e'
        exact h.2 j i _ _ hj hr e b a rfl rfl (by rw [hg', ← e'])
theorem RowsB.fillRs (h : RowsB T base w rs) {ss : RowL} (hlen : ∀ (i : Nat) s, ss[i]? = some s → ∃ r, rs[i]? = some r ∧ r.1 = s.1) (ho : ∀ (i : Nat) s, ss[i]? = some s → OwnB T base w s.1 s.2.1 s.2.2) : RowsB T base w ss :=
  ⟨ho, fun i j r s hr hs hij a b ha hb => by
    obtain ⟨r', hr', e1⟩ := hlen i r hr
    obtain ⟨s', hs', e2⟩ := hlen j s hs
    exact h.2 i j r' s' hr' hs' hij a b (e1.trans ha) (e2.trans hb)⟩
/-- Some of the rows, in another order. -/
theorem RowsB.pick (h : RowsB T base w rs) {ss : RowL} (f : Nat → Nat) (hf : ∀ i j, i < ss.length → j < ss.length → i ≠ j → f i ≠ f j) (hs : ∀ (i : Nat) s, ss[i]? = some s → rs[f i]? = some s) : RowsB T base w ss :=
  ⟨fun i s hi => h.1 _ s (hs i s hi), fun i j r s hr hs' hij a b ha hb => h.2 (f i) (f j) r s (hs i r hr) (hs j s hs') (hf i j (List.getElem?_eq_some_iff.1 hr).1 (List.getElem?_eq_some_iff.1 hs').1 hij) a b ha hb⟩
end

theorem lit_one8 (w : World) (u : Value) (t : TypeId) (H : Nat) (h : w.heap.size = H) : Reads (w.alloc (.cells #[u] t)) (H + 1) 1 (some ⟨H, 0, none⟩) 1 [u] := by
  subst h; exact Reads.new w #[u] t 1 1 rfl
/-- What was lengthened lies in none of the rows that are still to be lengthened. -/
def Aps (rs : RowL) (k : Nat) (vs : List Value) : Prop := ∀ (i j : Nat) (a b : Addr) (n c : Nat) r, vs[j]? = some (.slice (some a) n c) → 0 < n → k ≤ i → rs[i]? = some r → r.1 = some b → a.block ≠ b.block
theorem Aps.nil (rs : RowL) : Aps rs 0 [] := fun i j a b n c r h => by simp at h
section
variable {T e : TypeId} {base H3 : Nat} {wr w2 w3 : World} {rs : RowL} {v v3 : Value} {vs : List Value} {ks : List (List UInt8)} {k gk ca c' : Nat} {l l' : List UInt8} {A' : Option Addr}
theorem more_own (hown : wr.ownsRow H3 e 1 v k vs) (hg2 : wr.grownBy w2 (some gk)) (hlt : gk < H3) : w2.ownsRow H3 e 1 v k vs :=
  own_chg hown (grown_chg hg2) fun g hg e' => by
    have := (World.ownsRow.lt hown g hg).1
    injection e' with e'; omega
theorem more_step {N : Nat} (hN : l'.length = N) (hR : RowsB T base wr rs) (hk : rs[k]? = some (some ⟨gk, 0, none⟩, ca, l)) (hF : FamS wr v.ownBlock vs ks) (hA : Aps rs k vs) (hown : wr.ownsRow H3 e 1 v k vs)
    (hH : ∀ (i : Nat) r a, rs[i]? = some r → r.1 = some a → a.block < H3) (hle : H3 ≤ wr.heap.size)
    (hg2 : wr.grownBy w2 (some gk)) (ho2 : OwnB T base w2 (some ⟨gk, 0, none⟩) ca l) (hs2 : OwnB T base w2 A' c' l') (hblk : ∀ a, A' = some a → some gk = some a.block ∨ wr.heap.size ≤ a.block)
    (hg3 : (w2.alloc (.cells #[.slice A' N c'] e)).grownBy w3 v.ownBlock) (hat3 : v3.ownBlock = v.ownBlock ∨ v3.ownBlock = some (w2.alloc (.cells #[.slice A' N c'] e)).heap.size) :
    RowsB T base w3 rs ∧ FamS w3 v3.ownBlock (vs ++ [.slice A' N c']) (ks ++ [l']) ∧ Aps rs (k + 1) (vs ++ [.slice A' N c']) ∧ (∀ S : Nat → Prop, S gk → (∀ b, H3 ≤ b → S b) → Chg S wr w3) := by
  subst hN
  have hgkl : gk < H3 := hH k _ ⟨gk, 0, none⟩ hk rfl
  have hal : Below w2.heap.size w2 (w2.alloc (.cells #[.slice A' l'.length c'] e)) := (Below.refl _ _).alloc (Nat.le_refl _) _
  have hvb : ∀ g, v.ownBlock = some g → H3 ≤ g ∧ g < wr.heap.size := fun g hg => World.ownsRow.lt hown g hg
  have hR2 : RowsB T base w2 rs := hR.grow hk hg2 ho2
  have hF2 : FamS w2 v.ownBlock vs ks := hF.chg (grown_chg hg2) fun i q a n c hq hq0 hv e' => by
    have hn : 0 < n := by
      obtain ⟨a2, c2, h1, _, _⟩ := hF.2 i q hq
      rw [hv] at h1; injection h1 with h1; injection h1 with _ h1 _; omega
    injection e' with e'
    exact hA k i a ⟨gk, 0, none⟩ n c _ hv hn (Nat.le_refl _) hk rfl e'.symm
  have hne : 0 < l'.length → ∀ x, A' = some x → some x.block ≠ v.ownBlock := fun _ x hx e' => by
    have h1 := hvb _ e'.symm
    rcases hblk x hx with h | h
    · injection h with h; omega
    · omega
  have hF3 := ((hF2.later hal).snoc ((Sl.own hs2).later hal) hne).step hg3 hat3
  refine ⟨?_, hF3, ?_, fun S h1 h2 => ?_⟩
  · refine (hR2.later hal).chg (grown_chg hg3) fun i r hr a ha e' => ?_
    have h1 := hH i r a hr ha
    have h2 := hvb _ e'
    omega
  · intro i j a b n c r hj hn hi hr hb
    rw [List.getElem?_append] at hj
    split at hj
    · exact hA i j a b n c r hj hn (by omega) hr hb
    · have h0 : j - vs.length = 0 := by
        have := (List.getElem?_eq_some_iff.1 hj).1
        simp at this; omega
      rw [h0] at hj
      injection hj with hj
      injection hj with hj _ _
      rcases hblk a hj with h | h
      · injection h with h
        have := hR.2 k i _ r hk hr (by omega) ⟨gk, 0, none⟩ b rfl hb
        rw [← h]; exact this
      · have h1 := hH i r b hr hb
        omega
  · have c1 : Chg S wr w2 := (grown_chg hg2).mono fun b _ e' => by injection e' with e'; subst e'; exact h1
    have c2 : Chg S w2 (w2.alloc (.cells #[.slice A' l'.length c'] e)) := Below.chg0 hal
    have c3 : Chg S (w2.alloc (.cells #[.slice A' l'.length c'] e)) w3 := (grown_chg hg3).mono fun b _ e' => h2 b (hvb b e').1
    exact (c1.trans c2).trans c3
end

end Go.Proofs.YtkkfiffgldhahaaDoor
