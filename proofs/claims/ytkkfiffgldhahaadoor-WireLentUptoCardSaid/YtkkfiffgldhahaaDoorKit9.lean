/-
  Two lists of one's own that hold rows of one's own: all of them apart. Over any program.
-/
import Derived.Test.YtkkfiffgldhahaaDoorKit8
namespace Go.Proofs.YtkkfiffgldhahaaDoor
open Go.RowKit

/-- A row as a list holds it. -/
def valR (r : Option Addr × Nat × List UInt8) : Value := .slice r.1 r.2.2.length r.2.1
/-- None of the rows lies in the list's block. -/
def Off (v : Value) (zs : RowL) : Prop := ∀ g, v.ownBlock = some g → ∀ (i : Nat) r a, zs[i]? = some r → r.1 = some a → a.block ≠ g
structure ApSt (T e : TypeId) (B : Nat) (w : World) (lv wv : Value) (rs ws ps : RowL) : Prop where
  rows : RowsB T B w (rs ++ ws ++ ps)
  ol : w.ownsRow B e 1 lv rs.length (rs.map valR)
  ow : w.ownsRow B e 1 wv ws.length (ws.map valR)
  al : Off lv (rs ++ ws ++ ps)
  aw : Off wv (rs ++ ws ++ ps)
  ne : ∀ g, lv.ownBlock = some g → wv.ownBlock ≠ some g
  le : B ≤ w.heap.size
theorem move_get (rs ws ps : RowL) (i : Nat) : (rs ++ ps ++ ws)[i]? = (rs ++ ws ++ ps)[if i < rs.length then i else if i < rs.length + ps.length then i + ws.length else if i < rs.length + ps.length + ws.length then i - ps.length else i]? := by
  by_cases h1 : i < rs.length
  · rw [if_pos h1, List.append_assoc, List.append_assoc, List.getElem?_append_left h1, List.getElem?_append_left h1]
  · rw [if_neg h1]
    by_cases h2 : i < rs.length + ps.length
    · rw [if_pos h2, List.getElem?_append_left (by rw [List.length_append]; exact h2), List.getElem?_append_right (by omega), List.getElem?_append_right (by rw [List.length_append]; omega), List.length_append]
      congr 1; omega
    · rw [if_neg h2]
      by_cases h3 : i < rs.length + ps.length + ws.length
      · rw [if_pos h3, List.getElem?_append_right (by rw [List.length_append]; omega), List.length_append, List.getElem?_append_left (by rw [List.length_append]; omega), List.getElem?_append_right (by omega)]
        congr 1; omega
      · rw [if_neg h3, List.getElem?_eq_none (by rw [List.length_append, List.length_append]; omega), List.getElem?_eq_none (by rw [List.length_append, List.length_append]; omega)]
section
variable {T e : TypeId} {B : Nat} {w x : World} {lv wv v' : Value} {rs ws ps : RowL}
theorem RowsB.move (h : RowsB T B w (rs ++ ws ++ ps)) : RowsB T B w (rs ++ ps ++ ws) := by
  refine h.pick (fun i => if i < rs.length then i else if i < rs.length + ps.length then i + ws.length else if i < rs.length + ps.length + ws.length then i - ps.length else i) (fun i j hi hj hij => ?_) fun i s hs => by rw [← move_get]; exact hs
  simp only [List.length_append] at hi hj
  split <;> split <;> (try split) <;> (try split) <;> (try split) <;> (try split) <;> omega
theorem Off.move {v : Value} (h : Off v (rs ++ ws ++ ps)) : Off v (rs ++ ps ++ ws) := fun g hg i r a hr ha => h g hg _ r a (by rw [← move_get]; exact hr) ha
theorem ApSt.nil (h : B ≤ w.heap.size) : ApSt T e B w (.slice none 0 0) (.slice none 0 0) [] [] [] :=
  ⟨RowsB.nil, own_nil _ _ _ _, own_nil _ _ _ _, fun g hg => (by cases hg), fun g hg => (by cases hg), fun g hg => (by cases hg), h⟩
theorem ApSt.later (h : ApSt T e B w lv wv rs ws ps) (hb : Below w.heap.size w x) : ApSt T e B x lv wv rs ws ps :=
  ⟨h.rows.later hb, own_below h.ol hb, own_below h.ow hb, h.al, h.aw, h.ne, Nat.le_trans h.le hb.size⟩
theorem off_snoc {v : Value} {A : Option Addr} {c : Nat} {l : List UInt8} {zs : RowL} (h : Off v zs) (hv : ∀ g, v.ownBlock = some g → g < w.heap.size) (ho : OwnB T w.heap.size x A c l) : Off v (zs ++ [(A, c, l)]) := fun g hg i r a hr ha => by
  rw [List.getElem?_append] at hr
  split at hr
  · exact h g hg i r a hr ha
  · have h0 : i - zs.length = 0 := by
      have := (List.getElem?_eq_some_iff.1 hr).1
      simp at this; omega
    rw [h0] at hr
    injection hr with hr; subst hr
    have h1 := (ho.lt ha).1
    have h2 := hv g hg
    omega
theorem ApSt.fresh (h : ApSt T e B w lv wv rs ws ps) (hb : Below w.heap.size w x) {A : Option Addr} {c : Nat} {l : List UInt8} (ho : OwnB T w.heap.size x A c l) : ApSt T e B x lv wv rs ws (ps ++ [(A, c, l)]) := by
  have h' := h.later hb
  refine ⟨?_, h'.ol, h'.ow, ?_, ?_, h.ne, h'.le⟩
  · rw [← List.append_assoc]; exact h.rows.fresh hb ho h.le
  · rw [← List.append_assoc]; exact off_snoc h.al (own_row_lt h.ol) ho
  · rw [← List.append_assoc]; exact off_snoc h.aw (own_row_lt h.ow) ho
theorem off_grown {v v' : Value} {zs : RowL} (h : Off v zs) (hat : v'.ownBlock = v.ownBlock ∨ v'.ownBlock = some w.heap.size) (hR : RowsB T B w zs) : Off v' zs := fun g hg i r a hr ha => by
  rcases hat with e | e
  · exact h g (e ▸ hg) i r a hr ha
  · rw [e] at hg; injection hg with hg
    have := ((hR.1 i r hr).lt ha).2
    omega
theorem rows_grown {v : Value} {zs : RowL} (hR : RowsB T B w zs) (h : Off v zs) (hg : w.grownBy x v.ownBlock) : RowsB T B x zs :=
  hR.chg (grown_chg hg) fun i r hr a ha e => h a.block e i r a hr ha rfl
/-- What is pending goes into the first list. -/
theorem ApSt.appL (h : ApSt T e B w lv wv rs ws ps) {o : Obj} {n : Nat} {us : List Value} (hn : rs.length + ps.length = n) (hu : rs.map valR ++ ps.map valR = us) (ho : x.ownsRow B e 1 v' n us) (hg : (w.alloc o).grownBy x lv.ownBlock) (hat : v'.ownBlock = lv.ownBlock ∨ v'.ownBlock = some (w.alloc o).heap.size) : ApSt T e B x v' wv (rs ++ ps) ws [] := by
  subst hn; subst hu
  have ha : ApSt T e B (w.alloc o) lv wv rs ws ps := h.later ((Below.refl _ _).alloc (Nat.le_refl _) o)
  refine ⟨?_, ?_, own_chg ha.ow (grown_chg hg) fun g hg hu => ha.ne g hu hg, ?_, ?_, fun g hg hu => ?_, Nat.le_trans ha.le hg.size⟩
  · rw [List.append_nil]; exact (rows_grown ha.rows ha.al hg).move
  · rw [List.length_append, List.map_append]; exact ho
  · rw [List.append_nil]; exact (off_grown ha.al hat ha.rows).move
  · rw [List.append_nil]; exact ha.aw.move
  · rcases hat with e | e
    · exact ha.ne g (e ▸ hg) hu
    · rw [e] at hg; injection hg with hg
      have := own_row_lt ha.ow g hu
      omega
/-- .. into the second. -/
theorem ApSt.appW (h : ApSt T e B w lv wv rs ws ps) {o : Obj} {n : Nat} {us : List Value} (hn : ws.length + ps.length = n) (hu : ws.map valR ++ ps.map valR = us) (ho : x.ownsRow B e 1 v' n us) (hg : (w.alloc o).grownBy x wv.ownBlock) (hat : v'.ownBlock = wv.ownBlock ∨ v'.ownBlock = some (w.alloc o).heap.size) : ApSt T e B x lv v' rs (ws ++ ps) [] := by
  subst hn; subst hu
  have ha : ApSt T e B (w.alloc o) lv wv rs ws ps := h.later ((Below.refl _ _).alloc (Nat.le_refl _) o)
  refine ⟨?_, own_chg ha.ol (grown_chg hg) fun g hg hu => ha.ne g hg hu, ?_, ?_, ?_, fun g hg hu => ?_, Nat.le_trans ha.le hg.size⟩
  · rw [List.append_nil, ← List.append_assoc]; exact rows_grown ha.rows ha.aw hg
  · rw [List.length_append, List.map_append]; exact ho
  · rw [List.append_nil, ← List.append_assoc]; exact ha.al
  · rw [List.append_nil, ← List.append_assoc]; exact off_grown ha.aw hat ha.rows
  · rcases hat with e | e
    · exact ha.ne g hg (e ▸ hu)
    · rw [e] at hu; injection hu with hu
      have := own_row_lt ha.ol g hg
      omega
end

/-- The lengthened ones. -/
def moreL (mk : Nat → UInt8) (rs : RowL) (q : Nat) : List (List UInt8) := (List.range q).map fun i => List.replicate (2 * ((rs[i]?.map fun r => r.2.2.length).getD 0) + 70) (mk i)
theorem moreL_zero (mk : Nat → UInt8) (rs : RowL) : moreL mk rs 0 = [] := rfl
theorem moreL_succ (mk : Nat → UInt8) {rs : RowL} {q : Nat} {A : Option Addr} {c : Nat} {l : List UInt8} (h : rs[q]? = some (A, c, l)) : moreL mk rs (q + 1) = moreL mk rs q ++ [List.replicate (2 * l.length + 70) (mk q)] := by simp [moreL, List.range_succ, h]
theorem moreL_at (mk : Nat → UInt8) {rs : RowL} {q i : Nat} (hi : i < q) {A : Option Addr} {c : Nat} {l : List UInt8} (h : rs[i]? = some (A, c, l)) : (moreL mk rs q)[i]? = some (List.replicate (2 * l.length + 70) (mk i)) := by simp [moreL, List.getElem?_map, List.getElem?_range hi, h]
section
variable {T e : TypeId} {base H3 : Nat} {wr w2 w3 : World} {rs : RowL} {v v3 : Value} {vs : List Value} {ks : List (List UInt8)} {k ca c' : Nat} {l l' : List UInt8} {A A' : Option Addr}
theorem more_own2 (hown : wr.ownsRow H3 e 1 v k vs) (hg2 : wr.grownBy w2 (A.map (·.block))) (hlt : ∀ a, A = some a → a.block < H3) : w2.ownsRow H3 e 1 v k vs :=
  own_chg hown (grown_chg hg2) fun g hg e' => by
    have := (World.ownsRow.lt hown g hg).1
    cases A with
    | none => cases e'
    | some a => injection e' with e'; have : a.block < H3 := hlt a rfl; have e'' : a.block = g := e'; omega
/-- more_step, of any row. -/
theorem more_step2 {N : Nat} (hN : l'.length = N) (hR : RowsB T base wr rs) (hk : rs[k]? = some (A, ca, l)) (hF : FamS wr v.ownBlock vs ks) (hA : Aps rs k vs) (hown : wr.ownsRow H3 e 1 v k vs)
    (hH : ∀ (i : Nat) r a, rs[i]? = some r → r.1 = some a → a.block < H3) (hle : H3 ≤ wr.heap.size)
    (hg2 : wr.grownBy w2 (A.map (·.block))) (ho2 : OwnB T base w2 A ca l) (hs2 : OwnB T base w2 A' c' l') (hblk : ∀ a, A' = some a → A.map (·.block) = some a.block ∨ wr.heap.size ≤ a.block)
    (hg3 : (w2.alloc (.cells #[.slice A' N c'] e)).grownBy w3 v.ownBlock) (hat3 : v3.ownBlock = v.ownBlock ∨ v3.ownBlock = some (w2.alloc (.cells #[.slice A' N c'] e)).heap.size) :
    RowsB T base w3 rs ∧ FamS w3 v3.ownBlock (vs ++ [.slice A' N c']) (ks ++ [l']) ∧ Aps rs (k + 1) (vs ++ [.slice A' N c']) ∧ (∀ S : Nat → Prop, (∀ a, A = some a → S a.block) → (∀ b, H3 ≤ b → S b) → Chg S wr w3) := by
  subst hN
  have hgkl : ∀ a, A = some a → a.block < H3 := fun a ha => hH k _ a hk ha
  have hal : Below w2.heap.size w2 (w2.alloc (.cells #[.slice A' l'.length c'] e)) := (Below.refl _ _).alloc (Nat.le_refl _) _
  have hvb : ∀ g, v.ownBlock = some g → H3 ≤ g ∧ g < wr.heap.size := fun g hg => World.ownsRow.lt hown g hg
  have hR2 : RowsB T base w2 rs := hR.grow hk hg2 ho2
  have hF2 : FamS w2 v.ownBlock vs ks := hF.chg (grown_chg hg2) fun i q a n c hq hq0 hv e' => by
    have hn : 0 < n := by
      obtain ⟨a2, c2, h1, _, _⟩ := hF.2 i q hq
      rw [hv] at h1; injection h1 with h1; injection h1 with _ h1 _; omega
    cases A with
    | none => cases e'
    | some b =>
      injection e' with e'
      exact hA k i a b n c _ hv hn (Nat.le_refl _) hk rfl e'.symm
  have hne : 0 < l'.length → ∀ x, A' = some x → some x.block ≠ v.ownBlock := fun _ x hx e' => by
    have h1 := hvb _ e'.symm
    rcases hblk x hx with h | h
    · cases A with
      | none => cases h
      | some b => injection h with h; have h3 : b.block < H3 := hgkl b rfl; have h4 : b.block = x.block := h; omega
    · omega
  have hF3 := ((hF2.later hal).snoc ((Sl.own hs2).later hal) hne).step hg3 hat3
  refine ⟨?_, hF3, ?_, fun S h1 h2 => ?_⟩
  · refine (hR2.later hal).chg (grown_chg hg3) fun i r hr a ha e' => ?_
    have h1 := hH i r a hr ha
    have h2 := hvb _ e'
    omega
  · intro i j a b n c r hj hn hi hr hb
    rw [List.getElem?_append] at hj
    split at hj
    · exact hA i j a b n c r hj hn (by omega) hr hb
    · have h0 : j - vs.length = 0 := by
        have := (List.getElem?_eq_some_iff.1 hj).1
        simp at this; omega
      rw [h0] at hj
      injection hj with hj
      injection hj with hj _ _
      rcases hblk a hj with h | h
      · cases A with
        | none => cases h
        | some g =>
          injection h with h
          have := hR.2 k i _ r hk hr (by omega) g b rfl hb
          rw [← h]; exact this
      · have h1 := hH i r b hr hb
        omega
  · have c1 : Chg S wr w2 := (grown_chg hg2).mono fun b _ e' => by
      cases A with
      | none => cases e'
      | some g => injection e' with e'; subst e'; exact h1 g rfl
    have c2 : Chg S w2 (w2.alloc (.cells #[.slice A' l'.length c'] e)) := Below.chg0 hal
    have c3 : Chg S (w2.alloc (.cells #[.slice A' l'.length c'] e)) w3 := (grown_chg hg3).mono fun b _ e' => h2 b (hvb b e').1
    exact (c1.trans c2).trans c3
end

end Go.Proofs.YtkkfiffgldhahaaDoor
