/-
  Laid together by merge.py: Kit9, Kit10, Kit11, Kit13, WireW5, WireW10, WireW11, CellW3, Kit14, WireW12, CellW4, CellP3, CellW5, CellW6, WireW3, WireW4, WireW6, WireW7, WireW9, CellW8, CellR1.
-/
import Derived.Test.YtmigjipfomfacaaDoorBk1
import Derived.Deep.QuietTactic
import Derived.BigQuiet
import Derived.Laws.OwnMore
import Derived.Deep.DeepCutAuto
import Derived.Deep.RegionHeld3

/-
  Two lists of one's own that hold rows of one's own: all of them apart. Over any program.
-/
namespace Go.Proofs.YtmigjipfomfacaaDoor
open Go.RowKit

/-- A row as a list holds it. -/
def valR (r : Option Addr × Nat × List UInt8) : Value := .slice r.1 r.2.2.length r.2.1
/-- None of the rows lies in the list's block. -/
def Off (v : Value) (zs : RowL) : Prop := ∀ g, v.ownBlock = some g → ∀ (i : Nat) r a, zs[i]? = some r → r.1 = some a → a.block ≠ g
structure ApSt (T e : TypeId) (B : Nat) (w : World) (lv wv : Value) (rs ws ps : RowL) : Prop where
  rows : RowsB T B w (rs ++ ws ++ ps)
  ol : w.ownsRow B e 1 lv rs.length (rs.map valR)
  ow : w.ownsRow B e 1 wv ws.length (ws.map valR)
  al : Off lv (rs ++ ws ++ ps)
  aw : Off wv (rs ++ ws ++ ps)
  ne : ∀ g, lv.ownBlock = some g → wv.ownBlock ≠ some g
  le : B ≤ w.heap.size
theorem move_get (rs ws ps : RowL) (i : Nat) : (rs ++ ps ++ ws)[i]? = (rs ++ ws ++ ps)[if i < rs.length then i else if i < rs.length + ps.length then i + ws.length else if i < rs.length + ps.length + ws.length then i - ps.length else i]? := by
  by_cases h1 : i < rs.length
  · rw [if_pos h1, List.append_assoc, List.append_assoc, List.getElem?_append_left h1, List.getElem?_append_left h1]
  · rw [if_neg h1]
    by_cases h2 : i < rs.length + ps.length
    · rw [if_pos h2, List.getElem?_append_left (by rw [List.length_append]; exact h2), List.getElem?_append_right (by omega), List.getElem?_append_right (by rw [List.length_append]; omega), List.length_append]
      congr 1; omega
    · rw [if_neg h2]
      by_cases h3 : i < rs.length + ps.length + ws.length
      · rw [if_pos h3, List.getElem?_append_right (by rw [List.length_append]; omega), List.length_append, List.getElem?_append_left (by rw [List.length_append]; omega), List.getElem?_append_right (by omega)]
        congr 1; omega
      · rw [if_neg h3, List.getElem?_eq_none (by rw [List.length_append, List.length_append]; omega), List.getElem?_eq_none (by rw [List.length_append, List.length_append]; omega)]
section
variable {T e : TypeId} {B : Nat} {w x : World} {lv wv v' : Value} {rs ws ps : RowL}
theorem RowsB.move (h : RowsB T B w (rs ++ ws ++ ps)) : RowsB T B w (rs ++ ps ++ ws) := by
  refine h.pick (fun i => if i < rs.length then i else if i < rs.length + ps.length then i + ws.length else if i < rs.length + ps.length + ws.length then i - ps.length else i) (fun i j hi hj hij => ?_) fun i s hs => by rw [← move_get]; exact hs
  simp only [List.length_append] at hi hj
  split <;> split <;> (try split) <;> (try split) <;> (try split) <;> (try split) <;> omega
theorem Off.move {v : Value} (h : Off v (rs ++ ws ++ ps)) : Off v (rs ++ ps ++ ws) := fun g hg i r a hr ha => h g hg _ r a (by rw [← move_get]; exact hr) ha
theorem ApSt.nil (h : B ≤ w.heap.size) : ApSt T e B w (.slice none 0 0) (.slice none 0 0) [] [] [] :=
  ⟨RowsB.nil, own_nil _ _ _ _, own_nil _ _ _ _, fun g hg => (by cases hg), fun g hg => (by cases hg), fun g hg => (by cases hg), h⟩
theorem ApSt.later (h : ApSt T e B w lv wv rs ws ps) (hb : Below w.heap.size w x) : ApSt T e B x lv wv rs ws ps :=
  ⟨h.rows.later hb, own_below h.ol hb, own_below h.ow hb, h.al, h.aw, h.ne, Nat.le_trans h.le hb.size⟩
theorem off_snoc {v : Value} {A : Option Addr} {c : Nat} {l : List UInt8} {zs : RowL} (h : Off v zs) (hv : ∀ g, v.ownBlock = some g → g < w.heap.size) (ho : OwnB T w.heap.size x A c l) : Off v (zs ++ [(A, c, l)]) := fun g hg i r a hr ha => by
  rw [List.getElem?_append] at hr
  split at hr
  · exact h g hg i r a hr ha
  · have h0 : i - zs.length = 0 := by
      have := (List.getElem?_eq_some_iff.1 hr).1
      simp at this; omega
    rw [h0] at hr
    injection hr with hr; subst hr
    have h1 := (ho.lt ha).1
    have h2 := hv g hg
    omega
theorem ApSt.fresh (h : ApSt T e B w lv wv rs ws ps) (hb : Below w.heap.size w x) {A : Option Addr} {c : Nat} {l : List UInt8} (ho : OwnB T w.heap.size x A c l) : ApSt T e B x lv wv rs ws (ps ++ [(A, c, l)]) := by
  have h' := h.later hb
  refine ⟨?_, h'.ol, h'.ow, ?_, ?_, h.ne, h'.le⟩
  · rw [← List.append_assoc]; exact h.rows.fresh hb ho h.le
  · rw [← List.append_assoc]; exact off_snoc h.al (own_row_lt h.ol) ho
  · rw [← List.append_assoc]; exact off_snoc h.aw (own_row_lt h.ow) ho
theorem off_grown {v v' : Value} {zs : RowL} (h : Off v zs) (hat : v'.ownBlock = v.ownBlock ∨ v'.ownBlock = some w.heap.size) (hR : RowsB T B w zs) : Off v' zs := fun g hg i r a hr ha => by
  rcases hat with e | e
  · exact h g (e ▸ hg) i r a hr ha
  · rw [e] at hg; injection hg with hg
    have := ((hR.1 i r hr).lt ha).2
    omega
theorem rows_grown {v : Value} {zs : RowL} (hR : RowsB T B w zs) (h : Off v zs) (hg : w.grownBy x v.ownBlock) : RowsB T B x zs :=
  hR.chg (grown_chg hg) fun i r hr a ha e => h a.block e i r a hr ha rfl
/-- What is pending goes into the first list. -/
theorem ApSt.appL (h : ApSt T e B w lv wv rs ws ps) {o : Obj} {n : Nat} {us : List Value} (hn : rs.length + ps.length = n) (hu : rs.map valR ++ ps.map valR = us) (ho : x.ownsRow B e 1 v' n us) (hg : (w.alloc o).grownBy x lv.ownBlock) (hat : v'.ownBlock = lv.ownBlock ∨ v'.ownBlock = some (w.alloc o).heap.size) : ApSt T e B x v' wv (rs ++ ps) ws [] := by
  subst hn; subst hu
  have ha : ApSt T e B (w.alloc o) lv wv rs ws ps := h.later ((Below.refl _ _).alloc (Nat.le_refl _) o)
  refine ⟨?_, ?_, own_chg ha.ow (grown_chg hg) fun g hg hu => ha.ne g hu hg, ?_, ?_, fun g hg hu => ?_, Nat.le_trans ha.le hg.size⟩
  · rw [List.append_nil]; exact (rows_grown ha.rows ha.al hg).move
  · rw [List.length_append, List.map_append]; exact ho
  · rw [List.append_nil]; exact (off_grown ha.al hat ha.rows).move
  · rw [List.append_nil]; exact ha.aw.move
  · rcases hat with e | e
    · exact ha.ne g (e ▸ hg) hu
    · rw [e] at hg; injection hg with hg
      have := own_row_lt ha.ow g hu
      omega
/-- .. into the second. -/
theorem ApSt.appW (h : ApSt T e B w lv wv rs ws ps) {o : Obj} {n : Nat} {us : List Value} (hn : ws.length + ps.length = n) (hu : ws.map valR ++ ps.map valR = us) (ho : x.ownsRow B e 1 v' n us) (hg : (w.alloc o).grownBy x wv.ownBlock) (hat : v'.ownBlock = wv.ownBlock ∨ v'.ownBlock = some (w.alloc o).heap.size) : ApSt T e B x lv v' rs (ws ++ ps) [] := by
  subst hn; subst hu
  have ha : ApSt T e B (w.alloc o) lv wv rs ws ps := h.later ((Below.refl _ _).alloc (Nat.le_refl _) o)
  refine ⟨?_, own_chg ha.ol (grown_chg hg) fun g hg hu => ha.ne g hg hu, ?_, ?_, ?_, fun g hg hu => ?_, Nat.le_trans ha.le hg.size⟩
  · rw [List.append_nil, ← List.append_assoc]; exact rows_grown ha.rows ha.aw hg
  · rw [List.length_append, List.map_append]; exact ho
  · rw [List.append_nil, ← List.append_assoc]; exact ha.al
  · rw [List.append_nil, ← List.append_assoc]; exact off_grown ha.aw hat ha.rows
  · rcases hat with e | e
    · exact ha.ne g hg (e ▸ hu)
    · rw [e] at hu; injection hu with hu
      have := own_row_lt ha.ol g hg
      omega
end

/-- The lengthened ones. -/
def moreL (mk : Nat → UInt8) (rs : RowL) (q : Nat) : List (List UInt8) := (List.range q).map fun i => List.replicate (2 * ((rs[i]?.map fun r => r.2.2.length).getD 0) + 70) (mk i)
theorem moreL_zero (mk : Nat → UInt8) (rs : RowL) : moreL mk rs 0 = [] := rfl
theorem moreL_succ (mk : Nat → UInt8) {rs : RowL} {q : Nat} {A : Option Addr} {c : Nat} {l : List UInt8} (h : rs[q]? = some (A, c, l)) : moreL mk rs (q + 1) = moreL mk rs q ++ [List.replicate (2 * l.length + 70) (mk q)] := by simp [moreL, List.range_succ, h]
theorem moreL_at (mk : Nat → UInt8) {rs : RowL} {q i : Nat} (hi : i < q) {A : Option Addr} {c : Nat} {l : List UInt8} (h : rs[i]? = some (A, c, l)) : (moreL mk rs q)[i]? = some (List.replicate (2 * l.length + 70) (mk i)) := by simp [moreL, List.getElem?_map, List.getElem?_range hi, h]
section
variable {T e : TypeId} {base H3 : Nat} {wr w2 w3 : World} {rs : RowL} {v v3 : Value} {vs : List Value} {ks : List (List UInt8)} {k ca c' : Nat} {l l' : List UInt8} {A A' : Option Addr}
theorem more_own2 (hown : wr.ownsRow H3 e 1 v k vs) (hg2 : wr.grownBy w2 (A.map (·.block))) (hlt : ∀ a, A = some a → a.block < H3) : w2.ownsRow H3 e 1 v k vs :=
  own_chg hown (grown_chg hg2) fun g hg e' => by
    have := (World.ownsRow.lt hown g hg).1
    cases A with
    | none => cases e'
    | some a => injection e' with e'; have : a.block < H3 := hlt a rfl; have e'' : a.block = g := e'; omega
/-- more_step, of any row. -/
theorem more_step2 {N : Nat} (hN : l'.length = N) (hR : RowsB T base wr rs) (hk : rs[k]? = some (A, ca, l)) (hF : FamS wr v.ownBlock vs ks) (hA : Aps rs k vs) (hown : wr.ownsRow H3 e 1 v k vs)
    (hH : ∀ (i : Nat) r a, rs[i]? = some r → r.1 = some a → a.block < H3) (hle : H3 ≤ wr.heap.size)
    (hg2 : wr.grownBy w2 (A.map (·.block))) (ho2 : OwnB T base w2 A ca l) (hs2 : OwnB T base w2 A' c' l') (hblk : ∀ a, A' = some a → A.map (·.block) = some a.block ∨ wr.heap.size ≤ a.block)
    (hg3 : (w2.alloc (.cells #[.slice A' N c'] e)).grownBy w3 v.ownBlock) (hat3 : v3.ownBlock = v.ownBlock ∨ v3.ownBlock = some (w2.alloc (.cells #[.slice A' N c'] e)).heap.size) :
    RowsB T base w3 rs ∧ FamS w3 v3.ownBlock (vs ++ [.slice A' N c']) (ks ++ [l']) ∧ Aps rs (k + 1) (vs ++ [.slice A' N c']) ∧ (∀ S : Nat → Prop, (∀ a, A = some a → S a.block) → (∀ b, H3 ≤ b → S b) → Chg S wr w3) := by
  subst hN
  have hgkl : ∀ a, A = some a → a.block < H3 := fun a ha => hH k _ a hk ha
  have hal : Below w2.heap.size w2 (w2.alloc (.cells #[.slice A' l'.length c'] e)) := (Below.refl _ _).alloc (Nat.le_refl _) _
  have hvb : ∀ g, v.ownBlock = some g → H3 ≤ g ∧ g < wr.heap.size := fun g hg => World.ownsRow.lt hown g hg
  have hR2 : RowsB T base w2 rs := hR.grow hk hg2 ho2
  have hF2 : FamS w2 v.ownBlock vs ks := hF.chg (grown_chg hg2) fun i q a n c hq hq0 hv e' => by
    have hn : 0 < n := by
      obtain ⟨a2, c2, h1, _, _⟩ := hF.2 i q hq
      rw [hv] at h1; injection h1 with h1; injection h1 with _ h1 _; omega
    cases A with
    | none => cases e'
    | some b =>
      injection e' with e'
      exact hA k i a b n c _ hv hn (Nat.le_refl _) hk rfl e'.symm
  have hne : 0 < l'.length → ∀ x, A' = some x → some x.block ≠ v.ownBlock := fun _ x hx e' => by
    have h1 := hvb _ e'.symm
    rcases hblk x hx with h | h
    · cases A with
      | none => cases h
      | some b => injection h with h; have h3 : b.block < H3 := hgkl b rfl; have h4 : b.block = x.block := h; omega
    · omega
  have hF3 := ((hF2.later hal).snoc ((Sl.own hs2).later hal) hne).step hg3 hat3
  refine ⟨?_, hF3, ?_, fun S h1 h2 => ?_⟩
  · refine (hR2.later hal).chg (grown_chg hg3) fun i r hr a ha e' => ?_
    have h1 := hH i r a hr ha
    have h2 := hvb _ e'
    omega
  · intro i j a b n c r hj hn hi hr hb
    rw [List.getElem?_append] at hj
    split at hj
    · exact hA i j a b n c r hj hn (by omega) hr hb
    · have h0 : j - vs.length = 0 := by
        have := (List.getElem?_eq_some_iff.1 hj).1
        simp at this; omega
      rw [h0] at hj
      injection hj with hj
      injection hj with hj _ _
      rcases hblk a hj with h | h
      · cases A with
        | none => cases h
        | some g =>
          injection h with h
          have := hR.2 k i _ r hk hr (by omega) g b rfl hb
          rw [← h]; exact this
      · have h1 := hH i r b hr hb
        omega
  · have c1 : Chg S wr w2 := (grown_chg hg2).mono fun b _ e' => by
      cases A with
      | none => cases e'
      | some g => injection e' with e'; subst e'; exact h1 g rfl
    have c2 : Chg S w2 (w2.alloc (.cells #[.slice A' l'.length c'] e)) := Below.chg0 hal
    have c3 : Chg S (w2.alloc (.cells #[.slice A' l'.length c'] e)) w3 := (grown_chg hg3).mono fun b _ e' => h2 b (hvb b e').1
    exact (c1.trans c2).trans c3
end

end Go.Proofs.YtmigjipfomfacaaDoor

/-
  A list of one's own that holds rows of one's own; rows lengthened, cell by cell. Over any program.
-/
namespace Go.Proofs.YtmigjipfomfacaaDoor
open Go.RowKit

/-- A list of rows; all of it one's own, all apart. -/
structure LR (T e : TypeId) (B : Nat) (w : World) (A : Option Addr) (n c : Nat) (rs : RowL) (ks : List (List UInt8)) : Prop where
  ol : w.ownsRow B e 1 (.slice A n c) n (rs.map valR)
  rows : RowsB T B w rs
  off : Off (.slice A n c) rs
  cont : rs.map (·.2.2) = ks
  len : rs.length = n
theorem cont_one10 {zs : RowL} {L : List (List UInt8)} (h : zs.map (·.2.2) = L) {k : Nat} {F : List UInt8} (hk : L[k]? = some F) : ∃ a ca, zs[k]? = some (a, ca, F) := by
  rw [← h, List.getElem?_map] at hk
  cases hz : zs[k]? with
  | none => rw [hz] at hk; cases hk
  | some r =>
    rw [hz] at hk; injection hk with hk
    exact ⟨r.1, r.2.1, by rw [← hk]⟩
section
variable {T e : TypeId} {B n c : Nat} {w x : World} {lv wv : Value} {A : Option Addr} {rs : RowL} {ks : List (List UInt8)} {S : Nat → Prop}
theorem ApSt.lr (h : ApSt T e B w lv wv rs [] []) (hk : rs.map (·.2.2) = ks) (hn : rs.length = n) : ∃ A c, lv = .slice A n c ∧ LR T e B w A n c rs ks := by
  obtain ⟨h1, h2, _, h3, _⟩ := h
  rw [List.append_nil, List.append_nil] at h1 h3
  rw [hn] at h2
  obtain ⟨A, c, rfl, _⟩ := own_slice h2
  exact ⟨A, c, rfl, h2, h1, h3, hk, hn⟩
theorem LR.len_ks (h : LR T e B w A n c rs ks) : ks.length = n := by rw [← h.cont, List.length_map, h.len]
theorem LR.chg (h : LR T e B w A n c rs ks) (hc : Chg S w x) (h1 : ∀ a, A = some a → ¬ S a.block) (h2 : ∀ (i : Nat) r a, rs[i]? = some r → r.1 = some a → ¬ S a.block) : LR T e B x A n c rs ks :=
  ⟨own_chg h.ol hc fun g hg => by
    cases A with
    | none => cases hg
    | some a => injection hg with hg; subst hg; exact h1 a rfl, h.rows.chg hc fun i r hr a ha => h2 i r a hr ha, h.off, h.cont, h.len⟩
theorem LR.later (h : LR T e B w A n c rs ks) (hb : Below w.heap.size w x) : LR T e B x A n c rs ks := h.chg (S := fun _ => False) (Below.chg0 hb) (fun _ _ e => e) fun _ _ _ _ _ e => e
theorem LR.cell (h : LR T e B w A n c rs ks) {i : Nat} {a : Option Addr} {ca : Nat} {l : List UInt8} (hr : rs[i]? = some (a, ca, l)) : ∃ g, A = some ⟨g, 0, none⟩ ∧ B ≤ g ∧ g < w.heap.size ∧ w.cell? ⟨g, i, none⟩ = some (.slice a l.length ca) := by
  have hlt := (List.getElem?_eq_some_iff.1 hr).1
  have hn := h.len
  obtain ⟨g, cap, hv, h1, h2, _⟩ := own_form h.ol (by omega)
  injection hv with hv _ _
  subst hv
  exact ⟨g, rfl, h1, h2, (World.ownsRow.cellAt h.ol i (by omega)).trans (by rw [List.getElem?_map, hr]; rfl)⟩
theorem LR.at_ (h : LR T e B w A n c rs ks) {i : Nat} {l : List UInt8} (hk : ks[i]? = some l) : ∃ a ca, rs[i]? = some (a, ca, l) ∧ Sl w a l.length ca l := by
  obtain ⟨a, ca, hr⟩ := cont_one10 h.cont hk
  exact ⟨a, ca, hr, h.rows.sl hr⟩
theorem LR.kv (h : LR T e B w A n c rs ks) : KV w w.heap.size (rs.map valR) ks :=
  ⟨by rw [List.length_map, h.len, h.len_ks], fun i k hk => by
    obtain ⟨a, ca, hr, hs⟩ := h.at_ hk
    exact ⟨a, ca, by rw [List.getElem?_map, hr]; rfl, hs.cap, hs.lim, hs.nil, hs.rb⟩⟩
theorem LR.rbs (h : LR T e B w A n c rs ks) : RBs w w.heap.size A n ks := h.kv.rbs (Reads.own h.ol)
end

/-- A slice that begins with n bytes and goes on with t alone: behind an append of t's to a row that is at least n long, wherever that lies, it is what it was. -/
theorem Sl.retail {w x : World} {A : Option Addr} {n N M N' c : Nat} {l : List UInt8} {t : UInt8} {row : Option Nat} (h : Sl w A (n + N) c (l ++ List.replicate N t)) (hl : l.length = n) (hA : ∀ a, A = some a → a.off = 0) (hM : n ≤ M)
    (hc : ∀ p u, w.cell? p = some u → x.cell? p = some u ∨ (some p.block = row ∧ p.spot = Option.none ∧ M ≤ p.off ∧ p.off < M + N' ∧ x.cell? p = (u8s (List.replicate N' t))[p.off - M]?)) (hsz : w.heap.size ≤ x.heap.size) : Sl x A (n + N) c (l ++ List.replicate N t) := by
  refine ⟨RB.mk' h.len fun h0 => ?_, h.cap, h.lim, h.nil⟩
  obtain ⟨b, o, e, hb, hcell⟩ := h.rb.2 h0
  have ho : o = 0 := hA ⟨b, o, Option.none⟩ e
  refine ⟨b, o, e, Nat.lt_of_lt_of_le hb hsz, fun j u hj => ?_⟩
  have h1 := hcell j _ (u8s_at hj)
  rcases hc _ _ h1 with h2 | ⟨_, _, h2, h3, h4⟩
  · exact h2
  · simp only at h2 h3 h4
    rw [h4]
    have hj' : u = t := by
      rw [List.getElem?_append_right (by omega), List.getElem?_replicate] at hj
      split at hj
      · injection hj with hj; exact hj.symm
      · cases hj
    rw [hj']
    refine u8s_at ?_
    rw [List.getElem?_replicate, if_pos (by omega)]
theorem own_off {T : TypeId} {base : Nat} {w : World} {A : Option Addr} {c : Nat} {l : List UInt8} (h : OwnB T base w A c l) : ∀ a, A = some a → a.off = 0 := fun a ha => by rw [h.zero ha]

/-- The lengthened ones of the first q rows, three of each. -/
def moreW (mk tl : Nat → UInt8) (rs : RowL) (q : Nat) : List (List UInt8) := (List.range q).flatMap fun i =>
  [List.replicate ((rs[i]?.map fun r => r.2.2.length).getD 0) (mk i) ++ List.replicate 1 (tl i), List.replicate ((rs[i]?.map fun r => r.2.2.length).getD 0) (mk i) ++ List.replicate 2 (tl i), List.replicate ((rs[i]?.map fun r => r.2.2.length).getD 0) (mk i) ++ List.replicate 70 (tl i)]
theorem moreW_succ (mk tl : Nat → UInt8) {rs : RowL} {q : Nat} {A : Option Addr} {c : Nat} {l : List UInt8} (h : rs[q]? = some (A, c, l)) : moreW mk tl rs (q + 1) = moreW mk tl rs q ++ [List.replicate l.length (mk q) ++ List.replicate 1 (tl q), List.replicate l.length (mk q) ++ List.replicate 2 (tl q), List.replicate l.length (mk q) ++ List.replicate 70 (tl q)] := by simp [moreW, List.range_succ, h]
theorem moreW_len (mk tl : Nat → UInt8) (rs : RowL) (q : Nat) : (moreW mk tl rs q).length = 3 * q := by
  induction q with
  | zero => rfl
  | succ q ih =>
    have : (moreW mk tl rs (q + 1)).length = (moreW mk tl rs q).length + 3 := by simp [moreW, List.range_succ]
    omega
def extW : Nat → Nat
  | 0 => 1
  | 1 => 2
  | _ => 70
theorem moreW_at (mk tl : Nat → UInt8) {rs : RowL} {q i d : Nat} (hi : i < q) (hd : d < 3) {A : Option Addr} {c : Nat} {l : List UInt8} (h : rs[i]? = some (A, c, l)) : (moreW mk tl rs q)[3 * i + d]? = some (List.replicate l.length (mk i) ++ List.replicate (extW d) (tl i)) := by
  induction q with
  | zero => omega
  | succ q ih =>
    have e : moreW mk tl rs (q + 1) = moreW mk tl rs q ++ [List.replicate ((rs[q]?.map fun r => r.2.2.length).getD 0) (mk q) ++ List.replicate 1 (tl q), List.replicate ((rs[q]?.map fun r => r.2.2.length).getD 0) (mk q) ++ List.replicate 2 (tl q), List.replicate ((rs[q]?.map fun r => r.2.2.length).getD 0) (mk q) ++ List.replicate 70 (tl q)] := by simp [moreW, List.range_succ]
    rw [e]
    by_cases h1 : i < q
    · rw [List.getElem?_append_left (by rw [moreW_len]; omega)]
      exact ih h1
    · obtain rfl : i = q := by omega
      rw [List.getElem?_append_right (by rw [moreW_len]; omega), moreW_len, h]
      match d, hd with
      | 0, _ => simp [extW]
      | 1, _ => simp [extW, show 3 * i + 1 - 3 * i = 1 from by omega]
      | 2, _ => simp [extW, show 3 * i + 2 - 3 * i = 2 from by omega]
section
variable {T e : TypeId} {base H3 : Nat} {wr w2 w3 : World} {rs : RowL} {v v3 : Value} {vs : List Value} {ks : List (List UInt8)} {k m ca : Nat} {l : List UInt8} {A : Option Addr}
theorem Aps.three {vs us : List Value} (h : Aps rs k vs) (hu : ∀ (j : Nat) (a : Addr) (n c : Nat), us[j]? = some (.slice (some a) n c) → 0 < n → ∀ (i : Nat) (b : Addr) r, k + 1 ≤ i → rs[i]? = some r → r.1 = some b → a.block ≠ b.block) : Aps rs (k + 1) (vs ++ us) := by
  intro i j a b n c r hj hn hi hr hb
  rw [List.getElem?_append] at hj
  split at hj
  · exact h i j a b n c r hj hn (by omega) hr hb
  · exact hu _ a n c hj hn i b r hi hr hb
/-- The row k was lengthened three times; the list of what came of it takes the three. -/
theorem more_step3 {A1 A2 A3 : Option Addr} {N1 N2 N3 c1 c2 c3 : Nat} {l1 l2 l3 : List UInt8} (hR : RowsB T base wr rs) (hk : rs[k]? = some (A, ca, l)) (hF : FamS wr v.ownBlock vs ks) (hA : Aps rs k vs) (hown : wr.ownsRow H3 e 1 v m vs)
    (hH : ∀ (i : Nat) r a, rs[i]? = some r → r.1 = some a → a.block < H3) (hle : H3 ≤ wr.heap.size)
    (hg2 : wr.grownBy w2 (A.map (·.block))) (ho2 : OwnB T base w2 A ca l)
    (s1 : Sl w2 A1 N1 c1 l1) (s2 : Sl w2 A2 N2 c2 l2) (s3 : Sl w2 A3 N3 c3 l3)
    (b1 : ∀ a, A1 = some a → A.map (·.block) = some a.block ∨ wr.heap.size ≤ a.block) (b2 : ∀ a, A2 = some a → A.map (·.block) = some a.block ∨ wr.heap.size ≤ a.block) (b3 : ∀ a, A3 = some a → A.map (·.block) = some a.block ∨ wr.heap.size ≤ a.block)
    {o : Obj} (hg3 : (w2.alloc o).grownBy w3 v.ownBlock) (hat3 : v3.ownBlock = v.ownBlock ∨ v3.ownBlock = some (w2.alloc o).heap.size) :
    RowsB T base w3 rs ∧ FamS w3 v3.ownBlock (vs ++ [.slice A1 N1 c1, .slice A2 N2 c2, .slice A3 N3 c3]) (ks ++ [l1, l2, l3]) ∧ Aps rs (k + 1) (vs ++ [.slice A1 N1 c1, .slice A2 N2 c2, .slice A3 N3 c3]) ∧ (∀ S : Nat → Prop, (∀ a, A = some a → S a.block) → (∀ b, H3 ≤ b → S b) → Chg S wr w3) := by
  have hgkl : ∀ a, A = some a → a.block < H3 := fun a ha => hH k _ a hk ha
  have hal : Below w2.heap.size w2 (w2.alloc o) := (Below.refl _ _).alloc (Nat.le_refl _) _
  have hvb : ∀ g, v.ownBlock = some g → H3 ≤ g ∧ g < wr.heap.size := fun g hg => World.ownsRow.lt hown g hg
  have hR2 : RowsB T base w2 rs := hR.grow hk hg2 ho2
  have hF2 : FamS w2 v.ownBlock vs ks := hF.chg (grown_chg hg2) fun i q a n c hq hq0 hv e' => by
    have hn : 0 < n := by
      obtain ⟨a2, c2, h1, _, _⟩ := hF.2 i q hq
      rw [hv] at h1; injection h1 with h1; injection h1 with _ h1 _; omega
    cases A with
    | none => cases e'
    | some b =>
      injection e' with e'
      exact hA k i a b n c _ hv hn (Nat.le_refl _) hk rfl e'.symm
  have hne : ∀ A' : Option Addr, (∀ a : Addr, A' = some a → A.map (·.block) = some a.block ∨ wr.heap.size ≤ a.block) → ∀ x : Addr, A' = some x → some x.block ≠ v.ownBlock := fun A' hb x hx e' => by
    have h1 := hvb _ e'.symm
    rcases hb x hx with h | h
    · cases A with
      | none => cases h
      | some b => injection h with h; have h3 : b.block < H3 := hgkl b rfl; have h4 : b.block = x.block := h; omega
    · omega
  have hF3 := ((((hF2.later hal).snoc (s1.later hal) fun _ => hne A1 b1).snoc (s2.later hal) fun _ => hne A2 b2).snoc (s3.later hal) fun _ => hne A3 b3).step hg3 hat3
  simp only [List.append_assoc, List.cons_append, List.nil_append] at hF3
  refine ⟨?_, hF3, hA.three fun j a n c hj hn i b r hi hr hb => ?_, fun S h1 h2 => ?_⟩
  · refine (hR2.later hal).chg (grown_chg hg3) fun i r hr a ha e' => ?_
    have h1 := hH i r a hr ha
    have h2 := hvb _ e'
    omega
  · have key : ∀ A' : Option Addr, (∀ a : Addr, A' = some a → A.map (·.block) = some a.block ∨ wr.heap.size ≤ a.block) → A' = some a → a.block ≠ b.block := fun A' hb' ha => by
      rcases hb' a ha with h | h
      · cases A with
        | none => cases h
        | some g =>
          injection h with h
          have := hR.2 k i _ r hk hr (by omega) g b rfl hb
          rw [← h]; exact this
      · have h1 := hH i r b hr hb
        omega
    match j, hj with
    | 0, hj => injection hj with hj; injection hj with hj _ _; exact key A1 b1 hj
    | 1, hj => injection hj with hj; injection hj with hj _ _; exact key A2 b2 hj
    | 2, hj => injection hj with hj; injection hj with hj _ _; exact key A3 b3 hj
    | j + 3, hj => simp at hj
  · have c1 : Chg S wr w2 := (grown_chg hg2).mono fun b _ e' => by
      cases A with
      | none => cases e'
      | some g => injection e' with e'; subst e'; exact h1 g rfl
    have c2 : Chg S w2 (w2.alloc o) := Below.chg0 hal
    have c3 : Chg S (w2.alloc o) w3 := (grown_chg hg3).mono fun b _ e' => h2 b (hvb b e').1
    exact (c1.trans c2).trans c3
end

theorem Chg.trans3 {S : Nat → Prop} {w x y : World} {H : Nat} (h : Chg S w x) (k : Chg (fun b => S b ∨ H ≤ b) x y) (hle : w.heap.size ≤ H) : Chg S w y :=
  ⟨k.os.trans h.os, k.tape.trans h.tape, k.output.trans h.output, Nat.le_trans h.size k.size, fun b hb hn => (k.block b (Nat.lt_of_lt_of_le hb h.size) (fun e => by rcases e with e | e; exact hn e; omega)).trans (h.block b hb hn)⟩
section
variable {P : Program} (w : World)
/-- 'append(s, x...)' in a region that draws its order; cell by cell. -/
theorem step_append_cells {ops : Array Oper} {o : Oper} {a : Act} {K : Act → World → Prop} {Q : Exit → Act → World → Prop} {E : Prop} (hgd : o.guard = none) (s x : Operand) {t e : TypeId} {bytes : Nat}
    (ho : o.op = .call { callee := .builtin .append, args := #[s, x], argTypes := #[t, t] }) (hS : SliceOf P t e 1 bytes)
    (base : Nat) (v : Value) (n : Nat) (xs : List Value) (hs : a.eval s = v) (hown : w.ownsRow base e 1 v n xs)
    (B : Nat) (A : Option Addr) (m c : Nat) (news : List Value) (hx : a.eval x = .slice A m c) (hr : Reads w B 1 A m news) (h1 : ∀ u ∈ news, u.oneCell' = true)
    (h63 : n + m ≤ maxLen) (hbytes : (n + m) * bytes ≤ 140737488355328) (hbase : base ≤ w.heap.size)
    (h : ∀ v' w', w'.ownsRow base e 1 v' (n + m) (xs ++ news) → w.grownBy w' v.ownBlock → (v'.ownBlock = v.ownBlock ∨ v'.ownBlock = some w.heap.size) → w'.ownsRow base e 1 v n xs →
      (∀ p u, w.cell? p = some u → w'.cell? p = some u ∨ (some p.block = v.ownBlock ∧ p.spot = none ∧ n ≤ p.off ∧ p.off < n + m ∧ w'.cell? p = news[p.off - n]?)) → K (a.put o.dst v') w') :
    if Region.wanted o (yielded ops a.tmps) = true then Oper.wp P o a w K Q else E := by
  have hw : Region.wanted o (yielded ops a.tmps) = true := by simp [Region.wanted, hgd]
  rw [if_pos hw]
  exact wp_append_cells w s x ho hS base v n xs hs hown B A m c news hx hr h1 h63 hbytes hbase h
end
/-- Held while a row is lengthened: a cell elsewhere, the row itself, what was there. -/
structure GC (T : TypeId) (base : Nat) (w : World) (p : Addr) (u : Value) (A : Option Addr) (c : Nat) (l : List UInt8) (x : World) : Prop where
  cell : x.cell? p = some u
  own : OwnB T base x A c l
  grown : w.grownBy x (A.map (·.block))
section
variable {T : TypeId} {base c n : Nat} {w x y : World} {p : Addr} {u : Value} {A : Option Addr} {l : List UInt8}
theorem GC.call (h : GC T base w p u A c l x) (hb : Below x.heap.size x y) : GC T base w p u A c l y := ⟨cell_below hb h.cell, h.own.later hb, grown_trans h.grown (below_grown hb _)⟩
theorem own_block (A : Option Addr) (n c : Nat) : (Value.slice A n c).ownBlock = A.map (·.block) := by cases A <;> rfl
theorem GC.app (h : GC T base w p u A c l x) (hne : A.map (·.block) ≠ some p.block) (hg : x.grownBy y (Value.slice A n c).ownBlock) (ho : OwnB T base y A c l) : GC T base w p u A c l y := by
  rw [own_block] at hg
  exact ⟨(hg.cell h.cell fun e => hne e.symm), ho, grown_trans h.grown hg⟩
theorem GC.call2 {Q : World → Prop} (hq : ∀ x y, Below x.heap.size x y → Q x → Q y) (h : x.cell? p = some u ∧ GC T base w p u A c l x ∧ Q x) (hb : Below x.heap.size x y) : y.cell? p = some u ∧ GC T base w p u A c l y ∧ Q y := ⟨cell_below hb h.1, h.2.1.call hb, hq x y hb h.2.2⟩
theorem GC.app2 {Q : World → Prop} (h : x.cell? p = some u ∧ GC T base w p u A c l x ∧ Q x) (hne : A.map (·.block) ≠ some p.block) (hg : x.grownBy y (Value.slice A n c).ownBlock) (ho : OwnB T base y A c l) (hq : Q y) : y.cell? p = some u ∧ GC T base w p u A c l y ∧ Q y := ⟨(h.2.1.app hne hg ho).cell, h.2.1.app hne hg ho, hq⟩
theorem GC.call1 (h : x.cell? p = some u ∧ GC T base w p u A c l x) (hb : Below x.heap.size x y) : y.cell? p = some u ∧ GC T base w p u A c l y := ⟨cell_below hb h.1, h.2.call hb⟩
theorem GC.app1 (h : x.cell? p = some u ∧ GC T base w p u A c l x) (hne : A.map (·.block) ≠ some p.block) (hg : x.grownBy y (Value.slice A n c).ownBlock) (ho : OwnB T base y A c l) : y.cell? p = some u ∧ GC T base w p u A c l y := ⟨(h.2.app hne hg ho).cell, h.2.app hne hg ho⟩
theorem own_len (h : OwnB T base x A c l) (hl : l.length = n) : x.ownsRow base T 1 (.slice A n c) n (u8s l) := hl ▸ h
theorem own_of_len (h : x.ownsRow base T 1 (.slice A n c) n (u8s l)) (hl : l.length = n) : OwnB T base x A c l := by subst hl; exact h
end

theorem app_marks {T : TypeId} {base L N : Nat} {w : World} {A : Option Addr} {c : Nat} {m t : UInt8} (h : w.ownsRow base T 1 (.slice A (L + N) c) (L + N) (u8s (List.replicate L m) ++ u8s (List.replicate N t))) : OwnB T base w A c (List.replicate L m ++ List.replicate N t) := by
  rw [← u8s_append] at h; exact own_of_len h (by simp)
/-- Where what was lengthened lies: in the row's block, or in one made since. -/
def Blk (w : World) (A A' : Option Addr) : Prop := ∀ x, A' = some x → A.map (·.block) = some x.block ∨ w.heap.size ≤ x.block
theorem blk_of {w : World} {A A1 : Option Addr} {n c n1 c1 H : Nat} (h : (Value.slice A1 n1 c1).ownBlock = (Value.slice A n c).ownBlock ∨ (Value.slice A1 n1 c1).ownBlock = some H) (hle : w.heap.size ≤ H) : Blk w A A1 := fun a ha => by
  subst ha
  rcases h with h | h
  · rw [own_block A] at h; exact .inl h.symm
  · injection h with h; exact .inr (by omega)
theorem blk_row {w : World} {A A' : Option Addr} (h : Blk w A A') : A'.map (·.block) = A.map (·.block) ∨ ∀ g, A'.map (·.block) = some g → w.heap.size ≤ g := by
  cases A' with
  | none => exact .inr fun g hg => by cases hg
  | some x =>
    rcases h x rfl with h | h
    · exact .inl h.symm
    · refine .inr fun g hg => ?_
      injection hg with hg
      have hg : x.block = g := hg
      omega
/-- The lengthened row takes one more; the row, and what it was lengthened to before, stand. -/
theorem grow_step {T : TypeId} {base L j ca c5 c6 N2 c2 N4 c4 : Nat} {wr x y : World} {p : Addr} {u : Value} {A A5 A6 A2 A4 : Option Addr} {m t : UInt8} (hG : GC T base wr p u A ca (List.replicate L m) x) (hO : OwnB T base x A5 c5 (List.replicate L m ++ List.replicate j t)) (hK : Blk wr A A5)
    (s2 : Sl x A2 (L + N2) c2 (List.replicate L m ++ List.replicate N2 t)) (o2 : ∀ a, A2 = some a → a.off = 0) (s4 : Sl x A4 (L + N4) c4 (List.replicate L m ++ List.replicate N4 t)) (o4 : ∀ a, A4 = some a → a.off = 0)
    (hne : A.map (·.block) ≠ some p.block) (hlt : p.block < wr.heap.size)
    (hown : y.ownsRow base T 1 (.slice A6 (L + j + 1) c6) (L + j + 1) (u8s (List.replicate L m ++ List.replicate j t) ++ u8s (List.replicate 1 t))) (hg : x.grownBy y (Value.slice A5 (L + j) c5).ownBlock)
    (hat : (Value.slice A6 (L + j + 1) c6).ownBlock = (Value.slice A5 (L + j) c5).ownBlock ∨ (Value.slice A6 (L + j + 1) c6).ownBlock = some x.heap.size) (hold : y.ownsRow base T 1 (.slice A5 (L + j) c5) (L + j) (u8s (List.replicate L m ++ List.replicate j t)))
    (hcell : ∀ p u, x.cell? p = some u → y.cell? p = some u ∨ (some p.block = (Value.slice A5 (L + j) c5).ownBlock ∧ p.spot = none ∧ L + j ≤ p.off ∧ p.off < L + j + 1 ∧ y.cell? p = (u8s (List.replicate 1 t))[p.off - (L + j)]?)) :
    OwnB T base y A6 c6 (List.replicate L m ++ List.replicate (j + 1) t) ∧ GC T base wr p u A ca (List.replicate L m) y ∧ Blk wr A A6 ∧ Sl y A2 (L + N2) c2 (List.replicate L m ++ List.replicate N2 t) ∧ Sl y A4 (L + N4) c4 (List.replicate L m ++ List.replicate N4 t) := by
  have hr := blk_row hK
  have hxs : wr.heap.size ≤ x.heap.size := hG.grown.size
  have hne' : some p.block ≠ (Value.slice A5 (L + j) c5).ownBlock := fun e => by
    rw [own_block] at e
    rcases hr with h | h
    · exact hne (h ▸ e.symm)
    · have := h _ e.symm; omega
  refine ⟨?_, ⟨hg.cell hG.cell hne', ?_, ?_⟩, fun z hz => ?_, s2.retail (by simp) o2 (by omega) hcell hg.size, s4.retail (by simp) o4 (by omega) hcell hg.size⟩
  · rw [← u8s_append, List.append_assoc, List.replicate_append_replicate] at hown
    exact own_of_len hown (by simp; omega)
  · exact own_under hG.own (own_len hO (by simp)) hg hold (by simp)
  · exact grown_keep hG.grown hg (by rw [own_block]; exact hr)
  · subst hz
    rcases hat with h | h
    · rw [own_block A5] at h
      rcases hr with h' | h'
      · exact .inl (by rw [← h', ← h]; rfl)
      · exact .inr (h' _ h.symm)
    · injection h with h; exact .inr (by omega)

end Go.Proofs.YtmigjipfomfacaaDoor

/-
  A book: a struct of two lists, one of rows, one of copies of them. Over any program.
-/
namespace Go.Proofs.YtmigjipfomfacaaDoor
open Go.RowKit

structure BkC (w : World) (g : Nat) (lv wv : Value) : Prop where
  c0 : w.cell? ⟨g, 0, none⟩ = some lv
  c1 : w.cell? ⟨g, 1, none⟩ = some wv
  f0 : w.frozen? ⟨g, 0, none⟩ = false
  f1 : w.frozen? ⟨g, 1, none⟩ = false
def pickR (zs : RowL) (is : List Nat) : RowL := is.map fun i => zs[i]?.getD (none, 0, [])
structure BkH (T e : TypeId) (B g : Nat) (w : World) (lv wv : Value) (zs : RowL) (is js : List Nat) : Prop where
  box : BkC w g lv wv
  gB : g < B
  le : B ≤ w.heap.size
  rows : RowsB T B w zs
  ol : w.ownsRow B e 1 lv is.length ((pickR zs is).map valR)
  ow : w.ownsRow B e 1 wv js.length ((pickR zs js).map valR)
  al : Off lv zs
  aw : Off wv zs
  ne : ∀ g, lv.ownBlock = some g → wv.ownBlock ≠ some g
  nd : (is ++ js).Nodup
  lt : ∀ i, i ∈ is ++ js → i < zs.length
/-- Each copy holds what its row holds. -/
def SameC (zs : RowL) (is js : List Nat) : Prop := is.length = js.length ∧ ∀ (k i j : Nat), is[k]? = some i → js[k]? = some j → ∀ a c l, zs[i]? = some (a, c, l) → ∃ a' c', zs[j]? = some (a', c', l)
def Far (g : Nat) (lv wv : Value) (b : Nat) : Prop := b ≠ g ∧ lv.ownBlock ≠ some b ∧ wv.ownBlock ≠ some b
section
variable {T e : TypeId} {B g : Nat} {w x : World} {lv wv v' : Value} {zs rs : RowL} {is js : List Nat} {S : Nat → Prop}
theorem BkC.chg (h : BkC w g lv wv) (hc : Chg S w x) (hn : ¬ S g) : BkC x g lv wv := by
  have hlt : g < w.heap.size := World.block_lt_of_cell? w ⟨g, 0, none⟩ h.c0
  have hb := hc.block g hlt hn
  exact ⟨hc.cell h.c0 hn, hc.cell h.c1 hn, (World.frozen?_of_block (w := w) hb).trans h.f0, (World.frozen?_of_block (w := w) hb).trans h.f1⟩
theorem BkC.set0 (h : BkC w g lv wv) (v : Value) : BkC (w.setCell ⟨g, 0, none⟩ v) g v wv :=
  ⟨World.cell?_setCell_same _ _ _ h.c0, (World.cell?_setCell_other _ _ _ _ (by simp)).trans h.c1, by rw [World.frozen?_setCell]; exact h.f0, by rw [World.frozen?_setCell]; exact h.f1⟩
theorem BkC.set1 (h : BkC w g lv wv) (v : Value) : BkC (w.setCell ⟨g, 1, none⟩ v) g lv v :=
  ⟨(World.cell?_setCell_other _ _ _ _ (by simp)).trans h.c0, World.cell?_setCell_same _ _ _ h.c1, by rw [World.frozen?_setCell]; exact h.f0, by rw [World.frozen?_setCell]; exact h.f1⟩
theorem pickR_app {zs rs : RowL} {is : List Nat} (h : ∀ i, i ∈ is → i < zs.length) : pickR (zs ++ rs) is = pickR zs is := by
  unfold pickR
  apply List.map_congr_left
  intro i hi
  rw [List.getElem?_append_left (h i hi)]
theorem pickR_snoc (zs : RowL) (is : List Nat) {i : Nat} {r : Option Addr × Nat × List UInt8} (h : zs[i]? = some r) : pickR zs (is ++ [i]) = pickR zs is ++ [r] := by
  unfold pickR
  rw [List.map_append, List.map_cons, List.map_nil, h]; rfl
theorem pickR_at {zs : RowL} {is : List Nat} {k i : Nat} {r : Option Addr × Nat × List UInt8} (hk : is[k]? = some i) (h : zs[i]? = some r) : (pickR zs is)[k]? = some r := by
  unfold pickR
  rw [List.getElem?_map, hk, Option.map_some, h]; rfl
theorem pickR_get {zs : RowL} {is : List Nat} (hl : ∀ i, i ∈ is → i < zs.length) {k : Nat} {r : Option Addr × Nat × List UInt8} (h : (pickR zs is)[k]? = some r) : ∃ i, is[k]? = some i ∧ zs[i]? = some r := by
  unfold pickR at h
  rw [List.getElem?_map] at h
  cases hk : is[k]? with
  | none => rw [hk] at h; cases h
  | some i =>
    rw [hk] at h
    injection h with h
    have h : zs[i]?.getD (none, 0, []) = r := h
    refine ⟨i, rfl, ?_⟩
    have hi := hl i (List.mem_of_getElem? hk)
    rw [List.getElem?_eq_getElem hi] at h ⊢
    rw [← h]; rfl
theorem RowsB.pickL (h : RowsB T B w zs) (hn : is.Nodup) (hl : ∀ i, i ∈ is → i < zs.length) : RowsB T B w (pickR zs is) := by
  refine ⟨fun k r hr => ?_, fun k q r s hr hs hkq a b ha hb => ?_⟩
  · obtain ⟨i, _, h2⟩ := pickR_get hl hr
    exact h.1 i r h2
  · obtain ⟨i, h1, h2⟩ := pickR_get hl hr
    obtain ⟨j, h3, h4⟩ := pickR_get hl hs
    refine h.2 i j r s h2 h4 (fun e => hkq ?_) a b ha hb
    subst e
    obtain ⟨p1, p2⟩ := List.getElem?_eq_some_iff.1 h1
    obtain ⟨p3, p4⟩ := List.getElem?_eq_some_iff.1 h3
    have hpw := List.pairwise_iff_getElem.1 hn
    rcases Nat.lt_trichotomy k q with h5 | h5 | h5
    · exact absurd (p2.trans p4.symm) (hpw k q p1 p3 h5)
    · exact h5
    · exact absurd (p4.trans p2.symm) (hpw q k p3 p1 h5)
theorem RowsB.app (h : RowsB T B w zs) (hb : Below w.heap.size w x) (hr : RowsB T w.heap.size x rs) (hle : B ≤ w.heap.size) : RowsB T B x (zs ++ rs) := by
  have hz := h.later hb
  refine ⟨fun i r hi => ?_, fun i j r s hi hj hij a b ha hb' => ?_⟩
  · rw [List.getElem?_append] at hi
    split at hi
    · exact hz.1 i r hi
    · exact (hr.1 _ r hi).rebase hle
  · rw [List.getElem?_append] at hi hj
    split at hi <;> split at hj
    · exact hz.2 i j r s hi hj hij a b ha hb'
    · have h1 := ((h.1 i r hi).lt ha).2
      have h2 := ((hr.1 _ s hj).lt hb').1
      omega
    · have h1 := ((hr.1 _ r hi).lt ha).1
      have h2 := ((h.1 j s hj).lt hb').2
      omega
    · exact hr.2 _ _ r s hi hj (by omega) a b ha hb'
theorem off_app {v : Value} (h : Off v zs) (hv : ∀ g, v.ownBlock = some g → g < w.heap.size) (hr : RowsB T w.heap.size x rs) : Off v (zs ++ rs) := fun g hg i r a hi ha => by
  rw [List.getElem?_append] at hi
  split at hi
  · exact h g hg i r a hi ha
  · have h1 := ((hr.1 _ r hi).lt ha).1
    have h2 := hv g hg
    omega
theorem BkH.add (h : BkH T e B g w lv wv zs is js) (hb : Below w.heap.size w x) (hr : RowsB T w.heap.size x rs) : BkH T e B g x lv wv (zs ++ rs) is js := by
  have hlt : g < w.heap.size := Nat.lt_of_lt_of_le h.gB h.le
  refine ⟨h.box.chg (S := fun _ => False) (Below.chg0 hb) (fun e => e), h.gB, Nat.le_trans h.le hb.size, h.rows.app hb hr h.le, ?_, ?_, off_app h.al (own_row_lt h.ol) hr, off_app h.aw (own_row_lt h.ow) hr, h.ne, h.nd, fun i hi => ?_⟩
  · rw [pickR_app fun i hi => h.lt i (List.mem_append_left _ hi)]; exact own_below h.ol hb
  · rw [pickR_app fun i hi => h.lt i (List.mem_append_right _ hi)]; exact own_below h.ow hb
  · have := h.lt i hi
    rw [List.length_append]; omega
theorem BkH.later (h : BkH T e B g w lv wv zs is js) (hb : Below w.heap.size w x) : BkH T e B g x lv wv zs is js := by
  have h1 := h.add hb (rs := []) RowsB.nil
  rw [List.append_nil] at h1
  exact h1
theorem own_ge {w : World} {base e size n : Nat} {v : Value} {xs : List Value} (h : w.ownsRow base e size v n xs) : ∀ g, v.ownBlock = some g → base ≤ g := fun g hg => (World.ownsRow.lt h g hg).1
theorem own_set {n : Nat} {v : Value} {xs : List Value} (h : w.ownsRow B e 1 v n xs) (hg : g < B) (k : Nat) (u : Value) : (w.setCell ⟨g, k, none⟩ u).ownsRow B e 1 v n xs :=
  own_chg h (Chg.setCell w ⟨g, k, none⟩ u) fun b hb e' => by have := own_ge h b hb; simp only at e'; omega
theorem rows_set (h : RowsB T B w zs) (hg : g < B) (k : Nat) (u : Value) : RowsB T B (w.setCell ⟨g, k, none⟩ u) zs :=
  h.chg (Chg.setCell w ⟨g, k, none⟩ u) fun i r hr a ha e' => by have := ((h.1 i r hr).lt ha).1; simp only at e'; omega
theorem BkH.appL (h : BkH T e B g w lv wv zs is js) {i : Nat} {r : Option Addr × Nat × List UInt8} (hi : zs[i]? = some r) (hni : i ∉ is ++ js) {o : Obj} {us : List Value} (hu : us = [valR r])
    (ho : x.ownsRow B e 1 v' (is.length + 1) ((pickR zs is).map valR ++ us)) (hg : (w.alloc o).grownBy x lv.ownBlock) (hat : v'.ownBlock = lv.ownBlock ∨ v'.ownBlock = some (w.alloc o).heap.size) :
    BkH T e B g (x.setCell ⟨g, 0, none⟩ v') v' wv zs (is ++ [i]) js ∧ Chg (fun b => b = g ∨ lv.ownBlock = some b) w (x.setCell ⟨g, 0, none⟩ v') ∧ (∀ b, b < w.heap.size → lv.ownBlock ≠ some b → v'.ownBlock ≠ some b) := by
  subst hu
  have ha := h.later ((Below.refl _ _).alloc (Nat.le_refl _) o)
  have hgl : lv.ownBlock ≠ some g := fun e' => by have := own_ge h.ol g e'; have := h.gB; omega
  have hbx := (ha.box.chg (grown_chg hg) hgl).set0 v'
  refine ⟨⟨hbx, h.gB, ?_, ?_, ?_, ?_, off_grown ha.al hat ha.rows, ha.aw, fun b hb hu => ?_, ?_, fun k hk => ?_⟩, ?_, fun b hb hne e' => ?_⟩
  · rw [World.size_setCell]; exact Nat.le_trans ha.le hg.size
  · exact rows_set (rows_grown ha.rows ha.al hg) h.gB 0 v'
  · rw [pickR_snoc zs is hi, List.length_append, List.map_append]; exact own_set ho h.gB 0 v'
  · exact own_set (own_chg ha.ow (grown_chg hg) fun b hb hu => ha.ne b hu hb) h.gB 0 v'
  · rcases hat with e' | e'
    · exact ha.ne b (e' ▸ hb) hu
    · rw [e'] at hb; injection hb with hb
      have := own_row_lt ha.ow b hu
      omega
  · have hp : (is ++ js ++ [i]).Perm (is ++ [i] ++ js) := by
      rw [List.append_assoc, List.append_assoc]
      exact List.Perm.append_left _ List.perm_append_comm
    refine hp.nodup ?_
    rw [List.nodup_append]
    refine ⟨h.nd, by simp, fun a ha b hb => ?_⟩
    simp at hb
    intro e'
    exact hni (hb ▸ e' ▸ ha)
  · rw [List.append_assoc] at hk
    rcases List.mem_append.1 hk with h1 | h1
    · exact h.lt k (List.mem_append_left _ h1)
    · rcases List.mem_append.1 h1 with h2 | h2
      · simp at h2
        subst h2
        exact (List.getElem?_eq_some_iff.1 hi).1
      · exact h.lt k (List.mem_append_right _ h2)
  · have c1 : Chg (fun b => b = g ∨ lv.ownBlock = some b) w (w.alloc o) := Below.chg0 ((Below.refl _ _).alloc (Nat.le_refl _) o)
    have c2 : Chg (fun b => b = g ∨ lv.ownBlock = some b) (w.alloc o) x := (grown_chg hg).mono fun b _ hb => .inr hb
    have c3 : Chg (fun b => b = g ∨ lv.ownBlock = some b) x (x.setCell ⟨g, 0, none⟩ v') := (Chg.setCell x ⟨g, 0, none⟩ v').mono fun b _ hb => .inl hb
    exact (c1.trans c2).trans c3
  · rcases hat with h1 | h1
    · exact hne (h1 ▸ e')
    · rw [h1] at e'; injection e' with e'
      have : (w.alloc o).heap.size = b := e'
      simp at this; omega
theorem BkH.appW (h : BkH T e B g w lv wv zs is js) {i : Nat} {r : Option Addr × Nat × List UInt8} (hi : zs[i]? = some r) (hni : i ∉ is ++ js) {o : Obj} {us : List Value} (hu : us = [valR r])
    (ho : x.ownsRow B e 1 v' (js.length + 1) ((pickR zs js).map valR ++ us)) (hg : (w.alloc o).grownBy x wv.ownBlock) (hat : v'.ownBlock = wv.ownBlock ∨ v'.ownBlock = some (w.alloc o).heap.size) :
    BkH T e B g (x.setCell ⟨g, 1, none⟩ v') lv v' zs is (js ++ [i]) ∧ Chg (fun b => b = g ∨ wv.ownBlock = some b) w (x.setCell ⟨g, 1, none⟩ v') ∧ (∀ b, b < w.heap.size → wv.ownBlock ≠ some b → v'.ownBlock ≠ some b) := by
  subst hu
  have ha := h.later ((Below.refl _ _).alloc (Nat.le_refl _) o)
  have hgl : wv.ownBlock ≠ some g := fun e' => by have := own_ge h.ow g e'; have := h.gB; omega
  have hbx := (ha.box.chg (grown_chg hg) hgl).set1 v'
  refine ⟨⟨hbx, h.gB, ?_, ?_, ?_, ?_, ha.al, off_grown ha.aw hat ha.rows, fun b hb hu => ?_, ?_, fun k hk => ?_⟩, ?_, fun b hb hne e' => ?_⟩
  · rw [World.size_setCell]; exact Nat.le_trans ha.le hg.size
  · exact rows_set (rows_grown ha.rows ha.aw hg) h.gB 1 v'
  · exact own_set (own_chg ha.ol (grown_chg hg) fun b hb hu => ha.ne b hb hu) h.gB 1 v'
  · rw [pickR_snoc zs js hi, List.length_append, List.map_append]; exact own_set ho h.gB 1 v'
  · rcases hat with e' | e'
    · exact ha.ne b hb (e' ▸ hu)
    · rw [e'] at hu; injection hu with hu
      have := own_row_lt ha.ol b hb
      omega
  · rw [← List.append_assoc, List.nodup_append]
    refine ⟨h.nd, by simp, fun a ha b hb => ?_⟩
    simp at hb
    intro e'
    exact hni (hb ▸ e' ▸ ha)
  · rw [← List.append_assoc] at hk
    rcases List.mem_append.1 hk with h1 | h1
    · exact h.lt k h1
    · simp at h1
      subst h1
      exact (List.getElem?_eq_some_iff.1 hi).1
  · have c1 : Chg (fun b => b = g ∨ wv.ownBlock = some b) w (w.alloc o) := Below.chg0 ((Below.refl _ _).alloc (Nat.le_refl _) o)
    have c2 : Chg (fun b => b = g ∨ wv.ownBlock = some b) (w.alloc o) x := (grown_chg hg).mono fun b _ hb => .inr hb
    have c3 : Chg (fun b => b = g ∨ wv.ownBlock = some b) x (x.setCell ⟨g, 1, none⟩ v') := (Chg.setCell x ⟨g, 1, none⟩ v').mono fun b _ hb => .inl hb
    exact (c1.trans c2).trans c3
  · rcases hat with h1 | h1
    · exact hne (h1 ▸ e')
    · rw [h1] at e'; injection e' with e'
      have : (w.alloc o).heap.size = b := e'
      simp at this; omega
theorem SameC.keep {i : Nat} {a a' : Option Addr} {c c' : Nat} {l : List UInt8} (h : SameC zs is js) (hl : ∀ i, i ∈ is ++ js → i < zs.length) (hi : zs[i]? = some (a, c, l)) : SameC (zs ++ [(a', c', l)]) (is ++ [i]) (js ++ [zs.length]) := by
  refine ⟨by rw [List.length_append, List.length_append, h.1]; rfl, fun k p q hp hq b d m hz => ?_⟩
  rw [List.getElem?_append] at hp hq
  split at hp
  · rename_i hk
    rw [if_pos (by rw [← h.1]; exact hk)] at hq
    have hpm := hl p (List.mem_append_left _ (List.mem_of_getElem? hp))
    have hqm := hl q (List.mem_append_right _ (List.mem_of_getElem? hq))
    rw [List.getElem?_append_left hpm] at hz
    obtain ⟨b', d', hz'⟩ := h.2 k p q hp hq b d m hz
    exact ⟨b', d', by rw [List.getElem?_append_left hqm]; exact hz'⟩
  · rename_i hk
    rw [if_neg (by rw [← h.1]; exact hk)] at hq
    have h0 : k - is.length = 0 := by
      have := (List.getElem?_eq_some_iff.1 hp).1
      simp at this; omega
    rw [h0] at hp
    rw [← h.1, h0] at hq
    injection hp with hp
    injection hq with hq
    subst hp; subst hq
    rw [List.getElem?_append_left (List.getElem?_eq_some_iff.1 hi).1, hi] at hz
    injection hz with hz
    injection hz with _ hz
    injection hz with _ hz
    subst hz
    exact ⟨a', c', by rw [List.getElem?_append_right (Nat.le_refl _), Nat.sub_self]; rfl⟩
theorem SameC.app (h : SameC zs is js) (hl : ∀ i, i ∈ is ++ js → i < zs.length) (rs : RowL) : SameC (zs ++ rs) is js :=
  ⟨h.1, fun k p q hp hq b d m hz => by
    have hpm := hl p (List.mem_append_left _ (List.mem_of_getElem? hp))
    have hqm := hl q (List.mem_append_right _ (List.mem_of_getElem? hq))
    rw [List.getElem?_append_left hpm] at hz
    obtain ⟨b', d', hz'⟩ := h.2 k p q hp hq b d m hz
    exact ⟨b', d', by rw [List.getElem?_append_left hqm]; exact hz'⟩⟩
end

end Go.Proofs.YtmigjipfomfacaaDoor

/-
  A box of cells that lies untouched while rows beside it grow.
-/
namespace Go.Proofs.YtmigjipfomfacaaDoor
open Go.RowKit

section
variable {w x y : World} {cs : Array Value}
theorem own_low {base base' : Nat} {e : TypeId} {s n : Nat} {v : Value} {xs : List Value} (h : w.ownsRow base e s v n xs) (hb : base' ≤ base) : w.ownsRow base' e s v n xs := by
  refine ⟨h.1, ?_⟩
  rcases h.2 with h' | ⟨g, cap, cur, h1, h2, h3⟩
  · exact .inl h'
  · exact .inr ⟨g, cap, cur, h1, Nat.le_trans hb h2, h3⟩
/-- The box that w's next place holds is there still. -/
structure Bx (w : World) (cs : Array Value) (x : World) : Prop where
  up : Below w.heap.size w x
  at_ : ∀ i v, cs[i]? = some v → x.cell? ⟨w.heap.size, i, none⟩ = some v
  size : w.heap.size + 1 ≤ x.heap.size
theorem Bx.new (w : World) (cs : Array Value) (T : TypeId) : Bx w cs (w.alloc (.cells cs T)) :=
  ⟨(Below.refl _ w).alloc (Nat.le_refl _) _, fun i v h => by simpa using h, by show _ ≤ (w.heap.push _).size; simp⟩
theorem Bx.later (h : Bx w cs x) (k : Below x.heap.size x y) : Bx w cs y :=
  ⟨h.up.trans (k.mono h.up.size), fun i v e => (k.cell (p := ⟨w.heap.size, i, none⟩) h.size).trans (h.at_ i v e), Nat.le_trans h.size k.size⟩
theorem Bx.alloc (h : Bx w cs x) (o : Obj) : Bx w cs (x.alloc o) := h.later ((Below.refl _ x).alloc (Nat.le_refl _) o)
theorem Bx.grow {e : TypeId} {s n : Nat} {v : Value} {xs : List Value} (h : Bx w cs x) (hown : x.ownsRow (w.heap.size + 1) e s v n xs) (hg : x.grownBy y v.ownBlock) : Bx w cs y :=
  ⟨below_app h.up hown hg h.up.size (by omega), fun i u hu => hg.cell (h.at_ i u hu) (fun e => Nat.lt_irrefl _ (Nat.lt_of_lt_of_le (Nat.lt_succ_self _) (hown.lt _ e.symm).1)), Nat.le_trans h.size hg.size⟩
theorem Bx.cell (h : Bx w cs x) {i : Nat} {v : Value} (e : cs[i]? = some v) : x.cell? ⟨w.heap.size, i, none⟩ = some v := h.at_ i v e
/-- What was made later lies aside of an older row that grows. -/
theorem own_aside {b1 base : Nat} {e e' : TypeId} {s s' n n' : Nat} {u v : Value} {xs us : List Value} {z : World} (h : x.ownsRow b1 e' s' u n' us) (hown : z.ownsRow base e s v n xs) (hz : z.heap.size ≤ b1) (hg : x.grownBy y v.ownBlock) : y.ownsRow b1 e' s' u n' us :=
  own_chg h (grown_chg hg) fun g hg' e' => by
    have h1 := (World.ownsRow.lt h g hg').1
    have h2 := (World.ownsRow.lt hown g e').2
    omega
theorem keepB3 {p q r : Addr} {a b c : Value} (h : x.cell? p = some a ∧ x.cell? q = some b ∧ x.cell? r = some c ∧ Bx w cs x) (k : Below x.heap.size x y) : y.cell? p = some a ∧ y.cell? q = some b ∧ y.cell? r = some c ∧ Bx w cs y :=
  ⟨cell_below k h.1, cell_below k h.2.1, cell_below k h.2.2.1, h.2.2.2.later k⟩
theorem keepA3 {p q r : Addr} {a b c : Value} {o : Obj} (h : x.cell? p = some a ∧ x.cell? q = some b ∧ x.cell? r = some c ∧ Bx w cs x) : (x.alloc o).cell? p = some a ∧ (x.alloc o).cell? q = some b ∧ (x.alloc o).cell? r = some c ∧ Bx w cs (x.alloc o) :=
  keepB3 h ((Below.refl _ x).alloc (Nat.le_refl _) o)
theorem keepG3 {i j k : Nat} {a b c : Value} {e : TypeId} {s n : Nat} {v : Value} {xs : List Value} (h : x.cell? ⟨w.heap.size, i, none⟩ = some a ∧ x.cell? ⟨w.heap.size, j, none⟩ = some b ∧ x.cell? ⟨w.heap.size, k, none⟩ = some c ∧ Bx w cs x) (hown : x.ownsRow (w.heap.size + 1) e s v n xs) (hg : x.grownBy y v.ownBlock) :
    y.cell? ⟨w.heap.size, i, none⟩ = some a ∧ y.cell? ⟨w.heap.size, j, none⟩ = some b ∧ y.cell? ⟨w.heap.size, k, none⟩ = some c ∧ Bx w cs y := by
  have hne : some w.heap.size ≠ v.ownBlock := fun e => Nat.lt_irrefl _ (Nat.lt_of_lt_of_le (Nat.lt_succ_self _) (hown.lt _ e.symm).1)
  exact ⟨hg.cell h.1 hne, hg.cell h.2.1 hne, hg.cell h.2.2.1 hne, h.2.2.2.grow hown hg⟩
end
end Go.Proofs.YtmigjipfomfacaaDoor

/-
  wire.Uint, wire.Bytes, walked.
-/
namespace Go.Proofs.YtmigjipfomfacaaDoor
open Go.RowKit

set_option maxRecDepth 100000 in
set_option maxHeartbeats 1000000 in
theorem uint_any (v : Nat) (w : World) (hv : v < 18446744073709551616) : Calls Tryd.prog 63 #[.int .u64 v] w (BytesPost 5 (uintB v) w) := by
  have HL := Lib.hid (uintB_ten hv)
  have HV := Lib.hid hv
  clear hv
  go_enter Tryd.func63, Tryd.ntmps63
  go_wp2
  go_loopw [0, 3] (fun x b wr => ∃ (V : Nat) (pre : List UInt8), Hid (V < 18446744073709551616) ∧ x = .int .u64 V ∧ Hid (pre ++ uintB V = uintB v) ∧ Hid (pre.length ≤ 10) ∧ wr.ownsRow w.heap.size 5 1 b pre.length (u8s pre) ∧ Hid (Below w.heap.size w wr)) (fun x _ _ => (intOf x).toNat)
  case atStart => exact ⟨v, [], HV, rfl, Lib.hid rfl, Lib.hid (by simp), own_nil _ _ _ _, Lib.hid (Below.refl _ _)⟩
  case round =>
    obtain ⟨V, pre, HV2, rfl, HP, HPL, hown, HB⟩ := hrel
    by_cases h : 128 ≤ V
    · have hd : decide ((128 : Int) ≤ (V : Int)) = true := decide_eq_true (by omega)
      have ho := or128_walk V
      have H8 := Lib.hid (u8v_or V)
      have HN : Hid ((pre ++ [UInt8.ofNat (V % 128 + 128)]) ++ uintB (V / 128) = uintB v) := Lib.hid (by rw [← HP.out, uintB_ge h]; simp)
      have HNL : Hid ((pre ++ [UInt8.ofNat (V % 128 + 128)]).length ≤ 10) := Lib.hid (by
        have := congrArg List.length HN.out
        rw [List.length_append] at this
        have := HL.out
        omega)
      obtain ⟨bv, hb⟩ : ∃ bv, bv = u3 := ⟨_, rfl⟩
      rw [← hb] at hown ⊢
      clear hb
      go_wp2_with (at_builtin; go_must (refine wpList_append_reads _ rfl (.tmp 6) (.tmp 10) rfl Tryd.u8s' w.heap.size bv pre.length (u8s pre) rfl (hown.alloc _) (wr.heap.size + 1) (some ⟨wr.heap.size, 0, none⟩) 1 1 (u8s [UInt8.ofNat (V % 128 + 128)]) rfl (by exact reads_lit wr _ [UInt8.ofNat (V % 128 + 128)] _ _ (by show _ = [u8v _]; rw [H8.out])) (u8s_one _) (by have := HPL.out; unfold maxLen; omega) (by have := HPL.out; omega) (by have := HB.out.size; simp; omega) ?_); intro v1 w1 hown1 hg1 hat1)
      have HV3 : Hid (V / 128 < 18446744073709551616) := Lib.hid (by have := HV2.out; omega)
      have hB : w.heap.size ≤ (wr.alloc (.cells #[.int .u8 ((V : Int) % 128 + 128)] 5)).heap.size := by have := HB.out.size; simp; omega
      have HB1 := Lib.hid (below_app (HB.out.alloc HB.out.size _) (hown.alloc _) hg1 hB (Nat.le_refl _))
      rw [← u8s_append] at hown1
      have hO1 : w1.ownsRow w.heap.size 5 1 v1 (pre ++ [UInt8.ofNat (V % 128 + 128)]).length (u8s (pre ++ [UInt8.ofNat (V % 128 + 128)])) := by
        rw [List.length_append]; exact hown1
      clear hown hown1 hg1 hat1 hB
      go_roundw
      case rel => exact ⟨V / 128, _, HV3, by rw [Int.natCast_ediv]; rfl, HN, HNL, hO1, HB1⟩
      case measure => simp [intOf]; omega
    · have hd : decide ((128 : Int) ≤ (V : Int)) = false := decide_eq_false (by omega)
      have hm : (V : Int) % 256 = (V : Int) := by omega
      have H8 : Hid (u8v (UInt8.ofNat V) = .int .u8 (V : Int)) := Lib.hid (by
        unfold u8v
        rw [UInt8.toNat_ofNat', Nat.mod_eq_of_lt (by omega)])
      have HN : Hid (pre ++ [UInt8.ofNat V] = uintB v) := Lib.hid (by rw [← HP.out, uintB_lt (by omega)])
      obtain ⟨bv, hb⟩ : ∃ bv, bv = u3 := ⟨_, rfl⟩
      rw [← hb] at hown ⊢
      clear hb
      go_wp2_with (at_builtin; go_must (refine wpList_append_reads _ rfl (.tmp 14) (.tmp 17) rfl Tryd.u8s' w.heap.size bv pre.length (u8s pre) rfl (hown.alloc _) (wr.heap.size + 1) (some ⟨wr.heap.size, 0, none⟩) 1 1 (u8s [UInt8.ofNat V]) rfl (by exact reads_lit wr _ [UInt8.ofNat V] _ _ (by show _ = [u8v _]; rw [H8.out])) (u8s_one _) (by have := HPL.out; unfold maxLen; omega) (by have := HPL.out; omega) (by have := HB.out.size; simp; omega) ?_); intro v1 w1 hown1 hg1 hat1)
      go_ret
      have hB : w.heap.size ≤ (wr.alloc (.cells #[.int .u8 (V : Int)] 5)).heap.size := by have := HB.out.size; simp; omega
      have HB1 := below_app (HB.out.alloc HB.out.size _) (hown.alloc _) hg1 hB (Nat.le_refl _)
      rw [← u8s_append, HN.out] at hown1
      exact bytes_post hown1 HB1

theorem uint_of (v : Nat) (a : Int) (ha : a = (v : Int)) (w : World) (hv : v < 18446744073709551616) : Calls Tryd.prog 63 #[.int .u64 a] w (BytesPost 5 (uintB v) w) := by
  subst ha
  exact uint_any v w hv

set_option maxRecDepth 100000 in
set_option maxHeartbeats 400000 in
theorem bytes_any (l : List UInt8) (A : Option Addr) (n c : Nat) (w : World) (hn : n ≤ 140737488355318) (hr : RB w w.heap.size A n l) :
    Calls Tryd.prog 64 #[.slice A n c] w (BytesPost 5 (uintB l.length ++ l) w) := by
  have HR : Hid (∀ w', Below w.heap.size w w' → RB w' w'.heap.size A n l) := Lib.hid fun w' h => hr.later h
  have HL := Lib.hid hr.len
  have HU := Lib.hid (uintB_ten (v := n) (by omega))
  clear hr
  go_enter Tryd.func64, Tryd.ntmps64
  go_wp2_with (first
    | (go_at_call 63; go_must (refine (uint_of n _ (by omega) _ (by omega)).mono ?_); rintro e w1 ⟨A1, c1, rfl, hO1, hb1⟩; have HB1 := Lib.hid hb1; have HO1 := Lib.hid hO1; clear hb1 hO1)
    | (at_builtin; go_must (refine wpList_append_reads _ rfl (.tmp 6) (.tmp 7) rfl Tryd.u8s' w.heap.size (.slice A1 (uintB n).length c1) (uintB n).length (u8s (uintB n)) rfl HO1.out _ A n c (u8s l) rfl (HR.out _ HB1.out) (u8s_one _) (by have := HU.out; unfold maxLen; omega) (by have := HU.out; omega) HB1.out.size ?_); intro v2 w2 hown2 hg2 hat2))
  go_ret
  rw [← u8s_append] at hown2
  rw [HL.out]
  exact bytes_post hown2 (below_app HB1.out HO1.out hg2 HB1.out.size (Nat.le_refl _))

end Go.Proofs.YtmigjipfomfacaaDoor

/-
  The statements' begins and order; wire.Ordered; walked.
-/
namespace Go.Proofs.YtmigjipfomfacaaDoor
open Go.RowKit

theorem cmp_lt_at {a b : List UInt8} {k : Nat} {x y : UInt8} (h : a.take k = b.take k) (ha : a[k]? = some x) (hb : b[k]? = some y) (hxy : x.toNat < y.toNat) : cmpB a b = -1 := by
  obtain ⟨h1, rfl⟩ := List.getElem?_eq_some_iff.1 ha
  obtain ⟨h2, rfl⟩ := List.getElem?_eq_some_iff.1 hb
  rw [← cmpB_drop a b k h, List.drop_eq_getElem_cons h1, List.drop_eq_getElem_cons h2, cmpB_lt hxy]
theorem cmp_gt_at {a b : List UInt8} {k : Nat} {x y : UInt8} (h : a.take k = b.take k) (ha : a[k]? = some x) (hb : b[k]? = some y) (hxy : y.toNat < x.toNat) : cmpB a b = 1 := by
  obtain ⟨h1, rfl⟩ := List.getElem?_eq_some_iff.1 ha
  obtain ⟨h2, rfl⟩ := List.getElem?_eq_some_iff.1 hb
  rw [← cmpB_drop a b k h, List.drop_eq_getElem_cons h1, List.drop_eq_getElem_cons h2, cmpB_gt hxy]
theorem cmp_eq_at {a b : List UInt8} {k : Nat} {x : UInt8} (h : a.take k = b.take k) (ha : a[k]? = some x) (hb : b[k]? = some x) : a.take (k + 1) = b.take (k + 1) := by
  rw [take_snoc ha, take_snoc hb, h]
theorem cmp_end {a b : List UInt8} {k n m : Nat} (h : a.take k = b.take k) (ha : a.length = n) (hb : b.length = m) (hk : k = n) (hm : k ≤ m) : cmpB a b = if n < m then -1 else 0 := by
  subst hk
  rw [← cmpB_drop a b k h, List.drop_eq_nil_of_le (by omega)]
  split
  · rw [List.drop_eq_getElem_cons (by omega)]; rfl
  · rw [List.drop_eq_nil_of_le (by omega)]; rfl
theorem cmp_end2 {a b : List UInt8} {k n m : Nat} (h : a.take k = b.take k) (ha : a.length = n) (hb : b.length = m) (hk : k = m) (hm : k < n) : cmpB a b = 1 := by
  subst hk
  rw [← cmpB_drop a b k h, show b.drop k = [] from List.drop_eq_nil_of_le (by omega), List.drop_eq_getElem_cons (by omega)]; rfl

theorem ordB_take {l : List UInt8} {k : Nat} {y : UInt8} (h : l[k]? = some y) : (l.take (k + 1)).flatMap ordC = (l.take k).flatMap ordC ++ ordC y := by
  rw [take_snoc h, List.flatMap_append]; simp

set_option maxRecDepth 100000 in
set_option maxHeartbeats 1000000 in
theorem ordered_any (l : List UInt8) (A : Option Addr) (n c : Nat) (w : World) (hn : n ≤ 70368744177000) (hr : RB w w.heap.size A n l) :
    Calls Tryd.prog 52 #[.slice A n c] w (BytesPost 5 (ordB l) w) := by
  have HL := Lib.hid hr.len
  have HR : Hid (∀ w', Below w.heap.size w w' → RB w' w'.heap.size A n l) := Lib.hid fun w' h => hr.later h
  have HF : Hid (∀ k, ((l.take k).flatMap ordC).length ≤ 140737488354000) := Lib.hid fun k => by
    have := ordF_len (l.take k)
    have h2 : (l.take k).length ≤ l.length := by rw [List.length_take]; omega
    have h3 := HL.out
    omega
  clear hr
  go_enter Tryd.func52, Tryd.ntmps52
  go_wp2_with (at_make; go_must (refine wpList_make_own _ rfl (.const (.int .i64 0)) (.tmp 8) 24 rfl w.heap.size 5 Tryd.t5 (.int .u8 0) 1 Tryd.underlying24 (by kernel_rfl) rfl rfl .i64 .i64 _ (n + 2) rfl rfl (by omega) (by show 1 * _ ≤ _; omega) (by unfold maxLen; omega) (Nat.le_refl _) ?_); intro w1 hown1 hg1)
  have HB1 := Lib.hid (below_grown_none hg1)
  have HO1 := Lib.hid hown1
  clear hown1 hg1
  go_loopw [3, 12] (fun v i wr => ∃ (k : Nat) (P : List UInt8), k ≤ n ∧ i = .int .i64 k ∧ Hid (P = (l.take k).flatMap ordC) ∧ wr.ownsRow w.heap.size 5 1 v P.length (u8s P) ∧ Hid (Below w.heap.size w wr)) (fun _ i _ => n - (intOf i).toNat)
  case atStart => exact ⟨0, [], Nat.zero_le _, rfl, Lib.hid rfl, HO1.out, HB1⟩
  case round =>
    clear HO1 HB1
    obtain ⟨k, P, hk, rfl, HP, hown, HB⟩ := hrel
    obtain ⟨v, hv⟩ : ∃ v, v = u3 := ⟨_, rfl⟩
    rw [← hv] at hown ⊢
    clear hv
    have HPL : Hid (P.length ≤ 140737488354000) := Lib.hid (by rw [HP.out]; exact HF.out k)
    by_cases hlt : k < n
    case neg =>
      have HE : Hid (P ++ [0, 1] = ordB l) := Lib.hid (by rw [HP.out, take_all (by have := HL.out; omega)]; rfl)
      go_wp2_with (at_builtin; go_must (refine wpList_append_reads _ rfl (.tmp 26) (.tmp 27) rfl Tryd.u8s' w.heap.size v P.length (u8s P) rfl (hown.alloc _) (wr.heap.size + 1) (some ⟨wr.heap.size, 0, none⟩) 2 2 (u8s [0, 1]) rfl (by exact reads_lit wr _ [0, 1] _ _ rfl) (u8s_one _) (by have := HPL.out; unfold maxLen; omega) (by have := HPL.out; omega) (by have := HB.out.size; simp; omega) ?_); intro v1 w1 hown1 hg1 hat1)
      go_ret
      have hB : w.heap.size ≤ (wr.alloc (.cells #[.int .u8 0, .int .u8 1] 5)).heap.size := by have := HB.out.size; simp; omega
      have HB1 := below_app (HB.out.alloc HB.out.size _) (hown.alloc _) hg1 hB (Nat.le_refl _)
      rw [← u8s_append, HE.out] at hown1
      exact bytes_post hown1 HB1
    obtain ⟨b, o, y, rfl, _, hy, hcy⟩ := (HR.out _ HB.out).at_ hlt
    have HY := Lib.hid (ordB_take hy)
    clear hy
    by_cases h0 : y.toNat = 0
    · have HN : Hid ((P ++ [y]) ++ [255] = (l.take (k + 1)).flatMap ordC) := Lib.hid (by
        rw [HY.out, HP.out]
        unfold ordC
        rw [if_pos h0, UInt8.toNat_inj.1 (show y.toNat = (0 : UInt8).toNat from h0)]; simp)
      have hd : ((y.toNat : Int) == 0) = true := by rw [beq_iff_eq]; omega
      have tok1 : True := trivial
      clear HY h0
      go_wp2_with (first
        | (at_builtin; have _t := tok1; go_must (refine wpList_append_reads _ rfl (.tmp 16) (.tmp 18) rfl Tryd.u8s' w.heap.size v P.length (u8s P) rfl (hown.alloc _) (wr.heap.size + 1) (some ⟨wr.heap.size, 0, none⟩) 1 1 (u8s [y]) rfl (by exact reads_lit wr _ [y] _ _ rfl) (u8s_one _) (by have := HPL.out; unfold maxLen; omega) (by have := HPL.out; omega) (by have := HB.out.size; simp; omega) ?_); intro v1 w1 hown1 hg1 hat1; clear tok1; have HB1 := Lib.hid (below_app (HB.out.alloc HB.out.size (.cells #[.int .u8 (y.toNat : Int)] 5)) (hown.alloc _) hg1 (by have := HB.out.size; simp; omega) (Nat.le_refl _)); rw [← u8s_append] at hown1; have HO1 := Lib.hid hown1; clear hown1 hg1 hat1)
        | (at_builtin; go_must (refine wpList_append_reads _ rfl (.tmp 22) (.tmp 23) rfl Tryd.u8s' w.heap.size v1 (P.length + 1) (u8s (P ++ [y])) rfl (HO1.out.alloc _) (w1.heap.size + 1) (some ⟨w1.heap.size, 0, none⟩) 1 1 (u8s [255]) rfl (by exact reads_lit w1 _ [255] _ _ rfl) (u8s_one _) (by have := HPL.out; unfold maxLen; omega) (by have := HPL.out; omega) (by have := HB1.out.size; simp; omega) ?_); intro v2 w2 hown2 hg2 hat2; have HB2 := Lib.hid (below_app (HB1.out.alloc HB1.out.size (.cells #[.int .u8 255] 5)) (HO1.out.alloc _) hg2 (by have := HB1.out.size; simp; omega) (Nat.le_refl _)); rw [← u8s_append] at hown2; have HO2 := Lib.hid hown2; clear hown2 hg2 hat2))
      have hO2 : w2.ownsRow w.heap.size 5 1 v2 ((P ++ [y]) ++ [255]).length (u8s ((P ++ [y]) ++ [255])) := by
        have := HO2.out
        have e : ((P ++ [y]) ++ [(255 : UInt8)]).length = P.length + 1 + 1 := by simp
        rw [e]; exact this
      clear HO2 HO1
      go_roundw
      case rel => exact ⟨k + 1, (P ++ [y]) ++ [255], by omega, by go_num, HN, hO2, HB2⟩
      case measure => simp [intOf]; omega
    · have HN : Hid (P ++ [y] = (l.take (k + 1)).flatMap ordC) := Lib.hid (by
        rw [HY.out, HP.out]
        unfold ordC
        rw [if_neg h0])
      have hd : ((y.toNat : Int) == 0) = false := by rw [beq_eq_false_iff_ne]; omega
      clear HY h0
      go_wp2_with (at_builtin; go_must (refine wpList_append_reads _ rfl (.tmp 16) (.tmp 18) rfl Tryd.u8s' w.heap.size v P.length (u8s P) rfl (hown.alloc _) (wr.heap.size + 1) (some ⟨wr.heap.size, 0, none⟩) 1 1 (u8s [y]) rfl (by exact reads_lit wr _ [y] _ _ rfl) (u8s_one _) (by have := HPL.out; unfold maxLen; omega) (by have := HPL.out; omega) (by have := HB.out.size; simp; omega) ?_); intro v1 w1 hown1 hg1 hat1; have HB1 := Lib.hid (below_app (HB.out.alloc HB.out.size (.cells #[.int .u8 (y.toNat : Int)] 5)) (hown.alloc _) hg1 (by have := HB.out.size; simp; omega) (Nat.le_refl _)); rw [← u8s_append] at hown1; have HO1 := Lib.hid hown1; clear hown1 hg1 hat1)
      have hO1 : w1.ownsRow w.heap.size 5 1 v1 (P ++ [y]).length (u8s (P ++ [y])) := by
        have := HO1.out
        rw [show (P ++ [y]).length = P.length + 1 from by simp]; exact this
      clear HO1
      go_roundw
      case rel => exact ⟨k + 1, P ++ [y], by omega, by go_num, HN, hO1, HB1⟩
      case measure => simp [intOf]; omega

end Go.Proofs.YtmigjipfomfacaaDoor

/-
  wire.Rising, wire.Falling, walked.
-/
namespace Go.Proofs.YtmigjipfomfacaaDoor
open Go.RowKit

theorem made_zeros (L : Nat) : (madeCells (Value.int IntKind.u8 0).cells L).toList = u8s (List.replicate L 0) := by
  have e : (Value.int IntKind.u8 0).cells = #[.int .u8 0] := rfl
  rw [e]
  apply List.ext_getElem?
  intro i
  simp only [madeCells, u8s, u8v, List.map_replicate, List.getElem?_replicate, Array.toList_map, Array.toList_range, List.getElem?_map, List.size_toArray, List.length_cons, List.length_nil, Nat.zero_add, Nat.mod_one]
  by_cases h : i < L
  · rw [if_pos h, List.getElem?_range h]; rfl
  · rw [if_neg h, List.getElem?_eq_none (by simpa using h)]; rfl
theorem rTo_zero (v : Nat) : rTo v 0 = List.replicate 8 0 := by simp [rTo, List.range_succ]
theorem u8s_set' (l : List UInt8) (k : Nat) (x : UInt8) : (u8s l).set k (u8v x) = u8s (l.set k x) := by
  unfold u8s
  rw [List.map_set]

set_option maxRecDepth 100000 in
theorem rising_neg (z : Int) (w : World) (hz : z < 0) : Calls Tryd.prog 86 #[.int .i64 z] w (BytesPost2 5 [] 1 w) := by
  have hd : decide (z < 0) = true := decide_eq_true hz
  go_enter Tryd.func86, Tryd.ntmps86
  go_wp2
  go_ret2
  exact bytes_none2 (Below.refl _ _)
set_option maxRecDepth 100000 in
theorem falling_neg (z : Int) (w : World) (hz : z < 0) : Calls Tryd.prog 54 #[.int .i64 z] w (BytesPost2 5 [] 1 w) := by
  have hd : decide (z < 0) = true := decide_eq_true hz
  go_enter Tryd.func54, Tryd.ntmps54
  go_wp2
  go_ret2
  exact bytes_none2 (Below.refl _ _)

set_option maxRecDepth 100000 in
set_option maxHeartbeats 1000000 in
theorem rising_any (v : Nat) (w : World) (hv : v < 9223372036854775808) : Calls Tryd.prog 86 #[.int .i64 v] w (BytesPost2 5 (risB v) 0 w) := by
  have hd : decide ((v : Int) < 0) = false := decide_eq_false (by omega)
  go_enter Tryd.func86, Tryd.ntmps86
  go_wp2_with (at_make; go_must (refine wpList_make_full _ rfl (.const (.int .i64 8)) (.const (.int .i64 8)) 24 rfl w.heap.size 5 Tryd.t5 (.int .u8 0) 1 Tryd.underlying24 (by kernel_rfl) rfl rfl .i64 .i64 _ _ 8 rfl rfl rfl rfl (by decide) (by decide) (Nat.le_refl _) ?_); intro w1 hown1 hg1)
  have HB1 := Lib.hid (below_grown_none hg1)
  have HO1 : Hid (OwnB 5 w.heap.size w1 (some ⟨w.heap.size, 0, none⟩) 8 (rTo v 0)) := Lib.hid (by
    unfold OwnB
    rw [rTo_len, rTo_zero, ← made_zeros 8]
    exact hown1)
  clear hown1 hg1
  obtain ⟨g, hg⟩ : ∃ g, g = w.heap.size := ⟨_, rfl⟩
  have HG := Lib.hid hg
  rw [← hg] at HO1 ⊢
  clear hg
  go_loopw [0, 5] (fun x i wr => ∃ (j : Nat) (X : Nat) (I : Int), j ≤ 8 ∧ Hid (X = v / 256 ^ j) ∧ X < 9223372036854775808 ∧ x = .int .i64 X ∧ I = 7 - (j : Int) ∧ i = .int .i64 I ∧ Hid (OwnB 5 g wr (some ⟨g, 0, none⟩) 8 (rTo v j)) ∧ Hid (Below w.heap.size w wr)) (fun _ i _ => (intOf i + 1).toNat)
  case atStart => exact ⟨0, v, 7, by omega, Lib.hid (by simp), hv, rfl, rfl, rfl, HO1, HB1⟩
  case round =>
    clear HO1 HB1
    obtain ⟨j, X, I, hj, HX, hXl, rfl, hI, rfl, HO, HB⟩ := hrel
    by_cases hlt : j < 8
    case neg =>
      obtain rfl : j = 8 := by omega
      have hd2 : decide ((0 : Int) ≤ I) = false := decide_eq_false (by omega)
      clear hI
      have HP : Hid (BytesPost2 5 (risB v) 0 w (.returned (.tuple #[.slice (some ⟨g, 0, none⟩) 8 8, .int .i64 0])) wr) := Lib.hid (by
        have h := HO.out
        unfold OwnB at h
        rw [rTo_len] at h
        rw [HG.out] at h ⊢
        exact bytes_post2 (n := 8) h HB.out)
      go_wp2
      go_ret2
      exact HP.out
    obtain ⟨D, rfl⟩ : ∃ D : Nat, I = (D : Int) := ⟨I.toNat, by omega⟩
    have hD : D = 7 - j := by omega
    have hDl : D < 8 := by omega
    have HD := Lib.hid hD
    clear hI hD
    obtain ⟨x, hx⟩ : ∃ x, (rTo v j)[D]? = some x := ⟨_, List.getElem?_eq_getElem (by rw [rTo_len]; exact hDl)⟩
    have hcx : wr.cell? ⟨g, D, none⟩ = some (.int .u8 (x.toNat : Int)) := (World.ownsRow.cellAt HO.out D (by rw [rTo_len]; omega)).trans (u8s_at hx)
    have hfr : wr.frozen? ⟨g, D, none⟩ = false := World.ownsRow.frozenAt HO.out _
    have hst := World.ownsRow.stored HO.out D (u8v (UInt8.ofNat X))
    rw [u8s_set', HX.out, HD.out, ← rTo_succ v j hlt, ← HX.out, ← HD.out, u8v_mod] at hst
    have HST := Lib.hid hst
    clear hst hx
    go_wp2
    have HB2 := Lib.hid (HB.out.grown HST.out.2 HB.out.size (fun b e => by injection e with e; rw [← e, HG.out]; exact Nat.le_refl _))
    have HO2 := Lib.hid (show OwnB 5 g _ (some ⟨g, 0, none⟩) 8 (rTo v (j + 1)) from by
      have := HST.out.1
      unfold OwnB
      rw [rTo_len] at this ⊢
      exact this)
    have HX2 : Hid (X / 256 = v / 256 ^ (j + 1)) := Lib.hid (by rw [HX.out, Nat.pow_succ, Nat.div_div_eq_div_mul])
    go_roundw
    case rel => exact ⟨j + 1, X / 256, (D : Int) - 1, by omega, HX2, by omega, rfl, by have := HD.out; omega, rfl, HO2, HB2⟩
    case measure => simp [intOf]

set_option maxRecDepth 100000 in
theorem falling_any (v : Nat) (w : World) (hv : v < 9223372036854775808) : Calls Tryd.prog 54 #[.int .i64 v] w (BytesPost2 5 (risB (9223372036854775807 - v)) 0 w) := by
  have hd : decide ((v : Int) < 0) = false := decide_eq_false (by omega)
  have HC : Hid (∀ z : Int, z = 9223372036854775807 - (v : Int) → ∀ w, Calls Tryd.prog 86 #[.int .i64 z] w (BytesPost2 5 (risB (9223372036854775807 - v)) 0 w)) := Lib.hid fun z hz w => by
    rw [show z = ((9223372036854775807 - v : Nat) : Int) from by omega]
    exact rising_any _ w (by omega)
  have k1 : IntKind.i64.wrap (9223372036854775807 - (v : Int)) = 9223372036854775807 - (v : Int) := i64_sum (by omega) (by omega)
  go_enter Tryd.func54, Tryd.ntmps54
  go_wp2_with (go_at_call 86; go_must (refine (HC.out _ (by omega) _).mono ?_); rintro e w1 ⟨A1, c1, rfl, hO1, hb1⟩)
  go_ret2
  exact ⟨A1, c1, rfl, hO1, hb1⟩
end Go.Proofs.YtmigjipfomfacaaDoor

/-
  cell.flag, cell.Key walked. (Printed by gen_key.py.)
-/
namespace Go.Proofs.YtmigjipfomfacaaDoor
open Go.RowKit

set_option maxRecDepth 100000 in
theorem flag_any (b : Bool) (w : World) : Calls Tryd.prog 53 #[.bool b] w fun e w' => e = .returned (.int .u8 ((flg b).toNat : Int)) ∧ w = w' := by
  cases b <;> (go_enter Tryd.func53, Tryd.ntmps53; go_wp2; go_ret; exact ⟨rfl, rfl⟩)
theorem idx_two0 (T S : Int) (w : World) : (Instr.index 94 (.agg #[.int .i64 T, .int .i64 S]) (.int .i64 0)).run Tryd.prog w = .ok (.int .i64 T) w := run_index_arr w _ 3 2 _ 0 _ (by kernel_rfl) (by kernel_rfl) (by kernel_rfl) (by decide) rfl
theorem idx_two1 (T S : Int) (w : World) : (Instr.index 94 (.agg #[.int .i64 T, .int .i64 S]) (.int .i64 1)).run Tryd.prog w = .ok (.int .i64 S) w := run_index_arr w _ 3 2 _ 1 _ (by kernel_rfl) (by kernel_rfl) (by kernel_rfl) (by decide) rfl
theorem falling_at (v : Nat) (w : World) (hv : v < 9223372036854775808) : Calls Tryd.prog 54 #[.int .i64 v] w fun e w' => ∃ A c, e = .returned (.tuple #[.slice A 8 c, .int .i64 0]) ∧ Sl w' A 8 c (numK v) ∧ Below w.heap.size w w' := by
  refine (falling_any v w hv).mono fun e w' h => ?_
  obtain ⟨A, c, h1, h2, h3, h4⟩ := BytesPost2.at_ h (risB_len _) rfl
  exact ⟨A, c, h1, by unfold numK; rw [Int.toNat_natCast]; exact h2, h4⟩

set_option maxRecDepth 100000 in
set_option maxHeartbeats 2000000 in
theorem key_five (row qual : List UInt8) (A : Option Addr) (n c F : Nat) (B : Option Addr) (m d T S : Nat) (D : Option Addr) (v q : Nat) (w : World) (hrow : Sl w A n c row) (hqual : Sl w B m d qual) (hz : checkN n F m T S 5 v = 0) :
    Calls Tryd.prog 18 #[.agg #[.slice A n c, .int .i64 (F : Int), .slice B m d, .int .i64 (T : Int), .int .i64 (S : Int), .int .i64 5, .slice D v q]] w (BytesPost2 5 (keyE ⟨row, F, qual, T, S, 5, []⟩) 0 w) := by
  obtain ⟨z1, z2, z3, z4, z5, z6, -⟩ := checkN_ok hz
  have HN : Hid (n ≤ 256 ∧ m ≤ 256 ∧ T ≤ 1099511627776 ∧ S ≤ 17592186044431) := Lib.hid (by omega)
  have HR : Hid (∀ x, Below w.heap.size w x → Sl x A n c row) := Lib.hid fun x h => hrow.later h
  have HQ : Hid (∀ x, Below w.heap.size w x → Sl x B m d qual) := Lib.hid fun x h => hqual.later h
  have HLEN : Hid ((ordB row).length ≤ 514 ∧ (ordB qual).length ≤ 514) := Lib.hid (by
    have h1 := ordB_len row; have h2 := ordB_len qual; have h3 := hrow.len; have h4 := hqual.len; omega)
  have HZ := Lib.hid hz
  have HX0 := Lib.hid (Bx.new w #[.slice A n c, .int .i64 (F : Int), .slice B m d, .int .i64 (T : Int), .int .i64 (S : Int), .int .i64 5, .slice D v q] 37)
  clear hz z1 z2 z3 z4 z5 z6 hrow hqual
  go_enter Tryd.func18, Tryd.ntmps18
  go_wp2_with (go_at_call 51; go_must (refine (check_any _ _ _ _ _ _ _ _ _ _ _ _ _ _).mono ?_); rintro e x1 ⟨rfl, hb1⟩; rw [HZ.out]; have HX1 := Lib.hid (HX0.out.later hb1); clear hb1 HX0)
  have c0 := HX1.out.cell (i := 0) (v := .slice A n c) rfl; have c1 := HX1.out.cell (i := 1) (v := .int .i64 (F : Int)) rfl; have c5 := HX1.out.cell (i := 5) (v := .int .i64 5) rfl
  go_region_held3 (fun x => x.cell? ⟨w.heap.size, 0, none⟩ = some (.slice A n c) ∧ x.cell? ⟨w.heap.size, 1, none⟩ = some (.int .i64 (F : Int)) ∧ x.cell? ⟨w.heap.size, 5, none⟩ = some (.int .i64 5) ∧ Bx w #[.slice A n c, .int .i64 (F : Int), .slice B m d, .int .i64 (T : Int), .int .i64 (S : Int), .int .i64 5, .slice D v q] x) (first | assumption | exact ⟨c0, c1, c5, HX1.out.later (Below.refl _ _).drew⟩ | exact keepB3 ‹_ ∧ _ ∧ _ ∧ Bx _ _ _› hb2 | exact keepA3 ‹_ ∧ _ ∧ _ ∧ Bx _ _ _› | exact keepG3 ‹_ ∧ _ ∧ _ ∧ Bx _ _ _› (own_below hO2 ((Below.refl _ _).alloc (Nat.le_refl _) _)) hg3) (first
    | (go_at_call 52; refine (ordered_any row A n c _ (by have := HN.out; omega) (HR.out _ (‹_ ∧ _ ∧ _ ∧ Bx _ _ _›).2.2.2.up).rb).mono ?_; rintro e x2 ⟨A2, c2, rfl, hO2, hb2⟩; have hO2 := own_low hO2 (‹_ ∧ _ ∧ _ ∧ Bx _ _ _›).2.2.2.size)
    | (go_at_call 53; refine (flag_any _ _).mono ?_; rintro e w0 ⟨rfl, rfl⟩)
    | (refine step_append_cells _ (by rfl) _ _ (by rfl) Tryd.u8s' (w.heap.size + 1) (.slice A2 (ordB row).length c2) (ordB row).length (u8s (ordB row)) (by rfl) (own_below hO2 ((Below.refl _ _).alloc (Nat.le_refl _) _)) (x2.heap.size + 1) (some ⟨x2.heap.size, 0, none⟩) 2 2 (u8s [UInt8.ofNat F, flg true]) (by rfl) (by exact reads_lit x2 _ [UInt8.ofNat F, flg true] _ _ (by show [Value.int .u8 (IntKind.u8.wrap (F : Int)), _] = [u8v _, u8v _]; rw [u8v_mod, IntKind.wrap_u8]; rfl)) (u8s_one _) (by have := HLEN.out; unfold maxLen; omega) (by have := HLEN.out; omega) (‹_ ∧ _ ∧ _ ∧ Bx _ _ _›).2.2.2.size ?_; intro v3 x3 hown3 hg3 hat3 hold3 hcell3))
  all_goals
    obtain ⟨-, -, -, hx3⟩ := ‹_ ∧ _ ∧ _ ∧ Bx _ _ x3›
    have HX3 := Lib.hid hx3
    rw [← u8s_append] at hown3
    have HO3 := Lib.hid hown3
    clear hx3 hown3 hg3 hat3 hold3 hcell3 hO2 hb2 c0 c1 c5
    have q3_3 := HX3.out.cell (i := 3) (v := .int .i64 (T : Int)) rfl
    have q3_4 := HX3.out.cell (i := 4) (v := .int .i64 (S : Int)) rfl
    go_wp2_with fail
    clear HX1
    generalize IntKind.u8.wrap (F : Int) = wf
    obtain ⟨P, hP⟩ : ∃ P, P = ordB row ++ [UInt8.ofNat F, flg true] := ⟨_, rfl⟩
    have HP := Lib.hid hP
    have HOP : Hid (x3.ownsRow (w.heap.size + 1) 5 1 v3 P.length (u8s P)) := Lib.hid (by
      have := HO3.out
      rw [← hP] at this
      have e : P.length = (ordB row).length + 2 := by rw [hP]; simp only [List.length_append, List.length_cons, List.length_nil]
      rw [e]; exact this)
    have HPL : Hid (P.length ≤ 1031) := Lib.hid (by have := HLEN.out; rw [hP]; simp only [List.length_append, List.length_cons, List.length_nil]; omega)
    clear hP
    go_loopw [5, 47] (fun b i wr => ∃ (k : Nat) (Q : List UInt8), k ≤ 2 ∧ i = .int .i64 k ∧ Hid (Q = P ++ (if k = 0 then [] else if k = 1 then numK T else numK T ++ numK S)) ∧ Hid (wr.ownsRow (w.heap.size + 1) 5 1 b Q.length (u8s Q)) ∧ Hid (Q.length ≤ P.length + 16) ∧ Hid (Bx w #[.slice A n c, .int .i64 (F : Int), .slice B m d, .int .i64 (T : Int), .int .i64 (S : Int), .int .i64 5, .slice D v q] wr)) (fun _ i _ => 2 - (intOf i).toNat)
    case atStart => exact ⟨0, P, by decide, rfl, Lib.hid (by simp), HOP, Lib.hid (by omega), HX3⟩
    case round =>
      clear HOP HX3
      obtain ⟨k, Q, hk, hi, HQQ, HO, HL, HX⟩ := hrel
      obtain ⟨u, hu⟩ : ∃ u, u = u5 := ⟨_, rfl⟩
      rw [← hu] at HO ⊢
      clear hu
      have hk' : k = 0 ∨ k = 1 ∨ k = 2 := by omega
      clear hk
      rcases hk' with rfl | rfl | rfl
      case inr.inr =>
        replace hi : _ = Value.int .i64 2 := hi
        subst hi
        have p5 := HX.out.cell (i := 5) (v := .int .i64 5) rfl
        go_wp2_with (at_builtin; go_must (refine wpList_append_reads _ rfl (.tmp 62) (.tmp 66) rfl Tryd.u8s' (w.heap.size + 1) u Q.length (u8s Q) rfl (HO.out.alloc _) (wr.heap.size + 1) (some ⟨wr.heap.size, 0, none⟩) 1 1 (u8s [UInt8.ofNat 5]) rfl (by exact reads_lit wr _ [UInt8.ofNat 5] _ _ (by rfl)) (u8s_one _) (by have := HL.out; have := HPL.out; unfold maxLen; omega) (by have := HL.out; have := HPL.out; omega) (by have := HX.out.size; simp; omega) ?_); intro v1 x1 hown hg hat; have HX1 := Lib.hid ((HX.out.alloc _).grow (HO.out.alloc _) hg); rw [← u8s_append] at hown; have HO1 := Lib.hid hown; clear hown hg hat)
        go_ret2
        have hf : Q ++ [UInt8.ofNat 5] = keyE ⟨row, F, qual, T, S, 5, []⟩ := by
          rw [HQQ.out, HP.out]
          unfold keyE tailK qualK
          simp
        rw [← hf]
        exact bytes_post2 (own_low HO1.out (Nat.le_succ _)) HX1.out.up
      case inl =>
        replace hi : _ = Value.int .i64 0 := hi
        subst hi
        have ix := fun w => idx_two0 (T : Int) (S : Int) w
        go_wp2_with (first
          | (go_at_call 54; go_must (refine (falling_at T _ (by have := HN.out; omega)).mono ?_); rintro e x1 ⟨A1, c1, rfl, hs1, hb1⟩; have HX1 := Lib.hid (HX.out.later hb1); have HO1 := Lib.hid (own_below HO.out hb1); have HR1 := Lib.hid hs1.rb; clear hs1 hb1)
          | (at_builtin; go_must (refine wpList_append_reads _ rfl (.tmp 58) (.tmp 59) rfl Tryd.u8s' (w.heap.size + 1) u Q.length (u8s Q) rfl HO1.out x1.heap.size A1 8 c1 (u8s (numK T)) rfl HR1.out (u8s_one _) (by have := HL.out; have := HPL.out; unfold maxLen; omega) (by have := HL.out; have := HPL.out; omega) (by have := HX1.out.size; omega) ?_); intro v2 x2 hown hg hat; have HX2 := Lib.hid (HX1.out.grow HO1.out hg); rw [← u8s_append] at hown; have HO2 := Lib.hid hown; clear hown hg hat))
        have HO3 : Hid (x2.ownsRow (w.heap.size + 1) 5 1 v2 (Q ++ numK T).length (u8s (Q ++ numK T))) := Lib.hid (by
          have := HO2.out
          rw [show (Q ++ numK T).length = Q.length + 8 from by simp [numK_len]]; exact this)
        clear HO2
        go_roundw
        case measure => simp [intOf]
        case rel => exact ⟨1, Q ++ numK T, by decide, rfl, Lib.hid (by rw [HQQ.out]; simp), HO3, Lib.hid (by have := HQQ.out; rw [this]; simp [numK_len]), HX2⟩
      case inr.inl =>
        replace hi : _ = Value.int .i64 1 := hi
        subst hi
        have ix := fun w => idx_two1 (T : Int) (S : Int) w
        go_wp2_with (first
          | (go_at_call 54; go_must (refine (falling_at S _ (by have := HN.out; omega)).mono ?_); rintro e x1 ⟨A1, c1, rfl, hs1, hb1⟩; have HX1 := Lib.hid (HX.out.later hb1); have HO1 := Lib.hid (own_below HO.out hb1); have HR1 := Lib.hid hs1.rb; clear hs1 hb1)
          | (at_builtin; go_must (refine wpList_append_reads _ rfl (.tmp 58) (.tmp 59) rfl Tryd.u8s' (w.heap.size + 1) u Q.length (u8s Q) rfl HO1.out x1.heap.size A1 8 c1 (u8s (numK S)) rfl HR1.out (u8s_one _) (by have := HL.out; have := HPL.out; unfold maxLen; omega) (by have := HL.out; have := HPL.out; omega) (by have := HX1.out.size; omega) ?_); intro v2 x2 hown hg hat; have HX2 := Lib.hid (HX1.out.grow HO1.out hg); rw [← u8s_append] at hown; have HO2 := Lib.hid hown; clear hown hg hat))
        have HO3 : Hid (x2.ownsRow (w.heap.size + 1) 5 1 v2 (Q ++ numK S).length (u8s (Q ++ numK S))) := Lib.hid (by
          have := HO2.out
          rw [show (Q ++ numK S).length = Q.length + 8 from by simp [numK_len]]; exact this)
        clear HO2
        go_roundw
        case measure => simp [intOf]
        case rel => exact ⟨2, Q ++ numK S, by decide, rfl, Lib.hid (by rw [HQQ.out]; simp), HO3, Lib.hid (by have := HQQ.out; rw [this]; simp [numK_len]), HX2⟩

set_option maxRecDepth 100000 in
set_option maxHeartbeats 2000000 in
theorem key_more (row qual : List UInt8) (A : Option Addr) (n c F : Nat) (B : Option Addr) (m d T S K : Nat) (D : Option Addr) (v q : Nat) (w : World) (hrow : Sl w A n c row) (hqual : Sl w B m d qual) (hz : checkN n F m T S (K : Int) v = 0) (hk : K ≠ 5) :
    Calls Tryd.prog 18 #[.agg #[.slice A n c, .int .i64 (F : Int), .slice B m d, .int .i64 (T : Int), .int .i64 (S : Int), .int .i64 (K : Int), .slice D v q]] w (BytesPost2 5 (keyE ⟨row, F, qual, T, S, (K : Int), []⟩) 0 w) := by
  obtain ⟨z1, z2, z3, z4, z5, z6, -⟩ := checkN_ok hz
  have HN : Hid (n ≤ 256 ∧ m ≤ 256 ∧ T ≤ 1099511627776 ∧ S ≤ 17592186044431) := Lib.hid (by omega)
  have HR : Hid (∀ x, Below w.heap.size w x → Sl x A n c row) := Lib.hid fun x h => hrow.later h
  have HQ : Hid (∀ x, Below w.heap.size w x → Sl x B m d qual) := Lib.hid fun x h => hqual.later h
  have HLEN : Hid ((ordB row).length ≤ 514 ∧ (ordB qual).length ≤ 514) := Lib.hid (by
    have h1 := ordB_len row; have h2 := ordB_len qual; have h3 := hrow.len; have h4 := hqual.len; omega)
  have HZ := Lib.hid hz
  have HX0 := Lib.hid (Bx.new w #[.slice A n c, .int .i64 (F : Int), .slice B m d, .int .i64 (T : Int), .int .i64 (S : Int), .int .i64 (K : Int), .slice D v q] 37)
  have hk5 : ((K : Int) == 5) = false := by rw [beq_eq_false_iff_ne]; omega
  have hk5' : ((K : Int) != 5) = true := by rw [bne_iff_ne]; omega
  have HK := Lib.hid hk
  obtain ⟨b4, hb4⟩ : ∃ b4, b4 = ((K : Int) == 4) := ⟨_, rfl⟩
  have HB4 := Lib.hid hb4
  have hk4 : ((K : Int) == 4) = b4 := hb4.symm
  clear hk hb4
  clear hz z1 z2 z3 z4 z5 z6 hrow hqual
  have tok3 : True := trivial
  have tok4 : True := trivial
  go_enter Tryd.func18, Tryd.ntmps18
  go_wp2_with (go_at_call 51; go_must (refine (check_any _ _ _ _ _ _ _ _ _ _ _ _ _ _).mono ?_); rintro e x1 ⟨rfl, hb1⟩; rw [HZ.out]; have HX1 := Lib.hid (HX0.out.later hb1); clear hb1 HX0)
  have c0 := HX1.out.cell (i := 0) (v := .slice A n c) rfl; have c1 := HX1.out.cell (i := 1) (v := .int .i64 (F : Int)) rfl; have c5 := HX1.out.cell (i := 5) (v := .int .i64 (K : Int)) rfl
  go_region_held3 (fun x => x.cell? ⟨w.heap.size, 0, none⟩ = some (.slice A n c) ∧ x.cell? ⟨w.heap.size, 1, none⟩ = some (.int .i64 (F : Int)) ∧ x.cell? ⟨w.heap.size, 5, none⟩ = some (.int .i64 (K : Int)) ∧ Bx w #[.slice A n c, .int .i64 (F : Int), .slice B m d, .int .i64 (T : Int), .int .i64 (S : Int), .int .i64 (K : Int), .slice D v q] x) (first | assumption | exact ⟨c0, c1, c5, HX1.out.later (Below.refl _ _).drew⟩ | exact keepB3 ‹_ ∧ _ ∧ _ ∧ Bx _ _ _› hb2 | exact keepA3 ‹_ ∧ _ ∧ _ ∧ Bx _ _ _› | exact keepG3 ‹_ ∧ _ ∧ _ ∧ Bx _ _ _› (own_below hO2 ((Below.refl _ _).alloc (Nat.le_refl _) _)) hg3) (first
    | (go_at_call 52; refine (ordered_any row A n c _ (by have := HN.out; omega) (HR.out _ (‹_ ∧ _ ∧ _ ∧ Bx _ _ _›).2.2.2.up).rb).mono ?_; rintro e x2 ⟨A2, c2, rfl, hO2, hb2⟩; have hO2 := own_low hO2 (‹_ ∧ _ ∧ _ ∧ Bx _ _ _›).2.2.2.size)
    | (go_at_call 53; refine (flag_any _ _).mono ?_; rintro e w0 ⟨rfl, rfl⟩)
    | (refine step_append_cells _ (by rfl) _ _ (by rfl) Tryd.u8s' (w.heap.size + 1) (.slice A2 (ordB row).length c2) (ordB row).length (u8s (ordB row)) (by rfl) (own_below hO2 ((Below.refl _ _).alloc (Nat.le_refl _) _)) (x2.heap.size + 1) (some ⟨x2.heap.size, 0, none⟩) 2 2 (u8s [UInt8.ofNat F, flg false]) (by rfl) (by exact reads_lit x2 _ [UInt8.ofNat F, flg false] _ _ (by show [Value.int .u8 (IntKind.u8.wrap (F : Int)), _] = [u8v _, u8v _]; rw [u8v_mod, IntKind.wrap_u8]; rfl)) (u8s_one _) (by have := HLEN.out; unfold maxLen; omega) (by have := HLEN.out; omega) (‹_ ∧ _ ∧ _ ∧ Bx _ _ _›).2.2.2.size ?_; intro v3 x3 hown3 hg3 hat3 hold3 hcell3))
  all_goals
    obtain ⟨-, -, -, hx3⟩ := ‹_ ∧ _ ∧ _ ∧ Bx _ _ x3›
    have HX3 := Lib.hid hx3
    rw [← u8s_append] at hown3
    have HO3 := Lib.hid hown3
    clear hx3 hown3 hg3 hat3 hold3 hcell3 hO2 hb2 c0 c1 c5
    have q3_5 := HX3.out.cell (i := 5) (v := .int .i64 (K : Int)) rfl
    have q3_2 := HX3.out.cell (i := 2) (v := .slice B m d) rfl
    go_wp2_with (first
      | (go_at_call 53; go_must (refine (flag_any _ _).mono ?_); rintro e w0 ⟨rfl, rfl⟩)
      | (go_at_call 52; have _t := tok3; go_must (refine (ordered_any qual B m d _ (by have := HN.out; omega) (HQ.out _ HX3.out.up).rb).mono ?_); rintro e x4 ⟨A4, c4, rfl, hO4, hb4⟩; have HX4 := Lib.hid (HX3.out.later hb4); have HO4 := Lib.hid (own_below HO3.out hb4); have HR4 := Lib.hid (RB.own hO4); clear hO4 hb4 tok3)
      | (at_builtin; have _t := tok4; go_must (refine wpList_append_reads _ rfl (.tmp 30) (.tmp 33) rfl Tryd.u8s' (w.heap.size + 1) v3 ((ordB row).length + 2) (u8s (ordB row ++ [UInt8.ofNat F, flg false])) rfl HO4.out x4.heap.size A4 (ordB qual).length c4 (u8s (ordB qual)) rfl HR4.out (u8s_one _) (by have := HLEN.out; unfold maxLen; omega) (by have := HLEN.out; omega) (by have := HX4.out.size; omega) ?_); intro v5 x5 hown hg hat; clear tok4; have HX5 := Lib.hid (HX4.out.grow HO4.out hg); rw [← u8s_append] at hown; have HO5 := Lib.hid hown; clear hown hg hat; have q5_5 := HX5.out.cell (i := 5) (v := .int .i64 (K : Int)) rfl)
      | (at_builtin; go_must (refine wpList_append_reads _ rfl (.tmp 35) (.tmp 40) rfl Tryd.u8s' (w.heap.size + 1) v5 ((ordB row).length + 2 + (ordB qual).length) (u8s ((ordB row ++ [UInt8.ofNat F, flg false]) ++ ordB qual)) rfl (HO5.out.alloc _) (x5.heap.size + 1) (some ⟨x5.heap.size, 0, none⟩) 1 1 (u8s ([flg b4])) rfl (by exact reads_lit x5 _ ([flg b4]) _ _ (by rfl)) (u8s_one _) (by have := HLEN.out; unfold maxLen; omega) (by have := HLEN.out; omega) (by have := HX5.out.size; simp; omega) ?_); intro v6 x6 hown hg hat; have HX6 := Lib.hid ((HX5.out.alloc _).grow (HO5.out.alloc _) hg); rw [← u8s_append] at hown; have HO6 := Lib.hid hown; clear hown hg hat; have q6_5 := HX6.out.cell (i := 5) (v := .int .i64 (K : Int)) rfl; have q6_3 := HX6.out.cell (i := 3) (v := .int .i64 (T : Int)) rfl; have q6_4 := HX6.out.cell (i := 4) (v := .int .i64 (S : Int)) rfl))
    clear HX1
    generalize IntKind.u8.wrap (F : Int) = wf
    obtain ⟨P, hP⟩ : ∃ P, P = ((ordB row ++ [UInt8.ofNat F, flg false]) ++ ordB qual) ++ [flg b4] := ⟨_, rfl⟩
    have HP := Lib.hid hP
    have HOP : Hid (x6.ownsRow (w.heap.size + 1) 5 1 v6 P.length (u8s P)) := Lib.hid (by
      have := HO6.out
      rw [← hP] at this
      have e : P.length = (ordB row).length + 2 + (ordB qual).length + 1 := by rw [hP]; simp only [List.length_append, List.length_cons, List.length_nil]
      rw [e]; exact this)
    have HPL : Hid (P.length ≤ 1031) := Lib.hid (by have := HLEN.out; rw [hP]; simp only [List.length_append, List.length_cons, List.length_nil]; omega)
    clear hP
    go_loopw [5, 47] (fun b i wr => ∃ (k : Nat) (Q : List UInt8), k ≤ 2 ∧ i = .int .i64 k ∧ Hid (Q = P ++ (if k = 0 then [] else if k = 1 then numK T else numK T ++ numK S)) ∧ Hid (wr.ownsRow (w.heap.size + 1) 5 1 b Q.length (u8s Q)) ∧ Hid (Q.length ≤ P.length + 16) ∧ Hid (Bx w #[.slice A n c, .int .i64 (F : Int), .slice B m d, .int .i64 (T : Int), .int .i64 (S : Int), .int .i64 (K : Int), .slice D v q] wr)) (fun _ i _ => 2 - (intOf i).toNat)
    case atStart => exact ⟨0, P, by decide, rfl, Lib.hid (by simp), HOP, Lib.hid (by omega), HX6⟩
    case round =>
      clear HOP HX6
      obtain ⟨k, Q, hk, hi, HQQ, HO, HL, HX⟩ := hrel
      obtain ⟨u, hu⟩ : ∃ u, u = u5 := ⟨_, rfl⟩
      rw [← hu] at HO ⊢
      clear hu
      have hk' : k = 0 ∨ k = 1 ∨ k = 2 := by omega
      clear hk
      rcases hk' with rfl | rfl | rfl
      case inr.inr =>
        replace hi : _ = Value.int .i64 2 := hi
        subst hi
        have p5 := HX.out.cell (i := 5) (v := .int .i64 (K : Int)) rfl
        go_wp2_with (at_builtin; go_must (refine wpList_append_reads _ rfl (.tmp 62) (.tmp 66) rfl Tryd.u8s' (w.heap.size + 1) u Q.length (u8s Q) rfl (HO.out.alloc _) (wr.heap.size + 1) (some ⟨wr.heap.size, 0, none⟩) 1 1 (u8s [UInt8.ofNat K]) rfl (by exact reads_lit wr _ [UInt8.ofNat K] _ _ (by show [_] = [u8v _]; rw [u8v_mod])) (u8s_one _) (by have := HL.out; have := HPL.out; unfold maxLen; omega) (by have := HL.out; have := HPL.out; omega) (by have := HX.out.size; simp; omega) ?_); intro v1 x1 hown hg hat; have HX1 := Lib.hid ((HX.out.alloc _).grow (HO.out.alloc _) hg); rw [← u8s_append] at hown; have HO1 := Lib.hid hown; clear hown hg hat)
        go_ret2
        have hf : Q ++ [UInt8.ofNat K] = keyE ⟨row, F, qual, T, S, (K : Int), []⟩ := by
          rw [HQQ.out, HP.out]
          unfold keyE tailK qualK
          have hkk : ¬ ((K : Int) = 5) := by have := HK.out; omega
          have h5 : ((K : Int) == 5) = false := hk5
          have hB := HB4.out
          clear hk4
          subst hB
          rw [if_neg hkk]
          simp only [h5]
          simp
        rw [← hf]
        exact bytes_post2 (own_low HO1.out (Nat.le_succ _)) HX1.out.up
      case inl =>
        replace hi : _ = Value.int .i64 0 := hi
        subst hi
        have ix := fun w => idx_two0 (T : Int) (S : Int) w
        go_wp2_with (first
          | (go_at_call 54; go_must (refine (falling_at T _ (by have := HN.out; omega)).mono ?_); rintro e x1 ⟨A1, c1, rfl, hs1, hb1⟩; have HX1 := Lib.hid (HX.out.later hb1); have HO1 := Lib.hid (own_below HO.out hb1); have HR1 := Lib.hid hs1.rb; clear hs1 hb1)
          | (at_builtin; go_must (refine wpList_append_reads _ rfl (.tmp 58) (.tmp 59) rfl Tryd.u8s' (w.heap.size + 1) u Q.length (u8s Q) rfl HO1.out x1.heap.size A1 8 c1 (u8s (numK T)) rfl HR1.out (u8s_one _) (by have := HL.out; have := HPL.out; unfold maxLen; omega) (by have := HL.out; have := HPL.out; omega) (by have := HX1.out.size; omega) ?_); intro v2 x2 hown hg hat; have HX2 := Lib.hid (HX1.out.grow HO1.out hg); rw [← u8s_append] at hown; have HO2 := Lib.hid hown; clear hown hg hat))
        have HO3 : Hid (x2.ownsRow (w.heap.size + 1) 5 1 v2 (Q ++ numK T).length (u8s (Q ++ numK T))) := Lib.hid (by
          have := HO2.out
          rw [show (Q ++ numK T).length = Q.length + 8 from by simp [numK_len]]; exact this)
        clear HO2
        go_roundw
        case measure => simp [intOf]
        case rel => exact ⟨1, Q ++ numK T, by decide, rfl, Lib.hid (by rw [HQQ.out]; simp), HO3, Lib.hid (by have := HQQ.out; rw [this]; simp [numK_len]), HX2⟩
      case inr.inl =>
        replace hi : _ = Value.int .i64 1 := hi
        subst hi
        have ix := fun w => idx_two1 (T : Int) (S : Int) w
        go_wp2_with (first
          | (go_at_call 54; go_must (refine (falling_at S _ (by have := HN.out; omega)).mono ?_); rintro e x1 ⟨A1, c1, rfl, hs1, hb1⟩; have HX1 := Lib.hid (HX.out.later hb1); have HO1 := Lib.hid (own_below HO.out hb1); have HR1 := Lib.hid hs1.rb; clear hs1 hb1)
          | (at_builtin; go_must (refine wpList_append_reads _ rfl (.tmp 58) (.tmp 59) rfl Tryd.u8s' (w.heap.size + 1) u Q.length (u8s Q) rfl HO1.out x1.heap.size A1 8 c1 (u8s (numK S)) rfl HR1.out (u8s_one _) (by have := HL.out; have := HPL.out; unfold maxLen; omega) (by have := HL.out; have := HPL.out; omega) (by have := HX1.out.size; omega) ?_); intro v2 x2 hown hg hat; have HX2 := Lib.hid (HX1.out.grow HO1.out hg); rw [← u8s_append] at hown; have HO2 := Lib.hid hown; clear hown hg hat))
        have HO3 : Hid (x2.ownsRow (w.heap.size + 1) 5 1 v2 (Q ++ numK S).length (u8s (Q ++ numK S))) := Lib.hid (by
          have := HO2.out
          rw [show (Q ++ numK S).length = Q.length + 8 from by simp [numK_len]]; exact this)
        clear HO2
        go_roundw
        case measure => simp [intOf]
        case rel => exact ⟨2, Q ++ numK S, by decide, rfl, Lib.hid (by rw [HQQ.out]; simp), HO3, Lib.hid (by have := HQQ.out; rw [this]; simp [numK_len]), HX2⟩

set_option maxRecDepth 100000 in
set_option maxHeartbeats 1000000 in
theorem key_err (f t s k : Int) (A : Option Addr) (n c : Nat) (B : Option Addr) (m d : Nat) (D : Option Addr) (v q : Nat) (w : World) (hz : checkN n f m t s k v ≠ 0) :
    Calls Tryd.prog 18 #[.agg #[.slice A n c, .int .i64 f, .slice B m d, .int .i64 t, .int .i64 s, .int .i64 k, .slice D v q]] w (BytesPost2 5 [] (checkN n f m t s k v) w) := by
  obtain ⟨z, hzz⟩ : ∃ z, z = checkN n f m t s k v := ⟨_, rfl⟩
  rw [← hzz] at hz ⊢
  have HZ := Lib.hid hzz
  have hd : (z != 0) = true := by rw [bne_iff_ne]; exact hz
  have HB := Lib.hid (fun o => (Below.refl w.heap.size w).alloc (Nat.le_refl _) o)
  clear hz hzz
  go_enter Tryd.func18, Tryd.ntmps18
  go_wp2_with (go_at_call 51; go_must (refine (check_any _ _ _ _ _ _ _ _ _ _ _ _ _ _).mono ?_); rintro e x1 ⟨rfl, hb1⟩; rw [← HZ.out]; have HB1 := Lib.hid (below_up (HB.out _) hb1); clear hb1 HB)
  go_ret2
  exact bytes_none2 HB1.out
theorem key_any (e : Ent) (A : Option Addr) (n c : Nat) (B : Option Addr) (m d : Nat) (D : Option Addr) (v q : Nat) (w : World) (h : En w A n c B m d D v q e) :
    Calls Tryd.prog 18 #[entV A n c B m d D v q e] w (BytesPost2 5 (KeyE e).1 (KeyE e).2 w) := by
  obtain ⟨row, f, qual, t, s, k, val⟩ := e
  have hl1 : row.length = n := h.row.len
  have hl2 : qual.length = m := h.qual.len
  have hl3 : val.length = v := h.val.len
  have hc : checkE ⟨row, f, qual, t, s, k, val⟩ = checkN n f m t s k v := by unfold checkE; simp only [hl1, hl2, hl3]
  unfold KeyE
  rw [hc]
  by_cases hz : checkN n f m t s k v = 0
  · rw [if_pos hz]
    obtain ⟨z1, z2, z3, z4, z5, z6, -⟩ := checkN_ok hz
    obtain ⟨F, rfl⟩ : ∃ F : Nat, f = F := ⟨f.toNat, by omega⟩
    obtain ⟨T, rfl⟩ : ∃ T : Nat, t = T := ⟨t.toNat, by omega⟩
    obtain ⟨S, rfl⟩ : ∃ S : Nat, s = S := ⟨s.toNat, by omega⟩
    obtain ⟨K, rfl⟩ : ∃ K : Nat, k = K := ⟨k.toNat, by omega⟩
    by_cases hk : K = 5
    · subst hk
      exact key_five row qual A n c F B m d T S D v q w h.row h.qual hz
    · exact key_more row qual A n c F B m d T S K D v q w h.row h.qual hz hk
  · rw [if_neg hz]
    exact key_err f t s k A n c B m d D v q w hz
end Go.Proofs.YtmigjipfomfacaaDoor

/-
  Several boxes of cells of the call's own, side by side, that are written cell by cell.
-/
namespace Go.Proofs.YtmigjipfomfacaaDoor
open Go.RowKit

section
variable {w x y : World} {cs : List (Array Value)}
structure Bxs (w : World) (cs : List (Array Value)) (x : World) : Prop where
  up : Below w.heap.size w x
  size : w.heap.size + cs.length ≤ x.heap.size
  cell : ∀ (j : Nat) c (i : Nat) v, cs[j]? = some c → c[i]? = some v → x.cell? ⟨w.heap.size + j, i, none⟩ = some v
  fz : ∀ (j : Nat) c (i : Nat), cs[j]? = some c → x.frozen? ⟨w.heap.size + j, i, none⟩ = false
theorem Bxs.nil (w : World) : Bxs w [] w := ⟨Below.refl _ _, Nat.le_refl _, fun j c i v h => (by simp at h), fun j c i h => (by simp at h)⟩
theorem Bxs.later (h : Bxs w cs x) (k : Below x.heap.size x y) : Bxs w cs y := by
  have hlt : ∀ (j : Nat) c, cs[j]? = some c → w.heap.size + j < x.heap.size := fun j c hj => by
    have := (List.getElem?_eq_some_iff.1 hj).1
    have := h.size
    omega
  exact ⟨h.up.trans (k.mono h.up.size), Nat.le_trans h.size k.size, fun j c i v hj hi => (k.cell (p := ⟨w.heap.size + j, i, none⟩) (hlt j c hj)).trans (h.cell j c i v hj hi),
    fun j c i hj => (k.frozen (p := ⟨w.heap.size + j, i, none⟩) (hlt j c hj)).trans (h.fz j c i hj)⟩
theorem Bxs.push {T : TypeId} {c : Array Value} (h : Bxs w cs x) (hs : x.heap.size = w.heap.size + cs.length) : Bxs w (cs ++ [c]) (x.alloc (.cells c T)) := by
  have k := h.later ((Below.refl _ x).alloc (Nat.le_refl _) (.cells c T))
  refine ⟨k.up, ?_, fun j d i v hj hi => ?_, fun j d i hj => ?_⟩
  · show _ ≤ (x.heap.push _).size
    simp only [Array.size_push, List.length_append, List.length_cons, List.length_nil]; omega
  · rcases Nat.lt_or_ge j cs.length with hlt | hge
    · rw [List.getElem?_append_left hlt] at hj; exact k.cell j d i v hj hi
    · rw [List.getElem?_append_right hge] at hj
      have : j = cs.length := by have := (List.getElem?_eq_some_iff.1 hj).1; simp at this; omega
      subst this
      simp at hj
      subst hj
      rw [← hs]
      simpa using hi
  · rcases Nat.lt_or_ge j cs.length with hlt | hge
    · rw [List.getElem?_append_left hlt] at hj; exact k.fz j d i hj
    · rw [List.getElem?_append_right hge] at hj
      have : j = cs.length := by have := (List.getElem?_eq_some_iff.1 hj).1; simp at this; omega
      subst this
      rw [← hs]
      simp
theorem Bxs.one (w : World) (T : TypeId) (c : Array Value) : Bxs w [c] (w.alloc (.cells c T)) := (Bxs.nil w).push (by simp)
theorem Bxs.two (w : World) (T : TypeId) (c c' : Array Value) : Bxs w [c, c'] ((w.alloc (.cells c T)).alloc (.cells c' T)) := (Bxs.one w T c).push (by show (w.heap.push _).size = _; simp)
theorem Bxs.three (w : World) (T : TypeId) (c c' c'' : Array Value) : Bxs w [c, c', c''] (((w.alloc (.cells c T)).alloc (.cells c' T)).alloc (.cells c'' T)) := (Bxs.two w T c c').push (by show ((w.heap.push _).push _).size = _; simp)
/-- One cell is written. -/
theorem Bxs.set (h : Bxs w cs x) {j : Nat} {c : Array Value} (i : Nat) (v : Value) (hj : cs[j]? = some c) (hi : i < c.size) : Bxs w (cs.set j (c.set! i v)) (x.setCell ⟨w.heap.size + j, i, none⟩ v) := by
  have hjl := (List.getElem?_eq_some_iff.1 hj).1
  have hget : ∀ (k : Nat) d, (cs.set j (c.set! i v))[k]? = some d → (k = j ∧ d = c.set! i v) ∨ (k ≠ j ∧ cs[k]? = some d) := fun k d hk => by
    rw [List.getElem?_set] at hk
    by_cases e : j = k
    · subst e; rw [if_pos rfl, if_pos hjl] at hk; injection hk with hk; exact .inl ⟨rfl, hk.symm⟩
    · rw [if_neg e] at hk; exact .inr ⟨fun h => e h.symm, hk⟩
  refine ⟨h.up.setCell (Nat.le_add_right _ _) v, by rw [List.length_set]; exact Nat.le_trans h.size (by simp), fun k d n u hk hn => ?_, fun k d n hk => ?_⟩
  · rcases hget k d hk with ⟨rfl, rfl⟩ | ⟨hne, hk⟩
    · by_cases e : n = i
      · subst e
        have : u = v := by simp [hi] at hn; exact hn.symm
        subst this
        exact World.cell?_setCell_same _ _ _ (h.cell k c n c[n] hj (by simp [hi]))
      · have : c[n]? = some u := by
          rw [Array.set!_eq_setIfInBounds, Array.getElem?_setIfInBounds_ne (fun h => e h.symm)] at hn; exact hn
        rw [World.cell?_setCell_other _ _ _ _ (fun e' => by injection e' with _ e'; exact e e'.symm)]
        exact h.cell k c n u hj this
    · rw [World.cell?_setCell_other _ _ _ _ (fun e' => by injection e' with e' _; omega)]
      exact h.cell k d n u hk hn
  · rw [World.frozen?_setCell]
    rcases hget k d hk with ⟨rfl, rfl⟩ | ⟨hne, hk⟩
    · exact h.fz k c n hj
    · exact h.fz k d n hk
theorem Bxs.c0 (h : Bxs w cs x) {c : Array Value} {i : Nat} {v : Value} (hj : cs[0]? = some c) (hi : c[i]? = some v) : x.cell? ⟨w.heap.size, i, none⟩ = some v := h.cell 0 c i v hj hi
theorem Bxs.c1 (h : Bxs w cs x) {c : Array Value} {i : Nat} {v : Value} (hj : cs[1]? = some c) (hi : c[i]? = some v) : x.cell? ⟨w.heap.size + 1, i, none⟩ = some v := h.cell 1 c i v hj hi
theorem Bxs.c2 (h : Bxs w cs x) {c : Array Value} {i : Nat} {v : Value} (hj : cs[2]? = some c) (hi : c[i]? = some v) : x.cell? ⟨w.heap.size + 1 + 1, i, none⟩ = some v := h.cell 2 c i v hj hi
theorem Bxs.f0 (h : Bxs w cs x) {c : Array Value} (hj : cs[0]? = some c) : ∀ i, x.frozen? ⟨w.heap.size, i, none⟩ = false := fun i => h.fz 0 c i hj
theorem Bxs.f1 (h : Bxs w cs x) {c : Array Value} (hj : cs[1]? = some c) : ∀ i, x.frozen? ⟨w.heap.size + 1, i, none⟩ = false := fun i => h.fz 1 c i hj
theorem Bxs.f2 (h : Bxs w cs x) {c : Array Value} (hj : cs[2]? = some c) : ∀ i, x.frozen? ⟨w.heap.size + 1 + 1, i, none⟩ = false := fun i => h.fz 2 c i hj
theorem Bxs.cells0 (h : Bxs w cs x) {c : Array Value} (hj : cs[0]? = some c) : ∀ j v, c[j]? = some v → x.cell? ⟨w.heap.size, j, none⟩ = some v := fun j v hv => h.cell 0 c j v hj hv
/-- Boxes, and rows of bytes made since, that lie aside of one another. -/
structure Bt (T : TypeId) (w : World) (cs : List (Array Value)) (rs : RowL) (x : World) : Prop where
  box : Bxs w cs x
  rows : RowsB T (w.heap.size + cs.length) x rs
variable {T : TypeId} {rs : RowL}
theorem Bt.of (h : Bxs w cs x) : Bt T w cs [] x := ⟨h, RowsB.nil⟩
theorem Bt.later (h : Bt T w cs rs x) (k : Below x.heap.size x y) : Bt T w cs rs y := ⟨h.box.later k, h.rows.later k⟩
theorem Bt.drew (h : Bt T w cs rs x) : Bt T w cs rs x.drew := h.later (Below.refl _ _).drew
theorem Bt.fresh (h : Bt T w cs rs x) (k : Below x.heap.size x y) {A : Option Addr} {c : Nat} {l : List UInt8} (ho : OwnB T x.heap.size y A c l) : Bt T w cs (rs ++ [(A, c, l)]) y := ⟨h.box.later k, h.rows.fresh k ho h.box.size⟩
theorem Bt.freshR (h : Bt T w cs rs x) (k : Below x.heap.size x y) {rs' : RowL} (hr : RowsB T x.heap.size y rs') : Bt T w cs (rs ++ rs') y := ⟨h.box.later k, h.rows.app k hr h.box.size⟩
theorem Bt.alloc (h : Bt T w cs rs x) (o : Obj) : Bt T w cs rs (x.alloc o) := h.later ((Below.refl _ x).alloc (Nat.le_refl _) o)
theorem rows_pre {B : Nat} {us vs : RowL} (h : RowsB T B x (us ++ vs)) : RowsB T B x us :=
  ⟨fun i r hr => h.1 i r (by rw [List.getElem?_append_left (List.getElem?_eq_some_iff.1 hr).1]; exact hr), fun i j r s hr hs => h.2 i j r s (by rw [List.getElem?_append_left (List.getElem?_eq_some_iff.1 hr).1]; exact hr) (by rw [List.getElem?_append_left (List.getElem?_eq_some_iff.1 hs).1]; exact hs)⟩
theorem Bt.set (h : Bt T w cs rs x) {j : Nat} {c : Array Value} (i : Nat) (v : Value) (hj : cs[j]? = some c) (hi : i < c.size) : Bt T w (cs.set j (c.set! i v)) rs (x.setCell ⟨w.heap.size + j, i, none⟩ v) := by
  have hlt := (List.getElem?_eq_some_iff.1 hj).1
  refine ⟨h.box.set i v hj hi, ?_⟩
  rw [List.length_set]
  exact rows_set h.rows (by omega) i v
theorem Bt.s1_0 {a0 a1 a2 a3 a4 a5 a6 : Value} {c0 : Array Value} {r : List (Array Value)} (u : Value) (h : Bt T w (c0 :: #[a0, a1, a2, a3, a4, a5, a6] :: r) rs x) : Bt T w (c0 :: #[u, a1, a2, a3, a4, a5, a6] :: r) rs (x.setCell ⟨w.heap.size + 1, 0, none⟩ u) := h.set (j := 1) 0 u rfl (show 0 < 7 by decide)
theorem Bt.s1_1 {a0 a1 a2 a3 a4 a5 a6 : Value} {c0 : Array Value} {r : List (Array Value)} (u : Value) (h : Bt T w (c0 :: #[a0, a1, a2, a3, a4, a5, a6] :: r) rs x) : Bt T w (c0 :: #[a0, u, a2, a3, a4, a5, a6] :: r) rs (x.setCell ⟨w.heap.size + 1, 1, none⟩ u) := h.set (j := 1) 1 u rfl (show 1 < 7 by decide)
theorem Bt.s1_2 {a0 a1 a2 a3 a4 a5 a6 : Value} {c0 : Array Value} {r : List (Array Value)} (u : Value) (h : Bt T w (c0 :: #[a0, a1, a2, a3, a4, a5, a6] :: r) rs x) : Bt T w (c0 :: #[a0, a1, u, a3, a4, a5, a6] :: r) rs (x.setCell ⟨w.heap.size + 1, 2, none⟩ u) := h.set (j := 1) 2 u rfl (show 2 < 7 by decide)
theorem Bt.s1_3 {a0 a1 a2 a3 a4 a5 a6 : Value} {c0 : Array Value} {r : List (Array Value)} (u : Value) (h : Bt T w (c0 :: #[a0, a1, a2, a3, a4, a5, a6] :: r) rs x) : Bt T w (c0 :: #[a0, a1, a2, u, a4, a5, a6] :: r) rs (x.setCell ⟨w.heap.size + 1, 3, none⟩ u) := h.set (j := 1) 3 u rfl (show 3 < 7 by decide)
theorem Bt.s1_4 {a0 a1 a2 a3 a4 a5 a6 : Value} {c0 : Array Value} {r : List (Array Value)} (u : Value) (h : Bt T w (c0 :: #[a0, a1, a2, a3, a4, a5, a6] :: r) rs x) : Bt T w (c0 :: #[a0, a1, a2, a3, u, a5, a6] :: r) rs (x.setCell ⟨w.heap.size + 1, 4, none⟩ u) := h.set (j := 1) 4 u rfl (show 4 < 7 by decide)
theorem Bt.s1_5 {a0 a1 a2 a3 a4 a5 a6 : Value} {c0 : Array Value} {r : List (Array Value)} (u : Value) (h : Bt T w (c0 :: #[a0, a1, a2, a3, a4, a5, a6] :: r) rs x) : Bt T w (c0 :: #[a0, a1, a2, a3, a4, u, a6] :: r) rs (x.setCell ⟨w.heap.size + 1, 5, none⟩ u) := h.set (j := 1) 5 u rfl (show 5 < 7 by decide)
theorem Bt.s2_0 {a0 a1 a2 a3 a4 a5 a6 : Value} {c0 c1 : Array Value} {r : List (Array Value)} (u : Value) (h : Bt T w (c0 :: c1 :: #[a0, a1, a2, a3, a4, a5, a6] :: r) rs x) : Bt T w (c0 :: c1 :: #[u, a1, a2, a3, a4, a5, a6] :: r) rs (x.setCell ⟨w.heap.size + 1 + 1, 0, none⟩ u) := h.set (j := 2) 0 u rfl (show 0 < 7 by decide)
theorem Bt.s2_1 {a0 a1 a2 a3 a4 a5 a6 : Value} {c0 c1 : Array Value} {r : List (Array Value)} (u : Value) (h : Bt T w (c0 :: c1 :: #[a0, a1, a2, a3, a4, a5, a6] :: r) rs x) : Bt T w (c0 :: c1 :: #[a0, u, a2, a3, a4, a5, a6] :: r) rs (x.setCell ⟨w.heap.size + 1 + 1, 1, none⟩ u) := h.set (j := 2) 1 u rfl (show 1 < 7 by decide)
theorem Bt.s2_2 {a0 a1 a2 a3 a4 a5 a6 : Value} {c0 c1 : Array Value} {r : List (Array Value)} (u : Value) (h : Bt T w (c0 :: c1 :: #[a0, a1, a2, a3, a4, a5, a6] :: r) rs x) : Bt T w (c0 :: c1 :: #[a0, a1, u, a3, a4, a5, a6] :: r) rs (x.setCell ⟨w.heap.size + 1 + 1, 2, none⟩ u) := h.set (j := 2) 2 u rfl (show 2 < 7 by decide)
theorem Bt.s2_3 {a0 a1 a2 a3 a4 a5 a6 : Value} {c0 c1 : Array Value} {r : List (Array Value)} (u : Value) (h : Bt T w (c0 :: c1 :: #[a0, a1, a2, a3, a4, a5, a6] :: r) rs x) : Bt T w (c0 :: c1 :: #[a0, a1, a2, u, a4, a5, a6] :: r) rs (x.setCell ⟨w.heap.size + 1 + 1, 3, none⟩ u) := h.set (j := 2) 3 u rfl (show 3 < 7 by decide)
theorem Bt.s2_4 {a0 a1 a2 a3 a4 a5 a6 : Value} {c0 c1 : Array Value} {r : List (Array Value)} (u : Value) (h : Bt T w (c0 :: c1 :: #[a0, a1, a2, a3, a4, a5, a6] :: r) rs x) : Bt T w (c0 :: c1 :: #[a0, a1, a2, a3, u, a5, a6] :: r) rs (x.setCell ⟨w.heap.size + 1 + 1, 4, none⟩ u) := h.set (j := 2) 4 u rfl (show 4 < 7 by decide)
theorem Bt.s2_5 {a0 a1 a2 a3 a4 a5 a6 : Value} {c0 c1 : Array Value} {r : List (Array Value)} (u : Value) (h : Bt T w (c0 :: c1 :: #[a0, a1, a2, a3, a4, a5, a6] :: r) rs x) : Bt T w (c0 :: c1 :: #[a0, a1, a2, a3, a4, u, a6] :: r) rs (x.setCell ⟨w.heap.size + 1 + 1, 5, none⟩ u) := h.set (j := 2) 5 u rfl (show 5 < 7 by decide)
theorem Bt.s0_0 {a0 a1 a2 a3 a4 a5 a6 : Value} {r : List (Array Value)} (u : Value) (h : Bt T w (#[a0, a1, a2, a3, a4, a5, a6] :: r) rs x) : Bt T w (#[u, a1, a2, a3, a4, a5, a6] :: r) rs (x.setCell ⟨w.heap.size, 0, none⟩ u) := h.set (j := 0) 0 u rfl (show 0 < 7 by decide)
theorem Bt.s0_1 {a0 a1 a2 a3 a4 a5 a6 : Value} {r : List (Array Value)} (u : Value) (h : Bt T w (#[a0, a1, a2, a3, a4, a5, a6] :: r) rs x) : Bt T w (#[a0, u, a2, a3, a4, a5, a6] :: r) rs (x.setCell ⟨w.heap.size, 1, none⟩ u) := h.set (j := 0) 1 u rfl (show 1 < 7 by decide)
theorem Bt.s0_2 {a0 a1 a2 a3 a4 a5 a6 : Value} {r : List (Array Value)} (u : Value) (h : Bt T w (#[a0, a1, a2, a3, a4, a5, a6] :: r) rs x) : Bt T w (#[a0, a1, u, a3, a4, a5, a6] :: r) rs (x.setCell ⟨w.heap.size, 2, none⟩ u) := h.set (j := 0) 2 u rfl (show 2 < 7 by decide)
theorem Bt.s0_3 {a0 a1 a2 a3 a4 a5 a6 : Value} {r : List (Array Value)} (u : Value) (h : Bt T w (#[a0, a1, a2, a3, a4, a5, a6] :: r) rs x) : Bt T w (#[a0, a1, a2, u, a4, a5, a6] :: r) rs (x.setCell ⟨w.heap.size, 3, none⟩ u) := h.set (j := 0) 3 u rfl (show 3 < 7 by decide)
theorem Bt.s0_4 {a0 a1 a2 a3 a4 a5 a6 : Value} {r : List (Array Value)} (u : Value) (h : Bt T w (#[a0, a1, a2, a3, a4, a5, a6] :: r) rs x) : Bt T w (#[a0, a1, a2, a3, u, a5, a6] :: r) rs (x.setCell ⟨w.heap.size, 4, none⟩ u) := h.set (j := 0) 4 u rfl (show 4 < 7 by decide)
theorem Bt.s0_5 {a0 a1 a2 a3 a4 a5 a6 : Value} {r : List (Array Value)} (u : Value) (h : Bt T w (#[a0, a1, a2, a3, a4, a5, a6] :: r) rs x) : Bt T w (#[a0, a1, a2, a3, a4, u, a6] :: r) rs (x.setCell ⟨w.heap.size, 5, none⟩ u) := h.set (j := 0) 5 u rfl (show 5 < 7 by decide)
theorem Bt.s0_6 {a0 a1 a2 a3 a4 a5 a6 : Value} {r : List (Array Value)} (u : Value) (h : Bt T w (#[a0, a1, a2, a3, a4, a5, a6] :: r) rs x) : Bt T w (#[a0, a1, a2, a3, a4, a5, u] :: r) rs (x.setCell ⟨w.heap.size, 6, none⟩ u) := h.set (j := 0) 6 u rfl (show 6 < 7 by decide)
theorem Bt.fill7 {c : Array Value} {r : List (Array Value)} (h : Bt T w (c :: r) rs x) (hc : c.size = 7) (v0 v1 v2 v3 v4 v5 v6 : Value) : Bt T w (#[v0, v1, v2, v3, v4, v5, v6] :: r) rs
    (((((((x.setCell ⟨w.heap.size, 0, none⟩ v0).setCell ⟨w.heap.size, 1, none⟩ v1).setCell ⟨w.heap.size, 2, none⟩ v2).setCell ⟨w.heap.size, 3, none⟩ v3).setCell ⟨w.heap.size, 4, none⟩ v4).setCell ⟨w.heap.size, 5, none⟩ v5).setCell ⟨w.heap.size, 6, none⟩ v6) := by
  obtain ⟨l⟩ := c
  match l, hc with
  | [b0, b1, b2, b3, b4, b5, b6], _ =>
    exact Bt.s0_6 v6 (Bt.s0_5 v5 (Bt.s0_4 v4 (Bt.s0_3 v3 (Bt.s0_2 v2 (Bt.s0_1 v1 (Bt.s0_0 v0 h))))))
theorem Bxs.setAside (h : Bxs w cs x) {g i : Nat} {v : Value} (hg : w.heap.size + cs.length ≤ g) : Bxs w cs (x.setCell ⟨g, i, none⟩ v) := by
  have hne : ∀ (j : Nat) c, cs[j]? = some c → w.heap.size + j ≠ g := fun j c hj => by have := (List.getElem?_eq_some_iff.1 hj).1; omega
  refine ⟨h.up.setCell (Nat.le_trans (Nat.le_add_right _ _) hg) v, Nat.le_trans h.size (by simp), fun j c k u hj hk => ?_, fun j c k hj => ?_⟩
  · rw [World.cell?_setCell_other _ _ _ _ (fun e => by injection e with e _; exact hne j c hj e.symm)]
    exact h.cell j c k u hj hk
  · rw [World.frozen?_setCell]
    exact h.fz j c k hj
theorem Bt.setAside (h : Bt T w cs rs x) (g i : Nat) (v : Value) (hg : w.heap.size + cs.length ≤ g) (hoff : ∀ (i : Nat) r a, rs[i]? = some r → r.1 = some a → a.block ≠ g) : Bt T w cs rs (x.setCell ⟨g, i, none⟩ v) :=
  ⟨h.box.setAside hg, h.rows.chg (Chg.setCell x ⟨g, i, none⟩ v) fun i r hr a ha => hoff i r a hr ha⟩
theorem rows_under {B : Nat} (h : RowsB T B x rs) : ∀ (i : Nat) r a, rs[i]? = some r → r.1 = some a → a.block < x.heap.size := fun i r a hr ha => by
  have ho := h.1 i r hr
  obtain ⟨A, c, l⟩ := r
  cases ha
  exact (World.ownsRow.lt ho _ rfl).2
theorem rows_off {B : Nat} (h : RowsB T B x rs) {A : Option Addr} {c : Nat} {l : List UInt8} (ho : OwnB T (x.heap.size + 1) y A c l) : ∀ (i : Nat) r a, (rs ++ [(A, c, l)])[i]? = some r → r.1 = some a → a.block ≠ x.heap.size := fun i r a hr ha => by
  rcases Nat.lt_or_ge i rs.length with hl | hl
  · rw [List.getElem?_append_left hl] at hr
    exact Nat.ne_of_lt (rows_under h i r a hr ha)
  · rw [List.getElem?_append_right hl] at hr
    have : i - rs.length = 0 := by have := (List.getElem?_eq_some_iff.1 hr).1; simp at this; omega
    rw [this] at hr
    injection hr with hr
    subst hr
    cases ha
    have := (World.ownsRow.lt ho _ rfl).1
    omega
theorem rows_pick3 {B : Nat} {r0 r1 r2 r3 r4 : Option Addr × Nat × List UInt8} (h : RowsB T B x [r0, r1, r2, r3, r4]) : RowsB T B x [r1, r2, r4] := by
  refine h.pick (fun i => if i = 0 then 1 else if i = 1 then 2 else 4) (fun i j hi hj hne => ?_) fun i s hs => ?_
  · have hi : i < 3 := hi
    have hj : j < 3 := hj
    (repeat' split) <;> omega
  · match i, hs with
    | 0, hs => exact hs
    | 1, hs => exact hs
    | 2, hs => exact hs
end
section
variable {P : Program}
theorem run_loadVar_at {w : World} {g : Nat} {ty : TypeId} {cs : Array Value} (hc : ∀ j v, cs[j]? = some v → w.cell? ⟨g, j, none⟩ = some v)
    (ha : (P.underlying ty).map (fun d => match d with | .struct _ | .array _ _ => true | _ => false) = some true) (hi : (P.info? ty).map (·.size) = some cs.size) :
    (loadVar ty ⟨g, 0, none⟩).run P w = .ok (.agg cs) w := by
  have hl : (loadCells ⟨g, 0, none⟩ cs.toList.length).run P w = .ok cs.toList.toArray w :=
    run_loadCells_list (P := P) w ⟨g, 0, none⟩ cs.toList (fun j v hv => by
      have hadd : (⟨g, 0, none⟩ : Addr).add j = ⟨g, j, none⟩ := by unfold Addr.add; split <;> simp_all
      rw [hadd]
      exact hc j v (by simpa using hv))
  simp only [Array.length_toList, Array.toArray_toList] at hl
  have h1 := run_isAgg_of ha w
  have h2 := run_sizeOf_of hi w
  simp [loadVar, Sem.run_bind, h1, h2, hl]
/-- The results: a boxed struct and what lies in a slot. -/
theorem results_box1 {fn : Func} {p t : Tmp} {ty : TypeId} (h : fn.results = #[.cell p ty, .tmp t]) (tmps : Array Value) (w : World) (g : Nat) (cs : Array Value)
    (hp : tmps.getD p undef = .pointer (some ⟨g, 0, none⟩)) (hc : ∀ j v, cs[j]? = some v → w.cell? ⟨g, j, none⟩ = some v)
    (ha : (P.underlying ty).map (fun d => match d with | .struct _ | .array _ _ => true | _ => false) = some true) (hi : (P.info? ty).map (·.size) = some cs.size) :
    (results fn tmps).run P w = .ok (.tuple #[.agg cs, tmps.getD t undef]) w := by
  have hp' : tmps[p]?.getD undef = .pointer (some ⟨g, 0, none⟩) := by simpa using hp
  simp [results, h, hp', asAddr, run_loadVar_at hc ha hi]
theorem results_box2 {fn : Func} {p t t' : Tmp} {ty : TypeId} (h : fn.results = #[.cell p ty, .tmp t, .tmp t']) (tmps : Array Value) (w : World) (g : Nat) (cs : Array Value)
    (hp : tmps.getD p undef = .pointer (some ⟨g, 0, none⟩)) (hc : ∀ j v, cs[j]? = some v → w.cell? ⟨g, j, none⟩ = some v)
    (ha : (P.underlying ty).map (fun d => match d with | .struct _ | .array _ _ => true | _ => false) = some true) (hi : (P.info? ty).map (·.size) = some cs.size) :
    (results fn tmps).run P w = .ok (.tuple #[.agg cs, tmps.getD t undef, tmps.getD t' undef]) w := by
  have hp' : tmps[p]?.getD undef = .pointer (some ⟨g, 0, none⟩) := by simpa using hp
  simp [results, h, hp', asAddr, run_loadVar_at hc ha hi]
end
end Go.Proofs.YtmigjipfomfacaaDoor

/-
  wire.ReadOrdered, wire.ReadRising, wire.ReadFalling, walked.
-/
namespace Go.Proofs.YtmigjipfomfacaaDoor
open Go.RowKit

theorem drop_of_get {l : List UInt8} {k : Nat} {c : UInt8} (h : l[k]? = some c) : l.drop k = c :: l.drop (k + 1) := by
  obtain ⟨h1, rfl⟩ := List.getElem?_eq_some_iff.1 h
  exact List.drop_eq_getElem_cons h1

set_option maxRecDepth 100000 in
set_option maxHeartbeats 2000000 in
theorem ro_any (l : List UInt8) (A : Option Addr) (n c : Nat) (a : Int) (w : World) (hs : Sl w A n c l) (hn : n ≤ 140737488355000) :
    Calls Tryd.prog 110 #[.slice A n c, .int .i64 a] w (BytesPost3 5 (readO l a).1 ((readO l a).2.1 : Nat) ((readO l a).2.2 : Nat) w) := by
  have hl := hs.len
  have HR : Hid (∀ w', Below w.heap.size w w' → RB w' w'.heap.size A n l) := Lib.hid fun w' h => hs.rb.later h
  by_cases ho : outB n a = true
  · have HO := Lib.hid ho
    have H : Hid (BytesPost3 5 (readO l a).1 ((readO l a).2.1 : Nat) ((readO l a).2.2 : Nat) w (.returned (.tuple #[.slice none 0 0, .int .i64 0, .int .i64 1])) w) := Lib.hid (by
      unfold outB at ho
      simp at ho
      unfold readO
      rw [if_pos (by omega)]
      exact bytes_none3 (Below.refl _ _))
    clear hs ho hl
    go_enter Tryd.func110, Tryd.ntmps110
    go_wp2_with (go_at_call 93; go_must (refine (outside_any A n c a _).mono ?_); rintro e w0 ⟨rfl, rfl⟩; rw [HO.out])
    go_ret3
    exact H.out
  have ho : outB n a = false := by simpa using ho
  have HO := Lib.hid ho
  have ha : 0 ≤ a ∧ a ≤ n := by unfold outB at ho; simp at ho; omega
  obtain ⟨K, rfl⟩ : ∃ K : Nat, a = (K : Int) := ⟨a.toNat, by omega⟩
  have HL := Lib.hid hl
  obtain ⟨R, hR⟩ : ∃ R, R = readO l (K : Int) := ⟨_, rfl⟩
  rw [← hR]
  have HS : Hid (glO [] K (rdO (l.drop K)) = R) := Lib.hid (by rw [hR, readO_in (by omega)])
  have hK : K ≤ n := by omega
  clear hs ho hl ha hR
  go_enter Tryd.func110, Tryd.ntmps110
  go_wp2_with (go_at_call 93; go_must (refine (outside_any A n c (K : Int) _).mono ?_); rintro e w0 ⟨rfl, rfl⟩; rw [HO.out])
  go_loopw [1, 7] (fun i v wr => ∃ (k : Nat) (P : List UInt8), k ≤ n ∧ i = .int .i64 k ∧ Hid (P.length ≤ k) ∧ Hid (glO P k (rdO (l.drop k)) = R) ∧ wr.ownsRow w.heap.size 5 1 v P.length (u8s P) ∧ Hid (Below w.heap.size w wr)) (fun i _ _ => n - (intOf i).toNat)
  case atStart => exact ⟨K, [], hK, rfl, Lib.hid (by simp), HS, own_nil _ _ _ _, Lib.hid (Below.refl _ _)⟩
  case round =>
    clear HS
    obtain ⟨k, P, hk, rfl, HPL, HG, hown, HB⟩ := hrel
    obtain ⟨v, hv⟩ : ∃ v, v = u7 := ⟨_, rfl⟩
    rw [← hv] at hown ⊢
    clear hv
    have HT : Hid (rdO [] = ([], 0, 10) ∧ ∀ x, rdO [x] = ([], 0, 10)) := Lib.hid ⟨rfl, fun _ => rfl⟩
    have HE : Hid (∀ e, e ≠ 0 → R = ([], 0, e) → BytesPost3 5 R.1 (R.2.1 : Nat) (R.2.2 : Nat) w (.returned (.tuple #[.slice none 0 0, .int .i64 0, .int .i64 e])) wr) := Lib.hid fun e _ h => by
      rw [h]; exact bytes_none3 HB.out
    by_cases hlt : k < n
    case neg =>
      have hd : decide ((k : Int) < (n : Int)) = false := decide_eq_false (by omega)
      have H := Lib.hid (HE.out 10 (by decide) (by rw [← HG.out, List.drop_eq_nil_of_le (by have := HL.out; omega), HT.out.1]; rfl))
      clear HE
      go_wp2
      go_ret3
      exact H.out
    have hd : decide ((k : Int) < (n : Int)) = true := decide_eq_true (by omega)
    obtain ⟨b, o, x, rfl, _, hx, hcx⟩ := (HR.out _ HB.out).at_ hlt
    have HX := Lib.hid (drop_of_get hx)
    clear hx
    by_cases hx0 : x.toNat = 0
    case neg =>
      have hd2 : ((x.toNat : Int) != 0) = true := by rw [bne_iff_ne]; omega
      have HN : Hid (glO (P ++ [x]) (k + 1) (rdO (l.drop (k + 1))) = R) := Lib.hid (by rw [← HG.out, HX.out, rdO_ne hx0, glO_add])
      have HPL2 : Hid ((P ++ [x]).length ≤ k + 1) := Lib.hid (by rw [List.length_append]; have := HPL.out; simp; omega)
      clear HE hx0
      go_wp2_with (at_builtin; go_must (refine wpList_append_reads _ rfl (.tmp 24) (.tmp 26) rfl Tryd.u8s' w.heap.size v P.length (u8s P) rfl (hown.alloc _) (wr.heap.size + 1) (some ⟨wr.heap.size, 0, none⟩) 1 1 (u8s [x]) rfl (by exact reads_lit wr _ [x] _ _ rfl) (u8s_one _) (by have := HPL.out; unfold maxLen; omega) (by have := HPL.out; omega) (by have := HB.out.size; simp; omega) ?_); intro v1 w1 hown1 hg1 hat1; have HB1 := Lib.hid (below_app (HB.out.alloc HB.out.size (.cells #[.int .u8 (x.toNat : Int)] 5)) (hown.alloc _) hg1 (by have := HB.out.size; simp; omega) (Nat.le_refl _)); rw [← u8s_append] at hown1; have HO1 := Lib.hid hown1; clear hown1 hg1 hat1)
      have hO1 : w1.ownsRow w.heap.size 5 1 v1 (P ++ [x]).length (u8s (P ++ [x])) := by
        have := HO1.out
        rw [show (P ++ [x]).length = P.length + 1 from by simp]; exact this
      clear HO1
      go_roundw
      case rel => exact ⟨k + 1, P ++ [x], by omega, by go_num, HPL2, HN, hO1, HB1⟩
      case measure => simp [intOf]; omega
    have hd2 : ((x.toNat : Int) != 0) = false := by rw [bne_eq_false_iff_eq]; omega
    have hq1 : IntKind.i64.wrap ((k : Int) + 1) = (k : Int) + 1 := i64_sum (by omega) (by omega)
    by_cases hlt2 : k + 1 < n
    case neg =>
      have hd3 : ((k : Int) + 1 == (n : Int)) = true := by rw [beq_iff_eq]; omega
      have H := Lib.hid (HE.out 10 (by decide) (by rw [← HG.out, HX.out, List.drop_eq_nil_of_le (by have := HL.out; omega), HT.out.2]; rfl))
      clear HE hx0
      go_wp2
      go_ret3
      exact H.out
    have hd3 : ((k : Int) + 1 == (n : Int)) = false := by rw [beq_eq_false_iff_ne]; omega
    have hq2 : (0 : Int) ≤ (k : Int) + 1 := by omega
    have hq3 : (k : Int) + 1 < (n : Int) := by omega
    have hq4 : ((k : Int) + 1).toNat = k + 1 := by omega
    have hq5 : IntKind.i64.wrap ((k : Int) + 1 + 1) = (k : Int) + 2 := by rw [i64_sum (by omega) (by omega)]; omega
    obtain ⟨b', o', y, e', _, hy, hcy⟩ := (HR.out _ HB.out).at_ hlt2
    injection e' with e'
    injection e' with e1 e2
    subst e1; subst e2
    have HY := Lib.hid (drop_of_get hy)
    clear hy
    by_cases hy1 : y.toNat = 1
    · have hd4 : ((y.toNat : Int) == 1) = true := by rw [beq_iff_eq]; omega
      have H : Hid (BytesPost3 5 R.1 (R.2.1 : Nat) (R.2.2 : Nat) w (.returned (.tuple #[v, .int .i64 ((k : Int) + 2), .int .i64 0])) wr) := Lib.hid (by
        rw [← HG.out, HX.out, HY.out, rdO_one hx0 hy1]
        unfold glO
        rw [if_pos rfl]
        show BytesPost3 5 (P ++ []) ((k + 2 : Nat) : Int) 0 w _ wr
        rw [List.append_nil]
        exact bytes_post3 hown HB.out)
      clear HE hx0
      go_wp2
      go_ret3
      exact H.out
    have hd4 : ((y.toNat : Int) == 1) = false := by rw [beq_eq_false_iff_ne]; omega
    by_cases hy2 : y.toNat = 255
    · have hd5 : ((y.toNat : Int) == 255) = true := by rw [beq_iff_eq]; omega
      have HN : Hid (glO (P ++ [0]) (k + 2) (rdO (l.drop (k + 2))) = R) := Lib.hid (by rw [← HG.out, HX.out, HY.out, rdO_zero hx0 hy2, glO_add])
      have HPL2 : Hid ((P ++ [(0 : UInt8)]).length ≤ k + 2) := Lib.hid (by rw [List.length_append]; have := HPL.out; simp; omega)
      clear HE hx0
      go_wp2_with (at_builtin; go_must (refine wpList_append_reads _ rfl (.tmp 43) (.tmp 44) rfl Tryd.u8s' w.heap.size v P.length (u8s P) rfl (hown.alloc _) (wr.heap.size + 1) (some ⟨wr.heap.size, 0, none⟩) 1 1 (u8s [0]) rfl (by exact reads_lit wr _ [0] _ _ rfl) (u8s_one _) (by have := HPL.out; unfold maxLen; omega) (by have := HPL.out; omega) (by have := HB.out.size; simp; omega) ?_); intro v1 w1 hown1 hg1 hat1; have HB1 := Lib.hid (below_app (HB.out.alloc HB.out.size (.cells #[.int .u8 0] 5)) (hown.alloc _) hg1 (by have := HB.out.size; simp; omega) (Nat.le_refl _)); rw [← u8s_append] at hown1; have HO1 := Lib.hid hown1; clear hown1 hg1 hat1)
      have hO1 : w1.ownsRow w.heap.size 5 1 v1 (P ++ [(0 : UInt8)]).length (u8s (P ++ [(0 : UInt8)])) := by
        have := HO1.out
        rw [show (P ++ [(0 : UInt8)]).length = P.length + 1 from by simp]; exact this
      clear HO1
      go_roundw
      case rel => exact ⟨k + 2, P ++ [0], by omega, by go_num, HPL2, HN, hO1, HB1⟩
      case measure => simp [intOf]; omega
    · have hd5 : ((y.toNat : Int) == 255) = false := by rw [beq_eq_false_iff_ne]; omega
      have H := Lib.hid (HE.out 11 (by decide) (by rw [← HG.out, HX.out, HY.out, rdO_form hx0 hy1 hy2]; rfl))
      clear HE hx0
      go_wp2
      go_ret3
      exact H.out

/-- A number, a place, an error. -/
def RRPost (r : Nat × Nat × Nat) (w : World) (e : Ending) (w' : World) : Prop := e = .returned (.tuple #[.int .i64 r.1, .int .i64 r.2.1, .int .i64 r.2.2]) ∧ w = w'

set_option maxRecDepth 100000 in
set_option maxHeartbeats 2000000 in
theorem rr_any (l : List UInt8) (A : Option Addr) (n c : Nat) (a : Int) (w : World) (hs : Sl w A n c l) (_hn : n ≤ 140737488355000) :
    Calls Tryd.prog 114 #[.slice A n c, .int .i64 a] w (RRPost (readR l a) w) := by
  have hl := hs.len
  by_cases ho : outB n a = true
  · have HO := Lib.hid ho
    have H : Hid (readR l a = (0, 0, 1)) := Lib.hid (by
      unfold outB at ho
      simp at ho
      unfold readR
      rw [if_pos (by omega)])
    clear hs ho hl
    go_enter Tryd.func114, Tryd.ntmps114
    go_wp2_with (go_at_call 93; go_must (refine (outside_any A n c a _).mono ?_); rintro e w0 ⟨rfl, rfl⟩; rw [HO.out])
    go_ret3
    rw [H.out]
    exact ⟨rfl, rfl⟩
  have ho : outB n a = false := by simpa using ho
  have HO := Lib.hid ho
  have ha : 0 ≤ a ∧ a ≤ n := by unfold outB at ho; simp at ho; omega
  obtain ⟨k, rfl⟩ : ∃ k : Nat, a = (k : Int) := ⟨a.toNat, by omega⟩
  have hk : k ≤ n := by omega
  have hbase : readR l (k : Int) = if n < k + 8 then (0, 0, 10) else if 127 < (l[k]?.getD 0).toNat then (0, 0, 13) else (big (cutS l k 8), k + 8, 0) := by
    unfold readR; rw [if_neg (by omega), Int.toNat_natCast, hl]
  have hcap := hs.cap
  have hlim := hs.lim
  by_cases h8 : n < k + 8
  · have H : Hid (readR l (k : Int) = (0, 0, 10)) := Lib.hid (by rw [hbase, if_pos h8])
    have hd : decide ((n : Int) - (k : Int) < 8) = true := decide_eq_true (by omega)
    clear hs ho hl ha hbase
    go_enter Tryd.func114, Tryd.ntmps114
    go_wp2_with (go_at_call 93; go_must (refine (outside_any A n c (k : Int) _).mono ?_); rintro e w0 ⟨rfl, rfl⟩; rw [HO.out])
    go_ret3
    rw [H.out]
    exact ⟨rfl, rfl⟩
  rw [if_neg h8] at hbase
  have hd : decide ((n : Int) - (k : Int) < 8) = false := decide_eq_false (by omega)
  have hkn : k < n := by omega
  obtain ⟨b, o, x, rfl, _, hx, hcx⟩ := hs.rb.at_ hkn
  rw [hx] at hbase
  by_cases hbig : 127 < x.toNat
  · have H : Hid (readR l (k : Int) = (0, 0, 13)) := Lib.hid (by rw [hbase, Option.getD_some, if_pos hbig])
    have hd2 : decide ((127 : Int) < (x.toNat : Int)) = true := decide_eq_true (by omega)
    have hd3 : decide (127 < x.toNat) = true := decide_eq_true hbig
    clear hs ho hl ha hbase hx
    go_enter Tryd.func114, Tryd.ntmps114
    go_wp2_with (go_at_call 93; go_must (refine (outside_any _ n c (k : Int) _).mono ?_); rintro e w0 ⟨rfl, rfl⟩; rw [HO.out])
    go_ret3
    rw [H.out]
    exact ⟨rfl, rfl⟩
  have HBS : Hid (readR l (k : Int) = (big (cutS l k 8), k + 8, 0)) := Lib.hid (by rw [hbase, Option.getD_some, if_neg hbig])
  have hd2 : decide ((127 : Int) < (x.toNat : Int)) = false := decide_eq_false (by omega)
  have hd3 : decide (127 < x.toNat) = false := decide_eq_false hbig
  obtain ⟨L, hL⟩ : ∃ L, L = cutS l k 8 := ⟨_, rfl⟩
  rw [← hL] at HBS
  have HLL : Hid (L.length = 8) := Lib.hid (by rw [hL]; unfold cutS; rw [List.length_take, List.length_drop]; omega)
  have H0 : Hid ((L[0]?.getD 0).toNat ≤ 127) := Lib.hid (by
    have e : L[0]? = l[k]? := by rw [hL]; unfold cutS; rw [List.getElem?_take_of_lt (by omega), List.getElem?_drop, Nat.add_zero]
    rw [e, hx, Option.getD_some]; omega)
  have HC : Hid (∀ (j : Nat) (y : UInt8), L[j]? = some y → w.cell? ⟨b, o + k + j, none⟩ = some (.int .u8 (y.toNat : Int))) := Lib.hid fun j y hy => by
    have hj : j < 8 := by have := (List.getElem?_eq_some_iff.1 hy).1; rw [HLL.out] at this; exact this
    have e : L[j]? = l[k + j]? := by rw [hL]; unfold cutS; rw [List.getElem?_take_of_lt hj, List.getElem?_drop]
    rw [e] at hy
    rw [Nat.add_assoc]
    exact hs.rb.cell hy
  have k0 : IntKind.i64.wrap ((k : Int) + 8) = (k : Int) + 8 := i64_sum (by omega) (by omega)
  have k1 : (0 : Int) ≤ (k : Int) + 8 := by omega
  have k2 : (k : Int) + 8 ≤ (c : Int) := by omega
  have k3 : ((k : Int) + 8).toNat = k + 8 := by omega
  have k4 : k ≤ k + 8 := by omega
  have k5 : k + 8 - k = 8 := by omega
  have k6 : c ≠ k := by omega
  clear hs ho hl ha hbase hx hL hbig
  go_enter Tryd.func114, Tryd.ntmps114
  go_wp2_with (go_at_call 93; go_must (refine (outside_any _ n c (k : Int) _).mono ?_); rintro e w0 ⟨rfl, rfl⟩; rw [HO.out])
  go_loop [7, 32] (fun s i => ∃ j : Nat, j ≤ 8 ∧ i = .int .i64 j ∧ ∃ N : Nat, Hid (N = big (L.take j)) ∧ N < 9223372036854775808 ∧ s = .int .i64 N) (fun _ i => 8 - (intOf i).toNat)
  case atStart => exact ⟨0, by omega, rfl, 0, Lib.hid (by simp [big]), by omega, rfl⟩
  case round =>
    obtain ⟨j, hj, rfl, N, HN, hN, rfl⟩ := hrel
    by_cases hlt : j < 8
    case neg =>
      have hdj : decide ((j : Int) < 8) = false := decide_eq_false (by omega)
      have HE : Hid (readR l (k : Int) = (N, k + 8, 0)) := Lib.hid (by rw [HBS.out, HN.out, take_all (by rw [HLL.out]; omega)])
      go_wp2
      go_ret3
      rw [HE.out]
      exact ⟨rfl, rfl⟩
    have hdj : decide ((j : Int) < 8) = true := decide_eq_true (by omega)
    obtain ⟨y, hy⟩ : ∃ y, L[j]? = some y := ⟨_, List.getElem?_eq_getElem (by rw [HLL.out]; exact hlt)⟩
    have hcy := HC.out j y hy
    have HB7 := Lib.hid (big_take H0.out (j := j) (by omega))
    have hNb : N < 36028797018963968 := by have := HB7.out; rw [← HN.out] at this; exact this
    have e1 := or_step N y hNb
    have e2 : wrap64 ((N : Int) * 256) = (N : Int) * 256 := wrap64_id (by omega) (by omega)
    have e3 : IntKind.i64.wrap ((N : Int) * 256) = (N : Int) * 256 := i64_sum (by omega) (by omega)
    have HN2 : Hid (N * 256 + y.toNat = big (L.take (j + 1))) := Lib.hid (by rw [take_snoc hy, big_snoc, HN.out])
    have hy8 := y.toNat_lt
    clear hy
    go_wp2
    go_round
    case rel => exact ⟨j + 1, by omega, by go_num, N * 256 + y.toNat, HN2, by omega, rfl⟩
    case measure => simp [intOf]; omega

set_option maxRecDepth 100000 in
set_option maxHeartbeats 2000000 in
theorem rfl_any (l : List UInt8) (A : Option Addr) (n c : Nat) (a : Int) (w : World) (hs : Sl w A n c l) (hn : n ≤ 140737488355000) :
    Calls Tryd.prog 111 #[.slice A n c, .int .i64 a] w (RRPost (readFl l a) w) := by
  have hend := readR_end l a
  have HC := Lib.hid (rr_any l A n c a w hs hn)
  obtain ⟨v, hv⟩ : ∃ v, v = (readR l a).1 := ⟨_, rfl⟩
  obtain ⟨p, hp⟩ : ∃ p, p = (readR l a).2.1 := ⟨_, rfl⟩
  obtain ⟨k, hk⟩ : ∃ k, k = (readR l a).2.2 := ⟨_, rfl⟩
  have hbase : readFl l a = if k = 0 then (9223372036854775807 - v, p, 0) else (0, 0, k) := by unfold readFl; rw [hv, hp, hk]
  have HU : Hid (RRPost (readR l a) w = RRPost (v, p, k) w) := Lib.hid (by rw [hv, hp, hk])
  rw [← hv, ← hk] at hend
  clear hv hp hk hs
  by_cases hk0 : k = 0
  · have H : Hid (readFl l a = (9223372036854775807 - v, p, 0)) := Lib.hid (by rw [hbase, if_pos hk0])
    obtain ⟨_, _, _, _, hv⟩ := hend hk0
    subst hk0
    have q1 : IntKind.i64.wrap (9223372036854775807 - (v : Int)) = ((9223372036854775807 - v : Nat) : Int) := by rw [i64_sum (by omega) (by omega)]; omega
    have q2 : (9223372036854775807 - (v : Int)) = ((9223372036854775807 - v : Nat) : Int) := by omega
    have HQ := Lib.hid q2
    clear hbase hend q2
    go_enter Tryd.func111, Tryd.ntmps111
    go_wp2_with (go_at_call 114; go_must (refine HC.out.mono ?_); rw [HU.out]; rintro e w1 ⟨rfl, rfl⟩)
    go_ret3
    rw [H.out]
    refine ⟨?_, rfl⟩
    first
      | rfl
      | (rw [← HQ.out]; rfl)
  · have H : Hid (readFl l a = (0, 0, k)) := Lib.hid (by rw [hbase, if_neg hk0])
    have hd : ((k : Int) != 0) = true := by rw [bne_iff_ne]; omega
    clear hbase hend
    go_enter Tryd.func111, Tryd.ntmps111
    go_wp2_with (go_at_call 114; go_must (refine HC.out.mono ?_); rw [HU.out]; rintro e w1 ⟨rfl, rfl⟩)
    go_ret3
    rw [H.out]
    exact ⟨rfl, rfl⟩

end Go.Proofs.YtmigjipfomfacaaDoor

/-
  cell.parse walked. (Printed by gen_parse.py.)
-/
namespace Go.Proofs.YtmigjipfomfacaaDoor
open Go.RowKit

def EntPost (mk : Value → Value) (e : Ent) (w : World) (r : Ending) (w' : World) : Prop :=
  ∃ A c B d D q, r = .returned (mk (entV A e.row.length c B e.qual.length d D e.val.length q e)) ∧ RowsB 5 w.heap.size w' [(A, c, e.row), (B, d, e.qual), (D, q, e.val)] ∧ Below w.heap.size w w'
def NoPost (w : World) (r : Ending) (w' : World) : Prop :=
  (∃ A1 n1 c1 f A2 n2 c2 t s k, r = .returned (.tuple #[.agg #[.slice A1 n1 c1, .int .i64 f, .slice A2 n2 c2, .int .i64 t, .int .i64 s, .int .i64 k, .slice none 0 0], .bool false])) ∧ Below w.heap.size w w'
section
variable {T : TypeId} {base base' : Nat} {w w' : World} {rs : RowL} {mk : Value → Value}
theorem rows_low (h : RowsB T base w rs) (hb : base' ≤ base) : RowsB T base' w rs := ⟨fun i r hr => (h.1 i r hr).rebase hb, h.2⟩
theorem rows_nil (h : RowsB T base w rs) : RowsB T base w (rs ++ [(none, 0, [])]) := h.snoc (own_nil _ _ _ _) fun _ _ _ a b _ e => by cases e
theorem ent_none (hb : Below w.heap.size w w') : EntPost mk noEnt w (.returned (mk (entV none 0 0 none 0 0 none 0 0 noEnt))) w' :=
  ⟨none, 0, none, 0, none, 0, rfl, rows_nil (rows_nil (rows_nil RowsB.nil)), hb⟩
theorem ent_post {row qual : List UInt8} {f t s k : Int} {A1 A2 : Option Addr} {c1 c2 : Nat} (h : RowsB 5 w.heap.size w' [(A1, c1, row), (A2, c2, qual)]) (hb : Below w.heap.size w w') :
    EntPost mk ⟨row, f, qual, t, s, k, []⟩ w (.returned (mk (.agg #[.slice A1 row.length c1, .int .i64 f, .slice A2 qual.length c2, .int .i64 t, .int .i64 s, .int .i64 k, .slice none 0 0]))) w' :=
  ⟨A1, c1, A2, c2, none, 0, rfl, rows_nil h, hb⟩
theorem ent_post_n {row : List UInt8} {f t s k : Int} {A1 : Option Addr} {c1 : Nat} (h : RowsB 5 w.heap.size w' [(A1, c1, row)]) (hb : Below w.heap.size w w') :
    EntPost mk ⟨row, f, [], t, s, k, []⟩ w (.returned (mk (.agg #[.slice A1 row.length c1, .int .i64 f, .slice none 0 0, .int .i64 t, .int .i64 s, .int .i64 k, .slice none 0 0]))) w' :=
  ⟨A1, c1, none, 0, none, 0, rfl, rows_nil (rows_nil h), hb⟩
end

set_option maxRecDepth 100000 in
set_option maxHeartbeats 2000000 in
theorem pa_N_f1a (b : List UInt8) (A : Option Addr) (n c : Nat) (w : World) (rw0 : List UInt8) (p1 er : Nat) (hs : Sl w A n c b) (hn : n ≤ 140737488355000) (h0 : readO b 0 = (rw0, p1, er)) (he : er ≠ 0) :
    Calls Tryd.prog 96 #[.slice A n c] w (NoPost w) := by
  have HS : Hid (∀ x, Below w.heap.size w x → Sl x A n c b) := Lib.hid fun x h => hs.later h
  have HX0 := Lib.hid (Bt.of (T := 5) (Bxs.two w 37 #[.slice none 0 0, .int .i64 0, .slice none 0 0, .int .i64 0, .int .i64 0, .int .i64 0, .slice none 0 0] #[.slice none 0 0, .int .i64 0, .slice none 0 0, .int .i64 0, .int .i64 0, .int .i64 0, .slice none 0 0]))
  have H0 := Lib.hid h0
  have hd : ((er : Int) != 0) = true := by rw [bne_iff_ne]; omega
  have tO1 : True := trivial
  clear hs h0 he
  go_enter Tryd.func96, Tryd.ntmps96
  go_wp2_with (first
    | (go_at_call 110; have _t := tO1; go_must (refine (ro_any b A n c 0 _ (HS.out _ HX0.out.box.up) hn).mono ?_); rw [H0.out]; rintro e x1 hp; obtain ⟨A1, c1, rfl, _, hO1, hb1⟩ := hp.at_ (n := rw0.length) rfl rfl rfl; have HX1 := Lib.hid (HX0.out.fresh hb1 hO1); clear hb1 hp hO1 tO1; have z0 := HX1.out.box.c0 (i := 0) (v := .slice none 0 0) rfl rfl; have y0 := HX1.out.box.c1 (i := 0) (v := .slice none 0 0) rfl rfl; have z1 := HX1.out.box.c0 (i := 1) (v := .int .i64 0) rfl rfl; have y1 := HX1.out.box.c1 (i := 1) (v := .int .i64 0) rfl rfl; have z2 := HX1.out.box.c0 (i := 2) (v := .slice none 0 0) rfl rfl; have y2 := HX1.out.box.c1 (i := 2) (v := .slice none 0 0) rfl rfl; have z3 := HX1.out.box.c0 (i := 3) (v := .int .i64 0) rfl rfl; have y3 := HX1.out.box.c1 (i := 3) (v := .int .i64 0) rfl rfl; have z4 := HX1.out.box.c0 (i := 4) (v := .int .i64 0) rfl rfl; have y4 := HX1.out.box.c1 (i := 4) (v := .int .i64 0) rfl rfl; have z5 := HX1.out.box.c0 (i := 5) (v := .int .i64 0) rfl rfl; have y5 := HX1.out.box.c1 (i := 5) (v := .int .i64 0) rfl rfl; have z6 := HX1.out.box.c0 (i := 6) (v := .slice none 0 0) rfl rfl; have y6 := HX1.out.box.c1 (i := 6) (v := .slice none 0 0) rfl rfl; have fz := HX1.out.box.f0 rfl; have fy := HX1.out.box.f1 rfl))
  (try simp only [Exit.inBlock, Exit.then])
  have HR := Lib.hid ((HX1.out.fill7 rfl (.slice none 0 0) (.int .i64 0) (.slice none 0 0) (.int .i64 0) (.int .i64 0) (.int .i64 0) (.slice none 0 0)))
  refine bodyPost_ret (results_box1 rfl _ _ w.heap.size _ rfl (HR.out.box.cells0 rfl) (by kernel_rfl) (by kernel_rfl)) rfl ?_
  exact ⟨⟨_, _, _, _, _, _, _, _, _, _, rfl⟩, HR.out.box.up⟩

set_option maxRecDepth 100000 in
set_option maxHeartbeats 2000000 in
theorem pa_N_f1b (b : List UInt8) (A : Option Addr) (n c : Nat) (w : World) (row : List UInt8) (p1 : Nat) (hs : Sl w A n c b) (hn : n ≤ 140737488355000) (h0 : readO b 0 = (row, p1, 0)) (hp1 : p1 ≤ n) (hsh : n < p1 + 2) :
    Calls Tryd.prog 96 #[.slice A n c] w (NoPost w) := by
  have HS : Hid (∀ x, Below w.heap.size w x → Sl x A n c b) := Lib.hid fun x h => hs.later h
  have HX0 := Lib.hid (Bt.of (T := 5) (Bxs.two w 37 #[.slice none 0 0, .int .i64 0, .slice none 0 0, .int .i64 0, .int .i64 0, .int .i64 0, .slice none 0 0] #[.slice none 0 0, .int .i64 0, .slice none 0 0, .int .i64 0, .int .i64 0, .int .i64 0, .slice none 0 0]))
  have H0 := Lib.hid h0
  have tO1 : True := trivial
  clear hs h0
  go_enter Tryd.func96, Tryd.ntmps96
  go_wp2_with (first
    | (go_at_call 110; have _t := tO1; go_must (refine (ro_any b A n c 0 _ (HS.out _ HX0.out.box.up) hn).mono ?_); rw [H0.out]; rintro e x1 hp; obtain ⟨A1, c1, rfl, _, hO1, hb1⟩ := hp.at_ (n := row.length) rfl rfl rfl; have HX1 := Lib.hid (HX0.out.fresh hb1 hO1); clear hb1 hp hO1 tO1; have z0 := HX1.out.box.c0 (i := 0) (v := .slice none 0 0) rfl rfl; have y0 := HX1.out.box.c1 (i := 0) (v := .slice none 0 0) rfl rfl; have z1 := HX1.out.box.c0 (i := 1) (v := .int .i64 0) rfl rfl; have y1 := HX1.out.box.c1 (i := 1) (v := .int .i64 0) rfl rfl; have z2 := HX1.out.box.c0 (i := 2) (v := .slice none 0 0) rfl rfl; have y2 := HX1.out.box.c1 (i := 2) (v := .slice none 0 0) rfl rfl; have z3 := HX1.out.box.c0 (i := 3) (v := .int .i64 0) rfl rfl; have y3 := HX1.out.box.c1 (i := 3) (v := .int .i64 0) rfl rfl; have z4 := HX1.out.box.c0 (i := 4) (v := .int .i64 0) rfl rfl; have y4 := HX1.out.box.c1 (i := 4) (v := .int .i64 0) rfl rfl; have z5 := HX1.out.box.c0 (i := 5) (v := .int .i64 0) rfl rfl; have y5 := HX1.out.box.c1 (i := 5) (v := .int .i64 0) rfl rfl; have z6 := HX1.out.box.c0 (i := 6) (v := .slice none 0 0) rfl rfl; have y6 := HX1.out.box.c1 (i := 6) (v := .slice none 0 0) rfl rfl; have fz := HX1.out.box.f0 rfl; have fy := HX1.out.box.f1 rfl))
  (try simp only [Exit.inBlock, Exit.then])
  have HR := Lib.hid ((HX1.out.fill7 rfl (.slice none 0 0) (.int .i64 0) (.slice none 0 0) (.int .i64 0) (.int .i64 0) (.int .i64 0) (.slice none 0 0)))
  refine bodyPost_ret (results_box1 rfl _ _ w.heap.size _ rfl (HR.out.box.cells0 rfl) (by kernel_rfl) (by kernel_rfl)) rfl ?_
  exact ⟨⟨_, _, _, _, _, _, _, _, _, _, rfl⟩, HR.out.box.up⟩

set_option maxRecDepth 100000 in
set_option maxHeartbeats 2000000 in
theorem pa_P_f2a (b : List UInt8) (A : Option Addr) (n c : Nat) (w : World) (row : List UInt8) (p1 : Nat) (f g : UInt8) (ql0 : List UInt8) (p2 er : Nat) (hs : Sl w A n c b) (hn : n ≤ 140737488355000) (h0 : readO b 0 = (row, p1, 0)) (hlen : p1 + 2 ≤ n) (hf : b[p1]? = some f) (hg : b[p1 + 1]? = some g) (hg0 : g.toNat ≠ 0) (h2 : readO b ((p1 + 2 : Nat) : Int) = (ql0, p2, er)) (he : er ≠ 0) :
    Calls Tryd.prog 96 #[.slice A n c] w (NoPost w) := by
  have HS : Hid (∀ x, Below w.heap.size w x → Sl x A n c b) := Lib.hid fun x h => hs.later h
  have HX0 := Lib.hid (Bt.of (T := 5) (Bxs.two w 37 #[.slice none 0 0, .int .i64 0, .slice none 0 0, .int .i64 0, .int .i64 0, .int .i64 0, .slice none 0 0] #[.slice none 0 0, .int .i64 0, .slice none 0 0, .int .i64 0, .int .i64 0, .int .i64 0, .slice none 0 0]))
  have H0 := Lib.hid h0
  obtain ⟨bb, oo, _, rfl, hbb, _, _⟩ := hs.rb.at_ (k := p1) (by omega)
  have HC : Hid (∀ (j : Nat) (u : UInt8) x, b[j]? = some u → Below w.heap.size w x → x.cell? ⟨bb, oo + j, none⟩ = some (.int .u8 (u.toNat : Int))) := Lib.hid fun j u x hu hx => (hs.rb.later hx).cell hu
  have hbb0 : ¬ bb = w.heap.size := by omega
  have hbb1 : ¬ bb = w.heap.size + 1 := by omega
  have HF := Lib.hid hf
  have HG := Lib.hid hg
  have hgd : ((g.toNat : Int) != 0) = true := by rw [bne_iff_ne]; omega
  have H2 := Lib.hid h2
  have hd : ((er : Int) != 0) = true := by rw [bne_iff_ne]; omega
  have q1 : (p1 : Int) < (n : Int) := by omega
  have q2 : (p1 : Int) + 1 < (n : Int) := by omega
  have q3 : decide ((n : Int) < (p1 : Int) + 2) = false := decide_eq_false (by omega)
  have tO1 : True := trivial
  have tO2 : True := trivial
  clear hs h0 hf hg hg0 h2 he
  go_enter Tryd.func96, Tryd.ntmps96
  go_wp2_with (go_at_call 110; have _t := tO1; go_must (refine (ro_any b (some ⟨bb, oo, none⟩) n c 0 _ (HS.out _ HX0.out.box.up) hn).mono ?_); rw [H0.out]; rintro e x1 hp; obtain ⟨A1, c1, rfl, _, hO1, hb1⟩ := hp.at_ (n := row.length) rfl rfl rfl; have HX1 := Lib.hid (HX0.out.fresh hb1 hO1); clear hb1 hp hO1 tO1; have z0 := HX1.out.box.c0 (i := 0) (v := .slice none 0 0) rfl rfl; have y0 := HX1.out.box.c1 (i := 0) (v := .slice none 0 0) rfl rfl; have z1 := HX1.out.box.c0 (i := 1) (v := .int .i64 0) rfl rfl; have y1 := HX1.out.box.c1 (i := 1) (v := .int .i64 0) rfl rfl; have z2 := HX1.out.box.c0 (i := 2) (v := .slice none 0 0) rfl rfl; have y2 := HX1.out.box.c1 (i := 2) (v := .slice none 0 0) rfl rfl; have z3 := HX1.out.box.c0 (i := 3) (v := .int .i64 0) rfl rfl; have y3 := HX1.out.box.c1 (i := 3) (v := .int .i64 0) rfl rfl; have z4 := HX1.out.box.c0 (i := 4) (v := .int .i64 0) rfl rfl; have y4 := HX1.out.box.c1 (i := 4) (v := .int .i64 0) rfl rfl; have z5 := HX1.out.box.c0 (i := 5) (v := .int .i64 0) rfl rfl; have y5 := HX1.out.box.c1 (i := 5) (v := .int .i64 0) rfl rfl; have z6 := HX1.out.box.c0 (i := 6) (v := .slice none 0 0) rfl rfl; have y6 := HX1.out.box.c1 (i := 6) (v := .slice none 0 0) rfl rfl; have fz := HX1.out.box.f0 rfl; have fy := HX1.out.box.f1 rfl; have g1 := HC.out p1 f _ HF.out HX1.out.box.up; have g2 := HC.out (p1 + 1) g _ HG.out HX1.out.box.up)
  go_region
  rw [show wrap64 ((f.toNat : Nat) : Int) = (f.toNat : Int) from wrap64_id (by omega) (by have := f.toNat_lt; omega)]
  go_wp2_with (first
    | (go_at_call 110; have _t := tO2; go_must (refine (ro_any b (some ⟨bb, oo, none⟩) n c _ _ (HS.out _ ((HX1.out.s1_0 (.slice A1 row.length c1)).s1_1 (.int .i64 (f.toNat : Int))).drew.box.up) hn).mono ?_); rw [show ((p1 : Int) + 2) = ((p1 + 2 : Nat) : Int) from by omega, H2.out]; rintro e x2 hp; obtain ⟨A2, c2, rfl, _, hO2, hb2⟩ := hp.at_ (n := ql0.length) rfl rfl rfl; have HX2 := Lib.hid (((HX1.out.s1_0 (.slice A1 row.length c1)).s1_1 (.int .i64 (f.toNat : Int))).drew.fresh hb2 hO2); clear hb2 hp hO2 tO2 g1 g2; clear z0 y0 z1 y1 z2 y2 z3 y3 z4 y4 z5 y5 z6 y6 fz fy; have z0 := HX2.out.box.c0 (i := 0) (v := .slice none 0 0) rfl rfl; have y0 := HX2.out.box.c1 (i := 0) (v := .slice A1 row.length c1) rfl rfl; have z1 := HX2.out.box.c0 (i := 1) (v := .int .i64 0) rfl rfl; have y1 := HX2.out.box.c1 (i := 1) (v := .int .i64 (f.toNat : Int)) rfl rfl; have z2 := HX2.out.box.c0 (i := 2) (v := .slice none 0 0) rfl rfl; have y2 := HX2.out.box.c1 (i := 2) (v := .slice none 0 0) rfl rfl; have z3 := HX2.out.box.c0 (i := 3) (v := .int .i64 0) rfl rfl; have y3 := HX2.out.box.c1 (i := 3) (v := .int .i64 0) rfl rfl; have z4 := HX2.out.box.c0 (i := 4) (v := .int .i64 0) rfl rfl; have y4 := HX2.out.box.c1 (i := 4) (v := .int .i64 0) rfl rfl; have z5 := HX2.out.box.c0 (i := 5) (v := .int .i64 0) rfl rfl; have y5 := HX2.out.box.c1 (i := 5) (v := .int .i64 0) rfl rfl; have z6 := HX2.out.box.c0 (i := 6) (v := .slice none 0 0) rfl rfl; have y6 := HX2.out.box.c1 (i := 6) (v := .slice none 0 0) rfl rfl; have fz := HX2.out.box.f0 rfl; have fy := HX2.out.box.f1 rfl))
  (try simp only [Exit.inBlock, Exit.then])
  have HR := Lib.hid ((HX2.out.fill7 rfl (.slice A1 row.length c1) (.int .i64 (f.toNat : Int)) (.slice none 0 0) (.int .i64 0) (.int .i64 0) (.int .i64 0) (.slice none 0 0)))
  refine bodyPost_ret (results_box1 rfl _ _ w.heap.size _ rfl (HR.out.box.cells0 rfl) (by kernel_rfl) (by kernel_rfl)) rfl ?_
  exact ⟨⟨_, _, _, _, _, _, _, _, _, _, rfl⟩, HR.out.box.up⟩

set_option maxRecDepth 100000 in
set_option maxHeartbeats 2000000 in
theorem pa_P_f2b (b : List UInt8) (A : Option Addr) (n c : Nat) (w : World) (row : List UInt8) (p1 : Nat) (f g : UInt8) (qual : List UInt8) (p2 : Nat) (hs : Sl w A n c b) (hn : n ≤ 140737488355000) (h0 : readO b 0 = (row, p1, 0)) (hlen : p1 + 2 ≤ n) (hf : b[p1]? = some f) (hg : b[p1 + 1]? = some g) (hg0 : g.toNat ≠ 0) (h2 : readO b ((p1 + 2 : Nat) : Int) = (qual, p2, 0)) (hsh : n ≤ p2) :
    Calls Tryd.prog 96 #[.slice A n c] w (NoPost w) := by
  have HS : Hid (∀ x, Below w.heap.size w x → Sl x A n c b) := Lib.hid fun x h => hs.later h
  have HX0 := Lib.hid (Bt.of (T := 5) (Bxs.two w 37 #[.slice none 0 0, .int .i64 0, .slice none 0 0, .int .i64 0, .int .i64 0, .int .i64 0, .slice none 0 0] #[.slice none 0 0, .int .i64 0, .slice none 0 0, .int .i64 0, .int .i64 0, .int .i64 0, .slice none 0 0]))
  have H0 := Lib.hid h0
  obtain ⟨bb, oo, _, rfl, hbb, _, _⟩ := hs.rb.at_ (k := p1) (by omega)
  have HC : Hid (∀ (j : Nat) (u : UInt8) x, b[j]? = some u → Below w.heap.size w x → x.cell? ⟨bb, oo + j, none⟩ = some (.int .u8 (u.toNat : Int))) := Lib.hid fun j u x hu hx => (hs.rb.later hx).cell hu
  have hbb0 : ¬ bb = w.heap.size := by omega
  have hbb1 : ¬ bb = w.heap.size + 1 := by omega
  have HF := Lib.hid hf
  have HG := Lib.hid hg
  have hgd : ((g.toNat : Int) != 0) = true := by rw [bne_iff_ne]; omega
  have H2 := Lib.hid h2
  have q1 : (p1 : Int) < (n : Int) := by omega
  have q2 : (p1 : Int) + 1 < (n : Int) := by omega
  have q3 : decide ((n : Int) < (p1 : Int) + 2) = false := decide_eq_false (by omega)
  have tO1 : True := trivial
  have tO2 : True := trivial
  clear hs h0 hf hg hg0 h2
  go_enter Tryd.func96, Tryd.ntmps96
  go_wp2_with (go_at_call 110; have _t := tO1; go_must (refine (ro_any b (some ⟨bb, oo, none⟩) n c 0 _ (HS.out _ HX0.out.box.up) hn).mono ?_); rw [H0.out]; rintro e x1 hp; obtain ⟨A1, c1, rfl, _, hO1, hb1⟩ := hp.at_ (n := row.length) rfl rfl rfl; have HX1 := Lib.hid (HX0.out.fresh hb1 hO1); clear hb1 hp hO1 tO1; have z0 := HX1.out.box.c0 (i := 0) (v := .slice none 0 0) rfl rfl; have y0 := HX1.out.box.c1 (i := 0) (v := .slice none 0 0) rfl rfl; have z1 := HX1.out.box.c0 (i := 1) (v := .int .i64 0) rfl rfl; have y1 := HX1.out.box.c1 (i := 1) (v := .int .i64 0) rfl rfl; have z2 := HX1.out.box.c0 (i := 2) (v := .slice none 0 0) rfl rfl; have y2 := HX1.out.box.c1 (i := 2) (v := .slice none 0 0) rfl rfl; have z3 := HX1.out.box.c0 (i := 3) (v := .int .i64 0) rfl rfl; have y3 := HX1.out.box.c1 (i := 3) (v := .int .i64 0) rfl rfl; have z4 := HX1.out.box.c0 (i := 4) (v := .int .i64 0) rfl rfl; have y4 := HX1.out.box.c1 (i := 4) (v := .int .i64 0) rfl rfl; have z5 := HX1.out.box.c0 (i := 5) (v := .int .i64 0) rfl rfl; have y5 := HX1.out.box.c1 (i := 5) (v := .int .i64 0) rfl rfl; have z6 := HX1.out.box.c0 (i := 6) (v := .slice none 0 0) rfl rfl; have y6 := HX1.out.box.c1 (i := 6) (v := .slice none 0 0) rfl rfl; have fz := HX1.out.box.f0 rfl; have fy := HX1.out.box.f1 rfl; have g1 := HC.out p1 f _ HF.out HX1.out.box.up; have g2 := HC.out (p1 + 1) g _ HG.out HX1.out.box.up)
  go_region
  rw [show wrap64 ((f.toNat : Nat) : Int) = (f.toNat : Int) from wrap64_id (by omega) (by have := f.toNat_lt; omega)]
  go_wp2_with (first
    | (go_at_call 110; have _t := tO2; go_must (refine (ro_any b (some ⟨bb, oo, none⟩) n c _ _ (HS.out _ ((HX1.out.s1_0 (.slice A1 row.length c1)).s1_1 (.int .i64 (f.toNat : Int))).drew.box.up) hn).mono ?_); rw [show ((p1 : Int) + 2) = ((p1 + 2 : Nat) : Int) from by omega, H2.out]; rintro e x2 hp; obtain ⟨A2, c2, rfl, _, hO2, hb2⟩ := hp.at_ (n := qual.length) rfl rfl rfl; have HX2 := Lib.hid (((HX1.out.s1_0 (.slice A1 row.length c1)).s1_1 (.int .i64 (f.toNat : Int))).drew.fresh hb2 hO2); clear hb2 hp hO2 tO2 g1 g2; clear z0 y0 z1 y1 z2 y2 z3 y3 z4 y4 z5 y5 z6 y6 fz fy; have z0 := HX2.out.box.c0 (i := 0) (v := .slice none 0 0) rfl rfl; have y0 := HX2.out.box.c1 (i := 0) (v := .slice A1 row.length c1) rfl rfl; have z1 := HX2.out.box.c0 (i := 1) (v := .int .i64 0) rfl rfl; have y1 := HX2.out.box.c1 (i := 1) (v := .int .i64 (f.toNat : Int)) rfl rfl; have z2 := HX2.out.box.c0 (i := 2) (v := .slice none 0 0) rfl rfl; have y2 := HX2.out.box.c1 (i := 2) (v := .slice none 0 0) rfl rfl; have z3 := HX2.out.box.c0 (i := 3) (v := .int .i64 0) rfl rfl; have y3 := HX2.out.box.c1 (i := 3) (v := .int .i64 0) rfl rfl; have z4 := HX2.out.box.c0 (i := 4) (v := .int .i64 0) rfl rfl; have y4 := HX2.out.box.c1 (i := 4) (v := .int .i64 0) rfl rfl; have z5 := HX2.out.box.c0 (i := 5) (v := .int .i64 0) rfl rfl; have y5 := HX2.out.box.c1 (i := 5) (v := .int .i64 0) rfl rfl; have z6 := HX2.out.box.c0 (i := 6) (v := .slice none 0 0) rfl rfl; have y6 := HX2.out.box.c1 (i := 6) (v := .slice none 0 0) rfl rfl; have fz := HX2.out.box.f0 rfl; have fy := HX2.out.box.f1 rfl))
  (try simp only [Exit.inBlock, Exit.then])
  have HR := Lib.hid ((HX2.out.fill7 rfl (.slice A1 row.length c1) (.int .i64 (f.toNat : Int)) (.slice none 0 0) (.int .i64 0) (.int .i64 0) (.int .i64 0) (.slice none 0 0)))
  refine bodyPost_ret (results_box1 rfl _ _ w.heap.size _ rfl (HR.out.box.cells0 rfl) (by kernel_rfl) (by kernel_rfl)) rfl ?_
  exact ⟨⟨_, _, _, _, _, _, _, _, _, _, rfl⟩, HR.out.box.up⟩

set_option maxRecDepth 100000 in
set_option maxHeartbeats 2000000 in
theorem pa_P_f3 (b : List UInt8) (A : Option Addr) (n c : Nat) (w : World) (row : List UInt8) (p1 : Nat) (f g : UInt8) (qual : List UInt8) (p2 : Nat) (t p3 er : Nat) (hs : Sl w A n c b) (hn : n ≤ 140737488355000) (h0 : readO b 0 = (row, p1, 0)) (hlen : p1 + 2 ≤ n) (hf : b[p1]? = some f) (hg : b[p1 + 1]? = some g) (hg0 : g.toNat ≠ 0) (h2 : readO b ((p1 + 2 : Nat) : Int) = (qual, p2, 0)) (hlen2 : p2 < n) (h3 : readFl b (((p2 + 1) : Nat) : Int) = (t, p3, er)) (he : er ≠ 0) :
    Calls Tryd.prog 96 #[.slice A n c] w (NoPost w) := by
  have HS : Hid (∀ x, Below w.heap.size w x → Sl x A n c b) := Lib.hid fun x h => hs.later h
  have HX0 := Lib.hid (Bt.of (T := 5) (Bxs.two w 37 #[.slice none 0 0, .int .i64 0, .slice none 0 0, .int .i64 0, .int .i64 0, .int .i64 0, .slice none 0 0] #[.slice none 0 0, .int .i64 0, .slice none 0 0, .int .i64 0, .int .i64 0, .int .i64 0, .slice none 0 0]))
  have H0 := Lib.hid h0
  obtain ⟨bb, oo, _, rfl, hbb, _, _⟩ := hs.rb.at_ (k := p1) (by omega)
  have HC : Hid (∀ (j : Nat) (u : UInt8) x, b[j]? = some u → Below w.heap.size w x → x.cell? ⟨bb, oo + j, none⟩ = some (.int .u8 (u.toNat : Int))) := Lib.hid fun j u x hu hx => (hs.rb.later hx).cell hu
  have hbb0 : ¬ bb = w.heap.size := by omega
  have hbb1 : ¬ bb = w.heap.size + 1 := by omega
  have HF := Lib.hid hf
  have HG := Lib.hid hg
  have hgd : ((g.toNat : Int) != 0) = true := by rw [bne_iff_ne]; omega
  have H2 := Lib.hid h2
  have H3 := Lib.hid h3
  have hd : ((er : Int) != 0) = true := by rw [bne_iff_ne]; omega
  have q1 : (p1 : Int) < (n : Int) := by omega
  have q2 : (p1 : Int) + 1 < (n : Int) := by omega
  have q3 : decide ((n : Int) < (p1 : Int) + 2) = false := decide_eq_false (by omega)
  have q4 : (p2 : Int) < (n : Int) := by omega
  have tO1 : True := trivial
  have tO2 : True := trivial
  have tF1 : True := trivial
  clear hs h0 hf hg hg0 h2 h3 he
  go_enter Tryd.func96, Tryd.ntmps96
  go_wp2_with (go_at_call 110; have _t := tO1; go_must (refine (ro_any b (some ⟨bb, oo, none⟩) n c 0 _ (HS.out _ HX0.out.box.up) hn).mono ?_); rw [H0.out]; rintro e x1 hp; obtain ⟨A1, c1, rfl, _, hO1, hb1⟩ := hp.at_ (n := row.length) rfl rfl rfl; have HX1 := Lib.hid (HX0.out.fresh hb1 hO1); clear hb1 hp hO1 tO1; have z0 := HX1.out.box.c0 (i := 0) (v := .slice none 0 0) rfl rfl; have y0 := HX1.out.box.c1 (i := 0) (v := .slice none 0 0) rfl rfl; have z1 := HX1.out.box.c0 (i := 1) (v := .int .i64 0) rfl rfl; have y1 := HX1.out.box.c1 (i := 1) (v := .int .i64 0) rfl rfl; have z2 := HX1.out.box.c0 (i := 2) (v := .slice none 0 0) rfl rfl; have y2 := HX1.out.box.c1 (i := 2) (v := .slice none 0 0) rfl rfl; have z3 := HX1.out.box.c0 (i := 3) (v := .int .i64 0) rfl rfl; have y3 := HX1.out.box.c1 (i := 3) (v := .int .i64 0) rfl rfl; have z4 := HX1.out.box.c0 (i := 4) (v := .int .i64 0) rfl rfl; have y4 := HX1.out.box.c1 (i := 4) (v := .int .i64 0) rfl rfl; have z5 := HX1.out.box.c0 (i := 5) (v := .int .i64 0) rfl rfl; have y5 := HX1.out.box.c1 (i := 5) (v := .int .i64 0) rfl rfl; have z6 := HX1.out.box.c0 (i := 6) (v := .slice none 0 0) rfl rfl; have y6 := HX1.out.box.c1 (i := 6) (v := .slice none 0 0) rfl rfl; have fz := HX1.out.box.f0 rfl; have fy := HX1.out.box.f1 rfl; have g1 := HC.out p1 f _ HF.out HX1.out.box.up; have g2 := HC.out (p1 + 1) g _ HG.out HX1.out.box.up)
  go_region
  rw [show wrap64 ((f.toNat : Nat) : Int) = (f.toNat : Int) from wrap64_id (by omega) (by have := f.toNat_lt; omega)]
  go_wp2_with (first
    | (go_at_call 110; have _t := tO2; go_must (refine (ro_any b (some ⟨bb, oo, none⟩) n c _ _ (HS.out _ ((HX1.out.s1_0 (.slice A1 row.length c1)).s1_1 (.int .i64 (f.toNat : Int))).drew.box.up) hn).mono ?_); rw [show ((p1 : Int) + 2) = ((p1 + 2 : Nat) : Int) from by omega, H2.out]; rintro e x2 hp; obtain ⟨A2, c2, rfl, _, hO2, hb2⟩ := hp.at_ (n := qual.length) rfl rfl rfl; have HX2 := Lib.hid (((HX1.out.s1_0 (.slice A1 row.length c1)).s1_1 (.int .i64 (f.toNat : Int))).drew.fresh hb2 hO2); clear hb2 hp hO2 tO2 g1 g2; clear z0 y0 z1 y1 z2 y2 z3 y3 z4 y4 z5 y5 z6 y6 fz fy; have z0 := HX2.out.box.c0 (i := 0) (v := .slice none 0 0) rfl rfl; have y0 := HX2.out.box.c1 (i := 0) (v := .slice A1 row.length c1) rfl rfl; have z1 := HX2.out.box.c0 (i := 1) (v := .int .i64 0) rfl rfl; have y1 := HX2.out.box.c1 (i := 1) (v := .int .i64 (f.toNat : Int)) rfl rfl; have z2 := HX2.out.box.c0 (i := 2) (v := .slice none 0 0) rfl rfl; have y2 := HX2.out.box.c1 (i := 2) (v := .slice none 0 0) rfl rfl; have z3 := HX2.out.box.c0 (i := 3) (v := .int .i64 0) rfl rfl; have y3 := HX2.out.box.c1 (i := 3) (v := .int .i64 0) rfl rfl; have z4 := HX2.out.box.c0 (i := 4) (v := .int .i64 0) rfl rfl; have y4 := HX2.out.box.c1 (i := 4) (v := .int .i64 0) rfl rfl; have z5 := HX2.out.box.c0 (i := 5) (v := .int .i64 0) rfl rfl; have y5 := HX2.out.box.c1 (i := 5) (v := .int .i64 0) rfl rfl; have z6 := HX2.out.box.c0 (i := 6) (v := .slice none 0 0) rfl rfl; have y6 := HX2.out.box.c1 (i := 6) (v := .slice none 0 0) rfl rfl; have fz := HX2.out.box.f0 rfl; have fy := HX2.out.box.f1 rfl)
    | (go_at_call 111; have _t := tF1; go_must (refine (rfl_any b (some ⟨bb, oo, none⟩) n c _ _ (HS.out _ (HX2.out.s1_2 (.slice A2 qual.length c2)).box.up) hn).mono ?_); rw [show ((p2 : Int) + 1) = ((p2 + 1 : Nat) : Int) from by omega, H3.out]; rintro e x3 ⟨rfl, rfl⟩; clear tF1))
  (try simp only [Exit.inBlock, Exit.then])
  have HR := Lib.hid ((((HX2.out.s1_2 (.slice A2 qual.length c2)).s1_3 (.int .i64 (t : Int))).fill7 rfl (.slice A1 row.length c1) (.int .i64 (f.toNat : Int)) (.slice A2 qual.length c2) (.int .i64 (t : Int)) (.int .i64 0) (.int .i64 0) (.slice none 0 0)))
  refine bodyPost_ret (results_box1 rfl _ _ w.heap.size _ rfl (HR.out.box.cells0 rfl) (by kernel_rfl) (by kernel_rfl)) rfl ?_
  exact ⟨⟨_, _, _, _, _, _, _, _, _, _, rfl⟩, HR.out.box.up⟩

set_option maxRecDepth 100000 in
set_option maxHeartbeats 2000000 in
theorem pa_P_f4a (b : List UInt8) (A : Option Addr) (n c : Nat) (w : World) (row : List UInt8) (p1 : Nat) (f g : UInt8) (qual : List UInt8) (p2 : Nat) (t p3 : Nat) (s p4 er : Nat) (hs : Sl w A n c b) (hn : n ≤ 140737488355000) (h0 : readO b 0 = (row, p1, 0)) (hlen : p1 + 2 ≤ n) (hf : b[p1]? = some f) (hg : b[p1 + 1]? = some g) (hg0 : g.toNat ≠ 0) (h2 : readO b ((p1 + 2 : Nat) : Int) = (qual, p2, 0)) (hlen2 : p2 < n) (h3 : readFl b (((p2 + 1) : Nat) : Int) = (t, p3, 0)) (h4 : readFl b (p3 : Int) = (s, p4, er)) (he : er ≠ 0) :
    Calls Tryd.prog 96 #[.slice A n c] w (NoPost w) := by
  have HS : Hid (∀ x, Below w.heap.size w x → Sl x A n c b) := Lib.hid fun x h => hs.later h
  have HX0 := Lib.hid (Bt.of (T := 5) (Bxs.two w 37 #[.slice none 0 0, .int .i64 0, .slice none 0 0, .int .i64 0, .int .i64 0, .int .i64 0, .slice none 0 0] #[.slice none 0 0, .int .i64 0, .slice none 0 0, .int .i64 0, .int .i64 0, .int .i64 0, .slice none 0 0]))
  have H0 := Lib.hid h0
  obtain ⟨bb, oo, _, rfl, hbb, _, _⟩ := hs.rb.at_ (k := p1) (by omega)
  have HC : Hid (∀ (j : Nat) (u : UInt8) x, b[j]? = some u → Below w.heap.size w x → x.cell? ⟨bb, oo + j, none⟩ = some (.int .u8 (u.toNat : Int))) := Lib.hid fun j u x hu hx => (hs.rb.later hx).cell hu
  have hbb0 : ¬ bb = w.heap.size := by omega
  have hbb1 : ¬ bb = w.heap.size + 1 := by omega
  have HF := Lib.hid hf
  have HG := Lib.hid hg
  have hgd : ((g.toNat : Int) != 0) = true := by rw [bne_iff_ne]; omega
  have H2 := Lib.hid h2
  have H3 := Lib.hid h3
  have H4 := Lib.hid h4
  have hd : ((er : Int) != 0) = true := by rw [bne_iff_ne]; omega
  have q1 : (p1 : Int) < (n : Int) := by omega
  have q2 : (p1 : Int) + 1 < (n : Int) := by omega
  have q3 : decide ((n : Int) < (p1 : Int) + 2) = false := decide_eq_false (by omega)
  have q4 : (p2 : Int) < (n : Int) := by omega
  have tO1 : True := trivial
  have tO2 : True := trivial
  have tF1 : True := trivial
  clear hs h0 hf hg hg0 h2 h3 h4 he
  go_enter Tryd.func96, Tryd.ntmps96
  go_wp2_with (go_at_call 110; have _t := tO1; go_must (refine (ro_any b (some ⟨bb, oo, none⟩) n c 0 _ (HS.out _ HX0.out.box.up) hn).mono ?_); rw [H0.out]; rintro e x1 hp; obtain ⟨A1, c1, rfl, _, hO1, hb1⟩ := hp.at_ (n := row.length) rfl rfl rfl; have HX1 := Lib.hid (HX0.out.fresh hb1 hO1); clear hb1 hp hO1 tO1; have z0 := HX1.out.box.c0 (i := 0) (v := .slice none 0 0) rfl rfl; have y0 := HX1.out.box.c1 (i := 0) (v := .slice none 0 0) rfl rfl; have z1 := HX1.out.box.c0 (i := 1) (v := .int .i64 0) rfl rfl; have y1 := HX1.out.box.c1 (i := 1) (v := .int .i64 0) rfl rfl; have z2 := HX1.out.box.c0 (i := 2) (v := .slice none 0 0) rfl rfl; have y2 := HX1.out.box.c1 (i := 2) (v := .slice none 0 0) rfl rfl; have z3 := HX1.out.box.c0 (i := 3) (v := .int .i64 0) rfl rfl; have y3 := HX1.out.box.c1 (i := 3) (v := .int .i64 0) rfl rfl; have z4 := HX1.out.box.c0 (i := 4) (v := .int .i64 0) rfl rfl; have y4 := HX1.out.box.c1 (i := 4) (v := .int .i64 0) rfl rfl; have z5 := HX1.out.box.c0 (i := 5) (v := .int .i64 0) rfl rfl; have y5 := HX1.out.box.c1 (i := 5) (v := .int .i64 0) rfl rfl; have z6 := HX1.out.box.c0 (i := 6) (v := .slice none 0 0) rfl rfl; have y6 := HX1.out.box.c1 (i := 6) (v := .slice none 0 0) rfl rfl; have fz := HX1.out.box.f0 rfl; have fy := HX1.out.box.f1 rfl; have g1 := HC.out p1 f _ HF.out HX1.out.box.up; have g2 := HC.out (p1 + 1) g _ HG.out HX1.out.box.up)
  go_region
  rw [show wrap64 ((f.toNat : Nat) : Int) = (f.toNat : Int) from wrap64_id (by omega) (by have := f.toNat_lt; omega)]
  go_wp2_with (first
    | (go_at_call 110; have _t := tO2; go_must (refine (ro_any b (some ⟨bb, oo, none⟩) n c _ _ (HS.out _ ((HX1.out.s1_0 (.slice A1 row.length c1)).s1_1 (.int .i64 (f.toNat : Int))).drew.box.up) hn).mono ?_); rw [show ((p1 : Int) + 2) = ((p1 + 2 : Nat) : Int) from by omega, H2.out]; rintro e x2 hp; obtain ⟨A2, c2, rfl, _, hO2, hb2⟩ := hp.at_ (n := qual.length) rfl rfl rfl; have HX2 := Lib.hid (((HX1.out.s1_0 (.slice A1 row.length c1)).s1_1 (.int .i64 (f.toNat : Int))).drew.fresh hb2 hO2); clear hb2 hp hO2 tO2 g1 g2; clear z0 y0 z1 y1 z2 y2 z3 y3 z4 y4 z5 y5 z6 y6 fz fy; have z0 := HX2.out.box.c0 (i := 0) (v := .slice none 0 0) rfl rfl; have y0 := HX2.out.box.c1 (i := 0) (v := .slice A1 row.length c1) rfl rfl; have z1 := HX2.out.box.c0 (i := 1) (v := .int .i64 0) rfl rfl; have y1 := HX2.out.box.c1 (i := 1) (v := .int .i64 (f.toNat : Int)) rfl rfl; have z2 := HX2.out.box.c0 (i := 2) (v := .slice none 0 0) rfl rfl; have y2 := HX2.out.box.c1 (i := 2) (v := .slice none 0 0) rfl rfl; have z3 := HX2.out.box.c0 (i := 3) (v := .int .i64 0) rfl rfl; have y3 := HX2.out.box.c1 (i := 3) (v := .int .i64 0) rfl rfl; have z4 := HX2.out.box.c0 (i := 4) (v := .int .i64 0) rfl rfl; have y4 := HX2.out.box.c1 (i := 4) (v := .int .i64 0) rfl rfl; have z5 := HX2.out.box.c0 (i := 5) (v := .int .i64 0) rfl rfl; have y5 := HX2.out.box.c1 (i := 5) (v := .int .i64 0) rfl rfl; have z6 := HX2.out.box.c0 (i := 6) (v := .slice none 0 0) rfl rfl; have y6 := HX2.out.box.c1 (i := 6) (v := .slice none 0 0) rfl rfl; have fz := HX2.out.box.f0 rfl; have fy := HX2.out.box.f1 rfl)
    | (go_at_call 111; have _t := tF1; go_must (refine (rfl_any b (some ⟨bb, oo, none⟩) n c _ _ (HS.out _ (HX2.out.s1_2 (.slice A2 qual.length c2)).box.up) hn).mono ?_); rw [show ((p2 : Int) + 1) = ((p2 + 1 : Nat) : Int) from by omega, H3.out]; rintro e x3 ⟨rfl, rfl⟩; clear tF1)
    | (go_at_call 111; go_must (refine (rfl_any b (some ⟨bb, oo, none⟩) n c _ _ (HS.out _ ((HX2.out.s1_2 (.slice A2 qual.length c2)).s1_3 (.int .i64 (t : Int))).box.up) hn).mono ?_); rw [H4.out]; rintro e x4 ⟨rfl, rfl⟩))
  (try simp only [Exit.inBlock, Exit.then])
  have HR := Lib.hid (((((HX2.out.s1_2 (.slice A2 qual.length c2)).s1_3 (.int .i64 (t : Int))).s1_4 (.int .i64 (s : Int))).fill7 rfl (.slice A1 row.length c1) (.int .i64 (f.toNat : Int)) (.slice A2 qual.length c2) (.int .i64 (t : Int)) (.int .i64 (s : Int)) (.int .i64 0) (.slice none 0 0)))
  refine bodyPost_ret (results_box1 rfl _ _ w.heap.size _ rfl (HR.out.box.cells0 rfl) (by kernel_rfl) (by kernel_rfl)) rfl ?_
  exact ⟨⟨_, _, _, _, _, _, _, _, _, _, rfl⟩, HR.out.box.up⟩

set_option maxRecDepth 100000 in
set_option maxHeartbeats 2000000 in
theorem pa_P_f4b (b : List UInt8) (A : Option Addr) (n c : Nat) (w : World) (row : List UInt8) (p1 : Nat) (f g : UInt8) (qual : List UInt8) (p2 : Nat) (t p3 : Nat) (s p4 : Nat) (hs : Sl w A n c b) (hn : n ≤ 140737488355000) (h0 : readO b 0 = (row, p1, 0)) (hlen : p1 + 2 ≤ n) (hf : b[p1]? = some f) (hg : b[p1 + 1]? = some g) (hg0 : g.toNat ≠ 0) (h2 : readO b ((p1 + 2 : Nat) : Int) = (qual, p2, 0)) (hlen2 : p2 < n) (h3 : readFl b (((p2 + 1) : Nat) : Int) = (t, p3, 0)) (h4 : readFl b (p3 : Int) = (s, p4, 0)) (hsh : n ≤ p4) :
    Calls Tryd.prog 96 #[.slice A n c] w (NoPost w) := by
  have HS : Hid (∀ x, Below w.heap.size w x → Sl x A n c b) := Lib.hid fun x h => hs.later h
  have HX0 := Lib.hid (Bt.of (T := 5) (Bxs.two w 37 #[.slice none 0 0, .int .i64 0, .slice none 0 0, .int .i64 0, .int .i64 0, .int .i64 0, .slice none 0 0] #[.slice none 0 0, .int .i64 0, .slice none 0 0, .int .i64 0, .int .i64 0, .int .i64 0, .slice none 0 0]))
  have H0 := Lib.hid h0
  obtain ⟨bb, oo, _, rfl, hbb, _, _⟩ := hs.rb.at_ (k := p1) (by omega)
  have HC : Hid (∀ (j : Nat) (u : UInt8) x, b[j]? = some u → Below w.heap.size w x → x.cell? ⟨bb, oo + j, none⟩ = some (.int .u8 (u.toNat : Int))) := Lib.hid fun j u x hu hx => (hs.rb.later hx).cell hu
  have hbb0 : ¬ bb = w.heap.size := by omega
  have hbb1 : ¬ bb = w.heap.size + 1 := by omega
  have HF := Lib.hid hf
  have HG := Lib.hid hg
  have hgd : ((g.toNat : Int) != 0) = true := by rw [bne_iff_ne]; omega
  have H2 := Lib.hid h2
  have H3 := Lib.hid h3
  have H4 := Lib.hid h4
  have q1 : (p1 : Int) < (n : Int) := by omega
  have q2 : (p1 : Int) + 1 < (n : Int) := by omega
  have q3 : decide ((n : Int) < (p1 : Int) + 2) = false := decide_eq_false (by omega)
  have q4 : (p2 : Int) < (n : Int) := by omega
  have tO1 : True := trivial
  have tO2 : True := trivial
  have tF1 : True := trivial
  clear hs h0 hf hg hg0 h2 h3 h4
  go_enter Tryd.func96, Tryd.ntmps96
  go_wp2_with (go_at_call 110; have _t := tO1; go_must (refine (ro_any b (some ⟨bb, oo, none⟩) n c 0 _ (HS.out _ HX0.out.box.up) hn).mono ?_); rw [H0.out]; rintro e x1 hp; obtain ⟨A1, c1, rfl, _, hO1, hb1⟩ := hp.at_ (n := row.length) rfl rfl rfl; have HX1 := Lib.hid (HX0.out.fresh hb1 hO1); clear hb1 hp hO1 tO1; have z0 := HX1.out.box.c0 (i := 0) (v := .slice none 0 0) rfl rfl; have y0 := HX1.out.box.c1 (i := 0) (v := .slice none 0 0) rfl rfl; have z1 := HX1.out.box.c0 (i := 1) (v := .int .i64 0) rfl rfl; have y1 := HX1.out.box.c1 (i := 1) (v := .int .i64 0) rfl rfl; have z2 := HX1.out.box.c0 (i := 2) (v := .slice none 0 0) rfl rfl; have y2 := HX1.out.box.c1 (i := 2) (v := .slice none 0 0) rfl rfl; have z3 := HX1.out.box.c0 (i := 3) (v := .int .i64 0) rfl rfl; have y3 := HX1.out.box.c1 (i := 3) (v := .int .i64 0) rfl rfl; have z4 := HX1.out.box.c0 (i := 4) (v := .int .i64 0) rfl rfl; have y4 := HX1.out.box.c1 (i := 4) (v := .int .i64 0) rfl rfl; have z5 := HX1.out.box.c0 (i := 5) (v := .int .i64 0) rfl rfl; have y5 := HX1.out.box.c1 (i := 5) (v := .int .i64 0) rfl rfl; have z6 := HX1.out.box.c0 (i := 6) (v := .slice none 0 0) rfl rfl; have y6 := HX1.out.box.c1 (i := 6) (v := .slice none 0 0) rfl rfl; have fz := HX1.out.box.f0 rfl; have fy := HX1.out.box.f1 rfl; have g1 := HC.out p1 f _ HF.out HX1.out.box.up; have g2 := HC.out (p1 + 1) g _ HG.out HX1.out.box.up)
  go_region
  rw [show wrap64 ((f.toNat : Nat) : Int) = (f.toNat : Int) from wrap64_id (by omega) (by have := f.toNat_lt; omega)]
  go_wp2_with (first
    | (go_at_call 110; have _t := tO2; go_must (refine (ro_any b (some ⟨bb, oo, none⟩) n c _ _ (HS.out _ ((HX1.out.s1_0 (.slice A1 row.length c1)).s1_1 (.int .i64 (f.toNat : Int))).drew.box.up) hn).mono ?_); rw [show ((p1 : Int) + 2) = ((p1 + 2 : Nat) : Int) from by omega, H2.out]; rintro e x2 hp; obtain ⟨A2, c2, rfl, _, hO2, hb2⟩ := hp.at_ (n := qual.length) rfl rfl rfl; have HX2 := Lib.hid (((HX1.out.s1_0 (.slice A1 row.length c1)).s1_1 (.int .i64 (f.toNat : Int))).drew.fresh hb2 hO2); clear hb2 hp hO2 tO2 g1 g2; clear z0 y0 z1 y1 z2 y2 z3 y3 z4 y4 z5 y5 z6 y6 fz fy; have z0 := HX2.out.box.c0 (i := 0) (v := .slice none 0 0) rfl rfl; have y0 := HX2.out.box.c1 (i := 0) (v := .slice A1 row.length c1) rfl rfl; have z1 := HX2.out.box.c0 (i := 1) (v := .int .i64 0) rfl rfl; have y1 := HX2.out.box.c1 (i := 1) (v := .int .i64 (f.toNat : Int)) rfl rfl; have z2 := HX2.out.box.c0 (i := 2) (v := .slice none 0 0) rfl rfl; have y2 := HX2.out.box.c1 (i := 2) (v := .slice none 0 0) rfl rfl; have z3 := HX2.out.box.c0 (i := 3) (v := .int .i64 0) rfl rfl; have y3 := HX2.out.box.c1 (i := 3) (v := .int .i64 0) rfl rfl; have z4 := HX2.out.box.c0 (i := 4) (v := .int .i64 0) rfl rfl; have y4 := HX2.out.box.c1 (i := 4) (v := .int .i64 0) rfl rfl; have z5 := HX2.out.box.c0 (i := 5) (v := .int .i64 0) rfl rfl; have y5 := HX2.out.box.c1 (i := 5) (v := .int .i64 0) rfl rfl; have z6 := HX2.out.box.c0 (i := 6) (v := .slice none 0 0) rfl rfl; have y6 := HX2.out.box.c1 (i := 6) (v := .slice none 0 0) rfl rfl; have fz := HX2.out.box.f0 rfl; have fy := HX2.out.box.f1 rfl)
    | (go_at_call 111; have _t := tF1; go_must (refine (rfl_any b (some ⟨bb, oo, none⟩) n c _ _ (HS.out _ (HX2.out.s1_2 (.slice A2 qual.length c2)).box.up) hn).mono ?_); rw [show ((p2 : Int) + 1) = ((p2 + 1 : Nat) : Int) from by omega, H3.out]; rintro e x3 ⟨rfl, rfl⟩; clear tF1)
    | (go_at_call 111; go_must (refine (rfl_any b (some ⟨bb, oo, none⟩) n c _ _ (HS.out _ ((HX2.out.s1_2 (.slice A2 qual.length c2)).s1_3 (.int .i64 (t : Int))).box.up) hn).mono ?_); rw [H4.out]; rintro e x4 ⟨rfl, rfl⟩))
  (try simp only [Exit.inBlock, Exit.then])
  have HR := Lib.hid (((((HX2.out.s1_2 (.slice A2 qual.length c2)).s1_3 (.int .i64 (t : Int))).s1_4 (.int .i64 (s : Int))).fill7 rfl (.slice A1 row.length c1) (.int .i64 (f.toNat : Int)) (.slice A2 qual.length c2) (.int .i64 (t : Int)) (.int .i64 (s : Int)) (.int .i64 0) (.slice none 0 0)))
  refine bodyPost_ret (results_box1 rfl _ _ w.heap.size _ rfl (HR.out.box.cells0 rfl) (by kernel_rfl) (by kernel_rfl)) rfl ?_
  exact ⟨⟨_, _, _, _, _, _, _, _, _, _, rfl⟩, HR.out.box.up⟩

set_option maxRecDepth 100000 in
set_option maxHeartbeats 2000000 in
theorem pa_P_ok (b : List UInt8) (A : Option Addr) (n c : Nat) (w : World) (row : List UInt8) (p1 : Nat) (f g : UInt8) (qual : List UInt8) (p2 : Nat) (t p3 : Nat) (s p4 : Nat) (k : UInt8) (hs : Sl w A n c b) (hn : n ≤ 140737488355000) (h0 : readO b 0 = (row, p1, 0)) (hlen : p1 + 2 ≤ n) (hf : b[p1]? = some f) (hg : b[p1 + 1]? = some g) (hg0 : g.toNat ≠ 0) (h2 : readO b ((p1 + 2 : Nat) : Int) = (qual, p2, 0)) (hlen2 : p2 < n) (h3 : readFl b (((p2 + 1) : Nat) : Int) = (t, p3, 0)) (h4 : readFl b (p3 : Int) = (s, p4, 0)) (hlen4 : p4 < n) (hk : b[p4]? = some k) :
    Calls Tryd.prog 96 #[.slice A n c] w (EntPost (fun v => .tuple #[v, .bool true]) ⟨row, (f.toNat : Int), qual, (t : Int), (s : Int), (k.toNat : Int), []⟩ w) := by
  have HS : Hid (∀ x, Below w.heap.size w x → Sl x A n c b) := Lib.hid fun x h => hs.later h
  have HX0 := Lib.hid (Bt.of (T := 5) (Bxs.two w 37 #[.slice none 0 0, .int .i64 0, .slice none 0 0, .int .i64 0, .int .i64 0, .int .i64 0, .slice none 0 0] #[.slice none 0 0, .int .i64 0, .slice none 0 0, .int .i64 0, .int .i64 0, .int .i64 0, .slice none 0 0]))
  have H0 := Lib.hid h0
  obtain ⟨bb, oo, _, rfl, hbb, _, _⟩ := hs.rb.at_ (k := p1) (by omega)
  have HC : Hid (∀ (j : Nat) (u : UInt8) x, b[j]? = some u → Below w.heap.size w x → x.cell? ⟨bb, oo + j, none⟩ = some (.int .u8 (u.toNat : Int))) := Lib.hid fun j u x hu hx => (hs.rb.later hx).cell hu
  have hbb0 : ¬ bb = w.heap.size := by omega
  have hbb1 : ¬ bb = w.heap.size + 1 := by omega
  have HF := Lib.hid hf
  have HG := Lib.hid hg
  have hgd : ((g.toNat : Int) != 0) = true := by rw [bne_iff_ne]; omega
  have H2 := Lib.hid h2
  have H3 := Lib.hid h3
  have H4 := Lib.hid h4
  have HK := Lib.hid hk
  have q1 : (p1 : Int) < (n : Int) := by omega
  have q2 : (p1 : Int) + 1 < (n : Int) := by omega
  have q3 : decide ((n : Int) < (p1 : Int) + 2) = false := decide_eq_false (by omega)
  have q4 : (p2 : Int) < (n : Int) := by omega
  have q5 : (p4 : Int) < (n : Int) := by omega
  have q6 : wrap64 ((k.toNat : Nat) : Int) = (k.toNat : Int) := wrap64_id (by omega) (by have := k.toNat_lt; omega)
  have q7 : IntKind.i64.wrap ((k.toNat : Nat) : Int) = (k.toNat : Int) := i64_sum (by omega) (by have := k.toNat_lt; omega)
  have tO1 : True := trivial
  have tO2 : True := trivial
  have tF1 : True := trivial
  clear hs h0 hf hg hg0 h2 h3 h4 hk
  go_enter Tryd.func96, Tryd.ntmps96
  go_wp2_with (go_at_call 110; have _t := tO1; go_must (refine (ro_any b (some ⟨bb, oo, none⟩) n c 0 _ (HS.out _ HX0.out.box.up) hn).mono ?_); rw [H0.out]; rintro e x1 hp; obtain ⟨A1, c1, rfl, _, hO1, hb1⟩ := hp.at_ (n := row.length) rfl rfl rfl; have HX1 := Lib.hid (HX0.out.fresh hb1 hO1); clear hb1 hp hO1 tO1; have z0 := HX1.out.box.c0 (i := 0) (v := .slice none 0 0) rfl rfl; have y0 := HX1.out.box.c1 (i := 0) (v := .slice none 0 0) rfl rfl; have z1 := HX1.out.box.c0 (i := 1) (v := .int .i64 0) rfl rfl; have y1 := HX1.out.box.c1 (i := 1) (v := .int .i64 0) rfl rfl; have z2 := HX1.out.box.c0 (i := 2) (v := .slice none 0 0) rfl rfl; have y2 := HX1.out.box.c1 (i := 2) (v := .slice none 0 0) rfl rfl; have z3 := HX1.out.box.c0 (i := 3) (v := .int .i64 0) rfl rfl; have y3 := HX1.out.box.c1 (i := 3) (v := .int .i64 0) rfl rfl; have z4 := HX1.out.box.c0 (i := 4) (v := .int .i64 0) rfl rfl; have y4 := HX1.out.box.c1 (i := 4) (v := .int .i64 0) rfl rfl; have z5 := HX1.out.box.c0 (i := 5) (v := .int .i64 0) rfl rfl; have y5 := HX1.out.box.c1 (i := 5) (v := .int .i64 0) rfl rfl; have z6 := HX1.out.box.c0 (i := 6) (v := .slice none 0 0) rfl rfl; have y6 := HX1.out.box.c1 (i := 6) (v := .slice none 0 0) rfl rfl; have fz := HX1.out.box.f0 rfl; have fy := HX1.out.box.f1 rfl; have g1 := HC.out p1 f _ HF.out HX1.out.box.up; have g2 := HC.out (p1 + 1) g _ HG.out HX1.out.box.up; have g3 := HC.out p4 k _ HK.out HX1.out.box.up)
  go_region
  rw [show wrap64 ((f.toNat : Nat) : Int) = (f.toNat : Int) from wrap64_id (by omega) (by have := f.toNat_lt; omega)]
  go_wp2_with (first
    | (go_at_call 110; have _t := tO2; go_must (refine (ro_any b (some ⟨bb, oo, none⟩) n c _ _ (HS.out _ ((HX1.out.s1_0 (.slice A1 row.length c1)).s1_1 (.int .i64 (f.toNat : Int))).drew.box.up) hn).mono ?_); rw [show ((p1 : Int) + 2) = ((p1 + 2 : Nat) : Int) from by omega, H2.out]; rintro e x2 hp; obtain ⟨A2, c2, rfl, _, hO2, hb2⟩ := hp.at_ (n := qual.length) rfl rfl rfl; have HX2 := Lib.hid (((HX1.out.s1_0 (.slice A1 row.length c1)).s1_1 (.int .i64 (f.toNat : Int))).drew.fresh hb2 hO2); clear hb2 hp hO2 tO2 g1 g2 g3; clear z0 y0 z1 y1 z2 y2 z3 y3 z4 y4 z5 y5 z6 y6 fz fy; have z0 := HX2.out.box.c0 (i := 0) (v := .slice none 0 0) rfl rfl; have y0 := HX2.out.box.c1 (i := 0) (v := .slice A1 row.length c1) rfl rfl; have z1 := HX2.out.box.c0 (i := 1) (v := .int .i64 0) rfl rfl; have y1 := HX2.out.box.c1 (i := 1) (v := .int .i64 (f.toNat : Int)) rfl rfl; have z2 := HX2.out.box.c0 (i := 2) (v := .slice none 0 0) rfl rfl; have y2 := HX2.out.box.c1 (i := 2) (v := .slice none 0 0) rfl rfl; have z3 := HX2.out.box.c0 (i := 3) (v := .int .i64 0) rfl rfl; have y3 := HX2.out.box.c1 (i := 3) (v := .int .i64 0) rfl rfl; have z4 := HX2.out.box.c0 (i := 4) (v := .int .i64 0) rfl rfl; have y4 := HX2.out.box.c1 (i := 4) (v := .int .i64 0) rfl rfl; have z5 := HX2.out.box.c0 (i := 5) (v := .int .i64 0) rfl rfl; have y5 := HX2.out.box.c1 (i := 5) (v := .int .i64 0) rfl rfl; have z6 := HX2.out.box.c0 (i := 6) (v := .slice none 0 0) rfl rfl; have y6 := HX2.out.box.c1 (i := 6) (v := .slice none 0 0) rfl rfl; have fz := HX2.out.box.f0 rfl; have fy := HX2.out.box.f1 rfl; have g3 := HC.out p4 k _ HK.out HX2.out.box.up)
    | (go_at_call 111; have _t := tF1; go_must (refine (rfl_any b (some ⟨bb, oo, none⟩) n c _ _ (HS.out _ (HX2.out.s1_2 (.slice A2 qual.length c2)).box.up) hn).mono ?_); rw [show ((p2 : Int) + 1) = ((p2 + 1 : Nat) : Int) from by omega, H3.out]; rintro e x3 ⟨rfl, rfl⟩; clear tF1)
    | (go_at_call 111; go_must (refine (rfl_any b (some ⟨bb, oo, none⟩) n c _ _ (HS.out _ ((HX2.out.s1_2 (.slice A2 qual.length c2)).s1_3 (.int .i64 (t : Int))).box.up) hn).mono ?_); rw [H4.out]; rintro e x4 ⟨rfl, rfl⟩))
  (try simp only [Exit.inBlock, Exit.then])
  have HR := Lib.hid ((((((HX2.out.s1_2 (.slice A2 qual.length c2)).s1_3 (.int .i64 (t : Int))).s1_4 (.int .i64 (s : Int))).s1_5 (.int .i64 (k.toNat : Int))).fill7 rfl (.slice A1 row.length c1) (.int .i64 (f.toNat : Int)) (.slice A2 qual.length c2) (.int .i64 (t : Int)) (.int .i64 (s : Int)) (.int .i64 (k.toNat : Int)) (.slice none 0 0)))
  refine bodyPost_ret (results_box1 rfl _ _ w.heap.size _ rfl (HR.out.box.cells0 rfl) (by kernel_rfl) (by kernel_rfl)) rfl ?_
  exact ent_post (mk := fun v => .tuple #[v, .bool true]) (rows_low HR.out.rows (Nat.le_add_right _ _)) HR.out.box.up

set_option maxRecDepth 100000 in
set_option maxHeartbeats 2000000 in
theorem pa_N_f3 (b : List UInt8) (A : Option Addr) (n c : Nat) (w : World) (row : List UInt8) (p1 : Nat) (f g : UInt8) (t p3 er : Nat) (hs : Sl w A n c b) (hn : n ≤ 140737488355000) (h0 : readO b 0 = (row, p1, 0)) (hlen : p1 + 2 ≤ n) (hf : b[p1]? = some f) (hg : b[p1 + 1]? = some g) (hg0 : g.toNat = 0) (h3 : readFl b (((p1 + 2) : Nat) : Int) = (t, p3, er)) (he : er ≠ 0) :
    Calls Tryd.prog 96 #[.slice A n c] w (NoPost w) := by
  have HS : Hid (∀ x, Below w.heap.size w x → Sl x A n c b) := Lib.hid fun x h => hs.later h
  have HX0 := Lib.hid (Bt.of (T := 5) (Bxs.two w 37 #[.slice none 0 0, .int .i64 0, .slice none 0 0, .int .i64 0, .int .i64 0, .int .i64 0, .slice none 0 0] #[.slice none 0 0, .int .i64 0, .slice none 0 0, .int .i64 0, .int .i64 0, .int .i64 0, .slice none 0 0]))
  have H0 := Lib.hid h0
  obtain ⟨bb, oo, _, rfl, hbb, _, _⟩ := hs.rb.at_ (k := p1) (by omega)
  have HC : Hid (∀ (j : Nat) (u : UInt8) x, b[j]? = some u → Below w.heap.size w x → x.cell? ⟨bb, oo + j, none⟩ = some (.int .u8 (u.toNat : Int))) := Lib.hid fun j u x hu hx => (hs.rb.later hx).cell hu
  have hbb0 : ¬ bb = w.heap.size := by omega
  have hbb1 : ¬ bb = w.heap.size + 1 := by omega
  have HF := Lib.hid hf
  have HG := Lib.hid hg
  have hgd : ((g.toNat : Int) != 0) = false := by rw [hg0]; rfl
  have H3 := Lib.hid h3
  have hd : ((er : Int) != 0) = true := by rw [bne_iff_ne]; omega
  have q1 : (p1 : Int) < (n : Int) := by omega
  have q2 : (p1 : Int) + 1 < (n : Int) := by omega
  have q3 : decide ((n : Int) < (p1 : Int) + 2) = false := decide_eq_false (by omega)
  have tO1 : True := trivial
  have tF1 : True := trivial
  clear hs h0 hf hg hg0 h3 he
  go_enter Tryd.func96, Tryd.ntmps96
  go_wp2_with (go_at_call 110; have _t := tO1; go_must (refine (ro_any b (some ⟨bb, oo, none⟩) n c 0 _ (HS.out _ HX0.out.box.up) hn).mono ?_); rw [H0.out]; rintro e x1 hp; obtain ⟨A1, c1, rfl, _, hO1, hb1⟩ := hp.at_ (n := row.length) rfl rfl rfl; have HX1 := Lib.hid (HX0.out.fresh hb1 hO1); clear hb1 hp hO1 tO1; have z0 := HX1.out.box.c0 (i := 0) (v := .slice none 0 0) rfl rfl; have y0 := HX1.out.box.c1 (i := 0) (v := .slice none 0 0) rfl rfl; have z1 := HX1.out.box.c0 (i := 1) (v := .int .i64 0) rfl rfl; have y1 := HX1.out.box.c1 (i := 1) (v := .int .i64 0) rfl rfl; have z2 := HX1.out.box.c0 (i := 2) (v := .slice none 0 0) rfl rfl; have y2 := HX1.out.box.c1 (i := 2) (v := .slice none 0 0) rfl rfl; have z3 := HX1.out.box.c0 (i := 3) (v := .int .i64 0) rfl rfl; have y3 := HX1.out.box.c1 (i := 3) (v := .int .i64 0) rfl rfl; have z4 := HX1.out.box.c0 (i := 4) (v := .int .i64 0) rfl rfl; have y4 := HX1.out.box.c1 (i := 4) (v := .int .i64 0) rfl rfl; have z5 := HX1.out.box.c0 (i := 5) (v := .int .i64 0) rfl rfl; have y5 := HX1.out.box.c1 (i := 5) (v := .int .i64 0) rfl rfl; have z6 := HX1.out.box.c0 (i := 6) (v := .slice none 0 0) rfl rfl; have y6 := HX1.out.box.c1 (i := 6) (v := .slice none 0 0) rfl rfl; have fz := HX1.out.box.f0 rfl; have fy := HX1.out.box.f1 rfl; have g1 := HC.out p1 f _ HF.out HX1.out.box.up; have g2 := HC.out (p1 + 1) g _ HG.out HX1.out.box.up)
  go_region
  rw [show wrap64 ((f.toNat : Nat) : Int) = (f.toNat : Int) from wrap64_id (by omega) (by have := f.toNat_lt; omega)]
  go_wp2_with (first
    | (go_at_call 111; have _t := tF1; go_must (refine (rfl_any b (some ⟨bb, oo, none⟩) n c _ _ (HS.out _ ((HX1.out.s1_0 (.slice A1 row.length c1)).s1_1 (.int .i64 (f.toNat : Int))).drew.box.up) hn).mono ?_); rw [show ((p1 : Int) + 2) = ((p1 + 2 : Nat) : Int) from by omega, H3.out]; rintro e x3 ⟨rfl, rfl⟩; clear tF1))
  (try simp only [Exit.inBlock, Exit.then])
  have HR := Lib.hid (((((HX1.out.s1_0 (.slice A1 row.length c1)).s1_1 (.int .i64 (f.toNat : Int))).s1_3 (.int .i64 (t : Int))).fill7 rfl (.slice A1 row.length c1) (.int .i64 (f.toNat : Int)) (.slice none 0 0) (.int .i64 (t : Int)) (.int .i64 0) (.int .i64 0) (.slice none 0 0)).drew)
  refine bodyPost_ret (results_box1 rfl _ _ w.heap.size _ rfl (HR.out.box.cells0 rfl) (by kernel_rfl) (by kernel_rfl)) rfl ?_
  exact ⟨⟨_, _, _, _, _, _, _, _, _, _, rfl⟩, HR.out.box.up⟩

set_option maxRecDepth 100000 in
set_option maxHeartbeats 2000000 in
theorem pa_N_f4a (b : List UInt8) (A : Option Addr) (n c : Nat) (w : World) (row : List UInt8) (p1 : Nat) (f g : UInt8) (t p3 : Nat) (s p4 er : Nat) (hs : Sl w A n c b) (hn : n ≤ 140737488355000) (h0 : readO b 0 = (row, p1, 0)) (hlen : p1 + 2 ≤ n) (hf : b[p1]? = some f) (hg : b[p1 + 1]? = some g) (hg0 : g.toNat = 0) (h3 : readFl b (((p1 + 2) : Nat) : Int) = (t, p3, 0)) (h4 : readFl b (p3 : Int) = (s, p4, er)) (he : er ≠ 0) :
    Calls Tryd.prog 96 #[.slice A n c] w (NoPost w) := by
  have HS : Hid (∀ x, Below w.heap.size w x → Sl x A n c b) := Lib.hid fun x h => hs.later h
  have HX0 := Lib.hid (Bt.of (T := 5) (Bxs.two w 37 #[.slice none 0 0, .int .i64 0, .slice none 0 0, .int .i64 0, .int .i64 0, .int .i64 0, .slice none 0 0] #[.slice none 0 0, .int .i64 0, .slice none 0 0, .int .i64 0, .int .i64 0, .int .i64 0, .slice none 0 0]))
  have H0 := Lib.hid h0
  obtain ⟨bb, oo, _, rfl, hbb, _, _⟩ := hs.rb.at_ (k := p1) (by omega)
  have HC : Hid (∀ (j : Nat) (u : UInt8) x, b[j]? = some u → Below w.heap.size w x → x.cell? ⟨bb, oo + j, none⟩ = some (.int .u8 (u.toNat : Int))) := Lib.hid fun j u x hu hx => (hs.rb.later hx).cell hu
  have hbb0 : ¬ bb = w.heap.size := by omega
  have hbb1 : ¬ bb = w.heap.size + 1 := by omega
  have HF := Lib.hid hf
  have HG := Lib.hid hg
  have hgd : ((g.toNat : Int) != 0) = false := by rw [hg0]; rfl
  have H3 := Lib.hid h3
  have H4 := Lib.hid h4
  have hd : ((er : Int) != 0) = true := by rw [bne_iff_ne]; omega
  have q1 : (p1 : Int) < (n : Int) := by omega
  have q2 : (p1 : Int) + 1 < (n : Int) := by omega
  have q3 : decide ((n : Int) < (p1 : Int) + 2) = false := decide_eq_false (by omega)
  have tO1 : True := trivial
  have tF1 : True := trivial
  clear hs h0 hf hg hg0 h3 h4 he
  go_enter Tryd.func96, Tryd.ntmps96
  go_wp2_with (go_at_call 110; have _t := tO1; go_must (refine (ro_any b (some ⟨bb, oo, none⟩) n c 0 _ (HS.out _ HX0.out.box.up) hn).mono ?_); rw [H0.out]; rintro e x1 hp; obtain ⟨A1, c1, rfl, _, hO1, hb1⟩ := hp.at_ (n := row.length) rfl rfl rfl; have HX1 := Lib.hid (HX0.out.fresh hb1 hO1); clear hb1 hp hO1 tO1; have z0 := HX1.out.box.c0 (i := 0) (v := .slice none 0 0) rfl rfl; have y0 := HX1.out.box.c1 (i := 0) (v := .slice none 0 0) rfl rfl; have z1 := HX1.out.box.c0 (i := 1) (v := .int .i64 0) rfl rfl; have y1 := HX1.out.box.c1 (i := 1) (v := .int .i64 0) rfl rfl; have z2 := HX1.out.box.c0 (i := 2) (v := .slice none 0 0) rfl rfl; have y2 := HX1.out.box.c1 (i := 2) (v := .slice none 0 0) rfl rfl; have z3 := HX1.out.box.c0 (i := 3) (v := .int .i64 0) rfl rfl; have y3 := HX1.out.box.c1 (i := 3) (v := .int .i64 0) rfl rfl; have z4 := HX1.out.box.c0 (i := 4) (v := .int .i64 0) rfl rfl; have y4 := HX1.out.box.c1 (i := 4) (v := .int .i64 0) rfl rfl; have z5 := HX1.out.box.c0 (i := 5) (v := .int .i64 0) rfl rfl; have y5 := HX1.out.box.c1 (i := 5) (v := .int .i64 0) rfl rfl; have z6 := HX1.out.box.c0 (i := 6) (v := .slice none 0 0) rfl rfl; have y6 := HX1.out.box.c1 (i := 6) (v := .slice none 0 0) rfl rfl; have fz := HX1.out.box.f0 rfl; have fy := HX1.out.box.f1 rfl; have g1 := HC.out p1 f _ HF.out HX1.out.box.up; have g2 := HC.out (p1 + 1) g _ HG.out HX1.out.box.up)
  go_region
  rw [show wrap64 ((f.toNat : Nat) : Int) = (f.toNat : Int) from wrap64_id (by omega) (by have := f.toNat_lt; omega)]
  go_wp2_with (first
    | (go_at_call 111; have _t := tF1; go_must (refine (rfl_any b (some ⟨bb, oo, none⟩) n c _ _ (HS.out _ ((HX1.out.s1_0 (.slice A1 row.length c1)).s1_1 (.int .i64 (f.toNat : Int))).drew.box.up) hn).mono ?_); rw [show ((p1 : Int) + 2) = ((p1 + 2 : Nat) : Int) from by omega, H3.out]; rintro e x3 ⟨rfl, rfl⟩; clear tF1)
    | (go_at_call 111; go_must (refine (rfl_any b (some ⟨bb, oo, none⟩) n c _ _ (HS.out _ (((HX1.out.s1_0 (.slice A1 row.length c1)).s1_1 (.int .i64 (f.toNat : Int))).s1_3 (.int .i64 (t : Int))).drew.box.up) hn).mono ?_); rw [H4.out]; rintro e x4 ⟨rfl, rfl⟩))
  (try simp only [Exit.inBlock, Exit.then])
  have HR := Lib.hid ((((((HX1.out.s1_0 (.slice A1 row.length c1)).s1_1 (.int .i64 (f.toNat : Int))).s1_3 (.int .i64 (t : Int))).s1_4 (.int .i64 (s : Int))).fill7 rfl (.slice A1 row.length c1) (.int .i64 (f.toNat : Int)) (.slice none 0 0) (.int .i64 (t : Int)) (.int .i64 (s : Int)) (.int .i64 0) (.slice none 0 0)).drew)
  refine bodyPost_ret (results_box1 rfl _ _ w.heap.size _ rfl (HR.out.box.cells0 rfl) (by kernel_rfl) (by kernel_rfl)) rfl ?_
  exact ⟨⟨_, _, _, _, _, _, _, _, _, _, rfl⟩, HR.out.box.up⟩

set_option maxRecDepth 100000 in
set_option maxHeartbeats 2000000 in
theorem pa_N_f4b (b : List UInt8) (A : Option Addr) (n c : Nat) (w : World) (row : List UInt8) (p1 : Nat) (f g : UInt8) (t p3 : Nat) (s p4 : Nat) (hs : Sl w A n c b) (hn : n ≤ 140737488355000) (h0 : readO b 0 = (row, p1, 0)) (hlen : p1 + 2 ≤ n) (hf : b[p1]? = some f) (hg : b[p1 + 1]? = some g) (hg0 : g.toNat = 0) (h3 : readFl b (((p1 + 2) : Nat) : Int) = (t, p3, 0)) (h4 : readFl b (p3 : Int) = (s, p4, 0)) (hsh : n ≤ p4) :
    Calls Tryd.prog 96 #[.slice A n c] w (NoPost w) := by
  have HS : Hid (∀ x, Below w.heap.size w x → Sl x A n c b) := Lib.hid fun x h => hs.later h
  have HX0 := Lib.hid (Bt.of (T := 5) (Bxs.two w 37 #[.slice none 0 0, .int .i64 0, .slice none 0 0, .int .i64 0, .int .i64 0, .int .i64 0, .slice none 0 0] #[.slice none 0 0, .int .i64 0, .slice none 0 0, .int .i64 0, .int .i64 0, .int .i64 0, .slice none 0 0]))
  have H0 := Lib.hid h0
  obtain ⟨bb, oo, _, rfl, hbb, _, _⟩ := hs.rb.at_ (k := p1) (by omega)
  have HC : Hid (∀ (j : Nat) (u : UInt8) x, b[j]? = some u → Below w.heap.size w x → x.cell? ⟨bb, oo + j, none⟩ = some (.int .u8 (u.toNat : Int))) := Lib.hid fun j u x hu hx => (hs.rb.later hx).cell hu
  have hbb0 : ¬ bb = w.heap.size := by omega
  have hbb1 : ¬ bb = w.heap.size + 1 := by omega
  have HF := Lib.hid hf
  have HG := Lib.hid hg
  have hgd : ((g.toNat : Int) != 0) = false := by rw [hg0]; rfl
  have H3 := Lib.hid h3
  have H4 := Lib.hid h4
  have q1 : (p1 : Int) < (n : Int) := by omega
  have q2 : (p1 : Int) + 1 < (n : Int) := by omega
  have q3 : decide ((n : Int) < (p1 : Int) + 2) = false := decide_eq_false (by omega)
  have tO1 : True := trivial
  have tF1 : True := trivial
  clear hs h0 hf hg hg0 h3 h4
  go_enter Tryd.func96, Tryd.ntmps96
  go_wp2_with (go_at_call 110; have _t := tO1; go_must (refine (ro_any b (some ⟨bb, oo, none⟩) n c 0 _ (HS.out _ HX0.out.box.up) hn).mono ?_); rw [H0.out]; rintro e x1 hp; obtain ⟨A1, c1, rfl, _, hO1, hb1⟩ := hp.at_ (n := row.length) rfl rfl rfl; have HX1 := Lib.hid (HX0.out.fresh hb1 hO1); clear hb1 hp hO1 tO1; have z0 := HX1.out.box.c0 (i := 0) (v := .slice none 0 0) rfl rfl; have y0 := HX1.out.box.c1 (i := 0) (v := .slice none 0 0) rfl rfl; have z1 := HX1.out.box.c0 (i := 1) (v := .int .i64 0) rfl rfl; have y1 := HX1.out.box.c1 (i := 1) (v := .int .i64 0) rfl rfl; have z2 := HX1.out.box.c0 (i := 2) (v := .slice none 0 0) rfl rfl; have y2 := HX1.out.box.c1 (i := 2) (v := .slice none 0 0) rfl rfl; have z3 := HX1.out.box.c0 (i := 3) (v := .int .i64 0) rfl rfl; have y3 := HX1.out.box.c1 (i := 3) (v := .int .i64 0) rfl rfl; have z4 := HX1.out.box.c0 (i := 4) (v := .int .i64 0) rfl rfl; have y4 := HX1.out.box.c1 (i := 4) (v := .int .i64 0) rfl rfl; have z5 := HX1.out.box.c0 (i := 5) (v := .int .i64 0) rfl rfl; have y5 := HX1.out.box.c1 (i := 5) (v := .int .i64 0) rfl rfl; have z6 := HX1.out.box.c0 (i := 6) (v := .slice none 0 0) rfl rfl; have y6 := HX1.out.box.c1 (i := 6) (v := .slice none 0 0) rfl rfl; have fz := HX1.out.box.f0 rfl; have fy := HX1.out.box.f1 rfl; have g1 := HC.out p1 f _ HF.out HX1.out.box.up; have g2 := HC.out (p1 + 1) g _ HG.out HX1.out.box.up)
  go_region
  rw [show wrap64 ((f.toNat : Nat) : Int) = (f.toNat : Int) from wrap64_id (by omega) (by have := f.toNat_lt; omega)]
  go_wp2_with (first
    | (go_at_call 111; have _t := tF1; go_must (refine (rfl_any b (some ⟨bb, oo, none⟩) n c _ _ (HS.out _ ((HX1.out.s1_0 (.slice A1 row.length c1)).s1_1 (.int .i64 (f.toNat : Int))).drew.box.up) hn).mono ?_); rw [show ((p1 : Int) + 2) = ((p1 + 2 : Nat) : Int) from by omega, H3.out]; rintro e x3 ⟨rfl, rfl⟩; clear tF1)
    | (go_at_call 111; go_must (refine (rfl_any b (some ⟨bb, oo, none⟩) n c _ _ (HS.out _ (((HX1.out.s1_0 (.slice A1 row.length c1)).s1_1 (.int .i64 (f.toNat : Int))).s1_3 (.int .i64 (t : Int))).drew.box.up) hn).mono ?_); rw [H4.out]; rintro e x4 ⟨rfl, rfl⟩))
  (try simp only [Exit.inBlock, Exit.then])
  have HR := Lib.hid ((((((HX1.out.s1_0 (.slice A1 row.length c1)).s1_1 (.int .i64 (f.toNat : Int))).s1_3 (.int .i64 (t : Int))).s1_4 (.int .i64 (s : Int))).fill7 rfl (.slice A1 row.length c1) (.int .i64 (f.toNat : Int)) (.slice none 0 0) (.int .i64 (t : Int)) (.int .i64 (s : Int)) (.int .i64 0) (.slice none 0 0)).drew)
  refine bodyPost_ret (results_box1 rfl _ _ w.heap.size _ rfl (HR.out.box.cells0 rfl) (by kernel_rfl) (by kernel_rfl)) rfl ?_
  exact ⟨⟨_, _, _, _, _, _, _, _, _, _, rfl⟩, HR.out.box.up⟩

set_option maxRecDepth 100000 in
set_option maxHeartbeats 2000000 in
theorem pa_N_ok (b : List UInt8) (A : Option Addr) (n c : Nat) (w : World) (row : List UInt8) (p1 : Nat) (f g : UInt8) (t p3 : Nat) (s p4 : Nat) (k : UInt8) (hs : Sl w A n c b) (hn : n ≤ 140737488355000) (h0 : readO b 0 = (row, p1, 0)) (hlen : p1 + 2 ≤ n) (hf : b[p1]? = some f) (hg : b[p1 + 1]? = some g) (hg0 : g.toNat = 0) (h3 : readFl b (((p1 + 2) : Nat) : Int) = (t, p3, 0)) (h4 : readFl b (p3 : Int) = (s, p4, 0)) (hlen4 : p4 < n) (hk : b[p4]? = some k) :
    Calls Tryd.prog 96 #[.slice A n c] w (EntPost (fun v => .tuple #[v, .bool true]) ⟨row, (f.toNat : Int), [], (t : Int), (s : Int), (k.toNat : Int), []⟩ w) := by
  have HS : Hid (∀ x, Below w.heap.size w x → Sl x A n c b) := Lib.hid fun x h => hs.later h
  have HX0 := Lib.hid (Bt.of (T := 5) (Bxs.two w 37 #[.slice none 0 0, .int .i64 0, .slice none 0 0, .int .i64 0, .int .i64 0, .int .i64 0, .slice none 0 0] #[.slice none 0 0, .int .i64 0, .slice none 0 0, .int .i64 0, .int .i64 0, .int .i64 0, .slice none 0 0]))
  have H0 := Lib.hid h0
  obtain ⟨bb, oo, _, rfl, hbb, _, _⟩ := hs.rb.at_ (k := p1) (by omega)
  have HC : Hid (∀ (j : Nat) (u : UInt8) x, b[j]? = some u → Below w.heap.size w x → x.cell? ⟨bb, oo + j, none⟩ = some (.int .u8 (u.toNat : Int))) := Lib.hid fun j u x hu hx => (hs.rb.later hx).cell hu
  have hbb0 : ¬ bb = w.heap.size := by omega
  have hbb1 : ¬ bb = w.heap.size + 1 := by omega
  have HF := Lib.hid hf
  have HG := Lib.hid hg
  have hgd : ((g.toNat : Int) != 0) = false := by rw [hg0]; rfl
  have H3 := Lib.hid h3
  have H4 := Lib.hid h4
  have HK := Lib.hid hk
  have q1 : (p1 : Int) < (n : Int) := by omega
  have q2 : (p1 : Int) + 1 < (n : Int) := by omega
  have q3 : decide ((n : Int) < (p1 : Int) + 2) = false := decide_eq_false (by omega)
  have q5 : (p4 : Int) < (n : Int) := by omega
  have q6 : wrap64 ((k.toNat : Nat) : Int) = (k.toNat : Int) := wrap64_id (by omega) (by have := k.toNat_lt; omega)
  have q7 : IntKind.i64.wrap ((k.toNat : Nat) : Int) = (k.toNat : Int) := i64_sum (by omega) (by have := k.toNat_lt; omega)
  have tO1 : True := trivial
  have tF1 : True := trivial
  clear hs h0 hf hg hg0 h3 h4 hk
  go_enter Tryd.func96, Tryd.ntmps96
  go_wp2_with (go_at_call 110; have _t := tO1; go_must (refine (ro_any b (some ⟨bb, oo, none⟩) n c 0 _ (HS.out _ HX0.out.box.up) hn).mono ?_); rw [H0.out]; rintro e x1 hp; obtain ⟨A1, c1, rfl, _, hO1, hb1⟩ := hp.at_ (n := row.length) rfl rfl rfl; have HX1 := Lib.hid (HX0.out.fresh hb1 hO1); clear hb1 hp hO1 tO1; have z0 := HX1.out.box.c0 (i := 0) (v := .slice none 0 0) rfl rfl; have y0 := HX1.out.box.c1 (i := 0) (v := .slice none 0 0) rfl rfl; have z1 := HX1.out.box.c0 (i := 1) (v := .int .i64 0) rfl rfl; have y1 := HX1.out.box.c1 (i := 1) (v := .int .i64 0) rfl rfl; have z2 := HX1.out.box.c0 (i := 2) (v := .slice none 0 0) rfl rfl; have y2 := HX1.out.box.c1 (i := 2) (v := .slice none 0 0) rfl rfl; have z3 := HX1.out.box.c0 (i := 3) (v := .int .i64 0) rfl rfl; have y3 := HX1.out.box.c1 (i := 3) (v := .int .i64 0) rfl rfl; have z4 := HX1.out.box.c0 (i := 4) (v := .int .i64 0) rfl rfl; have y4 := HX1.out.box.c1 (i := 4) (v := .int .i64 0) rfl rfl; have z5 := HX1.out.box.c0 (i := 5) (v := .int .i64 0) rfl rfl; have y5 := HX1.out.box.c1 (i := 5) (v := .int .i64 0) rfl rfl; have z6 := HX1.out.box.c0 (i := 6) (v := .slice none 0 0) rfl rfl; have y6 := HX1.out.box.c1 (i := 6) (v := .slice none 0 0) rfl rfl; have fz := HX1.out.box.f0 rfl; have fy := HX1.out.box.f1 rfl; have g1 := HC.out p1 f _ HF.out HX1.out.box.up; have g2 := HC.out (p1 + 1) g _ HG.out HX1.out.box.up; have g3 := HC.out p4 k _ HK.out HX1.out.box.up)
  go_region
  rw [show wrap64 ((f.toNat : Nat) : Int) = (f.toNat : Int) from wrap64_id (by omega) (by have := f.toNat_lt; omega)]
  go_wp2_with (first
    | (go_at_call 111; have _t := tF1; go_must (refine (rfl_any b (some ⟨bb, oo, none⟩) n c _ _ (HS.out _ ((HX1.out.s1_0 (.slice A1 row.length c1)).s1_1 (.int .i64 (f.toNat : Int))).drew.box.up) hn).mono ?_); rw [show ((p1 : Int) + 2) = ((p1 + 2 : Nat) : Int) from by omega, H3.out]; rintro e x3 ⟨rfl, rfl⟩; clear tF1)
    | (go_at_call 111; go_must (refine (rfl_any b (some ⟨bb, oo, none⟩) n c _ _ (HS.out _ (((HX1.out.s1_0 (.slice A1 row.length c1)).s1_1 (.int .i64 (f.toNat : Int))).s1_3 (.int .i64 (t : Int))).drew.box.up) hn).mono ?_); rw [H4.out]; rintro e x4 ⟨rfl, rfl⟩))
  (try simp only [Exit.inBlock, Exit.then])
  have HR := Lib.hid (((((((HX1.out.s1_0 (.slice A1 row.length c1)).s1_1 (.int .i64 (f.toNat : Int))).s1_3 (.int .i64 (t : Int))).s1_4 (.int .i64 (s : Int))).s1_5 (.int .i64 (k.toNat : Int))).fill7 rfl (.slice A1 row.length c1) (.int .i64 (f.toNat : Int)) (.slice none 0 0) (.int .i64 (t : Int)) (.int .i64 (s : Int)) (.int .i64 (k.toNat : Int)) (.slice none 0 0)).drew)
  refine bodyPost_ret (results_box1 rfl _ _ w.heap.size _ rfl (HR.out.box.cells0 rfl) (by kernel_rfl) (by kernel_rfl)) rfl ?_
  exact ent_post_n (mk := fun v => .tuple #[v, .bool true]) (rows_low HR.out.rows (Nat.le_add_right _ _)) HR.out.box.up
end Go.Proofs.YtmigjipfomfacaaDoor

/-
  The ways that the reading of a key goes. No program in sight.
-/
namespace Go.Proofs.YtmigjipfomfacaaDoor
open Go.RowKit

theorem atB_of {b : List UInt8} {k : Nat} {u : UInt8} (h : b[k]? = some u) : atB b k = u.toNat := by unfold atB; rw [h]; rfl
theorem get_of {b : List UInt8} {k : Nat} (h : k < b.length) : ∃ u, b[k]? = some u := ⟨b[k], List.getElem?_eq_getElem h⟩
theorem parseN_cases (b row : List UInt8) (fam : Nat) (qual : List UInt8) (a : Nat) {C : Option (Ent × Nat) → Prop}
    (f3 : ∀ t p3 er, readFl b (a : Nat) = (t, p3, er) → er ≠ 0 → C none)
    (f4a : ∀ t p3 s p4 er, readFl b (a : Nat) = (t, p3, 0) → readFl b (p3 : Int) = (s, p4, er) → er ≠ 0 → C none)
    (f4b : ∀ t p3 s p4, readFl b (a : Nat) = (t, p3, 0) → readFl b (p3 : Int) = (s, p4, 0) → p4 ≤ b.length → b.length ≤ p4 → C none)
    (ok : ∀ t p3 s p4 k, readFl b (a : Nat) = (t, p3, 0) → readFl b (p3 : Int) = (s, p4, 0) → p4 < b.length → b[p4]? = some k → C (some (⟨row, fam, qual, (t : Int), (s : Int), (k.toNat : Int), []⟩, p4 + 1))) :
    C (parseN b row fam qual a) := by
  unfold parseN
  obtain ⟨t, p3, er, h3⟩ : ∃ t p3 er, readFl b (a : Nat) = (t, p3, er) := ⟨_, _, _, rfl⟩
  rw [h3]
  simp only
  by_cases he : er = 0
  · subst he
    rw [if_neg (by simp)]
    obtain ⟨s, p4, er, h4⟩ : ∃ s p4 er, readFl b (p3 : Int) = (s, p4, er) := ⟨_, _, _, rfl⟩
    rw [h4]
    simp only
    by_cases he : er = 0
    · subst he
      have hend := (readFl_end b p3 (by rw [h4])).2.1
      rw [h4] at hend
      by_cases hl : b.length ≤ p4
      · rw [if_pos (.inr hl)]
        exact f4b t p3 s p4 h3 h4 hend hl
      · rw [if_neg (by rintro (h | h); exact h rfl; exact hl h)]
        obtain ⟨k, hk⟩ := get_of (b := b) (k := p4) (by omega)
        rw [atB_of hk]
        exact ok t p3 s p4 k h3 h4 (by omega) hk
    · rw [if_pos (.inl he)]
      exact f4a t p3 s p4 er h3 h4 he
  · rw [if_pos he]
    exact f3 t p3 er h3 he
theorem parse_cases (b : List UInt8) {C : Option (Ent × Nat) → Prop}
    (f1a : ∀ rw0 p1 er, readO b 0 = (rw0, p1, er) → er ≠ 0 → C none)
    (f1b : ∀ row p1, readO b 0 = (row, p1, 0) → p1 ≤ b.length → b.length < p1 + 2 → C none)
    (f2a : ∀ row p1 (f g : UInt8) ql0 p2 er, readO b 0 = (row, p1, 0) → p1 + 2 ≤ b.length → b[p1]? = some f → b[p1 + 1]? = some g → g.toNat ≠ 0 → readO b ((p1 + 2 : Nat) : Int) = (ql0, p2, er) → er ≠ 0 → C none)
    (f2b : ∀ row p1 (f g : UInt8) qual p2, readO b 0 = (row, p1, 0) → p1 + 2 ≤ b.length → b[p1]? = some f → b[p1 + 1]? = some g → g.toNat ≠ 0 → readO b ((p1 + 2 : Nat) : Int) = (qual, p2, 0) → p2 ≤ b.length → b.length ≤ p2 → C none)
    (fP : ∀ row p1 (f g : UInt8) qual p2, readO b 0 = (row, p1, 0) → p1 + 2 ≤ b.length → b[p1]? = some f → b[p1 + 1]? = some g → g.toNat ≠ 0 → readO b ((p1 + 2 : Nat) : Int) = (qual, p2, 0) → p2 < b.length → C (parseN b row f.toNat qual (p2 + 1)))
    (fN : ∀ row p1 (f g : UInt8), readO b 0 = (row, p1, 0) → p1 + 2 ≤ b.length → b[p1]? = some f → b[p1 + 1]? = some g → g.toNat = 0 → C (parseN b row f.toNat [] (p1 + 2))) :
    C (parseE b) := by
  unfold parseE
  obtain ⟨row, p1, er, h0⟩ : ∃ row p1 er, readO b 0 = (row, p1, er) := ⟨_, _, _, rfl⟩
  rw [h0]
  simp only
  by_cases he : er = 0
  · subst he
    have hend := (readO_end b 0 (by rw [h0])).2.1
    rw [h0] at hend
    by_cases hl : b.length < p1 + 2
    · rw [if_pos (.inr hl)]
      exact f1b row p1 h0 hend hl
    · rw [if_neg (by rintro (h | h); exact h rfl; exact hl h)]
      obtain ⟨f, hf⟩ := get_of (b := b) (k := p1) (by omega)
      obtain ⟨g, hg⟩ := get_of (b := b) (k := p1 + 1) (by omega)
      rw [atB_of hf, atB_of hg]
      by_cases hg0 : g.toNat = 0
      · rw [if_neg (by simpa using hg0)]
        exact fN row p1 f g h0 (by omega) hf hg hg0
      · rw [if_pos hg0]
        unfold parseQ
        obtain ⟨qual, p2, er, h2⟩ : ∃ qual p2 er, readO b ((p1 + 2 : Nat) : Int) = (qual, p2, er) := ⟨_, _, _, rfl⟩
        rw [h2]
        simp only
        by_cases he : er = 0
        · subst he
          have hend2 := (readO_end b ((p1 + 2 : Nat) : Int) (by rw [h2])).2.1
          rw [h2] at hend2
          by_cases hl2 : b.length ≤ p2
          · rw [if_pos (.inr hl2)]
            exact f2b row p1 f g qual p2 h0 (by omega) hf hg hg0 h2 hend2 hl2
          · rw [if_neg (by rintro (h | h); exact h rfl; exact hl2 h)]
            exact fP row p1 f g qual p2 h0 (by omega) hf hg hg0 h2 (by omega)
        · rw [if_pos (.inl he)]
          exact f2a row p1 f g qual p2 er h0 (by omega) hf hg hg0 h2 he
  · rw [if_pos (.inl he)]
    exact f1a row p1 er h0 he
end Go.Proofs.YtmigjipfomfacaaDoor

/-
  cell.parse: the ways together; cell.ParseKey walked.
-/
namespace Go.Proofs.YtmigjipfomfacaaDoor
open Go.RowKit

def ParsePost (o : Option (Ent × Nat)) (w : World) (r : Ending) (w' : World) : Prop := match o with
  | none => NoPost w r w'
  | some (e, _) => EntPost (fun v => .tuple #[v, .bool true]) e w r w'
theorem parse_any (b : List UInt8) (A : Option Addr) (n c : Nat) (w : World) (hs : Sl w A n c b) (hn : n ≤ 140737488355000) :
    Calls Tryd.prog 96 #[.slice A n c] w (ParsePost (parseE b) w) := by
  have hl := hs.len
  refine parse_cases b (C := fun o => Calls Tryd.prog 96 #[.slice A n c] w (ParsePost o w)) ?_ ?_ ?_ ?_ ?_ ?_
  · intro rw0 p1 er h0 he; exact pa_N_f1a b A n c w rw0 p1 er hs hn h0 he
  · intro row p1 h0 h1 h2; exact pa_N_f1b b A n c w row p1 hs hn h0 (by omega) (by omega)
  · intro row p1 f g ql0 p2 er h0 h1 hf hg hg0 h2 he; exact pa_P_f2a b A n c w row p1 f g ql0 p2 er hs hn h0 (by omega) hf hg hg0 h2 he
  · intro row p1 f g qual p2 h0 h1 hf hg hg0 h2 h3 h4; exact pa_P_f2b b A n c w row p1 f g qual p2 hs hn h0 (by omega) hf hg hg0 h2 (by omega)
  · intro row p1 f g qual p2 h0 h1 hf hg hg0 h2 h3
    refine parseN_cases b row f.toNat qual (p2 + 1) (C := fun o => Calls Tryd.prog 96 #[.slice A n c] w (ParsePost o w)) ?_ ?_ ?_ ?_
    · intro t p3 er h3' he; exact pa_P_f3 b A n c w row p1 f g qual p2 t p3 er hs hn h0 (by omega) hf hg hg0 h2 (by omega) h3' he
    · intro t p3 s p4 er h3' h4 he; exact pa_P_f4a b A n c w row p1 f g qual p2 t p3 s p4 er hs hn h0 (by omega) hf hg hg0 h2 (by omega) h3' h4 he
    · intro t p3 s p4 h3' h4 h5 h6; exact pa_P_f4b b A n c w row p1 f g qual p2 t p3 s p4 hs hn h0 (by omega) hf hg hg0 h2 (by omega) h3' h4 (by omega)
    · intro t p3 s p4 k h3' h4 h5 hk; exact pa_P_ok b A n c w row p1 f g qual p2 t p3 s p4 k hs hn h0 (by omega) hf hg hg0 h2 (by omega) h3' h4 (by omega) hk
  · intro row p1 f g h0 h1 hf hg hg0
    refine parseN_cases b row f.toNat [] (p1 + 2) (C := fun o => Calls Tryd.prog 96 #[.slice A n c] w (ParsePost o w)) ?_ ?_ ?_ ?_
    · intro t p3 er h3' he; exact pa_N_f3 b A n c w row p1 f g t p3 er hs hn h0 (by omega) hf hg hg0 h3' he
    · intro t p3 s p4 er h3' h4 he; exact pa_N_f4a b A n c w row p1 f g t p3 s p4 er hs hn h0 (by omega) hf hg hg0 h3' h4 he
    · intro t p3 s p4 h3' h4 h5 h6; exact pa_N_f4b b A n c w row p1 f g t p3 s p4 hs hn h0 (by omega) hf hg hg0 h3' h4 (by omega)
    · intro t p3 s p4 k h3' h4 h5 hk; exact pa_N_ok b A n c w row p1 f g t p3 s p4 k hs hn h0 (by omega) hf hg hg0 h3' h4 (by omega) hk
theorem EntPost.cast {mk mk' : Value → Value} {e e' : Ent} {w : World} {r : Ending} {w' : World} (h : EntPost mk e w r w') (he : e = e') (hm : mk = mk') : EntPost mk' e' w r w' := by subst he; subst hm; exact h
end Go.Proofs.YtmigjipfomfacaaDoor

/-
  cell.ParseKey walked. (Printed by gen_pkey.py.)
-/
namespace Go.Proofs.YtmigjipfomfacaaDoor
open Go.RowKit

set_option maxRecDepth 100000 in
set_option maxHeartbeats 2000000 in
theorem pk_none (b : List UInt8) (A : Option Addr) (n c : Nat) (w : World) (hs : Sl w A n c b) (hn : n ≤ 140737488355000) (hp : parseE b = none) :
    Calls Tryd.prog 82 #[.slice A n c] w (EntPost (fun v => .tuple #[v, .int .i64 27]) noEnt w) := by
  have HS : Hid (∀ x, Below w.heap.size w x → Sl x A n c b) := Lib.hid fun x h => hs.later h
  have HX0 := Lib.hid (Bt.of (T := 5) (Bxs.one w 37 #[.slice none 0 0, .int .i64 0, .slice none 0 0, .int .i64 0, .int .i64 0, .int .i64 0, .slice none 0 0]))
  have HP := Lib.hid hp
  clear hs hp
  go_enter Tryd.func82, Tryd.ntmps82
  go_upto_region 3 with (go_at_call 96; go_must (refine (parse_any b A n c _ (HS.out _ HX0.out.box.up) hn).mono ?_); rw [HP.out]; rintro e x1 ⟨⟨A1, n1, c1, f, A2, n2, c2, t, s, k, rfl⟩, hb1⟩; have HX1 := Lib.hid (HX0.out.later hb1); clear hb1; have z0 := HX1.out.box.c0 (i := 0) (v := .slice none 0 0) rfl rfl; have z1 := HX1.out.box.c0 (i := 1) (v := .int .i64 0) rfl rfl; have z2 := HX1.out.box.c0 (i := 2) (v := .slice none 0 0) rfl rfl; have z3 := HX1.out.box.c0 (i := 3) (v := .int .i64 0) rfl rfl; have z4 := HX1.out.box.c0 (i := 4) (v := .int .i64 0) rfl rfl; have z5 := HX1.out.box.c0 (i := 5) (v := .int .i64 0) rfl rfl; have z6 := HX1.out.box.c0 (i := 6) (v := .slice none 0 0) rfl rfl; have fz := HX1.out.box.f0 rfl; have hlt : w.heap.size < x1.heap.size := HX1.out.box.size)
  have HX2 := Lib.hid (HX1.out.alloc (.cells #[.slice A1 n1 c1, .int .i64 f, .slice A2 n2 c2, .int .i64 t, .int .i64 s, .int .i64 k, .slice none 0 0] 37))
  clear HX1 z0 z1 z2 z3 z4 z5 z6 fz hlt
  generalize x1.alloc (.cells #[.slice A1 n1 c1, .int .i64 f, .slice A2 n2 c2, .int .i64 t, .int .i64 s, .int .i64 k, .slice none 0 0] 37) = x2 at HX2 ⊢
  have z0 := HX2.out.box.c0 (i := 0) (v := .slice none 0 0) rfl rfl; have z1 := HX2.out.box.c0 (i := 1) (v := .int .i64 0) rfl rfl; have z2 := HX2.out.box.c0 (i := 2) (v := .slice none 0 0) rfl rfl; have z3 := HX2.out.box.c0 (i := 3) (v := .int .i64 0) rfl rfl; have z4 := HX2.out.box.c0 (i := 4) (v := .int .i64 0) rfl rfl; have z5 := HX2.out.box.c0 (i := 5) (v := .int .i64 0) rfl rfl; have z6 := HX2.out.box.c0 (i := 6) (v := .slice none 0 0) rfl rfl; have fz := HX2.out.box.f0 rfl; have hlt : w.heap.size < x2.heap.size := HX2.out.box.size
  go_wp2_with fail
  (try simp only [Exit.inBlock, Exit.then])
  have HR := Lib.hid (HX2.out.fill7 rfl (.slice none 0 0) (.int .i64 0) (.slice none 0 0) (.int .i64 0) (.int .i64 0) (.int .i64 0) (.slice none 0 0))
  refine bodyPost_ret (results_box1 rfl _ _ w.heap.size _ rfl (HR.out.box.cells0 rfl) (by kernel_rfl) (by kernel_rfl)) rfl ?_
  exact ent_none (mk := fun v => .tuple #[v, .int .i64 27]) HR.out.box.up

set_option maxRecDepth 100000 in
set_option maxHeartbeats 2000000 in
theorem pk_A (b : List UInt8) (A : Option Addr) (n c : Nat) (w : World) (hs : Sl w A n c b) (hn : n ≤ 140737488355000) (E : Ent) (p : Nat) (hp : parseE b = some (E, p)) (K : List UInt8) (z : Int) (hz : z ≠ 0) (hk : KeyE E = (K, z)) :
    Calls Tryd.prog 82 #[.slice A n c] w (EntPost (fun v => .tuple #[v, .int .i64 27]) noEnt w) := by
  have HS : Hid (∀ x, Below w.heap.size w x → Sl x A n c b) := Lib.hid fun x h => hs.later h
  have HX0 := Lib.hid (Bt.of (T := 5) (Bxs.one w 37 #[.slice none 0 0, .int .i64 0, .slice none 0 0, .int .i64 0, .int .i64 0, .int .i64 0, .slice none 0 0]))
  have HP := Lib.hid hp
  have HK := Lib.hid hk
  have hd : (z != 0) = true := by rw [bne_iff_ne]; exact hz
  clear hs hp hk hz
  go_enter Tryd.func82, Tryd.ntmps82
  go_wp2_with (first
    | (go_at_call 96; go_must (refine (parse_any b A n c _ (HS.out _ HX0.out.box.up) hn).mono ?_); rw [HP.out]; rintro e x1 ⟨A1, c1, A2, c2, D, q, rfl, hr1, hb1⟩; have HX1 := Lib.hid (HX0.out.freshR hb1 hr1); clear hb1 hr1)
    | (go_at_call 18; go_must (refine (key_any E A1 _ c1 A2 _ c2 D _ q _ ⟨(HX1.out.alloc (.cells #[.slice A1 E.row.length c1, .int .i64 E.fam, .slice A2 E.qual.length c2, .int .i64 E.ts, .int .i64 E.seq, .int .i64 E.kind, .slice D E.val.length q] 37)).rows.sl (i := 0) rfl, (HX1.out.alloc (.cells #[.slice A1 E.row.length c1, .int .i64 E.fam, .slice A2 E.qual.length c2, .int .i64 E.ts, .int .i64 E.seq, .int .i64 E.kind, .slice D E.val.length q] 37)).rows.sl (i := 1) rfl, (HX1.out.alloc (.cells #[.slice A1 E.row.length c1, .int .i64 E.fam, .slice A2 E.qual.length c2, .int .i64 E.ts, .int .i64 E.seq, .int .i64 E.kind, .slice D E.val.length q] 37)).rows.sl (i := 2) rfl⟩).mono ?_); rw [HK.out]; rintro e x2 hp; obtain ⟨A5, c5, rfl, hS5, hO5, hb5⟩ := hp.at_ (n := K.length) rfl rfl; have HX2 := Lib.hid ((HX1.out.alloc (.cells #[.slice A1 E.row.length c1, .int .i64 E.fam, .slice A2 E.qual.length c2, .int .i64 E.ts, .int .i64 E.seq, .int .i64 E.kind, .slice D E.val.length q] 37)).fresh hb5 hO5); have HY2 := Lib.hid ((Bx.new x1 #[.slice A1 E.row.length c1, .int .i64 E.fam, .slice A2 E.qual.length c2, .int .i64 E.ts, .int .i64 E.seq, .int .i64 E.kind, .slice D E.val.length q] 37).later hb5); have HS5 := Lib.hid hS5; clear hb5 hp hO5 hS5; have z0 := HX2.out.box.c0 (i := 0) (v := .slice none 0 0) rfl rfl; have z1 := HX2.out.box.c0 (i := 1) (v := .int .i64 0) rfl rfl; have z2 := HX2.out.box.c0 (i := 2) (v := .slice none 0 0) rfl rfl; have z3 := HX2.out.box.c0 (i := 3) (v := .int .i64 0) rfl rfl; have z4 := HX2.out.box.c0 (i := 4) (v := .int .i64 0) rfl rfl; have z5 := HX2.out.box.c0 (i := 5) (v := .int .i64 0) rfl rfl; have z6 := HX2.out.box.c0 (i := 6) (v := .slice none 0 0) rfl rfl; have fz := HX2.out.box.f0 rfl; have hlt : w.heap.size < x2.heap.size := HX2.out.box.size; have y0 := HY2.out.cell (i := 0) (v := .slice A1 E.row.length c1) rfl; have y1 := HY2.out.cell (i := 1) (v := .int .i64 E.fam) rfl; have y2 := HY2.out.cell (i := 2) (v := .slice A2 E.qual.length c2) rfl; have y3 := HY2.out.cell (i := 3) (v := .int .i64 E.ts) rfl; have y4 := HY2.out.cell (i := 4) (v := .int .i64 E.seq) rfl; have y5 := HY2.out.cell (i := 5) (v := .int .i64 E.kind) rfl; have y6 := HY2.out.cell (i := 6) (v := .slice D E.val.length q) rfl))
  (try simp only [Exit.inBlock, Exit.then])
  have HR := Lib.hid (HX2.out.fill7 rfl (.slice none 0 0) (.int .i64 0) (.slice none 0 0) (.int .i64 0) (.int .i64 0) (.int .i64 0) (.slice none 0 0))
  refine bodyPost_ret (results_box1 rfl _ _ w.heap.size _ rfl (HR.out.box.cells0 rfl) (by kernel_rfl) (by kernel_rfl)) rfl ?_
  exact ent_none (mk := fun v => .tuple #[v, .int .i64 27]) HR.out.box.up

set_option maxRecDepth 100000 in
set_option maxHeartbeats 2000000 in
theorem pk_B (b : List UInt8) (A : Option Addr) (n c : Nat) (w : World) (hs : Sl w A n c b) (hn : n ≤ 140737488355000) (E : Ent) (p : Nat) (hp : parseE b = some (E, p)) (K : List UInt8) (hk : KeyE E = (K, 0)) (hkb : (K == b) = false) :
    Calls Tryd.prog 82 #[.slice A n c] w (EntPost (fun v => .tuple #[v, .int .i64 27]) noEnt w) := by
  have HS : Hid (∀ x, Below w.heap.size w x → Sl x A n c b) := Lib.hid fun x h => hs.later h
  have HX0 := Lib.hid (Bt.of (T := 5) (Bxs.one w 37 #[.slice none 0 0, .int .i64 0, .slice none 0 0, .int .i64 0, .int .i64 0, .int .i64 0, .slice none 0 0]))
  have HP := Lib.hid hp
  have HK := Lib.hid hk
  have HKB := Lib.hid hkb
  clear hs hp hk hkb
  go_enter Tryd.func82, Tryd.ntmps82
  go_wp2_with (first
    | (go_at_call 96; go_must (refine (parse_any b A n c _ (HS.out _ HX0.out.box.up) hn).mono ?_); rw [HP.out]; rintro e x1 ⟨A1, c1, A2, c2, D, q, rfl, hr1, hb1⟩; have HX1 := Lib.hid (HX0.out.freshR hb1 hr1); clear hb1 hr1)
    | (go_at_call 18; go_must (refine (key_any E A1 _ c1 A2 _ c2 D _ q _ ⟨(HX1.out.alloc (.cells #[.slice A1 E.row.length c1, .int .i64 E.fam, .slice A2 E.qual.length c2, .int .i64 E.ts, .int .i64 E.seq, .int .i64 E.kind, .slice D E.val.length q] 37)).rows.sl (i := 0) rfl, (HX1.out.alloc (.cells #[.slice A1 E.row.length c1, .int .i64 E.fam, .slice A2 E.qual.length c2, .int .i64 E.ts, .int .i64 E.seq, .int .i64 E.kind, .slice D E.val.length q] 37)).rows.sl (i := 1) rfl, (HX1.out.alloc (.cells #[.slice A1 E.row.length c1, .int .i64 E.fam, .slice A2 E.qual.length c2, .int .i64 E.ts, .int .i64 E.seq, .int .i64 E.kind, .slice D E.val.length q] 37)).rows.sl (i := 2) rfl⟩).mono ?_); rw [HK.out]; rintro e x2 hp; obtain ⟨A5, c5, rfl, hS5, hO5, hb5⟩ := hp.at_ (n := K.length) rfl rfl; have HX2 := Lib.hid ((HX1.out.alloc (.cells #[.slice A1 E.row.length c1, .int .i64 E.fam, .slice A2 E.qual.length c2, .int .i64 E.ts, .int .i64 E.seq, .int .i64 E.kind, .slice D E.val.length q] 37)).fresh hb5 hO5); have HY2 := Lib.hid ((Bx.new x1 #[.slice A1 E.row.length c1, .int .i64 E.fam, .slice A2 E.qual.length c2, .int .i64 E.ts, .int .i64 E.seq, .int .i64 E.kind, .slice D E.val.length q] 37).later hb5); have HS5 := Lib.hid hS5; clear hb5 hp hO5 hS5; have z0 := HX2.out.box.c0 (i := 0) (v := .slice none 0 0) rfl rfl; have z1 := HX2.out.box.c0 (i := 1) (v := .int .i64 0) rfl rfl; have z2 := HX2.out.box.c0 (i := 2) (v := .slice none 0 0) rfl rfl; have z3 := HX2.out.box.c0 (i := 3) (v := .int .i64 0) rfl rfl; have z4 := HX2.out.box.c0 (i := 4) (v := .int .i64 0) rfl rfl; have z5 := HX2.out.box.c0 (i := 5) (v := .int .i64 0) rfl rfl; have z6 := HX2.out.box.c0 (i := 6) (v := .slice none 0 0) rfl rfl; have fz := HX2.out.box.f0 rfl; have hlt : w.heap.size < x2.heap.size := HX2.out.box.size; have y0 := HY2.out.cell (i := 0) (v := .slice A1 E.row.length c1) rfl; have y1 := HY2.out.cell (i := 1) (v := .int .i64 E.fam) rfl; have y2 := HY2.out.cell (i := 2) (v := .slice A2 E.qual.length c2) rfl; have y3 := HY2.out.cell (i := 3) (v := .int .i64 E.ts) rfl; have y4 := HY2.out.cell (i := 4) (v := .int .i64 E.seq) rfl; have y5 := HY2.out.cell (i := 5) (v := .int .i64 E.kind) rfl; have y6 := HY2.out.cell (i := 6) (v := .slice D E.val.length q) rfl)
    | (go_at_call 46; go_must (refine (equal_any K b A5 A K.length c5 n c _ HS5.out.rb (HS.out _ HX2.out.box.up).rb).mono ?_); rw [HKB.out]; rintro e x3 ⟨rfl, rfl⟩))
  (try simp only [Exit.inBlock, Exit.then])
  have HR := Lib.hid (HX2.out.fill7 rfl (.slice none 0 0) (.int .i64 0) (.slice none 0 0) (.int .i64 0) (.int .i64 0) (.int .i64 0) (.slice none 0 0))
  refine bodyPost_ret (results_box1 rfl _ _ w.heap.size _ rfl (HR.out.box.cells0 rfl) (by kernel_rfl) (by kernel_rfl)) rfl ?_
  exact ent_none (mk := fun v => .tuple #[v, .int .i64 27]) HR.out.box.up

set_option maxRecDepth 100000 in
set_option maxHeartbeats 2000000 in
theorem pk_C (b : List UInt8) (A : Option Addr) (n c : Nat) (w : World) (hs : Sl w A n c b) (hn : n ≤ 140737488355000) (E : Ent) (p : Nat) (hp : parseE b = some (E, p)) (K : List UInt8) (hk : KeyE E = (K, 0)) (hkb : (K == b) = true) :
    Calls Tryd.prog 82 #[.slice A n c] w (EntPost (fun v => .tuple #[v, .int .i64 0]) E w) := by
  have HS : Hid (∀ x, Below w.heap.size w x → Sl x A n c b) := Lib.hid fun x h => hs.later h
  have HX0 := Lib.hid (Bt.of (T := 5) (Bxs.one w 37 #[.slice none 0 0, .int .i64 0, .slice none 0 0, .int .i64 0, .int .i64 0, .int .i64 0, .slice none 0 0]))
  have HP := Lib.hid hp
  have HK := Lib.hid hk
  have HKB := Lib.hid hkb
  clear hs hp hk hkb
  go_enter Tryd.func82, Tryd.ntmps82
  go_wp2_with (first
    | (go_at_call 96; go_must (refine (parse_any b A n c _ (HS.out _ HX0.out.box.up) hn).mono ?_); rw [HP.out]; rintro e x1 ⟨A1, c1, A2, c2, D, q, rfl, hr1, hb1⟩; have HX1 := Lib.hid (HX0.out.freshR hb1 hr1); clear hb1 hr1)
    | (go_at_call 18; go_must (refine (key_any E A1 _ c1 A2 _ c2 D _ q _ ⟨(HX1.out.alloc (.cells #[.slice A1 E.row.length c1, .int .i64 E.fam, .slice A2 E.qual.length c2, .int .i64 E.ts, .int .i64 E.seq, .int .i64 E.kind, .slice D E.val.length q] 37)).rows.sl (i := 0) rfl, (HX1.out.alloc (.cells #[.slice A1 E.row.length c1, .int .i64 E.fam, .slice A2 E.qual.length c2, .int .i64 E.ts, .int .i64 E.seq, .int .i64 E.kind, .slice D E.val.length q] 37)).rows.sl (i := 1) rfl, (HX1.out.alloc (.cells #[.slice A1 E.row.length c1, .int .i64 E.fam, .slice A2 E.qual.length c2, .int .i64 E.ts, .int .i64 E.seq, .int .i64 E.kind, .slice D E.val.length q] 37)).rows.sl (i := 2) rfl⟩).mono ?_); rw [HK.out]; rintro e x2 hp; obtain ⟨A5, c5, rfl, hS5, hO5, hb5⟩ := hp.at_ (n := K.length) rfl rfl; have HX2 := Lib.hid ((HX1.out.alloc (.cells #[.slice A1 E.row.length c1, .int .i64 E.fam, .slice A2 E.qual.length c2, .int .i64 E.ts, .int .i64 E.seq, .int .i64 E.kind, .slice D E.val.length q] 37)).fresh hb5 hO5); have HY2 := Lib.hid ((Bx.new x1 #[.slice A1 E.row.length c1, .int .i64 E.fam, .slice A2 E.qual.length c2, .int .i64 E.ts, .int .i64 E.seq, .int .i64 E.kind, .slice D E.val.length q] 37).later hb5); have HS5 := Lib.hid hS5; clear hb5 hp hO5 hS5; have z0 := HX2.out.box.c0 (i := 0) (v := .slice none 0 0) rfl rfl; have z1 := HX2.out.box.c0 (i := 1) (v := .int .i64 0) rfl rfl; have z2 := HX2.out.box.c0 (i := 2) (v := .slice none 0 0) rfl rfl; have z3 := HX2.out.box.c0 (i := 3) (v := .int .i64 0) rfl rfl; have z4 := HX2.out.box.c0 (i := 4) (v := .int .i64 0) rfl rfl; have z5 := HX2.out.box.c0 (i := 5) (v := .int .i64 0) rfl rfl; have z6 := HX2.out.box.c0 (i := 6) (v := .slice none 0 0) rfl rfl; have fz := HX2.out.box.f0 rfl; have hlt : w.heap.size < x2.heap.size := HX2.out.box.size; have y0 := HY2.out.cell (i := 0) (v := .slice A1 E.row.length c1) rfl; have y1 := HY2.out.cell (i := 1) (v := .int .i64 E.fam) rfl; have y2 := HY2.out.cell (i := 2) (v := .slice A2 E.qual.length c2) rfl; have y3 := HY2.out.cell (i := 3) (v := .int .i64 E.ts) rfl; have y4 := HY2.out.cell (i := 4) (v := .int .i64 E.seq) rfl; have y5 := HY2.out.cell (i := 5) (v := .int .i64 E.kind) rfl; have y6 := HY2.out.cell (i := 6) (v := .slice D E.val.length q) rfl)
    | (go_at_call 46; go_must (refine (equal_any K b A5 A K.length c5 n c _ HS5.out.rb (HS.out _ HX2.out.box.up).rb).mono ?_); rw [HKB.out]; rintro e x3 ⟨rfl, rfl⟩))
  (try simp only [Exit.inBlock, Exit.then])
  have HR := Lib.hid (HX2.out.fill7 rfl (.slice A1 E.row.length c1) (.int .i64 E.fam) (.slice A2 E.qual.length c2) (.int .i64 E.ts) (.int .i64 E.seq) (.int .i64 E.kind) (.slice D E.val.length q))
  refine bodyPost_ret (results_box1 rfl _ _ w.heap.size _ rfl (HR.out.box.cells0 rfl) (by kernel_rfl) (by kernel_rfl)) rfl ?_
  exact ⟨A1, c1, A2, c2, D, q, rfl, rows_low (rows_pre HR.out.rows) (Nat.le_add_right _ _), HR.out.box.up⟩

theorem parsekey_any (b : List UInt8) (A : Option Addr) (n c : Nat) (w : World) (hs : Sl w A n c b) (hn : n ≤ 140737488355000) :
    Calls Tryd.prog 82 #[.slice A n c] w (EntPost (fun v => .tuple #[v, .int .i64 (ParseKeyE b).2]) (ParseKeyE b).1 w) := by
  unfold ParseKeyE
  cases hp : parseE b with
  | none => exact pk_none b A n c w hs hn hp
  | some x =>
    obtain ⟨E, p⟩ := x
    simp only [ParseKeyO]
    by_cases hc : checkE E = 0
    · have hk : KeyE E = (keyE E, 0) := by unfold KeyE; rw [if_pos hc]
      by_cases hb : keyE E = b
      · rw [if_pos ⟨hc, hb⟩]
        exact pk_C b A n c w hs hn E p hp _ hk (by rw [hb]; simp)
      · rw [if_neg (fun h => hb h.2)]
        exact pk_B b A n c w hs hn E p hp _ hk (by simpa using hb)
    · have hk : KeyE E = ([], checkE E) := by unfold KeyE; rw [if_neg hc]
      rw [if_neg (fun h => hc h.1)]
      exact pk_A b A n c w hs hn E p hp _ _ hc hk
end Go.Proofs.YtmigjipfomfacaaDoor

/-
  wire.Frame, walked.
-/
namespace Go.Proofs.YtmigjipfomfacaaDoor
open Go.RowKit

end Go.Proofs.YtmigjipfomfacaaDoor

/-
  wire.ReadFrame, walked.
-/
namespace Go.Proofs.YtmigjipfomfacaaDoor
open Go.RowKit

section
variable (l : List UInt8) (A : Option Addr) (n c k : Nat) (w : World)

variable (hn : n ≤ 9223372036854775807) (hnc : n ≤ c) (hc : c ≤ 9223372036854775807) (hA : A = none → c = 0) (hr : RB w w.heap.size A n l) (ht : TabAt 0 w) (hk : k ≤ n)

include hk in
end
end Go.Proofs.YtmigjipfomfacaaDoor

/-
  wire.ReadUint, walked.
-/
namespace Go.Proofs.YtmigjipfomfacaaDoor
open Go.RowKit

def RUPost (r : Nat × Nat × Nat) (w : World) (e : Ending) (w' : World) : Prop := e = .returned (.tuple #[.int .u64 r.1, .int .i64 r.2.1, .int .i64 r.2.2]) ∧ w = w'

set_option maxRecDepth 100000 in
set_option maxHeartbeats 400000 in
theorem ru_out (l : List UInt8) (A : Option Addr) (n c : Nat) (w : World) (a : Int) (hl : l.length = n) (h : a < 0 ∨ (n : Int) < a) :
    Calls Tryd.prog 79 #[.slice A n c, .int .i64 a] w (RUPost (readU l a) w) := by
  have HO : Hid (outB n a = true) := Lib.hid (by rcases h with h | h <;> simp [outB, h])
  have H : Hid (readU l a = (0, 0, 1)) := Lib.hid (by unfold readU; rw [if_pos (by omega)])
  clear h hl
  go_enter Tryd.func79, Tryd.ntmps79
  go_wp2_with (go_at_call 93; go_must (refine (outside_any A n c a _).mono ?_); rintro e w0 ⟨rfl, rfl⟩; rw [HO.out])
  go_ret3
  rw [H.out]
  exact ⟨rfl, rfl⟩

set_option maxRecDepth 100000 in
set_option maxHeartbeats 1000000 in
theorem ru_in (l : List UInt8) (A : Option Addr) (n c k : Nat) (w : World) (hn : n ≤ 9223372036854775797) (hr : RB w w.heap.size A n l) (hk : k ≤ n) :
    Calls Tryd.prog 79 #[.slice A n c, .int .i64 k] w (RUPost (readU l k) w) := by
  have HO : Hid (outB n (k : Int) = false) := Lib.hid (outB_no (by omega) (by omega))
  have hl := hr.len
  have HR := Lib.hid hr
  have HL := Lib.hid hl
  clear hr hl
  go_enter Tryd.func79, Tryd.ntmps79
  go_wp2_with (go_at_call 93; go_must (refine (outside_any A n c k _).mono ?_); rintro e w0 ⟨rfl, rfl⟩; rw [HO.out])
  go_loop [7, 8] (fun x i => ∃ (V j : Nat), Hid (V < 2 ^ (7 * j)) ∧ x = .int .u64 V ∧ i = .int .i64 j ∧ j ≤ 9 ∧ k + j ≤ n ∧ Hid (rdU (l.drop (k + j)) j V = rdU (l.drop k) 0 0)) (fun _ i => n + 1 - (intOf i).toNat)
  case atStart => exact ⟨0, 0, Lib.hid (by decide), rfl, rfl, by omega, by omega, Lib.hid rfl⟩
  case round =>
    obtain ⟨V, j, HV, rfl, rfl, hj9, hjn, HI⟩ := hrel
    by_cases hkj : k + j < n
    case neg =>
      have H : Hid (readU l k = (0, 0, 10)) := Lib.hid (readU_at (r := (0, 0, 10)) (by rw [HL.out]; exact hk) HI.out (by rw [List.drop_eq_nil_of_le (by rw [HL.out]; omega)]; rfl))
      go_wp2
      go_ret3
      rw [H.out]
      exact ⟨rfl, rfl⟩
    obtain ⟨b, o, x, eA, hb, hx, hcx⟩ := HR.out.at_ hkj
    subst eA
    have HC : Hid (l.drop (k + j) = x :: l.drop (k + (j + 1))) := Lib.hid (by
      obtain ⟨h1, h2⟩ := List.getElem?_eq_some_iff.1 hx
      rw [List.drop_eq_getElem_cons h1, h2]; rfl)
    have hx8 := x.toNat_lt
    clear hx
    have HK : Hid (k ≤ l.length) := Lib.hid (by rw [HL.out]; exact hk)
    have tail : Hid (∀ r, rdU (l.drop (k + j)) j V = r → readU l (k : Int) = if r.2.2 = 0 then (r.1, k + r.2.1, 0) else (0, 0, r.2.2)) := Lib.hid fun r h => readU_at HK.out HI.out h
    have HU : Hid (rdU (l.drop (k + j)) j V = if j = 9 ∧ 1 < x.toNat then (0, 0, 13) else if x.toNat < 128 then (if x.toNat = 0 ∧ 0 < j then (0, 0, 11) else (V + x.toNat % 128 * 2 ^ (7 * j), j + 1, 0)) else rdU (l.drop (k + (j + 1))) (j + 1) (V + x.toNat % 128 * 2 ^ (7 * j))) := Lib.hid (by rw [HC.out]; rfl)
    by_cases h9 : j = 9
    · subst h9
      have HV63 : Hid (V < 2 ^ 63) := Lib.hid HV.out
      by_cases h1 : 1 < x.toNat
      · have H : Hid (readU l k = (0, 0, 13)) := Lib.hid ((tail.out (0, 0, 13) (by rw [HU.out, if_pos ⟨rfl, h1⟩])).trans rfl)
        go_wp2
        go_ret3
        rw [H.out]
        exact ⟨rfl, rfl⟩
      by_cases h0 : x.toNat = 0
      · have H : Hid (readU l k = (0, 0, 11)) := Lib.hid ((tail.out (0, 0, 11) (by rw [HU.out, if_neg (by omega), if_pos (by omega), if_pos (by omega)])).trans rfl)
        go_wp2
        go_ret3
        rw [H.out]
        exact ⟨rfl, rfl⟩
      · have H : Hid (readU l k = (V + x.toNat % 128 * 2 ^ (7 * 9), k + 10, 0)) := Lib.hid ((tail.out (V + x.toNat % 128 * 2 ^ (7 * 9), 10, 0) (by rw [HU.out, if_neg (by omega), if_pos (by omega), if_neg (by omega)])).trans (by rw [if_pos rfl]))
        have HE := Lib.hid (rd_last V x (by omega) HV63.out)
        have hd0 : ((x.toNat : Int) == 0) = false := by rw [beq_eq_false_iff_ne]; omega
        go_wp2
        go_ret3
        rw [H.out]
        refine ⟨?_, rfl⟩
        rw [← HE.out]
        rw [show ((k + 10 : Nat) : Int) = (k : Int) + 9 + 1 from by omega]; rfl
    · have hj8 : j ≤ 8 := by omega
      have hd9 : ((j : Int) == 9) = false := by rw [beq_eq_false_iff_ne]; omega
      have HE := Lib.hid (rd_step V j x hj8 HV.out)
      by_cases hx7 : x.toNat < 128
      · by_cases h0 : x.toNat = 0
        · by_cases hj0 : j = 0
          · have H : Hid (readU l k = (V + x.toNat % 128 * 2 ^ (7 * j), k + (j + 1), 0)) := Lib.hid ((tail.out (V + x.toNat % 128 * 2 ^ (7 * j), j + 1, 0) (by rw [HU.out, if_neg (by omega), if_pos (by omega), if_neg (by omega)])).trans (by rw [if_pos rfl]))
            have hd0 : ((x.toNat : Int) == 0) = true := by rw [beq_iff_eq]; omega
            have hd1 : decide (0 < j) = false := decide_eq_false (by omega)
            clear h0 hj0
            go_wp2
            go_ret3
            rw [H.out]
            refine ⟨?_, rfl⟩
            rw [← HE.out]
            rw [show ((k + (j + 1) : Nat) : Int) = (k : Int) + j + 1 from by omega]; rfl
          · have H : Hid (readU l k = (0, 0, 11)) := Lib.hid ((tail.out (0, 0, 11) (by rw [HU.out, if_neg (by omega), if_pos (by omega), if_pos (by omega)])).trans rfl)
            have hj1 : 0 < j := by omega
            go_wp2
            go_ret3
            rw [H.out]
            exact ⟨rfl, rfl⟩
        · have H : Hid (readU l k = (V + x.toNat % 128 * 2 ^ (7 * j), k + (j + 1), 0)) := Lib.hid ((tail.out (V + x.toNat % 128 * 2 ^ (7 * j), j + 1, 0) (by rw [HU.out, if_neg (by omega), if_pos (by omega), if_neg (by omega)])).trans (by rw [if_pos rfl]))
          have hd0 : ((x.toNat : Int) == 0) = false := by rw [beq_eq_false_iff_ne]; omega
          go_wp2
          go_ret3
          rw [H.out]
          refine ⟨?_, rfl⟩
          rw [← HE.out]
          rw [show ((k + (j + 1) : Nat) : Int) = (k : Int) + j + 1 from by omega]; rfl
      · have HN : Hid (rdU (l.drop (k + (j + 1))) (j + 1) (V + x.toNat % 128 * 2 ^ (7 * j)) = rdU (l.drop k) 0 0) := Lib.hid (by
          rw [← HI.out, HU.out, if_neg (by omega), if_neg (by omega)])
        go_wp2
        go_round
        case rel => exact ⟨_, j + 1, Lib.hid (rd_next V j x.toNat HV.out), by rw [HE.out], by go_num, by omega, by omega, HN⟩
        case measure => simp [intOf]; omega

theorem ru_any (l : List UInt8) (A : Option Addr) (n c : Nat) (a : Int) (w : World) (hn : n ≤ 9223372036854775797) (hr : RB w w.heap.size A n l) :
    Calls Tryd.prog 79 #[.slice A n c, .int .i64 a] w (RUPost (readU l a) w) := by
  by_cases h : a < 0 ∨ (n : Int) < a
  · exact ru_out l A n c w a hr.len h
  · obtain ⟨k, rfl⟩ : ∃ k : Nat, a = (k : Int) := ⟨a.toNat, by omega⟩
    exact ru_in l A n c k w hn hr (by omega)
end Go.Proofs.YtmigjipfomfacaaDoor

/-
  The statements' 'started', walked.
-/
namespace Go.Proofs.YtmigjipfomfacaaDoor
open Go.RowKit

theorem st_read : readU [9, 172, 2] 1 = (300, 3, 0) := by decide +kernel
theorem st_frame : (frameR [7]).length = 13 := by decide +kernel
theorem st_frameE : frameE [7] = 0 := by decide +kernel
theorem st_rframe : readFA (frameR [7]) 0 = ([7], 13, 0) := by decide +kernel
theorem st_uint : uintB 300 = [172, 2] := by decide +kernel

end Go.Proofs.YtmigjipfomfacaaDoor

/-
  wire.ReadBytes, walked.
-/
namespace Go.Proofs.YtmigjipfomfacaaDoor
open Go.RowKit

set_option maxRecDepth 100000 in
set_option maxHeartbeats 2000000 in
theorem rby_any (l : List UInt8) (A : Option Addr) (n c : Nat) (a most : Int) (w : World) (hs : Sl w A n c l) (hn : n ≤ 140737488355328) (hm : -9223372036854775808 ≤ most ∧ most < 9223372036854775808) :
    Calls Tryd.prog 80 #[.slice A n c, .int .i64 a, .int .i64 most] w (BytesPost3 5 (readBy l a most).1 ((readBy l a most).2.1 : Nat) ((readBy l a most).2.2 : Nat) w) := by
  have hl := hs.len
  have HR := Lib.hid hs.rb
  have HS := Lib.hid hs
  have HN : Hid (n ≤ 9223372036854775797) := Lib.hid (by omega)
  have hcap := hs.cap
  have hlim := hs.lim
  by_cases ho : outB n a = true
  · have HO := Lib.hid ho
    have H : Hid (BytesPost3 5 (readBy l a most).1 ((readBy l a most).2.1 : Nat) ((readBy l a most).2.2 : Nat) w (.returned (.tuple #[.slice none 0 0, .int .i64 0, .int .i64 1])) w) := Lib.hid (by
      unfold outB at ho
      simp at ho
      unfold readBy
      rw [if_pos (by omega)]
      exact bytes_none3 (Below.refl _ _))
    clear hs ho hl hcap hlim
    go_enter Tryd.func80, Tryd.ntmps80
    go_wp2_with (go_at_call 93; go_must (refine (outside_any A n c a _).mono ?_); rintro e w0 ⟨rfl, rfl⟩; rw [HO.out])
    go_ret3
    exact H.out
  have ho : outB n a = false := by simpa using ho
  have HO := Lib.hid ho
  have ha : 0 ≤ a ∧ a ≤ n := by unfold outB at ho; simp at ho; omega
  by_cases hmn : most < 0
  · have H : Hid (BytesPost3 5 (readBy l a most).1 ((readBy l a most).2.1 : Nat) ((readBy l a most).2.2 : Nat) w (.returned (.tuple #[.slice none 0 0, .int .i64 0, .int .i64 1])) w) := Lib.hid (by
      unfold readBy
      rw [if_pos (by omega)]
      exact bytes_none3 (Below.refl _ _))
    have hd : decide (most < 0) = true := decide_eq_true hmn
    clear hs ho hl hcap hlim ha hm hmn
    go_enter Tryd.func80, Tryd.ntmps80
    go_wp2_with (go_at_call 93; go_must (refine (outside_any A n c a _).mono ?_); rintro e w0 ⟨rfl, rfl⟩; rw [HO.out])
    go_ret3
    exact H.out
  have hd : decide (most < 0) = false := decide_eq_false hmn
  obtain ⟨M, rfl⟩ : ∃ M : Nat, most = (M : Int) := ⟨most.toNat, by omega⟩
  have hbase : readBy l a M = if (readU l a).2.2 ≠ 0 then ([], 0, (readU l a).2.2) else if (M : Int) < ((readU l a).1 : Int) then ([], 0, 13) else if l.length - (readU l a).2.1 < (readU l a).1 then ([], 0, 10) else (cutS l (readU l a).2.1 (readU l a).1, (readU l a).2.1 + (readU l a).1, 0) := by
    unfold readBy; rw [if_neg (by omega)]
  have hend := readU_end l a
  have hval := readU_val l a
  obtain ⟨v, hv⟩ : ∃ v, v = (readU l a).1 := ⟨_, rfl⟩
  obtain ⟨p, hp⟩ : ∃ p, p = (readU l a).2.1 := ⟨_, rfl⟩
  obtain ⟨k, hk⟩ : ∃ k, k = (readU l a).2.2 := ⟨_, rfl⟩
  rw [← hv, ← hp, ← hk] at hbase
  rw [← hp, ← hk] at hend
  rw [← hv] at hval
  have HU : Hid (RUPost (readU l a) w = RUPost (v, p, k) w) := Lib.hid (by rw [hv, hp, hk])
  clear hv hp hk hs ho ha
  by_cases hk0 : k = 0
  case neg =>
    have H : Hid (BytesPost3 5 (readBy l a M).1 ((readBy l a M).2.1 : Nat) ((readBy l a M).2.2 : Nat) w (.returned (.tuple #[.slice none 0 0, .int .i64 0, .int .i64 k])) w) := Lib.hid (by
      rw [hbase, if_pos hk0]
      exact bytes_none3 (Below.refl _ _))
    have hd2 : ((k : Int) != 0) = true := by rw [bne_iff_ne]; omega
    clear hbase hend hval hk0 hl hcap hlim hm hmn
    go_enter Tryd.func80, Tryd.ntmps80
    go_wp2_with (first
      | (go_at_call 93; go_must (refine (outside_any A n c a _).mono ?_); rintro e w0 ⟨rfl, rfl⟩; rw [HO.out])
      | (go_at_call 79; go_must (refine (ru_any l A n c a _ HN.out HR.out).mono ?_); rw [HU.out]; rintro e w1 ⟨rfl, rfl⟩))
    go_ret3
    exact H.out
  subst hk0
  obtain ⟨hpn, ha0, hap⟩ := hend rfl
  rw [if_neg (by simp)] at hbase
  have XV := Lib.hid hval
  by_cases hbig : M < v
  · have H : Hid (BytesPost3 5 (readBy l a M).1 ((readBy l a M).2.1 : Nat) ((readBy l a M).2.2 : Nat) w (.returned (.tuple #[.slice none 0 0, .int .i64 0, .int .i64 13])) w) := Lib.hid (by
      rw [hbase, if_pos (by omega)]
      exact bytes_none3 (Below.refl _ _))
    have hd3 : decide ((M : Int) < (v : Int)) = true := decide_eq_true (by omega)
    have hd4 : decide (M < v) = true := decide_eq_true hbig
    have hM0 : (0 : Int) ≤ (M : Int) := by omega
    clear hbase hval hl hcap hlim hmn hbig hpn hap hend
    go_enter Tryd.func80, Tryd.ntmps80
    go_wp2_with (first
      | (go_at_call 93; go_must (refine (outside_any A n c a _).mono ?_); rintro e w0 ⟨rfl, rfl⟩; rw [HO.out])
      | (go_at_call 79; go_must (refine (ru_any l A n c a _ HN.out HR.out).mono ?_); rw [HU.out]; rintro e w1 ⟨rfl, rfl⟩))
    go_ret3
    exact H.out
  rw [if_neg (by omega)] at hbase
  have hd3 : decide ((M : Int) < (v : Int)) = false := decide_eq_false (by omega)
  have hd4 : decide (M < v) = false := decide_eq_false hbig
  have hM0 : (0 : Int) ≤ (M : Int) := by omega
  by_cases htorn : n - p < v
  · have H : Hid (BytesPost3 5 (readBy l a M).1 ((readBy l a M).2.1 : Nat) ((readBy l a M).2.2 : Nat) w (.returned (.tuple #[.slice none 0 0, .int .i64 0, .int .i64 10])) w) := Lib.hid (by
      rw [hbase, if_pos (by omega)]
      exact bytes_none3 (Below.refl _ _))
    have hd5 : decide ((n : Int) - (p : Int) < (v : Int)) = true := decide_eq_true (by omega)
    have hpn2 : p ≤ n := by omega
    clear hbase hval hl hcap hlim hmn hbig hpn hap htorn hend
    go_enter Tryd.func80, Tryd.ntmps80
    go_wp2_with (first
      | (go_at_call 93; go_must (refine (outside_any A n c a _).mono ?_); rintro e w0 ⟨rfl, rfl⟩; rw [HO.out])
      | (go_at_call 79; go_must (refine (ru_any l A n c a _ HN.out HR.out).mono ?_); rw [HU.out]; rintro e w1 ⟨rfl, rfl⟩))
    go_ret3
    exact H.out
  rw [if_neg (by omega)] at hbase
  have hd5 : decide ((n : Int) - (p : Int) < (v : Int)) = false := decide_eq_false (by omega)
  have hpv : p + v ≤ n := by omega
  have HB := Lib.hid hbase
  have XS : Hid ((cutS l p v).length = v) := Lib.hid (by unfold cutS; rw [List.length_take, List.length_drop]; omega)
  by_cases hcp : c = p
  · have hv0 : v = 0 := by omega
    subst hv0
    subst hcp
    have HE : Hid (RB w w.heap.size A 0 (cutS l c 0)) := Lib.hid (by unfold cutS; rw [List.take_zero]; exact RB.nil)
    have k1 : c + 0 - c = 0 := by omega
    have k2 : c - c = 0 := by omega
    clear hbase hval hl hlim hmn hbig hpn hap htorn hend
    go_enter Tryd.func80, Tryd.ntmps80
    go_wp2_with (first
      | (go_at_call 93; go_must (refine (outside_any A n c a _).mono ?_); rintro e w0 ⟨rfl, rfl⟩; rw [HO.out])
      | (go_at_call 79; go_must (refine (ru_any l A n c a _ HN.out HR.out).mono ?_); rw [HU.out]; rintro e w1 ⟨rfl, rfl⟩)
      | (go_at_call 94; go_must (refine (clone_any (cutS l c 0) A 0 0 _ (by omega) (fun _ => rfl) HE.out).mono ?_); rintro e w2 ⟨A2, c2, rfl, hO2, hb2⟩))
    go_ret3
    rw [HB.out]
    exact ⟨A2, c2, rfl, hO2, hb2⟩
  · have HE : Hid (RB w w.heap.size (A.map (·.add p)) v (cutS l p v)) := Lib.hid (by
      have := (HS.out.rb.drop (k := p) (cap := c) (by omega) hcap).take (m := v) (by omega)
      rwa [if_neg hcp] at this)
    have HA1 : Hid (A.map (·.add p) = none → c - p = 0) := Lib.hid fun h => by cases A with
      | none => have := HS.out.nil rfl; omega
      | some _ => cases h
    have k1 : p + v - p = v := by omega
    have hvb : v ≤ 140737488355328 := by omega
    clear hbase hval hl hlim hmn hbig hpn hap htorn hend
    go_enter Tryd.func80, Tryd.ntmps80
    go_wp2_with (first
      | (go_at_call 93; go_must (refine (outside_any A n c a _).mono ?_); rintro e w0 ⟨rfl, rfl⟩; rw [HO.out])
      | (go_at_call 79; go_must (refine (ru_any l A n c a _ HN.out HR.out).mono ?_); rw [HU.out]; rintro e w1 ⟨rfl, rfl⟩)
      | (go_at_call 94; go_must (refine (clone_any (cutS l p v) _ v (c - p) _ hvb HA1.out HE.out).mono ?_); rintro e w2 ⟨A2, c2, rfl, hO2, hb2⟩))
    go_ret3
    rw [HB.out]
    refine ⟨A2, c2, ?_, hO2, hb2⟩
    rw [show ((p + v : Nat) : Int) = (p : Int) + v from by omega]; rfl
end Go.Proofs.YtmigjipfomfacaaDoor

/-
  cell.Unpack walked. (Printed by gen_unpack.py.)
-/
namespace Go.Proofs.YtmigjipfomfacaaDoor
open Go.RowKit

end Go.Proofs.YtmigjipfomfacaaDoor

/-
  The document's out, Check; walked.
-/
namespace Go.Proofs.YtmigjipfomfacaaDoor
open Go.RowKit

set_option maxRecDepth 100000 in
set_option maxHeartbeats 1000000 in
theorem rOut_any (n lo hi : Int) (w : World) : Calls Tryd.prog 76 #[.int .i64 n, .int .i64 lo, .int .i64 hi] w fun e w' => e = .returned (.bool (outI n lo hi)) ∧ w = w' := by
  unfold outI
  by_cases h : n < lo
  · have hd : decide (n < lo) = true := decide_eq_true h
    go_enter Tryd.func76, Tryd.ntmps76
    go_wp2
    go_ret
    exact ⟨by simp [hd], rfl⟩
  · have hd : decide (n < lo) = false := decide_eq_false h
    go_enter Tryd.func76, Tryd.ntmps76
    go_wp2
    go_ret
    exact ⟨by simp, rfl⟩

set_option maxRecDepth 100000 in
set_option maxHeartbeats 4000000 in
theorem rCheck_any (A : Option Addr) (n c : Nat) (f : Int) (B : Option Addr) (m d : Nat) (t s k : Int) (D : Option Addr) (v q : Nat) (w : World) :
    Calls Tryd.prog 42 #[.agg #[.slice A n c, .int .i64 f, .slice B m d, .int .i64 t, .int .i64 s, .int .i64 k, .slice D v q]] w fun e w' => e = .returned (.int .i64 (checkN n f m t s k v)) ∧ Below w.heap.size w w' := by
  have HB : Hid (∀ o, Below w.heap.size w (w.alloc o)) := Lib.hid fun o => (Below.refl _ w).alloc (Nat.le_refl _) o
  go_enter Tryd.func42, Tryd.ntmps42
  by_cases h0 : outI n 1 256 = true
  · have o0 := Lib.hid (outI_pos h0)
    go_wp2_with (go_at_call 76; refine (rOut_any _ _ _ _).mono ?_; rintro e w' ⟨rfl, rfl⟩)
    go_ret
    refine ⟨?_, HB.out _⟩
    clear HB
    have HZ : checkN n f m t s k v = 20 := by
      simp only [hid_iff] at *
      unfold checkN
      (repeat' split) <;> first | rfl | omega
    rw [HZ]; rfl
  have p0 := Lib.hid (outI_no (outI_neg h0))
  replace h0 := outI_neg h0
  by_cases h1 : outI f 0 7 = true
  · have o1 := Lib.hid (outI_pos h1)
    go_wp2_with (go_at_call 76; refine (rOut_any _ _ _ _).mono ?_; rintro e w' ⟨rfl, rfl⟩)
    go_ret
    refine ⟨?_, HB.out _⟩
    clear HB
    have HZ : checkN n f m t s k v = 21 := by
      simp only [hid_iff] at *
      unfold checkN
      (repeat' split) <;> first | rfl | omega
    rw [HZ]; rfl
  have p1 := Lib.hid (outI_no (outI_neg h1))
  replace h1 := outI_neg h1
  by_cases h2 : 256 < m
  · have d1 : decide ((256 : Int) < (m : Int)) = true := decide_eq_true (by omega)
    have d1n : decide (256 < m) = true := decide_eq_true h2
    go_wp2_with (go_at_call 76; refine (rOut_any _ _ _ _).mono ?_; rintro e w' ⟨rfl, rfl⟩)
    go_ret
    refine ⟨?_, HB.out _⟩
    clear HB
    have HZ : checkN n f m t s k v = 22 := by
      simp only [hid_iff] at *
      unfold checkN
      (repeat' split) <;> first | rfl | omega
    rw [HZ]; rfl
  have da2 : decide ((256 : Int) < (m : Int)) = false := decide_eq_false (by omega)
  have db2 : decide (256 < m) = false := decide_eq_false h2
  by_cases k2 : k = 5
  · have e2 : (k == 5) = true := by simpa using k2
    replace k2 := Lib.hid k2
    by_cases l2 : 0 < m
    · have d1 : decide ((0 : Int) < (m : Int)) = true := decide_eq_true (by omega)
      have d1n : decide (0 < m) = true := decide_eq_true l2
      go_wp2_with (go_at_call 76; refine (rOut_any _ _ _ _).mono ?_; rintro e w' ⟨rfl, rfl⟩)
      go_ret
      refine ⟨?_, HB.out _⟩
      clear HB
      have HZ : checkN n f m t s k v = 22 := by
        simp only [hid_iff] at *
        unfold checkN
        (repeat' split) <;> first | rfl | omega
      rw [HZ]; rfl
    have dc2 : decide ((0 : Int) < (m : Int)) = false := decide_eq_false (by omega)
    have dd2 : decide (0 < m) = false := decide_eq_false l2
    by_cases h3 : outI t 1 1099511627776 = true
    · have o3 := Lib.hid (outI_pos h3)
      go_wp2_with (go_at_call 76; refine (rOut_any _ _ _ _).mono ?_; rintro e w' ⟨rfl, rfl⟩)
      go_ret
      refine ⟨?_, HB.out _⟩
      clear HB
      have HZ : checkN n f m t s k v = 23 := by
        simp only [hid_iff] at *
        unfold checkN
        (repeat' split) <;> first | rfl | omega
      rw [HZ]; rfl
    have p3 := Lib.hid (outI_no (outI_neg h3))
    replace h3 := outI_neg h3
    by_cases h4 : outI s 0 17592186044431 = true
    · have o4 := Lib.hid (outI_pos h4)
      go_wp2_with (go_at_call 76; refine (rOut_any _ _ _ _).mono ?_; rintro e w' ⟨rfl, rfl⟩)
      go_ret
      refine ⟨?_, HB.out _⟩
      clear HB
      have HZ : checkN n f m t s k v = 24 := by
        simp only [hid_iff] at *
        unfold checkN
        (repeat' split) <;> first | rfl | omega
      rw [HZ]; rfl
    have p4 := Lib.hid (outI_no (outI_neg h4))
    replace h4 := outI_neg h4
    by_cases h5 : outI k 1 5 = true
    · have o5 := Lib.hid (outI_pos h5)
      go_wp2_with (go_at_call 76; refine (rOut_any _ _ _ _).mono ?_; rintro e w' ⟨rfl, rfl⟩)
      go_ret
      refine ⟨?_, HB.out _⟩
      clear HB
      have HZ : checkN n f m t s k v = 25 := by
        simp only [hid_iff] at *
        unfold checkN
        (repeat' split) <;> first | rfl | omega
      rw [HZ]; rfl
    have p5 := Lib.hid (outI_no (outI_neg h5))
    replace h5 := outI_neg h5
    by_cases h6 : 4096 < v
    · have d1 : decide ((4096 : Int) < (v : Int)) = true := decide_eq_true (by omega)
      have d1n : decide (4096 < v) = true := decide_eq_true h6
      go_wp2_with (go_at_call 76; refine (rOut_any _ _ _ _).mono ?_; rintro e w' ⟨rfl, rfl⟩)
      go_ret
      refine ⟨?_, HB.out _⟩
      clear HB
      have HZ : checkN n f m t s k v = 26 := by
        simp only [hid_iff] at *
        unfold checkN
        (repeat' split) <;> first | rfl | omega
      rw [HZ]; rfl
    have da6 : decide ((4096 : Int) < (v : Int)) = false := decide_eq_false (by omega)
    have db6 : decide (4096 < v) = false := decide_eq_false h6
    by_cases k6 : ¬ k = 1
    · have e6 : (k != 1) = true := by simpa using k6
      replace k6 := Lib.hid k6
      by_cases l6 : 0 < v
      · have d1 : decide ((0 : Int) < (v : Int)) = true := decide_eq_true (by omega)
        have d1n : decide (0 < v) = true := decide_eq_true l6
        go_wp2_with (go_at_call 76; refine (rOut_any _ _ _ _).mono ?_; rintro e w' ⟨rfl, rfl⟩)
        go_ret
        refine ⟨?_, HB.out _⟩
        clear HB
        have HZ : checkN n f m t s k v = 26 := by
          simp only [hid_iff] at *
          unfold checkN
          (repeat' split) <;> first | rfl | omega
        rw [HZ]; rfl
      have dc6 : decide ((0 : Int) < (v : Int)) = false := decide_eq_false (by omega)
      have dd6 : decide (0 < v) = false := decide_eq_false l6
      go_wp2_with (go_at_call 76; refine (rOut_any _ _ _ _).mono ?_; rintro e w' ⟨rfl, rfl⟩)
      go_ret
      refine ⟨?_, HB.out _⟩
      clear HB
      have HZ : checkN n f m t s k v = 0 := by
        simp only [hid_iff] at *
        unfold checkN
        (repeat' split) <;> first | rfl | omega
      rw [HZ]; rfl
    have e6 : (k != 1) = false := by simpa using k6
    replace k6 := Lib.hid k6
    go_wp2_with (go_at_call 76; refine (rOut_any _ _ _ _).mono ?_; rintro e w' ⟨rfl, rfl⟩)
    go_ret
    refine ⟨?_, HB.out _⟩
    clear HB
    have HZ : checkN n f m t s k v = 0 := by
      simp only [hid_iff] at *
      unfold checkN
      (repeat' split) <;> first | rfl | omega
    rw [HZ]; rfl
  have e2 : (k == 5) = false := by simpa using k2
  replace k2 := Lib.hid k2
  by_cases h3 : outI t 1 1099511627776 = true
  · have o3 := Lib.hid (outI_pos h3)
    go_wp2_with (go_at_call 76; refine (rOut_any _ _ _ _).mono ?_; rintro e w' ⟨rfl, rfl⟩)
    go_ret
    refine ⟨?_, HB.out _⟩
    clear HB
    have HZ : checkN n f m t s k v = 23 := by
      simp only [hid_iff] at *
      unfold checkN
      (repeat' split) <;> first | rfl | omega
    rw [HZ]; rfl
  have p3 := Lib.hid (outI_no (outI_neg h3))
  replace h3 := outI_neg h3
  by_cases h4 : outI s 0 17592186044431 = true
  · have o4 := Lib.hid (outI_pos h4)
    go_wp2_with (go_at_call 76; refine (rOut_any _ _ _ _).mono ?_; rintro e w' ⟨rfl, rfl⟩)
    go_ret
    refine ⟨?_, HB.out _⟩
    clear HB
    have HZ : checkN n f m t s k v = 24 := by
      simp only [hid_iff] at *
      unfold checkN
      (repeat' split) <;> first | rfl | omega
    rw [HZ]; rfl
  have p4 := Lib.hid (outI_no (outI_neg h4))
  replace h4 := outI_neg h4
  by_cases h5 : outI k 1 5 = true
  · have o5 := Lib.hid (outI_pos h5)
    go_wp2_with (go_at_call 76; refine (rOut_any _ _ _ _).mono ?_; rintro e w' ⟨rfl, rfl⟩)
    go_ret
    refine ⟨?_, HB.out _⟩
    clear HB
    have HZ : checkN n f m t s k v = 25 := by
      simp only [hid_iff] at *
      unfold checkN
      (repeat' split) <;> first | rfl | omega
    rw [HZ]; rfl
  have p5 := Lib.hid (outI_no (outI_neg h5))
  replace h5 := outI_neg h5
  by_cases h6 : 4096 < v
  · have d1 : decide ((4096 : Int) < (v : Int)) = true := decide_eq_true (by omega)
    have d1n : decide (4096 < v) = true := decide_eq_true h6
    go_wp2_with (go_at_call 76; refine (rOut_any _ _ _ _).mono ?_; rintro e w' ⟨rfl, rfl⟩)
    go_ret
    refine ⟨?_, HB.out _⟩
    clear HB
    have HZ : checkN n f m t s k v = 26 := by
      simp only [hid_iff] at *
      unfold checkN
      (repeat' split) <;> first | rfl | omega
    rw [HZ]; rfl
  have da6 : decide ((4096 : Int) < (v : Int)) = false := decide_eq_false (by omega)
  have db6 : decide (4096 < v) = false := decide_eq_false h6
  by_cases k6 : ¬ k = 1
  · have e6 : (k != 1) = true := by simpa using k6
    replace k6 := Lib.hid k6
    by_cases l6 : 0 < v
    · have d1 : decide ((0 : Int) < (v : Int)) = true := decide_eq_true (by omega)
      have d1n : decide (0 < v) = true := decide_eq_true l6
      go_wp2_with (go_at_call 76; refine (rOut_any _ _ _ _).mono ?_; rintro e w' ⟨rfl, rfl⟩)
      go_ret
      refine ⟨?_, HB.out _⟩
      clear HB
      have HZ : checkN n f m t s k v = 26 := by
        simp only [hid_iff] at *
        unfold checkN
        (repeat' split) <;> first | rfl | omega
      rw [HZ]; rfl
    have dc6 : decide ((0 : Int) < (v : Int)) = false := decide_eq_false (by omega)
    have dd6 : decide (0 < v) = false := decide_eq_false l6
    go_wp2_with (go_at_call 76; refine (rOut_any _ _ _ _).mono ?_; rintro e w' ⟨rfl, rfl⟩)
    go_ret
    refine ⟨?_, HB.out _⟩
    clear HB
    have HZ : checkN n f m t s k v = 0 := by
      simp only [hid_iff] at *
      unfold checkN
      (repeat' split) <;> first | rfl | omega
    rw [HZ]; rfl
  have e6 : (k != 1) = false := by simpa using k6
  replace k6 := Lib.hid k6
  go_wp2_with (go_at_call 76; refine (rOut_any _ _ _ _).mono ?_; rintro e w' ⟨rfl, rfl⟩)
  go_ret
  refine ⟨?_, HB.out _⟩
  clear HB
  have HZ : checkN n f m t s k v = 0 := by
    simp only [hid_iff] at *
    unfold checkN
    (repeat' split) <;> first | rfl | omega
  rw [HZ]; rfl

end Go.Proofs.YtmigjipfomfacaaDoor
