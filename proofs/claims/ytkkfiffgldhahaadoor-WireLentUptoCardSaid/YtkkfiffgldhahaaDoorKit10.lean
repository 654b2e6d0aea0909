/-
  A list of one's own that holds rows of one's own; rows lengthened, cell by cell. Over any program.
-/
import Derived.Test.YtkkfiffgldhahaaDoorKit9
namespace Go.Proofs.YtkkfiffgldhahaaDoor
open Go.RowKit

/-- A list of rows; all of it one's own, all apart. -/
structure LR (T e : TypeId) (B : Nat) (w : World) (A : Option Addr) (n c : Nat) (rs : RowL) (ks : List (List UInt8)) : Prop where
  ol : w.ownsRow B e 1 (.slice A n c) n (rs.map valR)
  rows : RowsB T B w rs
  off : Off (.slice A n c) rs
  cont : rs.map (·.2.2) = ks
  len : rs.length = n
theorem cont_one10 {zs : RowL} {L : List (List UInt8)} (h : zs.map (·.2.2) = L) {k : Nat} {F : List UInt8} (hk : L[k]? = some F) : ∃ a ca, zs[k]? = some (a, ca, F) := by
  rw [← h, List.getElem?_map] at hk
  cases hz : zs[k]? with
  | none => rw [hz] at hk; cases hk
  | some r =>
    rw [hz] at hk; injection hk with hk
    exact ⟨r.1, r.2.1, by rw [← hk]⟩
section
variable {T e : TypeId} {B n c : Nat} {w x : World} {lv wv : Value} {A : Option Addr} {rs : RowL} {ks : List (List UInt8)} {S : Nat → Prop}
theorem ApSt.lr (h : ApSt T e B w lv wv rs [] []) (hk : rs.map (·.2.2) = ks) (hn : rs.length = n) : ∃ A c, lv = .slice A n c ∧ LR T e B w A n c rs ks := by
  obtain ⟨h1, h2, _, h3, _⟩ := h
  rw [List.append_nil, List.append_nil] at h1 h3
  rw [hn] at h2
  obtain ⟨A, c, rfl, _⟩ := own_slice h2
  exact ⟨A, c, rfl, h2, h1, h3, hk, hn⟩
theorem LR.len_ks (h : LR T e B w A n c rs ks) : ks.length = n := by rw [← h.cont, List.length_map, h.len]
theorem LR.chg (h : LR T e B w A n c rs ks) (hc : Chg S w x) (h1 : ∀ a, A = some a → ¬ S a.block) (h2 : ∀ (i : Nat) r a, rs[i]? = some r → r.1 = some a → ¬ S a.block) : LR T e B x A n c rs ks :=
  ⟨own_chg h.ol hc fun g hg => by
    cases A with
    | none => cases hg
    | some a => injection hg with hg; subst hg; exact h1 a rfl, h.rows.chg hc fun i r hr a ha => h2 i r a hr ha, h.off, h.cont, h.len⟩
theorem LR.later (h : LR T e B w A n c rs ks) (hb : Below w.heap.size w x) : LR T e B x A n c rs ks := h.chg (S := fun _ => False) (Below.chg0 hb) (fun _ _ e => e) fun _ _ _ _ _ e => e
theorem LR.cell (h : LR T e B w A n c rs ks) {i : Nat} {a : Option Addr} {ca : Nat} {l : List UInt8} (hr : rs[i]? = some (a, ca, l)) : ∃ g, A = some ⟨g, 0, none⟩ ∧ B ≤ g ∧ g < w.heap.size ∧ w.cell? ⟨g, i, none⟩ = some (.slice a l.length ca) := by
  have hlt := (List.getElem?_eq_some_iff.1 hr).1
  have hn := h.len
  obtain ⟨g, cap, hv, h1, h2, _⟩ := own_form h.ol (by omega)
  injection hv with hv _ _
  subst hv
  exact ⟨g, rfl, h1, h2, (World.ownsRow.cellAt h.ol i (by omega)).trans (by rw [List.getElem?_map, hr]; rfl)⟩
theorem LR.at_ (h : LR T e B w A n c rs ks) {i : Nat} {l : List UInt8} (hk : ks[i]? = some l) : ∃ a ca, rs[i]? = some (a, ca, l) ∧ Sl w a l.length ca l := by
  obtain ⟨a, ca, hr⟩ := cont_one10 h.cont hk
  exact ⟨a, ca, hr, h.rows.sl hr⟩
theorem LR.kv (h : LR T e B w A n c rs ks) : KV w w.heap.size (rs.map valR) ks :=
  ⟨by rw [List.length_map, h.len, h.len_ks], fun i k hk => by
    obtain ⟨a, ca, hr, hs⟩ := h.at_ hk
    exact ⟨a, ca, by rw [List.getElem?_map, hr]; rfl, hs.cap, hs.lim, hs.nil, hs.rb⟩⟩
theorem LR.rbs (h : LR T e B w A n c rs ks) : RBs w w.heap.size A n ks := h.kv.rbs (Reads.own h.ol)
end

/-- A slice that begins with n bytes and goes on with t alone: behind an append of t's to a row that is at least n long, wherever that lies, it is what it was. -/
theorem Sl.retail {w x : World} {A : Option Addr} {n N M N' c : Nat} {l : List UInt8} {t : UInt8} {row : Option Nat} (h : Sl w A (n + N) c (l ++ List.replicate N t)) (hl : l.length = n) (hA : ∀ a, A = some a → a.off = 0) (hM : n ≤ M)
    (hc : ∀ p u, w.cell? p = some u → x.cell? p = some u ∨ (some p.block = row ∧ p.spot = Option.none ∧ M ≤ p.off ∧ p.off < M + N' ∧ x.cell? p = (u8s (List.replicate N' t))[p.off - M]?)) (hsz : w.heap.size ≤ x.heap.size) : Sl x A (n + N) c (l ++ List.replicate N t) := by
  refine ⟨RB.mk' h.len fun h0 => ?_, h.cap, h.lim, h.nil⟩
  obtain ⟨b, o, e, hb, hcell⟩ := h.rb.2 h0
  have ho : o = 0 := hA ⟨b, o, Option.none⟩ e
  refine ⟨b, o, e, Nat.lt_of_lt_of_le hb hsz, fun j u hj => ?_⟩
  have h1 := hcell j _ (u8s_at hj)
  rcases hc _ _ h1 with h2 | ⟨_, _, h2, h3, h4⟩
  · exact h2
  · simp only at h2 h3 h4
    rw [h4]
    have hj' : u = t := by
      rw [List.getElem?_append_right (by omega), List.getElem?_replicate] at hj
      split at hj
      · injection hj with hj; exact hj.symm
      · cases hj
    rw [hj']
    refine u8s_at ?_
    rw [List.getElem?_replicate, if_pos (by omega)]
theorem own_off {T : TypeId} {base : Nat} {w : World} {A : Option Addr} {c : Nat} {l : List UInt8} (h : OwnB T base w A c l) : ∀ a, A = some a → a.off = 0 := fun a ha => by rw [h.zero ha]

/-- The lengthened ones of the first q rows, three of each. -/
def moreW (mk tl : Nat → UInt8) (rs : RowL) (q : Nat) : List (List UInt8) := (List.range q).flatMap fun i =>
  [List.replicate ((rs[i]?.map fun r => r.2.2.length).getD 0) (mk i) ++ List.replicate 1 (tl i), List.replicate ((rs[i]?.map fun r => r.2.2.length).getD 0) (mk i) ++ List.replicate 2 (tl i), List.replicate ((rs[i]?.map fun r => r.2.2.length).getD 0) (mk i) ++ List.replicate 70 (tl i)]
theorem moreW_succ (mk tl : Nat → UInt8) {rs : RowL} {q : Nat} {A : Option Addr} {c : Nat} {l : List UInt8} (h : rs[q]? = some (A, c, l)) : moreW mk tl rs (q + 1) = moreW mk tl rs q ++ [List.replicate l.length (mk q) ++ List.replicate 1 (tl q), List.replicate l.length (mk q) ++ List.replicate 2 (tl q), List.replicate l.length (mk q) ++ List.replicate 70 (tl q)] := by simp [moreW, List.range_succ, h]
theorem moreW_len (mk tl : Nat → UInt8) (rs : RowL) (q : Nat) : (moreW mk tl rs q).length = 3 * q := by
  induction q with
  | zero => rfl
  | succ q ih =>
    have : (moreW mk tl rs (q + 1)).length = (moreW mk tl rs q).length + 3 := by simp [moreW, List.range_succ]
    omega
def extW : Nat → Nat
  | 0 => 1
  | 1 => 2
  | _ => 70
theorem moreW_at (mk tl : Nat → UInt8) {rs : RowL} {q i d : Nat} (hi : i < q) (hd : d < 3) {A : Option Addr} {c : Nat} {l : List UInt8} (h : rs[i]? = some (A, c, l)) : (moreW mk tl rs q)[3 * i + d]? = some (List.replicate l.length (mk i) ++ List.replicate (extW d) (tl i)) := by
  induction q with
  | zero => omega
  | succ q ih =>
    have e : moreW mk tl rs (q + 1) = moreW mk tl rs q ++ [List.replicate ((rs[q]?.map fun r => r.2.2.length).getD 0) (mk q) ++ List.replicate 1 (tl q), List.replicate ((rs[q]?.map fun r => r.2.2.length).getD 0) (mk q) ++ List.replicate 2 (tl q), List.replicate ((rs[q]?.map fun r => r.2.2.length).getD 0) (mk q) ++ List.replicate 70 (tl q)] := by simp [moreW, List.range_succ]
    rw [e]
    by_cases h1 : i < q
    · rw [List.getElem?_append_left (by rw [moreW_len]; omega)]
      exact ih h1
    · obtain rfl : i = q := by omega
      rw [List.getElem?_append_right (by rw [moreW_len]; omega), moreW_len, h]
      match d, hd with
      | 0, _ => simp [extW]
      | 1, _ => simp [extW, show 3 * i + 1 - 3 * i = 1 from by omega]
      | 2, _ => simp [extW, show 3 * i + 2 - 3 * i = 2 from by omega]
section
variable {T e : TypeId} {base H3 : Nat} {wr w2 w3 : World} {rs : RowL} {v v3 : Value} {vs : List Value} {ks : List (List UInt8)} {k m ca : Nat} {l : List UInt8} {A : Option Addr}
theorem Aps.three {vs us : List Value} (h : Aps rs k vs) (hu : ∀ (j : Nat) (a : Addr) (n c : Nat), us[j]? = some (.slice (some a) n c) → 0 < n → ∀ (i : Nat) (b : Addr) r, k + 1 ≤ i → rs[i]? = some r → r.1 = some b → a.block ≠ b.block) : Aps rs (k + 1) (vs ++ us) := by
  intro i j a b n c r hj hn hi hr hb
  rw [List.getElem?_append] at hj
  split at hj
  · exact h i j a b n c r hj hn (by omega) hr hb
  · exact hu _ a n c hj hn i b r hi hr hb
/-- The row k was lengthened three times; the list of what came of it takes the three. -/
theorem more_step3 {A1 A2 A3 : Option Addr} {N1 N2 N3 c1 c2 c3 : Nat} {l1 l2 l3 : List UInt8} (hR : RowsB T base wr rs) (hk : rs[k]? = some (A, ca, l)) (hF : FamS wr v.ownBlock vs ks) (hA : Aps rs k vs) (hown : wr.ownsRow H3 e 1 v m vs)
    (hH : ∀ (i : Nat) r a, rs[i]? = some r → r.1 = some a → a.block < H3) (hle : H3 ≤ wr.heap.size)
    (hg2 : wr.grownBy w2 (A.map (·.block))) (ho2 : OwnB T base w2 A ca l)
    (s1 : Sl w2 A1 N1 c1 l1) (s2 : Sl w2 A2 N2 c2 l2) (s3 : Sl w2 A3 N3 c3 l3)
    (b1 : ∀ a, A1 = some a → A.map (·.block) = some a.block ∨ wr.heap.size ≤ a.block) (b2 : ∀ a, A2 = some a → A.map (·.block) = some a.block ∨ wr.heap.size ≤ a.block) (b3 : ∀ a, A3 = some a → A.map (·.block) = some a.block ∨ wr.heap.size ≤ a.block)
    {o : Obj} (hg3 : (w2.alloc o).grownBy w3 v.ownBlock) (hat3 : v3.ownBlock = v.ownBlock ∨ v3.ownBlock = some (w2.alloc o).heap.size) :
    RowsB T base w3 rs ∧ FamS w3 v3.ownBlock (vs ++ [.slice A1 N1 c1, .slice A2 N2 c2, .slice A3 N3 c3]) (ks ++ [l1, l2, l3]) ∧ Aps rs (k + 1) (vs ++ [.slice A1 N1 c1, .slice A2 N2 c2, .slice A3 N3 c3]) ∧ (∀ S : Nat → Prop, (∀ a, A = some a → S a.block) → (∀ b, H3 ≤ b → S b) → Chg S wr w3) := by
  have hgkl : ∀ a, A = some a → a.block < H3 := fun a ha => hH k _ a hk ha
  have hal : Below w2.heap.size w2 (w2.alloc o) := (Below.refl _ _).alloc (Nat.le_refl _) _
  have hvb : ∀ g, v.ownBlock = some g → H3 ≤ g ∧ g < wr.heap.size := fun g hg => World.ownsRow.lt hown g hg
  have hR2 : RowsB T base w2 rs := hR.grow hk hg2 ho2
  have hF2 : FamS w2 v.ownBlock vs ks := hF.chg (grown_chg hg2) fun i q a n c hq hq0 hv e' => by
    have hn : 0 < n := by
      obtain ⟨a2, c2, h1, _, _⟩ := hF.2 i q hq
      rw [hv] at h1; injection h1 with h1; injection h1 with _ h1 _; omega
    cases A with
    | none => cases e'
    | some b =>
      injection e' with e'
      exact hA k i a b n c _ hv hn (Nat.le_refl _) hk rfl e'.symm
  have hne : ∀ A' : Option Addr, (∀ a : Addr, A' = some a → A.map (·.block) = some a.block ∨ wr.heap.size ≤ a.block) → ∀ x : Addr, A' = some x → some x.block ≠ v.ownBlock := fun A' hb x hx e' => by
    have h1 := hvb _ e'.symm
    rcases hb x hx with h | h
    · cases A with
      | none => cases h
      | some b => injection h with h; have h3 : b.block < H3 := hgkl b rfl; have h4 : b.block = x.block := h; omega
    · omega
  have hF3 := ((((hF2.later hal).snoc (s1.later hal) fun _ => hne A1 b1).snoc (s2.later hal) fun _ => hne A2 b2).snoc (s3.later hal) fun _ => hne A3 b3).step hg3 hat3
  simp only [List.append_assoc, List.cons_append, List.nil_append] at hF3
  refine ⟨?_, hF3, hA.three fun j a n c hj hn i b r hi hr hb => ?_, fun S h1 h2 => ?_⟩
  · refine (hR2.later hal).chg (grown_chg hg3) fun i r hr a ha e' => ?_
    have h1 := hH i r a hr ha
    have h2 := hvb _ e'
    omega
  · have key : ∀ A' : Option Addr, (∀ a : Addr, A' = some a → A.map (·.block) = some a.block ∨ wr.heap.size ≤ a.block) → A' = some a → a.block ≠ b.block := fun A' hb' ha => by
      rcases hb' a ha with h | h
      · cases A with
        | none => cases h
        | some g =>
          injection h with h
          have := hR.2 k i _ r hk hr (by omega) g b rfl hb
          rw [← h]; exact this
      · have h1 := hH i r b hr hb
        omega
    match j, hj with
    | 0, hj => injection hj with hj; injection hj with hj _ _; exact key A1 b1 hj
    | 1, hj => injection hj with hj; injection hj with hj _ _; exact key A2 b2 hj
    | 2, hj => injection hj with hj; injection hj with hj _ _; exact key A3 b3 hj
    | j + 3, hj => simp at hj
  · have c1 : Chg S wr w2 := (grown_chg hg2).mono fun b _ e' => by
      cases A with
      | none => cases e'
      | some g => injection e' with e'; subst e'; exact h1 g rfl
    have c2 : Chg S w2 (w2.alloc o) := Below.chg0 hal
    have c3 : Chg S (w2.alloc o) w3 := (grown_chg hg3).mono fun b _ e' => h2 b (hvb b e').1
    exact (c1.trans c2).trans c3
end

theorem Chg.trans3 {S : Nat → Prop} {w x y : World} {H : Nat} (h : Chg S w x) (k : Chg (fun b => S b ∨ H ≤ b) x y) (hle : w.heap.size ≤ H) : Chg S w y :=
  ⟨k.os.trans h.os, k.tape.trans h.tape, k.output.trans h.output, Nat.le_trans h.size k.size, fun b hb hn => (k.block b (Nat.lt_of_lt_of_le hb h.size) (fun e => by rcases e with e | e; exact hn e; omega)).trans (h.block b hb hn)⟩
section
variable {P : Program} (w : World)
/-- 'append(s, x...)' in a region that draws its order; cell by cell. -/
theorem step_append_cells {ops : Array Oper} {o : Oper} {a : Act} {K : Act → World → Prop} {Q : Exit → Act → World → Prop} {E : Prop} (hgd : o.guard = none) (s x : Operand) {t e : TypeId} {bytes : Nat}
    (ho : o.op = .call { callee := .builtin .append, args := #[s, x], argTypes := #[t, t] }) (hS : SliceOf P t e 1 bytes)
    (base : Nat) (v : Value) (n : Nat) (xs : List Value) (hs : a.eval s = v) (hown : w.ownsRow base e 1 v n xs)
    (B : Nat) (A : Option Addr) (m c : Nat) (news : List Value) (hx : a.eval x = .slice A m c) (hr : Reads w B 1 A m news) (h1 : ∀ u ∈ news, u.oneCell' = true)
    (h63 : n + m ≤ maxLen) (hbytes : (n + m) * bytes ≤ 140737488355328) (hbase : base ≤ w.heap.size)
    (h : ∀ v' w', w'.ownsRow base e 1 v' (n + m) (xs ++ news) → w.grownBy w' v.ownBlock → (v'.ownBlock = v.ownBlock ∨ v'.ownBlock = some w.heap.size) → w'.ownsRow base e 1 v n xs →
      (∀ p u, w.cell? p = some u → w'.cell? p = some u ∨ (some p.block = v.ownBlock ∧ p.spot = none ∧ n ≤ p.off ∧ p.off < n + m ∧ w'.cell? p = news[p.off - n]?)) → K (a.put o.dst v') w') :
    if Region.wanted o (yielded ops a.tmps) = true then Oper.wp P o a w K Q else E := by
  have hw : Region.wanted o (yielded ops a.tmps) = true := by simp [Region.wanted, hgd]
  rw [if_pos hw]
  exact wp_append_cells w s x ho hS base v n xs hs hown B A m c news hx hr h1 h63 hbytes hbase h
end
/-- Held while a row is lengthened: a cell elsewhere, the row itself, what was there. -/
structure GC (T : TypeId) (base : Nat) (w : World) (p : Addr) (u : Value) (A : Option Addr) (c : Nat) (l : List UInt8) (x : World) : Prop where
  cell : x.cell? p = some u
  own : OwnB T base x A c l
  grown : w.grownBy x (A.map (·.block))
section
variable {T : TypeId} {base c n : Nat} {w x y : World} {p : Addr} {u : Value} {A : Option Addr} {l : List UInt8}
theorem GC.call (h : GC T base w p u A c l x) (hb : Below x.heap.size x y) : GC T base w p u A c l y := ⟨cell_below hb h.cell, h.own.later hb, grown_trans h.grown (below_grown hb _)⟩
theorem own_block (A : Option Addr) (n c : Nat) : (Value.slice A n c).ownBlock = A.map (·.block) := by cases A <;> rfl
theorem GC.app (h : GC T base w p u A c l x) (hne : A.map (·.block) ≠ some p.block) (hg : x.grownBy y (Value.slice A n c).ownBlock) (ho : OwnB T base y A c l) : GC T base w p u A c l y := by
  rw [own_block] at hg
  exact ⟨(hg.cell h.cell fun e => hne e.symm), ho, grown_trans h.grown hg⟩
theorem GC.call2 {Q : World → Prop} (hq : ∀ x y, Below x.heap.size x y → Q x → Q y) (h : x.cell? p = some u ∧ GC T base w p u A c l x ∧ Q x) (hb : Below x.heap.size x y) : y.cell? p = some u ∧ GC T base w p u A c l y ∧ Q y := ⟨cell_below hb h.1, h.2.1.call hb, hq x y hb h.2.2⟩
theorem GC.app2 {Q : World → Prop} (h : x.cell? p = some u ∧ GC T base w p u A c l x ∧ Q x) (hne : A.map (·.block) ≠ some p.block) (hg : x.grownBy y (Value.slice A n c).ownBlock) (ho : OwnB T base y A c l) (hq : Q y) : y.cell? p = some u ∧ GC T base w p u A c l y ∧ Q y := ⟨(h.2.1.app hne hg ho).cell, h.2.1.app hne hg ho, hq⟩
theorem GC.call1 (h : x.cell? p = some u ∧ GC T base w p u A c l x) (hb : Below x.heap.size x y) : y.cell? p = some u ∧ GC T base w p u A c l y := ⟨cell_below hb h.1, h.2.call hb⟩
theorem GC.app1 (h : x.cell? p = some u ∧ GC T base w p u A c l x) (hne : A.map (·.block) ≠ some p.block) (hg : x.grownBy y (Value.slice A n c).ownBlock) (ho : OwnB T base y A c l) : y.cell? p = some u ∧ GC T base w p u A c l y := ⟨(h.2.app hne hg ho).cell, h.2.app hne hg ho⟩
theorem own_len (h : OwnB T base x A c l) (hl : l.length = n) : x.ownsRow base T 1 (.slice A n c) n (u8s l) := hl ▸ h
theorem own_of_len (h : x.ownsRow base T 1 (.slice A n c) n (u8s l)) (hl : l.length = n) : OwnB T base x A c l := by subst hl; exact h
end

theorem app_marks {T : TypeId} {base L N : Nat} {w : World} {A : Option Addr} {c : Nat} {m t : UInt8} (h : w.ownsRow base T 1 (.slice A (L + N) c) (L + N) (u8s (List.replicate L m) ++ u8s (List.replicate N t))) : OwnB T base w A c (List.replicate L m ++ List.replicate N t) := by
  rw [← u8s_append] at h; exact own_of_len h (by simp)
/-- Where what was lengthened lies: in the row's block, or in one made since. -/
def Blk (w : World) (A A' : Option Addr) : Prop := ∀ x, A' = some x → A.map (·.block) = some x.block ∨ w.heap.size ≤ x.block
theorem blk_of {w : World} {A A1 : Option Addr} {n c n1 c1 H : Nat} (h : (Value.slice A1 n1 c1).ownBlock = (Value.slice A n c).ownBlock ∨ (Value.slice A1 n1 c1).ownBlock = some H) (hle : w.heap.size ≤ H) : Blk w A A1 := fun a ha => by
  subst ha
  rcases h with h | h
  · rw [own_block A] at h; exact .inl h.symm
  · injection h with h; exact .inr (by omega)
theorem blk_row {w : World} {A A' : Option Addr} (h : Blk w A A') : A'.map (·.block) = A.map (·.block) ∨ ∀ g, A'.map (·.block) = some g → w.heap.size ≤ g := by
  cases A' with
  | none => exact .inr fun g hg => by cases hg
  | some x =>
    rcases h x rfl with h | h
    · exact .inl h.symm
    · refine .inr fun g hg => ?_
      injection hg with hg
      have hg : x.block = g := hg
      omega
/-- The lengthened row takes one more; the row, and what it was lengthened to before, stand. -/
theorem grow_step {T : TypeId} {base L j ca c5 c6 N2 c2 N4 c4 : Nat} {wr x y : World} {p : Addr} {u : Value} {A A5 A6 A2 A4 : Option Addr} {m t : UInt8} (hG : GC T base wr p u A ca (List.replicate L m) x) (hO : OwnB T base x A5 c5 (List.replicate L m ++ List.replicate j t)) (hK : Blk wr A A5)
    (s2 : Sl x A2 (L + N2) c2 (List.replicate L m ++ List.replicate N2 t)) (o2 : ∀ a, A2 = some a → a.off = 0) (s4 : Sl x A4 (L + N4) c4 (List.replicate L m ++ List.replicate N4 t)) (o4 : ∀ a, A4 = some a → a.off = 0)
    (hne : A.map (·.block) ≠ some p.block) (hlt : p.block < wr.heap.size)
    (hown : y.ownsRow base T 1 (.slice A6 (L + j + 1) c6) (L + j + 1) (u8s (List.replicate L m ++ List.replicate j t) ++ u8s (List.replicate 1 t))) (hg : x.grownBy y (Value.slice A5 (L + j) c5).ownBlock)
    (hat : (Value.slice A6 (L + j + 1) c6).ownBlock = (Value.slice A5 (L + j) c5).ownBlock ∨ (Value.slice A6 (L + j + 1) c6).ownBlock = some x.heap.size) (hold : y.ownsRow base T 1 (.slice A5 (L + j) c5) (L + j) (u8s (List.replicate L m ++ List.replicate j t)))
    (hcell : ∀ p u, x.cell? p = some u → y.cell? p = some u ∨ (some p.block = (Value.slice A5 (L + j) c5).ownBlock ∧ p.spot = none ∧ L + j ≤ p.off ∧ p.off < L + j + 1 ∧ y.cell? p = (u8s (List.replicate 1 t))[p.off - (L + j)]?)) :
    OwnB T base y A6 c6 (List.replicate L m ++ List.replicate (j + 1) t) ∧ GC T base wr p u A ca (List.replicate L m) y ∧ Blk wr A A6 ∧ Sl y A2 (L + N2) c2 (List.replicate L m ++ List.replicate N2 t) ∧ Sl y A4 (L + N4) c4 (List.replicate L m ++ List.replicate N4 t) := by
  have hr := blk_row hK
  have hxs : wr.heap.size ≤ x.heap.size := hG.grown.size
  have hne' : some p.block ≠ (Value.slice A5 (L + j) c5).ownBlock := fun e => by
    rw [own_block] at e
    rcases hr with h | h
    · exact hne (h ▸ e.symm)
    · have := h _ e.symm; omega
  refine ⟨?_, ⟨hg.cell hG.cell hne', ?_, ?_⟩, fun z hz => ?_, s2.retail (by simp) o2 (by omega) hcell hg.size, s4.retail (by simp) o4 (by omega) hcell hg.size⟩
  · rw [← u8s_append, List.append_assoc, List.replicate_append_replicate] at hown
    exact own_of_len hown (by simp; omega)
  · exact own_under hG.own (own_len hO (by simp)) hg hold (by simp)
  · exact grown_keep hG.grown hg (by rw [own_block]; exact hr)
  · subst hz
    rcases hat with h | h
    · rw [own_block A5] at h
      rcases hr with h' | h'
      · exact .inl (by rw [← h', ← h]; rfl)
      · exact .inr (h' _ h.symm)
    · injection h with h; exact .inr (by omega)

end Go.Proofs.YtkkfiffgldhahaaDoor
