/-
  Families of slices apart from a row; rows that are written full. Over any program.
-/
import Derived.Test.YtkkfiffgldhahaaDoorKit6
namespace Go.Proofs.YtkkfiffgldhahaaDoor
open Go.RowKit

/-- Slices that read as the lists; none that holds something lies in the row. -/
def FamS (w : World) (row : Option Nat) (vs : List Value) (ks : List (List UInt8)) : Prop :=
  vs.length = ks.length ∧ ∀ (i : Nat) (k : List UInt8), ks[i]? = some k → ∃ (a : Option Addr) (c : Nat), vs[i]? = some (.slice a k.length c) ∧ Sl w a k.length c k ∧ (0 < k.length → ∀ x, a = some x → some x.block ≠ row)
section
variable {w x y : World} {row row' : Option Nat} {vs : List Value} {ks : List (List UInt8)} {S : Nat → Prop}
theorem FamS.nil : FamS w row [] [] := ⟨rfl, fun i k h => by simp at h⟩
theorem FamS.chg (h : FamS w row vs ks) (hc : Chg S w x) (hn : ∀ (i : Nat) (k : List UInt8) (a : Addr) (n c : Nat), ks[i]? = some k → 0 < k.length → vs[i]? = some (.slice (some a) n c) → ¬ S a.block) : FamS x row vs ks :=
  ⟨h.1, fun i k hk => by
    obtain ⟨a, c, q1, q2, q3⟩ := h.2 i k hk
    refine ⟨a, c, q1, q2.chg hc fun h0 b hb => ?_, q3⟩
    subst hb
    exact hn i k b _ c hk h0 q1⟩
theorem FamS.later (h : FamS w row vs ks) (hb : Below w.heap.size w x) : FamS x row vs ks :=
  ⟨h.1, fun i k hk => by obtain ⟨a, c, q1, q2, q3⟩ := h.2 i k hk; exact ⟨a, c, q1, q2.later hb, q3⟩⟩
theorem FamS.step (h : FamS w row vs ks) (hg : w.grownBy x row) (hr : row' = row ∨ row' = some w.heap.size) : FamS x row' vs ks :=
  ⟨h.1, fun i k hk => by
    obtain ⟨a, c, q1, q2, q3⟩ := h.2 i k hk
    refine ⟨a, c, q1, q2.apart hg q3, fun h0 z hz => ?_⟩
    rcases hr with rfl | rfl
    · exact q3 h0 z hz
    · have := q2.block_lt h0 z hz
      intro e; injection e with e; omega⟩
theorem FamS.snoc (h : FamS w row vs ks) {a : Option Addr} {c n : Nat} {k : List UInt8} (hs : Sl w a n c k) (hne : 0 < k.length → ∀ x, a = some x → some x.block ≠ row) : FamS w row (vs ++ [.slice a n c]) (ks ++ [k]) := by
  obtain rfl := hs.len
  refine ⟨by simp [h.1], fun i q hq => ?_⟩
  rw [List.getElem?_append] at hq ⊢
  rw [h.1]
  split at hq
  · rename_i hi
    rw [if_pos hi]; exact h.2 i q hq
  · rename_i hi
    rw [if_neg hi]
    have h0 : i - ks.length = 0 := by
      have := (List.getElem?_eq_some_iff.1 hq).1
      simp at this; omega
    rw [h0] at hq ⊢
    injection hq with hq; subst hq
    exact ⟨a, c, rfl, hs, hne⟩
theorem FamS.kv (h : FamS w row vs ks) : KV w w.heap.size vs ks :=
  ⟨h.1, fun i k hk => by
    obtain ⟨a, c, q1, q2, _⟩ := h.2 i k hk
    exact ⟨a, c, q1, q2.cap, q2.lim, q2.nil, q2.rb⟩⟩
theorem FamS.at_ (h : FamS w row vs ks) {i : Nat} {k : List UInt8} (hk : ks[i]? = some k) : ∃ a c, vs[i]? = some (.slice a k.length c) ∧ Sl w a k.length c k := by
  obtain ⟨a, c, q1, q2, _⟩ := h.2 i k hk
  exact ⟨a, c, q1, q2⟩
end

/-- A list written full with a mark, so far. -/
def fillTo (l : List UInt8) (m : UInt8) (k : Nat) : List UInt8 := List.replicate k m ++ l.drop k
theorem fillTo_zero (l : List UInt8) (m : UInt8) : fillTo l m 0 = l := by simp [fillTo]
theorem fillTo_len {l : List UInt8} {k : Nat} (m : UInt8) (h : k ≤ l.length) : (fillTo l m k).length = l.length := by simp [fillTo]; omega
theorem fillTo_all (l : List UInt8) (m : UInt8) : fillTo l m l.length = List.replicate l.length m := by simp [fillTo]
theorem fillTo_set {l : List UInt8} {k : Nat} (m : UInt8) (h : k < l.length) : (fillTo l m k).set k m = fillTo l m (k + 1) := by
  unfold fillTo
  rw [List.set_append_right _ _ (by simp), List.length_replicate, Nat.sub_self, List.drop_eq_getElem_cons h]
  rw [List.set_cons_zero, List.replicate_succ']
  simp
theorem rep_at (n : Nat) (m : UInt8) {k : Nat} (h : k < n) : (List.replicate n m)[k]? = some m := by simp [h]

/-- What a longer row keeps, its beginning keeps. -/
theorem own_prefix {T : TypeId} {base : Nat} {w w1 : World} {a : Addr} {c : Nat} {l : List UInt8} {v : Value} {n : Nat} {xs : List Value} (h1 : OwnB T base w (some a) c l) (h2 : w.ownsRow base T 1 v n xs) (hb : v.ownBlock = some a.block) (h3 : w1.ownsRow base T 1 v n xs) (hn : l.length ≤ n) : OwnB T base w1 (some a) c l := by
  rcases h1.2 with ⟨e, _⟩ | ⟨g, cap, cur, e, hg1, hg2, hc1, hc2, hc3, hc4⟩
  · cases e
  injection e with e0 _ e2
  injection e0 with e0
  subst e0; subst e2
  rcases h2.2 with ⟨rfl, _⟩ | ⟨g', cap', cur', rfl, k1, k2, k3, k4, k5, k6⟩
  · cases hb
  injection hb with hb
  obtain rfl : g' = g := hb
  rw [hg2] at k2
  injection k2 with k2; injection k2 with k2
  subst k2
  rcases h3.2 with ⟨e, _⟩ | ⟨g2, cap2, cur2, e, j1, j2, j3, j4, j5, j6⟩
  · cases e
  injection e with e0 _ e2
  injection e0 with e0; injection e0 with e0
  subst e0; subst e2
  refine ⟨h1.1, .inr ⟨g', c, cur2, rfl, hg1, j2, hc1, hc2, by omega, ?_⟩⟩
  rw [← hc4]
  have e1 : cur.toList.take (l.length * 1) = (cur.toList.take (n * 1)).take (l.length * 1) := by rw [List.take_take, Nat.min_eq_left (by omega)]
  have e2 : cur2.toList.take (l.length * 1) = (cur2.toList.take (n * 1)).take (l.length * 1) := by rw [List.take_take, Nat.min_eq_left (by omega)]
  rw [e1, e2, k6, j6]
/-- The same behind an append onto the longer row, or onto a row elsewhere. -/
theorem own_under {T : TypeId} {base : Nat} {w w1 : World} {A : Option Addr} {c : Nat} {l : List UInt8} {v : Value} {n : Nat} {xs : List Value} (h1 : OwnB T base w A c l) (h2 : w.ownsRow base T 1 v n xs) (hg : w.grownBy w1 v.ownBlock) (h3 : w1.ownsRow base T 1 v n xs) (hn : l.length ≤ n) : OwnB T base w1 A c l := by
  cases A with
  | none => exact own_chg h1 (grown_chg hg) fun g hg => by cases hg
  | some a =>
    by_cases hb : v.ownBlock = some a.block
    · exact own_prefix h1 h2 hb h3 hn
    · exact own_chg h1 (grown_chg hg) fun g hg' e => by
        injection hg' with hg'
        rw [e] at hb
        exact hb (by rw [hg'])

section
variable {P : Program} (w : World)
theorem wp_append_cells {o : Oper} {a : Act} {K : Act → World → Prop} {Q : Exit → Act → World → Prop} (s x : Operand) {t e : TypeId} {bytes : Nat}
    (ho : o.op = .call { callee := .builtin .append, args := #[s, x], argTypes := #[t, t] }) (hS : SliceOf P t e 1 bytes)
    (base : Nat) (v : Value) (n : Nat) (xs : List Value) (hs : a.eval s = v) (hown : w.ownsRow base e 1 v n xs)
    (B : Nat) (A : Option Addr) (m c : Nat) (news : List Value) (hx : a.eval x = .slice A m c) (hr : Reads w B 1 A m news) (h1 : ∀ u ∈ news, u.oneCell' = true)
    (h63 : n + m ≤ maxLen) (hbytes : (n + m) * bytes ≤ 140737488355328) (hbase : base ≤ w.heap.size)
    (h : ∀ v' w', w'.ownsRow base e 1 v' (n + m) (xs ++ news) → w.grownBy w' v.ownBlock → (v'.ownBlock = v.ownBlock ∨ v'.ownBlock = some w.heap.size) → w'.ownsRow base e 1 v n xs →
      (∀ p u, w.cell? p = some u → w'.cell? p = some u ∨ (some p.block = v.ownBlock ∧ p.spot = none ∧ n ≤ p.off ∧ p.off < n + m ∧ w'.cell? p = news[p.off - n]?)) → K (a.put o.dst v') w') : o.wp P a w K Q := by
  obtain ⟨v', w', hrun, h2, h3, h4, h5, h6⟩ := run_append_cells (P := P) w (ty := o.type) hS base v n xs hown B A m c news hr h1 h63 hbytes hbase
  unfold Oper.wp execOp
  simp only [ho, resolve, invoke, builtin, Sem.run_bind, Sem.run_pure, Result.andThen_ok, List.map_toArray, List.map_cons, List.map_nil, hs, hx, hrun]
  exact h v' w' h2 h3 h4 h5 h6
/-- 'append(s, x...)', s nil or of the call's own, x any slice that reads; cell by cell. -/
theorem wpList_append_cells {ops : Array Oper} {rest : List Oper} {o : Oper} {a : Act} {Q : Exit → Act → World → Prop} (hgd : o.guard = none) (s x : Operand) {t e : TypeId} {bytes : Nat}
    (ho : o.op = .call { callee := .builtin .append, args := #[s, x], argTypes := #[t, t] }) (hS : SliceOf P t e 1 bytes)
    (base : Nat) (v : Value) (n : Nat) (xs : List Value) (hs : a.eval s = v) (hown : w.ownsRow base e 1 v n xs)
    (B : Nat) (A : Option Addr) (m c : Nat) (news : List Value) (hx : a.eval x = .slice A m c) (hr : Reads w B 1 A m news) (h1 : ∀ u ∈ news, u.oneCell' = true)
    (h63 : n + m ≤ maxLen) (hbytes : (n + m) * bytes ≤ 140737488355328) (hbase : base ≤ w.heap.size)
    (h : ∀ v' w', w'.ownsRow base e 1 v' (n + m) (xs ++ news) → w.grownBy w' v.ownBlock → (v'.ownBlock = v.ownBlock ∨ v'.ownBlock = some w.heap.size) → w'.ownsRow base e 1 v n xs →
      (∀ p u, w.cell? p = some u → w'.cell? p = some u ∨ (some p.block = v.ownBlock ∧ p.spot = none ∧ n ≤ p.off ∧ p.off < n + m ∧ w'.cell? p = news[p.off - n]?)) → wpList P ops Q rest (a.put o.dst v') w') : wpList P ops Q (o :: rest) a w :=
  wpList_plain hgd fun _ hK => wp_append_cells w s x ho hS base v n xs hs hown B A m c news hx hr h1 h63 hbytes hbase fun v' w' h2 h3 h4 h5 h6 => hK _ _ (h v' w' h2 h3 h4 h5 h6)
end
theorem grown_at {H0 : Nat} {r r' row : Option Nat} {H : Nat} (h : r = row ∨ ∀ g, r = some g → H0 ≤ g) (hat : r' = r ∨ r' = some H) (hle : H0 ≤ H) : r' = row ∨ ∀ g, r' = some g → H0 ≤ g := by
  rcases hat with rfl | rfl
  · exact h
  · exact .inr fun g hg => by injection hg with hg; omega
/-- What a grown row leaves of rows elsewhere. -/
theorem grown_keep {w x y : World} {r row : Option Nat} (h : w.grownBy x row) (k : x.grownBy y r) (hr : r = row ∨ ∀ g, r = some g → w.heap.size ≤ g) : w.grownBy y row :=
  ⟨k.os.trans h.os, k.tape.trans h.tape, k.output.trans h.output, Nat.le_trans h.size k.size, fun i hi hn => (k.block i (Nat.lt_of_lt_of_le hi h.size) (fun e => by
    rcases hr with rfl | hr
    · exact hn e
    · have := hr i e.symm; omega)).trans (h.block i hi hn)⟩

end Go.Proofs.YtkkfiffgldhahaaDoor
