/-
  Laid together by merge.py: Kit33, Kit34, MemP, Kit40, Kit41, Kit42, CellR1, WireW5, WireW6, WireR1, WireW10, WireW11, WireW12, WireW3, WireW13, WireR3, WireR4, CellR2, CellR7, MemW1, Kit43.
-/
import Derived.Test.YtdaoinhkagmbdaaMq2
import Derived.Test.YtdaoinhkagmbdaaMq1
import Derived.RangeFuncNested
import Derived.RangeFuncBound
import Derived.RangeFuncCalls
import Derived.RangeFuncLeaves
import Derived.OwnWalkIn
import Derived.TacticsInMore
import Derived.LoopIn
import Derived.Shelf.Abstract
import Derived.Deep.DeepCutAuto
import Derived.Deep.QuietTactic
import Derived.BigQuiet
import Derived.Laws.OwnMore
import Derived.Deep.CutRange
import Derived.StillTailTactics
import Derived.Deep.RegionHeld3
namespace Go.Proofs.Ytdaoinhkagmbdaa
open Go.RowKit
theorem bytO_app (T : TypeId) (A : Option Addr) (c n m : Nat) (l r : List UInt8) (hn : l.length = n) (hm : r.length = m) : rowO T 1 (.slice A (n + m) c) (n + m) (u8s l ++ u8s r) = bytO T (A, c, l ++ r) := by
  subst hn; subst hm
  unfold bytO rowO
  simp [u8s]
section
variable {P : Program} {ops : Array Oper} {Q : Exit → Act → World → Prop} {K : Act → World → Prop} {rest : List Oper} {o : Oper} {a : Act} {w x : World} {os : List Ob}
theorem wpo_appB {t e : TypeId} (s y : Operand) (ho : o.op = .call { callee := .builtin .append, args := #[s, y], argTypes := #[t, t] }) (hS : SliceOf P t e 1 1) (h : OW w os x) (i : Nat) {A : Option Addr} {c n : Nat} {l : List UInt8} (hi : os[i]? = some (bytO e (A, c, l))) (hn : l.length = n) (hs : a.eval s = .slice A n c)
    (B : Nat) (A2 : Option Addr) (m c2 : Nat) (r : List UInt8) (hy : a.eval y = .slice A2 m c2) (hr : RB x B A2 m r) (hb : n + m ≤ 140737488355328)
    (hK : ∀ A' c' z, OW w (os.set i (bytO e (A', c', l ++ r))) z → x.grownBy z (Value.slice A n c).ownBlock → K (a.put o.dst (.slice A' (n + m) c')) z) : o.wp P a x K Q := by
  subst hn
  refine wpo_append s y ho hS h i (v := .slice A l.length c) (n := l.length) (cs := u8s l) hi hs B A2 m c2 (u8s r) hy hr (u8s_one r) (by unfold maxLen; omega) (by omega) fun A' c' z hz hg => hK A' c' z ?_ hg
  rw [bytO_app e A' c' _ m l r rfl hr.len] at hz
  exact hz
theorem wl_appB {t e : TypeId} (hgd : Region.wanted o (yielded ops a.tmps) = true) (s y : Operand) (ho : o.op = .call { callee := .builtin .append, args := #[s, y], argTypes := #[t, t] }) (hS : SliceOf P t e 1 1) (h : OW w os x) (i : Nat) {A : Option Addr} {c n : Nat} {l : List UInt8} (hi : os[i]? = some (bytO e (A, c, l))) (hn : l.length = n) (hs : a.eval s = .slice A n c)
    (B : Nat) (A2 : Option Addr) (m c2 : Nat) (r : List UInt8) (hy : a.eval y = .slice A2 m c2) (hr : RB x B A2 m r) (hb : n + m ≤ 140737488355328)
    (hK : ∀ A' c' z, OW w (os.set i (bytO e (A', c', l ++ r))) z → wpList P ops Q rest (a.put o.dst (.slice A' (n + m) c')) z) : wpList P ops Q (o :: rest) a x :=
  BigFrame.wpList_want hgd fun _ hk => wpo_appB s y ho hS h i hi hn hs B A2 m c2 r hy hr hb fun A' c' z hz _ => hk _ _ (hK A' c' z hz)
end
theorem OW.nilRow {w x : World} {os : List Ob} (h : OW w os x) (T : TypeId) (sz : Nat) : OW w (os ++ [rowO T sz (.slice none 0 0) 0 []]) x := h.app ⟨Below.refl _ _, fun o ho => by
  obtain rfl := List.mem_singleton.1 ho
  exact ⟨(fun e => nomatch e), fun _ => own_nil _ _ _ _⟩, List.pairwise_singleton _ _⟩
theorem OW.nilB {w x : World} {os : List Ob} (h : OW w os x) (T : TypeId) : OW w (os ++ [bytO T (none, 0, [])]) x := h.nilRow T 1
end Go.Proofs.Ytdaoinhkagmbdaa
namespace Go.Proofs.Ytdaoinhkagmbdaa
open Go.RowKit
def bytesIn (c : Nat) (l : List UInt8) (r : Obj) : Prop := ∃ cur T, r = .cells cur T (0, 0) ∧ c ≤ cur.size ∧ cur.toList.take l.length = u8s l
def clipO (A : Option Addr) (l : List UInt8) : Ob := match A with
  | none => nilO
  | some a => phiO a.block (bytesIn l.length l)
theorem bytesIn.at_ {c : Nat} {l : List UInt8} {r : Obj} {x : World} {g j : Nat} {b : UInt8} (h : bytesIn c l r) (hr : x.heap[g]? = some r) (hj : l[j]? = some b) : x.cell? ⟨g, j, none⟩ = some (u8v b) := by
  obtain ⟨cur, T, rfl, _, h2⟩ := h
  have hlt : j < l.length := (List.getElem?_eq_some_iff.1 hj).1
  have h3 : (cur.toList.take l.length)[j]? = (u8s l)[j]? := by rw [h2]
  rw [List.getElem?_take_of_lt hlt, u8s_at hj] at h3
  simp [World.cell?, hr]
  simpa [u8v] using h3
def CAt (A : Option Addr) (l : List UInt8) : Prop := (A = none ∧ l = []) ∨ ∃ g, A = some ⟨g, 0, none⟩
section
variable {w x : World} {os : List Ob} {i c n : Nat} {T : TypeId} {A : Option Addr} {l : List UInt8}
theorem cat_of (h : OW w os x) (hi : os[i]? = some (bytO T (A, c, l))) : CAt A l := by
  have h1 := h.byt hi
  rcases h1.2 with ⟨hv, h0⟩ | ⟨g, cap, cur, hv, _⟩
  · injection hv with hv
    exact .inl ⟨hv, List.eq_nil_of_length_eq_zero h0⟩
  · injection hv with hv
    exact .inr ⟨g, hv⟩
theorem OW.clip (h : OW w os x) (hi : os[i]? = some (bytO T (A, c, l))) : OW w (os.set i (clipO A l)) x := by
  have h1 := h.byt hi
  refine h.upd hi (Chg.refl (fun _ => False) x) (fun _ _ e => e.elim) ?_ fun b hb => .inl ?_
  · rcases cat_of h hi with ⟨rfl, rfl⟩ | ⟨g, rfl⟩
    · exact ⟨(fun e => nomatch e), fun _ => own_nil _ _ _ _⟩
    · obtain ⟨hl, h2⟩ := h1
      rcases h2 with ⟨hv, _⟩ | ⟨g', cap, cur, hv, h2, h3, h4, _, h5, h6⟩
      · cases hv
      injection hv with hv hv2 hv3
      injection hv with hv; injection hv with hv
      subst hv
      exact Ob.at_mkr rfl ⟨g, _, rfl, h2, h3, cur, _, rfl, by rw [h5]; omega, by rw [Nat.mul_one] at h6; exact h6⟩
  · rcases cat_of h hi with ⟨rfl, rfl⟩ | ⟨g, rfl⟩
    · cases hb
    · exact hb
theorem OW.clipSl (h : OW w os x) (hc : CAt A l) (hi : os[i]? = some (clipO A l)) (hn : l.length = n) (hm : n ≤ 9223372036854775807) : Sl x A n n l := by
  subst hn
  rcases hc with ⟨rfl, rfl⟩ | ⟨g, rfl⟩
  · exact Sl.none _
  · obtain ⟨k, r, h1, h2, h3, h4⟩ := (h.get (show os[i]? = some (phiO g (bytesIn l.length l)) from hi)).some_ rfl
    injection h1 with h1; injection h1 with h1; injection h1 with h1
    subst h1
    refine ⟨RB.mk' rfl fun _ => ⟨g, 0, rfl, (Array.getElem?_eq_some_iff.1 h3).1, fun j c hj => ?_⟩, Nat.le_refl _, hm, fun e => by cases e⟩
    rw [Nat.zero_add]
    exact h4.at_ h3 hj
theorem OW.clipSlm (h : OW w os x) (hc : CAt A l) (hi : clipO A l ∈ os) (hn : l.length = n) (hm : n ≤ 9223372036854775807) : Sl x A n n l := by
  obtain ⟨i, hi⟩ := List.getElem?_of_mem hi
  exact h.clipSl hc hi hn hm
end
theorem results_rowL {P : Program} {fn : Func} {p : Tmp} {ty : TypeId} (h : fn.results = #[.cell p ty]) (tmps : Array Value) (w : World) (g : Nat) (cs : List Value)
    (hp : tmps.getD p undef = .pointer (some ⟨g, 0, none⟩)) (hc : w.rangeAt g 0 cs)
    (ha : (P.underlying ty).map (fun d => match d with | .struct _ | .array _ _ => true | _ => false) = some true) (hi : (P.info? ty).map (·.size) = some cs.length) :
    (results fn tmps).run P w = .ok (.agg cs.toArray) w :=
  results_box0 h tmps w g cs.toArray hp (fun j v hv => by have := hc j v (by simpa using hv); rwa [Nat.zero_add] at this) ha (by simpa using hi)
theorem results_rowL1 {P : Program} {fn : Func} {p t : Tmp} {ty : TypeId} (h : fn.results = #[.cell p ty, .tmp t]) (tmps : Array Value) (w : World) (g : Nat) (cs : List Value)
    (hp : tmps.getD p undef = .pointer (some ⟨g, 0, none⟩)) (hc : w.rangeAt g 0 cs)
    (ha : (P.underlying ty).map (fun d => match d with | .struct _ | .array _ _ => true | _ => false) = some true) (hi : (P.info? ty).map (·.size) = some cs.length) :
    (results fn tmps).run P w = .ok (.tuple #[.agg cs.toArray, tmps.getD t undef]) w :=
  results_box1 h tmps w g cs.toArray hp (fun j v hv => by have := hc j v (by simpa using hv); rwa [Nat.zero_add] at this) ha (by simpa using hi)
end Go.Proofs.Ytdaoinhkagmbdaa
namespace Go.Proofs.Ytdaoinhkagmbdaa
open Go.RowKit
theorem twN_stop {α : Type} {p : α → Bool} {A B : List α} {a : α} (h : p a = false) : twN p (A ++ a :: B) = twN p A := by
  induction A with
  | nil => unfold twN; simp [h]
  | cons x A ih =>
    unfold twN at ih ⊢
    rw [List.cons_append, List.takeWhile_cons, List.takeWhile_cons]
    split
    · rw [List.length_cons, List.length_cons, ih]
    · rfl
theorem twN_all {α : Type} {p : α → Bool} {A B : List α} (h : ∀ x, x ∈ A → p x = true) : twN p (A ++ B) = A.length + twN p B := by
  induction A with
  | nil => simp [twN]
  | cons x A ih =>
    unfold twN at ih ⊢
    rw [List.cons_append, List.takeWhile_cons, if_pos (h x (by simp)), List.length_cons, ih fun y hy => h y (by simp [hy]), List.length_cons]
    omega
section
variable {A B : List Ent} {a e : Ent}
theorem ins_lt (h : cmpE e a < 0) : insN (A ++ a :: B) e = insN A e ∧ hitB (A ++ a :: B) e = hitB A e := by
  have hs := ord_E.swap e a
  have h1 : insN (A ++ a :: B) e = insN A e := twN_stop (by simp; omega)
  refine ⟨h1, ?_⟩
  unfold hitB
  rw [h1]
  have hle : insN A e ≤ A.length := twN_le _ _
  rcases Nat.lt_or_ge (insN A e) A.length with h2 | h2
  · rw [List.getElem?_append_left h2]
  · have h3 : insN A e = A.length := by omega
    rw [h3, List.getElem?_append_right (Nat.le_refl _), Nat.sub_self, List.getElem?_eq_none (Nat.le_refl _)]
    show (cmpE a e == 0) = false
    exact beq_eq_false_iff_ne.2 (by omega)
theorem asc_below (hA : AscE (A ++ a :: B)) : ∀ x, x ∈ A → cmpE x a < 0 := fun x hx => (List.pairwise_append.1 hA).2.2 x hx a (by simp)
theorem ins_gt (hA : AscE (A ++ a :: B)) (h : 0 < cmpE e a) : insN (A ++ a :: B) e = A.length + 1 + insN B e ∧ hitB (A ++ a :: B) e = hitB B e := by
  have hs := ord_E.swap e a
  have h1 : insN (A ++ a :: B) e = A.length + 1 + insN B e := by
    have e1 : A ++ a :: B = (A ++ [a]) ++ B := by simp
    unfold insN
    rw [e1, twN_all fun x hx => ?_]
    · simp
    · rcases List.mem_append.1 hx with hx | hx
      · have := cmpE_lt_trans (asc_below hA x hx) (show cmpE a e < 0 by omega)
        simpa using this
      · rw [List.mem_singleton.1 hx]; simp; omega
  refine ⟨h1, ?_⟩
  unfold hitB
  rw [h1, List.getElem?_append_right (by omega), show A.length + 1 + insN B e - A.length = insN B e + 1 from by omega, List.getElem?_cons_succ]
theorem ins_eq (hA : AscE (A ++ a :: B)) (h : cmpE e a = 0) : hitB (A ++ a :: B) e = true := by
  have hs := ord_E.swap e a
  have hx : ∀ x, x ∈ A → cmpE x e < 0 := fun x hx => by
    have h1 := asc_below hA x hx
    have h2 := ord_E.eq e a x h
    have h3 := ord_E.swap x e
    have h4 := ord_E.swap x a
    omega
  have h1 : insN (A ++ a :: B) e = A.length := by
    unfold insN
    rw [twN_all fun x hx' => by simpa using hx x hx']
    have : twN (fun x => decide (cmpE x e < 0)) (a :: B) = 0 := by unfold twN; rw [List.takeWhile_cons, if_neg (by simp; omega)]; rfl
    omega
  unfold hitB
  rw [h1, List.getElem?_append_right (Nat.le_refl _), Nat.sub_self]
  show (cmpE a e == 0) = true
  exact beq_iff_eq.2 (by omega)
end
inductive Tr where
  | nil : Tr
  | node (g : Nat) (r : ER) (h : Nat) (l q : Tr) : Tr
def Tr.adr : Tr → Option Addr
  | .nil => none
  | .node g _ _ _ _ => some ⟨g, 0, none⟩
def Tr.ptr (t : Tr) : Value := .pointer t.adr
def Tr.tall : Tr → Nat
  | .nil => 0
  | .node _ _ h _ _ => h
def Tr.list : Tr → List ER
  | .nil => []
  | .node _ r _ l q => l.list ++ r :: q.list
def nodeC (r : ER) (l q : Tr) (h : Nat) : List Value := [.slice r.A r.e.row.length r.c, .int .i64 r.e.fam, .slice r.B r.e.qual.length r.d, .int .i64 r.e.ts, .int .i64 r.e.seq, .int .i64 r.e.kind, .slice r.D r.e.val.length r.q, l.ptr, q.ptr, .int .i64 (h : Nat)]
def Tr.obs : Tr → List Ob
  | .nil => []
  | .node g r h l q => boxO g (nodeC r l q h) :: (l.obs ++ q.obs)
def Tr.ok : Tr → Prop
  | .nil => True
  | .node _ _ h l q => h = 1 + max l.tall q.tall ∧ l.ok ∧ q.ok
def Tr.ents (t : Tr) : List Ent := t.list.map ER.e
def TrM (os : List Ob) (t : Tr) : Prop := ∀ o, o ∈ t.obs → o ∈ os
theorem TrM.more {os os' : List Ob} {t : Tr} (h : TrM os t) (hs : ∀ o, o ∈ os → o ∈ os') : TrM os' t := fun o ho => hs o (h o ho)
theorem TrM.left {os : List Ob} {g : Nat} {r : ER} {h : Nat} {l q : Tr} (k : TrM os (.node g r h l q)) : boxO g (nodeC r l q h) ∈ os ∧ TrM os l ∧ TrM os q :=
  ⟨k _ (List.mem_cons_self ..), fun o ho => k o (List.mem_cons_of_mem _ (List.mem_append_left _ ho)), fun o ho => k o (List.mem_cons_of_mem _ (List.mem_append_right _ ho))⟩
theorem TrM.mk {os : List Ob} {g : Nat} {r : ER} {h : Nat} {l q : Tr} (h1 : boxO g (nodeC r l q h) ∈ os) (h2 : TrM os l) (h3 : TrM os q) : TrM os (.node g r h l q) := fun o ho => by
  rcases List.mem_cons.1 ho with rfl | ho
  · exact h1
  · rcases List.mem_append.1 ho with ho | ho
    · exact h2 o ho
    · exact h3 o ho
theorem Tr.tall_le : ∀ {t : Tr}, t.ok → t.tall ≤ t.list.length
  | .nil, _ => Nat.le_refl _
  | .node g r h l q, ⟨h1, h2, h3⟩ => by
    have := Tr.tall_le h2
    have := Tr.tall_le h3
    show h ≤ (l.list ++ r :: q.list).length
    rw [List.length_append, List.length_cons]; omega
theorem Tr.tall_pos {t : Tr} (h : t.ok) (ht : 0 < t.tall) : ∃ g r k l q, t = .node g r k l q := by
  cases t with
  | nil => exact absurd ht (by decide)
  | node g r k l q => exact ⟨g, r, k, l, q, rfl⟩
structure EClip (os : List Ob) (r : ER) : Prop where
  c : r.c = r.e.row.length
  d : r.d = r.e.qual.length
  q : r.q = r.e.val.length
  a : CAt r.A r.e.row
  b : CAt r.B r.e.qual
  v : CAt r.D r.e.val
  ma : clipO r.A r.e.row ∈ os
  mb : clipO r.B r.e.qual ∈ os
  mv : clipO r.D r.e.val ∈ os
  lens : r.e.row.length ≤ 140737488355000 ∧ r.e.qual.length ≤ 140737488355000 ∧ r.e.val.length ≤ 140737488355000
theorem EClip.more {os os' : List Ob} {r : ER} (h : EClip os r) (hs : ∀ o, o ∈ os → o ∈ os') : EClip os' r := ⟨h.c, h.d, h.q, h.a, h.b, h.v, hs _ h.ma, hs _ h.mb, hs _ h.mv, h.lens⟩
theorem EClip.en {os : List Ob} {r : ER} {w x : World} (h : EClip os r) (k : OW w os x) : r.En x := by
  obtain ⟨h1, h2, h3⟩ := h.lens
  unfold ER.En
  rw [h.c, h.d, h.q]
  exact ⟨k.clipSlm h.a h.ma rfl (by omega), k.clipSlm h.b h.mb rfl (by omega), k.clipSlm h.v h.mv rfl (by omega)⟩
structure Tb (os : List Ob) (t : Tr) : Prop where
  m : TrM os t
  ok : t.ok
  asc : AscE t.ents
  chk : ∀ e, e ∈ t.ents → checkE e = 0
  en : ∀ r, r ∈ t.list → EClip os r
theorem Tb.nil (os : List Ob) : Tb os .nil := ⟨fun o h => (by cases h), trivial, List.Pairwise.nil, fun e h => (by cases h), fun r h => (by cases h)⟩
theorem Tb.more {os os' : List Ob} {t : Tr} (h : Tb os t) (hs : ∀ o, o ∈ os → o ∈ os') : Tb os' t := ⟨h.m.more hs, h.ok, h.asc, h.chk, fun r hr => (h.en r hr).more hs⟩
def insR (m : List ER) (r : ER) : List ER := m.take (insN (m.map ER.e) r.e) ++ r :: m.drop (insN (m.map ER.e) r.e)
theorem insR_ents {m : List ER} {r : ER} (h : hitB (m.map ER.e) r.e = false) : (insR m r).map ER.e = insE (m.map ER.e) r.e := by
  unfold insR insE
  rw [if_neg (by rw [h]; exact Bool.noConfusion), List.map_append, List.map_cons, List.map_take, List.map_drop]
theorem insR_mem {m : List ER} {r x : ER} (h : x ∈ insR m r) : x = r ∨ x ∈ m := by
  unfold insR at h
  rcases List.mem_append.1 h with h | h
  · exact .inr (List.mem_of_mem_take h)
  · rcases List.mem_cons.1 h with h | h
    · exact .inl h
    · exact .inr (List.mem_of_mem_drop h)
theorem insR_lt {A B : List ER} {a r : ER} (h : cmpE r.e a.e < 0) : insR (A ++ a :: B) r = insR A r ++ a :: B := by
  have h1 := (ins_lt (A := A.map ER.e) (B := B.map ER.e) h).1
  have hle : insN (A.map ER.e) r.e ≤ A.length := by have := twN_le (fun x => decide (cmpE x r.e < 0)) (A.map ER.e); rwa [List.length_map] at this
  unfold insR
  rw [List.map_append, List.map_cons, h1, List.take_append_of_le_length hle, List.drop_append_of_le_length hle, List.append_assoc]; rfl
theorem insR_gt {A B : List ER} {a r : ER} (hA : AscE ((A ++ a :: B).map ER.e)) (h : 0 < cmpE r.e a.e) : insR (A ++ a :: B) r = A ++ a :: insR B r := by
  rw [List.map_append, List.map_cons] at hA
  have h1 := (ins_gt hA h).1
  unfold insR
  rw [List.map_append, List.map_cons, h1, List.length_map]
  have e1 : A ++ a :: B = (A ++ [a]) ++ B := by simp
  have hl : (A ++ [a]).length = A.length + 1 := by simp
  rw [e1, List.take_append, List.drop_append, hl, List.take_of_length_le (by omega), List.drop_of_length_le (by omega), show A.length + 1 + insN (B.map ER.e) r.e - (A.length + 1) = insN (B.map ER.e) r.e from by omega]
  simp
end Go.Proofs.Ytdaoinhkagmbdaa
namespace Go.Proofs.Ytdaoinhkagmbdaa
open Go.RowKit
abbrev FW (ro : Option Nat) : Fence := { Fence.wide with round := ro }
theorem rowsIn_wide {n : Nat} {P : Program} {row : String} {args : Array Value} {w : World} {R : Value → World → Prop} (h : Rows P row args w R) : RowsIn Fence.wide n P row args w R :=
  fun c cs _ => let ⟨v, w', r, s⟩ := h c cs; ⟨v, w', r, stepsIn_wide.2 s⟩
theorem callsIn_fw {ro : Option Nat} {n : Nat} {P : Program} {f : FuncId} {args : Array Value} {w : World} {R : Ending → World → Prop} (h : Calls P f args w R) : CallsIn (FW ro) n P f args w R :=
  (callsIn_wide (n := n)).2 h
section
variable {P : Program} {ro : Option Nat} {n : Nat} {o : Oper} {a : Act} {w : World} {K K' : Act → World → Prop} {Q : Exit → Act → World → Prop}
theorem upon_in {r : Result Next} (hK : ∀ a w, K a w → K' a w) (h : o.upon P a K Q r) : o.uponIn (FW ro) n P a K' Q r := by
  unfold Oper.upon at h
  split at h
  · exact hK _ _ h
  · exact hK _ _ h
  · exact hK _ _ h
  · refine ⟨(fun e => nomatch e), (callsIn_fw h).mono fun e w' h => ?_⟩
    cases e with
    | returned v => exact hK _ _ h
    | panicked chain => exact h
    | outgrown => exact h
  · exact ⟨(fun e => nomatch e), RowsIn.mono (rowsIn_wide h) fun v w' h => hK _ _ h⟩
  · exact h
  · exact h.elim
theorem wp_in (hd : ∀ c, o.op ≠ .defer c) (hK : ∀ a w, K a w → K' a w) (h : o.wp P a w K Q) : o.wpIn (FW ro) n P a w K' Q :=
  ⟨fun _ _ => trivial, by rw [Oper.semAt_plain _ _ _ hd]; exact upon_in hK h⟩
def noDef (l : List Oper) : Bool := l.all fun o => match o.op with
  | .defer _ => false
  | _ => true
theorem noDef_at {l : List Oper} (h : noDef l = true) (ho : o ∈ l) (c : Call) : o.op ≠ .defer c := fun e => by
  have h1 := List.all_eq_true.1 h o ho
  rw [e] at h1; cases h1
def qIn (F : Fence) (n : Nat) (P : Program) (ops : Array Oper) (Q : Exit → Act → World → Prop) (rest : List Oper) : Exit → Act → World → Prop
  | .normal, a, w => wpListIn F n P ops Q rest a w
  | .outgrown, _, _ => False
  | .exit id, a, w => Q (.exit id) a w
  | .goto l, a, w => Q (.goto l) a w
  | .ret, a, w => Q .ret a w
  | .panic c, a, w => Q (.panic c) a w
theorem upon_q {F : Fence} {ops : Array Oper} {rest : List Oper} {r : Result Next} (h : o.upon P a K (qIn F n P ops Q rest) r) : o.upon P a K Q r := by
  unfold Oper.upon at h ⊢
  split at h
  · exact h
  · exact h
  · exact h
  · refine Calls.mono h fun e w' h => ?_
    cases e with
    | returned v => exact h
    | panicked chain => exact h
    | outgrown => obtain ⟨_, _, h⟩ := h; exact h.elim
  · exact h
  · exact h
  · exact h.elim
theorem wlIn_one {ops : Array Oper} {rest : List Oper} (hd : noDef [o] = true) (h : wpList P ops (qIn (FW ro) n P ops Q rest) [o] a w) : wpListIn (FW ro) n P ops Q (o :: rest) a w := by
  unfold wpList at h
  unfold wpListIn
  split
  · rename_i hw
    rw [if_pos hw] at h
    rcases h with h | ⟨_, a', w', h⟩
    · exact wp_in (noDef_at hd (List.mem_cons_self ..)) (fun a w h => h) (upon_q h)
    · exact h.elim
  · rename_i hw
    rw [if_neg hw] at h
    exact ⟨(fun _ _ => trivial), h⟩
theorem wlIn_back {F : Fence} {ops : Array Oper} {rest : List Oper} (h : wpListIn F n P ops Q rest a w) : wpList P ops (qIn F n P ops Q rest) [] a w := h
theorem wpOpsIn_of {ops : Array Oper} (hQ : ∀ a w, ¬ Q .outgrown a w) (hd : noDef ops.toList = true) : ∀ (l : List Nat) (a : Act) (w : World), wpOps P ops Q l a w → wpOpsIn (FW ro) n P ops Q l a w
  | [], _, _, h => h
  | i :: l, a, w, h => by
    unfold wpOps at h
    unfold wpOpsIn
    cases ho : ops[i]? with
    | none => rw [ho] at h; exact wpOpsIn_of hQ hd l a w h
    | some o =>
      rw [ho] at h
      simp only [] at h ⊢
      split
      · rename_i hw
        rw [if_pos hw] at h
        rcases h with h | ⟨_, a', w', h⟩
        · exact wp_in (noDef_at hd (Array.mem_toList_iff.2 (Array.mem_of_getElem? ho))) (fun a w => wpOpsIn_of hQ hd l a w) h
        · exact (hQ _ _ h).elim
      · rename_i hw
        rw [if_neg hw] at h
        exact ⟨(fun _ _ => trivial), wpOpsIn_of hQ hd l _ _ h⟩
theorem lt_startIn {id : Nat} {l : List Oper} (F : List Nat) (hm : P.follows .mixedOrders = true) (hd : noDef l = true) (hQ : ∀ a w, ¬ Q .outgrown a w) (h : ∀ z, Below w.heap.size w z → ∃ S, wpAnyT P l.toArray Q F S l.length (Array.replicate l.length false) a z) : (Code.region id l.toArray true).wpIn (FW ro) n P Q a w := by
  obtain ⟨S, h⟩ := h w.drew (Below.refl _ _).drew
  refine wpIn_region_draw fun t => wpOpsIn_of hQ (by simpa using hd) _ _ _ ?_
  simp only [Region.schedule, hm, Bool.true_or, if_true]
  exact wpAny_sound _ t _ a _ (wpAny_of_T _ _ _ _ (by simpa using h))
end
section
variable {w x y : World} {os : List Ob} {i k : Nat} {r : Obj}
theorem OW.rawh (h : OW w os x) (hi : os[i]? = some (rawO k r)) : w.heap.size ≤ k ∧ x.heap[k]? = some r := by
  obtain ⟨k', r', h1, h2, h3, rfl⟩ := (h.get hi).some_ rfl
  injection h1 with h1; injection h1 with h1; injection h1 with h1
  subst h1; exact ⟨h2, h3⟩
theorem chg_putObj (x : World) (k : Nat) (o : Obj) : Chg (fun b => b = k) x (x.putObj k o) :=
  ⟨rfl, rfl, rfl, by rw [World.putObj_size]; exact Nat.le_refl _, fun j _ hne => World.putObj_heap_other hne⟩
theorem OW.putRaw (h : OW w os x) (hi : os[i]? = some (rawO k r)) (r' : Obj) : OW w (os.set i (rawO k r')) (x.putObj k r') := by
  obtain ⟨h1, h2⟩ := h.rawh hi
  exact h.upd hi (chg_putObj x k r') (fun b _ e => by subst e; rfl) (Ob.at_mkr rfl ⟨k, r', rfl, h1, World.putObj_heap_same (Array.getElem?_eq_some_iff.1 h2).1, rfl⟩) fun b hb => .inl hb
theorem OW.raw1 (x : World) (r : Obj) : OW x [rawO x.heap.size r] (x.alloc r) :=
  ⟨(Below.refl _ _).alloc (Nat.le_refl _) _, fun o ho => by
    obtain rfl := List.mem_singleton.1 ho
    exact Ob.at_mkr rfl ⟨x.heap.size, r, rfl, Nat.le_refl _, World.alloc_heap_new x r, rfl⟩, List.pairwise_singleton _ _⟩
theorem getE_app {α : Type} (os : List α) (a : α) (ds : List α) : (os ++ a :: ds)[os.length]? = some a := by
  rw [List.getElem?_append_right (Nat.le_refl _), Nat.sub_self]; rfl
theorem setE_app {α : Type} (os : List α) (a b : α) (ds : List α) : (os ++ a :: ds).set os.length b = os ++ b :: ds := by
  rw [List.set_append_right _ _ (Nat.le_refl _), Nat.sub_self]; rfl
theorem OW.putRawE {ds : List Ob} (h : OW w (os ++ rawO k r :: ds) x) (r' : Obj) : OW w (os ++ rawO k r' :: ds) (x.putObj k r') := by
  have := h.putRaw (getE_app os _ ds) r'
  rwa [setE_app] at this
theorem OW.rawE {ds : List Ob} (h : OW w (os ++ rawO k r :: ds) x) : x.heap[k]? = some r := (h.rawh (getE_app os _ ds)).2
theorem OW.dropE {ds : List Ob} {o : Ob} (h : OW w (os ++ o :: ds) x) : OW w (os ++ ds) x :=
  h.sub (List.Sublist.append (List.Sublist.refl _) (List.sublist_cons_self _ _))
end
section
variable {α : Type} {P : Program}
def mkRec (fn : FuncId) (tmps : Array Value) (ps : Array Tmp) (assign body : Code) (D : Nat) (st : LoopState) (pe : Option Code) : Loop :=
  { state := st, pending := pe, fn, tmps, params := ps, assign, body, defers := D }
def rPost (w : World) (p : List Ob) (I : List α → List Ob → Prop) (Ix : Code → List α → List Ob → Prop) (xs : List α) : Exit → Act → World → Prop
  | .normal, _, z => ∃ os, I xs os ∧ OW w (os ++ p) z
  | .ret, _, z => ∃ os, Ix .ret xs os ∧ OW w (os ++ p) z
  | .exit id, _, z => ∃ os, Ix (.exit id) xs os ∧ OW w (os ++ p) z
  | .goto t, _, z => ∃ os, Ix (.goto t) xs os ∧ OW w (os ++ p) z
  | .panic _, _, _ => False
  | .outgrown, _, _ => False
def setP (tmps : Array Value) (ps : Array Tmp) (vs : Array Value) : Array Value := (ps.zip vs).foldl (fun t (p, v) => t.setIfInBounds p v) tmps
theorem setP1 (tmps : Array Value) (p : Tmp) (v : Value) : setP tmps #[p] #[v] = tmps.setIfInBounds p v := by simp [setP]
def RoundOK (P : Program) (w : World) (l : Nat) (assign body : Code) (I : List α → List Ob → Prop) (Ix : Code → List α → List Ob → Prop) (tmps : Array Value) (p1 p2 : List Ob) (pre : List α) (x : α) (W1 : World) (vs : Array Value) (ps : Array Tmp) : Prop :=
  assign.wpIn (FW (some l)) 9 P (Exit.then (fun a1 z => ∃ os2, OW w (os2 ++ p1) z ∧ ∀ z2, OW w (os2 ++ p2) z2 → body.wpIn (FW (some l)) 9 P (rPost w p2 I Ix (pre ++ [x])) a1 z2) fun _ _ _ => False)
    { tmps := setP tmps ps vs, defers := [] } W1
def markD (D : Nat) : Deferred := { target := .collected D, args := #[] }
def dfrO (D : Nat) : Ob := rawO D (.deferred (some []))
def bodyQ (P : Program) (fn : Func) (R : Ending → World → Prop) : Exit → Act → World → Prop
  | .normal, a, w | .ret, a, w => LeavesInM Fence.wide 0 P fn a.tmps R a.defers .returning w
  | _, _, _ => False
theorem calls_marks {f : FuncId} {fn : Func} {c : Code} {args : Array Value} {w : World} {R : Ending → World → Prop} (hf : P.funcs[f]? = some fn) (hb : fn.body = some c)
    (h : c.wp P (bodyQ P fn R) { tmps := args ++ Array.replicate (fn.ntmps - args.size) undef, defers := [] } w) : Calls P f args w R :=
  (callsIn_wide (n := 0)).1 (callsIn_of_wp_marks hf hb trivial (wpIn_wide.2 (wp_mono h fun e a w hq => by
    cases e with
    | normal => exact hq
    | ret => exact hq
    | exit id => exact hq.elim
    | goto l => exact hq.elim
    | panic ch => exact hq.elim
    | outgrown => exact hq.elim)) rfl)
theorem leaves_mark {fn : Func} {tmps : Array Value} {R : Ending → World → Prop} {D : Nat} {ds : List Deferred} {z : World} {w : World} {os es : List Ob} (h : OW w (os ++ dfrO D :: es) z)
    (hk : ∀ z', OW w (os ++ es) z' → LeavesInM Fence.wide 0 P fn tmps R ds .returning z') : LeavesInM Fence.wide 0 P fn tmps R (markD D :: ds) .returning z :=
  ⟨(fun e => nomatch e), .inl ⟨D, _, rfl, run_takeDeferred h.rawE, hk _ (h.putRawE _).dropE⟩⟩
theorem results_cell1 {fn : Func} {p : Tmp} {ty : TypeId} (h : fn.results = #[.cell p ty]) (tmps : Array Value) (w : World) (g : Nat) (v : Value) (hp : tmps.getD p undef = .pointer (some ⟨g, 0, none⟩)) (hc : w.cell? ⟨g, 0, none⟩ = some v) (ha : ∀ w, (isAgg ty).run P w = .ok false w) : (results fn tmps).run P w = .ok v w := by
  have hp' : tmps[p]?.getD undef = .pointer (some ⟨g, 0, none⟩) := by simpa using hp
  simp [results, h, hp', asAddr, loadVar, Sem.run_bind, ha w]
  simp [go_sem, hc]
theorem leaves0 {fn : Func} {tmps : Array Value} {R : Ending → World → Prop} {v : Value} {z : World} (h : (results fn tmps).run P z = .ok v z) (hR : R (.returned v) z) : LeavesInM Fence.wide 0 P fn tmps R [] .returning z := ⟨v, h, hR⟩
theorem wl_cell1 {ops : Array Oper} {Q : Exit → Act → World → Prop} {rest : List Oper} {o : Oper} {a : Act} {x : World} (hgd : Region.wanted o (yielded ops a.tmps) = true) {t : TypeId} (p y : Operand) (ho : o.op = .store t p y) {g j : Nat} (hx : a.eval p = .pointer (some ⟨g, j, none⟩)) {u : Value} (hc : x.cell? ⟨g, j, none⟩ = some u) (hf : x.frozen? ⟨g, j, none⟩ = false) (v : Value) (hy : a.eval y = v) (ht : (P.info? t).map (·.size) = some 1) (h1 : v.oneCell' = true)
    (hK : wpList P ops Q rest (a.put o.dst undef) (x.setCell ⟨g, j, none⟩ v)) : wpList P ops Q (o :: rest) a x := by
  refine BigFrame.wpList_want hgd fun _ hk => ?_
  unfold Oper.wp execOp
  simp only [ho, hx, hy, Instr.storeAt, Instr.sureAddr, Sem.run_bind, Sem.run_pure, Result.andThen_ok, run_storeVar_one x g j t v (by rw [hc]; rfl) hf h1 ht]
  exact hk _ _ hK
structure RBox (w x1 : World) (g : Nat) (u : Value) : Prop where
  up : Below w.heap.size w x1
  lo : w.heap.size ≤ g
  hi : g < x1.heap.size
  cell : x1.cell? ⟨g, 0, none⟩ = some u
  fz : x1.frozen? ⟨g, 0, none⟩ = false
theorem RBox.of {w x1 : World} {g : Nat} {u : Value} (h : OW w [boxO g [u]] x1) : RBox w x1 g u := by
  obtain ⟨h1, h2, _, h4⟩ := h.box (i := 0) rfl
  exact ⟨h.up, h1, h2, h.cell (i := 0) (j := 0) rfl rfl, h4 0⟩
theorem RBox.cell' {w x1 z : World} {g : Nat} {u : Value} (h : RBox w x1 g u) (hz : Below x1.heap.size x1 z) : z.cell? ⟨g, 0, none⟩ = some u := (hz.cell (p := ⟨g, 0, none⟩) h.hi).trans h.cell
theorem RBox.fz' {w x1 z : World} {g : Nat} {u : Value} (h : RBox w x1 g u) (hz : Below x1.heap.size x1 z) : z.frozen? ⟨g, 0, none⟩ = false := (World.frozen?_of_block (hz.block g h.hi)).trans h.fz
theorem RBox.up' {w x1 z : World} {g : Nat} {u : Value} (h : RBox w x1 g u) (hz : Below x1.heap.size x1 z) (v : Value) : Below w.heap.size w (z.setCell ⟨g, 0, none⟩ v) :=
  (h.up.trans (hz.mono h.up.size)).setCell (p := ⟨g, 0, none⟩) h.lo v
theorem RBox.got {w x1 z : World} {g : Nat} {u : Value} (h : RBox w x1 g u) (hz : Below x1.heap.size x1 z) (v : Value) : (z.setCell ⟨g, 0, none⟩ v).cell? ⟨g, 0, none⟩ = some v := World.cell?_setCell_same _ _ _ (h.cell' hz)
theorem RBox.mark {w x1 z : World} {g D : Nat} {u : Value} {os es : List Ob} (h : RBox w x1 g u) (hz : OW x1 (os ++ dfrO D :: es) z) (v : Value) {fn : Func} {tmps : Array Value} {R : Ending → World → Prop} {p : Tmp} {ty : TypeId} (hr : fn.results = #[.cell p ty]) (hp : tmps.getD p undef = .pointer (some ⟨g, 0, none⟩)) (ha : ∀ w, (isAgg ty).run P w = .ok false w)
    (hR : ∀ z', Below w.heap.size w z' → R (.returned v) z') : LeavesInM Fence.wide 0 P fn tmps R [markD D] .returning (z.setCell ⟨g, 0, none⟩ v) := by
  obtain ⟨hD, hd⟩ := hz.rawh (getE_app os _ es)
  have hne : g ≠ D := by have := h.hi; omega
  have hd' : (z.setCell ⟨g, 0, none⟩ v).heap[D]? = some (.deferred (some [])) := (Below.heap_setCell _ _ _ _ (fun e => hne e.symm)).trans hd
  refine ⟨(fun e => nomatch e), .inl ⟨D, _, rfl, run_takeDeferred hd', leaves0 (results_cell1 hr _ _ g v hp ?_ ha) (hR _ ?_)⟩⟩
  · exact (World.cell?_of_block (World.putObj_heap_other hne)).trans (h.got hz.up v)
  · exact (h.up' hz.up v).trans ((chg_putObj _ D _).below (h.up' hz.up v).size fun k _ e => by
      subst e; have := h.lo; have := h.hi; omega)
end
end Go.Proofs.Ytdaoinhkagmbdaa
namespace Go.Proofs.Ytdaoinhkagmbdaa
open Go.RowKit
def fillIn (c N : Nat) (m : UInt8) (r : Obj) : Prop := ∃ cur T, r = .cells cur T (0, 0) ∧ c ≤ cur.size ∧ N ≤ c ∧ c ≤ maxLen ∧ ∀ j, j < N → cur[j]? = some (u8v m)
def fillO (g c N : Nat) (m : UInt8) : Ob := ⟨true, 0, c, .pointer (some ⟨g, 0, none⟩), N, [u8v m], some (fillIn c N m)⟩
theorem fillO_inj {g c N g' c' N' : Nat} {m m' : UInt8} (h : fillO g c N m = fillO g' c' N' m') : g = g' ∧ c = c' ∧ N = N' ∧ m = m' := by
  unfold fillO at h
  injection h with _ _ h1 h2 h3 h4 _
  injection h2 with h2; injection h2 with h2; injection h2 with h2
  injection h4 with h4
  unfold u8v at h4
  injection h4 with _ h4
  exact ⟨h2, h1, h3, UInt8.toNat_inj.1 (by omega)⟩
def Marked (ks : List Ob) (A : Option Addr) (n cap : Nat) (m : UInt8) : Prop := (A = none ∧ n = 0 ∧ cap = 0) ∨ ∃ g c N, A = some ⟨g, 0, none⟩ ∧ n ≤ N ∧ n ≤ cap ∧ cap ≤ c ∧ fillO g c N m ∈ ks
def LeM (ks ks' : List Ob) : Prop := ∀ A n cap m, Marked ks A n cap m → Marked ks' A n cap m
theorem LeM.refl (ks : List Ob) : LeM ks ks := fun _ _ _ _ h => h
theorem LeM.trans {a b c : List Ob} (h : LeM a b) (k : LeM b c) : LeM a c := fun A n cap m hm => k A n cap m (h A n cap m hm)
theorem LeM.sub {a b : List Ob} (h : ∀ o, o ∈ a → o ∈ b) : LeM a b := fun A n cap m hm => by
  rcases hm with hm | ⟨g, c, N, h1, h2, h3, h4, h5⟩
  · exact .inl hm
  · exact .inr ⟨g, c, N, h1, h2, h3, h4, h _ h5⟩
theorem Marked.sub {ks : List Ob} {A : Option Addr} {n n' cap : Nat} {m : UInt8} (h : Marked ks A n cap m) (hn : n' ≤ n) : Marked ks A n' cap m := by
  rcases h with ⟨h1, h2, h3⟩ | ⟨g, c, N, h1, h2, h3, h4, h5⟩
  · exact .inl ⟨h1, by omega, h3⟩
  · exact .inr ⟨g, c, N, h1, by omega, by omega, h4, h5⟩
section
variable {w x : World} {os ks : List Ob} {g c N i : Nat} {m : UInt8}
theorem OW.fill (h : OW w os x) (hm : fillO g c N m ∈ os) : ∃ r, w.heap.size ≤ g ∧ x.heap[g]? = some r ∧ fillIn c N m r := by
  obtain ⟨i, hi⟩ := List.getElem?_of_mem hm
  obtain ⟨k, r, h1, h2, h3, h4⟩ := (h.get hi).some_ rfl
  injection h1 with h1; injection h1 with h1; injection h1 with h1
  subst h1; exact ⟨r, h2, h3, h4⟩
theorem fillIn.cell {r : Obj} (h : fillIn c N m r) (hr : x.heap[g]? = some r) {j : Nat} (hj : j < N) : x.cell? ⟨g, j, none⟩ = some (u8v m) := by
  obtain ⟨cur, T, rfl, _, _, _, h4⟩ := h
  have := h4 j hj
  simp [World.cell?, hr, this]
theorem fillIn.there {r : Obj} (h : fillIn c N m r) (hr : x.heap[g]? = some r) {j : Nat} (hj : j < c) : (x.cell? ⟨g, j, none⟩).isSome = true ∧ x.frozen? ⟨g, j, none⟩ = false := by
  obtain ⟨cur, T, rfl, h1, _, _, _⟩ := h
  refine ⟨?_, ?_⟩
  · have : j < cur.size := by omega
    simp [World.cell?, hr, this]
  · simp [World.frozen?, hr]
theorem OW.marked {A : Option Addr} {n cap : Nat} (h : OW w os x) (hm : Marked os A n cap m) : Sl x A n cap (List.replicate n m) := by
  rcases hm with ⟨rfl, rfl, rfl⟩ | ⟨g, c, N, rfl, h1, h2, h3, h4⟩
  · exact Sl.none _
  · obtain ⟨r, h5, h6, h7⟩ := h.fill h4
    have hc : c ≤ maxLen := by obtain ⟨_, _, _, _, _, h8, _⟩ := h7; exact h8
    unfold maxLen at hc
    refine ⟨RB.mk' List.length_replicate fun _ => ⟨g, 0, rfl, (Array.getElem?_eq_some_iff.1 h6).1, fun j b hj => ?_⟩, h2, by omega, fun e => nomatch e⟩
    obtain ⟨hjl, rfl⟩ := List.getElem?_eq_some_iff.1 hj
    rw [List.length_replicate] at hjl
    rw [Nat.zero_add, List.getElem_replicate]
    exact h7.cell h6 (by omega)
theorem setCell_heap {cur : Array Value} {T : TypeId} {fr : Nat × Nat} (hg : x.heap[g]? = some (.cells cur T fr)) (j : Nat) (v : Value) : (x.setCell ⟨g, j, none⟩ v).heap[g]? = some (.cells (cur.setIfInBounds j v) T fr) := by
  unfold World.setCell
  have hlt := (Array.getElem?_eq_some_iff.1 hg).1
  have he := (Array.getElem?_eq_some_iff.1 hg).2
  simp [Array.getElem?_modify, hg]
theorem setCells_heap : ∀ (vs : List Value) (o : Nat) (x : World) (cur : Array Value) (T : TypeId) (fr : Nat × Nat), x.heap[g]? = some (.cells cur T fr) → ∃ cur', (x.setCells g o vs).heap[g]? = some (.cells cur' T fr) ∧ cur'.size = cur.size ∧
    (∀ j, j < o → cur'[j]? = cur[j]?) ∧ (∀ j, o + vs.length ≤ j → cur'[j]? = cur[j]?) ∧ ∀ j, j < vs.length → o + j < cur.size → cur'[o + j]? = vs[j]?
  | [], o, x, cur, T, fr, h => ⟨cur, h, rfl, fun _ _ => rfl, fun _ _ => rfl, fun j hj => absurd hj (Nat.not_lt_zero _)⟩
  | v :: vs, o, x, cur, T, fr, h => by
    obtain ⟨cur', h1, h2, h3, h4, h5⟩ := setCells_heap vs (o + 1) (x.setCell ⟨g, o, none⟩ v) _ T fr (setCell_heap h o v)
    refine ⟨cur', h1, by rw [h2]; simp, fun j hj => ?_, fun j hj => ?_, fun j hj hl => ?_⟩
    · rw [h3 j (by omega), Array.getElem?_setIfInBounds_ne (by omega)]
    · rw [List.length_cons] at hj
      rw [h4 j (by omega), Array.getElem?_setIfInBounds_ne (by omega)]
    · cases j with
      | zero =>
        rw [Nat.add_zero] at hl ⊢
        rw [h3 o (by omega)]
        simp [hl]
      | succ j =>
        rw [List.length_cons] at hj
        have := h5 j (by omega) (by simp; omega)
        rw [show o + (j + 1) = o + 1 + j from by omega, this]; rfl
theorem OW.fillSet {y : World} {r' : Obj} {c' N' : Nat} {m' : UInt8} (h : OW w os x) (hi : os[i]? = some (fillO g c N m)) (hc : Chg (fun b => b = g) x y) (hr : y.heap[g]? = some r') (hφ : fillIn c' N' m' r') : OW w (os.set i (fillO g c' N' m')) y := by
  obtain ⟨k, r0, h1, h2, h3, _⟩ := (h.get hi).some_ rfl
  injection h1 with h1; injection h1 with h1; injection h1 with h1
  subst h1
  exact h.upd hi hc (fun b _ e => by subst e; rfl) (Ob.at_mkr rfl ⟨g, r', rfl, h2, hr, hφ⟩) fun b hb => .inl hb
theorem fill1 {y : World} {e : TypeId} {v' : Value} {k : Nat} (hb : Below x.heap.size x y) (h : y.ownsRow x.heap.size e 1 v' k (u8s (List.replicate k m))) (hk : 0 < k) : ∃ g c', v' = .slice (some ⟨g, 0, none⟩) k c' ∧ k ≤ c' ∧ OW x [fillO g c' k m] y := by
  rcases h.2 with ⟨_, h0⟩ | ⟨g, cap, cur, rfl, h2, h3, h4, h5, h6, h7⟩
  · omega
  refine ⟨g, cap, rfl, h4, hb, fun o ho => ?_, List.pairwise_singleton _ _⟩
  obtain rfl := List.mem_singleton.1 ho
  refine Ob.at_mkr rfl ⟨g, _, rfl, h2, h3, cur, _, rfl, by omega, h4, h5, fun j hj => ?_⟩
  rw [Nat.mul_one] at h7
  have h8 : (cur.toList.take k)[j]? = (u8s (List.replicate k m))[j]? := by rw [h7]
  rw [List.getElem?_take_of_lt hj, u8s_at (show (List.replicate k m)[j]? = some m by simp [hj])] at h8
  simpa [u8v] using h8
theorem marked_new {k c' : Nat} {ks : List Ob} (hc : k ≤ c') : LeM ks (ks ++ [fillO g c' k m]) ∧ Marked (ks ++ [fillO g c' k m]) (some ⟨g, 0, none⟩) k c' m :=
  ⟨LeM.sub fun _ ho => List.mem_append_left _ ho, .inr ⟨g, c', k, rfl, Nat.le_refl _, hc, Nat.le_refl _, List.mem_append_right _ (List.mem_singleton.2 rfl)⟩⟩
theorem marked_more {ks : List Ob} {i c N N' : Nat} (hi : ks[i]? = some (fillO g c N m)) (hN : N ≤ N') : LeM ks (ks.set i (fillO g c N' m)) := fun A n cap m' hm => by
  rcases hm with hm | ⟨g', c', M, h1, h2, h3, h4, h5⟩
  · exact .inl hm
  · obtain ⟨j, hj⟩ := List.getElem?_of_mem h5
    have hil := (List.getElem?_eq_some_iff.1 hi).1
    by_cases hji : i = j
    · subst hji
      rw [hi] at hj
      injection hj with hj
      obtain ⟨rfl, rfl, rfl, rfl⟩ := fillO_inj hj
      exact .inr ⟨g, c, N', h1, by omega, h3, h4, List.mem_of_getElem? (List.getElem?_set_self hil)⟩
    · exact .inr ⟨g', c', M, h1, h2, h3, h4, List.mem_of_getElem? (by rw [List.getElem?_set_ne hji]; exact hj)⟩
theorem setE_mem {α : Type} {os ks : List α} {i : Nat} {b : α} : (os ++ ks).set (os.length + i) b = os ++ ks.set i b := by
  rw [List.set_append_right _ _ (by omega), Nat.add_sub_cancel_left]
end
section
variable {P : Program} {Q : Exit → Act → World → Prop} {K : Act → World → Prop} {o : Oper} {a : Act} {w x : World} {os ks : List Ob} {m : UInt8}
theorem wpo_appM {t e : TypeId} (s y : Operand) (ho : o.op = .call { callee := .builtin .append, args := #[s, y], argTypes := #[t, t] }) (hS : SliceOf P t e 1 1) (h : OW w (os ++ ks) x) {A : Option Addr} {n cap : Nat} (hm : Marked ks A n cap m) (hs : a.eval s = .slice A n cap)
    (A2 : Option Addr) (k c2 : Nat) (hy : a.eval y = .slice A2 k c2) (hr : RB x x.heap.size A2 k (List.replicate k m)) (hk : 0 < k) (hb : n + k ≤ 140737488355328)
    (hK : ∀ A' c' ks' z, OW w (os ++ ks') z → LeM ks ks' → Marked ks' A' (n + k) c' m → K (a.put o.dst (.slice A' (n + k) c')) z) : o.wp P a x K Q := by
  have hrd := hr
  obtain ⟨b2, o2, rfl, hb2, hc2⟩ := hr.2 hk
  have hone : ∀ u ∈ u8s (List.replicate k m), u.oneCell' = true := fun u hu => by
    obtain ⟨c, _, rfl⟩ := List.mem_map.1 hu; rfl
  have hul : (u8s (List.replicate k m)).length = k := by rw [u8s_length, List.length_replicate]
  rcases hm with ⟨rfl, rfl, rfl⟩ | ⟨g, c, N, rfl, h1, h2, h3, h4⟩
  · refine wp_append_reads x s y ho hS x.heap.size (.slice none 0 0) 0 [] hs (own_nil _ _ _ _) x.heap.size _ k c2 _ hy hrd hone (by unfold maxLen; omega) (by omega) (Nat.le_refl _) fun v' w' g1 g2 _ => ?_
    rw [List.nil_append, Nat.zero_add] at g1
    have hbl : Below x.heap.size x w' := below_grown_none g2
    obtain ⟨g', c', rfl, g4, g5⟩ := fill1 hbl g1 hk
    have hm := marked_new (g := g') (m := m) (ks := ks) g4
    have := hK (some ⟨g', 0, none⟩) c' (ks ++ [fillO g' c' k m]) w' (by rw [← List.append_assoc]; exact h.app g5) hm.1 (by rw [Nat.zero_add]; exact hm.2)
    rwa [Nat.zero_add] at this
  · obtain ⟨ht, ⟨i, z, hi, hz, hsz, hby, hzs⟩, _⟩ := hS
    obtain ⟨r, f1, f2, f3⟩ := h.fill (List.mem_append_right _ h4)
    by_cases hroom : n + k ≤ cap
    · have hrun := run_append_room_cells (P := P) x t o.type e i ht hi g 0 n cap ⟨b2, o2, none⟩ k c2 (u8s (List.replicate k m)) (by rw [hul, hsz, Nat.mul_one]) (fun j u hu => by rw [Addr.add_lit]; exact hc2 j u hu) hone hroom
        (fun j hj => by rw [hul] at hj; rw [hsz, Nat.mul_one, Nat.zero_add]; exact (f3.there f2 (by omega)).1) (fun j hj => by rw [hul] at hj; rw [hsz, Nat.mul_one, Nat.zero_add]; exact (f3.there f2 (by omega)).2)
      rw [hsz, Nat.mul_one, Nat.zero_add] at hrun
      obtain ⟨cur, T, rfl, q1, q2, q3, q4⟩ := f3
      obtain ⟨cur', p1, p2, p3, p4, p5⟩ := setCells_heap (u8s (List.replicate k m)) n x cur T (0, 0) f2
      obtain ⟨j, hj⟩ := List.getElem?_of_mem h4
      have hfl : fillIn c (max N (n + k)) m (.cells cur' T (0, 0)) := ⟨cur', T, rfl, by omega, by omega, q3, fun j hj => by
        by_cases g1 : j < n
        · rw [p3 j g1]; exact q4 j (by omega)
        · by_cases g2 : j < n + k
          · have h9 := p5 (j - n) (by rw [hul]; omega) (by omega)
            rw [show n + (j - n) = j from by omega] at h9
            rw [h9]; exact u8s_at (show (List.replicate k m)[j - n]? = some m by rw [List.getElem?_replicate, if_pos (by omega)])
          · rw [p4 j (by rw [hul]; omega)]; exact q4 j (by omega)⟩
      have hset := h.fillSet (i := os.length + j) (by rw [List.getElem?_append_right (by omega), Nat.add_sub_cancel_left]; exact hj) (setCells_chg g (u8s (List.replicate k m)) n x) p1 hfl
      rw [setE_mem] at hset
      have hle := marked_more (m := m) hj (Nat.le_max_left N (n + k))
      unfold Oper.wp execOp
      simp only [ho, resolve, invoke, builtin, Sem.run_bind, Sem.run_pure, Result.andThen_ok, List.map_toArray, List.map_cons, List.map_nil, hs, hy, hrun]
      exact hK (some ⟨g, 0, none⟩) cap _ _ hset hle (.inr ⟨g, c, max N (n + k), rfl, Nat.le_max_right _ _, hroom, h3, List.mem_of_getElem? (List.getElem?_set_self (List.getElem?_eq_some_iff.1 hj).1)⟩)
    · obtain ⟨v', w', hrun, g1, g2⟩ := run_append_arg_grows (P := P) x t o.type e i z 1 1 ht hi hz hsz hby hzs (by omega) ⟨g, 0, none⟩ n cap (u8s (List.replicate n m)) (by rw [u8s_length, List.length_replicate, Nat.mul_one]) (fun j u hu => by
          have hjl : j < n := by have h9 := (List.getElem?_eq_some_iff.1 hu).1; rwa [u8s_length, List.length_replicate] at h9
          rw [u8s_at (show (List.replicate n m)[j]? = some m by simp [hjl])] at hu
          injection hu with hu; subst hu
          rw [Addr.add_lit, Nat.zero_add]; exact f3.cell f2 (by omega))
        ⟨b2, o2, none⟩ k c2 (u8s (List.replicate k m)) (by rw [hul, Nat.mul_one]) (fun j u hu => by rw [Addr.add_lit]; exact hc2 j u hu) (by omega) (by unfold maxLen; omega) (by omega)
      have e1 : u8s (List.replicate n m) ++ u8s (List.replicate k m) = u8s (List.replicate (n + k) m) := by rw [← u8s_append, List.replicate_append_replicate]
      rw [e1] at g1
      obtain ⟨g', c', rfl, g4, g5⟩ := fill1 (below_grown_none g2) g1 (by omega)
      have hmn := marked_new (g := g') (m := m) (ks := ks) g4
      unfold Oper.wp execOp
      simp only [ho, resolve, invoke, builtin, Sem.run_bind, Sem.run_pure, Result.andThen_ok, List.map_toArray, List.map_cons, List.map_nil, hs, hy, hrun]
      exact hK _ c' _ w' (by rw [← List.append_assoc]; exact h.app g5) hmn.1 hmn.2
theorem wl_appM {ops : Array Oper} {rest : List Oper} {t e : TypeId} (hgd : Region.wanted o (yielded ops a.tmps) = true) (s y : Operand) (ho : o.op = .call { callee := .builtin .append, args := #[s, y], argTypes := #[t, t] }) (hS : SliceOf P t e 1 1) (h : OW w (os ++ ks) x) {A : Option Addr} {n cap : Nat} (hm : Marked ks A n cap m) (hs : a.eval s = .slice A n cap)
    (A2 : Option Addr) (k c2 : Nat) (hy : a.eval y = .slice A2 k c2) (hr : RB x x.heap.size A2 k (List.replicate k m)) (hk : 0 < k) (hb : n + k ≤ 140737488355328)
    (hK : ∀ A' c' ks' z, OW w (os ++ ks') z → LeM ks ks' → Marked ks' A' (n + k) c' m → wpList P ops Q rest (a.put o.dst (.slice A' (n + k) c')) z) : wpList P ops Q (o :: rest) a x :=
  BigFrame.wpList_want hgd fun _ hk' => wpo_appM s y ho hS h hm hs A2 k c2 hy hr hk hb fun A' c' ks' z h1 h2 h3 => hk' _ _ (hK A' c' ks' z h1 h2 h3)
theorem wl_storeM {ops : Array Oper} {rest : List Oper} (hgd : Region.wanted o (yielded ops a.tmps) = true) {t : TypeId} (p y : Operand) (ho : o.op = .store t p y) {g c j : Nat} (h : OW w (os ++ fillO g c j m :: ks) x) (hj : j < c) (hx : a.eval p = .pointer (some ⟨g, j, none⟩)) (hy : a.eval y = u8v m) (ht : (P.info? t).map (·.size) = some 1)
    (hK : ∀ z, OW w (os ++ fillO g c (j + 1) m :: ks) z → wpList P ops Q rest (a.put o.dst undef) z) : wpList P ops Q (o :: rest) a x := by
  obtain ⟨r, f1, f2, f3⟩ := h.fill (List.mem_append_right _ (List.mem_cons_self ..))
  have h5 := f3.there f2 hj
  obtain ⟨u, hu⟩ := Option.isSome_iff_exists.1 h5.1
  refine wl_cell1 hgd p y ho hx hu h5.2 (u8v m) hy ht rfl ?_
  obtain ⟨cur, T, rfl, q1, q2, q3, q4⟩ := f3
  refine hK _ ?_
  have := h.fillSet (i := os.length) (getE_app _ _ _) (Chg.setCell x ⟨g, j, none⟩ (u8v m)) (setCell_heap f2 j (u8v m)) (show fillIn c (j + 1) m _ from ⟨_, T, rfl, by rw [Array.size_setIfInBounds]; exact q1, by omega, q3, fun i hi => by
    by_cases e : i = j
    · subst e; simp [show i < cur.size by omega]
    · rw [Array.getElem?_setIfInBounds_ne (fun h => e h.symm)]; exact q4 i (by omega)⟩)
  rwa [setE_app] at this
end
def SlB (o : Ob) (A : Option Addr) (n cap : Nat) : Prop := ∀ (w x : World) (os : List Ob) (i : Nat), OW w os x → os[i]? = some o → ∀ m, ∃ o', OW w (os.set i o') x ∧ ((A = none ∧ n = 0 ∧ cap = 0) ∨ ∃ g c, A = some ⟨g, 0, none⟩ ∧ n ≤ cap ∧ cap ≤ c ∧ o' = fillO g c 0 m)
theorem set_self' {α : Type} {os : List α} {i : Nat} {a : α} (h : os[i]? = some a) : os.set i a = os := by
  refine List.ext_getElem? fun j => ?_
  by_cases e : i = j
  · subst e; rw [List.getElem?_set_self (List.getElem?_eq_some_iff.1 h).1, h]
  · rw [List.getElem?_set_ne e]
theorem slB_byt (T : TypeId) (A : Option Addr) (c : Nat) (l : List UInt8) : SlB (bytO T (A, c, l)) A l.length c := fun w x os i h hi m => by
  have h1 := h.byt hi
  rcases h1.2 with ⟨hv, h0⟩ | ⟨g, cap, cur, hv, h2, h3, h4, h5, h6, _⟩
  · injection hv with hv hv2 hv3
    exact ⟨_, by rw [set_self' hi]; exact h, .inl ⟨hv, h0, hv3⟩⟩
  · injection hv with hv hv2 hv3
    subst hv; subst hv3
    refine ⟨fillO g c 0 m, ?_, .inr ⟨g, c, rfl, h4, Nat.le_refl _, rfl⟩⟩
    exact h.upd hi (Chg.refl (fun _ => False) x) (fun _ _ e => e.elim) (Ob.at_mkr rfl ⟨g, _, rfl, h2, h3, cur, T, rfl, by omega, by omega, h5, fun j hj => absurd hj (Nat.not_lt_zero _)⟩) fun b hb => .inl hb
theorem slB_clip {A : Option Addr} {l : List UInt8} (hc : CAt A l) (hn : l.length ≤ 9223372036854775807) : SlB (clipO A l) A l.length l.length := fun w x os i h hi m => by
  rcases hc with ⟨rfl, rfl⟩ | ⟨g, rfl⟩
  · exact ⟨_, by rw [set_self' hi]; exact h, .inl ⟨rfl, rfl, rfl⟩⟩
  · obtain ⟨k, r, h1, h2, h3, cur, T, rfl, h4, _⟩ := (h.get (show os[i]? = some (phiO g (bytesIn l.length l)) from hi)).some_ rfl
    injection h1 with h1; injection h1 with h1; injection h1 with h1
    subst h1
    refine ⟨fillO g l.length 0 m, ?_, .inr ⟨g, l.length, rfl, Nat.le_refl _, Nat.le_refl _, rfl⟩⟩
    exact h.upd hi (Chg.refl (fun _ => False) x) (fun _ _ e => e.elim) (Ob.at_mkr rfl ⟨g, _, rfl, h2, h3, cur, T, rfl, h4, Nat.zero_le _, by unfold maxLen; exact hn, fun j hj => absurd hj (Nat.not_lt_zero _)⟩) fun b hb => .inl hb
section
variable {P : Program} {Q : Exit → Act → World → Prop} {F : List Nat} {S : World → Prop} {l : List Oper} {listed : Array Bool} {fuel : Nat} {a : Act} {w : World}
theorem lt_two (i j : Nat) {oi oj : Oper} (hi : l[i]? = some oi) (hj : l[j]? = some oj) (hr : Region.ready .any l.toArray listed = [i, j]) (wi : Region.wanted oi (yielded l.toArray a.tmps) = true) (wj : Region.wanted oj (yielded l.toArray a.tmps) = true)
    (h1 : oi.wp P a w (fun a' w' => (finB F (listed.setIfInBounds i true) = false → S w') ∧ wpAnyT P l.toArray Q F S fuel (listed.setIfInBounds i true) a' w') Q)
    (h2 : oj.wp P a w (fun a' w' => (finB F (listed.setIfInBounds j true) = false → S w') ∧ wpAnyT P l.toArray Q F S fuel (listed.setIfInBounds j true) a' w') Q) : wpAnyT P l.toArray Q F S (fuel + 1) listed a w := by
  refine ⟨fun h0 => ?_, fun k hk => ?_⟩
  · rw [hr] at h0; cases h0
  rw [hr] at hk
  have hk' : k = i ∨ k = j := by simpa using hk
  rcases hk' with rfl | rfl
  · unfold wpOp
    rw [lx_at hi]
    simp only [wi, if_true]
    exact .inl h1
  · unfold wpOp
    rw [lx_at hj]
    simp only [wj, if_true]
    exact .inl h2
end
end Go.Proofs.Ytdaoinhkagmbdaa
namespace Go.Proofs.Ytdaoinhkagmbdaa
open Go.RowKit
noncomputable def cntO {α : Type} (a : α) (l : List α) : Nat := @List.count α (@instBEqOfDecidableEq α (fun a b => Classical.propDecidable (a = b))) a l
noncomputable def cnt1 {α : Type} (a x : α) : Nat := cntO a [x]
theorem cntO_app {α : Type} (a : α) (l m : List α) : cntO a (l ++ m) = cntO a l + cntO a m := by
  letI : DecidableEq α := fun a b => Classical.propDecidable (a = b)
  exact List.count_append
theorem cntO_cons {α : Type} (a x : α) (l : List α) : cntO a (x :: l) = cnt1 a x + cntO a l := by
  unfold cnt1
  rw [← cntO_app]; rfl
theorem cntO_nil {α : Type} (a : α) : cntO a [] = 0 := by
  letI : DecidableEq α := fun a b => Classical.propDecidable (a = b)
  exact List.count_nil
theorem perm_of_cnt {α : Type} {l m : List α} (h : ∀ a, cntO a l = cntO a m) : l.Perm m := by
  letI : DecidableEq α := fun a b => Classical.propDecidable (a = b)
  exact List.perm_iff_count.2 fun a => h a
section
variable {P : Program} {Q : Exit → Act → World → Prop} {F : List Nat} {S : World → Prop} {l : List Oper} {listed : Array Bool} {fuel : Nat} {a : Act} {w : World}
theorem lt_three (i j k : Nat) {oi oj ok : Oper} (hi : l[i]? = some oi) (hj : l[j]? = some oj) (hk : l[k]? = some ok) (hr : Region.ready .any l.toArray listed = [i, j, k]) (wi : Region.wanted oi (yielded l.toArray a.tmps) = true) (wj : Region.wanted oj (yielded l.toArray a.tmps) = true) (wk : Region.wanted ok (yielded l.toArray a.tmps) = true)
    (h1 : oi.wp P a w (fun a' w' => (finB F (listed.setIfInBounds i true) = false → S w') ∧ wpAnyT P l.toArray Q F S fuel (listed.setIfInBounds i true) a' w') Q)
    (h2 : oj.wp P a w (fun a' w' => (finB F (listed.setIfInBounds j true) = false → S w') ∧ wpAnyT P l.toArray Q F S fuel (listed.setIfInBounds j true) a' w') Q)
    (h3 : ok.wp P a w (fun a' w' => (finB F (listed.setIfInBounds k true) = false → S w') ∧ wpAnyT P l.toArray Q F S fuel (listed.setIfInBounds k true) a' w') Q) : wpAnyT P l.toArray Q F S (fuel + 1) listed a w := by
  refine ⟨fun h0 => ?_, fun m hm => ?_⟩
  · rw [hr] at h0; cases h0
  rw [hr] at hm
  have hm' : m = i ∨ m = j ∨ m = k := by simpa using hm
  rcases hm' with rfl | rfl | rfl
  · unfold wpOp
    rw [lx_at hi]
    simp only [wi, if_true]
    exact .inl h1
  · unfold wpOp
    rw [lx_at hj]
    simp only [wj, if_true]
    exact .inl h2
  · unfold wpOp
    rw [lx_at hk]
    simp only [wk, if_true]
    exact .inl h3
theorem wp_callL {o : Oper} {K : Act → World → Prop} {f : FuncId} {xs : List Operand} {ats : Array TypeId} (ho : o.op = .call { callee := .value (.func f), args := xs.toArray, argTypes := ats }) (hf : GoFn P f) (vals : List Value) (hv : xs.map a.eval = vals)
    (hc : Calls P f vals.toArray w fun e w' => ∃ v, e = .returned v ∧ K (a.put o.dst v) w') : o.wp P a w K Q := wp_call_go ho hf vals.toArray (by rw [List.map_toArray, hv]) hc
end
end Go.Proofs.Ytdaoinhkagmbdaa
namespace Go.Proofs.Ytdaoinhkagmbdaa
open Go.RowKit
set_option maxRecDepth 100000 in
set_option maxHeartbeats 1000000 in
theorem rOut_any (n lo hi : Int) (w : World) : Calls Try.prog 48 #[.int .i64 n, .int .i64 lo, .int .i64 hi] w fun e w' => e = .returned (.bool (outI n lo hi)) ∧ w = w' := by
  unfold outI
  by_cases h : n < lo
  · have hd : decide (n < lo) = true := decide_eq_true h
    go_enter Try.func48, Try.ntmps48
    go_wp2
    go_ret
    exact ⟨by simp [hd], rfl⟩
  · have hd : decide (n < lo) = false := decide_eq_false h
    go_enter Try.func48, Try.ntmps48
    go_wp2
    go_ret
    exact ⟨by simp, rfl⟩
set_option maxRecDepth 100000 in
set_option maxHeartbeats 4000000 in
theorem rCheck_any (A : Option Addr) (n c : Nat) (f : Int) (B : Option Addr) (m d : Nat) (t s k : Int) (D : Option Addr) (v q : Nat) (w : World) :
    Calls Try.prog 23 #[.agg #[.slice A n c, .int .i64 f, .slice B m d, .int .i64 t, .int .i64 s, .int .i64 k, .slice D v q]] w fun e w' => e = .returned (.int .i64 (checkN n f m t s k v)) ∧ Below w.heap.size w w' := by
  have HB : Hid (∀ o, Below w.heap.size w (w.alloc o)) := Lib.hid fun o => (Below.refl _ w).alloc (Nat.le_refl _) o
  go_enter Try.func23, Try.ntmps23
  by_cases h0 : outI n 1 256 = true
  · have o0 := Lib.hid (outI_pos h0)
    go_wp2_with (go_at_call 48; refine (rOut_any _ _ _ _).mono ?_; rintro e w' ⟨rfl, rfl⟩)
    go_ret
    refine ⟨?_, HB.out _⟩
    clear HB
    have HZ : checkN n f m t s k v = 20 := by
      simp only [hid_iff] at *
      unfold checkN
      (repeat' split) <;> first | rfl | omega
    rw [HZ]; rfl
  have p0 := Lib.hid (outI_no (outI_neg h0))
  replace h0 := outI_neg h0
  by_cases h1 : outI f 0 7 = true
  · have o1 := Lib.hid (outI_pos h1)
    go_wp2_with (go_at_call 48; refine (rOut_any _ _ _ _).mono ?_; rintro e w' ⟨rfl, rfl⟩)
    go_ret
    refine ⟨?_, HB.out _⟩
    clear HB
    have HZ : checkN n f m t s k v = 21 := by
      simp only [hid_iff] at *
      unfold checkN
      (repeat' split) <;> first | rfl | omega
    rw [HZ]; rfl
  have p1 := Lib.hid (outI_no (outI_neg h1))
  replace h1 := outI_neg h1
  by_cases h2 : 256 < m
  · have d1 : decide ((256 : Int) < (m : Int)) = true := decide_eq_true (by omega)
    have d1n : decide (256 < m) = true := decide_eq_true h2
    go_wp2_with (go_at_call 48; refine (rOut_any _ _ _ _).mono ?_; rintro e w' ⟨rfl, rfl⟩)
    go_ret
    refine ⟨?_, HB.out _⟩
    clear HB
    have HZ : checkN n f m t s k v = 22 := by
      simp only [hid_iff] at *
      unfold checkN
      (repeat' split) <;> first | rfl | omega
    rw [HZ]; rfl
  have da2 : decide ((256 : Int) < (m : Int)) = false := decide_eq_false (by omega)
  have db2 : decide (256 < m) = false := decide_eq_false h2
  by_cases k2 : k = 5
  · have e2 : (k == 5) = true := by simpa using k2
    replace k2 := Lib.hid k2
    by_cases l2 : 0 < m
    · have d1 : decide ((0 : Int) < (m : Int)) = true := decide_eq_true (by omega)
      have d1n : decide (0 < m) = true := decide_eq_true l2
      go_wp2_with (go_at_call 48; refine (rOut_any _ _ _ _).mono ?_; rintro e w' ⟨rfl, rfl⟩)
      go_ret
      refine ⟨?_, HB.out _⟩
      clear HB
      have HZ : checkN n f m t s k v = 22 := by
        simp only [hid_iff] at *
        unfold checkN
        (repeat' split) <;> first | rfl | omega
      rw [HZ]; rfl
    have dc2 : decide ((0 : Int) < (m : Int)) = false := decide_eq_false (by omega)
    have dd2 : decide (0 < m) = false := decide_eq_false l2
    by_cases h3 : outI t 1 1099511627776 = true
    · have o3 := Lib.hid (outI_pos h3)
      go_wp2_with (go_at_call 48; refine (rOut_any _ _ _ _).mono ?_; rintro e w' ⟨rfl, rfl⟩)
      go_ret
      refine ⟨?_, HB.out _⟩
      clear HB
      have HZ : checkN n f m t s k v = 23 := by
        simp only [hid_iff] at *
        unfold checkN
        (repeat' split) <;> first | rfl | omega
      rw [HZ]; rfl
    have p3 := Lib.hid (outI_no (outI_neg h3))
    replace h3 := outI_neg h3
    by_cases h4 : outI s 0 17592186044431 = true
    · have o4 := Lib.hid (outI_pos h4)
      go_wp2_with (go_at_call 48; refine (rOut_any _ _ _ _).mono ?_; rintro e w' ⟨rfl, rfl⟩)
      go_ret
      refine ⟨?_, HB.out _⟩
      clear HB
      have HZ : checkN n f m t s k v = 24 := by
        simp only [hid_iff] at *
        unfold checkN
        (repeat' split) <;> first | rfl | omega
      rw [HZ]; rfl
    have p4 := Lib.hid (outI_no (outI_neg h4))
    replace h4 := outI_neg h4
    by_cases h5 : outI k 1 5 = true
    · have o5 := Lib.hid (outI_pos h5)
      go_wp2_with (go_at_call 48; refine (rOut_any _ _ _ _).mono ?_; rintro e w' ⟨rfl, rfl⟩)
      go_ret
      refine ⟨?_, HB.out _⟩
      clear HB
      have HZ : checkN n f m t s k v = 25 := by
        simp only [hid_iff] at *
        unfold checkN
        (repeat' split) <;> first | rfl | omega
      rw [HZ]; rfl
    have p5 := Lib.hid (outI_no (outI_neg h5))
    replace h5 := outI_neg h5
    by_cases h6 : 4096 < v
    · have d1 : decide ((4096 : Int) < (v : Int)) = true := decide_eq_true (by omega)
      have d1n : decide (4096 < v) = true := decide_eq_true h6
      go_wp2_with (go_at_call 48; refine (rOut_any _ _ _ _).mono ?_; rintro e w' ⟨rfl, rfl⟩)
      go_ret
      refine ⟨?_, HB.out _⟩
      clear HB
      have HZ : checkN n f m t s k v = 26 := by
        simp only [hid_iff] at *
        unfold checkN
        (repeat' split) <;> first | rfl | omega
      rw [HZ]; rfl
    have da6 : decide ((4096 : Int) < (v : Int)) = false := decide_eq_false (by omega)
    have db6 : decide (4096 < v) = false := decide_eq_false h6
    by_cases k6 : ¬ k = 1
    · have e6 : (k != 1) = true := by simpa using k6
      replace k6 := Lib.hid k6
      by_cases l6 : 0 < v
      · have d1 : decide ((0 : Int) < (v : Int)) = true := decide_eq_true (by omega)
        have d1n : decide (0 < v) = true := decide_eq_true l6
        go_wp2_with (go_at_call 48; refine (rOut_any _ _ _ _).mono ?_; rintro e w' ⟨rfl, rfl⟩)
        go_ret
        refine ⟨?_, HB.out _⟩
        clear HB
        have HZ : checkN n f m t s k v = 26 := by
          simp only [hid_iff] at *
          unfold checkN
          (repeat' split) <;> first | rfl | omega
        rw [HZ]; rfl
      have dc6 : decide ((0 : Int) < (v : Int)) = false := decide_eq_false (by omega)
      have dd6 : decide (0 < v) = false := decide_eq_false l6
      go_wp2_with (go_at_call 48; refine (rOut_any _ _ _ _).mono ?_; rintro e w' ⟨rfl, rfl⟩)
      go_ret
      refine ⟨?_, HB.out _⟩
      clear HB
      have HZ : checkN n f m t s k v = 0 := by
        simp only [hid_iff] at *
        unfold checkN
        (repeat' split) <;> first | rfl | omega
      rw [HZ]; rfl
    have e6 : (k != 1) = false := by simpa using k6
    replace k6 := Lib.hid k6
    go_wp2_with (go_at_call 48; refine (rOut_any _ _ _ _).mono ?_; rintro e w' ⟨rfl, rfl⟩)
    go_ret
    refine ⟨?_, HB.out _⟩
    clear HB
    have HZ : checkN n f m t s k v = 0 := by
      simp only [hid_iff] at *
      unfold checkN
      (repeat' split) <;> first | rfl | omega
    rw [HZ]; rfl
  have e2 : (k == 5) = false := by simpa using k2
  replace k2 := Lib.hid k2
  by_cases h3 : outI t 1 1099511627776 = true
  · have o3 := Lib.hid (outI_pos h3)
    go_wp2_with (go_at_call 48; refine (rOut_any _ _ _ _).mono ?_; rintro e w' ⟨rfl, rfl⟩)
    go_ret
    refine ⟨?_, HB.out _⟩
    clear HB
    have HZ : checkN n f m t s k v = 23 := by
      simp only [hid_iff] at *
      unfold checkN
      (repeat' split) <;> first | rfl | omega
    rw [HZ]; rfl
  have p3 := Lib.hid (outI_no (outI_neg h3))
  replace h3 := outI_neg h3
  by_cases h4 : outI s 0 17592186044431 = true
  · have o4 := Lib.hid (outI_pos h4)
    go_wp2_with (go_at_call 48; refine (rOut_any _ _ _ _).mono ?_; rintro e w' ⟨rfl, rfl⟩)
    go_ret
    refine ⟨?_, HB.out _⟩
    clear HB
    have HZ : checkN n f m t s k v = 24 := by
      simp only [hid_iff] at *
      unfold checkN
      (repeat' split) <;> first | rfl | omega
    rw [HZ]; rfl
  have p4 := Lib.hid (outI_no (outI_neg h4))
  replace h4 := outI_neg h4
  by_cases h5 : outI k 1 5 = true
  · have o5 := Lib.hid (outI_pos h5)
    go_wp2_with (go_at_call 48; refine (rOut_any _ _ _ _).mono ?_; rintro e w' ⟨rfl, rfl⟩)
    go_ret
    refine ⟨?_, HB.out _⟩
    clear HB
    have HZ : checkN n f m t s k v = 25 := by
      simp only [hid_iff] at *
      unfold checkN
      (repeat' split) <;> first | rfl | omega
    rw [HZ]; rfl
  have p5 := Lib.hid (outI_no (outI_neg h5))
  replace h5 := outI_neg h5
  by_cases h6 : 4096 < v
  · have d1 : decide ((4096 : Int) < (v : Int)) = true := decide_eq_true (by omega)
    have d1n : decide (4096 < v) = true := decide_eq_true h6
    go_wp2_with (go_at_call 48; refine (rOut_any _ _ _ _).mono ?_; rintro e w' ⟨rfl, rfl⟩)
    go_ret
    refine ⟨?_, HB.out _⟩
    clear HB
    have HZ : checkN n f m t s k v = 26 := by
      simp only [hid_iff] at *
      unfold checkN
      (repeat' split) <;> first | rfl | omega
    rw [HZ]; rfl
  have da6 : decide ((4096 : Int) < (v : Int)) = false := decide_eq_false (by omega)
  have db6 : decide (4096 < v) = false := decide_eq_false h6
  by_cases k6 : ¬ k = 1
  · have e6 : (k != 1) = true := by simpa using k6
    replace k6 := Lib.hid k6
    by_cases l6 : 0 < v
    · have d1 : decide ((0 : Int) < (v : Int)) = true := decide_eq_true (by omega)
      have d1n : decide (0 < v) = true := decide_eq_true l6
      go_wp2_with (go_at_call 48; refine (rOut_any _ _ _ _).mono ?_; rintro e w' ⟨rfl, rfl⟩)
      go_ret
      refine ⟨?_, HB.out _⟩
      clear HB
      have HZ : checkN n f m t s k v = 26 := by
        simp only [hid_iff] at *
        unfold checkN
        (repeat' split) <;> first | rfl | omega
      rw [HZ]; rfl
    have dc6 : decide ((0 : Int) < (v : Int)) = false := decide_eq_false (by omega)
    have dd6 : decide (0 < v) = false := decide_eq_false l6
    go_wp2_with (go_at_call 48; refine (rOut_any _ _ _ _).mono ?_; rintro e w' ⟨rfl, rfl⟩)
    go_ret
    refine ⟨?_, HB.out _⟩
    clear HB
    have HZ : checkN n f m t s k v = 0 := by
      simp only [hid_iff] at *
      unfold checkN
      (repeat' split) <;> first | rfl | omega
    rw [HZ]; rfl
  have e6 : (k != 1) = false := by simpa using k6
  replace k6 := Lib.hid k6
  go_wp2_with (go_at_call 48; refine (rOut_any _ _ _ _).mono ?_; rintro e w' ⟨rfl, rfl⟩)
  go_ret
  refine ⟨?_, HB.out _⟩
  clear HB
  have HZ : checkN n f m t s k v = 0 := by
    simp only [hid_iff] at *
    unfold checkN
    (repeat' split) <;> first | rfl | omega
  rw [HZ]; rfl
end Go.Proofs.Ytdaoinhkagmbdaa
namespace Go.Proofs.Ytdaoinhkagmbdaa
open Go.RowKit
set_option maxRecDepth 100000 in
set_option maxHeartbeats 1000000 in
theorem uint_any (v : Nat) (w : World) (hv : v < 18446744073709551616) : Calls Try.prog 76 #[.int .u64 v] w (BytesPost 5 (uintB v) w) := by
  have HL := Lib.hid (uintB_ten hv)
  have HV := Lib.hid hv
  clear hv
  go_enter Try.func76, Try.ntmps76
  go_wp2
  go_loopw [0, 3] (fun x b wr => ∃ (V : Nat) (pre : List UInt8), Hid (V < 18446744073709551616) ∧ x = .int .u64 V ∧ Hid (pre ++ uintB V = uintB v) ∧ Hid (pre.length ≤ 10) ∧ wr.ownsRow w.heap.size 5 1 b pre.length (u8s pre) ∧ Hid (Below w.heap.size w wr)) (fun x _ _ => (intOf x).toNat)
  case atStart => exact ⟨v, [], HV, rfl, Lib.hid rfl, Lib.hid (by simp), own_nil _ _ _ _, Lib.hid (Below.refl _ _)⟩
  case round =>
    obtain ⟨V, pre, HV2, rfl, HP, HPL, hown, HB⟩ := hrel
    by_cases h : 128 ≤ V
    · have hd : decide ((128 : Int) ≤ (V : Int)) = true := decide_eq_true (by omega)
      have ho := or128_walk V
      have H8 := Lib.hid (u8v_or V)
      have HN : Hid ((pre ++ [UInt8.ofNat (V % 128 + 128)]) ++ uintB (V / 128) = uintB v) := Lib.hid (by rw [← HP.out, uintB_ge h]; simp)
      have HNL : Hid ((pre ++ [UInt8.ofNat (V % 128 + 128)]).length ≤ 10) := Lib.hid (by
        have := congrArg List.length HN.out
        rw [List.length_append] at this
        have := HL.out
        omega)
      obtain ⟨bv, hb⟩ : ∃ bv, bv = u3 := ⟨_, rfl⟩
      rw [← hb] at hown ⊢
      clear hb
      go_wp2_with (at_builtin; go_must (refine wpList_append_reads _ rfl (.tmp 6) (.tmp 10) rfl Try.u8s' w.heap.size bv pre.length (u8s pre) rfl (hown.alloc _) (wr.heap.size + 1) (some ⟨wr.heap.size, 0, none⟩) 1 1 (u8s [UInt8.ofNat (V % 128 + 128)]) rfl (by exact reads_lit wr _ [UInt8.ofNat (V % 128 + 128)] _ _ (by show _ = [u8v _]; rw [H8.out])) (u8s_one _) (by have := HPL.out; unfold maxLen; omega) (by have := HPL.out; omega) (by have := HB.out.size; simp; omega) ?_); intro v1 w1 hown1 hg1 hat1)
      have HV3 : Hid (V / 128 < 18446744073709551616) := Lib.hid (by have := HV2.out; omega)
      have hB : w.heap.size ≤ (wr.alloc (.cells #[.int .u8 ((V : Int) % 128 + 128)] 5)).heap.size := by have := HB.out.size; simp; omega
      have HB1 := Lib.hid (below_app (HB.out.alloc HB.out.size _) (hown.alloc _) hg1 hB (Nat.le_refl _))
      rw [← u8s_append] at hown1
      have hO1 : w1.ownsRow w.heap.size 5 1 v1 (pre ++ [UInt8.ofNat (V % 128 + 128)]).length (u8s (pre ++ [UInt8.ofNat (V % 128 + 128)])) := by
        rw [List.length_append]; exact hown1
      clear hown hown1 hg1 hat1 hB
      go_roundw
      case rel => exact ⟨V / 128, _, HV3, by rw [Int.natCast_ediv]; rfl, HN, HNL, hO1, HB1⟩
      case measure => simp [intOf]; omega
    · have hd : decide ((128 : Int) ≤ (V : Int)) = false := decide_eq_false (by omega)
      have hm : (V : Int) % 256 = (V : Int) := by omega
      have H8 : Hid (u8v (UInt8.ofNat V) = .int .u8 (V : Int)) := Lib.hid (by
        unfold u8v
        rw [UInt8.toNat_ofNat', Nat.mod_eq_of_lt (by omega)])
      have HN : Hid (pre ++ [UInt8.ofNat V] = uintB v) := Lib.hid (by rw [← HP.out, uintB_lt (by omega)])
      obtain ⟨bv, hb⟩ : ∃ bv, bv = u3 := ⟨_, rfl⟩
      rw [← hb] at hown ⊢
      clear hb
      go_wp2_with (at_builtin; go_must (refine wpList_append_reads _ rfl (.tmp 14) (.tmp 17) rfl Try.u8s' w.heap.size bv pre.length (u8s pre) rfl (hown.alloc _) (wr.heap.size + 1) (some ⟨wr.heap.size, 0, none⟩) 1 1 (u8s [UInt8.ofNat V]) rfl (by exact reads_lit wr _ [UInt8.ofNat V] _ _ (by show _ = [u8v _]; rw [H8.out])) (u8s_one _) (by have := HPL.out; unfold maxLen; omega) (by have := HPL.out; omega) (by have := HB.out.size; simp; omega) ?_); intro v1 w1 hown1 hg1 hat1)
      go_ret
      have hB : w.heap.size ≤ (wr.alloc (.cells #[.int .u8 (V : Int)] 5)).heap.size := by have := HB.out.size; simp; omega
      have HB1 := below_app (HB.out.alloc HB.out.size _) (hown.alloc _) hg1 hB (Nat.le_refl _)
      rw [← u8s_append, HN.out] at hown1
      exact bytes_post hown1 HB1
theorem uint_of (v : Nat) (a : Int) (ha : a = (v : Int)) (w : World) (hv : v < 18446744073709551616) : Calls Try.prog 76 #[.int .u64 a] w (BytesPost 5 (uintB v) w) := by
  subst ha
  exact uint_any v w hv
set_option maxRecDepth 100000 in
set_option maxHeartbeats 400000 in
theorem bytes_any (l : List UInt8) (A : Option Addr) (n c : Nat) (w : World) (hn : n ≤ 140737488355318) (hr : RB w w.heap.size A n l) :
    Calls Try.prog 53 #[.slice A n c] w (BytesPost 5 (uintB l.length ++ l) w) := by
  have HR : Hid (∀ w', Below w.heap.size w w' → RB w' w'.heap.size A n l) := Lib.hid fun w' h => hr.later h
  have HL := Lib.hid hr.len
  have HU := Lib.hid (uintB_ten (v := n) (by omega))
  clear hr
  go_enter Try.func53, Try.ntmps53
  go_wp2_with (first
    | (go_at_call 76; go_must (refine (uint_of n _ (by omega) _ (by omega)).mono ?_); rintro e w1 ⟨A1, c1, rfl, hO1, hb1⟩; have HB1 := Lib.hid hb1; have HO1 := Lib.hid hO1; clear hb1 hO1)
    | (at_builtin; go_must (refine wpList_append_reads _ rfl (.tmp 6) (.tmp 7) rfl Try.u8s' w.heap.size (.slice A1 (uintB n).length c1) (uintB n).length (u8s (uintB n)) rfl HO1.out _ A n c (u8s l) rfl (HR.out _ HB1.out) (u8s_one _) (by have := HU.out; unfold maxLen; omega) (by have := HU.out; omega) HB1.out.size ?_); intro v2 w2 hown2 hg2 hat2))
  go_ret
  rw [← u8s_append] at hown2
  rw [HL.out]
  exact bytes_post hown2 (below_app HB1.out HO1.out hg2 HB1.out.size (Nat.le_refl _))
end Go.Proofs.Ytdaoinhkagmbdaa
namespace Go.Proofs.Ytdaoinhkagmbdaa
open Go.RowKit
end Go.Proofs.Ytdaoinhkagmbdaa
namespace Go.Proofs.Ytdaoinhkagmbdaa
open Go.RowKit
theorem u8v_rem (V : Nat) : u8v (UInt8.ofNat (V % 128 + 128)) = .int .u8 (128 + (V : Int) % 128) := by
  unfold u8v
  rw [UInt8.toNat_ofNat', Nat.mod_eq_of_lt (by omega)]; congr 1; omega
set_option maxRecDepth 100000 in
set_option maxHeartbeats 1000000 in
theorem rUint_any (v : Nat) (w : World) (hv : v < 18446744073709551616) : Calls Try.prog 97 #[.int .u64 v] w (BytesPost 5 (uintB v) w) := by
  have HL := Lib.hid (uintB_ten hv)
  have HV := Lib.hid hv
  clear hv
  go_enter Try.func97, Try.ntmps97
  go_wp2
  go_loopw [0, 3] (fun x b wr => ∃ (V : Nat) (pre : List UInt8), V < 18446744073709551616 ∧ x = .int .u64 V ∧ Hid (pre ++ uintB V = uintB v) ∧ Hid (pre.length ≤ 10) ∧ wr.ownsRow w.heap.size 5 1 b pre.length (u8s pre) ∧ Hid (Below w.heap.size w wr)) (fun x _ _ => (intOf x).toNat)
  case atStart => exact ⟨v, [], HV.out, rfl, Lib.hid rfl, Lib.hid (by simp), own_nil _ _ _ _, Lib.hid (Below.refl _ _)⟩
  case round =>
    obtain ⟨V, pre, hV2, rfl, HP, HPL, hown, HB⟩ := hrel
    by_cases h : 128 ≤ V
    · have hd : decide ((127 : Int) < (V : Int)) = true := decide_eq_true (by omega)
      have hm1 : (V : Int) % 128 < 128 := by omega
      have hm0 : 0 ≤ (V : Int) % 128 := by omega
      have hm2 : (128 + (V : Int) % 128) % 256 = 128 + (V : Int) % 128 := by omega
      have H8 := Lib.hid (u8v_rem V)
      have HN : Hid ((pre ++ [UInt8.ofNat (V % 128 + 128)]) ++ uintB (V / 128) = uintB v) := Lib.hid (by rw [← HP.out, uintB_ge h]; simp)
      have HNL : Hid ((pre ++ [UInt8.ofNat (V % 128 + 128)]).length ≤ 10) := Lib.hid (by
        have := congrArg List.length HN.out
        rw [List.length_append] at this
        have := HL.out
        omega)
      obtain ⟨bv, hb⟩ : ∃ bv, bv = u3 := ⟨_, rfl⟩
      rw [← hb] at hown ⊢
      clear hb
      go_wp2_with (at_builtin; go_must (refine wpList_append_reads _ rfl (.tmp 6) (.tmp 11) rfl Try.u8s' w.heap.size bv pre.length (u8s pre) rfl (hown.alloc _) (wr.heap.size + 1) (some ⟨wr.heap.size, 0, none⟩) 1 1 (u8s [UInt8.ofNat (V % 128 + 128)]) rfl (by exact reads_lit wr _ [UInt8.ofNat (V % 128 + 128)] _ _ (by show _ = [u8v _]; rw [H8.out])) (u8s_one _) (by have := HPL.out; unfold maxLen; omega) (by have := HPL.out; omega) (by have := HB.out.size; simp; omega) ?_); intro v1 w1 hown1 hg1 hat1)
      have hB : w.heap.size ≤ (wr.alloc (.cells #[.int .u8 (128 + (V : Int) % 128)] 5)).heap.size := by have := HB.out.size; simp; omega
      have HB1 := Lib.hid (below_app (HB.out.alloc HB.out.size _) (hown.alloc _) hg1 hB (Nat.le_refl _))
      rw [← u8s_append] at hown1
      have hO1 : w1.ownsRow w.heap.size 5 1 v1 (pre ++ [UInt8.ofNat (V % 128 + 128)]).length (u8s (pre ++ [UInt8.ofNat (V % 128 + 128)])) := by
        rw [List.length_append]; exact hown1
      clear hown hown1 hg1 hat1 hB hm2
      go_roundw
      case rel => exact ⟨V / 128, _, by omega, by rw [Int.natCast_ediv]; rfl, HN, HNL, hO1, HB1⟩
      case measure => simp [intOf]; omega
    · have hd : decide ((127 : Int) < (V : Int)) = false := decide_eq_false (by omega)
      have hm : (V : Int) % 256 = (V : Int) := by omega
      have H8 : Hid (u8v (UInt8.ofNat V) = .int .u8 (V : Int)) := Lib.hid (by
        unfold u8v
        rw [UInt8.toNat_ofNat', Nat.mod_eq_of_lt (by omega)])
      have HN : Hid (pre ++ [UInt8.ofNat V] = uintB v) := Lib.hid (by rw [← HP.out, uintB_lt (by omega)])
      obtain ⟨bv, hb⟩ : ∃ bv, bv = u3 := ⟨_, rfl⟩
      rw [← hb] at hown ⊢
      clear hb
      go_wp2_with (at_builtin; go_must (refine wpList_append_reads _ rfl (.tmp 15) (.tmp 18) rfl Try.u8s' w.heap.size bv pre.length (u8s pre) rfl (hown.alloc _) (wr.heap.size + 1) (some ⟨wr.heap.size, 0, none⟩) 1 1 (u8s [UInt8.ofNat V]) rfl (by exact reads_lit wr _ [UInt8.ofNat V] _ _ (by show _ = [u8v _]; rw [H8.out])) (u8s_one _) (by have := HPL.out; unfold maxLen; omega) (by have := HPL.out; omega) (by have := HB.out.size; simp; omega) ?_); intro v1 w1 hown1 hg1 hat1)
      go_ret
      have hB : w.heap.size ≤ (wr.alloc (.cells #[.int .u8 (V : Int)] 5)).heap.size := by have := HB.out.size; simp; omega
      have HB1 := below_app (HB.out.alloc HB.out.size _) (hown.alloc _) hg1 hB (Nat.le_refl _)
      rw [← u8s_append, HN.out] at hown1
      exact bytes_post hown1 HB1
theorem rUint_of (v : Nat) (a : Int) (ha : a = (v : Int)) (w : World) (hv : v < 18446744073709551616) : Calls Try.prog 97 #[.int .u64 a] w (BytesPost 5 (uintB v) w) := by
  subst ha
  exact rUint_any v w hv
set_option maxRecDepth 100000 in
set_option maxHeartbeats 400000 in
theorem rBytes_any (l : List UInt8) (A : Option Addr) (n c : Nat) (w : World) (hn : n ≤ 140737488355318) (hr : RB w w.heap.size A n l) :
    Calls Try.prog 88 #[.slice A n c] w (BytesPost 5 (uintB l.length ++ l) w) := by
  have HR : Hid (∀ w', Below w.heap.size w w' → RB w' w'.heap.size A n l) := Lib.hid fun w' h => hr.later h
  have HL := Lib.hid hr.len
  have HU := Lib.hid (uintB_ten (v := n) (by omega))
  clear hr
  go_enter Try.func88, Try.ntmps88
  go_wp2_with (first
    | (go_at_call 97; go_must (refine (rUint_of n _ (by omega) _ (by omega)).mono ?_); rintro e w1 ⟨A1, c1, rfl, hO1, hb1⟩; have HB1 := Lib.hid hb1; have HO1 := Lib.hid hO1; clear hb1 hO1)
    | (at_builtin; go_must (refine wpList_append_reads _ rfl (.tmp 6) (.tmp 7) rfl Try.u8s' w.heap.size (.slice A1 (uintB n).length c1) (uintB n).length (u8s (uintB n)) rfl HO1.out _ A n c (u8s l) rfl (HR.out _ HB1.out) (u8s_one _) (by have := HU.out; unfold maxLen; omega) (by have := HU.out; omega) HB1.out.size ?_); intro v2 w2 hown2 hg2 hat2))
  go_ret
  rw [← u8s_append] at hown2
  rw [HL.out]
  exact bytes_post hown2 (below_app HB1.out HO1.out hg2 HB1.out.size (Nat.le_refl _))
end Go.Proofs.Ytdaoinhkagmbdaa
namespace Go.Proofs.Ytdaoinhkagmbdaa
open Go.RowKit
theorem cmp_lt_at {a b : List UInt8} {k : Nat} {x y : UInt8} (h : a.take k = b.take k) (ha : a[k]? = some x) (hb : b[k]? = some y) (hxy : x.toNat < y.toNat) : cmpB a b = -1 := by
  obtain ⟨h1, rfl⟩ := List.getElem?_eq_some_iff.1 ha
  obtain ⟨h2, rfl⟩ := List.getElem?_eq_some_iff.1 hb
  rw [← cmpB_drop a b k h, List.drop_eq_getElem_cons h1, List.drop_eq_getElem_cons h2, cmpB_lt hxy]
theorem cmp_gt_at {a b : List UInt8} {k : Nat} {x y : UInt8} (h : a.take k = b.take k) (ha : a[k]? = some x) (hb : b[k]? = some y) (hxy : y.toNat < x.toNat) : cmpB a b = 1 := by
  obtain ⟨h1, rfl⟩ := List.getElem?_eq_some_iff.1 ha
  obtain ⟨h2, rfl⟩ := List.getElem?_eq_some_iff.1 hb
  rw [← cmpB_drop a b k h, List.drop_eq_getElem_cons h1, List.drop_eq_getElem_cons h2, cmpB_gt hxy]
theorem cmp_eq_at {a b : List UInt8} {k : Nat} {x : UInt8} (h : a.take k = b.take k) (ha : a[k]? = some x) (hb : b[k]? = some x) : a.take (k + 1) = b.take (k + 1) := by
  rw [take_snoc ha, take_snoc hb, h]
theorem cmp_end {a b : List UInt8} {k n m : Nat} (h : a.take k = b.take k) (ha : a.length = n) (hb : b.length = m) (hk : k = n) (hm : k ≤ m) : cmpB a b = if n < m then -1 else 0 := by
  subst hk
  rw [← cmpB_drop a b k h, List.drop_eq_nil_of_le (by omega)]
  split
  · rw [List.drop_eq_getElem_cons (by omega)]; rfl
  · rw [List.drop_eq_nil_of_le (by omega)]; rfl
theorem cmp_end2 {a b : List UInt8} {k n m : Nat} (h : a.take k = b.take k) (ha : a.length = n) (hb : b.length = m) (hk : k = m) (hm : k < n) : cmpB a b = 1 := by
  subst hk
  rw [← cmpB_drop a b k h, show b.drop k = [] from List.drop_eq_nil_of_le (by omega), List.drop_eq_getElem_cons (by omega)]; rfl
theorem ordB_take {l : List UInt8} {k : Nat} {y : UInt8} (h : l[k]? = some y) : (l.take (k + 1)).flatMap ordC = (l.take k).flatMap ordC ++ ordC y := by
  rw [take_snoc h, List.flatMap_append]; simp
set_option maxRecDepth 100000 in
set_option maxHeartbeats 1000000 in
theorem ordered_any (l : List UInt8) (A : Option Addr) (n c : Nat) (w : World) (hn : n ≤ 70368744177000) (hr : RB w w.heap.size A n l) :
    Calls Try.prog 73 #[.slice A n c] w (BytesPost 5 (ordB l) w) := by
  have HL := Lib.hid hr.len
  have HR : Hid (∀ w', Below w.heap.size w w' → RB w' w'.heap.size A n l) := Lib.hid fun w' h => hr.later h
  have HF : Hid (∀ k, ((l.take k).flatMap ordC).length ≤ 140737488354000) := Lib.hid fun k => by
    have := ordF_len (l.take k)
    have h2 : (l.take k).length ≤ l.length := by rw [List.length_take]; omega
    have h3 := HL.out
    omega
  clear hr
  go_enter Try.func73, Try.ntmps73
  go_wp2_with (at_make; go_must (refine wpList_make_own _ rfl (.const (.int .i64 0)) (.tmp 8) 28 rfl w.heap.size 5 Try.t5 (.int .u8 0) 1 Try.underlying28 (by kernel_rfl) rfl rfl .i64 .i64 _ (n + 2) rfl rfl (by omega) (by show 1 * _ ≤ _; omega) (by unfold maxLen; omega) (Nat.le_refl _) ?_); intro w1 hown1 hg1)
  have HB1 := Lib.hid (below_grown_none hg1)
  have HO1 := Lib.hid hown1
  clear hown1 hg1
  go_loopw [3, 12] (fun v i wr => ∃ (k : Nat) (P : List UInt8), k ≤ n ∧ i = .int .i64 k ∧ Hid (P = (l.take k).flatMap ordC) ∧ wr.ownsRow w.heap.size 5 1 v P.length (u8s P) ∧ Hid (Below w.heap.size w wr)) (fun _ i _ => n - (intOf i).toNat)
  case atStart => exact ⟨0, [], Nat.zero_le _, rfl, Lib.hid rfl, HO1.out, HB1⟩
  case round =>
    clear HO1 HB1
    obtain ⟨k, P, hk, rfl, HP, hown, HB⟩ := hrel
    obtain ⟨v, hv⟩ : ∃ v, v = u3 := ⟨_, rfl⟩
    rw [← hv] at hown ⊢
    clear hv
    have HPL : Hid (P.length ≤ 140737488354000) := Lib.hid (by rw [HP.out]; exact HF.out k)
    by_cases hlt : k < n
    case neg =>
      have HE : Hid (P ++ [0, 1] = ordB l) := Lib.hid (by rw [HP.out, take_all (by have := HL.out; omega)]; rfl)
      go_wp2_with (at_builtin; go_must (refine wpList_append_reads _ rfl (.tmp 26) (.tmp 27) rfl Try.u8s' w.heap.size v P.length (u8s P) rfl (hown.alloc _) (wr.heap.size + 1) (some ⟨wr.heap.size, 0, none⟩) 2 2 (u8s [0, 1]) rfl (by exact reads_lit wr _ [0, 1] _ _ rfl) (u8s_one _) (by have := HPL.out; unfold maxLen; omega) (by have := HPL.out; omega) (by have := HB.out.size; simp; omega) ?_); intro v1 w1 hown1 hg1 hat1)
      go_ret
      have hB : w.heap.size ≤ (wr.alloc (.cells #[.int .u8 0, .int .u8 1] 5)).heap.size := by have := HB.out.size; simp; omega
      have HB1 := below_app (HB.out.alloc HB.out.size _) (hown.alloc _) hg1 hB (Nat.le_refl _)
      rw [← u8s_append, HE.out] at hown1
      exact bytes_post hown1 HB1
    obtain ⟨b, o, y, rfl, _, hy, hcy⟩ := (HR.out _ HB.out).at_ hlt
    have HY := Lib.hid (ordB_take hy)
    clear hy
    by_cases h0 : y.toNat = 0
    · have HN : Hid ((P ++ [y]) ++ [255] = (l.take (k + 1)).flatMap ordC) := Lib.hid (by
        rw [HY.out, HP.out]
        unfold ordC
        rw [if_pos h0, UInt8.toNat_inj.1 (show y.toNat = (0 : UInt8).toNat from h0)]; simp)
      have hd : ((y.toNat : Int) == 0) = true := by rw [beq_iff_eq]; omega
      have tok1 : True := trivial
      clear HY h0
      go_wp2_with (first
        | (at_builtin; have _t := tok1; go_must (refine wpList_append_reads _ rfl (.tmp 16) (.tmp 18) rfl Try.u8s' w.heap.size v P.length (u8s P) rfl (hown.alloc _) (wr.heap.size + 1) (some ⟨wr.heap.size, 0, none⟩) 1 1 (u8s [y]) rfl (by exact reads_lit wr _ [y] _ _ rfl) (u8s_one _) (by have := HPL.out; unfold maxLen; omega) (by have := HPL.out; omega) (by have := HB.out.size; simp; omega) ?_); intro v1 w1 hown1 hg1 hat1; clear tok1; have HB1 := Lib.hid (below_app (HB.out.alloc HB.out.size (.cells #[.int .u8 (y.toNat : Int)] 5)) (hown.alloc _) hg1 (by have := HB.out.size; simp; omega) (Nat.le_refl _)); rw [← u8s_append] at hown1; have HO1 := Lib.hid hown1; clear hown1 hg1 hat1)
        | (at_builtin; go_must (refine wpList_append_reads _ rfl (.tmp 22) (.tmp 23) rfl Try.u8s' w.heap.size v1 (P.length + 1) (u8s (P ++ [y])) rfl (HO1.out.alloc _) (w1.heap.size + 1) (some ⟨w1.heap.size, 0, none⟩) 1 1 (u8s [255]) rfl (by exact reads_lit w1 _ [255] _ _ rfl) (u8s_one _) (by have := HPL.out; unfold maxLen; omega) (by have := HPL.out; omega) (by have := HB1.out.size; simp; omega) ?_); intro v2 w2 hown2 hg2 hat2; have HB2 := Lib.hid (below_app (HB1.out.alloc HB1.out.size (.cells #[.int .u8 255] 5)) (HO1.out.alloc _) hg2 (by have := HB1.out.size; simp; omega) (Nat.le_refl _)); rw [← u8s_append] at hown2; have HO2 := Lib.hid hown2; clear hown2 hg2 hat2))
      have hO2 : w2.ownsRow w.heap.size 5 1 v2 ((P ++ [y]) ++ [255]).length (u8s ((P ++ [y]) ++ [255])) := by
        have := HO2.out
        have e : ((P ++ [y]) ++ [(255 : UInt8)]).length = P.length + 1 + 1 := by simp
        rw [e]; exact this
      clear HO2 HO1
      go_roundw
      case rel => exact ⟨k + 1, (P ++ [y]) ++ [255], by omega, by go_num, HN, hO2, HB2⟩
      case measure => simp [intOf]; omega
    · have HN : Hid (P ++ [y] = (l.take (k + 1)).flatMap ordC) := Lib.hid (by
        rw [HY.out, HP.out]
        unfold ordC
        rw [if_neg h0])
      have hd : ((y.toNat : Int) == 0) = false := by rw [beq_eq_false_iff_ne]; omega
      clear HY h0
      go_wp2_with (at_builtin; go_must (refine wpList_append_reads _ rfl (.tmp 16) (.tmp 18) rfl Try.u8s' w.heap.size v P.length (u8s P) rfl (hown.alloc _) (wr.heap.size + 1) (some ⟨wr.heap.size, 0, none⟩) 1 1 (u8s [y]) rfl (by exact reads_lit wr _ [y] _ _ rfl) (u8s_one _) (by have := HPL.out; unfold maxLen; omega) (by have := HPL.out; omega) (by have := HB.out.size; simp; omega) ?_); intro v1 w1 hown1 hg1 hat1; have HB1 := Lib.hid (below_app (HB.out.alloc HB.out.size (.cells #[.int .u8 (y.toNat : Int)] 5)) (hown.alloc _) hg1 (by have := HB.out.size; simp; omega) (Nat.le_refl _)); rw [← u8s_append] at hown1; have HO1 := Lib.hid hown1; clear hown1 hg1 hat1)
      have hO1 : w1.ownsRow w.heap.size 5 1 v1 (P ++ [y]).length (u8s (P ++ [y])) := by
        have := HO1.out
        rw [show (P ++ [y]).length = P.length + 1 from by simp]; exact this
      clear HO1
      go_roundw
      case rel => exact ⟨k + 1, P ++ [y], by omega, by go_num, HN, hO1, HB1⟩
      case measure => simp [intOf]; omega
end Go.Proofs.Ytdaoinhkagmbdaa
namespace Go.Proofs.Ytdaoinhkagmbdaa
open Go.RowKit
theorem made_zeros (L : Nat) : (madeCells (Value.int IntKind.u8 0).cells L).toList = u8s (List.replicate L 0) := by
  have e : (Value.int IntKind.u8 0).cells = #[.int .u8 0] := rfl
  rw [e]
  apply List.ext_getElem?
  intro i
  simp only [madeCells, u8s, u8v, List.map_replicate, List.getElem?_replicate, Array.toList_map, Array.toList_range, List.getElem?_map, List.size_toArray, List.length_cons, List.length_nil, Nat.zero_add, Nat.mod_one]
  by_cases h : i < L
  · rw [if_pos h, List.getElem?_range h]; rfl
  · rw [if_neg h, List.getElem?_eq_none (by simpa using h)]; rfl
theorem rTo_zero (v : Nat) : rTo v 0 = List.replicate 8 0 := by simp [rTo, List.range_succ]
theorem u8s_set' (l : List UInt8) (k : Nat) (x : UInt8) : (u8s l).set k (u8v x) = u8s (l.set k x) := by
  unfold u8s
  rw [List.map_set]
set_option maxRecDepth 100000 in
set_option maxHeartbeats 1000000 in
theorem rising_any (v : Nat) (w : World) (hv : v < 9223372036854775808) : Calls Try.prog 94 #[.int .i64 v] w (BytesPost2 5 (risB v) 0 w) := by
  have hd : decide ((v : Int) < 0) = false := decide_eq_false (by omega)
  go_enter Try.func94, Try.ntmps94
  go_wp2_with (at_make; go_must (refine wpList_make_full _ rfl (.const (.int .i64 8)) (.const (.int .i64 8)) 28 rfl w.heap.size 5 Try.t5 (.int .u8 0) 1 Try.underlying28 (by kernel_rfl) rfl rfl .i64 .i64 _ _ 8 rfl rfl rfl rfl (by decide) (by decide) (Nat.le_refl _) ?_); intro w1 hown1 hg1)
  have HB1 := Lib.hid (below_grown_none hg1)
  have HO1 : Hid (OwnB 5 w.heap.size w1 (some ⟨w.heap.size, 0, none⟩) 8 (rTo v 0)) := Lib.hid (by
    unfold OwnB
    rw [rTo_len, rTo_zero, ← made_zeros 8]
    exact hown1)
  clear hown1 hg1
  obtain ⟨g, hg⟩ : ∃ g, g = w.heap.size := ⟨_, rfl⟩
  have HG := Lib.hid hg
  rw [← hg] at HO1 ⊢
  clear hg
  go_loopw [0, 5] (fun x i wr => ∃ (j : Nat) (X : Nat) (I : Int), j ≤ 8 ∧ Hid (X = v / 256 ^ j) ∧ X < 9223372036854775808 ∧ x = .int .i64 X ∧ I = 7 - (j : Int) ∧ i = .int .i64 I ∧ Hid (OwnB 5 g wr (some ⟨g, 0, none⟩) 8 (rTo v j)) ∧ Hid (Below w.heap.size w wr)) (fun _ i _ => (intOf i + 1).toNat)
  case atStart => exact ⟨0, v, 7, by omega, Lib.hid (by simp), hv, rfl, rfl, rfl, HO1, HB1⟩
  case round =>
    clear HO1 HB1
    obtain ⟨j, X, I, hj, HX, hXl, rfl, hI, rfl, HO, HB⟩ := hrel
    by_cases hlt : j < 8
    case neg =>
      obtain rfl : j = 8 := by omega
      have hd2 : decide ((0 : Int) ≤ I) = false := decide_eq_false (by omega)
      clear hI
      have HP : Hid (BytesPost2 5 (risB v) 0 w (.returned (.tuple #[.slice (some ⟨g, 0, none⟩) 8 8, .int .i64 0])) wr) := Lib.hid (by
        have h := HO.out
        unfold OwnB at h
        rw [rTo_len] at h
        rw [HG.out] at h ⊢
        exact bytes_post2 (n := 8) h HB.out)
      go_wp2
      go_ret2
      exact HP.out
    obtain ⟨D, rfl⟩ : ∃ D : Nat, I = (D : Int) := ⟨I.toNat, by omega⟩
    have hD : D = 7 - j := by omega
    have hDl : D < 8 := by omega
    have HD := Lib.hid hD
    clear hI hD
    obtain ⟨x, hx⟩ : ∃ x, (rTo v j)[D]? = some x := ⟨_, List.getElem?_eq_getElem (by rw [rTo_len]; exact hDl)⟩
    have hcx : wr.cell? ⟨g, D, none⟩ = some (.int .u8 (x.toNat : Int)) := (World.ownsRow.cellAt HO.out D (by rw [rTo_len]; omega)).trans (u8s_at hx)
    have hfr : wr.frozen? ⟨g, D, none⟩ = false := World.ownsRow.frozenAt HO.out _
    have hst := World.ownsRow.stored HO.out D (u8v (UInt8.ofNat X))
    rw [u8s_set', HX.out, HD.out, ← rTo_succ v j hlt, ← HX.out, ← HD.out, u8v_mod] at hst
    have HST := Lib.hid hst
    clear hst hx
    go_wp2
    have HB2 := Lib.hid (HB.out.grown HST.out.2 HB.out.size (fun b e => by injection e with e; rw [← e, HG.out]; exact Nat.le_refl _))
    have HO2 := Lib.hid (show OwnB 5 g _ (some ⟨g, 0, none⟩) 8 (rTo v (j + 1)) from by
      have := HST.out.1
      unfold OwnB
      rw [rTo_len] at this ⊢
      exact this)
    have HX2 : Hid (X / 256 = v / 256 ^ (j + 1)) := Lib.hid (by rw [HX.out, Nat.pow_succ, Nat.div_div_eq_div_mul])
    go_roundw
    case rel => exact ⟨j + 1, X / 256, (D : Int) - 1, by omega, HX2, by omega, rfl, by have := HD.out; omega, rfl, HO2, HB2⟩
    case measure => simp [intOf]
set_option maxRecDepth 100000 in
theorem falling_any (v : Nat) (w : World) (hv : v < 9223372036854775808) : Calls Try.prog 75 #[.int .i64 v] w (BytesPost2 5 (risB (9223372036854775807 - v)) 0 w) := by
  have hd : decide ((v : Int) < 0) = false := decide_eq_false (by omega)
  have HC : Hid (∀ z : Int, z = 9223372036854775807 - (v : Int) → ∀ w, Calls Try.prog 94 #[.int .i64 z] w (BytesPost2 5 (risB (9223372036854775807 - v)) 0 w)) := Lib.hid fun z hz w => by
    rw [show z = ((9223372036854775807 - v : Nat) : Int) from by omega]
    exact rising_any _ w (by omega)
  have k1 : IntKind.i64.wrap (9223372036854775807 - (v : Int)) = 9223372036854775807 - (v : Int) := i64_sum (by omega) (by omega)
  go_enter Try.func75, Try.ntmps75
  go_wp2_with (go_at_call 94; go_must (refine (HC.out _ (by omega) _).mono ?_); rintro e w1 ⟨A1, c1, rfl, hO1, hb1⟩)
  go_ret2
  exact ⟨A1, c1, rfl, hO1, hb1⟩
end Go.Proofs.Ytdaoinhkagmbdaa
namespace Go.Proofs.Ytdaoinhkagmbdaa
open Go.RowKit
end Go.Proofs.Ytdaoinhkagmbdaa
namespace Go.Proofs.Ytdaoinhkagmbdaa
open Go.RowKit
end Go.Proofs.Ytdaoinhkagmbdaa
namespace Go.Proofs.Ytdaoinhkagmbdaa
open Go.RowKit
theorem own_lit (w : World) (C : Array Value) (e : TypeId) (base n size : Nat) (hb : base ≤ w.heap.size) (hm : n ≤ maxLen) (hs : C.size = n * size) : (w.alloc (.cells C e)).ownsRow base e size (.slice (some ⟨w.heap.size, 0, none⟩) n n) n C.toList :=
  ⟨by rw [Array.length_toList]; exact hs, .inr ⟨w.heap.size, n, C, rfl, hb, heap_alloc_new w _, Nat.le_refl _, hm, hs, by rw [← hs, ← Array.length_toList, List.take_length]⟩⟩
theorem Sl.over {w x y : World} {A : Option Addr} {n c g : Nat} {l : List UInt8} (h : Sl w A n c l) (hb : Below w.heap.size w x) (hg : x.grownBy y (some g)) (hle : w.heap.size ≤ g) : Sl y A n c l :=
  ⟨Reads.more (Reads.grown (h.rb.below hb) hg hb.size (fun _ e => by injection e with e; omega)) (Nat.le_trans hb.size hg.size), h.cap, h.lim, h.nil⟩
end Go.Proofs.Ytdaoinhkagmbdaa
namespace Go.Proofs.Ytdaoinhkagmbdaa
open Go.RowKit
def eB (v : Nat) : Nat → List UInt8
  | 0 => []
  | i + 1 => UInt8.ofNat (v / 256 ^ i) :: eB v i
theorem eB_ris (v : Nat) : eB v 8 = risB v := by simp [eB, risB, rTo, List.range_succ]
set_option maxRecDepth 100000 in
set_option maxHeartbeats 1000000 in
theorem eight_any (v : Nat) (w : World) (hv : v < 18446744073709551616) : Calls Try.prog 102 #[.int .u64 v] w (BytesPost 5 (risB v) w) := by
  go_enter Try.func102, Try.ntmps102
  go_wp2
  go_loopw [0, 3, 4] (fun x b i wr => ∃ (j V : Nat), j ≤ 8 ∧ i = .int .i64 j ∧ Hid (V = v / 256 ^ j) ∧ V < 18446744073709551616 ∧ x = .int .u64 V ∧ wr.ownsRow w.heap.size 5 1 b j (u8s (eB v j)) ∧ Hid (Below w.heap.size w wr)) (fun _ _ i _ => 8 - (intOf i).toNat)
  case atStart => exact ⟨0, v, by omega, rfl, Lib.hid (by simp), hv, rfl, own_nil _ _ _ _, Lib.hid (Below.refl _ _)⟩
  case round =>
    obtain ⟨j, V, hj, rfl, HV, hV, rfl, hown, HB⟩ := hrel
    by_cases hlt : j < 8
    case neg =>
      obtain rfl : j = 8 := by omega
      have hd : decide ((8 : Int) < 8) = false := by decide
      rw [eB_ris] at hown
      have HP := Lib.hid (bytes_post hown HB.out)
      clear hown
      go_wp2
      go_ret
      exact HP.out
    have hd : decide ((j : Int) < 8) = true := decide_eq_true (by omega)
    obtain ⟨A, c, hbv, hl1, hl2, _, hrl⟩ := own_slice hown
    subst hbv
    have hm0 : 0 ≤ (V : Int) % 256 := by omega
    have hm1 : (V : Int) % 256 < 256 := by omega
    have HR := Lib.hid hrl
    have hB : w.heap.size ≤ wr.heap.size := HB.out.size
    have HC : Hid (u8s [UInt8.ofNat V] = [.int .u8 ((V : Int) % 256)]) := Lib.hid (by show [u8v _] = _; rw [u8v_mod])
    have HO : Hid ((wr.alloc (.cells #[.int .u8 ((V : Int) % 256)] 5)).ownsRow w.heap.size 5 1 (.slice (some ⟨wr.heap.size, 0, none⟩) 1 1) 1 (u8s [UInt8.ofNat V])) := Lib.hid (by rw [HC.out]; exact own_lit wr #[.int .u8 ((V : Int) % 256)] 5 w.heap.size 1 1 hB (by decide) rfl)
    have HN : Hid (u8s [UInt8.ofNat V] ++ u8s (eB v j) = u8s (eB v (j + 1))) := Lib.hid (by rw [HV.out, ← u8s_append]; rfl)
    clear hown hrl hl1 hl2
    go_wp2_with (at_builtin; go_must (refine wpList_append_reads _ rfl (.tmp 12) (.tmp 13) rfl Try.u8s' w.heap.size (.slice (some ⟨wr.heap.size, 0, none⟩) 1 1) 1 (u8s [UInt8.ofNat V]) rfl HO.out wr.heap.size A j c (u8s (eB v j)) rfl (Reads.alloc HR.out (Nat.le_refl _) _) (u8s_one _) (by unfold maxLen; omega) (by omega) (by have := HB.out.size; simp; omega) ?_); intro v1 w1 hown1 hg1 hat1; have HB1 := Lib.hid (below_app (HB.out.alloc HB.out.size (.cells #[.int .u8 ((V : Int) % 256)] 5)) HO.out hg1 (by have := HB.out.size; simp; omega) (Nat.le_refl _)); rw [HN.out] at hown1; have HO1 := Lib.hid hown1; clear hown1 hg1 hat1)
    have HV2 : Hid (V / 256 = v / 256 ^ (j + 1)) := Lib.hid (by rw [HV.out, Nat.pow_succ, Nat.div_div_eq_div_mul])
    have hO1 : w1.ownsRow w.heap.size 5 1 v1 (j + 1) (u8s (eB v (j + 1))) := by
      have := HO1.out
      rw [Nat.add_comm 1 j] at this
      exact this
    clear HO1 hB
    go_roundw
    case rel => exact ⟨j + 1, V / 256, by omega, by go_num, HV2, by omega, by rw [Int.natCast_ediv]; rfl, hO1, HB1⟩
    case measure => simp [intOf]; omega
theorem eight_of (v : Nat) (a : Int) (ha : a = (v : Int)) (w : World) (hv : v < 18446744073709551616) : Calls Try.prog 102 #[.int .u64 a] w (BytesPost 5 (risB v) w) := by
  subst ha; exact eight_any v w hv
set_option maxRecDepth 100000 in
theorem rRising_any (v : Nat) (w : World) (hv : v < 9223372036854775808) : Calls Try.prog 101 #[.int .i64 v] w (BytesPost2 5 (risB v) 0 w) := by
  have hd : decide ((v : Int) < 0) = false := decide_eq_false (by omega)
  have e1 : IntKind.u64.wrap (v : Int) = (v : Int) := by rw [IntKind.wrap_u64]; omega
  go_enter Try.func101, Try.ntmps101
  go_wp2_with (go_at_call 102; go_must (refine (eight_of v _ (by omega) _ (by omega)).mono ?_); rintro e w1 ⟨A1, c1, rfl, hO1, hb1⟩)
  go_ret2
  exact ⟨A1, c1, rfl, hO1, hb1⟩
set_option maxRecDepth 100000 in
theorem rFalling_any (v : Nat) (w : World) (hv : v < 9223372036854775808) : Calls Try.prog 99 #[.int .i64 v] w (BytesPost2 5 (risB (9223372036854775807 - v)) 0 w) := by
  have hd : decide ((v : Int) < 0) = false := decide_eq_false (by omega)
  have HC : Hid (∀ z : Int, z = 9223372036854775807 - (v : Int) → ∀ w, Calls Try.prog 101 #[.int .i64 z] w (BytesPost2 5 (risB (9223372036854775807 - v)) 0 w)) := Lib.hid fun z hz w => by
    rw [show z = ((9223372036854775807 - v : Nat) : Int) from by omega]
    exact rRising_any _ w (by omega)
  have k1 : IntKind.i64.wrap (9223372036854775807 - (v : Int)) = 9223372036854775807 - (v : Int) := i64_sum (by omega) (by omega)
  go_enter Try.func99, Try.ntmps99
  go_wp2_with (go_at_call 101; go_must (refine (HC.out _ (by omega) _).mono ?_); rintro e w1 ⟨A1, c1, rfl, hO1, hb1⟩)
  go_ret2
  exact ⟨A1, c1, rfl, hO1, hb1⟩
end Go.Proofs.Ytdaoinhkagmbdaa
namespace Go.Proofs.Ytdaoinhkagmbdaa
open Go.RowKit
set_option maxRecDepth 100000 in
set_option maxHeartbeats 1000000 in
theorem rOrdered_any (l : List UInt8) (A : Option Addr) (n c : Nat) (w : World) (hn : n ≤ 70368744177000) (hr : RB w w.heap.size A n l) :
    Calls Try.prog 98 #[.slice A n c] w (BytesPost 5 (ordB l) w) := by
  have HL := Lib.hid hr.len
  have HR : Hid (∀ w', Below w.heap.size w w' → RB w' w'.heap.size A n l) := Lib.hid fun w' h => hr.later h
  have HF : Hid (∀ k, ((l.take k).flatMap ordC).length ≤ 140737488354000) := Lib.hid fun k => by
    have := ordF_len (l.take k)
    have h2 : (l.take k).length ≤ l.length := by rw [List.length_take]; omega
    have h3 := HL.out
    omega
  clear hr
  go_enter Try.func98, Try.ntmps98
  go_wp2
  go_loopw [3, 4] (fun v i wr => ∃ (k : Nat) (P : List UInt8), k ≤ n ∧ i = .int .i64 k ∧ Hid (P = (l.take k).flatMap ordC) ∧ wr.ownsRow w.heap.size 5 1 v P.length (u8s P) ∧ Hid (Below w.heap.size w wr)) (fun _ i _ => n - (intOf i).toNat)
  case atStart => exact ⟨0, [], Nat.zero_le _, rfl, Lib.hid rfl, own_nil _ _ _ _, Lib.hid (Below.refl _ _)⟩
  case round =>
    obtain ⟨k, P, hk, rfl, HP, hown, HB⟩ := hrel
    obtain ⟨v, hv⟩ : ∃ v, v = u3 := ⟨_, rfl⟩
    rw [← hv] at hown ⊢
    clear hv
    have HPL : Hid (P.length ≤ 140737488354000) := Lib.hid (by rw [HP.out]; exact HF.out k)
    by_cases hlt : k < n
    case neg =>
      have HE : Hid (P ++ [0, 1] = ordB l) := Lib.hid (by rw [HP.out, take_all (by have := HL.out; omega)]; rfl)
      go_wp2_with (at_builtin; go_must (refine wpList_append_reads _ rfl (.tmp 26) (.tmp 27) rfl Try.u8s' w.heap.size v P.length (u8s P) rfl (hown.alloc _) (wr.heap.size + 1) (some ⟨wr.heap.size, 0, none⟩) 2 2 (u8s [0, 1]) rfl (by exact reads_lit wr _ [0, 1] _ _ rfl) (u8s_one _) (by have := HPL.out; unfold maxLen; omega) (by have := HPL.out; omega) (by have := HB.out.size; simp; omega) ?_); intro v1 w1 hown1 hg1 hat1)
      go_ret
      have hB : w.heap.size ≤ (wr.alloc (.cells #[.int .u8 0, .int .u8 1] 5)).heap.size := by have := HB.out.size; simp; omega
      have HB1 := below_app (HB.out.alloc HB.out.size _) (hown.alloc _) hg1 hB (Nat.le_refl _)
      rw [← u8s_append, HE.out] at hown1
      exact bytes_post hown1 HB1
    obtain ⟨b, o, y, rfl, _, hy, hcy⟩ := (HR.out _ HB.out).at_ hlt
    have HY := Lib.hid (ordB_take hy)
    have HY0 := Lib.hid hy
    clear hy
    by_cases h0 : y.toNat = 0
    · have HN : Hid ((P ++ [y]) ++ [255] = (l.take (k + 1)).flatMap ordC) := Lib.hid (by
        rw [HY.out, HP.out]
        unfold ordC
        rw [if_pos h0, UInt8.toNat_inj.1 (show y.toNat = (0 : UInt8).toNat from h0)]; simp)
      have hd : ((y.toNat : Int) == 0) = true := by rw [beq_iff_eq]; omega
      have tok1 : True := trivial
      clear HY h0
      go_wp2_with (first
        | (at_builtin; have _t := tok1; go_must (refine wpList_append_reads _ rfl (.tmp 11) (.tmp 16) rfl Try.u8s' w.heap.size v P.length (u8s P) rfl (hown.alloc _) (wr.heap.size + 1) (some ⟨wr.heap.size, 0, none⟩) 1 1 (u8s [y]) rfl (by exact reads_lit wr _ [y] _ _ rfl) (u8s_one _) (by have := HPL.out; unfold maxLen; omega) (by have := HPL.out; omega) (by have := HB.out.size; simp; omega) ?_); intro v1 w1 hown1 hg1 hat1; clear tok1; have HB1 := Lib.hid (below_app (HB.out.alloc HB.out.size (.cells #[.int .u8 (y.toNat : Int)] 5)) (hown.alloc _) hg1 (by have := HB.out.size; simp; omega) (Nat.le_refl _)); rw [← u8s_append] at hown1; have HO1 := Lib.hid hown1; have hcy1 := (HR.out _ HB1.out).cell HY0.out; clear hown1 hg1 hat1)
        | (at_builtin; go_must (refine wpList_append_reads _ rfl (.tmp 23) (.tmp 24) rfl Try.u8s' w.heap.size v1 (P.length + 1) (u8s (P ++ [y])) rfl (HO1.out.alloc _) (w1.heap.size + 1) (some ⟨w1.heap.size, 0, none⟩) 1 1 (u8s [255]) rfl (by exact reads_lit w1 _ [255] _ _ rfl) (u8s_one _) (by have := HPL.out; unfold maxLen; omega) (by have := HPL.out; omega) (by have := HB1.out.size; simp; omega) ?_); intro v2 w2 hown2 hg2 hat2; have HB2 := Lib.hid (below_app (HB1.out.alloc HB1.out.size (.cells #[.int .u8 255] 5)) (HO1.out.alloc _) hg2 (by have := HB1.out.size; simp; omega) (Nat.le_refl _)); rw [← u8s_append] at hown2; have HO2 := Lib.hid hown2; clear hown2 hg2 hat2))
      have hO2 : w2.ownsRow w.heap.size 5 1 v2 ((P ++ [y]) ++ [255]).length (u8s ((P ++ [y]) ++ [255])) := by
        have := HO2.out
        have e : ((P ++ [y]) ++ [(255 : UInt8)]).length = P.length + 1 + 1 := by simp
        rw [e]; exact this
      clear HO2 HO1
      go_roundw
      case rel => exact ⟨k + 1, (P ++ [y]) ++ [255], by omega, by go_num, HN, hO2, HB2⟩
      case measure => simp [intOf]; omega
    · have HN : Hid (P ++ [y] = (l.take (k + 1)).flatMap ordC) := Lib.hid (by
        rw [HY.out, HP.out]
        unfold ordC
        rw [if_neg h0])
      have hd : ((y.toNat : Int) == 0) = false := by rw [beq_eq_false_iff_ne]; omega
      clear HY h0
      go_wp2_with (at_builtin; go_must (refine wpList_append_reads _ rfl (.tmp 11) (.tmp 16) rfl Try.u8s' w.heap.size v P.length (u8s P) rfl (hown.alloc _) (wr.heap.size + 1) (some ⟨wr.heap.size, 0, none⟩) 1 1 (u8s [y]) rfl (by exact reads_lit wr _ [y] _ _ rfl) (u8s_one _) (by have := HPL.out; unfold maxLen; omega) (by have := HPL.out; omega) (by have := HB.out.size; simp; omega) ?_); intro v1 w1 hown1 hg1 hat1; have HB1 := Lib.hid (below_app (HB.out.alloc HB.out.size (.cells #[.int .u8 (y.toNat : Int)] 5)) (hown.alloc _) hg1 (by have := HB.out.size; simp; omega) (Nat.le_refl _)); rw [← u8s_append] at hown1; have HO1 := Lib.hid hown1; have hcy1 := (HR.out _ HB1.out).cell HY0.out; clear hown1 hg1 hat1)
      have hO1 : w1.ownsRow w.heap.size 5 1 v1 (P ++ [y]).length (u8s (P ++ [y])) := by
        have := HO1.out
        rw [show (P ++ [y]).length = P.length + 1 from by simp]; exact this
      clear HO1
      go_roundw
      case rel => exact ⟨k + 1, P ++ [y], by omega, by go_num, HN, hO1, HB1⟩
      case measure => simp [intOf]; omega
end Go.Proofs.Ytdaoinhkagmbdaa
namespace Go.Proofs.Ytdaoinhkagmbdaa
open Go.RowKit
theorem rFalling_at (v : Nat) (w : World) (hv : v < 9223372036854775808) : Calls Try.prog 99 #[.int .i64 v] w fun e w' => ∃ A c, e = .returned (.tuple #[.slice A 8 c, .int .i64 0]) ∧ w'.ownsRow w.heap.size 5 1 (.slice A 8 c) 8 (u8s (numK v)) ∧ Below w.heap.size w w' := by
  refine (rFalling_any v w hv).mono fun e w' h => ?_
  obtain ⟨A, c, h1, h2, h3, h4⟩ := BytesPost2.at_ h (risB_len _) rfl
  refine ⟨A, c, h1, ?_, h4⟩
  unfold numK
  rw [Int.toNat_natCast]
  have := h3
  unfold OwnB at this
  rw [risB_len] at this
  exact this
set_option maxRecDepth 100000 in
set_option maxHeartbeats 2000000 in
theorem rkey_five (row qual : List UInt8) (A : Option Addr) (n c F : Nat) (B : Option Addr) (m d T S : Nat) (D : Option Addr) (v q : Nat) (w : World) (hrow : Sl w A n c row) (hqual : Sl w B m d qual) (hz : checkN n F m T S 5 v = 0) :
    Calls Try.prog 89 #[.agg #[.slice A n c, .int .i64 (F : Int), .slice B m d, .int .i64 (T : Int), .int .i64 (S : Int), .int .i64 5, .slice D v q]] w (BytesPost 5 (keyE ⟨row, F, qual, T, S, 5, []⟩) w) := by
  obtain ⟨z1, z2, z3, z4, z5, z6, -⟩ := checkN_ok hz
  have HN : Hid (n ≤ 256 ∧ m ≤ 256 ∧ T ≤ 1099511627776 ∧ S ≤ 17592186044431) := Lib.hid (by omega)
  have HR : Hid (∀ x, Below w.heap.size w x → Sl x A n c row) := Lib.hid fun x h => hrow.later h
  have HQ : Hid (∀ x, Below w.heap.size w x → Sl x B m d qual) := Lib.hid fun x h => hqual.later h
  have HLEN : Hid ((ordB row).length ≤ 514 ∧ (ordB qual).length ≤ 514) := Lib.hid (by
    have h1 := ordB_len row; have h2 := ordB_len qual; have h3 := hrow.len; have h4 := hqual.len; omega)
  have HX0 := Lib.hid (Bx.new w #[.slice A n c, .int .i64 (F : Int), .slice B m d, .int .i64 (T : Int), .int .i64 (S : Int), .int .i64 5, .slice D v q] 30)
  clear hz z1 z2 z3 z4 z5 z6 hrow hqual
  have tO1 : True := trivial
  have tA1 : True := trivial
  have tA2 : True := trivial
  have tF1 : True := trivial
  have tA5 : True := trivial
  have tA6 : True := trivial
  go_enter Try.func89, Try.ntmps89
  go_wp2_with (first
    | (go_at_call 98; have _t := tO1; go_must (refine (rOrdered_any row A n c _ (by have := HN.out; omega) (HR.out _ HX0.out.up).rb).mono ?_); rintro e x1 ⟨A1, c1, rfl, hO1, hb1⟩; have HX1 := Lib.hid (HX0.out.later hb1); have HO1 := Lib.hid (own_low hO1 HX0.out.size); clear hO1 hb1 tO1; have q1_1 := HX1.out.cell (i := 1) (v := .int .i64 (F : Int)) rfl)
    | (at_builtin; have _t := tA1; go_must (refine wpList_append_reads _ rfl (.tmp 12) (.tmp 16) rfl Try.u8s' (w.heap.size + 1) (.slice A1 (ordB row).length c1) ((ordB row).length) (u8s (ordB row)) rfl (HO1.out.alloc _) (x1.heap.size + 1) (some ⟨x1.heap.size, 0, none⟩) 1 1 (u8s ([UInt8.ofNat F])) rfl (by exact reads_lit x1 _ ([UInt8.ofNat F]) _ _ (by show [_] = [u8v _]; rw [u8v_mod])) (u8s_one _) (by have := HLEN.out; unfold maxLen; omega) (by have := HLEN.out; omega) (by have := HX1.out.size; simp; omega) ?_); intro v2 x2 hown hg hat; clear tA1; have HX2 := Lib.hid ((HX1.out.alloc _).grow (HO1.out.alloc _) hg); rw [← u8s_append] at hown; have HO2 := Lib.hid hown; clear hown hg hat; have q2_5 := HX2.out.cell (i := 5) (v := .int .i64 5) rfl)
    | (at_builtin; have _t := tA2; go_must (refine wpList_append_reads _ rfl (.tmp 21) (.tmp 22) rfl Try.u8s' (w.heap.size + 1) v2 ((ordB row).length + 1) (u8s ((ordB row) ++ [UInt8.ofNat F])) rfl (HO2.out.alloc _) (x2.heap.size + 1) (some ⟨x2.heap.size, 0, none⟩) 1 1 (u8s ([0])) rfl (by exact reads_lit x2 _ ([0]) _ _ (by rfl)) (u8s_one _) (by have := HLEN.out; unfold maxLen; omega) (by have := HLEN.out; omega) (by have := HX2.out.size; simp; omega) ?_); intro v3 x3 hown hg hat; clear tA2; have HX3 := Lib.hid ((HX2.out.alloc _).grow (HO2.out.alloc _) hg); rw [← u8s_append] at hown; have HO3 := Lib.hid hown; clear hown hg hat; have q3_3 := HX3.out.cell (i := 3) (v := .int .i64 (T : Int)) rfl)
    | (go_at_call 99; have _t := tF1; go_must (refine (rFalling_at T _ (by have := HN.out; omega)).mono ?_); rintro e x7 ⟨A7, c7, rfl, hO7, hb7⟩; have HX7 := Lib.hid (HX3.out.later hb7); have HO7 := Lib.hid (own_below HO3.out hb7); have HT7 := Lib.hid hO7; clear hO7 hb7 tF1; have q7_4 := HX7.out.cell (i := 4) (v := .int .i64 (S : Int)) rfl)
    | (go_at_call 99; go_must (refine (rFalling_at S _ (by have := HN.out; omega)).mono ?_); rintro e x8 ⟨A8, c8, rfl, hO8, hb8⟩; have HX8 := Lib.hid (HX7.out.later hb8); have HO8 := Lib.hid (own_below HO7.out hb8); have HS8 := Lib.hid hO8; have HR8 := Lib.hid (RB.own (own_below HT7.out hb8)); clear hO8 hb8)
    | (at_builtin; have _t := tA5; go_must (refine wpList_append_reads _ rfl (.tmp 51) (.tmp 52) rfl Try.u8s' (w.heap.size + 1) v3 ((ordB row).length + 1 + 1) (u8s (((ordB row) ++ [UInt8.ofNat F]) ++ [0])) rfl HO8.out x8.heap.size A7 8 c7 (u8s (numK T)) rfl HR8.out (u8s_one _) (by have := HLEN.out; unfold maxLen; omega) (by have := HLEN.out; omega) (by have := HX8.out.size; omega) ?_); intro v9 x9 hown hg hat; clear tA5; have HR9 := Lib.hid (RB.own (own_aside HS8.out HO7.out (Nat.le_refl _) hg)); have HX9 := Lib.hid (HX8.out.grow HO8.out hg); rw [← u8s_append] at hown; have HO9 := Lib.hid hown; clear hown hg hat; have q9_5 := HX9.out.cell (i := 5) (v := .int .i64 5) rfl)
    | (at_builtin; have _t := tA6; go_must (refine wpList_append_reads _ rfl (.tmp 54) (.tmp 55) rfl Try.u8s' (w.heap.size + 1) v9 ((ordB row).length + 1 + 1 + 8) (u8s ((((ordB row) ++ [UInt8.ofNat F]) ++ [0]) ++ numK T)) rfl HO9.out x9.heap.size A8 8 c8 (u8s (numK S)) rfl HR9.out (u8s_one _) (by have := HLEN.out; unfold maxLen; omega) (by have := HLEN.out; omega) (by have := HX9.out.size; omega) ?_); intro va xa hown hg hat; clear tA6; have HXa := Lib.hid (HX9.out.grow HO9.out hg); rw [← u8s_append] at hown; have HOa := Lib.hid hown; clear hown hg hat; have q10_5 := HXa.out.cell (i := 5) (v := .int .i64 5) rfl)
    | (at_builtin; go_must (refine wpList_append_reads _ rfl (.tmp 57) (.tmp 61) rfl Try.u8s' (w.heap.size + 1) va ((ordB row).length + 1 + 1 + 8 + 8) (u8s (((((ordB row) ++ [UInt8.ofNat F]) ++ [0]) ++ numK T) ++ numK S)) rfl (HOa.out.alloc _) (xa.heap.size + 1) (some ⟨xa.heap.size, 0, none⟩) 1 1 (u8s ([UInt8.ofNat 5])) rfl (by exact reads_lit xa _ ([UInt8.ofNat 5]) _ _ (by rfl)) (u8s_one _) (by have := HLEN.out; unfold maxLen; omega) (by have := HLEN.out; omega) (by have := HXa.out.size; simp; omega) ?_); intro vb xb hown hg hat; have HXb := Lib.hid ((HXa.out.alloc _).grow (HOa.out.alloc _) hg); rw [← u8s_append] at hown; have HOb := Lib.hid hown; clear hown hg hat))
  go_ret
  have hf : ((((((ordB row) ++ [UInt8.ofNat F]) ++ [0]) ++ numK T) ++ numK S) ++ [UInt8.ofNat 5]) = keyE ⟨row, F, qual, T, S, 5, []⟩ := by
    unfold keyE tailK qualK
    simp [flg]
  have := HOb.out
  rw [hf] at this
  exact bytes_post (own_low this (Nat.le_succ _)) HXb.out.up
set_option maxRecDepth 100000 in
set_option maxHeartbeats 2000000 in
theorem rkey_four (row qual : List UInt8) (A : Option Addr) (n c F : Nat) (B : Option Addr) (m d T S : Nat) (D : Option Addr) (v q : Nat) (w : World) (hrow : Sl w A n c row) (hqual : Sl w B m d qual) (hz : checkN n F m T S 4 v = 0) :
    Calls Try.prog 89 #[.agg #[.slice A n c, .int .i64 (F : Int), .slice B m d, .int .i64 (T : Int), .int .i64 (S : Int), .int .i64 4, .slice D v q]] w (BytesPost 5 (keyE ⟨row, F, qual, T, S, 4, []⟩) w) := by
  obtain ⟨z1, z2, z3, z4, z5, z6, -⟩ := checkN_ok hz
  have HN : Hid (n ≤ 256 ∧ m ≤ 256 ∧ T ≤ 1099511627776 ∧ S ≤ 17592186044431) := Lib.hid (by omega)
  have HR : Hid (∀ x, Below w.heap.size w x → Sl x A n c row) := Lib.hid fun x h => hrow.later h
  have HQ : Hid (∀ x, Below w.heap.size w x → Sl x B m d qual) := Lib.hid fun x h => hqual.later h
  have HLEN : Hid ((ordB row).length ≤ 514 ∧ (ordB qual).length ≤ 514) := Lib.hid (by
    have h1 := ordB_len row; have h2 := ordB_len qual; have h3 := hrow.len; have h4 := hqual.len; omega)
  have HX0 := Lib.hid (Bx.new w #[.slice A n c, .int .i64 (F : Int), .slice B m d, .int .i64 (T : Int), .int .i64 (S : Int), .int .i64 4, .slice D v q] 30)
  clear hz z1 z2 z3 z4 z5 z6 hrow hqual
  have tO1 : True := trivial
  have tA1 : True := trivial
  have tA2 : True := trivial
  have tF1 : True := trivial
  have tA5 : True := trivial
  have tA6 : True := trivial
  have tO2 : True := trivial
  have tA3 : True := trivial
  have tA4 : True := trivial
  go_enter Try.func89, Try.ntmps89
  go_wp2_with (first
    | (go_at_call 98; have _t := tO1; go_must (refine (rOrdered_any row A n c _ (by have := HN.out; omega) (HR.out _ HX0.out.up).rb).mono ?_); rintro e x1 ⟨A1, c1, rfl, hO1, hb1⟩; have HX1 := Lib.hid (HX0.out.later hb1); have HO1 := Lib.hid (own_low hO1 HX0.out.size); clear hO1 hb1 tO1; have q1_1 := HX1.out.cell (i := 1) (v := .int .i64 (F : Int)) rfl)
    | (at_builtin; have _t := tA1; go_must (refine wpList_append_reads _ rfl (.tmp 12) (.tmp 16) rfl Try.u8s' (w.heap.size + 1) (.slice A1 (ordB row).length c1) ((ordB row).length) (u8s (ordB row)) rfl (HO1.out.alloc _) (x1.heap.size + 1) (some ⟨x1.heap.size, 0, none⟩) 1 1 (u8s ([UInt8.ofNat F])) rfl (by exact reads_lit x1 _ ([UInt8.ofNat F]) _ _ (by show [_] = [u8v _]; rw [u8v_mod])) (u8s_one _) (by have := HLEN.out; unfold maxLen; omega) (by have := HLEN.out; omega) (by have := HX1.out.size; simp; omega) ?_); intro v2 x2 hown hg hat; clear tA1; have HX2 := Lib.hid ((HX1.out.alloc _).grow (HO1.out.alloc _) hg); rw [← u8s_append] at hown; have HO2 := Lib.hid hown; clear hown hg hat; have q2_5 := HX2.out.cell (i := 5) (v := .int .i64 4) rfl)
    | (at_builtin; have _t := tA2; go_must (refine wpList_append_reads _ rfl (.tmp 24) (.tmp 25) rfl Try.u8s' (w.heap.size + 1) v2 ((ordB row).length + 1) (u8s ((ordB row) ++ [UInt8.ofNat F])) rfl (HO2.out.alloc _) (x2.heap.size + 1) (some ⟨x2.heap.size, 0, none⟩) 1 1 (u8s ([1])) rfl (by exact reads_lit x2 _ ([1]) _ _ (by rfl)) (u8s_one _) (by have := HLEN.out; unfold maxLen; omega) (by have := HLEN.out; omega) (by have := HX2.out.size; simp; omega) ?_); intro v3 x3 hown hg hat; clear tA2; have HX3 := Lib.hid ((HX2.out.alloc _).grow (HO2.out.alloc _) hg); rw [← u8s_append] at hown; have HO3 := Lib.hid hown; clear hown hg hat; have q3_2 := HX3.out.cell (i := 2) (v := .slice B m d) rfl)
    | (go_at_call 98; have _t := tO2; go_must (refine (rOrdered_any qual B m d _ (by have := HN.out; omega) (HQ.out _ HX3.out.up).rb).mono ?_); rintro e x4 ⟨A4, c4, rfl, hO4, hb4⟩; have HX4 := Lib.hid (HX3.out.later hb4); have HO4 := Lib.hid (own_below HO3.out hb4); have HR4 := Lib.hid (RB.own hO4); clear hO4 hb4 tO2)
    | (at_builtin; have _t := tA3; go_must (refine wpList_append_reads _ rfl (.tmp 27) (.tmp 30) rfl Try.u8s' (w.heap.size + 1) v3 ((ordB row).length + 1 + 1) (u8s (((ordB row) ++ [UInt8.ofNat F]) ++ [1])) rfl HO4.out x4.heap.size A4 (ordB qual).length c4 (u8s (ordB qual)) rfl HR4.out (u8s_one _) (by have := HLEN.out; unfold maxLen; omega) (by have := HLEN.out; omega) (by have := HX4.out.size; omega) ?_); intro v5 x5 hown hg hat; clear tA3; have HX5 := Lib.hid (HX4.out.grow HO4.out hg); rw [← u8s_append] at hown; have HO5 := Lib.hid hown; clear hown hg hat; have q5_5 := HX5.out.cell (i := 5) (v := .int .i64 4) rfl)
    | (at_builtin; have _t := tA4; go_must (refine wpList_append_reads _ rfl (.tmp 35) (.tmp 37) rfl Try.u8s' (w.heap.size + 1) v5 ((ordB row).length + 1 + 1 + (ordB qual).length) (u8s ((((ordB row) ++ [UInt8.ofNat F]) ++ [1]) ++ ordB qual)) rfl (HO5.out.alloc _) (x5.heap.size + 1) (some ⟨x5.heap.size, 0, none⟩) 1 1 (u8s ([0])) rfl (by exact reads_lit x5 _ ([0]) _ _ (by rfl)) (u8s_one _) (by have := HLEN.out; unfold maxLen; omega) (by have := HLEN.out; omega) (by have := HX5.out.size; simp; omega) ?_); intro v6 x6 hown hg hat; clear tA4; have HX6 := Lib.hid ((HX5.out.alloc _).grow (HO5.out.alloc _) hg); rw [← u8s_append] at hown; have HO6 := Lib.hid hown; clear hown hg hat; have q6_3 := HX6.out.cell (i := 3) (v := .int .i64 (T : Int)) rfl)
    | (go_at_call 99; have _t := tF1; go_must (refine (rFalling_at T _ (by have := HN.out; omega)).mono ?_); rintro e x7 ⟨A7, c7, rfl, hO7, hb7⟩; have HX7 := Lib.hid (HX6.out.later hb7); have HO7 := Lib.hid (own_below HO6.out hb7); have HT7 := Lib.hid hO7; clear hO7 hb7 tF1; have q7_4 := HX7.out.cell (i := 4) (v := .int .i64 (S : Int)) rfl)
    | (go_at_call 99; go_must (refine (rFalling_at S _ (by have := HN.out; omega)).mono ?_); rintro e x8 ⟨A8, c8, rfl, hO8, hb8⟩; have HX8 := Lib.hid (HX7.out.later hb8); have HO8 := Lib.hid (own_below HO7.out hb8); have HS8 := Lib.hid hO8; have HR8 := Lib.hid (RB.own (own_below HT7.out hb8)); clear hO8 hb8)
    | (at_builtin; have _t := tA5; go_must (refine wpList_append_reads _ rfl (.tmp 51) (.tmp 52) rfl Try.u8s' (w.heap.size + 1) v6 ((ordB row).length + 1 + 1 + (ordB qual).length + 1) (u8s (((((ordB row) ++ [UInt8.ofNat F]) ++ [1]) ++ ordB qual) ++ [0])) rfl HO8.out x8.heap.size A7 8 c7 (u8s (numK T)) rfl HR8.out (u8s_one _) (by have := HLEN.out; unfold maxLen; omega) (by have := HLEN.out; omega) (by have := HX8.out.size; omega) ?_); intro v9 x9 hown hg hat; clear tA5; have HR9 := Lib.hid (RB.own (own_aside HS8.out HO7.out (Nat.le_refl _) hg)); have HX9 := Lib.hid (HX8.out.grow HO8.out hg); rw [← u8s_append] at hown; have HO9 := Lib.hid hown; clear hown hg hat; have q9_5 := HX9.out.cell (i := 5) (v := .int .i64 4) rfl)
    | (at_builtin; have _t := tA6; go_must (refine wpList_append_reads _ rfl (.tmp 54) (.tmp 55) rfl Try.u8s' (w.heap.size + 1) v9 ((ordB row).length + 1 + 1 + (ordB qual).length + 1 + 8) (u8s ((((((ordB row) ++ [UInt8.ofNat F]) ++ [1]) ++ ordB qual) ++ [0]) ++ numK T)) rfl HO9.out x9.heap.size A8 8 c8 (u8s (numK S)) rfl HR9.out (u8s_one _) (by have := HLEN.out; unfold maxLen; omega) (by have := HLEN.out; omega) (by have := HX9.out.size; omega) ?_); intro va xa hown hg hat; clear tA6; have HXa := Lib.hid (HX9.out.grow HO9.out hg); rw [← u8s_append] at hown; have HOa := Lib.hid hown; clear hown hg hat; have q10_5 := HXa.out.cell (i := 5) (v := .int .i64 4) rfl)
    | (at_builtin; go_must (refine wpList_append_reads _ rfl (.tmp 57) (.tmp 61) rfl Try.u8s' (w.heap.size + 1) va ((ordB row).length + 1 + 1 + (ordB qual).length + 1 + 8 + 8) (u8s (((((((ordB row) ++ [UInt8.ofNat F]) ++ [1]) ++ ordB qual) ++ [0]) ++ numK T) ++ numK S)) rfl (HOa.out.alloc _) (xa.heap.size + 1) (some ⟨xa.heap.size, 0, none⟩) 1 1 (u8s ([UInt8.ofNat 4])) rfl (by exact reads_lit xa _ ([UInt8.ofNat 4]) _ _ (by rfl)) (u8s_one _) (by have := HLEN.out; unfold maxLen; omega) (by have := HLEN.out; omega) (by have := HXa.out.size; simp; omega) ?_); intro vb xb hown hg hat; have HXb := Lib.hid ((HXa.out.alloc _).grow (HOa.out.alloc _) hg); rw [← u8s_append] at hown; have HOb := Lib.hid hown; clear hown hg hat))
  go_ret
  have hf : ((((((((ordB row) ++ [UInt8.ofNat F]) ++ [1]) ++ ordB qual) ++ [0]) ++ numK T) ++ numK S) ++ [UInt8.ofNat 4]) = keyE ⟨row, F, qual, T, S, 4, []⟩ := by
    unfold keyE tailK qualK
    simp [flg]
  have := HOb.out
  rw [hf] at this
  exact bytes_post (own_low this (Nat.le_succ _)) HXb.out.up
set_option maxRecDepth 100000 in
set_option maxHeartbeats 2000000 in
theorem rkey_more (row qual : List UInt8) (A : Option Addr) (n c F : Nat) (B : Option Addr) (m d T S K : Nat) (D : Option Addr) (v q : Nat) (w : World) (hrow : Sl w A n c row) (hqual : Sl w B m d qual) (hz : checkN n F m T S K v = 0) (hk5 : K ≠ 5) (hk4 : K ≠ 4) :
    Calls Try.prog 89 #[.agg #[.slice A n c, .int .i64 (F : Int), .slice B m d, .int .i64 (T : Int), .int .i64 (S : Int), .int .i64 (K : Int), .slice D v q]] w (BytesPost 5 (keyE ⟨row, F, qual, T, S, (K : Int), []⟩) w) := by
  obtain ⟨z1, z2, z3, z4, z5, z6, -⟩ := checkN_ok hz
  have HN : Hid (n ≤ 256 ∧ m ≤ 256 ∧ T ≤ 1099511627776 ∧ S ≤ 17592186044431) := Lib.hid (by omega)
  have HR : Hid (∀ x, Below w.heap.size w x → Sl x A n c row) := Lib.hid fun x h => hrow.later h
  have HQ : Hid (∀ x, Below w.heap.size w x → Sl x B m d qual) := Lib.hid fun x h => hqual.later h
  have HLEN : Hid ((ordB row).length ≤ 514 ∧ (ordB qual).length ≤ 514) := Lib.hid (by
    have h1 := ordB_len row; have h2 := ordB_len qual; have h3 := hrow.len; have h4 := hqual.len; omega)
  have HX0 := Lib.hid (Bx.new w #[.slice A n c, .int .i64 (F : Int), .slice B m d, .int .i64 (T : Int), .int .i64 (S : Int), .int .i64 (K : Int), .slice D v q] 30)
  have hkk5 : ((K : Int) == 5) = false := by rw [beq_eq_false_iff_ne]; omega
  have hkk4 : ((K : Int) == 4) = false := by rw [beq_eq_false_iff_ne]; omega
  have HK5 := Lib.hid hk5
  have HK4 := Lib.hid hk4
  clear hk5 hk4
  clear hz z1 z2 z3 z4 z5 z6 hrow hqual
  have tO1 : True := trivial
  have tA1 : True := trivial
  have tA2 : True := trivial
  have tF1 : True := trivial
  have tA5 : True := trivial
  have tA6 : True := trivial
  have tO2 : True := trivial
  have tA3 : True := trivial
  have tA4 : True := trivial
  go_enter Try.func89, Try.ntmps89
  go_wp2_with (first
    | (go_at_call 98; have _t := tO1; go_must (refine (rOrdered_any row A n c _ (by have := HN.out; omega) (HR.out _ HX0.out.up).rb).mono ?_); rintro e x1 ⟨A1, c1, rfl, hO1, hb1⟩; have HX1 := Lib.hid (HX0.out.later hb1); have HO1 := Lib.hid (own_low hO1 HX0.out.size); clear hO1 hb1 tO1; have q1_1 := HX1.out.cell (i := 1) (v := .int .i64 (F : Int)) rfl)
    | (at_builtin; have _t := tA1; go_must (refine wpList_append_reads _ rfl (.tmp 12) (.tmp 16) rfl Try.u8s' (w.heap.size + 1) (.slice A1 (ordB row).length c1) ((ordB row).length) (u8s (ordB row)) rfl (HO1.out.alloc _) (x1.heap.size + 1) (some ⟨x1.heap.size, 0, none⟩) 1 1 (u8s ([UInt8.ofNat F])) rfl (by exact reads_lit x1 _ ([UInt8.ofNat F]) _ _ (by show [_] = [u8v _]; rw [u8v_mod])) (u8s_one _) (by have := HLEN.out; unfold maxLen; omega) (by have := HLEN.out; omega) (by have := HX1.out.size; simp; omega) ?_); intro v2 x2 hown hg hat; clear tA1; have HX2 := Lib.hid ((HX1.out.alloc _).grow (HO1.out.alloc _) hg); rw [← u8s_append] at hown; have HO2 := Lib.hid hown; clear hown hg hat; have q2_5 := HX2.out.cell (i := 5) (v := .int .i64 (K : Int)) rfl)
    | (at_builtin; have _t := tA2; go_must (refine wpList_append_reads _ rfl (.tmp 24) (.tmp 25) rfl Try.u8s' (w.heap.size + 1) v2 ((ordB row).length + 1) (u8s ((ordB row) ++ [UInt8.ofNat F])) rfl (HO2.out.alloc _) (x2.heap.size + 1) (some ⟨x2.heap.size, 0, none⟩) 1 1 (u8s ([1])) rfl (by exact reads_lit x2 _ ([1]) _ _ (by rfl)) (u8s_one _) (by have := HLEN.out; unfold maxLen; omega) (by have := HLEN.out; omega) (by have := HX2.out.size; simp; omega) ?_); intro v3 x3 hown hg hat; clear tA2; have HX3 := Lib.hid ((HX2.out.alloc _).grow (HO2.out.alloc _) hg); rw [← u8s_append] at hown; have HO3 := Lib.hid hown; clear hown hg hat; have q3_2 := HX3.out.cell (i := 2) (v := .slice B m d) rfl)
    | (go_at_call 98; have _t := tO2; go_must (refine (rOrdered_any qual B m d _ (by have := HN.out; omega) (HQ.out _ HX3.out.up).rb).mono ?_); rintro e x4 ⟨A4, c4, rfl, hO4, hb4⟩; have HX4 := Lib.hid (HX3.out.later hb4); have HO4 := Lib.hid (own_below HO3.out hb4); have HR4 := Lib.hid (RB.own hO4); clear hO4 hb4 tO2)
    | (at_builtin; have _t := tA3; go_must (refine wpList_append_reads _ rfl (.tmp 27) (.tmp 30) rfl Try.u8s' (w.heap.size + 1) v3 ((ordB row).length + 1 + 1) (u8s (((ordB row) ++ [UInt8.ofNat F]) ++ [1])) rfl HO4.out x4.heap.size A4 (ordB qual).length c4 (u8s (ordB qual)) rfl HR4.out (u8s_one _) (by have := HLEN.out; unfold maxLen; omega) (by have := HLEN.out; omega) (by have := HX4.out.size; omega) ?_); intro v5 x5 hown hg hat; clear tA3; have HX5 := Lib.hid (HX4.out.grow HO4.out hg); rw [← u8s_append] at hown; have HO5 := Lib.hid hown; clear hown hg hat; have q5_5 := HX5.out.cell (i := 5) (v := .int .i64 (K : Int)) rfl)
    | (at_builtin; have _t := tA4; go_must (refine wpList_append_reads _ rfl (.tmp 35) (.tmp 37) rfl Try.u8s' (w.heap.size + 1) v5 ((ordB row).length + 1 + 1 + (ordB qual).length) (u8s ((((ordB row) ++ [UInt8.ofNat F]) ++ [1]) ++ ordB qual)) rfl (HO5.out.alloc _) (x5.heap.size + 1) (some ⟨x5.heap.size, 0, none⟩) 1 1 (u8s ([1])) rfl (by exact reads_lit x5 _ ([1]) _ _ (by rfl)) (u8s_one _) (by have := HLEN.out; unfold maxLen; omega) (by have := HLEN.out; omega) (by have := HX5.out.size; simp; omega) ?_); intro v6 x6 hown hg hat; clear tA4; have HX6 := Lib.hid ((HX5.out.alloc _).grow (HO5.out.alloc _) hg); rw [← u8s_append] at hown; have HO6 := Lib.hid hown; clear hown hg hat; have q6_3 := HX6.out.cell (i := 3) (v := .int .i64 (T : Int)) rfl)
    | (go_at_call 99; have _t := tF1; go_must (refine (rFalling_at T _ (by have := HN.out; omega)).mono ?_); rintro e x7 ⟨A7, c7, rfl, hO7, hb7⟩; have HX7 := Lib.hid (HX6.out.later hb7); have HO7 := Lib.hid (own_below HO6.out hb7); have HT7 := Lib.hid hO7; clear hO7 hb7 tF1; have q7_4 := HX7.out.cell (i := 4) (v := .int .i64 (S : Int)) rfl)
    | (go_at_call 99; go_must (refine (rFalling_at S _ (by have := HN.out; omega)).mono ?_); rintro e x8 ⟨A8, c8, rfl, hO8, hb8⟩; have HX8 := Lib.hid (HX7.out.later hb8); have HO8 := Lib.hid (own_below HO7.out hb8); have HS8 := Lib.hid hO8; have HR8 := Lib.hid (RB.own (own_below HT7.out hb8)); clear hO8 hb8)
    | (at_builtin; have _t := tA5; go_must (refine wpList_append_reads _ rfl (.tmp 51) (.tmp 52) rfl Try.u8s' (w.heap.size + 1) v6 ((ordB row).length + 1 + 1 + (ordB qual).length + 1) (u8s (((((ordB row) ++ [UInt8.ofNat F]) ++ [1]) ++ ordB qual) ++ [1])) rfl HO8.out x8.heap.size A7 8 c7 (u8s (numK T)) rfl HR8.out (u8s_one _) (by have := HLEN.out; unfold maxLen; omega) (by have := HLEN.out; omega) (by have := HX8.out.size; omega) ?_); intro v9 x9 hown hg hat; clear tA5; have HR9 := Lib.hid (RB.own (own_aside HS8.out HO7.out (Nat.le_refl _) hg)); have HX9 := Lib.hid (HX8.out.grow HO8.out hg); rw [← u8s_append] at hown; have HO9 := Lib.hid hown; clear hown hg hat; have q9_5 := HX9.out.cell (i := 5) (v := .int .i64 (K : Int)) rfl)
    | (at_builtin; have _t := tA6; go_must (refine wpList_append_reads _ rfl (.tmp 54) (.tmp 55) rfl Try.u8s' (w.heap.size + 1) v9 ((ordB row).length + 1 + 1 + (ordB qual).length + 1 + 8) (u8s ((((((ordB row) ++ [UInt8.ofNat F]) ++ [1]) ++ ordB qual) ++ [1]) ++ numK T)) rfl HO9.out x9.heap.size A8 8 c8 (u8s (numK S)) rfl HR9.out (u8s_one _) (by have := HLEN.out; unfold maxLen; omega) (by have := HLEN.out; omega) (by have := HX9.out.size; omega) ?_); intro va xa hown hg hat; clear tA6; have HXa := Lib.hid (HX9.out.grow HO9.out hg); rw [← u8s_append] at hown; have HOa := Lib.hid hown; clear hown hg hat; have q10_5 := HXa.out.cell (i := 5) (v := .int .i64 (K : Int)) rfl)
    | (at_builtin; go_must (refine wpList_append_reads _ rfl (.tmp 57) (.tmp 61) rfl Try.u8s' (w.heap.size + 1) va ((ordB row).length + 1 + 1 + (ordB qual).length + 1 + 8 + 8) (u8s (((((((ordB row) ++ [UInt8.ofNat F]) ++ [1]) ++ ordB qual) ++ [1]) ++ numK T) ++ numK S)) rfl (HOa.out.alloc _) (xa.heap.size + 1) (some ⟨xa.heap.size, 0, none⟩) 1 1 (u8s ([UInt8.ofNat K])) rfl (by exact reads_lit xa _ ([UInt8.ofNat K]) _ _ (by show [_] = [u8v _]; rw [u8v_mod])) (u8s_one _) (by have := HLEN.out; unfold maxLen; omega) (by have := HLEN.out; omega) (by have := HXa.out.size; simp; omega) ?_); intro vb xb hown hg hat; have HXb := Lib.hid ((HXa.out.alloc _).grow (HOa.out.alloc _) hg); rw [← u8s_append] at hown; have HOb := Lib.hid hown; clear hown hg hat))
  go_ret
  have hf : ((((((((ordB row) ++ [UInt8.ofNat F]) ++ [1]) ++ ordB qual) ++ [1]) ++ numK T) ++ numK S) ++ [UInt8.ofNat K]) = keyE ⟨row, F, qual, T, S, (K : Int), []⟩ := by
    unfold keyE tailK qualK
    have a5 : ¬ ((K : Int) = 5) := by have := HK5.out; omega
    have e5 : ((K : Int) == 5) = false := hkk5
    have e4 : ((K : Int) == 4) = false := hkk4
    rw [if_neg a5]
    simp only [e5, e4]
    simp [flg]
  have := HOb.out
  rw [hf] at this
  exact bytes_post (own_low this (Nat.le_succ _)) HXb.out.up
theorem rkey_any (e : Ent) (hz : checkE e = 0) (A : Option Addr) (n c : Nat) (B : Option Addr) (m d : Nat) (D : Option Addr) (v q : Nat) (w : World) (h : En w A n c B m d D v q e) :
    Calls Try.prog 89 #[entV A n c B m d D v q e] w (BytesPost 5 (keyE e) w) := by
  obtain ⟨row, f, qual, t, s, k, val⟩ := e
  have hl1 : row.length = n := h.row.len
  have hl2 : qual.length = m := h.qual.len
  have hl3 : val.length = v := h.val.len
  have hc : checkE ⟨row, f, qual, t, s, k, val⟩ = checkN n f m t s k v := by unfold checkE; simp only [hl1, hl2, hl3]
  rw [hc] at hz
  obtain ⟨z1, z2, z3, z4, z5, z6, -⟩ := checkN_ok hz
  obtain ⟨F, rfl⟩ : ∃ F : Nat, f = F := ⟨f.toNat, by omega⟩
  obtain ⟨T, rfl⟩ : ∃ T : Nat, t = T := ⟨t.toNat, by omega⟩
  obtain ⟨S, rfl⟩ : ∃ S : Nat, s = S := ⟨s.toNat, by omega⟩
  obtain ⟨K, rfl⟩ : ∃ K : Nat, k = K := ⟨k.toNat, by omega⟩
  by_cases hk : K = 5
  · subst hk
    exact rkey_five row qual A n c F B m d T S D v q w h.row h.qual hz
  · by_cases hk4 : K = 4
    · subst hk4
      exact rkey_four row qual A n c F B m d T S D v q w h.row h.qual hz
    · exact rkey_more row qual A n c F B m d T S K D v q w h.row h.qual hz hk hk4
end Go.Proofs.Ytdaoinhkagmbdaa
namespace Go.Proofs.Ytdaoinhkagmbdaa
open Go.RowKit
set_option maxRecDepth 100000 in
theorem rnumber_any (x y : Int) (w : World) : Calls Try.prog 50 #[.int .i64 x, .int .i64 y] w fun e w' => e = .returned (.int .i64 (cmpI x y)) ∧ w = w' := by
  go_enter Try.func50, Try.ntmps50
  go_wp2
  all_goals (go_ret; refine ⟨ret_int ?_, rfl⟩; unfold cmpI; (repeat' split) <;> first | rfl | (exfalso; omega))
set_option maxRecDepth 100000 in
theorem rfirst_any (x y : Bool) (w : World) : Calls Try.prog 51 #[.bool x, .bool y] w fun e w' => e = .returned (.int .i64 (firstI x y)) ∧ w = w' := by
  cases x <;> cases y <;> (go_enter Try.func51, Try.ntmps51; go_wp2; go_ret; exact ⟨rfl, rfl⟩)
set_option maxRecDepth 100000 in
set_option maxHeartbeats 1000000 in
theorem rBcmp_any (a b : List UInt8) (A B : Option Addr) (n c m d : Nat) (w : World) (hn : n ≤ 9223372036854775807) (_hm : m ≤ 9223372036854775807) (ha : RB w w.heap.size A n a) (hb : RB w w.heap.size B m b) :
    Calls Try.prog 49 #[.slice A n c, .slice B m d] w fun e w' => e = .returned (.int .i64 (cmpB a b)) ∧ Below w.heap.size w w' := by
  have HLA := Lib.hid ha.len
  have HLB := Lib.hid hb.len
  have HA : Hid (∀ w', Below w.heap.size w w' → RB w' w'.heap.size A n a) := Lib.hid fun w' h => ha.later h
  have HB : Hid (∀ w', Below w.heap.size w w' → RB w' w'.heap.size B m b) := Lib.hid fun w' h => hb.later h
  clear ha hb
  go_enter Try.func49, Try.ntmps49
  go_wp2
  go_loopw [5] (fun i wr => ∃ k : Nat, k ≤ n ∧ k ≤ m ∧ i = .int .i64 k ∧ Hid (a.take k = b.take k) ∧ Hid (Below w.heap.size w wr)) (fun i _ => n - (intOf i).toNat)
  case atStart => exact ⟨0, Nat.zero_le _, Nat.zero_le _, rfl, Lib.hid rfl, Lib.hid (Below.refl _ _)⟩
  case round =>
    obtain ⟨k, hkn, hkm, rfl, HT, HW⟩ := hrel
    by_cases hlt : k < n
    case neg =>
      have HE := Lib.hid (cmp_end HT.out HLA.out HLB.out (by omega) hkm)
      have hd1 : decide ((k : Int) < (n : Int)) = false := decide_eq_false (by omega)
      have hd2 : decide (k < n) = false := decide_eq_false hlt
      have HE2 : Hid (cmpB a b = cmpI n m) := Lib.hid (by rw [HE.out]; unfold cmpI; (repeat' split) <;> first | rfl | omega)
      clear HE
      go_wp2_with (go_at_call 50; go_must (refine (rnumber_any _ _ _).mono ?_); rintro e w1 ⟨rfl, rfl⟩)
      go_ret
      exact ⟨by rw [HE2.out]; rfl, HW.out⟩
    have hd1 : decide ((k : Int) < (n : Int)) = true := decide_eq_true (by omega)
    have hd2 : decide (k < n) = true := decide_eq_true hlt
    by_cases hmt : k < m
    case neg =>
      have HE := Lib.hid (cmp_end2 HT.out HLA.out HLB.out (by omega) hlt)
      have hd3 : decide ((k : Int) < (m : Int)) = false := decide_eq_false (by omega)
      have hd4 : decide (k < m) = false := decide_eq_false hmt
      have HE2 : Hid (cmpB a b = cmpI n m) := Lib.hid (by rw [HE.out]; unfold cmpI; (repeat' split) <;> first | rfl | omega)
      clear HE
      go_wp2_with (go_at_call 50; go_must (refine (rnumber_any _ _ _).mono ?_); rintro e w1 ⟨rfl, rfl⟩)
      go_ret
      exact ⟨by rw [HE2.out]; rfl, HW.out⟩
    have hd3 : decide ((k : Int) < (m : Int)) = true := decide_eq_true (by omega)
    have hd4 : decide (k < m) = true := decide_eq_true hmt
    have hk1 : (k : Int) < (n : Int) := by omega
    have hk2 : (k : Int) < (m : Int) := by omega
    obtain ⟨b1, o1, x, rfl, _, hx, _⟩ := (HA.out _ HW.out).at_ hlt
    obtain ⟨b2, o2, y, rfl, _, hy, _⟩ := (HB.out _ HW.out).at_ hmt
    have HX := Lib.hid hx
    have HY := Lib.hid hy
    have HCX : Hid (∀ w', Below w.heap.size w w' → w'.cell? ⟨b1, o1 + k, none⟩ = some (.int .u8 (x.toNat : Int))) := Lib.hid fun w' h => (HA.out w' h).cell HX.out
    have HCY : Hid (∀ w', Below w.heap.size w w' → w'.cell? ⟨b2, o2 + k, none⟩ = some (.int .u8 (y.toNat : Int))) := Lib.hid fun w' h => (HB.out w' h).cell HY.out
    clear hx hy
    by_cases h1 : x.toNat < y.toNat
    · have HE := Lib.hid (cmp_lt_at HT.out HX.out HY.out h1)
      have c1 := HCX.out _ HW.out
      have c2 := HCY.out _ HW.out
      have e1 : decide ((x.toNat : Int) < (y.toNat : Int)) = true := decide_eq_true (by omega)
      have e2 : decide (x.toNat < y.toNat) = true := decide_eq_true h1
      go_wp2_with fail
      go_quiet (fail)
      have HW2 := Lib.hid (below_drewN (n := nq) HW.out)
      clear c1 c2
      generalize wr.drewN nq = w3 at *
      go_wp2
      go_ret
      exact ⟨by rw [HE.out]; rfl, HW2.out⟩
    have c1 := HCX.out _ HW.out
    have c2 := HCY.out _ HW.out
    have e1 : decide ((x.toNat : Int) < (y.toNat : Int)) = false := decide_eq_false (by omega)
    have e2 : decide (x.toNat < y.toNat) = false := decide_eq_false h1
    go_wp2_with fail
    go_quiet (fail)
    have HW2 := Lib.hid (below_drewN (n := nq) HW.out)
    clear c1 c2
    generalize wr.drewN nq = w3 at *
    have c1 := HCX.out _ HW2.out
    have c2 := HCY.out _ HW2.out
    by_cases h2 : y.toNat < x.toNat
    · have HE := Lib.hid (cmp_gt_at HT.out HX.out HY.out h2)
      have e3 : decide ((y.toNat : Int) < (x.toNat : Int)) = true := decide_eq_true (by omega)
      have e4 : decide (y.toNat < x.toNat) = true := decide_eq_true h2
      go_wp2_with fail
      go_quiet (fail)
      have HW3 := Lib.hid (below_drewN (n := nq) HW2.out)
      clear c1 c2
      generalize w3.drewN nq = w4 at *
      go_wp2
      go_ret
      exact ⟨by rw [HE.out]; rfl, HW3.out⟩
    obtain rfl := UInt8.toNat_inj.1 (show x.toNat = y.toNat by omega)
    have HE := Lib.hid (cmp_eq_at HT.out HX.out HY.out)
    have e3 : decide ((x.toNat : Int) < (x.toNat : Int)) = false := decide_eq_false (by omega)
    have e4 : decide (x.toNat < x.toNat) = false := decide_eq_false h2
    go_wp2_with fail
    go_quiet (fail)
    have HW3 := Lib.hid (below_drewN (n := nq) HW2.out)
    clear c1 c2
    generalize w3.drewN nq = w4 at *
    go_wp2
    go_roundw
    case rel => exact ⟨k + 1, by omega, by omega, by go_num, HE, HW3⟩
    case measure => simp [intOf]; omega
theorem two_facts {w x : World} {A : Option Addr} {n c : Nat} {B : Option Addr} {m d : Nat} {D : Option Addr} {v q : Nat} {A' : Option Addr} {n' c' : Nat} {B' : Option Addr} {m' d' : Nat} {D' : Option Addr} {v' q' : Nat} {a b : Ent} (h : Two w 30 #[.slice A n c, .int .i64 a.fam, .slice B m d, .int .i64 a.ts, .int .i64 a.seq, .int .i64 a.kind, .slice D v q] #[.slice A' n' c', .int .i64 b.fam, .slice B' m' d', .int .i64 b.ts, .int .i64 b.seq, .int .i64 b.kind, .slice D' v' q'] x) : x.cell? ⟨w.heap.size, 0, none⟩ = some (.slice A n c) ∧ x.cell? ⟨w.heap.size, 1, none⟩ = some (.int .i64 a.fam) ∧ x.cell? ⟨w.heap.size, 2, none⟩ = some (.slice B m d) ∧ x.cell? ⟨w.heap.size, 3, none⟩ = some (.int .i64 a.ts) ∧ x.cell? ⟨w.heap.size, 4, none⟩ = some (.int .i64 a.seq) ∧ x.cell? ⟨w.heap.size, 5, none⟩ = some (.int .i64 a.kind) ∧ x.cell? ⟨w.heap.size + 1, 0, none⟩ = some (.slice A' n' c') ∧ x.cell? ⟨w.heap.size + 1, 1, none⟩ = some (.int .i64 b.fam) ∧ x.cell? ⟨w.heap.size + 1, 2, none⟩ = some (.slice B' m' d') ∧ x.cell? ⟨w.heap.size + 1, 3, none⟩ = some (.int .i64 b.ts) ∧ x.cell? ⟨w.heap.size + 1, 4, none⟩ = some (.int .i64 b.seq) ∧ x.cell? ⟨w.heap.size + 1, 5, none⟩ = some (.int .i64 b.kind) ∧ Two w 30 #[.slice A n c, .int .i64 a.fam, .slice B m d, .int .i64 a.ts, .int .i64 a.seq, .int .i64 a.kind, .slice D v q] #[.slice A' n' c', .int .i64 b.fam, .slice B' m' d', .int .i64 b.ts, .int .i64 b.seq, .int .i64 b.kind, .slice D' v' q'] x :=
  ⟨boxed1 h (i := 0) (v := .slice A n c) rfl, boxed1 h (i := 1) (v := .int .i64 a.fam) rfl, boxed1 h (i := 2) (v := .slice B m d) rfl, boxed1 h (i := 3) (v := .int .i64 a.ts) rfl, boxed1 h (i := 4) (v := .int .i64 a.seq) rfl, boxed1 h (i := 5) (v := .int .i64 a.kind) rfl, boxed2 h (i := 0) (v := .slice A' n' c') rfl, boxed2 h (i := 1) (v := .int .i64 b.fam) rfl, boxed2 h (i := 2) (v := .slice B' m' d') rfl, boxed2 h (i := 3) (v := .int .i64 b.ts) rfl, boxed2 h (i := 4) (v := .int .i64 b.seq) rfl, boxed2 h (i := 5) (v := .int .i64 b.kind) rfl, h⟩
set_option maxRecDepth 100000 in
set_option maxHeartbeats 4000000 in
theorem rcompare_any (a b : Ent) (A : Option Addr) (n c : Nat) (B : Option Addr) (m d : Nat) (D : Option Addr) (v q : Nat) (A' : Option Addr) (n' c' : Nat) (B' : Option Addr) (m' d' : Nat) (D' : Option Addr) (v' q' : Nat) (w : World) (ha : En w A n c B m d D v q a) (hb : En w A' n' c' B' m' d' D' v' q' b) :
    Calls Try.prog 24 #[entV A n c B m d D v q a, entV A' n' c' B' m' d' D' v' q' b] w fun e w1 => e = .returned (.int .i64 (cmpE a b)) ∧ Below w.heap.size w w1 := by
  have HA : Hid (∀ w1, Below w.heap.size w w1 → En w1 A n c B m d D v q a) := Lib.hid fun _ h => ha.later h
  have HC : Hid (∀ w1, Below w.heap.size w w1 → En w1 A' n' c' B' m' d' D' v' q' b) := Lib.hid fun _ h => hb.later h
  have HT := Lib.hid (Two.new w 30 #[.slice A n c, .int .i64 a.fam, .slice B m d, .int .i64 a.ts, .int .i64 a.seq, .int .i64 a.kind, .slice D v q] #[.slice A' n' c', .int .i64 b.fam, .slice B' m' d', .int .i64 b.ts, .int .i64 b.seq, .int .i64 b.kind, .slice D' v' q'])
  have l1 := ha.row.le
  have l2 := ha.qual.le
  have l3 := hb.row.le
  have l4 := hb.qual.le
  have HL : Hid (n ≤ 9223372036854775807 ∧ m ≤ 9223372036854775807 ∧ n' ≤ 9223372036854775807 ∧ m' ≤ 9223372036854775807) := Lib.hid ⟨l1, l2, l3, l4⟩
  unfold entV
  clear ha hb l1 l2 l3 l4
  have tok1 : True := trivial
  go_enter Try.func24, Try.ntmps24
  go_wp2_with fail
  go_region_held3 (fun x => x.cell? ⟨w.heap.size, 0, none⟩ = some (.slice A n c) ∧ x.cell? ⟨w.heap.size, 1, none⟩ = some (.int .i64 a.fam) ∧ x.cell? ⟨w.heap.size, 2, none⟩ = some (.slice B m d) ∧ x.cell? ⟨w.heap.size, 3, none⟩ = some (.int .i64 a.ts) ∧ x.cell? ⟨w.heap.size, 4, none⟩ = some (.int .i64 a.seq) ∧ x.cell? ⟨w.heap.size, 5, none⟩ = some (.int .i64 a.kind) ∧ x.cell? ⟨w.heap.size + 1, 0, none⟩ = some (.slice A' n' c') ∧ x.cell? ⟨w.heap.size + 1, 1, none⟩ = some (.int .i64 b.fam) ∧ x.cell? ⟨w.heap.size + 1, 2, none⟩ = some (.slice B' m' d') ∧ x.cell? ⟨w.heap.size + 1, 3, none⟩ = some (.int .i64 b.ts) ∧ x.cell? ⟨w.heap.size + 1, 4, none⟩ = some (.int .i64 b.seq) ∧ x.cell? ⟨w.heap.size + 1, 5, none⟩ = some (.int .i64 b.kind) ∧ Two w 30 #[.slice A n c, .int .i64 a.fam, .slice B m d, .int .i64 a.ts, .int .i64 a.seq, .int .i64 a.kind, .slice D v q] #[.slice A' n' c', .int .i64 b.fam, .slice B' m' d', .int .i64 b.ts, .int .i64 b.seq, .int .i64 b.kind, .slice D' v' q'] x) (first | assumption | exact two_facts (HT.out.later (Below.refl _ _).drew) | exact two_facts (Two.later (‹_ ∧ _ ∧ _ ∧ _ ∧ _ ∧ _ ∧ _ ∧ _ ∧ _ ∧ _ ∧ _ ∧ _ ∧ Two _ _ _ _ _›).2.2.2.2.2.2.2.2.2.2.2.2 hb1) | exact two_facts (Two.later (‹_ ∧ _ ∧ _ ∧ _ ∧ _ ∧ _ ∧ _ ∧ _ ∧ _ ∧ _ ∧ _ ∧ _ ∧ Two _ _ _ _ _›).2.2.2.2.2.2.2.2.2.2.2.2 hb2) | exact two_facts (Two.later (‹_ ∧ _ ∧ _ ∧ _ ∧ _ ∧ _ ∧ _ ∧ _ ∧ _ ∧ _ ∧ _ ∧ _ ∧ Two _ _ _ _ _›).2.2.2.2.2.2.2.2.2.2.2.2 ((Below.refl _ _).alloc (Nat.le_refl _) _))) (first
    | (go_at_call 49; have _t := tok1; refine (rBcmp_any a.row b.row _ _ _ _ _ _ _ HL.out.1 HL.out.2.2.1 (HA.out _ (‹_ ∧ _ ∧ _ ∧ _ ∧ _ ∧ _ ∧ _ ∧ _ ∧ _ ∧ _ ∧ _ ∧ _ ∧ Two _ _ _ _ _›).2.2.2.2.2.2.2.2.2.2.2.2.up).row.rb (HC.out _ (‹_ ∧ _ ∧ _ ∧ _ ∧ _ ∧ _ ∧ _ ∧ _ ∧ _ ∧ _ ∧ _ ∧ _ ∧ Two _ _ _ _ _›).2.2.2.2.2.2.2.2.2.2.2.2.up).row.rb).mono ?_; rintro e x1 ⟨rfl, hb1⟩; clear tok1)
    | (go_at_call 49; refine (rBcmp_any a.qual b.qual _ _ _ _ _ _ _ HL.out.2.1 HL.out.2.2.2 (HA.out _ (‹_ ∧ _ ∧ _ ∧ _ ∧ _ ∧ _ ∧ _ ∧ _ ∧ _ ∧ _ ∧ _ ∧ _ ∧ Two _ _ _ _ _›).2.2.2.2.2.2.2.2.2.2.2.2.up).qual.rb (HC.out _ (‹_ ∧ _ ∧ _ ∧ _ ∧ _ ∧ _ ∧ _ ∧ _ ∧ _ ∧ _ ∧ _ ∧ _ ∧ Two _ _ _ _ _›).2.2.2.2.2.2.2.2.2.2.2.2.up).qual.rb).mono ?_; rintro e x2 ⟨rfl, hb2⟩)
    | (go_at_call 50; refine (rnumber_any _ _ _).mono ?_; rintro e xn ⟨rfl, rfl⟩)
    | (go_at_call 51; refine (rfirst_any _ _ _).mono ?_; rintro e xn ⟨rfl, rfl⟩))
  all_goals
    have HW := Lib.hid (‹_ ∧ _ ∧ _ ∧ _ ∧ _ ∧ _ ∧ _ ∧ _ ∧ _ ∧ _ ∧ _ ∧ _ ∧ Two _ _ _ _ _›).2.2.2.2.2.2.2.2.2.2.2.2.up
    clear HA HC HT HL
    generalize hs0 : cmpB a.row b.row = s0 at HW ⊢
    have Q0 : Hid (stepC a b 0 = s0) := Lib.hid hs0
    generalize hs1 : cmpI a.fam b.fam = s1 at HW ⊢
    have Q1 : Hid (stepC a b 1 = s1) := Lib.hid hs1
    generalize hs2 : firstI (a.kind == 5) (b.kind == 5) = s2 at HW ⊢
    have Q2 : Hid (stepC a b 2 = s2) := Lib.hid hs2
    generalize hs3 : cmpB a.qual b.qual = s3 at HW ⊢
    have Q3 : Hid (stepC a b 3 = s3) := Lib.hid hs3
    generalize hs4 : firstI (a.kind == 4) (b.kind == 4) = s4 at HW ⊢
    have Q4 : Hid (stepC a b 4 = s4) := Lib.hid hs4
    generalize hs5 : cmpI b.ts a.ts = s5 at HW ⊢
    have Q5 : Hid (stepC a b 5 = s5) := Lib.hid hs5
    generalize hs6 : cmpI b.seq a.seq = s6 at HW ⊢
    have Q6 : Hid (stepC a b 6 = s6) := Lib.hid hs6
    generalize hs7 : cmpI a.kind b.kind = s7 at HW ⊢
    have Q7 : Hid (stepC a b 7 = s7) := Lib.hid hs7
    clear hs0 hs1 hs2 hs3 hs4 hs5 hs6 hs7
    obtain ⟨X, hX⟩ : ∃ X, X = x2.alloc (.cells #[.int .i64 s0, .int .i64 s1, .int .i64 s2, .int .i64 s3, .int .i64 s4, .int .i64 s5, .int .i64 s6, .int .i64 s7] 3) := ⟨_, rfl⟩
    rw [← hX] at HW ⊢
    have p0 : X.cell? ⟨x2.heap.size, 0, none⟩ = some (.int .i64 s0) := by rw [hX]; simp
    have p1 : X.cell? ⟨x2.heap.size, 1, none⟩ = some (.int .i64 s1) := by rw [hX]; simp
    have p2 : X.cell? ⟨x2.heap.size, 2, none⟩ = some (.int .i64 s2) := by rw [hX]; simp
    have p3 : X.cell? ⟨x2.heap.size, 3, none⟩ = some (.int .i64 s3) := by rw [hX]; simp
    have p4 : X.cell? ⟨x2.heap.size, 4, none⟩ = some (.int .i64 s4) := by rw [hX]; simp
    have p5 : X.cell? ⟨x2.heap.size, 5, none⟩ = some (.int .i64 s5) := by rw [hX]; simp
    have p6 : X.cell? ⟨x2.heap.size, 6, none⟩ = some (.int .i64 s6) := by rw [hX]; simp
    have p7 : X.cell? ⟨x2.heap.size, 7, none⟩ = some (.int .i64 s7) := by rw [hX]; simp
    clear hX
    generalize x2.heap.size = g at p0 p1 p2 p3 p4 p5 p6 p7 ⊢
    go_wp2_with fail
    go_loop [6] (fun i => ∃ k : Nat, k ≤ 8 ∧ i = .int .i64 k ∧ Hid (∀ i, i < k → stepC a b i = 0)) (fun i => 8 - (intOf i).toNat)
    case atStart => exact ⟨0, by decide, rfl, Lib.hid fun i hi => absurd hi (Nat.not_lt_zero _)⟩
    case round =>
      obtain ⟨k, hk, hi, HF⟩ := hrel
      have hk' : k = 0 ∨ k = 1 ∨ k = 2 ∨ k = 3 ∨ k = 4 ∨ k = 5 ∨ k = 6 ∨ k = 7 ∨ k = 8 := by omega
      clear hk
      rcases hk' with rfl | rfl | rfl | rfl | rfl | rfl | rfl | rfl | rfl
      case inr.inr.inr.inr.inr.inr.inr.inr =>
        replace hi : _ = Value.int .i64 8 := hi
        subst hi
        have HZ := Lib.hid (cmpE_none a b HF.out)
        clear HF
        go_wp2
        go_ret
        exact ⟨by rw [HZ.out]; rfl, HW.out⟩
      case inl =>
        replace hi : _ = Value.int .i64 0 := hi
        subst hi
        by_cases hz : s0 = 0
        · have HZ : Hid (∀ i, i < 1 → stepC a b i = 0) := Lib.hid fun i hi => if h : i = 0 then h ▸ (Q0.out.trans hz) else HF.out i (by omega)
          have t2 : (s0 != 0) = false := by simpa using hz
          clear hz HF
          go_wp2
          go_round
          case measure => decide
          case rel => exact ⟨1, by omega, rfl, HZ⟩
        · have HZ : Hid (s0 = cmpE a b) := Lib.hid (Q0.out ▸ cmpE_first a b 0 (by decide) HF.out (by rw [Q0.out]; exact hz))
          have t2 : (s0 != 0) = true := by simpa using hz
          clear HF hz
          go_wp2
          go_ret
          exact ⟨by rw [← HZ.out]; rfl, HW.out⟩
      case inr.inl =>
        replace hi : _ = Value.int .i64 1 := hi
        subst hi
        by_cases hz : s1 = 0
        · have HZ : Hid (∀ i, i < 2 → stepC a b i = 0) := Lib.hid fun i hi => if h : i = 1 then h ▸ (Q1.out.trans hz) else HF.out i (by omega)
          have t2 : (s1 != 0) = false := by simpa using hz
          clear hz HF
          go_wp2
          go_round
          case measure => decide
          case rel => exact ⟨2, by omega, rfl, HZ⟩
        · have HZ : Hid (s1 = cmpE a b) := Lib.hid (Q1.out ▸ cmpE_first a b 1 (by decide) HF.out (by rw [Q1.out]; exact hz))
          have t2 : (s1 != 0) = true := by simpa using hz
          clear HF hz
          go_wp2
          go_ret
          exact ⟨by rw [← HZ.out]; rfl, HW.out⟩
      case inr.inr.inl =>
        replace hi : _ = Value.int .i64 2 := hi
        subst hi
        by_cases hz : s2 = 0
        · have HZ : Hid (∀ i, i < 3 → stepC a b i = 0) := Lib.hid fun i hi => if h : i = 2 then h ▸ (Q2.out.trans hz) else HF.out i (by omega)
          have t2 : (s2 != 0) = false := by simpa using hz
          clear hz HF
          go_wp2
          go_round
          case measure => decide
          case rel => exact ⟨3, by omega, rfl, HZ⟩
        · have HZ : Hid (s2 = cmpE a b) := Lib.hid (Q2.out ▸ cmpE_first a b 2 (by decide) HF.out (by rw [Q2.out]; exact hz))
          have t2 : (s2 != 0) = true := by simpa using hz
          clear HF hz
          go_wp2
          go_ret
          exact ⟨by rw [← HZ.out]; rfl, HW.out⟩
      case inr.inr.inr.inl =>
        replace hi : _ = Value.int .i64 3 := hi
        subst hi
        by_cases hz : s3 = 0
        · have HZ : Hid (∀ i, i < 4 → stepC a b i = 0) := Lib.hid fun i hi => if h : i = 3 then h ▸ (Q3.out.trans hz) else HF.out i (by omega)
          have t2 : (s3 != 0) = false := by simpa using hz
          clear hz HF
          go_wp2
          go_round
          case measure => decide
          case rel => exact ⟨4, by omega, rfl, HZ⟩
        · have HZ : Hid (s3 = cmpE a b) := Lib.hid (Q3.out ▸ cmpE_first a b 3 (by decide) HF.out (by rw [Q3.out]; exact hz))
          have t2 : (s3 != 0) = true := by simpa using hz
          clear HF hz
          go_wp2
          go_ret
          exact ⟨by rw [← HZ.out]; rfl, HW.out⟩
      case inr.inr.inr.inr.inl =>
        replace hi : _ = Value.int .i64 4 := hi
        subst hi
        by_cases hz : s4 = 0
        · have HZ : Hid (∀ i, i < 5 → stepC a b i = 0) := Lib.hid fun i hi => if h : i = 4 then h ▸ (Q4.out.trans hz) else HF.out i (by omega)
          have t2 : (s4 != 0) = false := by simpa using hz
          clear hz HF
          go_wp2
          go_round
          case measure => decide
          case rel => exact ⟨5, by omega, rfl, HZ⟩
        · have HZ : Hid (s4 = cmpE a b) := Lib.hid (Q4.out ▸ cmpE_first a b 4 (by decide) HF.out (by rw [Q4.out]; exact hz))
          have t2 : (s4 != 0) = true := by simpa using hz
          clear HF hz
          go_wp2
          go_ret
          exact ⟨by rw [← HZ.out]; rfl, HW.out⟩
      case inr.inr.inr.inr.inr.inl =>
        replace hi : _ = Value.int .i64 5 := hi
        subst hi
        by_cases hz : s5 = 0
        · have HZ : Hid (∀ i, i < 6 → stepC a b i = 0) := Lib.hid fun i hi => if h : i = 5 then h ▸ (Q5.out.trans hz) else HF.out i (by omega)
          have t2 : (s5 != 0) = false := by simpa using hz
          clear hz HF
          go_wp2
          go_round
          case measure => decide
          case rel => exact ⟨6, by omega, rfl, HZ⟩
        · have HZ : Hid (s5 = cmpE a b) := Lib.hid (Q5.out ▸ cmpE_first a b 5 (by decide) HF.out (by rw [Q5.out]; exact hz))
          have t2 : (s5 != 0) = true := by simpa using hz
          clear HF hz
          go_wp2
          go_ret
          exact ⟨by rw [← HZ.out]; rfl, HW.out⟩
      case inr.inr.inr.inr.inr.inr.inl =>
        replace hi : _ = Value.int .i64 6 := hi
        subst hi
        by_cases hz : s6 = 0
        · have HZ : Hid (∀ i, i < 7 → stepC a b i = 0) := Lib.hid fun i hi => if h : i = 6 then h ▸ (Q6.out.trans hz) else HF.out i (by omega)
          have t2 : (s6 != 0) = false := by simpa using hz
          clear hz HF
          go_wp2
          go_round
          case measure => decide
          case rel => exact ⟨7, by omega, rfl, HZ⟩
        · have HZ : Hid (s6 = cmpE a b) := Lib.hid (Q6.out ▸ cmpE_first a b 6 (by decide) HF.out (by rw [Q6.out]; exact hz))
          have t2 : (s6 != 0) = true := by simpa using hz
          clear HF hz
          go_wp2
          go_ret
          exact ⟨by rw [← HZ.out]; rfl, HW.out⟩
      case inr.inr.inr.inr.inr.inr.inr.inl =>
        replace hi : _ = Value.int .i64 7 := hi
        subst hi
        by_cases hz : s7 = 0
        · have HZ : Hid (∀ i, i < 8 → stepC a b i = 0) := Lib.hid fun i hi => if h : i = 7 then h ▸ (Q7.out.trans hz) else HF.out i (by omega)
          have t2 : (s7 != 0) = false := by simpa using hz
          clear hz HF
          go_wp2
          go_round
          case measure => decide
          case rel => exact ⟨8, by omega, rfl, HZ⟩
        · have HZ : Hid (s7 = cmpE a b) := Lib.hid (Q7.out ▸ cmpE_first a b 7 (by decide) HF.out (by rw [Q7.out]; exact hz))
          have t2 : (s7 != 0) = true := by simpa using hz
          clear HF hz
          go_wp2
          go_ret
          exact ⟨by rw [← HZ.out]; rfl, HW.out⟩
end Go.Proofs.Ytdaoinhkagmbdaa
namespace Go.Proofs.Ytdaoinhkagmbdaa
open Go.RowKit
theorem ent_row8 : RowTy Try.prog 30 7 := ⟨⟨_, Try.underlying30, rfl⟩, by kernel_rfl⟩
section
variable {w x : World} {os : List Ob} {g : Nat} {r : ER} {l q : Tr} {h : Nat}
theorem node_ent (k : OW w os x) (hm : boxO g (nodeC r l q h) ∈ os) : x.rangeAt g 0 [.slice r.A r.e.row.length r.c, .int .i64 r.e.fam, .slice r.B r.e.qual.length r.d, .int .i64 r.e.ts, .int .i64 r.e.seq, .int .i64 r.e.kind, .slice r.D r.e.val.length r.q] := by
  have h1 := rangeAt_part (k.rangem hm) 0 7
  exact h1
theorem node_l (k : OW w os x) (hm : boxO g (nodeC r l q h) ∈ os) : x.cell? ⟨g, 7, none⟩ = some l.ptr := k.cellm hm (j := 7) rfl
theorem node_q (k : OW w os x) (hm : boxO g (nodeC r l q h) ∈ os) : x.cell? ⟨g, 8, none⟩ = some q.ptr := k.cellm hm (j := 8) rfl
theorem node_h (k : OW w os x) (hm : boxO g (nodeC r l q h) ∈ os) : x.cell? ⟨g, 9, none⟩ = some (.int .i64 (h : Nat)) := k.cellm hm (j := 9) rfl
end
set_option maxRecDepth 100000 in
theorem tall_any {w x : World} {os : List Ob} (h : OW w os x) (t : Tr) (hm : TrM os t) : Calls Try.prog 100 #[t.ptr] x fun e z => e = .returned (.int .i64 (t.tall : Nat)) ∧ z = x := by
  cases t with
  | nil =>
    go_enter Try.func100, Try.ntmps100
    simp only [Tr.ptr, Tr.adr]
    go_wp2_with fail
    go_ret
    exact ⟨rfl, rfl⟩
  | node g r k l q =>
    have hc := node_h h hm.left.1
    go_enter Try.func100, Try.ntmps100
    simp only [Tr.ptr, Tr.adr]
    go_wp2_with (refine wpList_load_cell rfl 3 (.tmp 7) rfl rfl hc (fun w => Try.isAgg3 w) ?_)
    go_ret
    exact ⟨rfl, rfl⟩
set_option maxRecDepth 100000 in
set_option maxHeartbeats 4000000 in
theorem hang_any {w x : World} {os : List Ob} (h : OW w os x) (r : ER) (l q : Tr) (hl : TrM os l) (hq : TrM os q) (hlb : l.tall ≤ 1000000) (hqb : q.tall ≤ 1000000) :
    Calls Try.prog 90 #[.agg #[.slice r.A r.e.row.length r.c, .int .i64 r.e.fam, .slice r.B r.e.qual.length r.d, .int .i64 r.e.ts, .int .i64 r.e.seq, .int .i64 r.e.kind, .slice r.D r.e.val.length r.q], l.ptr, q.ptr] x fun e z => ∃ g, e = .returned (.pointer (some ⟨g, 0, none⟩)) ∧ OW w (os ++ [boxO g (nodeC r l q (1 + max l.tall q.tall))]) z := by
  have HX := Lib.hid h
  have HL := Lib.hid hl
  have HQ := Lib.hid hq
  obtain ⟨lp, hlp⟩ : ∃ z, z = l.adr := ⟨_, rfl⟩
  obtain ⟨qp, hqp⟩ : ∃ z, z = q.adr := ⟨_, rfl⟩
  obtain ⟨lt, hlt⟩ : ∃ z, z = l.tall := ⟨_, rfl⟩
  obtain ⟨qt, hqt⟩ : ∃ z, z = q.tall := ⟨_, rfl⟩
  have HLP := Lib.hid hlp
  have HQP := Lib.hid hqp
  have HLT := Lib.hid hlt
  have HQT := Lib.hid hqt
  have HLP2 : Hid (l.ptr = .pointer lp) := Lib.hid (by rw [hlp]; rfl)
  have HQP2 : Hid (q.ptr = .pointer qp) := Lib.hid (by rw [hqp]; rfl)
  rw [HLP2.out, HQP2.out]
  obtain ⟨mx, hmx⟩ : ∃ z, z = max lt qt := ⟨_, rfl⟩
  have hmc : (if lt < qt then (qt : Int) else (lt : Int)) = (mx : Int) := by rw [hmx]; split <;> omega
  have HMX : Hid (max l.tall q.tall = mx) := Lib.hid (by rw [hmx, hlt, hqt])
  rw [← hlt] at hlb
  rw [← hqt] at hqb
  have hmb : mx ≤ 1000000 := by rw [hmx]; omega
  have s1 : IntKind.i64.wrap (1 + (mx : Int)) = 1 + (mx : Int) := i64_sum (by omega) (by omega)
  clear h hl hq hlp hqp hlt hqt hmx
  go_enter Try.func90, Try.ntmps90
  go_upto_region 1 with (first
    | (refine wl_box rfl (.tmp 0) rfl [.slice r.A r.e.row.length r.c, .int .i64 r.e.fam, .slice r.B r.e.qual.length r.d, .int .i64 r.e.ts, .int .i64 r.e.seq, .int .i64 r.e.kind, .slice r.D r.e.val.length r.q] rfl HX.out ?_; intro g3 x1 hz _; have HX1 := Lib.hid (hz.perm List.perm_append_comm); clear hz HX))
  refine lt_start [] (by kernel_rfl) ?_
  intro xd hd
  refine ⟨fun z => OW w ([boxO g3 [.slice r.A r.e.row.length r.c, .int .i64 r.e.fam, .slice r.B r.e.qual.length r.d, .int .i64 r.e.ts, .int .i64 r.e.seq, .int .i64 r.e.kind, .slice r.D r.e.val.length r.q]] ++ os) z, ?_⟩
  have HS := Lib.hid (HX1.out.later hd)
  refine lt_take 0 [9, 10, 11] rfl (by kernel_rfl) (by kernel_rfl) (by kernel_rfl) (by kernel_rfl) (by kernel_rfl) (fun _ _ _ h => h) (yi_row rfl rfl rfl (fun w hS => OW.range hS (i := 0) rfl) ent_row8) HS.out ?_
  simp only [Act.put, List.setIfInBounds_toArray, List.set_cons_zero, List.set_cons_succ]
  refine lt_pure 1 rfl (by kernel_rfl) (by kernel_rfl) (by kernel_rfl) (by kernel_rfl) (fun _ _ _ h => h) (v := ?_) (yi_run rfl (fun w => ?_)) (fun _ => HS.out) ?_
  rotate_left
  · first | (go_simp; done) | (go_simp; with_reducible rfl)
  simp only [Act.put, List.setIfInBounds_toArray, List.set_cons_zero, List.set_cons_succ]
  refine lt_pure 2 rfl (by kernel_rfl) (by kernel_rfl) (by kernel_rfl) (by kernel_rfl) (fun _ _ _ h => h) (v := ?_) (yi_run rfl (fun w => ?_)) (fun _ => HS.out) ?_
  rotate_left
  · first | (go_simp; done) | (go_simp; with_reducible rfl)
  simp only [Act.put, List.setIfInBounds_toArray, List.set_cons_zero, List.set_cons_succ]
  refine lt_pure 3 rfl (by kernel_rfl) (by kernel_rfl) (by kernel_rfl) (by kernel_rfl) (fun _ _ _ h => h) (v := ?_) (yi_run rfl (fun w => ?_)) (fun _ => HS.out) ?_
  rotate_left
  · first | (go_simp; done) | (go_simp; with_reducible rfl)
  simp only [Act.put, List.setIfInBounds_toArray, List.set_cons_zero, List.set_cons_succ]
  refine lt_pure 5 rfl (by kernel_rfl) (by kernel_rfl) (by kernel_rfl) (by kernel_rfl) (fun _ _ _ h => h) (v := ?_) (yi_run rfl (fun w => ?_)) (fun _ => HS.out) ?_
  rotate_left
  · first | (go_simp; done) | (go_simp; with_reducible rfl)
  simp only [Act.put, List.setIfInBounds_toArray, List.set_cons_zero, List.set_cons_succ]
  refine lt_call 4 rfl (by kernel_rfl) rfl rfl ⟨_, Try.func100, by decide, by kernel_rfl⟩ [.pointer lp] rfl ?_
  rw [← HLP2.out]
  refine (tall_any HS.out l (HL.out.more fun o ho => List.mem_append_right _ ho)).mono ?_
  rw [← HLT.out, HLP2.out]
  rintro e y1 ⟨rfl, rfl⟩
  refine ⟨_, rfl, fun _ => HS.out, ?_⟩
  simp only [Act.put, List.setIfInBounds_toArray, List.set_cons_zero, List.set_cons_succ]
  refine lt_call 6 rfl (by kernel_rfl) rfl rfl ⟨_, Try.func100, by decide, by kernel_rfl⟩ [.pointer qp] rfl ?_
  rw [← HQP2.out]
  refine (tall_any HS.out q (HQ.out.more fun o ho => List.mem_append_right _ ho)).mono ?_
  rw [← HQT.out, HQP2.out]
  rintro e y2 ⟨rfl, rfl⟩
  refine ⟨_, rfl, fun _ => HS.out, ?_⟩
  simp only [Act.put, List.setIfInBounds_toArray, List.set_cons_zero, List.set_cons_succ]
  refine lt_pure 7 rfl (by kernel_rfl) (by kernel_rfl) (by kernel_rfl) (by kernel_rfl) (fun _ _ _ h => h) (v := ?_) (yi_run rfl (fun w => ?_)) (fun _ => HS.out) ?_
  rotate_left
  · first | (go_simp; done) | (go_simp; with_reducible rfl)
  simp only [Act.put, List.setIfInBounds_toArray, List.set_cons_zero, List.set_cons_succ]
  refine lt_pure 8 rfl (by kernel_rfl) (by kernel_rfl) (by kernel_rfl) (by kernel_rfl) (fun _ _ _ h => h) (v := ?_) (yi_run rfl (fun w => ?_)) (fun _ => HS.out) ?_
  rotate_left
  · first | (go_simp; done) | (go_simp; with_reducible rfl)
  simp only [Act.put, List.setIfInBounds_toArray, List.set_cons_zero, List.set_cons_succ]
  refine lt_pure 9 rfl (by kernel_rfl) (by kernel_rfl) (by kernel_rfl) (by kernel_rfl) (fun _ _ _ h => h) (v := ?_) (yi_run rfl (fun w => ?_)) (fun _ => HS.out) ?_
  rotate_left
  · first | (go_simp; done) | (go_simp; with_reducible rfl)
  simp only [Act.put, List.setIfInBounds_toArray, List.set_cons_zero, List.set_cons_succ]
  refine lt_op 10 rfl (by kernel_rfl) rfl ?_
  refine wpo_box rfl [.slice r.A r.e.row.length r.c, .int .i64 r.e.fam, .slice r.B r.e.qual.length r.d, .int .i64 r.e.ts, .int .i64 r.e.seq, .int .i64 r.e.kind, .slice r.D r.e.val.length r.q, .pointer lp, .pointer qp, .int .i64 (1 + (mx : Int))] rfl HS.out ?_
  intro g4 y3 hz _
  have HY := Lib.hid hz
  replace HS := Lib.hid (hz.sub (List.sublist_append_left _ _))
  clear hz
  refine ⟨fun _ => HS.out, ?_⟩
  simp only [Act.put, List.setIfInBounds_toArray, List.set_cons_zero, List.set_cons_succ]
  refine lt_pure 11 rfl (by kernel_rfl) (by kernel_rfl) (by kernel_rfl) (by kernel_rfl) (fun _ _ _ h => h) (v := ?_) (yi_run rfl (fun w => ?_)) (fun _ => HS.out) ?_
  rotate_left
  · first | (go_simp; done) | (go_simp; with_reducible rfl)
  simp only [Act.put, List.setIfInBounds_toArray, List.set_cons_zero, List.set_cons_succ]
  refine lt_done (by kernel_rfl) ?_
  clear HS
  go_wp2_with fail
  go_ret
  refine ⟨g4, rfl, ?_⟩
  have e : nodeC r l q (1 + max l.tall q.tall) = [.slice r.A r.e.row.length r.c, .int .i64 r.e.fam, .slice r.B r.e.qual.length r.d, .int .i64 r.e.ts, .int .i64 r.e.seq, .int .i64 r.e.kind, .slice r.D r.e.val.length r.q, .pointer lp, .pointer qp, .int .i64 (1 + (mx : Int))] := by
    unfold nodeC; rw [HLP2.out, HQP2.out, HMX.out]; rfl
  rw [e]
  exact HY.out.erase 0
theorem tall_v {w x : World} {os : List Ob} (h : OW w os x) (t : Tr) (hm : TrM os t) {v : Value} (hv : t.ptr = v) {n : Nat} (hn : n = t.tall) : Calls Try.prog 100 #[v] x fun e z => e = .returned (.int .i64 (n : Nat)) ∧ z = x := by
  subst hv; subst hn; exact tall_any h t hm
theorem hang_v {w x : World} {os : List Ob} (h : OW w os x) (r : ER) (l q : Tr) (hl : TrM os l) (hq : TrM os q) (hlb : l.tall ≤ 1000000) (hqb : q.tall ≤ 1000000) {lv qv : Value} (h1 : l.ptr = lv) (h2 : q.ptr = qv) :
    Calls Try.prog 90 #[.agg #[.slice r.A r.e.row.length r.c, .int .i64 r.e.fam, .slice r.B r.e.qual.length r.d, .int .i64 r.e.ts, .int .i64 r.e.seq, .int .i64 r.e.kind, .slice r.D r.e.val.length r.q], lv, qv] x fun e z => ∃ g, e = .returned (.pointer (some ⟨g, 0, none⟩)) ∧ OW w (os ++ [boxO g (nodeC r l q (1 + max l.tall q.tall))]) z := by
  subst h1; subst h2; exact hang_any h r l q hl hq hlb hqb
def EvenP (w : World) (os ms : List Ob) (r : ER) (l q : Tr) (e : Ending) (z : World) : Prop :=
  ∃ t ns, e = .returned t.ptr ∧ OW w (os ++ ns) z ∧ TrM (ms ++ ns) t ∧ t.ok ∧ t.list = l.list ++ r :: q.list
theorem even3 {w z : World} {os ms : List Ob} {r a b c : ER} {t1 t2 t3 t4 : Tr} {g1 g2 g3 : Nat} (h1 : TrM ms t1) (h2 : TrM ms t2) (h3 : TrM ms t3) (h4 : TrM ms t4) (o1 : t1.ok) (o2 : t2.ok) (o3 : t3.ok) (o4 : t4.ok)
    (h : OW w (os ++ [boxO g1 (nodeC a t1 t2 (1 + max t1.tall t2.tall)), boxO g2 (nodeC b t3 t4 (1 + max t3.tall t4.tall)), boxO g3 (nodeC c (.node g1 a (1 + max t1.tall t2.tall) t1 t2) (.node g2 b (1 + max t3.tall t4.tall) t3 t4) (1 + max (1 + max t1.tall t2.tall) (1 + max t3.tall t4.tall)))]) z) {l q : Tr}
    (hl : (t1.list ++ a :: t2.list) ++ c :: (t3.list ++ b :: t4.list) = l.list ++ r :: q.list) : EvenP w os ms r l q (.returned (.pointer (some ⟨g3, 0, none⟩))) z := by
  have hin : ∀ o, o ∈ ms → o ∈ ms ++ [boxO g1 (nodeC a t1 t2 (1 + max t1.tall t2.tall)), boxO g2 (nodeC b t3 t4 (1 + max t3.tall t4.tall)), boxO g3 (nodeC c (.node g1 a (1 + max t1.tall t2.tall) t1 t2) (.node g2 b (1 + max t3.tall t4.tall) t3 t4) (1 + max (1 + max t1.tall t2.tall) (1 + max t3.tall t4.tall)))] := fun o ho => List.mem_append_left _ ho
  exact ⟨.node g3 c _ (.node g1 a _ t1 t2) (.node g2 b _ t3 t4), _, rfl, h, TrM.mk (List.mem_append_right _ (.tail _ (.tail _ (.head _)))) (TrM.mk (List.mem_append_right _ (.head _)) (h1.more hin) (h2.more hin)) (TrM.mk (List.mem_append_right _ (.tail _ (.head _))) (h3.more hin) (h4.more hin)), ⟨rfl, ⟨rfl, o1, o2⟩, ⟨rfl, o3, o4⟩⟩, hl⟩
theorem even1 {w z : World} {os ms : List Ob} {r : ER} {l q : Tr} {g : Nat} (h1 : TrM ms l) (h2 : TrM ms q) (o1 : l.ok) (o2 : q.ok) (h : OW w (os ++ [boxO g (nodeC r l q (1 + max l.tall q.tall))]) z) : EvenP w os ms r l q (.returned (.pointer (some ⟨g, 0, none⟩))) z :=
  ⟨.node g r _ l q, _, rfl, h, TrM.mk (List.mem_append_right _ (.head _)) (h1.more fun _ ho => List.mem_append_left _ ho) (h2.more fun _ ho => List.mem_append_left _ ho), ⟨rfl, o1, o2⟩, rfl⟩
theorem even2l {w z : World} {os ms : List Ob} {r a : ER} {t1 t2 q : Tr} {g1 g2 k gl : Nat} (h1 : TrM ms t1) (h2 : TrM ms t2) (h3 : TrM ms q) (o1 : t1.ok) (o2 : t2.ok) (o3 : q.ok)
    (h : OW w (os ++ [boxO g1 (nodeC r t2 q (1 + max t2.tall q.tall)), boxO g2 (nodeC a t1 (.node g1 r (1 + max t2.tall q.tall) t2 q) (1 + max t1.tall (1 + max t2.tall q.tall)))]) z) : EvenP w os ms r (.node gl a k t1 t2) q (.returned (.pointer (some ⟨g2, 0, none⟩))) z := by
  have hin : ∀ o, o ∈ ms → o ∈ ms ++ [boxO g1 (nodeC r t2 q (1 + max t2.tall q.tall)), boxO g2 (nodeC a t1 (.node g1 r (1 + max t2.tall q.tall) t2 q) (1 + max t1.tall (1 + max t2.tall q.tall)))] := fun o ho => List.mem_append_left _ ho
  refine ⟨.node g2 a _ t1 (.node g1 r _ t2 q), _, rfl, h, TrM.mk (List.mem_append_right _ (.tail _ (.head _))) (h1.more hin) (TrM.mk (List.mem_append_right _ (.head _)) (h2.more hin) (h3.more hin)), ⟨rfl, o1, rfl, o2, o3⟩, ?_⟩
  simp [Tr.list]
theorem even2r {w z : World} {os ms : List Ob} {r a : ER} {t1 t2 l : Tr} {g1 g2 k gl : Nat} (h1 : TrM ms t1) (h2 : TrM ms t2) (h3 : TrM ms l) (o1 : t1.ok) (o2 : t2.ok) (o3 : l.ok)
    (h : OW w (os ++ [boxO g1 (nodeC r l t1 (1 + max l.tall t1.tall)), boxO g2 (nodeC a (.node g1 r (1 + max l.tall t1.tall) l t1) t2 (1 + max (1 + max l.tall t1.tall) t2.tall))]) z) : EvenP w os ms r l (.node gl a k t1 t2) (.returned (.pointer (some ⟨g2, 0, none⟩))) z := by
  have hin : ∀ o, o ∈ ms → o ∈ ms ++ [boxO g1 (nodeC r l t1 (1 + max l.tall t1.tall)), boxO g2 (nodeC a (.node g1 r (1 + max l.tall t1.tall) l t1) t2 (1 + max (1 + max l.tall t1.tall) t2.tall))] := fun o ho => List.mem_append_left _ ho
  refine ⟨.node g2 a _ (.node g1 r _ l t1) t2, _, rfl, h, TrM.mk (List.mem_append_right _ (.tail _ (.head _))) (TrM.mk (List.mem_append_right _ (.head _)) (h3.more hin) (h1.more hin)) (h2.more hin), ⟨rfl, ⟨rfl, o3, o1⟩, o2⟩, ?_⟩
  simp [Tr.list]
set_option maxRecDepth 100000 in
set_option maxHeartbeats 8000000 in
theorem even_any {w x : World} {os ms : List Ob} (h : OW w os x) (hs : ∀ o, o ∈ ms → o ∈ os) (r : ER) (l q : Tr) (hl : TrM ms l) (hq : TrM ms q) (ol : l.ok) (oq : q.ok) (hlb : l.list.length ≤ 100000) (hqb : q.list.length ≤ 100000) :
    Calls Try.prog 91 #[.agg #[.slice r.A r.e.row.length r.c, .int .i64 r.e.fam, .slice r.B r.e.qual.length r.d, .int .i64 r.e.ts, .int .i64 r.e.seq, .int .i64 r.e.kind, .slice r.D r.e.val.length r.q], l.ptr, q.ptr] x (EvenP w os ms r l q) := by
  have HX := Lib.hid h
  have HL := Lib.hid hl
  have HQ := Lib.hid hq
  have HOL := Lib.hid ol
  have HOQ := Lib.hid oq
  have tl := Tr.tall_le ol
  have tq := Tr.tall_le oq
  obtain ⟨lp, hlp⟩ : ∃ z, z = l.adr := ⟨_, rfl⟩
  obtain ⟨qp, hqp⟩ : ∃ z, z = q.adr := ⟨_, rfl⟩
  obtain ⟨lt, hlt⟩ : ∃ z, z = l.tall := ⟨_, rfl⟩
  obtain ⟨qt, hqt⟩ : ∃ z, z = q.tall := ⟨_, rfl⟩
  have HLP2 : Hid (l.ptr = .pointer lp) := Lib.hid (by rw [hlp]; rfl)
  have HQP2 : Hid (q.ptr = .pointer qp) := Lib.hid (by rw [hqp]; rfl)
  have HLT := Lib.hid hlt
  have HQT := Lib.hid hqt
  rw [HLP2.out, HQP2.out]
  have hlt6 : lt ≤ 100000 := by omega
  have hqt6 : qt ≤ 100000 := by omega
  clear h hl hq ol oq hlp hqp
  have tk1 : True := trivial
  go_enter Try.func91, Try.ntmps91
  go_upto_region 1 with (first
    | (refine wl_box rfl (.tmp 0) rfl [.slice r.A r.e.row.length r.c, .int .i64 r.e.fam, .slice r.B r.e.qual.length r.d, .int .i64 r.e.ts, .int .i64 r.e.seq, .int .i64 r.e.kind, .slice r.D r.e.val.length r.q] rfl HX.out ?_; intro g3 x1 hz _; have HX1 := Lib.hid (hz.perm List.perm_append_comm); clear hz HX))
  have hin : ∀ o, o ∈ ms → o ∈ [boxO g3 [.slice r.A r.e.row.length r.c, .int .i64 r.e.fam, .slice r.B r.e.qual.length r.d, .int .i64 r.e.ts, .int .i64 r.e.seq, .int .i64 r.e.kind, .slice r.D r.e.val.length r.q]] ++ os := fun o ho => List.mem_append_right _ (hs o ho)
  clear hs
  have hlt2 := hlt
  have hqt2 := hqt
  clear hlt hqt
  by_cases c1 : qt + 1 < lt
  case pos =>
    have d1 : decide ((lt : Int) > (qt : Int) + 1) = true := decide_eq_true (by omega)
    obtain ⟨gl, a, k, t1, t2, rfl⟩ := Tr.tall_pos HOL.out (by omega)
    obtain rfl : some ⟨gl, 0, none⟩ = lp := by have h := HLP2.out; injection h
    obtain ⟨hn, hm1, hm2⟩ := HL.out.left
    obtain ⟨hk, ok1, ok2⟩ := HOL.out
    have HN := Lib.hid hn
    have HM1 := Lib.hid hm1
    have HM2 := Lib.hid hm2
    have HK1 := Lib.hid ok1
    have HK2 := Lib.hid ok2
    have hll : t1.list.length + 1 + t2.list.length ≤ 100000 := by
      have h : (t1.list ++ a :: t2.list).length ≤ 100000 := hlb
      rw [List.length_append, List.length_cons] at h; omega
    have tt1 := Tr.tall_le ok1
    have tt2 := Tr.tall_le ok2
    obtain ⟨n1, hn1⟩ : ∃ z, z = t1.tall := ⟨_, rfl⟩
    obtain ⟨n2, hn2⟩ : ∃ z, z = t2.tall := ⟨_, rfl⟩
    have hkk : lt = 1 + max n1 n2 := by rw [hlt2, hn1, hn2]; exact hk
    have HN1 := Lib.hid hn1
    have HN2 := Lib.hid hn2
    have hn15 : n1 ≤ 100000 := by omega
    have hn25 : n2 ≤ 100000 := by omega
    clear hn hm1 hm2 hk ok1 ok2 tt1 tt2 hn1 hn2
    go_upto_region 2 with (first
      | (go_at_call 100; (have _t := tk1); go_must (refine (tall_v HX1.out _ (HL.out.more hin) HLP2.out HLT.out).mono ?_); rintro e z1 ⟨rfl, hz⟩; rw [hz]; clear hz tk1 _t)
      | (go_at_call 100; go_must (refine (tall_v HX1.out q (HQ.out.more hin) HQP2.out HQT.out).mono ?_); rintro e z2 ⟨rfl, hz⟩; rw [hz]; clear hz))
    refine lt_start [] (by kernel_rfl) ?_
    intro xd hd
    refine ⟨fun z => OW w ([boxO g3 [.slice r.A r.e.row.length r.c, .int .i64 r.e.fam, .slice r.B r.e.qual.length r.d, .int .i64 r.e.ts, .int .i64 r.e.seq, .int .i64 r.e.kind, .slice r.D r.e.val.length r.q]] ++ os) z, ?_⟩
    have HS := Lib.hid (HX1.out.later hd)
    refine lt_pure 0 rfl (by kernel_rfl) (by kernel_rfl) (by kernel_rfl) (by kernel_rfl) (fun _ _ _ h => h) (v := ?_) (yi_run rfl (fun w => ?_)) (fun _ => HS.out) ?_
    rotate_left
    · first | (go_simp; done) | (go_simp; with_reducible rfl)
    simp only [Act.put, List.setIfInBounds_toArray, List.set_cons_zero, List.set_cons_succ]
    refine lt_pure 1 rfl (by kernel_rfl) (by kernel_rfl) (by kernel_rfl) (by kernel_rfl) (fun _ _ _ h => h) (v := ?_) (yi_run rfl (fun w => ?_)) (fun _ => HS.out) ?_
    rotate_left
    · first | (go_simp; done) | (go_simp; with_reducible rfl)
    simp only [Act.put, List.setIfInBounds_toArray, List.set_cons_zero, List.set_cons_succ]
    refine lt_pure 2 rfl (by kernel_rfl) (by kernel_rfl) (by kernel_rfl) (by kernel_rfl) (fun _ _ _ h => h) (v := ?_) (yi_run rfl (fun w => ?_)) (fun _ => HS.out) ?_
    rotate_left
    · first | (go_simp; done) | (go_simp; with_reducible rfl)
    simp only [Act.put, List.setIfInBounds_toArray, List.set_cons_zero, List.set_cons_succ]
    refine lt_take 3 [4, 9, 10] rfl (by kernel_rfl) (by kernel_rfl) (by kernel_rfl) (by kernel_rfl) (by kernel_rfl) (fun _ _ _ h => h) (yi_cell rfl rfl rfl (fun w hS => node_l hS (hin _ HN.out)) (fun w => Try.isAgg78 w)) HS.out ?_
    simp only [Act.put, List.setIfInBounds_toArray, List.set_cons_zero, List.set_cons_succ]
    refine lt_pure 5 rfl (by kernel_rfl) (by kernel_rfl) (by kernel_rfl) (by kernel_rfl) (fun _ _ _ h => h) (v := ?_) (yi_run rfl (fun w => ?_)) (fun _ => HS.out) ?_
    rotate_left
    · first | (go_simp; done) | (go_simp; with_reducible rfl)
    simp only [Act.put, List.setIfInBounds_toArray, List.set_cons_zero, List.set_cons_succ]
    refine lt_pure 6 rfl (by kernel_rfl) (by kernel_rfl) (by kernel_rfl) (by kernel_rfl) (fun _ _ _ h => h) (v := ?_) (yi_run rfl (fun w => ?_)) (fun _ => HS.out) ?_
    rotate_left
    · first | (go_simp; done) | (go_simp; with_reducible rfl)
    simp only [Act.put, List.setIfInBounds_toArray, List.set_cons_zero, List.set_cons_succ]
    refine lt_pure 7 rfl (by kernel_rfl) (by kernel_rfl) (by kernel_rfl) (by kernel_rfl) (fun _ _ _ h => h) (v := ?_) (yi_run rfl (fun w => ?_)) (fun _ => HS.out) ?_
    rotate_left
    · first | (go_simp; done) | (go_simp; with_reducible rfl)
    simp only [Act.put, List.setIfInBounds_toArray, List.set_cons_zero, List.set_cons_succ]
    refine lt_take 8 [9, 10] rfl (by kernel_rfl) (by kernel_rfl) (by kernel_rfl) (by kernel_rfl) (by kernel_rfl) (fun _ _ _ h => h) (yi_cell rfl rfl rfl (fun w hS => node_q hS (hin _ HN.out)) (fun w => Try.isAgg78 w)) HS.out ?_
    simp only [Act.put, List.setIfInBounds_toArray, List.set_cons_zero, List.set_cons_succ]
    refine lt_call 4 rfl (by kernel_rfl) rfl rfl ⟨_, Try.func100, by decide, by kernel_rfl⟩ [t1.ptr] rfl ?_
    refine (tall_v HS.out t1 (HM1.out.more hin) rfl HN1.out).mono ?_
    rintro e yy ⟨rfl, hz⟩
    rw [hz]
    clear hz yy
    refine ⟨_, rfl, fun _ => HS.out, ?_⟩
    simp only [Act.put, List.setIfInBounds_toArray, List.set_cons_zero, List.set_cons_succ]
    refine lt_call 9 rfl (by kernel_rfl) rfl rfl ⟨_, Try.func100, by decide, by kernel_rfl⟩ [t2.ptr] rfl ?_
    refine (tall_v HS.out t2 (HM2.out.more hin) rfl HN2.out).mono ?_
    rintro e yy ⟨rfl, hz⟩
    rw [hz]
    clear hz yy
    refine ⟨_, rfl, fun _ => HS.out, ?_⟩
    simp only [Act.put, List.setIfInBounds_toArray, List.set_cons_zero, List.set_cons_succ]
    refine lt_pure 10 rfl (by kernel_rfl) (by kernel_rfl) (by kernel_rfl) (by kernel_rfl) (fun _ _ _ h => h) (v := ?_) (yi_run rfl (fun w => ?_)) (fun _ => HS.out) ?_
    rotate_left
    · first | (go_simp; done) | (go_simp; with_reducible rfl)
    simp only [Act.put, List.setIfInBounds_toArray, List.set_cons_zero, List.set_cons_succ]
    refine lt_done (by kernel_rfl) ?_
    have HX2 := HS
    clear HS HX1
    by_cases c2 : n2 ≤ n1
    case pos =>
      have d2 : decide ((n1 : Int) ≥ (n2 : Int)) = true := decide_eq_true (by omega)
      have d2' : n2 ≤ n1 := c2
      go_wp2_with fail
      refine lt_start [] (by kernel_rfl) ?_
      intro xd hd
      refine ⟨fun z => OW w ([boxO g3 [.slice r.A r.e.row.length r.c, .int .i64 r.e.fam, .slice r.B r.e.qual.length r.d, .int .i64 r.e.ts, .int .i64 r.e.seq, .int .i64 r.e.kind, .slice r.D r.e.val.length r.q]] ++ os) z, ?_⟩
      have HS := Lib.hid (HX2.out.later hd)
      refine lt_pure 0 rfl (by kernel_rfl) (by kernel_rfl) (by kernel_rfl) (by kernel_rfl) (fun _ _ _ h => h) (v := ?_) (yi_run rfl (fun w => ?_)) (fun _ => HS.out) ?_
      rotate_left
      · first | (go_simp; done) | (go_simp; with_reducible rfl)
      simp only [Act.put, List.setIfInBounds_toArray, List.set_cons_zero, List.set_cons_succ]
      refine lt_pure 1 rfl (by kernel_rfl) (by kernel_rfl) (by kernel_rfl) (by kernel_rfl) (fun _ _ _ h => h) (v := ?_) (yi_run rfl (fun w => ?_)) (fun _ => HS.out) ?_
      rotate_left
      · first | (go_simp; done) | (go_simp; with_reducible rfl)
      simp only [Act.put, List.setIfInBounds_toArray, List.set_cons_zero, List.set_cons_succ]
      refine lt_pure 2 rfl (by kernel_rfl) (by kernel_rfl) (by kernel_rfl) (by kernel_rfl) (fun _ _ _ h => h) (v := ?_) (yi_run rfl (fun w => ?_)) (fun _ => HS.out) ?_
      rotate_left
      · first | (go_simp; done) | (go_simp; with_reducible rfl)
      simp only [Act.put, List.setIfInBounds_toArray, List.set_cons_zero, List.set_cons_succ]
      refine lt_take 3 [15, 16] rfl (by kernel_rfl) (by kernel_rfl) (by kernel_rfl) (by kernel_rfl) (by kernel_rfl) (fun _ _ _ h => h) (yi_rowO rfl rfl rfl (fun w hS => node_ent hS (hin _ HN.out)) ent_row8) HS.out ?_
      simp only [Act.put, List.setIfInBounds_toArray, List.set_cons_zero, List.set_cons_succ]
      refine lt_pure 4 rfl (by kernel_rfl) (by kernel_rfl) (by kernel_rfl) (by kernel_rfl) (fun _ _ _ h => h) (v := ?_) (yi_run rfl (fun w => ?_)) (fun _ => HS.out) ?_
      rotate_left
      · first | (go_simp; done) | (go_simp; with_reducible rfl)
      simp only [Act.put, List.setIfInBounds_toArray, List.set_cons_zero, List.set_cons_succ]
      refine lt_pure 5 rfl (by kernel_rfl) (by kernel_rfl) (by kernel_rfl) (by kernel_rfl) (fun _ _ _ h => h) (v := ?_) (yi_run rfl (fun w => ?_)) (fun _ => HS.out) ?_
      rotate_left
      · first | (go_simp; done) | (go_simp; with_reducible rfl)
      simp only [Act.put, List.setIfInBounds_toArray, List.set_cons_zero, List.set_cons_succ]
      refine lt_pure 6 rfl (by kernel_rfl) (by kernel_rfl) (by kernel_rfl) (by kernel_rfl) (fun _ _ _ h => h) (v := ?_) (yi_run rfl (fun w => ?_)) (fun _ => HS.out) ?_
      rotate_left
      · first | (go_simp; done) | (go_simp; with_reducible rfl)
      simp only [Act.put, List.setIfInBounds_toArray, List.set_cons_zero, List.set_cons_succ]
      refine lt_take 7 [15, 16] rfl (by kernel_rfl) (by kernel_rfl) (by kernel_rfl) (by kernel_rfl) (by kernel_rfl) (fun _ _ _ h => h) (yi_cell rfl rfl rfl (fun w hS => node_l hS (hin _ HN.out)) (fun w => Try.isAgg78 w)) HS.out ?_
      simp only [Act.put, List.setIfInBounds_toArray, List.set_cons_zero, List.set_cons_succ]
      refine lt_take 8 [14, 15, 16] rfl (by kernel_rfl) (by kernel_rfl) (by kernel_rfl) (by kernel_rfl) (by kernel_rfl) (fun _ _ _ h => h) (yi_row rfl rfl rfl (fun w hS => OW.range hS (i := 0) rfl) ent_row8) HS.out ?_
      simp only [Act.put, List.setIfInBounds_toArray, List.set_cons_zero, List.set_cons_succ]
      refine lt_pure 9 rfl (by kernel_rfl) (by kernel_rfl) (by kernel_rfl) (by kernel_rfl) (fun _ _ _ h => h) (v := ?_) (yi_run rfl (fun w => ?_)) (fun _ => HS.out) ?_
      rotate_left
      · first | (go_simp; done) | (go_simp; with_reducible rfl)
      simp only [Act.put, List.setIfInBounds_toArray, List.set_cons_zero, List.set_cons_succ]
      refine lt_pure 10 rfl (by kernel_rfl) (by kernel_rfl) (by kernel_rfl) (by kernel_rfl) (fun _ _ _ h => h) (v := ?_) (yi_run rfl (fun w => ?_)) (fun _ => HS.out) ?_
      rotate_left
      · first | (go_simp; done) | (go_simp; with_reducible rfl)
      simp only [Act.put, List.setIfInBounds_toArray, List.set_cons_zero, List.set_cons_succ]
      refine lt_pure 11 rfl (by kernel_rfl) (by kernel_rfl) (by kernel_rfl) (by kernel_rfl) (fun _ _ _ h => h) (v := ?_) (yi_run rfl (fun w => ?_)) (fun _ => HS.out) ?_
      rotate_left
      · first | (go_simp; done) | (go_simp; with_reducible rfl)
      simp only [Act.put, List.setIfInBounds_toArray, List.set_cons_zero, List.set_cons_succ]
      refine lt_take 12 [14, 15, 16] rfl (by kernel_rfl) (by kernel_rfl) (by kernel_rfl) (by kernel_rfl) (by kernel_rfl) (fun _ _ _ h => h) (yi_cell rfl rfl rfl (fun w hS => node_q hS (hin _ HN.out)) (fun w => Try.isAgg78 w)) HS.out ?_
      simp only [Act.put, List.setIfInBounds_toArray, List.set_cons_zero, List.set_cons_succ]
      refine lt_pure 13 rfl (by kernel_rfl) (by kernel_rfl) (by kernel_rfl) (by kernel_rfl) (fun _ _ _ h => h) (v := ?_) (yi_run rfl (fun w => ?_)) (fun _ => HS.out) ?_
      rotate_left
      · first | (go_simp; done) | (go_simp; with_reducible rfl)
      simp only [Act.put, List.setIfInBounds_toArray, List.set_cons_zero, List.set_cons_succ]
      refine lt_call 14 rfl (by kernel_rfl) rfl rfl ⟨_, Try.func90, by decide, by kernel_rfl⟩ [.agg #[.slice r.A r.e.row.length r.c, .int .i64 r.e.fam, .slice r.B r.e.qual.length r.d, .int .i64 r.e.ts, .int .i64 r.e.seq, .int .i64 r.e.kind, .slice r.D r.e.val.length r.q], t2.ptr, .pointer qp] rfl ?_
      refine (hang_v HS.out r t2 q (HM2.out.more hin) (HQ.out.more hin) (by have := HN2.out; omega) (by have := HQT.out; omega) rfl HQP2.out).mono ?_
      rintro e y1 ⟨g1, rfl, hz⟩
      have HZ1 := Lib.hid hz
      replace HS := Lib.hid (hz.sub (List.sublist_append_left _ _))
      clear hz
      refine ⟨_, rfl, fun _ => HS.out, ?_⟩
      simp only [Act.put, List.setIfInBounds_toArray, List.set_cons_zero, List.set_cons_succ]
      refine lt_call 15 rfl (by kernel_rfl) rfl rfl ⟨_, Try.func90, by decide, by kernel_rfl⟩ [.agg #[.slice a.A a.e.row.length a.c, .int .i64 a.e.fam, .slice a.B a.e.qual.length a.d, .int .i64 a.e.ts, .int .i64 a.e.seq, .int .i64 a.e.kind, .slice a.D a.e.val.length a.q], t1.ptr, .pointer (some ⟨g1, 0, none⟩)] rfl ?_
      refine (hang_v HZ1.out a t1 (.node g1 r (1 + max t2.tall q.tall) t2 q) (HM1.out.more fun o ho => List.mem_append_left _ (hin o ho)) (TrM.mk (List.mem_append_right _ (.head _)) (HM2.out.more fun o ho => List.mem_append_left _ (hin o ho)) (HQ.out.more fun o ho => List.mem_append_left _ (hin o ho))) (by have := HN1.out; omega) (by show 1 + max t2.tall q.tall ≤ 1000000; have := HN2.out; have := HQT.out; omega) rfl rfl).mono ?_
      rintro e y2 ⟨g2, rfl, hz⟩
      have HY : Hid (OW w (os ++ [boxO g1 (nodeC r t2 q (1 + max t2.tall q.tall)), boxO g2 (nodeC a t1 (.node g1 r (1 + max t2.tall q.tall) t2 q) (1 + max t1.tall (1 + max t2.tall q.tall)))]) y2) := Lib.hid (by
        rw [List.append_assoc, List.append_assoc] at hz
        exact hz.right)
      replace HS := Lib.hid (hz.sub ((List.sublist_append_left _ _).trans (List.sublist_append_left _ _)))
      clear hz
      refine ⟨_, rfl, fun _ => HS.out, ?_⟩
      simp only [Act.put, List.setIfInBounds_toArray, List.set_cons_zero, List.set_cons_succ]
      refine lt_pure 16 rfl (by kernel_rfl) (by kernel_rfl) (by kernel_rfl) (by kernel_rfl) (fun _ _ _ h => h) (v := ?_) (yi_run rfl (fun w => ?_)) (fun _ => HS.out) ?_
      rotate_left
      · first | (go_simp; done) | (go_simp; with_reducible rfl)
      simp only [Act.put, List.setIfInBounds_toArray, List.set_cons_zero, List.set_cons_succ]
      refine lt_done (by kernel_rfl) ?_
      clear HS
      go_wp2_with fail
      go_ret
      exact even2l (HM1.out) (HM2.out) (HQ.out) (HK1.out) (HK2.out) HOQ.out HY.out
    have d2 : decide ((n1 : Int) ≥ (n2 : Int)) = false := decide_eq_false (by omega)
    obtain ⟨gm, b, k2, m1, m2, rfl⟩ := Tr.tall_pos HK2.out (by have := HN2.out; omega)
    obtain ⟨hnm, hmm1, hmm2⟩ := HM2.out.left
    obtain ⟨hkm, okm1, okm2⟩ := HK2.out
    have HNM := Lib.hid hnm
    have HMM1 := Lib.hid hmm1
    have HMM2 := Lib.hid hmm2
    have HKM1 := Lib.hid okm1
    have HKM2 := Lib.hid okm2
    have hmlb : m1.list.length + 1 + m2.list.length ≤ 100000 := by
      have h : t1.list.length + 1 + (m1.list ++ b :: m2.list).length ≤ 100000 := hll
      rw [List.length_append, List.length_cons] at h; omega
    have tm1 := Tr.tall_le okm1
    have tm2 := Tr.tall_le okm2
    have hmb1 : m1.tall ≤ 100000 := by omega
    have hmb2 : m2.tall ≤ 100000 := by omega
    clear hnm hmm1 hmm2 hkm okm1 okm2 tm1 tm2
    go_upto_region 5 with (refine wpList_load_cell rfl 78 (.tmp 45) rfl rfl (show _ = some (Value.pointer (some ⟨gm, 0, none⟩)) from node_q HX2.out (hin _ HN.out)) (fun w => Try.isAgg78 w) ?_)
    refine lt_start [] (by kernel_rfl) ?_
    intro xd hd
    refine ⟨fun z => OW w ([boxO g3 [.slice r.A r.e.row.length r.c, .int .i64 r.e.fam, .slice r.B r.e.qual.length r.d, .int .i64 r.e.ts, .int .i64 r.e.seq, .int .i64 r.e.kind, .slice r.D r.e.val.length r.q]] ++ os) z, ?_⟩
    have HS := Lib.hid (HX2.out.later hd)
    refine lt_pure 0 rfl (by kernel_rfl) (by kernel_rfl) (by kernel_rfl) (by kernel_rfl) (fun _ _ _ h => h) (v := ?_) (yi_run rfl (fun w => ?_)) (fun _ => HS.out) ?_
    rotate_left
    · first | (go_simp; done) | (go_simp; with_reducible rfl)
    simp only [Act.put, List.setIfInBounds_toArray, List.set_cons_zero, List.set_cons_succ]
    refine lt_pure 1 rfl (by kernel_rfl) (by kernel_rfl) (by kernel_rfl) (by kernel_rfl) (fun _ _ _ h => h) (v := ?_) (yi_run rfl (fun w => ?_)) (fun _ => HS.out) ?_
    rotate_left
    · first | (go_simp; done) | (go_simp; with_reducible rfl)
    simp only [Act.put, List.setIfInBounds_toArray, List.set_cons_zero, List.set_cons_succ]
    refine lt_pure 2 rfl (by kernel_rfl) (by kernel_rfl) (by kernel_rfl) (by kernel_rfl) (fun _ _ _ h => h) (v := ?_) (yi_run rfl (fun w => ?_)) (fun _ => HS.out) ?_
    rotate_left
    · first | (go_simp; done) | (go_simp; with_reducible rfl)
    simp only [Act.put, List.setIfInBounds_toArray, List.set_cons_zero, List.set_cons_succ]
    refine lt_take 3 [24, 25] rfl (by kernel_rfl) (by kernel_rfl) (by kernel_rfl) (by kernel_rfl) (by kernel_rfl) (fun _ _ _ h => h) (yi_rowO rfl rfl rfl (fun w hS => node_ent hS (hin _ HNM.out)) ent_row8) HS.out ?_
    simp only [Act.put, List.setIfInBounds_toArray, List.set_cons_zero, List.set_cons_succ]
    refine lt_pure 4 rfl (by kernel_rfl) (by kernel_rfl) (by kernel_rfl) (by kernel_rfl) (fun _ _ _ h => h) (v := ?_) (yi_run rfl (fun w => ?_)) (fun _ => HS.out) ?_
    rotate_left
    · first | (go_simp; done) | (go_simp; with_reducible rfl)
    simp only [Act.put, List.setIfInBounds_toArray, List.set_cons_zero, List.set_cons_succ]
    refine lt_pure 5 rfl (by kernel_rfl) (by kernel_rfl) (by kernel_rfl) (by kernel_rfl) (fun _ _ _ h => h) (v := ?_) (yi_run rfl (fun w => ?_)) (fun _ => HS.out) ?_
    rotate_left
    · first | (go_simp; done) | (go_simp; with_reducible rfl)
    simp only [Act.put, List.setIfInBounds_toArray, List.set_cons_zero, List.set_cons_succ]
    refine lt_pure 6 rfl (by kernel_rfl) (by kernel_rfl) (by kernel_rfl) (by kernel_rfl) (fun _ _ _ h => h) (v := ?_) (yi_run rfl (fun w => ?_)) (fun _ => HS.out) ?_
    rotate_left
    · first | (go_simp; done) | (go_simp; with_reducible rfl)
    simp only [Act.put, List.setIfInBounds_toArray, List.set_cons_zero, List.set_cons_succ]
    refine lt_take 7 [16, 23, 24, 25] rfl (by kernel_rfl) (by kernel_rfl) (by kernel_rfl) (by kernel_rfl) (by kernel_rfl) (fun _ _ _ h => h) (yi_rowO rfl rfl rfl (fun w hS => node_ent hS (hin _ HN.out)) ent_row8) HS.out ?_
    simp only [Act.put, List.setIfInBounds_toArray, List.set_cons_zero, List.set_cons_succ]
    refine lt_pure 8 rfl (by kernel_rfl) (by kernel_rfl) (by kernel_rfl) (by kernel_rfl) (fun _ _ _ h => h) (v := ?_) (yi_run rfl (fun w => ?_)) (fun _ => HS.out) ?_
    rotate_left
    · first | (go_simp; done) | (go_simp; with_reducible rfl)
    simp only [Act.put, List.setIfInBounds_toArray, List.set_cons_zero, List.set_cons_succ]
    refine lt_pure 9 rfl (by kernel_rfl) (by kernel_rfl) (by kernel_rfl) (by kernel_rfl) (fun _ _ _ h => h) (v := ?_) (yi_run rfl (fun w => ?_)) (fun _ => HS.out) ?_
    rotate_left
    · first | (go_simp; done) | (go_simp; with_reducible rfl)
    simp only [Act.put, List.setIfInBounds_toArray, List.set_cons_zero, List.set_cons_succ]
    refine lt_pure 10 rfl (by kernel_rfl) (by kernel_rfl) (by kernel_rfl) (by kernel_rfl) (fun _ _ _ h => h) (v := ?_) (yi_run rfl (fun w => ?_)) (fun _ => HS.out) ?_
    rotate_left
    · first | (go_simp; done) | (go_simp; with_reducible rfl)
    simp only [Act.put, List.setIfInBounds_toArray, List.set_cons_zero, List.set_cons_succ]
    refine lt_take 11 [16, 23, 24, 25] rfl (by kernel_rfl) (by kernel_rfl) (by kernel_rfl) (by kernel_rfl) (by kernel_rfl) (fun _ _ _ h => h) (yi_cell rfl rfl rfl (fun w hS => node_l hS (hin _ HN.out)) (fun w => Try.isAgg78 w)) HS.out ?_
    simp only [Act.put, List.setIfInBounds_toArray, List.set_cons_zero, List.set_cons_succ]
    refine lt_pure 12 rfl (by kernel_rfl) (by kernel_rfl) (by kernel_rfl) (by kernel_rfl) (fun _ _ _ h => h) (v := ?_) (yi_run rfl (fun w => ?_)) (fun _ => HS.out) ?_
    rotate_left
    · first | (go_simp; done) | (go_simp; with_reducible rfl)
    simp only [Act.put, List.setIfInBounds_toArray, List.set_cons_zero, List.set_cons_succ]
    refine lt_pure 13 rfl (by kernel_rfl) (by kernel_rfl) (by kernel_rfl) (by kernel_rfl) (fun _ _ _ h => h) (v := ?_) (yi_run rfl (fun w => ?_)) (fun _ => HS.out) ?_
    rotate_left
    · first | (go_simp; done) | (go_simp; with_reducible rfl)
    simp only [Act.put, List.setIfInBounds_toArray, List.set_cons_zero, List.set_cons_succ]
    refine lt_pure 14 rfl (by kernel_rfl) (by kernel_rfl) (by kernel_rfl) (by kernel_rfl) (fun _ _ _ h => h) (v := ?_) (yi_run rfl (fun w => ?_)) (fun _ => HS.out) ?_
    rotate_left
    · first | (go_simp; done) | (go_simp; with_reducible rfl)
    simp only [Act.put, List.setIfInBounds_toArray, List.set_cons_zero, List.set_cons_succ]
    refine lt_take 15 [16, 23, 24, 25] rfl (by kernel_rfl) (by kernel_rfl) (by kernel_rfl) (by kernel_rfl) (by kernel_rfl) (fun _ _ _ h => h) (yi_cell rfl rfl rfl (fun w hS => node_l hS (hin _ HNM.out)) (fun w => Try.isAgg78 w)) HS.out ?_
    simp only [Act.put, List.setIfInBounds_toArray, List.set_cons_zero, List.set_cons_succ]
    refine lt_take 17 [23, 24, 25] rfl (by kernel_rfl) (by kernel_rfl) (by kernel_rfl) (by kernel_rfl) (by kernel_rfl) (fun _ _ _ h => h) (yi_row rfl rfl rfl (fun w hS => OW.range hS (i := 0) rfl) ent_row8) HS.out ?_
    simp only [Act.put, List.setIfInBounds_toArray, List.set_cons_zero, List.set_cons_succ]
    refine lt_pure 18 rfl (by kernel_rfl) (by kernel_rfl) (by kernel_rfl) (by kernel_rfl) (fun _ _ _ h => h) (v := ?_) (yi_run rfl (fun w => ?_)) (fun _ => HS.out) ?_
    rotate_left
    · first | (go_simp; done) | (go_simp; with_reducible rfl)
    simp only [Act.put, List.setIfInBounds_toArray, List.set_cons_zero, List.set_cons_succ]
    refine lt_pure 19 rfl (by kernel_rfl) (by kernel_rfl) (by kernel_rfl) (by kernel_rfl) (fun _ _ _ h => h) (v := ?_) (yi_run rfl (fun w => ?_)) (fun _ => HS.out) ?_
    rotate_left
    · first | (go_simp; done) | (go_simp; with_reducible rfl)
    simp only [Act.put, List.setIfInBounds_toArray, List.set_cons_zero, List.set_cons_succ]
    refine lt_pure 20 rfl (by kernel_rfl) (by kernel_rfl) (by kernel_rfl) (by kernel_rfl) (fun _ _ _ h => h) (v := ?_) (yi_run rfl (fun w => ?_)) (fun _ => HS.out) ?_
    rotate_left
    · first | (go_simp; done) | (go_simp; with_reducible rfl)
    simp only [Act.put, List.setIfInBounds_toArray, List.set_cons_zero, List.set_cons_succ]
    refine lt_take 21 [23, 24, 25] rfl (by kernel_rfl) (by kernel_rfl) (by kernel_rfl) (by kernel_rfl) (by kernel_rfl) (fun _ _ _ h => h) (yi_cell rfl rfl rfl (fun w hS => node_q hS (hin _ HNM.out)) (fun w => Try.isAgg78 w)) HS.out ?_
    simp only [Act.put, List.setIfInBounds_toArray, List.set_cons_zero, List.set_cons_succ]
    refine lt_pure 22 rfl (by kernel_rfl) (by kernel_rfl) (by kernel_rfl) (by kernel_rfl) (fun _ _ _ h => h) (v := ?_) (yi_run rfl (fun w => ?_)) (fun _ => HS.out) ?_
    rotate_left
    · first | (go_simp; done) | (go_simp; with_reducible rfl)
    simp only [Act.put, List.setIfInBounds_toArray, List.set_cons_zero, List.set_cons_succ]
    refine lt_call 16 rfl (by kernel_rfl) rfl rfl ⟨_, Try.func90, by decide, by kernel_rfl⟩ [.agg #[.slice a.A a.e.row.length a.c, .int .i64 a.e.fam, .slice a.B a.e.qual.length a.d, .int .i64 a.e.ts, .int .i64 a.e.seq, .int .i64 a.e.kind, .slice a.D a.e.val.length a.q], t1.ptr, m1.ptr] rfl ?_
    refine (hang_v HS.out a t1 m1 (HM1.out.more hin) (HMM1.out.more hin) (by have := HN1.out; omega) (by have := hmb1; omega) rfl rfl).mono ?_
    rintro e y1 ⟨g1, rfl, hz⟩
    have HZ1 := Lib.hid hz
    replace HS := Lib.hid (hz.sub (List.sublist_append_left _ _))
    clear hz
    refine ⟨_, rfl, fun _ => HS.out, ?_⟩
    simp only [Act.put, List.setIfInBounds_toArray, List.set_cons_zero, List.set_cons_succ]
    refine lt_call 23 rfl (by kernel_rfl) rfl rfl ⟨_, Try.func90, by decide, by kernel_rfl⟩ [.agg #[.slice r.A r.e.row.length r.c, .int .i64 r.e.fam, .slice r.B r.e.qual.length r.d, .int .i64 r.e.ts, .int .i64 r.e.seq, .int .i64 r.e.kind, .slice r.D r.e.val.length r.q], m2.ptr, .pointer qp] rfl ?_
    refine (hang_v HZ1.out r m2 q (HMM2.out.more fun o ho => List.mem_append_left _ (hin o ho)) (HQ.out.more fun o ho => List.mem_append_left _ (hin o ho)) (by have := hmb2; omega) (by have := HQT.out; omega) rfl HQP2.out).mono ?_
    rintro e y2 ⟨g2, rfl, hz⟩
    have HZ2 := Lib.hid hz
    replace HS := Lib.hid (hz.sub ((List.sublist_append_left _ _).trans (List.sublist_append_left _ _)))
    clear hz HZ1
    refine ⟨_, rfl, fun _ => HS.out, ?_⟩
    simp only [Act.put, List.setIfInBounds_toArray, List.set_cons_zero, List.set_cons_succ]
    refine lt_call 24 rfl (by kernel_rfl) rfl rfl ⟨_, Try.func90, by decide, by kernel_rfl⟩ [.agg #[.slice b.A b.e.row.length b.c, .int .i64 b.e.fam, .slice b.B b.e.qual.length b.d, .int .i64 b.e.ts, .int .i64 b.e.seq, .int .i64 b.e.kind, .slice b.D b.e.val.length b.q], .pointer (some ⟨g1, 0, none⟩), .pointer (some ⟨g2, 0, none⟩)] rfl ?_
    refine (hang_v HZ2.out b (.node g1 a (1 + max t1.tall m1.tall) t1 m1) (.node g2 r (1 + max m2.tall q.tall) m2 q) (TrM.mk (List.mem_append_left _ (List.mem_append_right _ (.head _))) (HM1.out.more fun o ho => List.mem_append_left _ (List.mem_append_left _ (hin o ho))) (HMM1.out.more fun o ho => List.mem_append_left _ (List.mem_append_left _ (hin o ho)))) (TrM.mk (List.mem_append_right _ (.head _)) (HMM2.out.more fun o ho => List.mem_append_left _ (List.mem_append_left _ (hin o ho))) (HQ.out.more fun o ho => List.mem_append_left _ (List.mem_append_left _ (hin o ho)))) (by show 1 + max _ _ ≤ 1000000; have h1 : t1.tall ≤ 1000000 := (by have := HN1.out; omega); have h2 : m1.tall ≤ 1000000 := (by have := hmb1; omega); have h3 : t1.tall ≤ 100000 := (by have := HN1.out; omega); have h4 : m1.tall ≤ 100000 := (by have := hmb1; omega); omega) (by show 1 + max _ _ ≤ 1000000; have h3 : m2.tall ≤ 100000 := (by have := hmb2; omega); have h4 : q.tall ≤ 100000 := (by have := HQT.out; omega); omega) rfl rfl).mono ?_
    rintro e y3 ⟨g5, rfl, hz⟩
    have HY : Hid (OW w (os ++ [boxO g1 (nodeC a t1 m1 (1 + max t1.tall m1.tall)), boxO g2 (nodeC r m2 q (1 + max m2.tall q.tall)), boxO g5 (nodeC b (.node g1 a (1 + max t1.tall m1.tall) t1 m1) (.node g2 r (1 + max m2.tall q.tall) m2 q) (1 + max (1 + max t1.tall m1.tall) (1 + max m2.tall q.tall)))]) y3) := Lib.hid (by
      rw [List.append_assoc, List.append_assoc, List.append_assoc] at hz
      exact hz.right)
    replace HS := Lib.hid (hz.sub ((List.sublist_append_left _ _).trans ((List.sublist_append_left _ _).trans (List.sublist_append_left _ _))))
    clear hz
    refine ⟨_, rfl, fun _ => HS.out, ?_⟩
    simp only [Act.put, List.setIfInBounds_toArray, List.set_cons_zero, List.set_cons_succ]
    refine lt_pure 25 rfl (by kernel_rfl) (by kernel_rfl) (by kernel_rfl) (by kernel_rfl) (fun _ _ _ h => h) (v := ?_) (yi_run rfl (fun w => ?_)) (fun _ => HS.out) ?_
    rotate_left
    · first | (go_simp; done) | (go_simp; with_reducible rfl)
    simp only [Act.put, List.setIfInBounds_toArray, List.set_cons_zero, List.set_cons_succ]
    refine lt_done (by kernel_rfl) ?_
    clear HS
    go_wp2_with fail
    go_ret
    exact even3 (c := b) HM1.out HMM1.out HMM2.out HQ.out HK1.out HKM1.out HKM2.out HOQ.out HY.out (by simp [Tr.list])
  have d1 : decide ((lt : Int) > (qt : Int) + 1) = false := decide_eq_false (by omega)
  by_cases c3 : lt + 1 < qt
  case pos =>
    have d3 : decide ((qt : Int) > (lt : Int) + 1) = true := decide_eq_true (by omega)
    have tk2 : True := trivial
    have tk3 : True := trivial
    obtain ⟨gl, a, k, t1, t2, rfl⟩ := Tr.tall_pos HOQ.out (by omega)
    obtain rfl : some ⟨gl, 0, none⟩ = qp := by have h := HQP2.out; injection h
    obtain ⟨hn, hm1, hm2⟩ := HQ.out.left
    obtain ⟨hk, ok1, ok2⟩ := HOQ.out
    have HN := Lib.hid hn
    have HM1 := Lib.hid hm1
    have HM2 := Lib.hid hm2
    have HK1 := Lib.hid ok1
    have HK2 := Lib.hid ok2
    have hll : t1.list.length + 1 + t2.list.length ≤ 100000 := by
      have h : (t1.list ++ a :: t2.list).length ≤ 100000 := hqb
      rw [List.length_append, List.length_cons] at h; omega
    have tt1 := Tr.tall_le ok1
    have tt2 := Tr.tall_le ok2
    obtain ⟨n1, hn1⟩ : ∃ z, z = t1.tall := ⟨_, rfl⟩
    obtain ⟨n2, hn2⟩ : ∃ z, z = t2.tall := ⟨_, rfl⟩
    have hkk : qt = 1 + max n1 n2 := by rw [hqt2, hn1, hn2]; exact hk
    have HN1 := Lib.hid hn1
    have HN2 := Lib.hid hn2
    have hn15 : n1 ≤ 100000 := by omega
    have hn25 : n2 ≤ 100000 := by omega
    clear hn hm1 hm2 hk ok1 ok2 tt1 tt2 hn1 hn2
    go_upto_region 7 with (first
      | (go_at_call 100; (have _t := tk1); go_must (refine (tall_v HX1.out l (HL.out.more hin) HLP2.out HLT.out).mono ?_); rintro e z1 ⟨rfl, hz⟩; rw [hz]; clear hz tk1 _t)
      | (go_at_call 100; (have _t := tk2); go_must (refine (tall_v HX1.out _ (HQ.out.more hin) HQP2.out HQT.out).mono ?_); rintro e z2 ⟨rfl, hz⟩; rw [hz]; clear hz tk2 _t)
      | (go_at_call 100; (have _t := tk3); go_must (refine (tall_v HX1.out _ (HQ.out.more hin) HQP2.out HQT.out).mono ?_); rintro e z3 ⟨rfl, hz⟩; rw [hz]; clear hz tk3 _t)
      | (go_at_call 100; go_must (refine (tall_v HX1.out l (HL.out.more hin) HLP2.out HLT.out).mono ?_); rintro e z4 ⟨rfl, hz⟩; rw [hz]; clear hz))
    refine lt_start [] (by kernel_rfl) ?_
    intro xd hd
    refine ⟨fun z => OW w ([boxO g3 [.slice r.A r.e.row.length r.c, .int .i64 r.e.fam, .slice r.B r.e.qual.length r.d, .int .i64 r.e.ts, .int .i64 r.e.seq, .int .i64 r.e.kind, .slice r.D r.e.val.length r.q]] ++ os) z, ?_⟩
    have HS := Lib.hid (HX1.out.later hd)
    refine lt_pure 0 rfl (by kernel_rfl) (by kernel_rfl) (by kernel_rfl) (by kernel_rfl) (fun _ _ _ h => h) (v := ?_) (yi_run rfl (fun w => ?_)) (fun _ => HS.out) ?_
    rotate_left
    · first | (go_simp; done) | (go_simp; with_reducible rfl)
    simp only [Act.put, List.setIfInBounds_toArray, List.set_cons_zero, List.set_cons_succ]
    refine lt_pure 1 rfl (by kernel_rfl) (by kernel_rfl) (by kernel_rfl) (by kernel_rfl) (fun _ _ _ h => h) (v := ?_) (yi_run rfl (fun w => ?_)) (fun _ => HS.out) ?_
    rotate_left
    · first | (go_simp; done) | (go_simp; with_reducible rfl)
    simp only [Act.put, List.setIfInBounds_toArray, List.set_cons_zero, List.set_cons_succ]
    refine lt_pure 2 rfl (by kernel_rfl) (by kernel_rfl) (by kernel_rfl) (by kernel_rfl) (fun _ _ _ h => h) (v := ?_) (yi_run rfl (fun w => ?_)) (fun _ => HS.out) ?_
    rotate_left
    · first | (go_simp; done) | (go_simp; with_reducible rfl)
    simp only [Act.put, List.setIfInBounds_toArray, List.set_cons_zero, List.set_cons_succ]
    refine lt_take 3 [4, 9, 10] rfl (by kernel_rfl) (by kernel_rfl) (by kernel_rfl) (by kernel_rfl) (by kernel_rfl) (fun _ _ _ h => h) (yi_cell rfl rfl rfl (fun w hS => node_q hS (hin _ HN.out)) (fun w => Try.isAgg78 w)) HS.out ?_
    simp only [Act.put, List.setIfInBounds_toArray, List.set_cons_zero, List.set_cons_succ]
    refine lt_pure 5 rfl (by kernel_rfl) (by kernel_rfl) (by kernel_rfl) (by kernel_rfl) (fun _ _ _ h => h) (v := ?_) (yi_run rfl (fun w => ?_)) (fun _ => HS.out) ?_
    rotate_left
    · first | (go_simp; done) | (go_simp; with_reducible rfl)
    simp only [Act.put, List.setIfInBounds_toArray, List.set_cons_zero, List.set_cons_succ]
    refine lt_pure 6 rfl (by kernel_rfl) (by kernel_rfl) (by kernel_rfl) (by kernel_rfl) (fun _ _ _ h => h) (v := ?_) (yi_run rfl (fun w => ?_)) (fun _ => HS.out) ?_
    rotate_left
    · first | (go_simp; done) | (go_simp; with_reducible rfl)
    simp only [Act.put, List.setIfInBounds_toArray, List.set_cons_zero, List.set_cons_succ]
    refine lt_pure 7 rfl (by kernel_rfl) (by kernel_rfl) (by kernel_rfl) (by kernel_rfl) (fun _ _ _ h => h) (v := ?_) (yi_run rfl (fun w => ?_)) (fun _ => HS.out) ?_
    rotate_left
    · first | (go_simp; done) | (go_simp; with_reducible rfl)
    simp only [Act.put, List.setIfInBounds_toArray, List.set_cons_zero, List.set_cons_succ]
    refine lt_take 8 [9, 10] rfl (by kernel_rfl) (by kernel_rfl) (by kernel_rfl) (by kernel_rfl) (by kernel_rfl) (fun _ _ _ h => h) (yi_cell rfl rfl rfl (fun w hS => node_l hS (hin _ HN.out)) (fun w => Try.isAgg78 w)) HS.out ?_
    simp only [Act.put, List.setIfInBounds_toArray, List.set_cons_zero, List.set_cons_succ]
    refine lt_call 4 rfl (by kernel_rfl) rfl rfl ⟨_, Try.func100, by decide, by kernel_rfl⟩ [t2.ptr] rfl ?_
    refine (tall_v HS.out t2 (HM2.out.more hin) rfl HN2.out).mono ?_
    rintro e yy ⟨rfl, hz⟩
    rw [hz]
    clear hz yy
    refine ⟨_, rfl, fun _ => HS.out, ?_⟩
    simp only [Act.put, List.setIfInBounds_toArray, List.set_cons_zero, List.set_cons_succ]
    refine lt_call 9 rfl (by kernel_rfl) rfl rfl ⟨_, Try.func100, by decide, by kernel_rfl⟩ [t1.ptr] rfl ?_
    refine (tall_v HS.out t1 (HM1.out.more hin) rfl HN1.out).mono ?_
    rintro e yy ⟨rfl, hz⟩
    rw [hz]
    clear hz yy
    refine ⟨_, rfl, fun _ => HS.out, ?_⟩
    simp only [Act.put, List.setIfInBounds_toArray, List.set_cons_zero, List.set_cons_succ]
    refine lt_pure 10 rfl (by kernel_rfl) (by kernel_rfl) (by kernel_rfl) (by kernel_rfl) (fun _ _ _ h => h) (v := ?_) (yi_run rfl (fun w => ?_)) (fun _ => HS.out) ?_
    rotate_left
    · first | (go_simp; done) | (go_simp; with_reducible rfl)
    simp only [Act.put, List.setIfInBounds_toArray, List.set_cons_zero, List.set_cons_succ]
    refine lt_done (by kernel_rfl) ?_
    have HX2 := HS
    clear HS HX1
    by_cases c2 : n1 ≤ n2
    case pos =>
      have d2 : decide ((n2 : Int) ≥ (n1 : Int)) = true := decide_eq_true (by omega)
      have d2' : n1 ≤ n2 := c2
      go_wp2_with fail
      refine lt_start [] (by kernel_rfl) ?_
      intro xd hd
      refine ⟨fun z => OW w ([boxO g3 [.slice r.A r.e.row.length r.c, .int .i64 r.e.fam, .slice r.B r.e.qual.length r.d, .int .i64 r.e.ts, .int .i64 r.e.seq, .int .i64 r.e.kind, .slice r.D r.e.val.length r.q]] ++ os) z, ?_⟩
      have HS := Lib.hid (HX2.out.later hd)
      refine lt_pure 0 rfl (by kernel_rfl) (by kernel_rfl) (by kernel_rfl) (by kernel_rfl) (fun _ _ _ h => h) (v := ?_) (yi_run rfl (fun w => ?_)) (fun _ => HS.out) ?_
      rotate_left
      · first | (go_simp; done) | (go_simp; with_reducible rfl)
      simp only [Act.put, List.setIfInBounds_toArray, List.set_cons_zero, List.set_cons_succ]
      refine lt_pure 1 rfl (by kernel_rfl) (by kernel_rfl) (by kernel_rfl) (by kernel_rfl) (fun _ _ _ h => h) (v := ?_) (yi_run rfl (fun w => ?_)) (fun _ => HS.out) ?_
      rotate_left
      · first | (go_simp; done) | (go_simp; with_reducible rfl)
      simp only [Act.put, List.setIfInBounds_toArray, List.set_cons_zero, List.set_cons_succ]
      refine lt_pure 2 rfl (by kernel_rfl) (by kernel_rfl) (by kernel_rfl) (by kernel_rfl) (fun _ _ _ h => h) (v := ?_) (yi_run rfl (fun w => ?_)) (fun _ => HS.out) ?_
      rotate_left
      · first | (go_simp; done) | (go_simp; with_reducible rfl)
      simp only [Act.put, List.setIfInBounds_toArray, List.set_cons_zero, List.set_cons_succ]
      refine lt_take 3 [15, 16] rfl (by kernel_rfl) (by kernel_rfl) (by kernel_rfl) (by kernel_rfl) (by kernel_rfl) (fun _ _ _ h => h) (yi_rowO rfl rfl rfl (fun w hS => node_ent hS (hin _ HN.out)) ent_row8) HS.out ?_
      simp only [Act.put, List.setIfInBounds_toArray, List.set_cons_zero, List.set_cons_succ]
      refine lt_take 4 [10, 15, 16] rfl (by kernel_rfl) (by kernel_rfl) (by kernel_rfl) (by kernel_rfl) (by kernel_rfl) (fun _ _ _ h => h) (yi_row rfl rfl rfl (fun w hS => OW.range hS (i := 0) rfl) ent_row8) HS.out ?_
      simp only [Act.put, List.setIfInBounds_toArray, List.set_cons_zero, List.set_cons_succ]
      refine lt_pure 5 rfl (by kernel_rfl) (by kernel_rfl) (by kernel_rfl) (by kernel_rfl) (fun _ _ _ h => h) (v := ?_) (yi_run rfl (fun w => ?_)) (fun _ => HS.out) ?_
      rotate_left
      · first | (go_simp; done) | (go_simp; with_reducible rfl)
      simp only [Act.put, List.setIfInBounds_toArray, List.set_cons_zero, List.set_cons_succ]
      refine lt_pure 6 rfl (by kernel_rfl) (by kernel_rfl) (by kernel_rfl) (by kernel_rfl) (fun _ _ _ h => h) (v := ?_) (yi_run rfl (fun w => ?_)) (fun _ => HS.out) ?_
      rotate_left
      · first | (go_simp; done) | (go_simp; with_reducible rfl)
      simp only [Act.put, List.setIfInBounds_toArray, List.set_cons_zero, List.set_cons_succ]
      refine lt_pure 7 rfl (by kernel_rfl) (by kernel_rfl) (by kernel_rfl) (by kernel_rfl) (fun _ _ _ h => h) (v := ?_) (yi_run rfl (fun w => ?_)) (fun _ => HS.out) ?_
      rotate_left
      · first | (go_simp; done) | (go_simp; with_reducible rfl)
      simp only [Act.put, List.setIfInBounds_toArray, List.set_cons_zero, List.set_cons_succ]
      refine lt_pure 8 rfl (by kernel_rfl) (by kernel_rfl) (by kernel_rfl) (by kernel_rfl) (fun _ _ _ h => h) (v := ?_) (yi_run rfl (fun w => ?_)) (fun _ => HS.out) ?_
      rotate_left
      · first | (go_simp; done) | (go_simp; with_reducible rfl)
      simp only [Act.put, List.setIfInBounds_toArray, List.set_cons_zero, List.set_cons_succ]
      refine lt_take 9 [10, 15, 16] rfl (by kernel_rfl) (by kernel_rfl) (by kernel_rfl) (by kernel_rfl) (by kernel_rfl) (fun _ _ _ h => h) (yi_cell rfl rfl rfl (fun w hS => node_l hS (hin _ HN.out)) (fun w => Try.isAgg78 w)) HS.out ?_
      simp only [Act.put, List.setIfInBounds_toArray, List.set_cons_zero, List.set_cons_succ]
      refine lt_pure 11 rfl (by kernel_rfl) (by kernel_rfl) (by kernel_rfl) (by kernel_rfl) (fun _ _ _ h => h) (v := ?_) (yi_run rfl (fun w => ?_)) (fun _ => HS.out) ?_
      rotate_left
      · first | (go_simp; done) | (go_simp; with_reducible rfl)
      simp only [Act.put, List.setIfInBounds_toArray, List.set_cons_zero, List.set_cons_succ]
      refine lt_pure 12 rfl (by kernel_rfl) (by kernel_rfl) (by kernel_rfl) (by kernel_rfl) (fun _ _ _ h => h) (v := ?_) (yi_run rfl (fun w => ?_)) (fun _ => HS.out) ?_
      rotate_left
      · first | (go_simp; done) | (go_simp; with_reducible rfl)
      simp only [Act.put, List.setIfInBounds_toArray, List.set_cons_zero, List.set_cons_succ]
      refine lt_pure 13 rfl (by kernel_rfl) (by kernel_rfl) (by kernel_rfl) (by kernel_rfl) (fun _ _ _ h => h) (v := ?_) (yi_run rfl (fun w => ?_)) (fun _ => HS.out) ?_
      rotate_left
      · first | (go_simp; done) | (go_simp; with_reducible rfl)
      simp only [Act.put, List.setIfInBounds_toArray, List.set_cons_zero, List.set_cons_succ]
      refine lt_take 14 [15, 16] rfl (by kernel_rfl) (by kernel_rfl) (by kernel_rfl) (by kernel_rfl) (by kernel_rfl) (fun _ _ _ h => h) (yi_cell rfl rfl rfl (fun w hS => node_q hS (hin _ HN.out)) (fun w => Try.isAgg78 w)) HS.out ?_
      simp only [Act.put, List.setIfInBounds_toArray, List.set_cons_zero, List.set_cons_succ]
      refine lt_call 10 rfl (by kernel_rfl) rfl rfl ⟨_, Try.func90, by decide, by kernel_rfl⟩ [.agg #[.slice r.A r.e.row.length r.c, .int .i64 r.e.fam, .slice r.B r.e.qual.length r.d, .int .i64 r.e.ts, .int .i64 r.e.seq, .int .i64 r.e.kind, .slice r.D r.e.val.length r.q], .pointer lp, t1.ptr] rfl ?_
      refine (hang_v HS.out r l t1 (HL.out.more hin) (HM1.out.more hin) (by have := HLT.out; omega) (by have := HN1.out; omega) HLP2.out rfl).mono ?_
      rintro e y1 ⟨g1, rfl, hz⟩
      have HZ1 := Lib.hid hz
      replace HS := Lib.hid (hz.sub (List.sublist_append_left _ _))
      clear hz
      refine ⟨_, rfl, fun _ => HS.out, ?_⟩
      simp only [Act.put, List.setIfInBounds_toArray, List.set_cons_zero, List.set_cons_succ]
      refine lt_call 15 rfl (by kernel_rfl) rfl rfl ⟨_, Try.func90, by decide, by kernel_rfl⟩ [.agg #[.slice a.A a.e.row.length a.c, .int .i64 a.e.fam, .slice a.B a.e.qual.length a.d, .int .i64 a.e.ts, .int .i64 a.e.seq, .int .i64 a.e.kind, .slice a.D a.e.val.length a.q], .pointer (some ⟨g1, 0, none⟩), t2.ptr] rfl ?_
      refine (hang_v HZ1.out a (.node g1 r (1 + max l.tall t1.tall) l t1) t2 (TrM.mk (List.mem_append_right _ (.head _)) (HL.out.more fun o ho => List.mem_append_left _ (hin o ho)) (HM1.out.more fun o ho => List.mem_append_left _ (hin o ho))) (HM2.out.more fun o ho => List.mem_append_left _ (hin o ho)) (by show 1 + max l.tall t1.tall ≤ 1000000; have := HN1.out; have := HLT.out; omega) (by have := HN2.out; omega) rfl rfl).mono ?_
      rintro e y2 ⟨g2, rfl, hz⟩
      have HY : Hid (OW w (os ++ [boxO g1 (nodeC r l t1 (1 + max l.tall t1.tall)), boxO g2 (nodeC a (.node g1 r (1 + max l.tall t1.tall) l t1) t2 (1 + max (1 + max l.tall t1.tall) t2.tall))]) y2) := Lib.hid (by
        rw [List.append_assoc, List.append_assoc] at hz
        exact hz.right)
      replace HS := Lib.hid (hz.sub ((List.sublist_append_left _ _).trans (List.sublist_append_left _ _)))
      clear hz
      refine ⟨_, rfl, fun _ => HS.out, ?_⟩
      simp only [Act.put, List.setIfInBounds_toArray, List.set_cons_zero, List.set_cons_succ]
      refine lt_pure 16 rfl (by kernel_rfl) (by kernel_rfl) (by kernel_rfl) (by kernel_rfl) (fun _ _ _ h => h) (v := ?_) (yi_run rfl (fun w => ?_)) (fun _ => HS.out) ?_
      rotate_left
      · first | (go_simp; done) | (go_simp; with_reducible rfl)
      simp only [Act.put, List.setIfInBounds_toArray, List.set_cons_zero, List.set_cons_succ]
      refine lt_done (by kernel_rfl) ?_
      clear HS
      go_wp2_with fail
      go_ret
      exact even2r (HM1.out) (HM2.out) (HL.out) (HK1.out) (HK2.out) HOL.out HY.out
    have d2 : decide ((n2 : Int) ≥ (n1 : Int)) = false := decide_eq_false (by omega)
    obtain ⟨gm, b, k2, m1, m2, rfl⟩ := Tr.tall_pos HK1.out (by have := HN1.out; omega)
    obtain ⟨hnm, hmm1, hmm2⟩ := HM1.out.left
    obtain ⟨hkm, okm1, okm2⟩ := HK1.out
    have HNM := Lib.hid hnm
    have HMM1 := Lib.hid hmm1
    have HMM2 := Lib.hid hmm2
    have HKM1 := Lib.hid okm1
    have HKM2 := Lib.hid okm2
    have hmlb : m1.list.length + 1 + m2.list.length ≤ 100000 := by
      have h : (m1.list ++ b :: m2.list).length + 1 + t2.list.length ≤ 100000 := hll
      rw [List.length_append, List.length_cons] at h; omega
    have tm1 := Tr.tall_le okm1
    have tm2 := Tr.tall_le okm2
    have hmb1 : m1.tall ≤ 100000 := by omega
    have hmb2 : m2.tall ≤ 100000 := by omega
    clear hnm hmm1 hmm2 hkm okm1 okm2 tm1 tm2
    go_upto_region 10 with (refine wpList_load_cell rfl 78 (.tmp 108) rfl rfl (show _ = some (Value.pointer (some ⟨gm, 0, none⟩)) from node_l HX2.out (hin _ HN.out)) (fun w => Try.isAgg78 w) ?_)
    refine lt_start [] (by kernel_rfl) ?_
    intro xd hd
    refine ⟨fun z => OW w ([boxO g3 [.slice r.A r.e.row.length r.c, .int .i64 r.e.fam, .slice r.B r.e.qual.length r.d, .int .i64 r.e.ts, .int .i64 r.e.seq, .int .i64 r.e.kind, .slice r.D r.e.val.length r.q]] ++ os) z, ?_⟩
    have HS := Lib.hid (HX2.out.later hd)
    refine lt_pure 0 rfl (by kernel_rfl) (by kernel_rfl) (by kernel_rfl) (by kernel_rfl) (fun _ _ _ h => h) (v := ?_) (yi_run rfl (fun w => ?_)) (fun _ => HS.out) ?_
    rotate_left
    · first | (go_simp; done) | (go_simp; with_reducible rfl)
    simp only [Act.put, List.setIfInBounds_toArray, List.set_cons_zero, List.set_cons_succ]
    refine lt_pure 1 rfl (by kernel_rfl) (by kernel_rfl) (by kernel_rfl) (by kernel_rfl) (fun _ _ _ h => h) (v := ?_) (yi_run rfl (fun w => ?_)) (fun _ => HS.out) ?_
    rotate_left
    · first | (go_simp; done) | (go_simp; with_reducible rfl)
    simp only [Act.put, List.setIfInBounds_toArray, List.set_cons_zero, List.set_cons_succ]
    refine lt_pure 2 rfl (by kernel_rfl) (by kernel_rfl) (by kernel_rfl) (by kernel_rfl) (fun _ _ _ h => h) (v := ?_) (yi_run rfl (fun w => ?_)) (fun _ => HS.out) ?_
    rotate_left
    · first | (go_simp; done) | (go_simp; with_reducible rfl)
    simp only [Act.put, List.setIfInBounds_toArray, List.set_cons_zero, List.set_cons_succ]
    refine lt_take 3 [24, 25] rfl (by kernel_rfl) (by kernel_rfl) (by kernel_rfl) (by kernel_rfl) (by kernel_rfl) (fun _ _ _ h => h) (yi_rowO rfl rfl rfl (fun w hS => node_ent hS (hin _ HNM.out)) ent_row8) HS.out ?_
    simp only [Act.put, List.setIfInBounds_toArray, List.set_cons_zero, List.set_cons_succ]
    refine lt_take 4 [10, 23, 24, 25] rfl (by kernel_rfl) (by kernel_rfl) (by kernel_rfl) (by kernel_rfl) (by kernel_rfl) (fun _ _ _ h => h) (yi_row rfl rfl rfl (fun w hS => OW.range hS (i := 0) rfl) ent_row8) HS.out ?_
    simp only [Act.put, List.setIfInBounds_toArray, List.set_cons_zero, List.set_cons_succ]
    refine lt_pure 5 rfl (by kernel_rfl) (by kernel_rfl) (by kernel_rfl) (by kernel_rfl) (fun _ _ _ h => h) (v := ?_) (yi_run rfl (fun w => ?_)) (fun _ => HS.out) ?_
    rotate_left
    · first | (go_simp; done) | (go_simp; with_reducible rfl)
    simp only [Act.put, List.setIfInBounds_toArray, List.set_cons_zero, List.set_cons_succ]
    refine lt_pure 6 rfl (by kernel_rfl) (by kernel_rfl) (by kernel_rfl) (by kernel_rfl) (fun _ _ _ h => h) (v := ?_) (yi_run rfl (fun w => ?_)) (fun _ => HS.out) ?_
    rotate_left
    · first | (go_simp; done) | (go_simp; with_reducible rfl)
    simp only [Act.put, List.setIfInBounds_toArray, List.set_cons_zero, List.set_cons_succ]
    refine lt_pure 7 rfl (by kernel_rfl) (by kernel_rfl) (by kernel_rfl) (by kernel_rfl) (fun _ _ _ h => h) (v := ?_) (yi_run rfl (fun w => ?_)) (fun _ => HS.out) ?_
    rotate_left
    · first | (go_simp; done) | (go_simp; with_reducible rfl)
    simp only [Act.put, List.setIfInBounds_toArray, List.set_cons_zero, List.set_cons_succ]
    refine lt_pure 8 rfl (by kernel_rfl) (by kernel_rfl) (by kernel_rfl) (by kernel_rfl) (fun _ _ _ h => h) (v := ?_) (yi_run rfl (fun w => ?_)) (fun _ => HS.out) ?_
    rotate_left
    · first | (go_simp; done) | (go_simp; with_reducible rfl)
    simp only [Act.put, List.setIfInBounds_toArray, List.set_cons_zero, List.set_cons_succ]
    refine lt_take 9 [10, 23, 24, 25] rfl (by kernel_rfl) (by kernel_rfl) (by kernel_rfl) (by kernel_rfl) (by kernel_rfl) (fun _ _ _ h => h) (yi_cell rfl rfl rfl (fun w hS => node_l hS (hin _ HNM.out)) (fun w => Try.isAgg78 w)) HS.out ?_
    simp only [Act.put, List.setIfInBounds_toArray, List.set_cons_zero, List.set_cons_succ]
    refine lt_pure 11 rfl (by kernel_rfl) (by kernel_rfl) (by kernel_rfl) (by kernel_rfl) (fun _ _ _ h => h) (v := ?_) (yi_run rfl (fun w => ?_)) (fun _ => HS.out) ?_
    rotate_left
    · first | (go_simp; done) | (go_simp; with_reducible rfl)
    simp only [Act.put, List.setIfInBounds_toArray, List.set_cons_zero, List.set_cons_succ]
    refine lt_pure 12 rfl (by kernel_rfl) (by kernel_rfl) (by kernel_rfl) (by kernel_rfl) (fun _ _ _ h => h) (v := ?_) (yi_run rfl (fun w => ?_)) (fun _ => HS.out) ?_
    rotate_left
    · first | (go_simp; done) | (go_simp; with_reducible rfl)
    simp only [Act.put, List.setIfInBounds_toArray, List.set_cons_zero, List.set_cons_succ]
    refine lt_pure 13 rfl (by kernel_rfl) (by kernel_rfl) (by kernel_rfl) (by kernel_rfl) (fun _ _ _ h => h) (v := ?_) (yi_run rfl (fun w => ?_)) (fun _ => HS.out) ?_
    rotate_left
    · first | (go_simp; done) | (go_simp; with_reducible rfl)
    simp only [Act.put, List.setIfInBounds_toArray, List.set_cons_zero, List.set_cons_succ]
    refine lt_take 14 [23, 24, 25] rfl (by kernel_rfl) (by kernel_rfl) (by kernel_rfl) (by kernel_rfl) (by kernel_rfl) (fun _ _ _ h => h) (yi_rowO rfl rfl rfl (fun w hS => node_ent hS (hin _ HN.out)) ent_row8) HS.out ?_
    simp only [Act.put, List.setIfInBounds_toArray, List.set_cons_zero, List.set_cons_succ]
    refine lt_pure 15 rfl (by kernel_rfl) (by kernel_rfl) (by kernel_rfl) (by kernel_rfl) (fun _ _ _ h => h) (v := ?_) (yi_run rfl (fun w => ?_)) (fun _ => HS.out) ?_
    rotate_left
    · first | (go_simp; done) | (go_simp; with_reducible rfl)
    simp only [Act.put, List.setIfInBounds_toArray, List.set_cons_zero, List.set_cons_succ]
    refine lt_pure 16 rfl (by kernel_rfl) (by kernel_rfl) (by kernel_rfl) (by kernel_rfl) (fun _ _ _ h => h) (v := ?_) (yi_run rfl (fun w => ?_)) (fun _ => HS.out) ?_
    rotate_left
    · first | (go_simp; done) | (go_simp; with_reducible rfl)
    simp only [Act.put, List.setIfInBounds_toArray, List.set_cons_zero, List.set_cons_succ]
    refine lt_pure 17 rfl (by kernel_rfl) (by kernel_rfl) (by kernel_rfl) (by kernel_rfl) (fun _ _ _ h => h) (v := ?_) (yi_run rfl (fun w => ?_)) (fun _ => HS.out) ?_
    rotate_left
    · first | (go_simp; done) | (go_simp; with_reducible rfl)
    simp only [Act.put, List.setIfInBounds_toArray, List.set_cons_zero, List.set_cons_succ]
    refine lt_take 18 [23, 24, 25] rfl (by kernel_rfl) (by kernel_rfl) (by kernel_rfl) (by kernel_rfl) (by kernel_rfl) (fun _ _ _ h => h) (yi_cell rfl rfl rfl (fun w hS => node_q hS (hin _ HNM.out)) (fun w => Try.isAgg78 w)) HS.out ?_
    simp only [Act.put, List.setIfInBounds_toArray, List.set_cons_zero, List.set_cons_succ]
    refine lt_pure 19 rfl (by kernel_rfl) (by kernel_rfl) (by kernel_rfl) (by kernel_rfl) (fun _ _ _ h => h) (v := ?_) (yi_run rfl (fun w => ?_)) (fun _ => HS.out) ?_
    rotate_left
    · first | (go_simp; done) | (go_simp; with_reducible rfl)
    simp only [Act.put, List.setIfInBounds_toArray, List.set_cons_zero, List.set_cons_succ]
    refine lt_pure 20 rfl (by kernel_rfl) (by kernel_rfl) (by kernel_rfl) (by kernel_rfl) (fun _ _ _ h => h) (v := ?_) (yi_run rfl (fun w => ?_)) (fun _ => HS.out) ?_
    rotate_left
    · first | (go_simp; done) | (go_simp; with_reducible rfl)
    simp only [Act.put, List.setIfInBounds_toArray, List.set_cons_zero, List.set_cons_succ]
    refine lt_pure 21 rfl (by kernel_rfl) (by kernel_rfl) (by kernel_rfl) (by kernel_rfl) (fun _ _ _ h => h) (v := ?_) (yi_run rfl (fun w => ?_)) (fun _ => HS.out) ?_
    rotate_left
    · first | (go_simp; done) | (go_simp; with_reducible rfl)
    simp only [Act.put, List.setIfInBounds_toArray, List.set_cons_zero, List.set_cons_succ]
    refine lt_take 22 [23, 24, 25] rfl (by kernel_rfl) (by kernel_rfl) (by kernel_rfl) (by kernel_rfl) (by kernel_rfl) (fun _ _ _ h => h) (yi_cell rfl rfl rfl (fun w hS => node_q hS (hin _ HN.out)) (fun w => Try.isAgg78 w)) HS.out ?_
    simp only [Act.put, List.setIfInBounds_toArray, List.set_cons_zero, List.set_cons_succ]
    refine lt_call 10 rfl (by kernel_rfl) rfl rfl ⟨_, Try.func90, by decide, by kernel_rfl⟩ [.agg #[.slice r.A r.e.row.length r.c, .int .i64 r.e.fam, .slice r.B r.e.qual.length r.d, .int .i64 r.e.ts, .int .i64 r.e.seq, .int .i64 r.e.kind, .slice r.D r.e.val.length r.q], .pointer lp, m1.ptr] rfl ?_
    refine (hang_v HS.out r l m1 (HL.out.more hin) (HMM1.out.more hin) (by have := HLT.out; omega) (by have := hmb1; omega) HLP2.out rfl).mono ?_
    rintro e y1 ⟨g1, rfl, hz⟩
    have HZ1 := Lib.hid hz
    replace HS := Lib.hid (hz.sub (List.sublist_append_left _ _))
    clear hz
    refine ⟨_, rfl, fun _ => HS.out, ?_⟩
    simp only [Act.put, List.setIfInBounds_toArray, List.set_cons_zero, List.set_cons_succ]
    refine lt_call 23 rfl (by kernel_rfl) rfl rfl ⟨_, Try.func90, by decide, by kernel_rfl⟩ [.agg #[.slice a.A a.e.row.length a.c, .int .i64 a.e.fam, .slice a.B a.e.qual.length a.d, .int .i64 a.e.ts, .int .i64 a.e.seq, .int .i64 a.e.kind, .slice a.D a.e.val.length a.q], m2.ptr, t2.ptr] rfl ?_
    refine (hang_v HZ1.out a m2 t2 (HMM2.out.more fun o ho => List.mem_append_left _ (hin o ho)) (HM2.out.more fun o ho => List.mem_append_left _ (hin o ho)) (by have := hmb2; omega) (by have := HN2.out; omega) rfl rfl).mono ?_
    rintro e y2 ⟨g2, rfl, hz⟩
    have HZ2 := Lib.hid hz
    replace HS := Lib.hid (hz.sub ((List.sublist_append_left _ _).trans (List.sublist_append_left _ _)))
    clear hz HZ1
    refine ⟨_, rfl, fun _ => HS.out, ?_⟩
    simp only [Act.put, List.setIfInBounds_toArray, List.set_cons_zero, List.set_cons_succ]
    refine lt_call 24 rfl (by kernel_rfl) rfl rfl ⟨_, Try.func90, by decide, by kernel_rfl⟩ [.agg #[.slice b.A b.e.row.length b.c, .int .i64 b.e.fam, .slice b.B b.e.qual.length b.d, .int .i64 b.e.ts, .int .i64 b.e.seq, .int .i64 b.e.kind, .slice b.D b.e.val.length b.q], .pointer (some ⟨g1, 0, none⟩), .pointer (some ⟨g2, 0, none⟩)] rfl ?_
    refine (hang_v HZ2.out b (.node g1 r (1 + max l.tall m1.tall) l m1) (.node g2 a (1 + max m2.tall t2.tall) m2 t2) (TrM.mk (List.mem_append_left _ (List.mem_append_right _ (.head _))) (HL.out.more fun o ho => List.mem_append_left _ (List.mem_append_left _ (hin o ho))) (HMM1.out.more fun o ho => List.mem_append_left _ (List.mem_append_left _ (hin o ho)))) (TrM.mk (List.mem_append_right _ (.head _)) (HMM2.out.more fun o ho => List.mem_append_left _ (List.mem_append_left _ (hin o ho))) (HM2.out.more fun o ho => List.mem_append_left _ (List.mem_append_left _ (hin o ho)))) (by show 1 + max _ _ ≤ 1000000; have h1 : l.tall ≤ 1000000 := (by have := HLT.out; omega); have h2 : m1.tall ≤ 1000000 := (by have := hmb1; omega); have h3 : l.tall ≤ 100000 := (by have := HLT.out; omega); have h4 : m1.tall ≤ 100000 := (by have := hmb1; omega); omega) (by show 1 + max _ _ ≤ 1000000; have h3 : m2.tall ≤ 100000 := (by have := hmb2; omega); have h4 : t2.tall ≤ 100000 := (by have := HN2.out; omega); omega) rfl rfl).mono ?_
    rintro e y3 ⟨g5, rfl, hz⟩
    have HY : Hid (OW w (os ++ [boxO g1 (nodeC r l m1 (1 + max l.tall m1.tall)), boxO g2 (nodeC a m2 t2 (1 + max m2.tall t2.tall)), boxO g5 (nodeC b (.node g1 r (1 + max l.tall m1.tall) l m1) (.node g2 a (1 + max m2.tall t2.tall) m2 t2) (1 + max (1 + max l.tall m1.tall) (1 + max m2.tall t2.tall)))]) y3) := Lib.hid (by
      rw [List.append_assoc, List.append_assoc, List.append_assoc] at hz
      exact hz.right)
    replace HS := Lib.hid (hz.sub ((List.sublist_append_left _ _).trans ((List.sublist_append_left _ _).trans (List.sublist_append_left _ _))))
    clear hz
    refine ⟨_, rfl, fun _ => HS.out, ?_⟩
    simp only [Act.put, List.setIfInBounds_toArray, List.set_cons_zero, List.set_cons_succ]
    refine lt_pure 25 rfl (by kernel_rfl) (by kernel_rfl) (by kernel_rfl) (by kernel_rfl) (fun _ _ _ h => h) (v := ?_) (yi_run rfl (fun w => ?_)) (fun _ => HS.out) ?_
    rotate_left
    · first | (go_simp; done) | (go_simp; with_reducible rfl)
    simp only [Act.put, List.setIfInBounds_toArray, List.set_cons_zero, List.set_cons_succ]
    refine lt_done (by kernel_rfl) ?_
    clear HS
    go_wp2_with fail
    go_ret
    exact even3 (c := b) HL.out HMM1.out HMM2.out HM2.out HOL.out HKM1.out HKM2.out HK2.out HY.out (by simp [Tr.list])
  have d3 : decide ((qt : Int) > (lt : Int) + 1) = false := decide_eq_false (by omega)
  have tk2 : True := trivial
  have tk3 : True := trivial
  go_wp2_with (first
    | (go_at_call 100; (have _t := tk1); go_must (refine (tall_v HX1.out l (HL.out.more hin) HLP2.out HLT.out).mono ?_); rintro e z1 ⟨rfl, hz⟩; rw [hz]; clear hz tk1 _t)
    | (go_at_call 100; (have _t := tk2); go_must (refine (tall_v HX1.out q (HQ.out.more hin) HQP2.out HQT.out).mono ?_); rintro e z2 ⟨rfl, hz⟩; rw [hz]; clear hz tk2 _t)
    | (go_at_call 100; (have _t := tk3); go_must (refine (tall_v HX1.out q (HQ.out.more hin) HQP2.out HQT.out).mono ?_); rintro e z3 ⟨rfl, hz⟩; rw [hz]; clear hz tk3 _t)
    | (go_at_call 100; go_must (refine (tall_v HX1.out l (HL.out.more hin) HLP2.out HLT.out).mono ?_); rintro e z4 ⟨rfl, hz⟩; rw [hz]; clear hz)
    | (refine wpList_load_row7 rfl 30 (.tmp 3) rfl rfl (HX1.out.range (i := 0) rfl) ent_row8 ?_)
    | (go_at_call 90; go_must (refine (hang_v HX1.out r l q (HL.out.more hin) (HQ.out.more hin) (by have := HLT.out; omega) (by have := HQT.out; omega) HLP2.out HQP2.out).mono ?_); rintro e z5 ⟨g1, rfl, hz⟩; have HY : Hid (OW w (os ++ [boxO g1 (nodeC r l q (1 + max l.tall q.tall))]) z5) := Lib.hid (by rw [List.append_assoc] at hz; exact hz.right); clear hz))
  go_ret
  exact even1 HL.out HQ.out HOL.out HOQ.out HY.out
end Go.Proofs.Ytdaoinhkagmbdaa
namespace Go.Proofs.Ytdaoinhkagmbdaa
open Go.RowKit
theorem run_call_dyn {P : Program} {ρ : Operand → Value} {o : Oper} {y : Operand} {xs : Array Operand} {ats : Array TypeId} (ho : o.op = .call { callee := .value y, args := xs, argTypes := ats }) {f : FuncId} {lb : Array Value} (hy : ρ y = .func (.func f) #[] lb) (hf : GoFn P f) (w : World) :
    (execOp ρ o).run P w = .ok (.enter f (xs.map ρ ++ lb)) w := by
  obtain ⟨dst, op, type, pos, after, guard⟩ := o
  simp only at ho
  subst ho
  have h2 := run_callFunc_go hf (xs.map ρ ++ lb) w
  simp only [execOp, resolve, hy]
  simp [go_sem, invoke]
  exact h2
theorem wp_call_dyn {P : Program} {Q : Exit → Act → World → Prop} {o : Oper} {a : Act} {w : World} {K : Act → World → Prop} {y : Operand} {xs : List Operand} {ats : Array TypeId} (ho : o.op = .call { callee := .value y, args := xs.toArray, argTypes := ats }) {f : FuncId} {lb : List Value} (hy : a.eval y = .func (.func f) #[] lb.toArray) (hf : GoFn P f)
    (vals : List Value) (hv : xs.map a.eval = vals) (hc : Calls P f (vals ++ lb).toArray w fun e w' => ∃ v, e = .returned v ∧ K (a.put o.dst v) w') : o.wp P a w K Q := by
  subst hv
  have hrun := run_call_dyn (P := P) ho hy hf w
  have e : xs.toArray.map a.eval ++ lb.toArray = (xs.map a.eval ++ lb).toArray := by simp
  rw [e] at hrun
  unfold Oper.wp
  rw [hrun, Oper.upon_enter]
  refine hc.mono fun e w' ⟨v, he, hK⟩ => ?_
  subst he
  exact hK
end Go.Proofs.Ytdaoinhkagmbdaa
