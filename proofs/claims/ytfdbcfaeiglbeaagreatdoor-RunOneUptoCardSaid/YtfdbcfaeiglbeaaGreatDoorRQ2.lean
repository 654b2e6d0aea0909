/-
  Laid together by merge.py: Kit3, Kit4, WireW1, WireW2, CellW1, Kit12, CellW2, Kit5, Kit6, Kit7, Kit8, Kit9, Kit10, Kit11, Kit13, WireW5, WireW10, WireW11, CellW3, Kit14, WireW12.
-/
import Derived.Test.YtfdbcfaeiglbeaaGreatDoorRQ1
import Derived.Test.YtfdbcfaeiglbeaaGreatDoorRows
import Derived.Deep.RegionWith
import Derived.Deep.RegionLaw
import Derived.Lib.BytesEntry
import Derived.Lib.Bytealg
import Derived.Laws.Externs
import Derived.Laws.EntriesVeiled
import Derived.Laws.OwnMore
import Derived.Deep.QuietTactic
import Derived.BigQuiet
import Derived.Deep.DeepCutAuto
import Derived.Deep.RegionHeld3
namespace Go.Proofs.YtfdbcfaeiglbeaaGreatDoor
open Go.RowKit
def KV (w : World) (B : Nat) (vs : List Value) (ks : List (List UInt8)) : Prop :=
  vs.length = ks.length ∧ ∀ (i : Nat) (k : List UInt8), ks[i]? = some k → ∃ (a : Option Addr) (c : Nat), vs[i]? = some (.slice a k.length c) ∧ k.length ≤ c ∧ c ≤ 9223372036854775807 ∧ (a = none → c = 0) ∧ RB w B a k.length k
section
variable {w w' : World} {B B' n : Nat} {A : Option Addr} {vs us : List Value} {ks js : List (List UInt8)}
theorem RBs.kv (h : RBs w B A n ks) : ∃ vs, Reads w B 1 A n vs ∧ KV w B vs ks := by
  obtain ⟨vs, h1, h2, h3⟩ := h
  exact ⟨vs, h1, h2, h3⟩
theorem KV.rbs (h : KV w B vs ks) (hr : Reads w B 1 A n vs) : RBs w B A n ks := ⟨vs, hr, h.1, h.2⟩
theorem KV.nil : KV w B [] [] := ⟨rfl, fun i k h => by simp at h⟩
theorem KV.below (h : KV w B vs ks) (hb : Below B w w') : KV w' B vs ks :=
  ⟨h.1, fun i k hk => by obtain ⟨a, c, q1, q2, q3, q4, q5⟩ := h.2 i k hk; exact ⟨a, c, q1, q2, q3, q4, q5.below hb⟩⟩
theorem KV.more (h : KV w B vs ks) (hB : B ≤ B') : KV w B' vs ks :=
  ⟨h.1, fun i k hk => by obtain ⟨a, c, q1, q2, q3, q4, q5⟩ := h.2 i k hk; exact ⟨a, c, q1, q2, q3, q4, q5.more hB⟩⟩
theorem KV.later (h : KV w w.heap.size vs ks) (hb : Below w.heap.size w w') : KV w' w'.heap.size vs ks := (h.below hb).more hb.size
theorem KV.app (h : KV w B vs ks) (h' : KV w B us js) : KV w B (vs ++ us) (ks ++ js) := by
  refine ⟨by rw [List.length_append, List.length_append, h.1, h'.1], fun i k hk => ?_⟩
  rw [List.getElem?_append] at hk ⊢
  rw [h.1]
  split at hk
  · rename_i hi
    rw [if_pos hi]
    exact h.2 i k hk
  · rename_i hi
    rw [if_neg hi]
    exact h'.2 _ k hk
theorem KV.take (h : KV w B vs ks) (m : Nat) : KV w B (vs.take m) (ks.take m) := by
  refine ⟨by rw [List.length_take, List.length_take, h.1], fun i k hk => ?_⟩
  rw [List.getElem?_take] at hk ⊢
  split at hk
  · rename_i hi
    rw [if_pos hi]; exact h.2 i k hk
  · cases hk
theorem KV.drop (h : KV w B vs ks) (m : Nat) : KV w B (vs.drop m) (ks.drop m) := by
  refine ⟨by rw [List.length_drop, List.length_drop, h.1], fun i k hk => ?_⟩
  rw [List.getElem?_drop] at hk ⊢
  exact h.2 _ k hk
theorem KV.cons {v : Value} {k : List UInt8} (h : KV w B vs ks) (hv : ∃ (a : Option Addr) (c : Nat), v = .slice a k.length c ∧ k.length ≤ c ∧ c ≤ 9223372036854775807 ∧ (a = none → c = 0) ∧ RB w B a k.length k) : KV w B (v :: vs) (k :: ks) := by
  refine ⟨by simp [h.1], fun i x hx => ?_⟩
  cases i with
  | zero =>
    injection hx with hx; subst hx
    obtain ⟨a, c, rfl, q⟩ := hv
    exact ⟨a, c, rfl, q⟩
  | succ i => exact h.2 i x hx
theorem KV.one (h : KV w B vs ks) : ∀ u ∈ vs, u.oneCell' = true := by
  intro u hu
  obtain ⟨i, hi⟩ := List.getElem?_of_mem hu
  have hlt := (List.getElem?_eq_some_iff.1 hi).1
  obtain ⟨a, c, q, _⟩ := h.2 i _ (List.getElem?_eq_getElem (by rw [← h.1]; exact hlt))
  rw [q] at hi
  injection hi with hi
  subst hi; rfl
end
theorem own_slice {w : World} {base e size n : Nat} {v : Value} {xs : List Value} (h : w.ownsRow base e size v n xs) :
    ∃ (A : Option Addr) (c : Nat), v = .slice A n c ∧ n ≤ c ∧ c ≤ maxLen ∧ (A = none → c = 0) ∧ Reads w w.heap.size size A n xs := by
  rcases h.2 with ⟨rfl, h0⟩ | ⟨g, cap, cur, hv, hb, hg, hc, hm, _⟩
  · subst h0
    exact ⟨none, 0, rfl, Nat.le_refl _, Nat.zero_le _, fun _ => rfl, Reads.own h⟩
  · subst hv
    exact ⟨_, cap, rfl, hc, hm, (fun e => nomatch e), Reads.own h⟩
theorem own_nil (w : World) (base e size : Nat) : w.ownsRow base e size (.slice none 0 0) 0 [] := ⟨by simp, .inl ⟨rfl, rfl⟩⟩
def OwnB (T : TypeId) (base : Nat) (w : World) (A : Option Addr) (c : Nat) (l : List UInt8) : Prop := w.ownsRow base T 1 (.slice A l.length c) l.length (u8s l)
section
variable {T : TypeId} {base B : Nat} {w w' : World} {A : Option Addr} {c n : Nat} {l : List UInt8}
theorem OwnB.rb (h : OwnB T base w A c l) : RB w w.heap.size A l.length l := RB.own h
theorem OwnB.later (h : OwnB T base w A c l) (hb : Below w.heap.size w w') : OwnB T base w' A c l := own_below h hb
theorem OwnB.rebase {base' : Nat} (h : OwnB T base w A c l) (hb : base' ≤ base) : OwnB T base' w A c l := by
  refine ⟨h.1, ?_⟩
  rcases h.2 with h' | ⟨g, cap, cur, h1, h2, h3⟩
  · exact .inl h'
  · exact .inr ⟨g, cap, cur, h1, Nat.le_trans hb h2, h3⟩
theorem OwnB.cap (h : OwnB T base w A c l) : l.length ≤ c ∧ c ≤ maxLen ∧ (A = none → c = 0) := by
  obtain ⟨A', c', e, h1, h2, h3, _⟩ := own_slice h
  injection e with e1 _ e2
  subst e1; subst e2
  exact ⟨h1, h2, h3⟩
theorem own_bytes {v : Value} (h : w.ownsRow base T 1 v n (u8s l)) : ∃ A c, v = .slice A l.length c ∧ OwnB T base w A c l := by
  have hn : l.length = n := by have := h.1; rw [u8s_length] at this; omega
  subst hn
  obtain ⟨A, c, rfl, _⟩ := own_slice h
  exact ⟨A, c, rfl, h⟩
theorem own_named {v : Value} (h : w.ownsRow base T 1 v n (u8s l)) : ∃ L A c, Hid (L = l) ∧ Hid (L.length = n) ∧ v = .slice A L.length c ∧ OwnB T base w A c L := by
  obtain ⟨A, c, e, ho⟩ := own_bytes h
  exact ⟨l, A, c, Lib.hid rfl, Lib.hid (by have := h.1; rw [u8s_length] at this; omega), e, ho⟩
def BytesPost (T : TypeId) (l : List UInt8) (w : World) (e : Ending) (w' : World) : Prop :=
  ∃ A c, e = .returned (.slice A l.length c) ∧ OwnB T w.heap.size w' A c l ∧ Below w.heap.size w w'
theorem bytes_post {v : Value} (h : w'.ownsRow w.heap.size T 1 v n (u8s l)) (hb : Below w.heap.size w w') : BytesPost T l w (.returned v) w' := by
  obtain ⟨A, c, rfl, ho⟩ := own_bytes h
  exact ⟨A, c, rfl, ho, hb⟩
def BytesPost2 (T : TypeId) (l : List UInt8) (k : Int) (w : World) (e : Ending) (w' : World) : Prop :=
  ∃ A c, e = .returned (.tuple #[.slice A l.length c, .int .i64 k]) ∧ OwnB T w.heap.size w' A c l ∧ Below w.heap.size w w'
theorem bytes_post2 {v : Value} {k : Int} (h : w'.ownsRow w.heap.size T 1 v n (u8s l)) (hb : Below w.heap.size w w') : BytesPost2 T l k w (.returned (.tuple #[v, .int .i64 k])) w' := by
  obtain ⟨A, c, rfl, ho⟩ := own_bytes h
  exact ⟨A, c, rfl, ho, hb⟩
theorem bytes_none2 {k : Int} (hb : Below w.heap.size w w') : BytesPost2 T [] k w (.returned (.tuple #[.slice none 0 0, .int .i64 k])) w' := bytes_post2 (n := 0) (own_nil _ _ _ _) hb
def BytesPost3 (T : TypeId) (l : List UInt8) (p k : Int) (w : World) (e : Ending) (w' : World) : Prop :=
  ∃ A c, e = .returned (.tuple #[.slice A l.length c, .int .i64 p, .int .i64 k]) ∧ OwnB T w.heap.size w' A c l ∧ Below w.heap.size w w'
theorem bytes_post3 {v : Value} {p k : Int} (h : w'.ownsRow w.heap.size T 1 v n (u8s l)) (hb : Below w.heap.size w w') : BytesPost3 T l p k w (.returned (.tuple #[v, .int .i64 p, .int .i64 k])) w' := by
  obtain ⟨A, c, rfl, ho⟩ := own_bytes h
  exact ⟨A, c, rfl, ho, hb⟩
theorem bytes_none3 {p k : Int} (hb : Below w.heap.size w w') : BytesPost3 T [] p k w (.returned (.tuple #[.slice none 0 0, .int .i64 p, .int .i64 k])) w' := bytes_post3 (n := 0) (own_nil _ _ _ _) hb
end
theorem below_grown_drew {w w1 : World} (h : w.drew.grownBy w1 none) : Below w.heap.size w w1 := ((Below.refl w.heap.size w).drew).grown h (Nat.le_refl _) (by simp)
theorem below_grown_none {w w1 : World} (h : w.grownBy w1 none) : Below w.heap.size w w1 := (Below.refl w.heap.size w).grown h (Nat.le_refl _) (by simp)
theorem below_drewN {B n : Nat} {w w1 : World} (h : Below B w w1) : Below B w (w1.drewN n) := ⟨h.os, h.tape, h.output, h.size, h.block⟩
theorem i64_sum {x : Int} (h1 : -9223372036854775808 ≤ x) (h2 : x ≤ 9223372036854775807) : IntKind.i64.wrap x = x := IntWalk.i64_in _ ⟨h1, h2⟩
theorem reads_lit (w : World) (C : Array Value) (l : List UInt8) (t : TypeId) (fr : Nat × Nat) (hC : C.toList = u8s l) : RB (w.alloc (.cells C t fr)) (w.heap.size + 1) (some ⟨w.heap.size, 0, none⟩) l.length l :=
  RB.mk' rfl fun _ => ⟨_, 0, rfl, by omega, fun j c hj => by
    rw [Nat.zero_add, World.cell?_alloc_mark, ← Array.getElem?_toList, hC]
    exact u8s_at hj⟩
theorem rbs_one (w : World) (A : Option Addr) (n c : Nat) (l : List UInt8) (t : TypeId) (fr : Nat × Nat) (h1 : n ≤ c) (h2 : c ≤ 9223372036854775807) (h3 : A = none → c = 0) (hr : RB w w.heap.size A n l) :
    RBs (w.alloc (.cells #[.slice A n c] t fr)) (w.heap.size + 1) (some ⟨w.heap.size, 0, none⟩) 1 [l] := by
  obtain rfl := hr.len
  have hb : Below w.heap.size w (w.alloc (.cells #[.slice A l.length c] t fr)) := (Below.refl _ _).alloc (Nat.le_refl _) _
  refine (KV.nil.cons ⟨A, c, rfl, h1, h2, h3, (hr.below hb).more (by omega)⟩).rbs ⟨rfl, fun _ => ⟨_, 0, rfl, by omega, fun j u hu => ?_⟩⟩
  rw [Nat.zero_add, World.cell?_alloc_mark, ← Array.getElem?_toList]
  exact hu
theorem OwnB.one {T : TypeId} {base : Nat} {w : World} {A : Option Addr} {c : Nat} {l : List UInt8} (h : OwnB T base w A c l) (t : TypeId) (fr : Nat × Nat) :
    RBs (w.alloc (.cells #[.slice A l.length c] t fr)) (w.heap.size + 1) (some ⟨w.heap.size, 0, none⟩) 1 [l] := by
  obtain ⟨h1, h2, h3⟩ := h.cap
  unfold maxLen at h2
  exact rbs_one w A l.length c l t fr h1 h2 h3 h.rb
structure Sl (w : World) (A : Option Addr) (n c : Nat) (l : List UInt8) : Prop where
  rb : RB w w.heap.size A n l
  cap : n ≤ c
  lim : c ≤ 9223372036854775807
  nil : A = none → c = 0
section
variable {T : TypeId} {base : Nat} {w w' : World} {A : Option Addr} {c n m : Nat} {l : List UInt8}
theorem Sl.later (h : Sl w A n c l) (hb : Below w.heap.size w w') : Sl w' A n c l := ⟨h.rb.later hb, h.cap, h.lim, h.nil⟩
theorem Sl.len (h : Sl w A n c l) : l.length = n := h.rb.len
theorem Sl.le (h : Sl w A n c l) : n ≤ 9223372036854775807 := Nat.le_trans h.cap h.lim
theorem Sl.one (h : Sl w A n c l) (t : TypeId) (fr : Nat × Nat) : RBs (w.alloc (.cells #[.slice A n c] t fr)) (w.alloc (.cells #[.slice A n c] t fr)).heap.size (some ⟨w.heap.size, 0, none⟩) 1 [l] :=
  (rbs_one w A n c l t fr h.cap h.lim h.nil h.rb).more (by simp)
theorem Sl.take (h : Sl w A n c l) (hm : m ≤ n) : Sl w A m c (l.take m) := ⟨h.rb.take hm, Nat.le_trans hm h.cap, h.lim, h.nil⟩
theorem Sl.drop {k : Nat} (h : Sl w A n c l) (hk : k ≤ n) (hc : k < c) : Sl w (A.map (·.add k)) (n - k) (c - k) (l.drop k) := by
  have h1 := h.rb.drop (k := k) (cap := c) hk h.cap
  rw [if_neg (by omega)] at h1
  refine ⟨h1, by have := h.cap; omega, by have := h.lim; omega, fun e => ?_⟩
  cases A with
  | none => have := h.nil rfl; omega
  | some _ => cases e
theorem Sl.own (h : OwnB T base w A c l) : Sl w A l.length c l := by
  obtain ⟨h1, h2, h3⟩ := h.cap
  unfold maxLen at h2
  exact ⟨h.rb, h1, h2, h3⟩
theorem BytesPost.at_ {e : Ending} (h : BytesPost T l w e w') (hn : l.length = n) : ∃ A c, e = .returned (.slice A n c) ∧ Sl w' A n c l ∧ OwnB T w.heap.size w' A c l ∧ Below w.heap.size w w' := by
  subst hn
  obtain ⟨A, c, rfl, ho, hb⟩ := h
  exact ⟨A, c, rfl, Sl.own ho, ho, hb⟩
theorem BytesPost2.at_ {e : Ending} {k k' : Int} (h : BytesPost2 T l k w e w') (hn : l.length = n) (hk : k = k') : ∃ A c, e = .returned (.tuple #[.slice A n c, .int .i64 k']) ∧ Sl w' A n c l ∧ OwnB T w.heap.size w' A c l ∧ Below w.heap.size w w' := by
  subst hn; subst hk
  obtain ⟨A, c, rfl, ho, hb⟩ := h
  exact ⟨A, c, rfl, Sl.own ho, ho, hb⟩
theorem BytesPost3.at_ {e : Ending} {p p' k k' : Int} (h : BytesPost3 T l p k w e w') (hn : l.length = n) (hp : p = p') (hk : k = k') : ∃ A c, e = .returned (.tuple #[.slice A n c, .int .i64 p', .int .i64 k']) ∧ Sl w' A n c l ∧ OwnB T w.heap.size w' A c l ∧ Below w.heap.size w w' := by
  subst hn; subst hp; subst hk
  obtain ⟨A, c, rfl, ho, hb⟩ := h
  exact ⟨A, c, rfl, Sl.own ho, ho, hb⟩
theorem Sl.lit (w : World) (C : Array Value) (l : List UInt8) (t : TypeId) (fr : Nat × Nat) (hC : C.toList = u8s l) (hn : l.length = n) (hc : n ≤ 9223372036854775807) : Sl (w.alloc (.cells C t fr)) (some ⟨w.heap.size, 0, none⟩) n n l := by
  subst hn
  exact ⟨(reads_lit w C l t fr hC).more (by simp), Nat.le_refl _, hc, fun e => nomatch e⟩
end
theorem Sl.cons {w : World} {A : Option Addr} {n c : Nat} {l : List UInt8} {vs : List Value} {ks : List (List UInt8)} (h : Sl w A n c l) (hk : KV w w.heap.size vs ks) : KV w w.heap.size (.slice A n c :: vs) (l :: ks) := by
  obtain rfl := h.len
  exact hk.cons ⟨A, c, rfl, h.cap, h.lim, h.nil, h.rb⟩
theorem Sl.none (w : World) : Sl w none 0 0 [] := ⟨RB.nil, Nat.le_refl _, by omega, fun _ => rfl⟩
set_option maxRecDepth 100000 in
set_option maxHeartbeats 1000000 in
theorem sum_any (ks : List (List UInt8)) (A : Option Addr) (n c : Nat) (w : World) (hn : n ≤ 9223372036854775807) (hr : RBs w w.heap.size A n ks) (ht : TabAt 0 w) :
    Calls Tryz.prog 135 #[.slice A n c] w fun e w' => e = .returned (.int .u32 (sumL ks.flatten)) ∧ w = w' := by
  have hlen := hr.len
  have HT := Lib.hid ht
  have HR := Lib.hid hr
  have hsg : IntKind.u32.signed = false := rfl
  clear hr ht
  go_enter Tryz.func135, Tryz.ntmps135
  go_wp2
  go_loop [3, 10] (fun s i => ∃ k : Nat, k ≤ n ∧ i = .int .i64 k ∧ ∃ C : Nat, C < 4294967296 ∧ s = .int .u32 C ∧ Hid (C = crcL 4294967295 (ks.take k).flatten)) (fun _ i => n - (intOf i).toNat)
  case atStart => exact ⟨0, Nat.zero_le _, rfl, 4294967295, by omega, rfl, Lib.hid rfl⟩
  case round =>
    obtain ⟨k, hk, rfl, C, hC, rfl, HC⟩ := hrel
    by_cases hlt : k < n
    case neg =>
      have E : Hid (bits .xor .u32 IntKind.u32.max (C : Int) = (sumL ks.flatten : Int)) := Lib.hid (by
        rw [not_u32 hC, HC.out, take_all (by omega)]; rfl)
      go_wp2
      go_ret
      exact ⟨by rw [← E.out]; rfl, rfl⟩
    obtain ⟨b, o, x, a, ck, rfl, hb, hx, hcell, hxc, hck, _, hrb⟩ := HR.out.at_ hlt
    go_wp2
    go_loop [3, 16] (fun s i => ∃ j : Nat, j ≤ x.length ∧ i = .int .i64 j ∧ ∃ D : Nat, D < 4294967296 ∧ s = .int .u32 D ∧ Hid (D = crcL C (x.take j))) (fun _ i => x.length - (intOf i).toNat)
    case atStart => exact ⟨0, Nat.zero_le _, rfl, C, hC, rfl, Lib.hid rfl⟩
    case round =>
      obtain ⟨j, hj, rfl, D, hD, rfl, HD⟩ := hrel
      by_cases hjl : j < x.length
      case neg =>
        have HN : Hid (D = crcL 4294967295 (ks.take (k + 1)).flatten) := Lib.hid (by
          rw [HD.out, take_all (by omega), HC.out, take_snoc hx, List.flatten_append, crcL_app]; simp)
        go_wp2
        go_round
        case rel => exact ⟨k + 1, by omega, by go_num, D, hD, rfl, HN⟩
        case measure => simp [intOf]; omega
      obtain ⟨b2, o2, y, rfl, hb2, hy, hcy⟩ := hrb.at_ hjl
      have e1 := nib1_walk D y
      have e2 := mid_walk D y hD
      have e3 := nib2_walk D y
      have e4 := crcB_walk D y hD
      have t1 := HT.out.2 _ (nib1_lt D y)
      have t2 := HT.out.2 _ (nib2_lt D y)
      have l1 := nib1_lt D y
      have l2 := nib2_lt D y
      go_wp2
      go_round
      case rel => exact ⟨j + 1, by omega, by go_num, crcB D y, crcB_lt hD y, rfl, Lib.hid (by rw [take_snoc hy, crcL_snoc, ← HD.out])⟩
      case measure => simp [intOf]; omega
theorem Tryz.u8s' : SliceOf Tryz.prog 34 5 1 1 := SliceOf.mk' (z := .int .u8 0) Tryz.underlying34 (by kernel_rfl) rfl (by decide)
def outB (n : Nat) (a : Int) : Bool := decide (a < 0) || decide ((n : Int) < a)
theorem outB_no {n : Nat} {a : Int} (h1 : 0 ≤ a) (h2 : a ≤ n) : outB n a = false := by
  unfold outB; simp; omega
theorem outB_neg {n : Nat} {a : Int} (h : a < 0) : outB n a = true := by unfold outB; simp [h]
set_option maxRecDepth 100000 in
theorem outside_any (A : Option Addr) (n c : Nat) (a : Int) (w : World) : Calls Tryz.prog 184 #[.slice A n c, .int .i64 a] w fun e w' => e = .returned (.bool (outB n a)) ∧ w = w' := by
  by_cases h : a < 0
  · have H := Lib.hid (outB_neg (n := n) h)
    have hd : decide (a < 0) = true := decide_eq_true h
    go_enter Tryz.func184, Tryz.ntmps184
    go_wp2
    go_ret
    exact ⟨by rw [H.out]; rfl, rfl⟩
  · have hd : decide (a < 0) = false := decide_eq_false h
    have H : Hid (outB n a = decide ((n : Int) < a)) := Lib.hid (by unfold outB; rw [hd]; rfl)
    go_enter Tryz.func184, Tryz.ntmps184
    go_wp2
    go_ret
    exact ⟨by rw [H.out]; rfl, rfl⟩
set_option maxRecDepth 100000 in
theorem equal_any (a b : List UInt8) (A B : Option Addr) (n c m d : Nat) (w : World) (ha : RB w w.heap.size A n a) (hb : RB w w.heap.size B m b) :
    Calls Tryz.prog 87 #[.slice A n c, .slice B m d] w fun e w' => e = .returned (.bool (a == b)) ∧ w = w' := by
  have tok1 : True := trivial
  go_enter Tryz.func87, Tryz.ntmps87
  go_wp2_with (first
    | (have _t := tok1; refine wpList_string_reads rfl _ 34 9 5 rfl Tryz.underlying34 Tryz.underlying5 Tryz.underlying9 rfl ha ?_; clear tok1)
    | (refine wpList_string_reads rfl _ 34 9 5 rfl Tryz.underlying34 Tryz.underlying5 Tryz.underlying9 rfl hb ?_))
  go_ret
  exact ⟨rfl, rfl⟩
set_option maxRecDepth 100000 in
set_option maxHeartbeats 400000 in
theorem clone_any (l : List UInt8) (A : Option Addr) (n c : Nat) (w : World) (hn : n ≤ 140737488355328) (hA : A = none → c = 0) (hr : RB w w.heap.size A n l) :
    Calls Tryz.prog 69 #[.slice A n c] w (BytesPost 5 l w) := by
  have hl := hr.len
  have hnil := fun (w' : World) => Lib.run_eql_slice_nil (P := Tryz.prog) w' 34 5 A n c 0 0 Tryz.underlying34
  cases A with
  | none =>
    obtain rfl := hA rfl
    have hn0 : n = 0 := by
      rcases Nat.eq_zero_or_pos n with h0 | h0
      · exact h0
      · obtain ⟨_, _, e, _⟩ := hr.2 h0
        cases e
    subst hn0
    have H : Hid (BytesPost 5 l w (.returned (.slice none 0 0)) w) := Lib.hid (by
      have hl0 : l = [] := List.eq_nil_of_length_eq_zero hl
      subst hl0
      exact bytes_post (n := 0) (own_nil _ _ _ _) (Below.refl _ _))
    clear hr hl
    go_enter Tryz.func69, Tryz.ntmps69
    go_wp2
    go_ret
    exact H.out
  | some ad =>
    have O1 := Lib.hid (u8s_one l)
    have HO : Hid ((w.alloc (.cells #[] 5)).ownsRow w.heap.size 5 1 (.slice (some ⟨w.heap.size, 0, none⟩) 0 0) 0 []) := Lib.hid (World.ownsRow_made w #[] 0 (Nat.le_refl _) (by decide) rfl)
    have HR : Hid (RB (w.alloc (.cells #[] 5)) w.heap.size (some ad) n l) := Lib.hid (Reads.alloc hr (Nat.le_refl _) _)
    clear hr hA
    go_enter Tryz.func69, Tryz.ntmps69
    go_wp2_with (at_builtin; refine wpList_append_reads _ rfl (.tmp 5) (.tmp 6) rfl Tryz.u8s' w.heap.size (.slice (some ⟨w.heap.size, 0, none⟩) 0 0) 0 [] rfl HO.out w.heap.size (some ad) n c (u8s l) rfl HR.out O1.out (by unfold maxLen; omega) (by omega) (by simp) ?_; intro v1 w1 hown1 hg1 hat1)
    go_ret
    rw [List.nil_append] at hown1
    exact bytes_post hown1 (below_app ((Below.refl _ _).alloc (Nat.le_refl _) _) HO.out hg1 (by simp) (Nat.le_refl _))
set_option maxRecDepth 100000 in
set_option maxHeartbeats 400000 in
theorem low_any (base n s : Nat) (v : Value) (xs : List Value) (w : World) (hn : n ≤ 140737488355324) (hown : w.ownsRow base 5 1 v n xs) (hbase : base ≤ w.heap.size) (hs : s < 4294967296) :
    Calls Tryz.prog 170 #[v, .int .u32 s] w fun e w' => ∃ v', e = .returned v' ∧ w'.ownsRow base 5 1 v' (n + 4) (xs ++ u8s (lowB s)) ∧ w.grownBy w' v.ownBlock := by
  have e0 := Lib.hid (u8v_mod s)
  have e1 := Lib.hid (u8v_mod (s / 256))
  have e2 := Lib.hid (u8v_mod (s / 65536))
  have e3 := Lib.hid (u8v_mod (s / 16777216))
  have hL : Hid (u8s (lowB s) = [.int .u8 ((s : Int) % 256), .int .u8 ((s : Int) / 256 % 256), .int .u8 ((s : Int) / 65536 % 256), .int .u8 ((s : Int) / 16777216)]) := Lib.hid (by
    show [u8v _, u8v _, u8v _, u8v _] = _
    rw [e0.out, e1.out, e2.out, e3.out]; simp only [Int.natCast_ediv]; rw [show ((s : Int) / ((16777216 : Nat) : Int) % 256) = (s : Int) / 16777216 from by omega]; rfl)
  have HO := Lib.hid hown
  clear hown
  go_enter Tryz.func170, Tryz.ntmps170
  go_wp2_with (at_builtin; refine wpList_append_reads _ rfl (.tmp 5) (.tmp 17) rfl Tryz.u8s' base v n xs rfl (HO.out.alloc _) (w.heap.size + 1) (some ⟨w.heap.size, 0, none⟩) 4 4 (u8s (lowB s)) rfl (by exact reads_lit w _ (lowB s) _ _ (by rw [hL.out])) (u8s_one _) (by unfold maxLen; omega) (by omega) (by simp; omega) ?_; intro v1 w1 hown1 hg1 hat1)
  go_ret
  exact ⟨v1, rfl, hown1, grown_trans (World.grownBy_alloc w _ _) hg1⟩
set_option maxRecDepth 100000 in
set_option maxHeartbeats 400000 in
theorem is_any (l : List UInt8) (A : Option Addr) (n c k s : Nat) (w : World) (hn : n ≤ 9223372036854775807) (hnc : n ≤ c) (hr : RB w w.heap.size A n l) (hk : k + 4 ≤ n) (hs : s < 4294967296) :
    Calls Tryz.prog 185 #[.slice A n c, .int .i64 k, .int .u32 s] w fun e w' => e = .returned (.bool (isB l k s)) ∧ Below w.heap.size w w' := by
  have HR : Hid (∀ w', Below w.heap.size w w' → RB w' w'.heap.size A n l) := Lib.hid fun w' h => hr.later h
  clear hr
  have hS : Hid (∀ w', Below w.heap.size w w' → RB w' w'.heap.size (A.map (·.add k)) 4 ((l.drop k).take 4)) := Lib.hid fun w' h => by
    have := ((HR.out w' h).drop (k := k) (cap := c) (by omega) hnc).take (m := 4) (by omega)
    rwa [if_neg (by omega)] at this
  have k0 : IntKind.i64.wrap ((k : Int) + 4) = (k : Int) + 4 := IntWalk.i64_in _ (by omega)
  have k1 : (0 : Int) ≤ (k : Int) + 4 := by omega
  have k2 : (k : Int) + 4 ≤ (c : Int) := by omega
  have k3 : ((k : Int) + 4).toNat = k + 4 := by omega
  have k4 : k ≤ k + 4 := by omega
  have k5 : k + 4 - k = 4 := by omega
  have k6 : c ≠ k := by omega
  clear hn hnc hk
  go_enter Tryz.func185, Tryz.ntmps185
  go_wp2
  go_region_with (first
    | (go_at_call 170; refine (low_any w.heap.size 0 s (.slice none 0 0) [] _ (by omega) (own_nil _ _ _ _) (by simp) hs).mono ?_; rintro e w1 ⟨v1, rfl, hown1, hg1⟩; rw [List.nil_append] at hown1; obtain ⟨A1, c1, rfl, hO1⟩ := own_bytes hown1; clear hown1)
    | (go_at_call 87; have HB := Lib.hid (below_grown_drew hg1); clear hg1; refine (equal_any ((l.drop k).take 4) (lowB s) _ _ 4 _ _ _ _ (hS.out _ HB.out) hO1.rb).mono ?_; rintro e w2 ⟨rfl, rfl⟩))
  go_wp2
  go_ret
  exact ⟨rfl, HB.out⟩
theorem is_at (l : List UInt8) (A : Option Addr) (n c k s : Nat) (w : World) (a : Int) (ha : a = (k : Int)) (hn : n ≤ 9223372036854775807) (hnc : n ≤ c) (hr : RB w w.heap.size A n l) (hk : k + 4 ≤ n) (hs : s < 4294967296) :
    Calls Tryz.prog 185 #[.slice A n c, .int .i64 a, .int .u32 s] w fun e w' => e = .returned (.bool (isB l k s)) ∧ Below w.heap.size w w' := by
  subst ha
  exact is_any l A n c k s w hn hnc hr hk hs
def outI (n lo hi : Int) : Bool := decide (n < lo) || decide (hi < n)
set_option maxRecDepth 100000 in
set_option maxHeartbeats 1000000 in
theorem cOutside_any (n lo hi : Int) (w : World) : Calls Tryz.prog 209 #[.int .i64 n, .int .i64 lo, .int .i64 hi] w fun e w' => e = .returned (.bool (outI n lo hi)) ∧ w = w' := by
  unfold outI
  by_cases h : n < lo
  · have hd : decide (n < lo) = true := decide_eq_true h
    go_enter Tryz.func209, Tryz.ntmps209
    go_wp2
    go_ret
    exact ⟨by simp [hd], rfl⟩
  · have hd : decide (n < lo) = false := decide_eq_false h
    go_enter Tryz.func209, Tryz.ntmps209
    go_wp2
    go_ret
    exact ⟨by simp, rfl⟩
theorem hid_iff {p : Prop} : Hid p ↔ p := ⟨Hid.out, Lib.hid⟩
theorem outI_pos {n lo hi : Int} (h : outI n lo hi = true) : n < lo ∨ hi < n := by unfold outI at h; simpa using h
theorem outI_neg {n lo hi : Int} (h : ¬ outI n lo hi = true) : outI n lo hi = false := by simpa using h
theorem outI_no {n lo hi : Int} (h : outI n lo hi = false) : ¬ (n < lo ∨ hi < n) := by unfold outI at h; simp at h; omega
set_option maxRecDepth 100000 in
set_option maxHeartbeats 4000000 in
theorem check_any (A : Option Addr) (n c : Nat) (f : Int) (B : Option Addr) (m d : Nat) (t s k : Int) (D : Option Addr) (v q : Nat) (w : World) :
    Calls Tryz.prog 161 #[.agg #[.slice A n c, .int .i64 f, .slice B m d, .int .i64 t, .int .i64 s, .int .i64 k, .slice D v q]] w fun e w' => e = .returned (.int .i64 (checkN n f m t s k v)) ∧ Below w.heap.size w w' := by
  have HB : Hid (∀ o, Below w.heap.size w (w.alloc o)) := Lib.hid fun o => (Below.refl _ w).alloc (Nat.le_refl _) o
  go_enter Tryz.func161, Tryz.ntmps161
  by_cases h0 : outI n 1 256 = true
  · have o0 := Lib.hid (outI_pos h0)
    go_wp2_with (go_at_call 209; refine (cOutside_any _ _ _ _).mono ?_; rintro e w' ⟨rfl, rfl⟩)
    go_ret
    refine ⟨?_, HB.out _⟩
    clear HB
    have HZ : checkN n f m t s k v = 20 := by
      simp only [hid_iff] at *
      unfold checkN
      (repeat' split) <;> first | rfl | omega
    rw [HZ]; rfl
  have p0 := Lib.hid (outI_no (outI_neg h0))
  replace h0 := outI_neg h0
  by_cases h1 : outI f 0 7 = true
  · have o1 := Lib.hid (outI_pos h1)
    go_wp2_with (go_at_call 209; refine (cOutside_any _ _ _ _).mono ?_; rintro e w' ⟨rfl, rfl⟩)
    go_ret
    refine ⟨?_, HB.out _⟩
    clear HB
    have HZ : checkN n f m t s k v = 21 := by
      simp only [hid_iff] at *
      unfold checkN
      (repeat' split) <;> first | rfl | omega
    rw [HZ]; rfl
  have p1 := Lib.hid (outI_no (outI_neg h1))
  replace h1 := outI_neg h1
  by_cases h2 : 256 < m
  · have d1 : decide ((256 : Int) < (m : Int)) = true := decide_eq_true (by omega)
    have d1n : decide (256 < m) = true := decide_eq_true h2
    go_wp2_with (go_at_call 209; refine (cOutside_any _ _ _ _).mono ?_; rintro e w' ⟨rfl, rfl⟩)
    go_ret
    refine ⟨?_, HB.out _⟩
    clear HB
    have HZ : checkN n f m t s k v = 22 := by
      simp only [hid_iff] at *
      unfold checkN
      (repeat' split) <;> first | rfl | omega
    rw [HZ]; rfl
  have da2 : decide ((256 : Int) < (m : Int)) = false := decide_eq_false (by omega)
  have db2 : decide (256 < m) = false := decide_eq_false h2
  by_cases k2 : k = 5
  · have e2 : (k == 5) = true := by simpa using k2
    replace k2 := Lib.hid k2
    by_cases l2 : 0 < m
    · have d1 : decide ((0 : Int) < (m : Int)) = true := decide_eq_true (by omega)
      have d1n : decide (0 < m) = true := decide_eq_true l2
      go_wp2_with (go_at_call 209; refine (cOutside_any _ _ _ _).mono ?_; rintro e w' ⟨rfl, rfl⟩)
      go_ret
      refine ⟨?_, HB.out _⟩
      clear HB
      have HZ : checkN n f m t s k v = 22 := by
        simp only [hid_iff] at *
        unfold checkN
        (repeat' split) <;> first | rfl | omega
      rw [HZ]; rfl
    have dc2 : decide ((0 : Int) < (m : Int)) = false := decide_eq_false (by omega)
    have dd2 : decide (0 < m) = false := decide_eq_false l2
    by_cases h3 : outI t 1 1099511627776 = true
    · have o3 := Lib.hid (outI_pos h3)
      go_wp2_with (go_at_call 209; refine (cOutside_any _ _ _ _).mono ?_; rintro e w' ⟨rfl, rfl⟩)
      go_ret
      refine ⟨?_, HB.out _⟩
      clear HB
      have HZ : checkN n f m t s k v = 23 := by
        simp only [hid_iff] at *
        unfold checkN
        (repeat' split) <;> first | rfl | omega
      rw [HZ]; rfl
    have p3 := Lib.hid (outI_no (outI_neg h3))
    replace h3 := outI_neg h3
    by_cases h4 : outI s 0 17592186044431 = true
    · have o4 := Lib.hid (outI_pos h4)
      go_wp2_with (go_at_call 209; refine (cOutside_any _ _ _ _).mono ?_; rintro e w' ⟨rfl, rfl⟩)
      go_ret
      refine ⟨?_, HB.out _⟩
      clear HB
      have HZ : checkN n f m t s k v = 24 := by
        simp only [hid_iff] at *
        unfold checkN
        (repeat' split) <;> first | rfl | omega
      rw [HZ]; rfl
    have p4 := Lib.hid (outI_no (outI_neg h4))
    replace h4 := outI_neg h4
    by_cases h5 : outI k 1 5 = true
    · have o5 := Lib.hid (outI_pos h5)
      go_wp2_with (go_at_call 209; refine (cOutside_any _ _ _ _).mono ?_; rintro e w' ⟨rfl, rfl⟩)
      go_ret
      refine ⟨?_, HB.out _⟩
      clear HB
      have HZ : checkN n f m t s k v = 25 := by
        simp only [hid_iff] at *
        unfold checkN
        (repeat' split) <;> first | rfl | omega
      rw [HZ]; rfl
    have p5 := Lib.hid (outI_no (outI_neg h5))
    replace h5 := outI_neg h5
    by_cases h6 : 4096 < v
    · have d1 : decide ((4096 : Int) < (v : Int)) = true := decide_eq_true (by omega)
      have d1n : decide (4096 < v) = true := decide_eq_true h6
      go_wp2_with (go_at_call 209; refine (cOutside_any _ _ _ _).mono ?_; rintro e w' ⟨rfl, rfl⟩)
      go_ret
      refine ⟨?_, HB.out _⟩
      clear HB
      have HZ : checkN n f m t s k v = 26 := by
        simp only [hid_iff] at *
        unfold checkN
        (repeat' split) <;> first | rfl | omega
      rw [HZ]; rfl
    have da6 : decide ((4096 : Int) < (v : Int)) = false := decide_eq_false (by omega)
    have db6 : decide (4096 < v) = false := decide_eq_false h6
    by_cases k6 : ¬ k = 1
    · have e6 : (k != 1) = true := by simpa using k6
      replace k6 := Lib.hid k6
      by_cases l6 : 0 < v
      · have d1 : decide ((0 : Int) < (v : Int)) = true := decide_eq_true (by omega)
        have d1n : decide (0 < v) = true := decide_eq_true l6
        go_wp2_with (go_at_call 209; refine (cOutside_any _ _ _ _).mono ?_; rintro e w' ⟨rfl, rfl⟩)
        go_ret
        refine ⟨?_, HB.out _⟩
        clear HB
        have HZ : checkN n f m t s k v = 26 := by
          simp only [hid_iff] at *
          unfold checkN
          (repeat' split) <;> first | rfl | omega
        rw [HZ]; rfl
      have dc6 : decide ((0 : Int) < (v : Int)) = false := decide_eq_false (by omega)
      have dd6 : decide (0 < v) = false := decide_eq_false l6
      go_wp2_with (go_at_call 209; refine (cOutside_any _ _ _ _).mono ?_; rintro e w' ⟨rfl, rfl⟩)
      go_ret
      refine ⟨?_, HB.out _⟩
      clear HB
      have HZ : checkN n f m t s k v = 0 := by
        simp only [hid_iff] at *
        unfold checkN
        (repeat' split) <;> first | rfl | omega
      rw [HZ]; rfl
    have e6 : (k != 1) = false := by simpa using k6
    replace k6 := Lib.hid k6
    go_wp2_with (go_at_call 209; refine (cOutside_any _ _ _ _).mono ?_; rintro e w' ⟨rfl, rfl⟩)
    go_ret
    refine ⟨?_, HB.out _⟩
    clear HB
    have HZ : checkN n f m t s k v = 0 := by
      simp only [hid_iff] at *
      unfold checkN
      (repeat' split) <;> first | rfl | omega
    rw [HZ]; rfl
  have e2 : (k == 5) = false := by simpa using k2
  replace k2 := Lib.hid k2
  by_cases h3 : outI t 1 1099511627776 = true
  · have o3 := Lib.hid (outI_pos h3)
    go_wp2_with (go_at_call 209; refine (cOutside_any _ _ _ _).mono ?_; rintro e w' ⟨rfl, rfl⟩)
    go_ret
    refine ⟨?_, HB.out _⟩
    clear HB
    have HZ : checkN n f m t s k v = 23 := by
      simp only [hid_iff] at *
      unfold checkN
      (repeat' split) <;> first | rfl | omega
    rw [HZ]; rfl
  have p3 := Lib.hid (outI_no (outI_neg h3))
  replace h3 := outI_neg h3
  by_cases h4 : outI s 0 17592186044431 = true
  · have o4 := Lib.hid (outI_pos h4)
    go_wp2_with (go_at_call 209; refine (cOutside_any _ _ _ _).mono ?_; rintro e w' ⟨rfl, rfl⟩)
    go_ret
    refine ⟨?_, HB.out _⟩
    clear HB
    have HZ : checkN n f m t s k v = 24 := by
      simp only [hid_iff] at *
      unfold checkN
      (repeat' split) <;> first | rfl | omega
    rw [HZ]; rfl
  have p4 := Lib.hid (outI_no (outI_neg h4))
  replace h4 := outI_neg h4
  by_cases h5 : outI k 1 5 = true
  · have o5 := Lib.hid (outI_pos h5)
    go_wp2_with (go_at_call 209; refine (cOutside_any _ _ _ _).mono ?_; rintro e w' ⟨rfl, rfl⟩)
    go_ret
    refine ⟨?_, HB.out _⟩
    clear HB
    have HZ : checkN n f m t s k v = 25 := by
      simp only [hid_iff] at *
      unfold checkN
      (repeat' split) <;> first | rfl | omega
    rw [HZ]; rfl
  have p5 := Lib.hid (outI_no (outI_neg h5))
  replace h5 := outI_neg h5
  by_cases h6 : 4096 < v
  · have d1 : decide ((4096 : Int) < (v : Int)) = true := decide_eq_true (by omega)
    have d1n : decide (4096 < v) = true := decide_eq_true h6
    go_wp2_with (go_at_call 209; refine (cOutside_any _ _ _ _).mono ?_; rintro e w' ⟨rfl, rfl⟩)
    go_ret
    refine ⟨?_, HB.out _⟩
    clear HB
    have HZ : checkN n f m t s k v = 26 := by
      simp only [hid_iff] at *
      unfold checkN
      (repeat' split) <;> first | rfl | omega
    rw [HZ]; rfl
  have da6 : decide ((4096 : Int) < (v : Int)) = false := decide_eq_false (by omega)
  have db6 : decide (4096 < v) = false := decide_eq_false h6
  by_cases k6 : ¬ k = 1
  · have e6 : (k != 1) = true := by simpa using k6
    replace k6 := Lib.hid k6
    by_cases l6 : 0 < v
    · have d1 : decide ((0 : Int) < (v : Int)) = true := decide_eq_true (by omega)
      have d1n : decide (0 < v) = true := decide_eq_true l6
      go_wp2_with (go_at_call 209; refine (cOutside_any _ _ _ _).mono ?_; rintro e w' ⟨rfl, rfl⟩)
      go_ret
      refine ⟨?_, HB.out _⟩
      clear HB
      have HZ : checkN n f m t s k v = 26 := by
        simp only [hid_iff] at *
        unfold checkN
        (repeat' split) <;> first | rfl | omega
      rw [HZ]; rfl
    have dc6 : decide ((0 : Int) < (v : Int)) = false := decide_eq_false (by omega)
    have dd6 : decide (0 < v) = false := decide_eq_false l6
    go_wp2_with (go_at_call 209; refine (cOutside_any _ _ _ _).mono ?_; rintro e w' ⟨rfl, rfl⟩)
    go_ret
    refine ⟨?_, HB.out _⟩
    clear HB
    have HZ : checkN n f m t s k v = 0 := by
      simp only [hid_iff] at *
      unfold checkN
      (repeat' split) <;> first | rfl | omega
    rw [HZ]; rfl
  have e6 : (k != 1) = false := by simpa using k6
  replace k6 := Lib.hid k6
  go_wp2_with (go_at_call 209; refine (cOutside_any _ _ _ _).mono ?_; rintro e w' ⟨rfl, rfl⟩)
  go_ret
  refine ⟨?_, HB.out _⟩
  clear HB
  have HZ : checkN n f m t s k v = 0 := by
    simp only [hid_iff] at *
    unfold checkN
    (repeat' split) <;> first | rfl | omega
  rw [HZ]; rfl
theorem run_sizeOf_of {P : Program} {t : TypeId} {n : Nat} (h : (P.info? t).map (·.size) = some n) (w : World) : (sizeOf t).run P w = .ok n w := by
  cases hd : P.info? t with
  | none => rw [hd] at h; cases h
  | some i =>
    rw [hd] at h
    injection h with h
    simp [sizeOf, typeInfo, hd, h]
theorem run_isAgg_of {P : Program} {t : TypeId} {b : Bool} (h : (P.underlying t).map (fun d => match d with | .struct _ | .array _ _ => true | _ => false) = some b) (w : World) : (isAgg t).run P w = .ok b w := by
  cases hd : P.underlying t with
  | none => rw [hd] at h; cases h
  | some d =>
    rw [hd] at h
    unfold isAgg
    rw [Sem.run_bind, run_underlying hd w]
    cases d <;> simp_all
theorem run_index_arr {P : Program} (w : World) (t e : TypeId) (n : Nat) (cs : Array Value) (k : Nat) (v : Value) (ht : P.underlying t = some (.array n e)) (hs : (P.info? e).map (·.size) = some 1)
    (ha : (P.underlying e).map (fun d => match d with | .struct _ | .array _ _ => true | _ => false) = some false) (hk : k < n) (hv : cs[k]? = some v) :
    (Instr.index t (.agg cs) (.int .i64 (k : Int))).run P w = .ok v w := by
  have hs := run_sizeOf_of hs w
  have ha := run_isAgg_of ha w
  unfold Instr.index
  simp [asIntOf, Sem.run_bind, run_underlying ht, hs, part, ha, hk, hv]
section
variable {P : Program} {w : World}
theorem ints_back (l : List UInt8) : Lib.bytesOf (l.map fun c => (c.toNat : Int)) = l := by
  unfold Lib.bytesOf
  rw [List.map_map]
  conv => rhs; rw [← List.map_id l]
  exact List.map_congr_left fun x _ => by simp
theorem run_bytesOf_RB {B n : Nat} {A : Option Addr} {l : List UInt8} (c : Nat) (h : RB w B A n l) : (Extern.Bytes.bytesOf (.slice A n c)).run P w = .ok ⟨l.toArray⟩ w := by
  have hl := h.len
  cases A with
  | none =>
    have hn : n = 0 := by
      rcases Nat.eq_zero_or_pos n with h0 | h0
      · exact h0
      · obtain ⟨_, _, e, _⟩ := h.2 h0
        cases e
    have hl0 : l = [] := List.eq_nil_of_length_eq_zero (by omega)
    subst hl0
    rfl
  | some ad =>
    have h1 := Lib.run_loadBytesX (P := P) (w := w) (l.map fun c => (c.toNat : Int)) ad .empty (fun j x hj => by
      rw [List.getElem?_map] at hj
      cases hx : l[j]? with
      | none => rw [hx] at hj; cases hj
      | some y =>
        rw [hx] at hj
        injection hj with hj
        subst hj
        have hjl : j < l.length := (List.getElem?_eq_some_iff.1 hx).1
        obtain ⟨b, o, e, _, hc⟩ := h.2 (by omega)
        injection e with e
        subst e
        have := hc j _ (u8s_at hx)
        unfold Addr.add
        split
        · rename_i h0; subst h0; exact this
        · exact this)
    rw [List.length_map, hl, ints_back] at h1
    have he : (⟨ByteArray.empty.data ++ l.toArray⟩ : ByteArray) = ⟨l.toArray⟩ := by
      apply ByteArray.ext
      show (#[] : Array UInt8) ++ l.toArray = l.toArray
      simp
    rw [he] at h1
    exact h1
theorem compareBytes_eq : ∀ a b : List UInt8, Lib.compareBytes a b = cmpB a b
  | [], [] => rfl
  | [], _ :: _ => rfl
  | _ :: _, [] => rfl
  | x :: a, y :: b => by
    rw [cmpB_cc, Lib.compareBytes, compareBytes_eq a b]
    by_cases h : x < y
    · rw [if_pos h, if_pos (UInt8.lt_iff_toNat_lt.1 h)]
    · rw [if_neg h, if_neg (fun h' => h (UInt8.lt_iff_toNat_lt.2 h'))]
      by_cases h2 : y < x
      · rw [if_pos h2, if_pos (UInt8.lt_iff_toNat_lt.1 h2)]
      · rw [if_neg h2, if_neg (fun h' => h2 (UInt8.lt_iff_toNat_lt.2 h'))]
theorem run_compare_RB {B B' n m : Nat} {A A' : Option Addr} {a b : List UInt8} (c d : Nat) (ha : RB w B A n a) (hb : RB w B' A' m b) :
    (Extern.BytealgCompare.compare #[.slice A n c, .slice A' m d]).run P w = .ok (.int .i64 (cmpB a b)) w := by
  change Sem.run P (do pure (goInt (Extern.BytealgCompare.cmp (← Extern.Bytes.bytesOf (.slice A n c)) (← Extern.Bytes.bytesOf (.slice A' m d))))) w = _
  simp only [Sem.run_bind, Sem.run_pure, run_bytesOf_RB c ha, run_bytesOf_RB d hb, Result.andThen]
  rw [Lib.cmp_eq, compareBytes_eq]
  rfl
end
set_option maxRecDepth 100000 in
set_option maxHeartbeats 1000000 in
theorem bcmp_any (a b : List UInt8) (A B : Option Addr) (n c m d : Nat) (w : World) (ha : RB w w.heap.size A n a) (hb : RB w w.heap.size B m b) :
    Calls Tryz.prog 94 #[.slice A n c, .slice B m d] w fun e w' => e = .returned (.int .i64 (cmpB a b)) ∧ w = w' := by
  go_enter Tryz.func94, Tryz.ntmps94
  go_wp2
  rw [run_callFunc_extern Tryz.func157 (by kernel_rfl) (by kernel_rfl) (by kernel_rfl) (e := Extern.BytealgCompare.compare) (by kernel_rfl), run_compare_RB c d ha hb]
  simp only [Result.andThen]
  rw [Oper.upon_value]
  go_wp2
  go_ret
  exact ⟨rfl, rfl⟩
set_option maxRecDepth 100000 in
theorem isNaN_any (x : Int) (w : World) : Calls Tryz.prog 217 #[.int .i64 x] w fun e w' => e = .returned (.bool false) ∧ w = w' := by
  go_enter Tryz.func217, Tryz.ntmps217
  go_wp2
  go_ret
  exact ⟨by simp, rfl⟩
set_option maxRecDepth 100000 in
set_option maxHeartbeats 1000000 in
theorem icmp_any (x y : Int) (w : World) : Calls Tryz.prog 200 #[.int .i64 x, .int .i64 y] w fun e w' => e = .returned (.int .i64 (cmpI x y)) ∧ w = w' := by
  go_enter Tryz.func200, Tryz.ntmps200
  go_wp2_with (go_at_call 217; refine (isNaN_any _ _).mono ?_; rintro e w' ⟨rfl, rfl⟩)
  all_goals (go_ret; refine ⟨ret_int ?_, rfl⟩; unfold cmpI; (repeat' split) <;> first | rfl | (exfalso; omega))
set_option maxRecDepth 100000 in
set_option maxHeartbeats 1000000 in
theorem cFirst_any (z : Int) (A : Option Addr) (n c : Nat) (f : Int) (B : Option Addr) (m d : Nat) (t s k : Int) (D : Option Addr) (v q : Nat) (A' : Option Addr) (n' c' : Nat) (f' : Int) (B' : Option Addr) (m' d' : Nat) (t' s' k' : Int) (D' : Option Addr) (v' q' : Nat) (w : World) :
    Calls Tryz.prog 202 #[.int .i64 z, .agg #[.slice A n c, .int .i64 f, .slice B m d, .int .i64 t, .int .i64 s, .int .i64 k, .slice D v q], .agg #[.slice A' n' c', .int .i64 f', .slice B' m' d', .int .i64 t', .int .i64 s', .int .i64 k', .slice D' v' q']] w fun e w' => e = .returned (.int .i64 (firstI (k == z) (k' == z))) ∧ Below w.heap.size w w' := by
  have HB : Hid (∀ o o', Below w.heap.size w ((w.alloc o).alloc o')) := Lib.hid fun o o' => ((Below.refl _ w).alloc (Nat.le_refl _) o).alloc (by simp) o'
  unfold firstI
  generalize h1 : (k == z) = x
  generalize h2 : (k' == z) = y
  cases x <;> cases y <;> (
    go_enter Tryz.func202, Tryz.ntmps202
    go_wp2_with (go_quiet (fail))
    go_ret
    exact ⟨rfl, below_drewN (HB.out _ _)⟩)
abbrev entV (A : Option Addr) (n c : Nat) (B : Option Addr) (m d : Nat) (D : Option Addr) (v q : Nat) (e : Ent) : Value := .agg #[.slice A n c, .int .i64 e.fam, .slice B m d, .int .i64 e.ts, .int .i64 e.seq, .int .i64 e.kind, .slice D v q]
structure En (w : World) (A : Option Addr) (n c : Nat) (B : Option Addr) (m d : Nat) (D : Option Addr) (v q : Nat) (e : Ent) : Prop where
  row : Sl w A n c e.row
  qual : Sl w B m d e.qual
  val : Sl w D v q e.val
theorem En.later {w w' : World} {A : Option Addr} {n c : Nat} {B : Option Addr} {m d : Nat} {D : Option Addr} {v q : Nat} {e : Ent} (h : En w A n c B m d D v q e) (hb : Below w.heap.size w w') : En w' A n c B m d D v q e := ⟨h.row.later hb, h.qual.later hb, h.val.later hb⟩
def stepC (a b : Ent) : Nat → Int
  | 0 => cmpB a.row b.row
  | 1 => cmpI a.fam b.fam
  | 2 => firstI (a.kind == 5) (b.kind == 5)
  | 3 => cmpB a.qual b.qual
  | 4 => firstI (a.kind == 4) (b.kind == 4)
  | 5 => cmpI b.ts a.ts
  | 6 => cmpI b.seq a.seq
  | _ => cmpI a.kind b.kind
theorem below_up {a b c : World} (h : Below a.heap.size a b) (k : Below b.heap.size b c) : Below a.heap.size a c := h.trans (k.mono h.size)
theorem two_boxes (w : World) : ∀ o o', Below w.heap.size w ((w.alloc o).alloc o') := fun o o' => ((Below.refl _ w).alloc (Nat.le_refl _) o).alloc (by simp) o'
set_option maxRecDepth 100000 in
set_option maxHeartbeats 1000000 in
theorem step1_any (a b : Ent) (A : Option Addr) (n c : Nat) (B : Option Addr) (m d : Nat) (D : Option Addr) (v q : Nat) (A' : Option Addr) (n' c' : Nat) (B' : Option Addr) (m' d' : Nat) (D' : Option Addr) (v' q' : Nat) (w : World) (ha : En w A n c B m d D v q a) (hb : En w A' n' c' B' m' d' D' v' q' b) :
    Calls Tryz.prog 198 #[entV A n c B m d D v q a, entV A' n' c' B' m' d' D' v' q' b] w fun e w1 => e = .returned (.int .i64 (stepC a b 0)) ∧ Below w.heap.size w w1 := by
  unfold entV
  have HB := Lib.hid (two_boxes w)
  have H1 : Hid (∀ w1, Below w.heap.size w w1 → Sl w1 A n c a.row) := Lib.hid fun w1 h => (ha.later h).row
  have H2 : Hid (∀ w1, Below w.heap.size w w1 → Sl w1 A' n' c' b.row) := Lib.hid fun w1 h => (hb.later h).row
  clear ha hb
  go_enter Tryz.func198, Tryz.ntmps198
  go_wp2_with (go_at_call 94; go_must (refine (bcmp_any a.row b.row _ _ _ _ _ _ _ (H1.out _ (HB.out _ _)).rb (H2.out _ (HB.out _ _)).rb).mono ?_; rintro e w1 ⟨rfl, rfl⟩))
  go_ret
  exact ⟨rfl, HB.out _ _⟩
set_option maxRecDepth 100000 in
set_option maxHeartbeats 1000000 in
theorem step2_any (a b : Ent) (A : Option Addr) (n c : Nat) (B : Option Addr) (m d : Nat) (D : Option Addr) (v q : Nat) (A' : Option Addr) (n' c' : Nat) (B' : Option Addr) (m' d' : Nat) (D' : Option Addr) (v' q' : Nat) (w : World) (_ha : En w A n c B m d D v q a) (_hb : En w A' n' c' B' m' d' D' v' q' b) :
    Calls Tryz.prog 199 #[entV A n c B m d D v q a, entV A' n' c' B' m' d' D' v' q' b] w fun e w1 => e = .returned (.int .i64 (stepC a b 1)) ∧ Below w.heap.size w w1 := by
  unfold entV
  have HB := Lib.hid (two_boxes w)
  clear _ha _hb
  go_enter Tryz.func199, Tryz.ntmps199
  go_wp2_with (go_at_call 200; go_must (refine (icmp_any _ _ _).mono ?_; rintro e w1 ⟨rfl, rfl⟩))
  go_ret
  exact ⟨rfl, HB.out _ _⟩
set_option maxRecDepth 100000 in
set_option maxHeartbeats 1000000 in
theorem step3_any (a b : Ent) (A : Option Addr) (n c : Nat) (B : Option Addr) (m d : Nat) (D : Option Addr) (v q : Nat) (A' : Option Addr) (n' c' : Nat) (B' : Option Addr) (m' d' : Nat) (D' : Option Addr) (v' q' : Nat) (w : World) (_ha : En w A n c B m d D v q a) (_hb : En w A' n' c' B' m' d' D' v' q' b) :
    Calls Tryz.prog 201 #[entV A n c B m d D v q a, entV A' n' c' B' m' d' D' v' q' b] w fun e w1 => e = .returned (.int .i64 (stepC a b 2)) ∧ Below w.heap.size w w1 := by
  unfold entV
  have HB := Lib.hid (two_boxes w)
  clear _ha _hb
  go_enter Tryz.func201, Tryz.ntmps201
  go_wp2_with (go_at_call 202; go_must (refine (cFirst_any _ _ _ _ _ _ _ _ _ _ _ _ _ _ _ _ _ _ _ _ _ _ _ _ _ _ _ _).mono ?_; rintro e w1 ⟨rfl, hb1⟩; have HB1 := Lib.hid (below_up (HB.out _ _) hb1); clear hb1))
  go_ret
  exact ⟨rfl, HB1.out⟩
set_option maxRecDepth 100000 in
set_option maxHeartbeats 1000000 in
theorem step4_any (a b : Ent) (A : Option Addr) (n c : Nat) (B : Option Addr) (m d : Nat) (D : Option Addr) (v q : Nat) (A' : Option Addr) (n' c' : Nat) (B' : Option Addr) (m' d' : Nat) (D' : Option Addr) (v' q' : Nat) (w : World) (ha : En w A n c B m d D v q a) (hb : En w A' n' c' B' m' d' D' v' q' b) :
    Calls Tryz.prog 203 #[entV A n c B m d D v q a, entV A' n' c' B' m' d' D' v' q' b] w fun e w1 => e = .returned (.int .i64 (stepC a b 3)) ∧ Below w.heap.size w w1 := by
  unfold entV
  have HB := Lib.hid (two_boxes w)
  have H1 : Hid (∀ w1, Below w.heap.size w w1 → Sl w1 B m d a.qual) := Lib.hid fun w1 h => (ha.later h).qual
  have H2 : Hid (∀ w1, Below w.heap.size w w1 → Sl w1 B' m' d' b.qual) := Lib.hid fun w1 h => (hb.later h).qual
  clear ha hb
  go_enter Tryz.func203, Tryz.ntmps203
  go_wp2_with (go_at_call 94; go_must (refine (bcmp_any a.qual b.qual _ _ _ _ _ _ _ (H1.out _ (HB.out _ _)).rb (H2.out _ (HB.out _ _)).rb).mono ?_; rintro e w1 ⟨rfl, rfl⟩))
  go_ret
  exact ⟨rfl, HB.out _ _⟩
set_option maxRecDepth 100000 in
set_option maxHeartbeats 1000000 in
theorem step5_any (a b : Ent) (A : Option Addr) (n c : Nat) (B : Option Addr) (m d : Nat) (D : Option Addr) (v q : Nat) (A' : Option Addr) (n' c' : Nat) (B' : Option Addr) (m' d' : Nat) (D' : Option Addr) (v' q' : Nat) (w : World) (_ha : En w A n c B m d D v q a) (_hb : En w A' n' c' B' m' d' D' v' q' b) :
    Calls Tryz.prog 204 #[entV A n c B m d D v q a, entV A' n' c' B' m' d' D' v' q' b] w fun e w1 => e = .returned (.int .i64 (stepC a b 4)) ∧ Below w.heap.size w w1 := by
  unfold entV
  have HB := Lib.hid (two_boxes w)
  clear _ha _hb
  go_enter Tryz.func204, Tryz.ntmps204
  go_wp2_with (go_at_call 202; go_must (refine (cFirst_any _ _ _ _ _ _ _ _ _ _ _ _ _ _ _ _ _ _ _ _ _ _ _ _ _ _ _ _).mono ?_; rintro e w1 ⟨rfl, hb1⟩; have HB1 := Lib.hid (below_up (HB.out _ _) hb1); clear hb1))
  go_ret
  exact ⟨rfl, HB1.out⟩
set_option maxRecDepth 100000 in
set_option maxHeartbeats 1000000 in
theorem step6_any (a b : Ent) (A : Option Addr) (n c : Nat) (B : Option Addr) (m d : Nat) (D : Option Addr) (v q : Nat) (A' : Option Addr) (n' c' : Nat) (B' : Option Addr) (m' d' : Nat) (D' : Option Addr) (v' q' : Nat) (w : World) (_ha : En w A n c B m d D v q a) (_hb : En w A' n' c' B' m' d' D' v' q' b) :
    Calls Tryz.prog 205 #[entV A n c B m d D v q a, entV A' n' c' B' m' d' D' v' q' b] w fun e w1 => e = .returned (.int .i64 (stepC a b 5)) ∧ Below w.heap.size w w1 := by
  unfold entV
  have HB := Lib.hid (two_boxes w)
  clear _ha _hb
  go_enter Tryz.func205, Tryz.ntmps205
  go_wp2_with (go_at_call 200; go_must (refine (icmp_any _ _ _).mono ?_; rintro e w1 ⟨rfl, rfl⟩))
  go_ret
  exact ⟨rfl, HB.out _ _⟩
set_option maxRecDepth 100000 in
set_option maxHeartbeats 1000000 in
theorem step7_any (a b : Ent) (A : Option Addr) (n c : Nat) (B : Option Addr) (m d : Nat) (D : Option Addr) (v q : Nat) (A' : Option Addr) (n' c' : Nat) (B' : Option Addr) (m' d' : Nat) (D' : Option Addr) (v' q' : Nat) (w : World) (_ha : En w A n c B m d D v q a) (_hb : En w A' n' c' B' m' d' D' v' q' b) :
    Calls Tryz.prog 206 #[entV A n c B m d D v q a, entV A' n' c' B' m' d' D' v' q' b] w fun e w1 => e = .returned (.int .i64 (stepC a b 6)) ∧ Below w.heap.size w w1 := by
  unfold entV
  have HB := Lib.hid (two_boxes w)
  clear _ha _hb
  go_enter Tryz.func206, Tryz.ntmps206
  go_wp2_with (go_at_call 200; go_must (refine (icmp_any _ _ _).mono ?_; rintro e w1 ⟨rfl, rfl⟩))
  go_ret
  exact ⟨rfl, HB.out _ _⟩
set_option maxRecDepth 100000 in
set_option maxHeartbeats 1000000 in
theorem step8_any (a b : Ent) (A : Option Addr) (n c : Nat) (B : Option Addr) (m d : Nat) (D : Option Addr) (v q : Nat) (A' : Option Addr) (n' c' : Nat) (B' : Option Addr) (m' d' : Nat) (D' : Option Addr) (v' q' : Nat) (w : World) (_ha : En w A n c B m d D v q a) (_hb : En w A' n' c' B' m' d' D' v' q' b) :
    Calls Tryz.prog 207 #[entV A n c B m d D v q a, entV A' n' c' B' m' d' D' v' q' b] w fun e w1 => e = .returned (.int .i64 (stepC a b 7)) ∧ Below w.heap.size w w1 := by
  unfold entV
  have HB := Lib.hid (two_boxes w)
  clear _ha _hb
  go_enter Tryz.func207, Tryz.ntmps207
  go_wp2_with (go_at_call 200; go_must (refine (icmp_any _ _ _).mono ?_; rintro e w1 ⟨rfl, rfl⟩))
  go_ret
  exact ⟨rfl, HB.out _ _⟩
set_option maxRecDepth 100000 in
set_option maxHeartbeats 1000000 in
theorem steps_any (w : World) : Calls Tryz.prog 156 #[] w fun e w1 => e = .returned (.agg #[.func (.func 198) #[] #[], .func (.func 199) #[] #[], .func (.func 201) #[] #[], .func (.func 203) #[] #[], .func (.func 204) #[] #[], .func (.func 205) #[] #[], .func (.func 206) #[] #[], .func (.func 207) #[] #[]]) ∧ Below w.heap.size w w1 := by
  go_enter Tryz.func156, Tryz.ntmps156
  go_wp2
  (try simp only [Exit.inBlock, Exit.then])
  refine bodyPost_ret (results_cell_row rfl _ _ w.heap.size 250 _ (0, 0) (.array 8 80) rfl (heap_alloc_new _ _) (by kernel_rfl) rfl (by kernel_rfl)) rfl ?_
  exact ⟨rfl, (Below.refl _ w).alloc (Nat.le_refl _) _⟩
theorem cmpE_first (a b : Ent) (k : Nat) (hk : k < 8) (h : ∀ i, i < k → stepC a b i = 0) (hn : stepC a b k ≠ 0) : stepC a b k = cmpE a b := by
  have z : ∀ i, i < k → stepC a b i = 0 := h
  have hc : cmpE a b = seqC (stepC a b 0) (seqC (stepC a b 1) (seqC (stepC a b 2) (seqC (stepC a b 3) (seqC (stepC a b 4) (seqC (stepC a b 5) (seqC (stepC a b 6) (stepC a b 7))))))) := rfl
  rw [hc]
  have hk' : k = 0 ∨ k = 1 ∨ k = 2 ∨ k = 3 ∨ k = 4 ∨ k = 5 ∨ k = 6 ∨ k = 7 := by omega
  rcases hk' with rfl | rfl | rfl | rfl | rfl | rfl | rfl | rfl
  · simp only [seqC, if_neg hn]
  · simp only [seqC, z 0 (by decide), if_true, if_neg hn]
  · simp only [seqC, z 0 (by decide), z 1 (by decide), if_true, if_neg hn]
  · simp only [seqC, z 0 (by decide), z 1 (by decide), z 2 (by decide), if_true, if_neg hn]
  · simp only [seqC, z 0 (by decide), z 1 (by decide), z 2 (by decide), z 3 (by decide), if_true, if_neg hn]
  · simp only [seqC, z 0 (by decide), z 1 (by decide), z 2 (by decide), z 3 (by decide), z 4 (by decide), if_true, if_neg hn]
  · simp only [seqC, z 0 (by decide), z 1 (by decide), z 2 (by decide), z 3 (by decide), z 4 (by decide), z 5 (by decide), if_true, if_neg hn]
  · simp only [seqC, z 0 (by decide), z 1 (by decide), z 2 (by decide), z 3 (by decide), z 4 (by decide), z 5 (by decide), z 6 (by decide), if_true]
theorem cmpE_none (a b : Ent) (h : ∀ i, i < 8 → stepC a b i = 0) : cmpE a b = 0 := by
  have hc : cmpE a b = seqC (stepC a b 0) (seqC (stepC a b 1) (seqC (stepC a b 2) (seqC (stepC a b 3) (seqC (stepC a b 4) (seqC (stepC a b 5) (seqC (stepC a b 6) (stepC a b 7))))))) := rfl
  rw [hc]
  simp only [seqC, h 0 (by decide), h 1 (by decide), h 2 (by decide), h 3 (by decide), h 4 (by decide), h 5 (by decide), h 6 (by decide), h 7 (by decide), if_true]
structure Two (w : World) (T : TypeId) (c1 c2 : Array Value) (x : World) : Prop where
  up : Below w.heap.size w x
  at1 : ∀ i v, c1[i]? = some v → x.cell? ⟨w.heap.size, i, none⟩ = some v
  at2 : ∀ i v, c2[i]? = some v → x.cell? ⟨w.heap.size + 1, i, none⟩ = some v
  size : w.heap.size + 2 ≤ x.heap.size
theorem Two.new (w : World) (T : TypeId) (c1 c2 : Array Value) : Two w T c1 c2 ((w.alloc (.cells c1 T)).alloc (.cells c2 T)) := by
  have s1 : (w.alloc (.cells c1 T)).heap.size = w.heap.size + 1 := by show (w.heap.push _).size = _; simp
  refine ⟨two_boxes w _ _, fun i v h => ?_, fun i v h => ?_, by show _ ≤ ((w.heap.push _).push _).size; simp⟩
  · rw [World.cell?_alloc_lt _ _ _ (by rw [s1]; exact Nat.lt_succ_self _)]
    simpa using h
  · rw [← s1]; simpa using h
theorem Two.later {w x y : World} {T : TypeId} {c1 c2 : Array Value} (h : Two w T c1 c2 x) (k : Below x.heap.size x y) : Two w T c1 c2 y := by
  have hs := h.size
  exact ⟨h.up.trans (k.mono h.up.size), fun i v e => (k.cell (p := ⟨w.heap.size, i, none⟩) (by show w.heap.size < x.heap.size; omega)).trans (h.at1 i v e),
    fun i v e => (k.cell (p := ⟨w.heap.size + 1, i, none⟩) (by show w.heap.size + 1 < x.heap.size; omega)).trans (h.at2 i v e), Nat.le_trans hs k.size⟩
theorem boxed1 {w x : World} {T : TypeId} {c1 c2 : Array Value} (h : Two w T c1 c2 x) {i : Nat} {v : Value} (e : c1[i]? = some v) : x.cell? ⟨w.heap.size, i, none⟩ = some v := h.at1 i v e
theorem boxed2 {w x : World} {T : TypeId} {c1 c2 : Array Value} (h : Two w T c1 c2 x) {i : Nat} {v : Value} (e : c2[i]? = some v) : x.cell? ⟨w.heap.size + 1, i, none⟩ = some v := h.at2 i v e
theorem below_keep2 {w x y : World} {T : TypeId} {c1 c2 : Array Value} (h : Two w T c1 c2 x) (k : Below x.heap.size x y) : Two w T c1 c2 y := h.later k
theorem below_of_two {w x : World} {T : TypeId} {c1 c2 : Array Value} (h : Two w T c1 c2 x) : Below w.heap.size w x := h.up
theorem idx0 (w : World) : (Instr.index 250 (.agg #[.func (.func 198) #[] #[], .func (.func 199) #[] #[], .func (.func 201) #[] #[], .func (.func 203) #[] #[], .func (.func 204) #[] #[], .func (.func 205) #[] #[], .func (.func 206) #[] #[], .func (.func 207) #[] #[]]) (.int .i64 0)).run Tryz.prog w = .ok (.func (.func 198) #[] #[]) w := run_index_arr w _ 80 8 _ 0 _ (by kernel_rfl) (by kernel_rfl) (by kernel_rfl) (by decide) rfl
theorem idx1 (w : World) : (Instr.index 250 (.agg #[.func (.func 198) #[] #[], .func (.func 199) #[] #[], .func (.func 201) #[] #[], .func (.func 203) #[] #[], .func (.func 204) #[] #[], .func (.func 205) #[] #[], .func (.func 206) #[] #[], .func (.func 207) #[] #[]]) (.int .i64 1)).run Tryz.prog w = .ok (.func (.func 199) #[] #[]) w := run_index_arr w _ 80 8 _ 1 _ (by kernel_rfl) (by kernel_rfl) (by kernel_rfl) (by decide) rfl
theorem idx2 (w : World) : (Instr.index 250 (.agg #[.func (.func 198) #[] #[], .func (.func 199) #[] #[], .func (.func 201) #[] #[], .func (.func 203) #[] #[], .func (.func 204) #[] #[], .func (.func 205) #[] #[], .func (.func 206) #[] #[], .func (.func 207) #[] #[]]) (.int .i64 2)).run Tryz.prog w = .ok (.func (.func 201) #[] #[]) w := run_index_arr w _ 80 8 _ 2 _ (by kernel_rfl) (by kernel_rfl) (by kernel_rfl) (by decide) rfl
theorem idx3 (w : World) : (Instr.index 250 (.agg #[.func (.func 198) #[] #[], .func (.func 199) #[] #[], .func (.func 201) #[] #[], .func (.func 203) #[] #[], .func (.func 204) #[] #[], .func (.func 205) #[] #[], .func (.func 206) #[] #[], .func (.func 207) #[] #[]]) (.int .i64 3)).run Tryz.prog w = .ok (.func (.func 203) #[] #[]) w := run_index_arr w _ 80 8 _ 3 _ (by kernel_rfl) (by kernel_rfl) (by kernel_rfl) (by decide) rfl
theorem idx4 (w : World) : (Instr.index 250 (.agg #[.func (.func 198) #[] #[], .func (.func 199) #[] #[], .func (.func 201) #[] #[], .func (.func 203) #[] #[], .func (.func 204) #[] #[], .func (.func 205) #[] #[], .func (.func 206) #[] #[], .func (.func 207) #[] #[]]) (.int .i64 4)).run Tryz.prog w = .ok (.func (.func 204) #[] #[]) w := run_index_arr w _ 80 8 _ 4 _ (by kernel_rfl) (by kernel_rfl) (by kernel_rfl) (by decide) rfl
theorem idx5 (w : World) : (Instr.index 250 (.agg #[.func (.func 198) #[] #[], .func (.func 199) #[] #[], .func (.func 201) #[] #[], .func (.func 203) #[] #[], .func (.func 204) #[] #[], .func (.func 205) #[] #[], .func (.func 206) #[] #[], .func (.func 207) #[] #[]]) (.int .i64 5)).run Tryz.prog w = .ok (.func (.func 205) #[] #[]) w := run_index_arr w _ 80 8 _ 5 _ (by kernel_rfl) (by kernel_rfl) (by kernel_rfl) (by decide) rfl
theorem idx6 (w : World) : (Instr.index 250 (.agg #[.func (.func 198) #[] #[], .func (.func 199) #[] #[], .func (.func 201) #[] #[], .func (.func 203) #[] #[], .func (.func 204) #[] #[], .func (.func 205) #[] #[], .func (.func 206) #[] #[], .func (.func 207) #[] #[]]) (.int .i64 6)).run Tryz.prog w = .ok (.func (.func 206) #[] #[]) w := run_index_arr w _ 80 8 _ 6 _ (by kernel_rfl) (by kernel_rfl) (by kernel_rfl) (by decide) rfl
theorem idx7 (w : World) : (Instr.index 250 (.agg #[.func (.func 198) #[] #[], .func (.func 199) #[] #[], .func (.func 201) #[] #[], .func (.func 203) #[] #[], .func (.func 204) #[] #[], .func (.func 205) #[] #[], .func (.func 206) #[] #[], .func (.func 207) #[] #[]]) (.int .i64 7)).run Tryz.prog w = .ok (.func (.func 207) #[] #[]) w := run_index_arr w _ 80 8 _ 7 _ (by kernel_rfl) (by kernel_rfl) (by kernel_rfl) (by decide) rfl
theorem Hid.map {p q : Prop} (h : Hid p) (f : p → q) : Hid q := Lib.hid (f h.out)
set_option maxRecDepth 100000 in
set_option maxHeartbeats 4000000 in
theorem compare_any (a b : Ent) (A : Option Addr) (n c : Nat) (B : Option Addr) (m d : Nat) (D : Option Addr) (v q : Nat) (A' : Option Addr) (n' c' : Nat) (B' : Option Addr) (m' d' : Nat) (D' : Option Addr) (v' q' : Nat) (w : World) (ha : En w A n c B m d D v q a) (hb : En w A' n' c' B' m' d' D' v' q' b) :
    Calls Tryz.prog 93 #[entV A n c B m d D v q a, entV A' n' c' B' m' d' D' v' q' b] w fun e w1 => e = .returned (.int .i64 (cmpE a b)) ∧ Below w.heap.size w w1 := by
  have HA : Hid (∀ w1, Below w.heap.size w w1 → En w1 A n c B m d D v q a) := Lib.hid fun _ h => ha.later h
  have HC : Hid (∀ w1, Below w.heap.size w w1 → En w1 A' n' c' B' m' d' D' v' q' b) := Lib.hid fun _ h => hb.later h
  have HT := Lib.hid (Two.new w 60 #[.slice A n c, .int .i64 a.fam, .slice B m d, .int .i64 a.ts, .int .i64 a.seq, .int .i64 a.kind, .slice D v q] #[.slice A' n' c', .int .i64 b.fam, .slice B' m' d', .int .i64 b.ts, .int .i64 b.seq, .int .i64 b.kind, .slice D' v' q'])
  unfold entV
  clear ha hb
  go_enter Tryz.func93, Tryz.ntmps93
  go_wp2_with (go_at_call 156; refine (steps_any _).mono ?_; rintro e w1 ⟨rfl, hb1⟩; have HB1 := Lib.hid (below_keep2 HT.out hb1); clear hb1 HT)
  go_loopw [9] (fun i wr => ∃ k : Nat, k ≤ 8 ∧ i = .int .i64 k ∧ Hid (∀ i, i < k → stepC a b i = 0) ∧ Hid (Two w 60 #[.slice A n c, .int .i64 a.fam, .slice B m d, .int .i64 a.ts, .int .i64 a.seq, .int .i64 a.kind, .slice D v q] #[.slice A' n' c', .int .i64 b.fam, .slice B' m' d', .int .i64 b.ts, .int .i64 b.seq, .int .i64 b.kind, .slice D' v' q'] wr)) (fun i _ => 8 - (intOf i).toNat)
  case atStart => exact ⟨0, by decide, rfl, Lib.hid fun i hi => absurd hi (Nat.not_lt_zero _), HB1⟩
  case round =>
    obtain ⟨k, hk, hi, HF, HW⟩ := hrel
    have HE := Lib.hid (below_of_two HW.out)
    have c10 := boxed1 HW.out (i := 0) (v := .slice A n c) rfl
    have c20 := boxed2 HW.out (i := 0) (v := .slice A' n' c') rfl
    have c11 := boxed1 HW.out (i := 1) (v := .int .i64 a.fam) rfl
    have c21 := boxed2 HW.out (i := 1) (v := .int .i64 b.fam) rfl
    have c12 := boxed1 HW.out (i := 2) (v := .slice B m d) rfl
    have c22 := boxed2 HW.out (i := 2) (v := .slice B' m' d') rfl
    have c13 := boxed1 HW.out (i := 3) (v := .int .i64 a.ts) rfl
    have c23 := boxed2 HW.out (i := 3) (v := .int .i64 b.ts) rfl
    have c14 := boxed1 HW.out (i := 4) (v := .int .i64 a.seq) rfl
    have c24 := boxed2 HW.out (i := 4) (v := .int .i64 b.seq) rfl
    have c15 := boxed1 HW.out (i := 5) (v := .int .i64 a.kind) rfl
    have c25 := boxed2 HW.out (i := 5) (v := .int .i64 b.kind) rfl
    have c16 := boxed1 HW.out (i := 6) (v := .slice D v q) rfl
    have c26 := boxed2 HW.out (i := 6) (v := .slice D' v' q') rfl
    clear HB1
    have hk' : k = 0 ∨ k = 1 ∨ k = 2 ∨ k = 3 ∨ k = 4 ∨ k = 5 ∨ k = 6 ∨ k = 7 ∨ k = 8 := by omega
    clear hk
    rcases hk' with rfl | rfl | rfl | rfl | rfl | rfl | rfl | rfl | rfl
    case inr.inr.inr.inr.inr.inr.inr.inr =>
      replace hi : _ = Value.int .i64 8 := hi
      subst hi
      have HZ := Lib.hid (cmpE_none a b HF.out)
      clear HF HA HC
      go_wp2
      go_ret
      exact ⟨by rw [HZ.out]; rfl, below_of_two HW.out⟩
    case inl =>
      replace hi : _ = Value.int .i64 0 := hi
      subst hi
      have S : ∀ (z : Unit) (_ : Hid True), Calls Tryz.prog 198 #[.agg #[.slice A n c, .int .i64 a.fam, .slice B m d, .int .i64 a.ts, .int .i64 a.seq, .int .i64 a.kind, .slice D v q], .agg #[.slice A' n' c', .int .i64 b.fam, .slice B' m' d', .int .i64 b.ts, .int .i64 b.seq, .int .i64 b.kind, .slice D' v' q']] wr (fun e w1 => e = .returned (.int .i64 (stepC a b 0)) ∧ Below wr.heap.size wr w1) := fun _ _ => step1_any a b _ _ _ _ _ _ _ _ _ _ _ _ _ _ _ _ _ _ wr (HA.out wr HE.out) (HC.out wr HE.out)
      clear HA HC
      have ix := fun w => idx0 w
      by_cases hz : stepC a b 0 = 0
      · have HZ : Hid (∀ i, i < 1 → stepC a b i = 0) := Lib.hid fun i hi => if h : i = 0 then h ▸ hz else HF.out i (by omega)
        rw [hz] at S
        clear hz HF
        go_wp2_with (go_at_call 198; go_must (refine (S () (Lib.hid trivial)).mono ?_); rintro e w2 ⟨rfl, hb2⟩; have HB2 := Lib.hid (below_keep2 HW.out hb2); clear hb2)
        go_roundw
        case measure => decide
        case rel => exact ⟨1, by omega, rfl, HZ, HB2⟩
      · have HZ := Lib.hid (cmpE_first a b 0 (by decide) HF.out hz)
        have t1 : (stepC a b 0 == 0) = false := by simpa using hz
        have t2 : (stepC a b 0 != 0) = true := by simpa using hz
        clear HF hz
        generalize stepC a b 0 = z at S t1 t2 HZ
        go_wp2_with (go_at_call 198; go_must (refine (S () (Lib.hid trivial)).mono ?_); rintro e w2 ⟨rfl, hb2⟩; have HB2 := Lib.hid (below_keep2 HW.out hb2); clear hb2)
        go_ret
        exact ⟨by rw [← HZ.out]; rfl, below_of_two HB2.out⟩
    case inr.inl =>
      replace hi : _ = Value.int .i64 1 := hi
      subst hi
      have S : ∀ (z : Unit) (_ : Hid True), Calls Tryz.prog 199 #[.agg #[.slice A n c, .int .i64 a.fam, .slice B m d, .int .i64 a.ts, .int .i64 a.seq, .int .i64 a.kind, .slice D v q], .agg #[.slice A' n' c', .int .i64 b.fam, .slice B' m' d', .int .i64 b.ts, .int .i64 b.seq, .int .i64 b.kind, .slice D' v' q']] wr (fun e w1 => e = .returned (.int .i64 (stepC a b 1)) ∧ Below wr.heap.size wr w1) := fun _ _ => step2_any a b _ _ _ _ _ _ _ _ _ _ _ _ _ _ _ _ _ _ wr (HA.out wr HE.out) (HC.out wr HE.out)
      clear HA HC
      have ix := fun w => idx1 w
      by_cases hz : stepC a b 1 = 0
      · have HZ : Hid (∀ i, i < 2 → stepC a b i = 0) := Lib.hid fun i hi => if h : i = 1 then h ▸ hz else HF.out i (by omega)
        rw [hz] at S
        clear hz HF
        go_wp2_with (go_at_call 199; go_must (refine (S () (Lib.hid trivial)).mono ?_); rintro e w2 ⟨rfl, hb2⟩; have HB2 := Lib.hid (below_keep2 HW.out hb2); clear hb2)
        go_roundw
        case measure => decide
        case rel => exact ⟨2, by omega, rfl, HZ, HB2⟩
      · have HZ := Lib.hid (cmpE_first a b 1 (by decide) HF.out hz)
        have t1 : (stepC a b 1 == 0) = false := by simpa using hz
        have t2 : (stepC a b 1 != 0) = true := by simpa using hz
        clear HF hz
        generalize stepC a b 1 = z at S t1 t2 HZ
        go_wp2_with (go_at_call 199; go_must (refine (S () (Lib.hid trivial)).mono ?_); rintro e w2 ⟨rfl, hb2⟩; have HB2 := Lib.hid (below_keep2 HW.out hb2); clear hb2)
        go_ret
        exact ⟨by rw [← HZ.out]; rfl, below_of_two HB2.out⟩
    case inr.inr.inl =>
      replace hi : _ = Value.int .i64 2 := hi
      subst hi
      have S : ∀ (z : Unit) (_ : Hid True), Calls Tryz.prog 201 #[.agg #[.slice A n c, .int .i64 a.fam, .slice B m d, .int .i64 a.ts, .int .i64 a.seq, .int .i64 a.kind, .slice D v q], .agg #[.slice A' n' c', .int .i64 b.fam, .slice B' m' d', .int .i64 b.ts, .int .i64 b.seq, .int .i64 b.kind, .slice D' v' q']] wr (fun e w1 => e = .returned (.int .i64 (stepC a b 2)) ∧ Below wr.heap.size wr w1) := fun _ _ => step3_any a b _ _ _ _ _ _ _ _ _ _ _ _ _ _ _ _ _ _ wr (HA.out wr HE.out) (HC.out wr HE.out)
      clear HA HC
      have ix := fun w => idx2 w
      by_cases hz : stepC a b 2 = 0
      · have HZ : Hid (∀ i, i < 3 → stepC a b i = 0) := Lib.hid fun i hi => if h : i = 2 then h ▸ hz else HF.out i (by omega)
        rw [hz] at S
        clear hz HF
        go_wp2_with (go_at_call 201; go_must (refine (S () (Lib.hid trivial)).mono ?_); rintro e w2 ⟨rfl, hb2⟩; have HB2 := Lib.hid (below_keep2 HW.out hb2); clear hb2)
        go_roundw
        case measure => decide
        case rel => exact ⟨3, by omega, rfl, HZ, HB2⟩
      · have HZ := Lib.hid (cmpE_first a b 2 (by decide) HF.out hz)
        have t1 : (stepC a b 2 == 0) = false := by simpa using hz
        have t2 : (stepC a b 2 != 0) = true := by simpa using hz
        clear HF hz
        generalize stepC a b 2 = z at S t1 t2 HZ
        go_wp2_with (go_at_call 201; go_must (refine (S () (Lib.hid trivial)).mono ?_); rintro e w2 ⟨rfl, hb2⟩; have HB2 := Lib.hid (below_keep2 HW.out hb2); clear hb2)
        go_ret
        exact ⟨by rw [← HZ.out]; rfl, below_of_two HB2.out⟩
    case inr.inr.inr.inl =>
      replace hi : _ = Value.int .i64 3 := hi
      subst hi
      have S : ∀ (z : Unit) (_ : Hid True), Calls Tryz.prog 203 #[.agg #[.slice A n c, .int .i64 a.fam, .slice B m d, .int .i64 a.ts, .int .i64 a.seq, .int .i64 a.kind, .slice D v q], .agg #[.slice A' n' c', .int .i64 b.fam, .slice B' m' d', .int .i64 b.ts, .int .i64 b.seq, .int .i64 b.kind, .slice D' v' q']] wr (fun e w1 => e = .returned (.int .i64 (stepC a b 3)) ∧ Below wr.heap.size wr w1) := fun _ _ => step4_any a b _ _ _ _ _ _ _ _ _ _ _ _ _ _ _ _ _ _ wr (HA.out wr HE.out) (HC.out wr HE.out)
      clear HA HC
      have ix := fun w => idx3 w
      by_cases hz : stepC a b 3 = 0
      · have HZ : Hid (∀ i, i < 4 → stepC a b i = 0) := Lib.hid fun i hi => if h : i = 3 then h ▸ hz else HF.out i (by omega)
        rw [hz] at S
        clear hz HF
        go_wp2_with (go_at_call 203; go_must (refine (S () (Lib.hid trivial)).mono ?_); rintro e w2 ⟨rfl, hb2⟩; have HB2 := Lib.hid (below_keep2 HW.out hb2); clear hb2)
        go_roundw
        case measure => decide
        case rel => exact ⟨4, by omega, rfl, HZ, HB2⟩
      · have HZ := Lib.hid (cmpE_first a b 3 (by decide) HF.out hz)
        have t1 : (stepC a b 3 == 0) = false := by simpa using hz
        have t2 : (stepC a b 3 != 0) = true := by simpa using hz
        clear HF hz
        generalize stepC a b 3 = z at S t1 t2 HZ
        go_wp2_with (go_at_call 203; go_must (refine (S () (Lib.hid trivial)).mono ?_); rintro e w2 ⟨rfl, hb2⟩; have HB2 := Lib.hid (below_keep2 HW.out hb2); clear hb2)
        go_ret
        exact ⟨by rw [← HZ.out]; rfl, below_of_two HB2.out⟩
    case inr.inr.inr.inr.inl =>
      replace hi : _ = Value.int .i64 4 := hi
      subst hi
      have S : ∀ (z : Unit) (_ : Hid True), Calls Tryz.prog 204 #[.agg #[.slice A n c, .int .i64 a.fam, .slice B m d, .int .i64 a.ts, .int .i64 a.seq, .int .i64 a.kind, .slice D v q], .agg #[.slice A' n' c', .int .i64 b.fam, .slice B' m' d', .int .i64 b.ts, .int .i64 b.seq, .int .i64 b.kind, .slice D' v' q']] wr (fun e w1 => e = .returned (.int .i64 (stepC a b 4)) ∧ Below wr.heap.size wr w1) := fun _ _ => step5_any a b _ _ _ _ _ _ _ _ _ _ _ _ _ _ _ _ _ _ wr (HA.out wr HE.out) (HC.out wr HE.out)
      clear HA HC
      have ix := fun w => idx4 w
      by_cases hz : stepC a b 4 = 0
      · have HZ : Hid (∀ i, i < 5 → stepC a b i = 0) := Lib.hid fun i hi => if h : i = 4 then h ▸ hz else HF.out i (by omega)
        rw [hz] at S
        clear hz HF
        go_wp2_with (go_at_call 204; go_must (refine (S () (Lib.hid trivial)).mono ?_); rintro e w2 ⟨rfl, hb2⟩; have HB2 := Lib.hid (below_keep2 HW.out hb2); clear hb2)
        go_roundw
        case measure => decide
        case rel => exact ⟨5, by omega, rfl, HZ, HB2⟩
      · have HZ := Lib.hid (cmpE_first a b 4 (by decide) HF.out hz)
        have t1 : (stepC a b 4 == 0) = false := by simpa using hz
        have t2 : (stepC a b 4 != 0) = true := by simpa using hz
        clear HF hz
        generalize stepC a b 4 = z at S t1 t2 HZ
        go_wp2_with (go_at_call 204; go_must (refine (S () (Lib.hid trivial)).mono ?_); rintro e w2 ⟨rfl, hb2⟩; have HB2 := Lib.hid (below_keep2 HW.out hb2); clear hb2)
        go_ret
        exact ⟨by rw [← HZ.out]; rfl, below_of_two HB2.out⟩
    case inr.inr.inr.inr.inr.inl =>
      replace hi : _ = Value.int .i64 5 := hi
      subst hi
      have S : ∀ (z : Unit) (_ : Hid True), Calls Tryz.prog 205 #[.agg #[.slice A n c, .int .i64 a.fam, .slice B m d, .int .i64 a.ts, .int .i64 a.seq, .int .i64 a.kind, .slice D v q], .agg #[.slice A' n' c', .int .i64 b.fam, .slice B' m' d', .int .i64 b.ts, .int .i64 b.seq, .int .i64 b.kind, .slice D' v' q']] wr (fun e w1 => e = .returned (.int .i64 (stepC a b 5)) ∧ Below wr.heap.size wr w1) := fun _ _ => step6_any a b _ _ _ _ _ _ _ _ _ _ _ _ _ _ _ _ _ _ wr (HA.out wr HE.out) (HC.out wr HE.out)
      clear HA HC
      have ix := fun w => idx5 w
      by_cases hz : stepC a b 5 = 0
      · have HZ : Hid (∀ i, i < 6 → stepC a b i = 0) := Lib.hid fun i hi => if h : i = 5 then h ▸ hz else HF.out i (by omega)
        rw [hz] at S
        clear hz HF
        go_wp2_with (go_at_call 205; go_must (refine (S () (Lib.hid trivial)).mono ?_); rintro e w2 ⟨rfl, hb2⟩; have HB2 := Lib.hid (below_keep2 HW.out hb2); clear hb2)
        go_roundw
        case measure => decide
        case rel => exact ⟨6, by omega, rfl, HZ, HB2⟩
      · have HZ := Lib.hid (cmpE_first a b 5 (by decide) HF.out hz)
        have t1 : (stepC a b 5 == 0) = false := by simpa using hz
        have t2 : (stepC a b 5 != 0) = true := by simpa using hz
        clear HF hz
        generalize stepC a b 5 = z at S t1 t2 HZ
        go_wp2_with (go_at_call 205; go_must (refine (S () (Lib.hid trivial)).mono ?_); rintro e w2 ⟨rfl, hb2⟩; have HB2 := Lib.hid (below_keep2 HW.out hb2); clear hb2)
        go_ret
        exact ⟨by rw [← HZ.out]; rfl, below_of_two HB2.out⟩
    case inr.inr.inr.inr.inr.inr.inl =>
      replace hi : _ = Value.int .i64 6 := hi
      subst hi
      have S : ∀ (z : Unit) (_ : Hid True), Calls Tryz.prog 206 #[.agg #[.slice A n c, .int .i64 a.fam, .slice B m d, .int .i64 a.ts, .int .i64 a.seq, .int .i64 a.kind, .slice D v q], .agg #[.slice A' n' c', .int .i64 b.fam, .slice B' m' d', .int .i64 b.ts, .int .i64 b.seq, .int .i64 b.kind, .slice D' v' q']] wr (fun e w1 => e = .returned (.int .i64 (stepC a b 6)) ∧ Below wr.heap.size wr w1) := fun _ _ => step7_any a b _ _ _ _ _ _ _ _ _ _ _ _ _ _ _ _ _ _ wr (HA.out wr HE.out) (HC.out wr HE.out)
      clear HA HC
      have ix := fun w => idx6 w
      by_cases hz : stepC a b 6 = 0
      · have HZ : Hid (∀ i, i < 7 → stepC a b i = 0) := Lib.hid fun i hi => if h : i = 6 then h ▸ hz else HF.out i (by omega)
        rw [hz] at S
        clear hz HF
        go_wp2_with (go_at_call 206; go_must (refine (S () (Lib.hid trivial)).mono ?_); rintro e w2 ⟨rfl, hb2⟩; have HB2 := Lib.hid (below_keep2 HW.out hb2); clear hb2)
        go_roundw
        case measure => decide
        case rel => exact ⟨7, by omega, rfl, HZ, HB2⟩
      · have HZ := Lib.hid (cmpE_first a b 6 (by decide) HF.out hz)
        have t1 : (stepC a b 6 == 0) = false := by simpa using hz
        have t2 : (stepC a b 6 != 0) = true := by simpa using hz
        clear HF hz
        generalize stepC a b 6 = z at S t1 t2 HZ
        go_wp2_with (go_at_call 206; go_must (refine (S () (Lib.hid trivial)).mono ?_); rintro e w2 ⟨rfl, hb2⟩; have HB2 := Lib.hid (below_keep2 HW.out hb2); clear hb2)
        go_ret
        exact ⟨by rw [← HZ.out]; rfl, below_of_two HB2.out⟩
    case inr.inr.inr.inr.inr.inr.inr.inl =>
      replace hi : _ = Value.int .i64 7 := hi
      subst hi
      have S : ∀ (z : Unit) (_ : Hid True), Calls Tryz.prog 207 #[.agg #[.slice A n c, .int .i64 a.fam, .slice B m d, .int .i64 a.ts, .int .i64 a.seq, .int .i64 a.kind, .slice D v q], .agg #[.slice A' n' c', .int .i64 b.fam, .slice B' m' d', .int .i64 b.ts, .int .i64 b.seq, .int .i64 b.kind, .slice D' v' q']] wr (fun e w1 => e = .returned (.int .i64 (stepC a b 7)) ∧ Below wr.heap.size wr w1) := fun _ _ => step8_any a b _ _ _ _ _ _ _ _ _ _ _ _ _ _ _ _ _ _ wr (HA.out wr HE.out) (HC.out wr HE.out)
      clear HA HC
      have ix := fun w => idx7 w
      by_cases hz : stepC a b 7 = 0
      · have HZ : Hid (∀ i, i < 8 → stepC a b i = 0) := Lib.hid fun i hi => if h : i = 7 then h ▸ hz else HF.out i (by omega)
        rw [hz] at S
        clear hz HF
        go_wp2_with (go_at_call 207; go_must (refine (S () (Lib.hid trivial)).mono ?_); rintro e w2 ⟨rfl, hb2⟩; have HB2 := Lib.hid (below_keep2 HW.out hb2); clear hb2)
        go_roundw
        case measure => decide
        case rel => exact ⟨8, by omega, rfl, HZ, HB2⟩
      · have HZ := Lib.hid (cmpE_first a b 7 (by decide) HF.out hz)
        have t1 : (stepC a b 7 == 0) = false := by simpa using hz
        have t2 : (stepC a b 7 != 0) = true := by simpa using hz
        clear HF hz
        generalize stepC a b 7 = z at S t1 t2 HZ
        go_wp2_with (go_at_call 207; go_must (refine (S () (Lib.hid trivial)).mono ?_); rintro e w2 ⟨rfl, hb2⟩; have HB2 := Lib.hid (below_keep2 HW.out hb2); clear hb2)
        go_ret
        exact ⟨by rw [← HZ.out]; rfl, below_of_two HB2.out⟩
section
variable {w x y : World} {A : Option Addr} {n c : Nat} {l : List UInt8} {row row' : Option Nat}
theorem Reads.apart {_B size : Nat} {xs : List Value} (h : Reads w w.heap.size size A n xs) (hg : w.grownBy y row) (hne : 0 < n → ∀ a, A = some a → some a.block ≠ row) : Reads y y.heap.size size A n xs :=
  ⟨h.1, fun hn => by
    obtain ⟨b, o, rfl, hb, hc⟩ := h.2 hn
    refine ⟨b, o, rfl, Nat.lt_of_lt_of_le hb hg.size, fun j u hu => ?_⟩
    have e : y.cell? ⟨b, o + j, none⟩ = w.cell? ⟨b, o + j, none⟩ := World.cell?_of_block (hg.block b hb (fun e => hne hn _ rfl (e ▸ rfl)))
    exact e.trans (hc j u hu)⟩
theorem Sl.apart (h : Sl w A n c l) (hg : w.grownBy y row) (hne : 0 < n → ∀ a, A = some a → some a.block ≠ row) : Sl y A n c l :=
  ⟨Reads.apart (_B := 0) h.rb hg hne, h.cap, h.lim, h.nil⟩
end
def Fam (w : World) (row : Option Nat) (vs : List Value) (ks : List (List UInt8)) (more : List UInt8) : Prop :=
  vs.length = ks.length ∧ ∀ (i : Nat) (k : List UInt8), ks[i]? = some k → ∃ (a : Option Addr) (c : Nat), vs[i]? = some (.slice a k.length c) ∧ Sl w a (k.length + more.length) c (k ++ more) ∧ ∀ x, a = some x → some x.block ≠ row
section
variable {w x y : World} {row row' : Option Nat} {vs : List Value} {ks : List (List UInt8)} {more : List UInt8}
theorem Fam.nil : Fam w row [] [] more := ⟨rfl, fun i k h => by simp at h⟩
theorem Fam.later (h : Fam w row vs ks more) (hb : Below w.heap.size w x) : Fam x row vs ks more :=
  ⟨h.1, fun i k hk => by obtain ⟨a, c, q1, q2, q3⟩ := h.2 i k hk; exact ⟨a, c, q1, q2.later hb, q3⟩⟩
theorem Fam.snoc (h : Fam w row vs ks more) {a : Option Addr} {c : Nat} {k : List UInt8} (hs : Sl w a (k.length + more.length) c (k ++ more)) (hne : ∀ x, a = some x → some x.block ≠ row) : Fam w row (vs ++ [.slice a k.length c]) (ks ++ [k]) more := by
  refine ⟨by simp [h.1], fun i q hq => ?_⟩
  rw [List.getElem?_append] at hq ⊢
  rw [h.1]
  split at hq
  · rename_i hi
    rw [if_pos hi]; exact h.2 i q hq
  · rename_i hi
    rw [if_neg hi]
    have h0 : i - ks.length = 0 := by
      have := (List.getElem?_eq_some_iff.1 hq).1
      simp at this; omega
    rw [h0] at hq ⊢
    injection hq with hq; subst hq
    exact ⟨a, c, rfl, hs, hne⟩
theorem Fam.kv (h : Fam w row vs ks more) : KV w w.heap.size vs ks :=
  ⟨h.1, fun i k hk => by
    obtain ⟨a, c, q1, q2, _⟩ := h.2 i k hk
    have := q2.take (m := k.length) (by omega)
    rw [List.take_left' rfl] at this
    exact ⟨a, c, q1, this.cap, this.lim, this.nil, this.rb⟩⟩
theorem Fam.at_ (h : Fam w row vs ks more) {i : Nat} {k : List UInt8} (hk : ks[i]? = some k) : ∃ a c, vs[i]? = some (.slice a k.length c) ∧ Sl w a (k.length + more.length) c (k ++ more) := by
  obtain ⟨a, c, q1, q2, _⟩ := h.2 i k hk
  exact ⟨a, c, q1, q2⟩
end
theorem own_row_lt {w : World} {base e size n : Nat} {v : Value} {xs : List Value} (h : w.ownsRow base e size v n xs) : ∀ g, v.ownBlock = some g → g < w.heap.size := fun g hg => (World.ownsRow.lt h g hg).2
structure Chg (S : Nat → Prop) (w w' : World) : Prop where
  os : w'.os = w.os
  tape : w'.tape = w.tape
  output : w'.output = w.output
  size : w.heap.size ≤ w'.heap.size
  block : ∀ k, k < w.heap.size → ¬ S k → w'.heap[k]? = w.heap[k]?
section
variable {S S' : Nat → Prop} {w x y : World} {B : Nat} {row : Option Nat}
theorem Chg.refl (S : Nat → Prop) (w : World) : Chg S w w := ⟨rfl, rfl, rfl, Nat.le_refl _, fun _ _ _ => rfl⟩
theorem Chg.trans (h : Chg S w x) (k : Chg S x y) : Chg S w y :=
  ⟨k.os.trans h.os, k.tape.trans h.tape, k.output.trans h.output, Nat.le_trans h.size k.size, fun i hi hs => (k.block i (Nat.lt_of_lt_of_le hi h.size) hs).trans (h.block i hi hs)⟩
theorem Chg.mono (h : Chg S w x) (hs : ∀ k, k < w.heap.size → S k → S' k) : Chg S' w x := ⟨h.os, h.tape, h.output, h.size, fun k hk hn => h.block k hk fun e => hn (hs k hk e)⟩
theorem Below.chg (h : Below B w x) : Chg (fun k => B ≤ k) w x := ⟨h.os, h.tape, h.output, h.size, fun k _ hn => h.block k (by omega)⟩
theorem Below.chg0 (h : Below w.heap.size w x) : Chg S w x := ⟨h.os, h.tape, h.output, h.size, fun k hk _ => h.block k hk⟩
theorem grown_chg (h : w.grownBy x row) : Chg (fun k => row = some k) w x := ⟨h.os, h.tape, h.output, h.size, fun k hk hn => h.block k hk fun e => hn e.symm⟩
theorem Chg.below (h : Chg S w x) (hB : B ≤ w.heap.size) (hs : ∀ k, k < w.heap.size → S k → B ≤ k) : Below B w x :=
  ⟨h.os, h.tape, h.output, h.size, fun k hk => h.block k (by omega) fun e => by have := hs k (by omega) e; omega⟩
theorem Chg.alloc (h : Chg S w x) (o : Obj) : Chg S w (x.alloc o) := h.trans (Below.chg0 ((Below.refl _ _).alloc (Nat.le_refl _) o))
theorem Chg.setCell (w : World) (p : Addr) (v : Value) : Chg (fun k => k = p.block) w (w.setCell p v) :=
  ⟨rfl, rfl, rfl, by simp [World.setCell], fun k _ hn => Below.heap_setCell _ _ _ _ hn⟩
theorem Chg.cell (h : Chg S w x) {p : Addr} {v : Value} (hc : w.cell? p = some v) (hn : ¬ S p.block) : x.cell? p = some v :=
  (World.cell?_of_block (h.block _ (World.block_lt_of_cell? w p hc) hn)).trans hc
theorem Reads.chg {size n : Nat} {A : Option Addr} {xs : List Value} (h : Reads w w.heap.size size A n xs) (hc : Chg S w x) (hn : 0 < n → ∀ a, A = some a → ¬ S a.block) : Reads x x.heap.size size A n xs :=
  ⟨h.1, fun h0 => by
    obtain ⟨b, o, rfl, hb, hcell⟩ := h.2 h0
    exact ⟨b, o, rfl, Nat.lt_of_lt_of_le hb hc.size, fun j u hu => hc.cell (p := ⟨b, o + j, none⟩) (hcell j u hu) (hn h0 ⟨b, o, none⟩ rfl)⟩⟩
theorem Sl.chg {A : Option Addr} {n c : Nat} {l : List UInt8} (h : Sl w A n c l) (hc : Chg S w x) (hn : 0 < n → ∀ a, A = some a → ¬ S a.block) : Sl x A n c l := ⟨Reads.chg h.rb hc hn, h.cap, h.lim, h.nil⟩
theorem own_chg {base e size n : Nat} {v : Value} {xs : List Value} (h : w.ownsRow base e size v n xs) (hc : Chg S w x) (hn : ∀ g, v.ownBlock = some g → ¬ S g) : x.ownsRow base e size v n xs := by
  refine ⟨h.1, ?_⟩
  rcases h.2 with h | ⟨g, cap, cur, rfl, hb, hg, hr⟩
  · exact .inl h
  · refine .inr ⟨g, cap, cur, rfl, hb, ?_, hr⟩
    rw [hc.block g (Array.getElem?_eq_some_iff.1 hg).1 (hn g rfl)]; exact hg
end
def RowsB (T : TypeId) (base : Nat) (w : World) (rs : List (Option Addr × Nat × List UInt8)) : Prop :=
  (∀ (i : Nat) r, rs[i]? = some r → OwnB T base w r.1 r.2.1 r.2.2) ∧ ∀ (i j : Nat) r s, rs[i]? = some r → rs[j]? = some s → i ≠ j → ∀ a b, r.1 = some a → s.1 = some b → a.block ≠ b.block
section
variable {T : TypeId} {base : Nat} {w x : World} {rs : List (Option Addr × Nat × List UInt8)} {S : Nat → Prop}
theorem RowsB.nil : RowsB T base w [] := ⟨fun i r h => by simp at h, fun i j r s h => by simp at h⟩
theorem RowsB.chg (h : RowsB T base w rs) (hc : Chg S w x) (hn : ∀ (i : Nat) r, rs[i]? = some r → ∀ a, r.1 = some a → ¬ S a.block) : RowsB T base x rs :=
  ⟨fun i r hr => own_chg (h.1 i r hr) hc fun g hg => by
    obtain ⟨A, c, l⟩ := r
    cases A with
    | none => cases hg
    | some a => injection hg with hg; subst hg; exact hn i _ hr a rfl, h.2⟩
theorem RowsB.later (h : RowsB T base w rs) (hb : Below w.heap.size w x) : RowsB T base x rs := h.chg (S := fun _ => False) (Below.chg0 hb) fun _ _ _ _ _ e => e
theorem OwnB.lt {A : Option Addr} {c : Nat} {l : List UInt8} (h : OwnB T base w A c l) {a : Addr} (ha : A = some a) : base ≤ a.block ∧ a.block < w.heap.size := by
  subst ha; exact World.ownsRow.lt h a.block rfl
theorem OwnB.zero {A : Option Addr} {c : Nat} {l : List UInt8} (h : OwnB T base w A c l) {a : Addr} (ha : A = some a) : a = ⟨a.block, 0, none⟩ := by
  subst ha
  rcases h.2 with ⟨e, _⟩ | ⟨g, cap, cur, e, _⟩
  · cases e
  · injection e with e; injection e with e; subst e; rfl
theorem RowsB.snoc (h : RowsB T base w rs) {A : Option Addr} {c : Nat} {l : List UInt8} (ho : OwnB T base w A c l) (hne : ∀ (i : Nat) r, rs[i]? = some r → ∀ a b, r.1 = some a → A = some b → a.block ≠ b.block) : RowsB T base w (rs ++ [(A, c, l)]) := by
  have hget : ∀ (i : Nat) r, (rs ++ [(A, c, l)])[i]? = some r → (i < rs.length ∧ rs[i]? = some r) ∨ (i = rs.length ∧ r = (A, c, l)) := by
    intro i r hr
    rw [List.getElem?_append] at hr
    split at hr
    · rename_i hi; exact .inl ⟨hi, hr⟩
    · rename_i hi
      have h0 : i - rs.length = 0 := by
        have := (List.getElem?_eq_some_iff.1 hr).1
        simp at this; omega
      rw [h0] at hr
      injection hr with hr
      exact .inr ⟨by omega, hr.symm⟩
  refine ⟨fun i r hr => ?_, fun i j r s hr hs hij a b ha hb => ?_⟩
  · rcases hget i r hr with ⟨_, h1⟩ | ⟨_, rfl⟩
    · exact h.1 i r h1
    · exact ho
  · rcases hget i r hr with ⟨h0, h1⟩ | ⟨h0, rfl⟩ <;> rcases hget j s hs with ⟨k0, k1⟩ | ⟨k0, rfl⟩
    · exact h.2 i j r s h1 k1 hij a b ha hb
    · exact hne i r h1 a b ha hb
    · exact fun e => hne j s k1 b a hb ha e.symm
    · omega
theorem RowsB.fresh (h : RowsB T base w rs) (hb : Below w.heap.size w x) {A : Option Addr} {c : Nat} {l : List UInt8} (ho : OwnB T w.heap.size x A c l) (hle : base ≤ w.heap.size) : RowsB T base x (rs ++ [(A, c, l)]) :=
  (h.later hb).snoc (ho.rebase hle) fun i r hr a b ha hb' e => by
    have h1 := ((h.1 i r hr).lt ha).2
    have h2 := (ho.lt hb').1
    omega
theorem u8s_set5 (l : List UInt8) (k : Nat) (x : UInt8) : (u8s l).set k (u8v x) = u8s (l.set k x) := by
  unfold u8s
  rw [List.map_set]
theorem RowsB.store (h : RowsB T base w rs) {i k g c : Nat} {l : List UInt8} (hr : rs[i]? = some (some ⟨g, 0, none⟩, c, l)) (u : UInt8) :
    RowsB T base (w.setCell ⟨g, k, none⟩ (u8v u)) (rs.set i (some ⟨g, 0, none⟩, c, l.set k u)) ∧ Chg (fun b => b = g) w (w.setCell ⟨g, k, none⟩ (u8v u)) := by
  have hC := Chg.setCell w ⟨g, k, none⟩ (u8v u)
  have ho := h.1 i _ hr
  have hs := World.ownsRow.stored ho k (u8v u)
  rw [u8s_set5] at hs
  have hlt : i < rs.length := (List.getElem?_eq_some_iff.1 hr).1
  have hget : ∀ (j : Nat) r, (rs.set i (some ⟨g, 0, none⟩, c, l.set k u))[j]? = some r → (j = i ∧ r = (some ⟨g, 0, none⟩, c, l.set k u)) ∨ (j ≠ i ∧ rs[j]? = some r) := by
    intro j r hj
    rw [List.getElem?_set] at hj
    by_cases e : i = j
    · subst e
      rw [if_pos rfl, if_pos hlt] at hj
      injection hj with hj
      exact .inl ⟨rfl, hj.symm⟩
    · rw [if_neg e] at hj
      exact .inr ⟨fun h => e h.symm, hj⟩
  refine ⟨⟨fun j r hj => ?_, fun j q r s hj hq hjq a b ha hb => ?_⟩, hC⟩
  · rcases hget j r hj with ⟨rfl, rfl⟩ | ⟨hne, hj⟩
    · have := hs.1
      show World.ownsRow _ _ _ _ _ _ _
      rw [List.length_set]
      exact this
    · refine own_chg (h.1 j r hj) hC fun b hb e => ?_
      obtain ⟨A, c', l'⟩ := r
      cases A with
      | none => cases hb
      | some a =>
        injection hb with hb
        subst hb
        exact h.2 j i _ _ hj hr hne a ⟨g, 0, none⟩ rfl rfl e
  · rcases hget j r hj with ⟨rfl, rfl⟩ | ⟨hne, hj1⟩ <;> rcases hget q s hq with ⟨rfl, rfl⟩ | ⟨hne', hq1⟩
    · exact absurd rfl hjq
    · injection ha with ha; subst ha
      exact h.2 j q _ s hr hq1 hjq _ b rfl hb
    · injection hb with hb; subst hb
      exact h.2 j q r _ hj1 hr hjq a _ ha rfl
    · exact h.2 j q r s hj1 hq1 hjq a b ha hb
end
theorem spot_none6 {w : World} {a : Addr} {v : Value} (h : w.cell? a = some v) : a.spot = none := by
  unfold World.cell? at h
  split at h
  · split at h
    · cases h
    · rename_i h'; simpa using h'
  · cases h
section
variable {P : Program} (w : World)
theorem run_append_cells {t ty e : TypeId} {bytes : Nat} (hs : SliceOf P t e 1 bytes) (base : Nat) (v : Value) (n : Nat) (xs : List Value) (hown : w.ownsRow base e 1 v n xs)
    (B : Nat) (A : Option Addr) (m c : Nat) (news : List Value) (hr : Reads w B 1 A m news) (h1 : ∀ u ∈ news, u.oneCell' = true)
    (h63 : n + m ≤ maxLen) (hbytes : (n + m) * bytes ≤ 140737488355328) (hbase : base ≤ w.heap.size) :
    ∃ v' w', (Builtin.append_ #[t, t] ty #[v, .slice A m c]).run P w = .ok v' w' ∧ w'.ownsRow base e 1 v' (n + m) (xs ++ news) ∧ w.grownBy w' v.ownBlock ∧
      (v'.ownBlock = v.ownBlock ∨ v'.ownBlock = some w.heap.size) ∧ w'.ownsRow base e 1 v n xs ∧
      (∀ p u, w.cell? p = some u → w'.cell? p = some u ∨ (some p.block = v.ownBlock ∧ p.spot = none ∧ n ≤ p.off ∧ p.off < n + m ∧ w'.cell? p = news[p.off - n]?)) := by
  obtain ⟨v', w', hrun, q1, q2, q3⟩ := run_append_reads (P := P) w (ty := ty) hs base v n xs hown B A m c news hr h1 h63 hbytes hbase
  refine ⟨v', w', hrun, q1, q2, q3, ?_⟩
  -- where nothing that was there turns
  have still : (∀ k, k < w.heap.size → w'.heap[k]? = w.heap[k]?) → w'.ownsRow base e 1 v n xs ∧ (∀ p u, w.cell? p = some u → w'.cell? p = some u ∨ (some p.block = v.ownBlock ∧ p.spot = none ∧ n ≤ p.off ∧ p.off < n + m ∧ w'.cell? p = news[p.off - n]?)) := fun hk => by
    have hb : Below w.heap.size w w' := ⟨q2.os, q2.tape, q2.output, q2.size, hk⟩
    exact ⟨own_below hown hb, fun p u hp => .inl (cell_below hb hp)⟩
  obtain ⟨ht, ⟨i, z, hi, hz, hsize, hby, hzs⟩, hsz⟩ := hs
  rcases hown.2 with ⟨rfl, rfl⟩ | ⟨g, cap, cur, rfl, hbg, hg, hnc, hcm, hcs, htake⟩
  · exact still fun k hk => q2.block k hk (by simp [Value.ownBlock])
  · rcases A with _ | ad
    · have hm : m = 0 := by
        rcases Nat.eq_zero_or_pos m with h0 | h0
        · exact h0
        · obtain ⟨b, o, h, _⟩ := hr.2 h0
          cases h
      subst hm
      have hrun' := run_append_of_nil w base t ty e i 1 ht hi (.slice (some ⟨g, 0, none⟩) n cap) n xs hown c
      rw [hrun'] at hrun
      injection hrun with hv hw
      subst hw
      exact still fun _ _ => rfl
    · have hcells : ∀ j u, news[j]? = some u → w.cell? (ad.add j) = some u := by
        intro j u hu
        rcases Nat.eq_zero_or_pos m with h0 | h0
        · subst h0
          have hn : news = [] := List.eq_nil_of_length_eq_zero (by simpa using hr.1)
          subst hn
          simp at hu
        · obtain ⟨b, o, h, _, hc⟩ := hr.2 h0
          injection h with h
          subst h
          have := hc j u hu
          unfold Addr.add
          split
          · rename_i h0; subst h0; exact this
          · exact this
      have hnl : news.length = m := by have := hr.1; omega
      have hcl : cur.size = cap := by rw [hcs, Nat.mul_one]
      by_cases hroom : n + m ≤ cap
      · have hrun' := run_append_room (P := P) w t ty e i ht hi g n cap cur hg ad m c news (by rw [hsize, Nat.mul_one]; exact hnl) hcells h1 hroom (by rw [hsize, Nat.mul_one, hnl]; omega)
        rw [hrun'] at hrun
        injection hrun with hv hw
        rw [hsize, Nat.mul_one, hnl] at hw
        obtain ⟨cs, hcsd⟩ : ∃ cs : List Value, cs = cur.toList.take n ++ news ++ cur.toList.drop (n + m) := ⟨_, rfl⟩
        rw [← hcsd] at hw
        have hclen : cs.length = cap := by
          rw [hcsd, List.length_append, List.length_append, List.length_take, List.length_drop, Array.length_toList, hcl, hnl]; omega
        have hgw : w'.heap[g]? = some (.cells cs.toArray e (0, 0)) := by rw [← hw]; exact setRow_heap w g cur _ e _ hg
        have hcell : ∀ j, w'.cell? ⟨g, j, none⟩ = cs[j]? := fun j => by
          rw [cell_of_row w' g j _ e _ hgw]; simp
        have hcell0 : ∀ j, w.cell? ⟨g, j, none⟩ = cur.toList[j]? := fun j => by
          rw [cell_of_row w g j _ e _ hg]; simp
        refine ⟨⟨hown.1, .inr ⟨g, cap, cs.toArray, rfl, hbg, hgw, hnc, hcm, by simp [hclen], ?_⟩⟩, fun p u hp => ?_⟩
        · have htl : (cur.toList.take n).length = n := by rw [List.length_take, Array.length_toList, hcl]; omega
          rw [Nat.mul_one] at htake ⊢
          show cs.take n = xs
          rw [hcsd, List.append_assoc, List.take_left' htl]
          exact htake
        · by_cases hpg : p.block = g
          · have hsp := spot_none6 hp
            obtain ⟨pb, po, ps⟩ := p
            simp at hpg hsp
            subst hpg; subst hsp
            rw [hcell0] at hp
            by_cases h2 : n ≤ po ∧ po < n + m
            · refine .inr ⟨rfl, rfl, h2.1, h2.2, ?_⟩
              rw [hcell, hcsd, List.getElem?_append_left (by rw [List.length_append, List.length_take, Array.length_toList, hcl, hnl]; omega), List.getElem?_append_right (by rw [List.length_take, Array.length_toList, hcl]; omega)]
              rw [List.length_take, Array.length_toList, hcl, Nat.min_eq_left (by omega)]
            · refine .inl ?_
              rw [hcell, hcsd]
              by_cases h3 : po < n
              · rw [List.append_assoc, List.getElem?_append_left (by rw [List.length_take, Array.length_toList, hcl]; omega), List.getElem?_take_of_lt h3]
                exact hp
              · rw [List.getElem?_append_right (by rw [List.length_append, List.length_take, Array.length_toList, hcl, hnl]; omega), List.getElem?_drop, List.length_append, List.length_take, Array.length_toList, hcl, hnl, Nat.min_eq_left (by omega)]
                rw [show n + m + (po - (n + m)) = po from by omega]
                exact hp
          · exact .inl (q2.cell hp (fun e => hpg (by injection e)))
      · have holds : ∀ j u, xs[j]? = some u → w.cell? ((⟨g, 0, none⟩ : Addr).add j) = some u := hown.cells (g := g) rfl
        have hrun' := run_append_grow (P := P) w t ty e i z ht hi hz ⟨g, 0, none⟩ n cap xs (by rw [hsize]; exact hown.1) holds ad m c news (by rw [hsize, Nat.mul_one]; exact hnl) hcells (by omega) (by unfold maxLen at h63; omega) (growslice_fits (by omega) (by rw [hby]; exact hbytes))
        rw [hrun'] at hrun
        injection hrun with hv hw
        refine still fun k hk => ?_
        rw [← hw]
        exact heap_alloc_old w.drew _ hk
end
def FamS (w : World) (row : Option Nat) (vs : List Value) (ks : List (List UInt8)) : Prop :=
  vs.length = ks.length ∧ ∀ (i : Nat) (k : List UInt8), ks[i]? = some k → ∃ (a : Option Addr) (c : Nat), vs[i]? = some (.slice a k.length c) ∧ Sl w a k.length c k ∧ (0 < k.length → ∀ x, a = some x → some x.block ≠ row)
section
variable {w x y : World} {row row' : Option Nat} {vs : List Value} {ks : List (List UInt8)} {S : Nat → Prop}
theorem FamS.nil : FamS w row [] [] := ⟨rfl, fun i k h => by simp at h⟩
theorem FamS.chg (h : FamS w row vs ks) (hc : Chg S w x) (hn : ∀ (i : Nat) (k : List UInt8) (a : Addr) (n c : Nat), ks[i]? = some k → 0 < k.length → vs[i]? = some (.slice (some a) n c) → ¬ S a.block) : FamS x row vs ks :=
  ⟨h.1, fun i k hk => by
    obtain ⟨a, c, q1, q2, q3⟩ := h.2 i k hk
    refine ⟨a, c, q1, q2.chg hc fun h0 b hb => ?_, q3⟩
    subst hb
    exact hn i k b _ c hk h0 q1⟩
theorem FamS.later (h : FamS w row vs ks) (hb : Below w.heap.size w x) : FamS x row vs ks :=
  ⟨h.1, fun i k hk => by obtain ⟨a, c, q1, q2, q3⟩ := h.2 i k hk; exact ⟨a, c, q1, q2.later hb, q3⟩⟩
theorem FamS.snoc (h : FamS w row vs ks) {a : Option Addr} {c n : Nat} {k : List UInt8} (hs : Sl w a n c k) (hne : 0 < k.length → ∀ x, a = some x → some x.block ≠ row) : FamS w row (vs ++ [.slice a n c]) (ks ++ [k]) := by
  obtain rfl := hs.len
  refine ⟨by simp [h.1], fun i q hq => ?_⟩
  rw [List.getElem?_append] at hq ⊢
  rw [h.1]
  split at hq
  · rename_i hi
    rw [if_pos hi]; exact h.2 i q hq
  · rename_i hi
    rw [if_neg hi]
    have h0 : i - ks.length = 0 := by
      have := (List.getElem?_eq_some_iff.1 hq).1
      simp at this; omega
    rw [h0] at hq ⊢
    injection hq with hq; subst hq
    exact ⟨a, c, rfl, hs, hne⟩
theorem FamS.kv (h : FamS w row vs ks) : KV w w.heap.size vs ks :=
  ⟨h.1, fun i k hk => by
    obtain ⟨a, c, q1, q2, _⟩ := h.2 i k hk
    exact ⟨a, c, q1, q2.cap, q2.lim, q2.nil, q2.rb⟩⟩
theorem FamS.at_ (h : FamS w row vs ks) {i : Nat} {k : List UInt8} (hk : ks[i]? = some k) : ∃ a c, vs[i]? = some (.slice a k.length c) ∧ Sl w a k.length c k := by
  obtain ⟨a, c, q1, q2, _⟩ := h.2 i k hk
  exact ⟨a, c, q1, q2⟩
end
def fillTo (l : List UInt8) (m : UInt8) (k : Nat) : List UInt8 := List.replicate k m ++ l.drop k
theorem fillTo_set {l : List UInt8} {k : Nat} (m : UInt8) (h : k < l.length) : (fillTo l m k).set k m = fillTo l m (k + 1) := by
  unfold fillTo
  rw [List.set_append_right _ _ (by simp), List.length_replicate, Nat.sub_self, List.drop_eq_getElem_cons h]
  rw [List.set_cons_zero, List.replicate_succ']
  simp
section
variable {P : Program} (w : World)
theorem wp_append_cells {o : Oper} {a : Act} {K : Act → World → Prop} {Q : Exit → Act → World → Prop} (s x : Operand) {t e : TypeId} {bytes : Nat}
    (ho : o.op = .call { callee := .builtin .append, args := #[s, x], argTypes := #[t, t] }) (hS : SliceOf P t e 1 bytes)
    (base : Nat) (v : Value) (n : Nat) (xs : List Value) (hs : a.eval s = v) (hown : w.ownsRow base e 1 v n xs)
    (B : Nat) (A : Option Addr) (m c : Nat) (news : List Value) (hx : a.eval x = .slice A m c) (hr : Reads w B 1 A m news) (h1 : ∀ u ∈ news, u.oneCell' = true)
    (h63 : n + m ≤ maxLen) (hbytes : (n + m) * bytes ≤ 140737488355328) (hbase : base ≤ w.heap.size)
    (h : ∀ v' w', w'.ownsRow base e 1 v' (n + m) (xs ++ news) → w.grownBy w' v.ownBlock → (v'.ownBlock = v.ownBlock ∨ v'.ownBlock = some w.heap.size) → w'.ownsRow base e 1 v n xs →
      (∀ p u, w.cell? p = some u → w'.cell? p = some u ∨ (some p.block = v.ownBlock ∧ p.spot = none ∧ n ≤ p.off ∧ p.off < n + m ∧ w'.cell? p = news[p.off - n]?)) → K (a.put o.dst v') w') : o.wp P a w K Q := by
  obtain ⟨v', w', hrun, h2, h3, h4, h5, h6⟩ := run_append_cells (P := P) w (ty := o.type) hS base v n xs hown B A m c news hr h1 h63 hbytes hbase
  unfold Oper.wp execOp
  simp only [ho, resolve, invoke, builtin, Sem.run_bind, Sem.run_pure, Result.andThen_ok, List.map_toArray, List.map_cons, List.map_nil, hs, hx, hrun]
  exact h v' w' h2 h3 h4 h5 h6
end
abbrev RowL := List (Option Addr × Nat × List UInt8)
def fillR (mk : Nat → UInt8) (rs : RowL) (k : Nat) : RowL := rs.mapIdx fun i r => if i < k then (r.1, r.2.1, List.replicate r.2.2.length (mk i)) else r
theorem fillR_len (mk : Nat → UInt8) (rs : RowL) (k : Nat) : (fillR mk rs k).length = rs.length := by simp [fillR]
section
variable {T : TypeId} {base : Nat} {w x : World} {rs : RowL} {mk : Nat → UInt8}
theorem RowsB.fill {j k g c : Nat} {l : List UInt8} (h : RowsB T base w ((fillR mk rs j).set j (some ⟨g, 0, none⟩, c, fillTo l (mk j) k))) (hr : rs[j]? = some (some ⟨g, 0, none⟩, c, l)) (hk : k < l.length) :
    RowsB T base (w.setCell ⟨g, k, none⟩ (u8v (mk j))) ((fillR mk rs j).set j (some ⟨g, 0, none⟩, c, fillTo l (mk j) (k + 1))) ∧ Chg (fun b => b = g) w (w.setCell ⟨g, k, none⟩ (u8v (mk j))) := by
  have hlt := (List.getElem?_eq_some_iff.1 hr).1
  have h2 := h.store (i := j) (k := k) (g := g) (c := c) (l := fillTo l (mk j) k) (by rw [List.getElem?_set, if_pos rfl, if_pos (by rw [fillR_len]; exact hlt)]) (mk j)
  rw [List.set_set, fillTo_set _ hk] at h2
  exact h2
theorem RowsB.cell {i g c k : Nat} {l : List UInt8} (h : RowsB T base w rs) (hr : rs[i]? = some (some ⟨g, 0, none⟩, c, l)) {u : UInt8} (hk : l[k]? = some u) : w.cell? ⟨g, k, none⟩ = some (.int .u8 (u.toNat : Int)) ∧ w.frozen? ⟨g, k, none⟩ = false := by
  have ho : OwnB T base w (some ⟨g, 0, none⟩) c l := h.1 i _ hr
  have hlt := (List.getElem?_eq_some_iff.1 hk).1
  exact ⟨(World.ownsRow.cellAt ho k (by omega)).trans (u8s_at hk), World.ownsRow.frozenAt ho k⟩
theorem RowsB.form {i c : Nat} {A : Option Addr} {l : List UInt8} (h : RowsB T base w rs) (hr : rs[i]? = some (A, c, l)) (hl : 0 < l.length) : ∃ g, A = some ⟨g, 0, none⟩ ∧ base ≤ g ∧ g < w.heap.size := by
  have ho := h.1 i _ hr
  cases A with
  | none =>
    obtain ⟨A', c', e, _, _, h3, _⟩ := own_slice ho
    injection e with e1 e2 e3
    subst e1; subst e3
    have := (ho.cap).2.2 rfl
    have h4 := (ho.cap).1
    simp only at this h4
    omega
  | some a => exact ⟨a.block, by rw [← ho.zero rfl], ho.lt rfl⟩
theorem RowsB.sl_at {i c n : Nat} {A : Option Addr} {l : List UInt8} (h : RowsB T base w rs) (hr : rs[i]? = some (A, c, l)) (hn : l.length = n) : Sl w A n c l := hn ▸ Sl.own (h.1 i _ hr)
theorem RowsB.sl {i c : Nat} {A : Option Addr} {l : List UInt8} (h : RowsB T base w rs) (hr : rs[i]? = some (A, c, l)) : Sl w A l.length c l := Sl.own (h.1 i _ hr)
theorem RowsB.grow {i c : Nat} {A : Option Addr} {l : List UInt8} (h : RowsB T base w rs) (hr : rs[i]? = some (A, c, l)) (hg : w.grownBy x (A.map (·.block))) (ho : OwnB T base x A c l) : RowsB T base x rs := by
  refine ⟨fun j r hj => ?_, h.2⟩
  by_cases e : j = i
  · subst e
    rw [hr] at hj; injection hj with hj; subst hj
    exact ho
  · refine own_chg (h.1 j r hj) (grown_chg hg) fun g hg' e' => ?_
    obtain ⟨B, d, l'⟩ := r
    cases B with
    | none => cases hg'
    | some b =>
      injection hg' with hg'
      cases A with
      | none => cases e'
      | some a =>
        injection e' with e'
        exact h.2 j i _ _ hj hr e b a rfl rfl (by rw [hg', ← e'])
theorem RowsB.pick (h : RowsB T base w rs) {ss : RowL} (f : Nat → Nat) (hf : ∀ i j, i < ss.length → j < ss.length → i ≠ j → f i ≠ f j) (hs : ∀ (i : Nat) s, ss[i]? = some s → rs[f i]? = some s) : RowsB T base w ss :=
  ⟨fun i s hi => h.1 _ s (hs i s hi), fun i j r s hr hs' hij a b ha hb => h.2 (f i) (f j) r s (hs i r hr) (hs j s hs') (hf i j (List.getElem?_eq_some_iff.1 hr).1 (List.getElem?_eq_some_iff.1 hs').1 hij) a b ha hb⟩
end
theorem lit_one8 (w : World) (u : Value) (t : TypeId) (H : Nat) (h : w.heap.size = H) : Reads (w.alloc (.cells #[u] t)) (H + 1) 1 (some ⟨H, 0, none⟩) 1 [u] := by
  subst h; exact Reads.new w #[u] t 1 1 rfl
def Aps (rs : RowL) (k : Nat) (vs : List Value) : Prop := ∀ (i j : Nat) (a b : Addr) (n c : Nat) r, vs[j]? = some (.slice (some a) n c) → 0 < n → k ≤ i → rs[i]? = some r → r.1 = some b → a.block ≠ b.block
theorem Aps.nil (rs : RowL) : Aps rs 0 [] := fun i j a b n c r h => by simp at h
section
variable {T e : TypeId} {base H3 : Nat} {wr w2 w3 : World} {rs : RowL} {v v3 : Value} {vs : List Value} {ks : List (List UInt8)} {k gk ca c' : Nat} {l l' : List UInt8} {A' : Option Addr}
end
def valR (r : Option Addr × Nat × List UInt8) : Value := .slice r.1 r.2.2.length r.2.1
def Off (v : Value) (zs : RowL) : Prop := ∀ g, v.ownBlock = some g → ∀ (i : Nat) r a, zs[i]? = some r → r.1 = some a → a.block ≠ g
structure ApSt (T e : TypeId) (B : Nat) (w : World) (lv wv : Value) (rs ws ps : RowL) : Prop where
  rows : RowsB T B w (rs ++ ws ++ ps)
  ol : w.ownsRow B e 1 lv rs.length (rs.map valR)
  ow : w.ownsRow B e 1 wv ws.length (ws.map valR)
  al : Off lv (rs ++ ws ++ ps)
  aw : Off wv (rs ++ ws ++ ps)
  ne : ∀ g, lv.ownBlock = some g → wv.ownBlock ≠ some g
  le : B ≤ w.heap.size
section
variable {T e : TypeId} {B : Nat} {w x : World} {lv wv v' : Value} {rs ws ps : RowL}
theorem ApSt.nil (h : B ≤ w.heap.size) : ApSt T e B w (.slice none 0 0) (.slice none 0 0) [] [] [] :=
  ⟨RowsB.nil, own_nil _ _ _ _, own_nil _ _ _ _, fun g hg => (by cases hg), fun g hg => (by cases hg), fun g hg => (by cases hg), h⟩
theorem ApSt.later (h : ApSt T e B w lv wv rs ws ps) (hb : Below w.heap.size w x) : ApSt T e B x lv wv rs ws ps :=
  ⟨h.rows.later hb, own_below h.ol hb, own_below h.ow hb, h.al, h.aw, h.ne, Nat.le_trans h.le hb.size⟩
theorem off_snoc {v : Value} {A : Option Addr} {c : Nat} {l : List UInt8} {zs : RowL} (h : Off v zs) (hv : ∀ g, v.ownBlock = some g → g < w.heap.size) (ho : OwnB T w.heap.size x A c l) : Off v (zs ++ [(A, c, l)]) := fun g hg i r a hr ha => by
  rw [List.getElem?_append] at hr
  split at hr
  · exact h g hg i r a hr ha
  · have h0 : i - zs.length = 0 := by
      have := (List.getElem?_eq_some_iff.1 hr).1
      simp at this; omega
    rw [h0] at hr
    injection hr with hr; subst hr
    have h1 := (ho.lt ha).1
    have h2 := hv g hg
    omega
theorem ApSt.fresh (h : ApSt T e B w lv wv rs ws ps) (hb : Below w.heap.size w x) {A : Option Addr} {c : Nat} {l : List UInt8} (ho : OwnB T w.heap.size x A c l) : ApSt T e B x lv wv rs ws (ps ++ [(A, c, l)]) := by
  have h' := h.later hb
  refine ⟨?_, h'.ol, h'.ow, ?_, ?_, h.ne, h'.le⟩
  · rw [← List.append_assoc]; exact h.rows.fresh hb ho h.le
  · rw [← List.append_assoc]; exact off_snoc h.al (own_row_lt h.ol) ho
  · rw [← List.append_assoc]; exact off_snoc h.aw (own_row_lt h.ow) ho
end
section
variable {T e : TypeId} {base H3 : Nat} {wr w2 w3 : World} {rs : RowL} {v v3 : Value} {vs : List Value} {ks : List (List UInt8)} {k ca c' : Nat} {l l' : List UInt8} {A A' : Option Addr}
end
structure LR (T e : TypeId) (B : Nat) (w : World) (A : Option Addr) (n c : Nat) (rs : RowL) (ks : List (List UInt8)) : Prop where
  ol : w.ownsRow B e 1 (.slice A n c) n (rs.map valR)
  rows : RowsB T B w rs
  off : Off (.slice A n c) rs
  cont : rs.map (·.2.2) = ks
  len : rs.length = n
theorem cont_one10 {zs : RowL} {L : List (List UInt8)} (h : zs.map (·.2.2) = L) {k : Nat} {F : List UInt8} (hk : L[k]? = some F) : ∃ a ca, zs[k]? = some (a, ca, F) := by
  rw [← h, List.getElem?_map] at hk
  cases hz : zs[k]? with
  | none => rw [hz] at hk; cases hk
  | some r =>
    rw [hz] at hk; injection hk with hk
    exact ⟨r.1, r.2.1, by rw [← hk]⟩
section
variable {T e : TypeId} {B n c : Nat} {w x : World} {lv wv : Value} {A : Option Addr} {rs : RowL} {ks : List (List UInt8)} {S : Nat → Prop}
theorem ApSt.lr (h : ApSt T e B w lv wv rs [] []) (hk : rs.map (·.2.2) = ks) (hn : rs.length = n) : ∃ A c, lv = .slice A n c ∧ LR T e B w A n c rs ks := by
  obtain ⟨h1, h2, _, h3, _⟩ := h
  rw [List.append_nil, List.append_nil] at h1 h3
  rw [hn] at h2
  obtain ⟨A, c, rfl, _⟩ := own_slice h2
  exact ⟨A, c, rfl, h2, h1, h3, hk, hn⟩
theorem LR.len_ks (h : LR T e B w A n c rs ks) : ks.length = n := by rw [← h.cont, List.length_map, h.len]
theorem LR.chg (h : LR T e B w A n c rs ks) (hc : Chg S w x) (h1 : ∀ a, A = some a → ¬ S a.block) (h2 : ∀ (i : Nat) r a, rs[i]? = some r → r.1 = some a → ¬ S a.block) : LR T e B x A n c rs ks :=
  ⟨own_chg h.ol hc fun g hg => by
    cases A with
    | none => cases hg
    | some a => injection hg with hg; subst hg; exact h1 a rfl, h.rows.chg hc fun i r hr a ha => h2 i r a hr ha, h.off, h.cont, h.len⟩
theorem LR.later (h : LR T e B w A n c rs ks) (hb : Below w.heap.size w x) : LR T e B x A n c rs ks := h.chg (S := fun _ => False) (Below.chg0 hb) (fun _ _ e => e) fun _ _ _ _ _ e => e
theorem LR.cell (h : LR T e B w A n c rs ks) {i : Nat} {a : Option Addr} {ca : Nat} {l : List UInt8} (hr : rs[i]? = some (a, ca, l)) : ∃ g, A = some ⟨g, 0, none⟩ ∧ B ≤ g ∧ g < w.heap.size ∧ w.cell? ⟨g, i, none⟩ = some (.slice a l.length ca) := by
  have hlt := (List.getElem?_eq_some_iff.1 hr).1
  have hn := h.len
  obtain ⟨g, cap, hv, h1, h2, _⟩ := own_form h.ol (by omega)
  injection hv with hv _ _
  subst hv
  exact ⟨g, rfl, h1, h2, (World.ownsRow.cellAt h.ol i (by omega)).trans (by rw [List.getElem?_map, hr]; rfl)⟩
theorem LR.at_ (h : LR T e B w A n c rs ks) {i : Nat} {l : List UInt8} (hk : ks[i]? = some l) : ∃ a ca, rs[i]? = some (a, ca, l) ∧ Sl w a l.length ca l := by
  obtain ⟨a, ca, hr⟩ := cont_one10 h.cont hk
  exact ⟨a, ca, hr, h.rows.sl hr⟩
theorem LR.kv (h : LR T e B w A n c rs ks) : KV w w.heap.size (rs.map valR) ks :=
  ⟨by rw [List.length_map, h.len, h.len_ks], fun i k hk => by
    obtain ⟨a, ca, hr, hs⟩ := h.at_ hk
    exact ⟨a, ca, by rw [List.getElem?_map, hr]; rfl, hs.cap, hs.lim, hs.nil, hs.rb⟩⟩
theorem LR.rbs (h : LR T e B w A n c rs ks) : RBs w w.heap.size A n ks := h.kv.rbs (Reads.own h.ol)
end
section
variable {T e : TypeId} {base H3 : Nat} {wr w2 w3 : World} {rs : RowL} {v v3 : Value} {vs : List Value} {ks : List (List UInt8)} {k m ca : Nat} {l : List UInt8} {A : Option Addr}
end
section
variable {P : Program} (w : World)
theorem step_append_cells {ops : Array Oper} {o : Oper} {a : Act} {K : Act → World → Prop} {Q : Exit → Act → World → Prop} {E : Prop} (hgd : o.guard = none) (s x : Operand) {t e : TypeId} {bytes : Nat}
    (ho : o.op = .call { callee := .builtin .append, args := #[s, x], argTypes := #[t, t] }) (hS : SliceOf P t e 1 bytes)
    (base : Nat) (v : Value) (n : Nat) (xs : List Value) (hs : a.eval s = v) (hown : w.ownsRow base e 1 v n xs)
    (B : Nat) (A : Option Addr) (m c : Nat) (news : List Value) (hx : a.eval x = .slice A m c) (hr : Reads w B 1 A m news) (h1 : ∀ u ∈ news, u.oneCell' = true)
    (h63 : n + m ≤ maxLen) (hbytes : (n + m) * bytes ≤ 140737488355328) (hbase : base ≤ w.heap.size)
    (h : ∀ v' w', w'.ownsRow base e 1 v' (n + m) (xs ++ news) → w.grownBy w' v.ownBlock → (v'.ownBlock = v.ownBlock ∨ v'.ownBlock = some w.heap.size) → w'.ownsRow base e 1 v n xs →
      (∀ p u, w.cell? p = some u → w'.cell? p = some u ∨ (some p.block = v.ownBlock ∧ p.spot = none ∧ n ≤ p.off ∧ p.off < n + m ∧ w'.cell? p = news[p.off - n]?)) → K (a.put o.dst v') w') :
    if Region.wanted o (yielded ops a.tmps) = true then Oper.wp P o a w K Q else E := by
  have hw : Region.wanted o (yielded ops a.tmps) = true := by simp [Region.wanted, hgd]
  rw [if_pos hw]
  exact wp_append_cells w s x ho hS base v n xs hs hown B A m c news hx hr h1 h63 hbytes hbase h
end
structure GC (T : TypeId) (base : Nat) (w : World) (p : Addr) (u : Value) (A : Option Addr) (c : Nat) (l : List UInt8) (x : World) : Prop where
  cell : x.cell? p = some u
  own : OwnB T base x A c l
  grown : w.grownBy x (A.map (·.block))
section
variable {T : TypeId} {base c n : Nat} {w x y : World} {p : Addr} {u : Value} {A : Option Addr} {l : List UInt8}
theorem GC.call (h : GC T base w p u A c l x) (hb : Below x.heap.size x y) : GC T base w p u A c l y := ⟨cell_below hb h.cell, h.own.later hb, grown_trans h.grown (below_grown hb _)⟩
theorem own_block (A : Option Addr) (n c : Nat) : (Value.slice A n c).ownBlock = A.map (·.block) := by cases A <;> rfl
theorem GC.app (h : GC T base w p u A c l x) (hne : A.map (·.block) ≠ some p.block) (hg : x.grownBy y (Value.slice A n c).ownBlock) (ho : OwnB T base y A c l) : GC T base w p u A c l y := by
  rw [own_block] at hg
  exact ⟨(hg.cell h.cell fun e => hne e.symm), ho, grown_trans h.grown hg⟩
end
def Blk (w : World) (A A' : Option Addr) : Prop := ∀ x, A' = some x → A.map (·.block) = some x.block ∨ w.heap.size ≤ x.block
structure BkC (w : World) (g : Nat) (lv wv : Value) : Prop where
  c0 : w.cell? ⟨g, 0, none⟩ = some lv
  c1 : w.cell? ⟨g, 1, none⟩ = some wv
  f0 : w.frozen? ⟨g, 0, none⟩ = false
  f1 : w.frozen? ⟨g, 1, none⟩ = false
def pickR (zs : RowL) (is : List Nat) : RowL := is.map fun i => zs[i]?.getD (none, 0, [])
structure BkH (T e : TypeId) (B g : Nat) (w : World) (lv wv : Value) (zs : RowL) (is js : List Nat) : Prop where
  box : BkC w g lv wv
  gB : g < B
  le : B ≤ w.heap.size
  rows : RowsB T B w zs
  ol : w.ownsRow B e 1 lv is.length ((pickR zs is).map valR)
  ow : w.ownsRow B e 1 wv js.length ((pickR zs js).map valR)
  al : Off lv zs
  aw : Off wv zs
  ne : ∀ g, lv.ownBlock = some g → wv.ownBlock ≠ some g
  nd : (is ++ js).Nodup
  lt : ∀ i, i ∈ is ++ js → i < zs.length
def SameC (zs : RowL) (is js : List Nat) : Prop := is.length = js.length ∧ ∀ (k i j : Nat), is[k]? = some i → js[k]? = some j → ∀ a c l, zs[i]? = some (a, c, l) → ∃ a' c', zs[j]? = some (a', c', l)
section
variable {T e : TypeId} {B g : Nat} {w x : World} {lv wv v' : Value} {zs rs : RowL} {is js : List Nat} {S : Nat → Prop}
theorem BkC.chg (h : BkC w g lv wv) (hc : Chg S w x) (hn : ¬ S g) : BkC x g lv wv := by
  have hlt : g < w.heap.size := World.block_lt_of_cell? w ⟨g, 0, none⟩ h.c0
  have hb := hc.block g hlt hn
  exact ⟨hc.cell h.c0 hn, hc.cell h.c1 hn, (World.frozen?_of_block (w := w) hb).trans h.f0, (World.frozen?_of_block (w := w) hb).trans h.f1⟩
theorem pickR_app {zs rs : RowL} {is : List Nat} (h : ∀ i, i ∈ is → i < zs.length) : pickR (zs ++ rs) is = pickR zs is := by
  unfold pickR
  apply List.map_congr_left
  intro i hi
  rw [List.getElem?_append_left (h i hi)]
theorem RowsB.app (h : RowsB T B w zs) (hb : Below w.heap.size w x) (hr : RowsB T w.heap.size x rs) (hle : B ≤ w.heap.size) : RowsB T B x (zs ++ rs) := by
  have hz := h.later hb
  refine ⟨fun i r hi => ?_, fun i j r s hi hj hij a b ha hb' => ?_⟩
  · rw [List.getElem?_append] at hi
    split at hi
    · exact hz.1 i r hi
    · exact (hr.1 _ r hi).rebase hle
  · rw [List.getElem?_append] at hi hj
    split at hi <;> split at hj
    · exact hz.2 i j r s hi hj hij a b ha hb'
    · have h1 := ((h.1 i r hi).lt ha).2
      have h2 := ((hr.1 _ s hj).lt hb').1
      omega
    · have h1 := ((hr.1 _ r hi).lt ha).1
      have h2 := ((h.1 j s hj).lt hb').2
      omega
    · exact hr.2 _ _ r s hi hj (by omega) a b ha hb'
theorem off_app {v : Value} (h : Off v zs) (hv : ∀ g, v.ownBlock = some g → g < w.heap.size) (hr : RowsB T w.heap.size x rs) : Off v (zs ++ rs) := fun g hg i r a hi ha => by
  rw [List.getElem?_append] at hi
  split at hi
  · exact h g hg i r a hi ha
  · have h1 := ((hr.1 _ r hi).lt ha).1
    have h2 := hv g hg
    omega
theorem BkH.add (h : BkH T e B g w lv wv zs is js) (hb : Below w.heap.size w x) (hr : RowsB T w.heap.size x rs) : BkH T e B g x lv wv (zs ++ rs) is js := by
  have hlt : g < w.heap.size := Nat.lt_of_lt_of_le h.gB h.le
  refine ⟨h.box.chg (S := fun _ => False) (Below.chg0 hb) (fun e => e), h.gB, Nat.le_trans h.le hb.size, h.rows.app hb hr h.le, ?_, ?_, off_app h.al (own_row_lt h.ol) hr, off_app h.aw (own_row_lt h.ow) hr, h.ne, h.nd, fun i hi => ?_⟩
  · rw [pickR_app fun i hi => h.lt i (List.mem_append_left _ hi)]; exact own_below h.ol hb
  · rw [pickR_app fun i hi => h.lt i (List.mem_append_right _ hi)]; exact own_below h.ow hb
  · have := h.lt i hi
    rw [List.length_append]; omega
theorem BkH.later (h : BkH T e B g w lv wv zs is js) (hb : Below w.heap.size w x) : BkH T e B g x lv wv zs is js := by
  have h1 := h.add hb (rs := []) RowsB.nil
  rw [List.append_nil] at h1
  exact h1
theorem rows_set (h : RowsB T B w zs) (hg : g < B) (k : Nat) (u : Value) : RowsB T B (w.setCell ⟨g, k, none⟩ u) zs :=
  h.chg (Chg.setCell w ⟨g, k, none⟩ u) fun i r hr a ha e' => by have := ((h.1 i r hr).lt ha).1; simp only at e'; omega
theorem SameC.keep {i : Nat} {a a' : Option Addr} {c c' : Nat} {l : List UInt8} (h : SameC zs is js) (hl : ∀ i, i ∈ is ++ js → i < zs.length) (hi : zs[i]? = some (a, c, l)) : SameC (zs ++ [(a', c', l)]) (is ++ [i]) (js ++ [zs.length]) := by
  refine ⟨by rw [List.length_append, List.length_append, h.1]; rfl, fun k p q hp hq b d m hz => ?_⟩
  rw [List.getElem?_append] at hp hq
  split at hp
  · rename_i hk
    rw [if_pos (by rw [← h.1]; exact hk)] at hq
    have hpm := hl p (List.mem_append_left _ (List.mem_of_getElem? hp))
    have hqm := hl q (List.mem_append_right _ (List.mem_of_getElem? hq))
    rw [List.getElem?_append_left hpm] at hz
    obtain ⟨b', d', hz'⟩ := h.2 k p q hp hq b d m hz
    exact ⟨b', d', by rw [List.getElem?_append_left hqm]; exact hz'⟩
  · rename_i hk
    rw [if_neg (by rw [← h.1]; exact hk)] at hq
    have h0 : k - is.length = 0 := by
      have := (List.getElem?_eq_some_iff.1 hp).1
      simp at this; omega
    rw [h0] at hp
    rw [← h.1, h0] at hq
    injection hp with hp
    injection hq with hq
    subst hp; subst hq
    rw [List.getElem?_append_left (List.getElem?_eq_some_iff.1 hi).1, hi] at hz
    injection hz with hz
    injection hz with _ hz
    injection hz with _ hz
    subst hz
    exact ⟨a', c', by rw [List.getElem?_append_right (Nat.le_refl _), Nat.sub_self]; rfl⟩
theorem SameC.app (h : SameC zs is js) (hl : ∀ i, i ∈ is ++ js → i < zs.length) (rs : RowL) : SameC (zs ++ rs) is js :=
  ⟨h.1, fun k p q hp hq b d m hz => by
    have hpm := hl p (List.mem_append_left _ (List.mem_of_getElem? hp))
    have hqm := hl q (List.mem_append_right _ (List.mem_of_getElem? hq))
    rw [List.getElem?_append_left hpm] at hz
    obtain ⟨b', d', hz'⟩ := h.2 k p q hp hq b d m hz
    exact ⟨b', d', by rw [List.getElem?_append_left hqm]; exact hz'⟩⟩
end
section
variable {w x y : World} {cs : Array Value}
theorem own_low {base base' : Nat} {e : TypeId} {s n : Nat} {v : Value} {xs : List Value} (h : w.ownsRow base e s v n xs) (hb : base' ≤ base) : w.ownsRow base' e s v n xs := by
  refine ⟨h.1, ?_⟩
  rcases h.2 with h' | ⟨g, cap, cur, h1, h2, h3⟩
  · exact .inl h'
  · exact .inr ⟨g, cap, cur, h1, Nat.le_trans hb h2, h3⟩
structure Bx (w : World) (cs : Array Value) (x : World) : Prop where
  up : Below w.heap.size w x
  at_ : ∀ i v, cs[i]? = some v → x.cell? ⟨w.heap.size, i, none⟩ = some v
  size : w.heap.size + 1 ≤ x.heap.size
theorem Bx.new (w : World) (cs : Array Value) (T : TypeId) : Bx w cs (w.alloc (.cells cs T)) :=
  ⟨(Below.refl _ w).alloc (Nat.le_refl _) _, fun i v h => by simpa using h, by show _ ≤ (w.heap.push _).size; simp⟩
theorem Bx.later (h : Bx w cs x) (k : Below x.heap.size x y) : Bx w cs y :=
  ⟨h.up.trans (k.mono h.up.size), fun i v e => (k.cell (p := ⟨w.heap.size, i, none⟩) h.size).trans (h.at_ i v e), Nat.le_trans h.size k.size⟩
theorem Bx.alloc (h : Bx w cs x) (o : Obj) : Bx w cs (x.alloc o) := h.later ((Below.refl _ x).alloc (Nat.le_refl _) o)
theorem Bx.grow {e : TypeId} {s n : Nat} {v : Value} {xs : List Value} (h : Bx w cs x) (hown : x.ownsRow (w.heap.size + 1) e s v n xs) (hg : x.grownBy y v.ownBlock) : Bx w cs y :=
  ⟨below_app h.up hown hg h.up.size (by omega), fun i u hu => hg.cell (h.at_ i u hu) (fun e => Nat.lt_irrefl _ (Nat.lt_of_lt_of_le (Nat.lt_succ_self _) (hown.lt _ e.symm).1)), Nat.le_trans h.size hg.size⟩
theorem Bx.cell (h : Bx w cs x) {i : Nat} {v : Value} (e : cs[i]? = some v) : x.cell? ⟨w.heap.size, i, none⟩ = some v := h.at_ i v e
theorem keepB3 {p q r : Addr} {a b c : Value} (h : x.cell? p = some a ∧ x.cell? q = some b ∧ x.cell? r = some c ∧ Bx w cs x) (k : Below x.heap.size x y) : y.cell? p = some a ∧ y.cell? q = some b ∧ y.cell? r = some c ∧ Bx w cs y :=
  ⟨cell_below k h.1, cell_below k h.2.1, cell_below k h.2.2.1, h.2.2.2.later k⟩
theorem keepA3 {p q r : Addr} {a b c : Value} {o : Obj} (h : x.cell? p = some a ∧ x.cell? q = some b ∧ x.cell? r = some c ∧ Bx w cs x) : (x.alloc o).cell? p = some a ∧ (x.alloc o).cell? q = some b ∧ (x.alloc o).cell? r = some c ∧ Bx w cs (x.alloc o) :=
  keepB3 h ((Below.refl _ x).alloc (Nat.le_refl _) o)
theorem keepG3 {i j k : Nat} {a b c : Value} {e : TypeId} {s n : Nat} {v : Value} {xs : List Value} (h : x.cell? ⟨w.heap.size, i, none⟩ = some a ∧ x.cell? ⟨w.heap.size, j, none⟩ = some b ∧ x.cell? ⟨w.heap.size, k, none⟩ = some c ∧ Bx w cs x) (hown : x.ownsRow (w.heap.size + 1) e s v n xs) (hg : x.grownBy y v.ownBlock) :
    y.cell? ⟨w.heap.size, i, none⟩ = some a ∧ y.cell? ⟨w.heap.size, j, none⟩ = some b ∧ y.cell? ⟨w.heap.size, k, none⟩ = some c ∧ Bx w cs y := by
  have hne : some w.heap.size ≠ v.ownBlock := fun e => Nat.lt_irrefl _ (Nat.lt_of_lt_of_le (Nat.lt_succ_self _) (hown.lt _ e.symm).1)
  exact ⟨hg.cell h.1 hne, hg.cell h.2.1 hne, hg.cell h.2.2.1 hne, h.2.2.2.grow hown hg⟩
end
set_option maxRecDepth 100000 in
set_option maxHeartbeats 1000000 in
theorem uint_any (v : Nat) (w : World) (hv : v < 18446744073709551616) : Calls Tryz.prog 113 #[.int .u64 v] w (BytesPost 5 (uintB v) w) := by
  have HL := Lib.hid (uintB_ten hv)
  have HV := Lib.hid hv
  clear hv
  go_enter Tryz.func113, Tryz.ntmps113
  go_wp2
  go_loopw [0, 3] (fun x b wr => ∃ (V : Nat) (pre : List UInt8), Hid (V < 18446744073709551616) ∧ x = .int .u64 V ∧ Hid (pre ++ uintB V = uintB v) ∧ Hid (pre.length ≤ 10) ∧ wr.ownsRow w.heap.size 5 1 b pre.length (u8s pre) ∧ Hid (Below w.heap.size w wr)) (fun x _ _ => (intOf x).toNat)
  case atStart => exact ⟨v, [], HV, rfl, Lib.hid rfl, Lib.hid (by simp), own_nil _ _ _ _, Lib.hid (Below.refl _ _)⟩
  case round =>
    obtain ⟨V, pre, HV2, rfl, HP, HPL, hown, HB⟩ := hrel
    by_cases h : 128 ≤ V
    · have hd : decide ((128 : Int) ≤ (V : Int)) = true := decide_eq_true (by omega)
      have ho := or128_walk V
      have H8 := Lib.hid (u8v_or V)
      have HN : Hid ((pre ++ [UInt8.ofNat (V % 128 + 128)]) ++ uintB (V / 128) = uintB v) := Lib.hid (by rw [← HP.out, uintB_ge h]; simp)
      have HNL : Hid ((pre ++ [UInt8.ofNat (V % 128 + 128)]).length ≤ 10) := Lib.hid (by
        have := congrArg List.length HN.out
        rw [List.length_append] at this
        have := HL.out
        omega)
      obtain ⟨bv, hb⟩ : ∃ bv, bv = u3 := ⟨_, rfl⟩
      rw [← hb] at hown ⊢
      clear hb
      go_wp2_with (at_builtin; go_must (refine wpList_append_reads _ rfl (.tmp 6) (.tmp 10) rfl Tryz.u8s' w.heap.size bv pre.length (u8s pre) rfl (hown.alloc _) (wr.heap.size + 1) (some ⟨wr.heap.size, 0, none⟩) 1 1 (u8s [UInt8.ofNat (V % 128 + 128)]) rfl (by exact reads_lit wr _ [UInt8.ofNat (V % 128 + 128)] _ _ (by show _ = [u8v _]; rw [H8.out])) (u8s_one _) (by have := HPL.out; unfold maxLen; omega) (by have := HPL.out; omega) (by have := HB.out.size; simp; omega) ?_); intro v1 w1 hown1 hg1 hat1)
      have HV3 : Hid (V / 128 < 18446744073709551616) := Lib.hid (by have := HV2.out; omega)
      have hB : w.heap.size ≤ (wr.alloc (.cells #[.int .u8 ((V : Int) % 128 + 128)] 5)).heap.size := by have := HB.out.size; simp; omega
      have HB1 := Lib.hid (below_app (HB.out.alloc HB.out.size _) (hown.alloc _) hg1 hB (Nat.le_refl _))
      rw [← u8s_append] at hown1
      have hO1 : w1.ownsRow w.heap.size 5 1 v1 (pre ++ [UInt8.ofNat (V % 128 + 128)]).length (u8s (pre ++ [UInt8.ofNat (V % 128 + 128)])) := by
        rw [List.length_append]; exact hown1
      clear hown hown1 hg1 hat1 hB
      go_roundw
      case rel => exact ⟨V / 128, _, HV3, by rw [Int.natCast_ediv]; rfl, HN, HNL, hO1, HB1⟩
      case measure => simp [intOf]; omega
    · have hd : decide ((128 : Int) ≤ (V : Int)) = false := decide_eq_false (by omega)
      have hm : (V : Int) % 256 = (V : Int) := by omega
      have H8 : Hid (u8v (UInt8.ofNat V) = .int .u8 (V : Int)) := Lib.hid (by
        unfold u8v
        rw [UInt8.toNat_ofNat', Nat.mod_eq_of_lt (by omega)])
      have HN : Hid (pre ++ [UInt8.ofNat V] = uintB v) := Lib.hid (by rw [← HP.out, uintB_lt (by omega)])
      obtain ⟨bv, hb⟩ : ∃ bv, bv = u3 := ⟨_, rfl⟩
      rw [← hb] at hown ⊢
      clear hb
      go_wp2_with (at_builtin; go_must (refine wpList_append_reads _ rfl (.tmp 14) (.tmp 17) rfl Tryz.u8s' w.heap.size bv pre.length (u8s pre) rfl (hown.alloc _) (wr.heap.size + 1) (some ⟨wr.heap.size, 0, none⟩) 1 1 (u8s [UInt8.ofNat V]) rfl (by exact reads_lit wr _ [UInt8.ofNat V] _ _ (by show _ = [u8v _]; rw [H8.out])) (u8s_one _) (by have := HPL.out; unfold maxLen; omega) (by have := HPL.out; omega) (by have := HB.out.size; simp; omega) ?_); intro v1 w1 hown1 hg1 hat1)
      go_ret
      have hB : w.heap.size ≤ (wr.alloc (.cells #[.int .u8 (V : Int)] 5)).heap.size := by have := HB.out.size; simp; omega
      have HB1 := below_app (HB.out.alloc HB.out.size _) (hown.alloc _) hg1 hB (Nat.le_refl _)
      rw [← u8s_append, HN.out] at hown1
      exact bytes_post hown1 HB1
theorem uint_of (v : Nat) (a : Int) (ha : a = (v : Int)) (w : World) (hv : v < 18446744073709551616) : Calls Tryz.prog 113 #[.int .u64 a] w (BytesPost 5 (uintB v) w) := by
  subst ha
  exact uint_any v w hv
set_option maxRecDepth 100000 in
set_option maxHeartbeats 400000 in
theorem bytes_any (l : List UInt8) (A : Option Addr) (n c : Nat) (w : World) (hn : n ≤ 140737488355318) (hr : RB w w.heap.size A n l) :
    Calls Tryz.prog 112 #[.slice A n c] w (BytesPost 5 (uintB l.length ++ l) w) := by
  have HR : Hid (∀ w', Below w.heap.size w w' → RB w' w'.heap.size A n l) := Lib.hid fun w' h => hr.later h
  have HL := Lib.hid hr.len
  have HU := Lib.hid (uintB_ten (v := n) (by omega))
  clear hr
  go_enter Tryz.func112, Tryz.ntmps112
  go_wp2_with (first
    | (go_at_call 113; go_must (refine (uint_of n _ (by omega) _ (by omega)).mono ?_); rintro e w1 ⟨A1, c1, rfl, hO1, hb1⟩; have HB1 := Lib.hid hb1; have HO1 := Lib.hid hO1; clear hb1 hO1)
    | (at_builtin; go_must (refine wpList_append_reads _ rfl (.tmp 6) (.tmp 7) rfl Tryz.u8s' w.heap.size (.slice A1 (uintB n).length c1) (uintB n).length (u8s (uintB n)) rfl HO1.out _ A n c (u8s l) rfl (HR.out _ HB1.out) (u8s_one _) (by have := HU.out; unfold maxLen; omega) (by have := HU.out; omega) HB1.out.size ?_); intro v2 w2 hown2 hg2 hat2))
  go_ret
  rw [← u8s_append] at hown2
  rw [HL.out]
  exact bytes_post hown2 (below_app HB1.out HO1.out hg2 HB1.out.size (Nat.le_refl _))
theorem cmp_lt_at {a b : List UInt8} {k : Nat} {x y : UInt8} (h : a.take k = b.take k) (ha : a[k]? = some x) (hb : b[k]? = some y) (hxy : x.toNat < y.toNat) : cmpB a b = -1 := by
  obtain ⟨h1, rfl⟩ := List.getElem?_eq_some_iff.1 ha
  obtain ⟨h2, rfl⟩ := List.getElem?_eq_some_iff.1 hb
  rw [← cmpB_drop a b k h, List.drop_eq_getElem_cons h1, List.drop_eq_getElem_cons h2, cmpB_lt hxy]
theorem cmp_gt_at {a b : List UInt8} {k : Nat} {x y : UInt8} (h : a.take k = b.take k) (ha : a[k]? = some x) (hb : b[k]? = some y) (hxy : y.toNat < x.toNat) : cmpB a b = 1 := by
  obtain ⟨h1, rfl⟩ := List.getElem?_eq_some_iff.1 ha
  obtain ⟨h2, rfl⟩ := List.getElem?_eq_some_iff.1 hb
  rw [← cmpB_drop a b k h, List.drop_eq_getElem_cons h1, List.drop_eq_getElem_cons h2, cmpB_gt hxy]
theorem cmp_eq_at {a b : List UInt8} {k : Nat} {x : UInt8} (h : a.take k = b.take k) (ha : a[k]? = some x) (hb : b[k]? = some x) : a.take (k + 1) = b.take (k + 1) := by
  rw [take_snoc ha, take_snoc hb, h]
theorem cmp_end {a b : List UInt8} {k n m : Nat} (h : a.take k = b.take k) (ha : a.length = n) (hb : b.length = m) (hk : k = n) (hm : k ≤ m) : cmpB a b = if n < m then -1 else 0 := by
  subst hk
  rw [← cmpB_drop a b k h, List.drop_eq_nil_of_le (by omega)]
  split
  · rw [List.drop_eq_getElem_cons (by omega)]; rfl
  · rw [List.drop_eq_nil_of_le (by omega)]; rfl
theorem cmp_end2 {a b : List UInt8} {k n m : Nat} (h : a.take k = b.take k) (ha : a.length = n) (hb : b.length = m) (hk : k = m) (hm : k < n) : cmpB a b = 1 := by
  subst hk
  rw [← cmpB_drop a b k h, show b.drop k = [] from List.drop_eq_nil_of_le (by omega), List.drop_eq_getElem_cons (by omega)]; rfl
theorem ordB_take {l : List UInt8} {k : Nat} {y : UInt8} (h : l[k]? = some y) : (l.take (k + 1)).flatMap ordC = (l.take k).flatMap ordC ++ ordC y := by
  rw [take_snoc h, List.flatMap_append]; simp
set_option maxRecDepth 100000 in
set_option maxHeartbeats 1000000 in
theorem ordered_any (l : List UInt8) (A : Option Addr) (n c : Nat) (w : World) (hn : n ≤ 70368744177000) (hr : RB w w.heap.size A n l) :
    Calls Tryz.prog 166 #[.slice A n c] w (BytesPost 5 (ordB l) w) := by
  have HL := Lib.hid hr.len
  have HR : Hid (∀ w', Below w.heap.size w w' → RB w' w'.heap.size A n l) := Lib.hid fun w' h => hr.later h
  have HF : Hid (∀ k, ((l.take k).flatMap ordC).length ≤ 140737488354000) := Lib.hid fun k => by
    have := ordF_len (l.take k)
    have h2 : (l.take k).length ≤ l.length := by rw [List.length_take]; omega
    have h3 := HL.out
    omega
  clear hr
  go_enter Tryz.func166, Tryz.ntmps166
  go_wp2_with (at_make; go_must (refine wpList_make_own _ rfl (.const (.int .i64 0)) (.tmp 8) 34 rfl w.heap.size 5 Tryz.t5 (.int .u8 0) 1 Tryz.underlying34 (by kernel_rfl) rfl rfl .i64 .i64 _ (n + 2) rfl rfl (by omega) (by show 1 * _ ≤ _; omega) (by unfold maxLen; omega) (Nat.le_refl _) ?_); intro w1 hown1 hg1)
  have HB1 := Lib.hid (below_grown_none hg1)
  have HO1 := Lib.hid hown1
  clear hown1 hg1
  go_loopw [3, 12] (fun v i wr => ∃ (k : Nat) (P : List UInt8), k ≤ n ∧ i = .int .i64 k ∧ Hid (P = (l.take k).flatMap ordC) ∧ wr.ownsRow w.heap.size 5 1 v P.length (u8s P) ∧ Hid (Below w.heap.size w wr)) (fun _ i _ => n - (intOf i).toNat)
  case atStart => exact ⟨0, [], Nat.zero_le _, rfl, Lib.hid rfl, HO1.out, HB1⟩
  case round =>
    clear HO1 HB1
    obtain ⟨k, P, hk, rfl, HP, hown, HB⟩ := hrel
    obtain ⟨v, hv⟩ : ∃ v, v = u3 := ⟨_, rfl⟩
    rw [← hv] at hown ⊢
    clear hv
    have HPL : Hid (P.length ≤ 140737488354000) := Lib.hid (by rw [HP.out]; exact HF.out k)
    by_cases hlt : k < n
    case neg =>
      have HE : Hid (P ++ [0, 1] = ordB l) := Lib.hid (by rw [HP.out, take_all (by have := HL.out; omega)]; rfl)
      go_wp2_with (at_builtin; go_must (refine wpList_append_reads _ rfl (.tmp 26) (.tmp 27) rfl Tryz.u8s' w.heap.size v P.length (u8s P) rfl (hown.alloc _) (wr.heap.size + 1) (some ⟨wr.heap.size, 0, none⟩) 2 2 (u8s [0, 1]) rfl (by exact reads_lit wr _ [0, 1] _ _ rfl) (u8s_one _) (by have := HPL.out; unfold maxLen; omega) (by have := HPL.out; omega) (by have := HB.out.size; simp; omega) ?_); intro v1 w1 hown1 hg1 hat1)
      go_ret
      have hB : w.heap.size ≤ (wr.alloc (.cells #[.int .u8 0, .int .u8 1] 5)).heap.size := by have := HB.out.size; simp; omega
      have HB1 := below_app (HB.out.alloc HB.out.size _) (hown.alloc _) hg1 hB (Nat.le_refl _)
      rw [← u8s_append, HE.out] at hown1
      exact bytes_post hown1 HB1
    obtain ⟨b, o, y, rfl, _, hy, hcy⟩ := (HR.out _ HB.out).at_ hlt
    have HY := Lib.hid (ordB_take hy)
    clear hy
    by_cases h0 : y.toNat = 0
    · have HN : Hid ((P ++ [y]) ++ [255] = (l.take (k + 1)).flatMap ordC) := Lib.hid (by
        rw [HY.out, HP.out]
        unfold ordC
        rw [if_pos h0, UInt8.toNat_inj.1 (show y.toNat = (0 : UInt8).toNat from h0)]; simp)
      have hd : ((y.toNat : Int) == 0) = true := by rw [beq_iff_eq]; omega
      have tok1 : True := trivial
      clear HY h0
      go_wp2_with (first
        | (at_builtin; have _t := tok1; go_must (refine wpList_append_reads _ rfl (.tmp 16) (.tmp 18) rfl Tryz.u8s' w.heap.size v P.length (u8s P) rfl (hown.alloc _) (wr.heap.size + 1) (some ⟨wr.heap.size, 0, none⟩) 1 1 (u8s [y]) rfl (by exact reads_lit wr _ [y] _ _ rfl) (u8s_one _) (by have := HPL.out; unfold maxLen; omega) (by have := HPL.out; omega) (by have := HB.out.size; simp; omega) ?_); intro v1 w1 hown1 hg1 hat1; clear tok1; have HB1 := Lib.hid (below_app (HB.out.alloc HB.out.size (.cells #[.int .u8 (y.toNat : Int)] 5)) (hown.alloc _) hg1 (by have := HB.out.size; simp; omega) (Nat.le_refl _)); rw [← u8s_append] at hown1; have HO1 := Lib.hid hown1; clear hown1 hg1 hat1)
        | (at_builtin; go_must (refine wpList_append_reads _ rfl (.tmp 22) (.tmp 23) rfl Tryz.u8s' w.heap.size v1 (P.length + 1) (u8s (P ++ [y])) rfl (HO1.out.alloc _) (w1.heap.size + 1) (some ⟨w1.heap.size, 0, none⟩) 1 1 (u8s [255]) rfl (by exact reads_lit w1 _ [255] _ _ rfl) (u8s_one _) (by have := HPL.out; unfold maxLen; omega) (by have := HPL.out; omega) (by have := HB1.out.size; simp; omega) ?_); intro v2 w2 hown2 hg2 hat2; have HB2 := Lib.hid (below_app (HB1.out.alloc HB1.out.size (.cells #[.int .u8 255] 5)) (HO1.out.alloc _) hg2 (by have := HB1.out.size; simp; omega) (Nat.le_refl _)); rw [← u8s_append] at hown2; have HO2 := Lib.hid hown2; clear hown2 hg2 hat2))
      have hO2 : w2.ownsRow w.heap.size 5 1 v2 ((P ++ [y]) ++ [255]).length (u8s ((P ++ [y]) ++ [255])) := by
        have := HO2.out
        have e : ((P ++ [y]) ++ [(255 : UInt8)]).length = P.length + 1 + 1 := by simp
        rw [e]; exact this
      clear HO2 HO1
      go_roundw
      case rel => exact ⟨k + 1, (P ++ [y]) ++ [255], by omega, by go_num, HN, hO2, HB2⟩
      case measure => simp [intOf]; omega
    · have HN : Hid (P ++ [y] = (l.take (k + 1)).flatMap ordC) := Lib.hid (by
        rw [HY.out, HP.out]
        unfold ordC
        rw [if_neg h0])
      have hd : ((y.toNat : Int) == 0) = false := by rw [beq_eq_false_iff_ne]; omega
      clear HY h0
      go_wp2_with (at_builtin; go_must (refine wpList_append_reads _ rfl (.tmp 16) (.tmp 18) rfl Tryz.u8s' w.heap.size v P.length (u8s P) rfl (hown.alloc _) (wr.heap.size + 1) (some ⟨wr.heap.size, 0, none⟩) 1 1 (u8s [y]) rfl (by exact reads_lit wr _ [y] _ _ rfl) (u8s_one _) (by have := HPL.out; unfold maxLen; omega) (by have := HPL.out; omega) (by have := HB.out.size; simp; omega) ?_); intro v1 w1 hown1 hg1 hat1; have HB1 := Lib.hid (below_app (HB.out.alloc HB.out.size (.cells #[.int .u8 (y.toNat : Int)] 5)) (hown.alloc _) hg1 (by have := HB.out.size; simp; omega) (Nat.le_refl _)); rw [← u8s_append] at hown1; have HO1 := Lib.hid hown1; clear hown1 hg1 hat1)
      have hO1 : w1.ownsRow w.heap.size 5 1 v1 (P ++ [y]).length (u8s (P ++ [y])) := by
        have := HO1.out
        rw [show (P ++ [y]).length = P.length + 1 from by simp]; exact this
      clear HO1
      go_roundw
      case rel => exact ⟨k + 1, P ++ [y], by omega, by go_num, HN, hO1, HB1⟩
      case measure => simp [intOf]; omega
theorem made_zeros (L : Nat) : (madeCells (Value.int IntKind.u8 0).cells L).toList = u8s (List.replicate L 0) := by
  have e : (Value.int IntKind.u8 0).cells = #[.int .u8 0] := rfl
  rw [e]
  apply List.ext_getElem?
  intro i
  simp only [madeCells, u8s, u8v, List.map_replicate, List.getElem?_replicate, Array.toList_map, Array.toList_range, List.getElem?_map, List.size_toArray, List.length_cons, List.length_nil, Nat.zero_add, Nat.mod_one]
  by_cases h : i < L
  · rw [if_pos h, List.getElem?_range h]; rfl
  · rw [if_neg h, List.getElem?_eq_none (by simpa using h)]; rfl
theorem rTo_zero (v : Nat) : rTo v 0 = List.replicate 8 0 := by simp [rTo, List.range_succ]
theorem u8s_set' (l : List UInt8) (k : Nat) (x : UInt8) : (u8s l).set k (u8v x) = u8s (l.set k x) := by
  unfold u8s
  rw [List.map_set]
set_option maxRecDepth 100000 in
set_option maxHeartbeats 1000000 in
theorem rising_any (v : Nat) (w : World) (hv : v < 9223372036854775808) : Calls Tryz.prog 117 #[.int .i64 v] w (BytesPost2 5 (risB v) 0 w) := by
  have hd : decide ((v : Int) < 0) = false := decide_eq_false (by omega)
  go_enter Tryz.func117, Tryz.ntmps117
  go_wp2_with (at_make; go_must (refine wpList_make_full _ rfl (.const (.int .i64 8)) (.const (.int .i64 8)) 34 rfl w.heap.size 5 Tryz.t5 (.int .u8 0) 1 Tryz.underlying34 (by kernel_rfl) rfl rfl .i64 .i64 _ _ 8 rfl rfl rfl rfl (by decide) (by decide) (Nat.le_refl _) ?_); intro w1 hown1 hg1)
  have HB1 := Lib.hid (below_grown_none hg1)
  have HO1 : Hid (OwnB 5 w.heap.size w1 (some ⟨w.heap.size, 0, none⟩) 8 (rTo v 0)) := Lib.hid (by
    unfold OwnB
    rw [rTo_len, rTo_zero, ← made_zeros 8]
    exact hown1)
  clear hown1 hg1
  obtain ⟨g, hg⟩ : ∃ g, g = w.heap.size := ⟨_, rfl⟩
  have HG := Lib.hid hg
  rw [← hg] at HO1 ⊢
  clear hg
  go_loopw [0, 5] (fun x i wr => ∃ (j : Nat) (X : Nat) (I : Int), j ≤ 8 ∧ Hid (X = v / 256 ^ j) ∧ X < 9223372036854775808 ∧ x = .int .i64 X ∧ I = 7 - (j : Int) ∧ i = .int .i64 I ∧ Hid (OwnB 5 g wr (some ⟨g, 0, none⟩) 8 (rTo v j)) ∧ Hid (Below w.heap.size w wr)) (fun _ i _ => (intOf i + 1).toNat)
  case atStart => exact ⟨0, v, 7, by omega, Lib.hid (by simp), hv, rfl, rfl, rfl, HO1, HB1⟩
  case round =>
    clear HO1 HB1
    obtain ⟨j, X, I, hj, HX, hXl, rfl, hI, rfl, HO, HB⟩ := hrel
    by_cases hlt : j < 8
    case neg =>
      obtain rfl : j = 8 := by omega
      have hd2 : decide ((0 : Int) ≤ I) = false := decide_eq_false (by omega)
      clear hI
      have HP : Hid (BytesPost2 5 (risB v) 0 w (.returned (.tuple #[.slice (some ⟨g, 0, none⟩) 8 8, .int .i64 0])) wr) := Lib.hid (by
        have h := HO.out
        unfold OwnB at h
        rw [rTo_len] at h
        rw [HG.out] at h ⊢
        exact bytes_post2 (n := 8) h HB.out)
      go_wp2
      go_ret2
      exact HP.out
    obtain ⟨D, rfl⟩ : ∃ D : Nat, I = (D : Int) := ⟨I.toNat, by omega⟩
    have hD : D = 7 - j := by omega
    have hDl : D < 8 := by omega
    have HD := Lib.hid hD
    clear hI hD
    obtain ⟨x, hx⟩ : ∃ x, (rTo v j)[D]? = some x := ⟨_, List.getElem?_eq_getElem (by rw [rTo_len]; exact hDl)⟩
    have hcx : wr.cell? ⟨g, D, none⟩ = some (.int .u8 (x.toNat : Int)) := (World.ownsRow.cellAt HO.out D (by rw [rTo_len]; omega)).trans (u8s_at hx)
    have hfr : wr.frozen? ⟨g, D, none⟩ = false := World.ownsRow.frozenAt HO.out _
    have hst := World.ownsRow.stored HO.out D (u8v (UInt8.ofNat X))
    rw [u8s_set', HX.out, HD.out, ← rTo_succ v j hlt, ← HX.out, ← HD.out, u8v_mod] at hst
    have HST := Lib.hid hst
    clear hst hx
    go_wp2
    have HB2 := Lib.hid (HB.out.grown HST.out.2 HB.out.size (fun b e => by injection e with e; rw [← e, HG.out]; exact Nat.le_refl _))
    have HO2 := Lib.hid (show OwnB 5 g _ (some ⟨g, 0, none⟩) 8 (rTo v (j + 1)) from by
      have := HST.out.1
      unfold OwnB
      rw [rTo_len] at this ⊢
      exact this)
    have HX2 : Hid (X / 256 = v / 256 ^ (j + 1)) := Lib.hid (by rw [HX.out, Nat.pow_succ, Nat.div_div_eq_div_mul])
    go_roundw
    case rel => exact ⟨j + 1, X / 256, (D : Int) - 1, by omega, HX2, by omega, rfl, by have := HD.out; omega, rfl, HO2, HB2⟩
    case measure => simp [intOf]
set_option maxRecDepth 100000 in
theorem falling_any (v : Nat) (w : World) (hv : v < 9223372036854775808) : Calls Tryz.prog 168 #[.int .i64 v] w (BytesPost2 5 (risB (9223372036854775807 - v)) 0 w) := by
  have hd : decide ((v : Int) < 0) = false := decide_eq_false (by omega)
  have HC : Hid (∀ z : Int, z = 9223372036854775807 - (v : Int) → ∀ w, Calls Tryz.prog 117 #[.int .i64 z] w (BytesPost2 5 (risB (9223372036854775807 - v)) 0 w)) := Lib.hid fun z hz w => by
    rw [show z = ((9223372036854775807 - v : Nat) : Int) from by omega]
    exact rising_any _ w (by omega)
  have k1 : IntKind.i64.wrap (9223372036854775807 - (v : Int)) = 9223372036854775807 - (v : Int) := i64_sum (by omega) (by omega)
  go_enter Tryz.func168, Tryz.ntmps168
  go_wp2_with (go_at_call 117; go_must (refine (HC.out _ (by omega) _).mono ?_); rintro e w1 ⟨A1, c1, rfl, hO1, hb1⟩)
  go_ret2
  exact ⟨A1, c1, rfl, hO1, hb1⟩
set_option maxRecDepth 100000 in
theorem flag_any (b : Bool) (w : World) : Calls Tryz.prog 167 #[.bool b] w fun e w' => e = .returned (.int .u8 ((flg b).toNat : Int)) ∧ w = w' := by
  cases b <;> (go_enter Tryz.func167, Tryz.ntmps167; go_wp2; go_ret; exact ⟨rfl, rfl⟩)
theorem idx_two0 (T S : Int) (w : World) : (Instr.index 117 (.agg #[.int .i64 T, .int .i64 S]) (.int .i64 0)).run Tryz.prog w = .ok (.int .i64 T) w := run_index_arr w _ 3 2 _ 0 _ (by kernel_rfl) (by kernel_rfl) (by kernel_rfl) (by decide) rfl
theorem idx_two1 (T S : Int) (w : World) : (Instr.index 117 (.agg #[.int .i64 T, .int .i64 S]) (.int .i64 1)).run Tryz.prog w = .ok (.int .i64 S) w := run_index_arr w _ 3 2 _ 1 _ (by kernel_rfl) (by kernel_rfl) (by kernel_rfl) (by decide) rfl
theorem falling_at (v : Nat) (w : World) (hv : v < 9223372036854775808) : Calls Tryz.prog 168 #[.int .i64 v] w fun e w' => ∃ A c, e = .returned (.tuple #[.slice A 8 c, .int .i64 0]) ∧ Sl w' A 8 c (numK v) ∧ Below w.heap.size w w' := by
  refine (falling_any v w hv).mono fun e w' h => ?_
  obtain ⟨A, c, h1, h2, h3, h4⟩ := BytesPost2.at_ h (risB_len _) rfl
  exact ⟨A, c, h1, by unfold numK; rw [Int.toNat_natCast]; exact h2, h4⟩
set_option maxRecDepth 100000 in
set_option maxHeartbeats 2000000 in
theorem key_five (row qual : List UInt8) (A : Option Addr) (n c F : Nat) (B : Option Addr) (m d T S : Nat) (D : Option Addr) (v q : Nat) (w : World) (hrow : Sl w A n c row) (hqual : Sl w B m d qual) (hz : checkN n F m T S 5 v = 0) :
    Calls Tryz.prog 111 #[.agg #[.slice A n c, .int .i64 (F : Int), .slice B m d, .int .i64 (T : Int), .int .i64 (S : Int), .int .i64 5, .slice D v q]] w (BytesPost2 5 (keyE ⟨row, F, qual, T, S, 5, []⟩) 0 w) := by
  obtain ⟨z1, z2, z3, z4, z5, z6, -⟩ := checkN_ok hz
  have HN : Hid (n ≤ 256 ∧ m ≤ 256 ∧ T ≤ 1099511627776 ∧ S ≤ 17592186044431) := Lib.hid (by omega)
  have HR : Hid (∀ x, Below w.heap.size w x → Sl x A n c row) := Lib.hid fun x h => hrow.later h
  have HQ : Hid (∀ x, Below w.heap.size w x → Sl x B m d qual) := Lib.hid fun x h => hqual.later h
  have HLEN : Hid ((ordB row).length ≤ 514 ∧ (ordB qual).length ≤ 514) := Lib.hid (by
    have h1 := ordB_len row; have h2 := ordB_len qual; have h3 := hrow.len; have h4 := hqual.len; omega)
  have HZ := Lib.hid hz
  have HX0 := Lib.hid (Bx.new w #[.slice A n c, .int .i64 (F : Int), .slice B m d, .int .i64 (T : Int), .int .i64 (S : Int), .int .i64 5, .slice D v q] 60)
  clear hz z1 z2 z3 z4 z5 z6 hrow hqual
  go_enter Tryz.func111, Tryz.ntmps111
  go_wp2_with (go_at_call 161; go_must (refine (check_any _ _ _ _ _ _ _ _ _ _ _ _ _ _).mono ?_); rintro e x1 ⟨rfl, hb1⟩; rw [HZ.out]; have HX1 := Lib.hid (HX0.out.later hb1); clear hb1 HX0)
  have c0 := HX1.out.cell (i := 0) (v := .slice A n c) rfl; have c1 := HX1.out.cell (i := 1) (v := .int .i64 (F : Int)) rfl; have c5 := HX1.out.cell (i := 5) (v := .int .i64 5) rfl
  go_region_held3 (fun x => x.cell? ⟨w.heap.size, 0, none⟩ = some (.slice A n c) ∧ x.cell? ⟨w.heap.size, 1, none⟩ = some (.int .i64 (F : Int)) ∧ x.cell? ⟨w.heap.size, 5, none⟩ = some (.int .i64 5) ∧ Bx w #[.slice A n c, .int .i64 (F : Int), .slice B m d, .int .i64 (T : Int), .int .i64 (S : Int), .int .i64 5, .slice D v q] x) (first | assumption | exact ⟨c0, c1, c5, HX1.out.later (Below.refl _ _).drew⟩ | exact keepB3 ‹_ ∧ _ ∧ _ ∧ Bx _ _ _› hb2 | exact keepA3 ‹_ ∧ _ ∧ _ ∧ Bx _ _ _› | exact keepG3 ‹_ ∧ _ ∧ _ ∧ Bx _ _ _› (own_below hO2 ((Below.refl _ _).alloc (Nat.le_refl _) _)) hg3) (first
    | (go_at_call 166; refine (ordered_any row A n c _ (by have := HN.out; omega) (HR.out _ (‹_ ∧ _ ∧ _ ∧ Bx _ _ _›).2.2.2.up).rb).mono ?_; rintro e x2 ⟨A2, c2, rfl, hO2, hb2⟩; have hO2 := own_low hO2 (‹_ ∧ _ ∧ _ ∧ Bx _ _ _›).2.2.2.size)
    | (go_at_call 167; refine (flag_any _ _).mono ?_; rintro e w0 ⟨rfl, rfl⟩)
    | (refine step_append_cells _ (by rfl) _ _ (by rfl) Tryz.u8s' (w.heap.size + 1) (.slice A2 (ordB row).length c2) (ordB row).length (u8s (ordB row)) (by rfl) (own_below hO2 ((Below.refl _ _).alloc (Nat.le_refl _) _)) (x2.heap.size + 1) (some ⟨x2.heap.size, 0, none⟩) 2 2 (u8s [UInt8.ofNat F, flg true]) (by rfl) (by exact reads_lit x2 _ [UInt8.ofNat F, flg true] _ _ (by show [Value.int .u8 (IntKind.u8.wrap (F : Int)), _] = [u8v _, u8v _]; rw [u8v_mod, IntKind.wrap_u8]; rfl)) (u8s_one _) (by have := HLEN.out; unfold maxLen; omega) (by have := HLEN.out; omega) (‹_ ∧ _ ∧ _ ∧ Bx _ _ _›).2.2.2.size ?_; intro v3 x3 hown3 hg3 hat3 hold3 hcell3))
  all_goals
    obtain ⟨-, -, -, hx3⟩ := ‹_ ∧ _ ∧ _ ∧ Bx _ _ x3›
    have HX3 := Lib.hid hx3
    rw [← u8s_append] at hown3
    have HO3 := Lib.hid hown3
    clear hx3 hown3 hg3 hat3 hold3 hcell3 hO2 hb2 c0 c1 c5
    have q3_3 := HX3.out.cell (i := 3) (v := .int .i64 (T : Int)) rfl
    have q3_4 := HX3.out.cell (i := 4) (v := .int .i64 (S : Int)) rfl
    go_wp2_with fail
    clear HX1
    generalize IntKind.u8.wrap (F : Int) = wf
    obtain ⟨P, hP⟩ : ∃ P, P = ordB row ++ [UInt8.ofNat F, flg true] := ⟨_, rfl⟩
    have HP := Lib.hid hP
    have HOP : Hid (x3.ownsRow (w.heap.size + 1) 5 1 v3 P.length (u8s P)) := Lib.hid (by
      have := HO3.out
      rw [← hP] at this
      have e : P.length = (ordB row).length + 2 := by rw [hP]; simp only [List.length_append, List.length_cons, List.length_nil]
      rw [e]; exact this)
    have HPL : Hid (P.length ≤ 1031) := Lib.hid (by have := HLEN.out; rw [hP]; simp only [List.length_append, List.length_cons, List.length_nil]; omega)
    clear hP
    go_loopw [5, 47] (fun b i wr => ∃ (k : Nat) (Q : List UInt8), k ≤ 2 ∧ i = .int .i64 k ∧ Hid (Q = P ++ (if k = 0 then [] else if k = 1 then numK T else numK T ++ numK S)) ∧ Hid (wr.ownsRow (w.heap.size + 1) 5 1 b Q.length (u8s Q)) ∧ Hid (Q.length ≤ P.length + 16) ∧ Hid (Bx w #[.slice A n c, .int .i64 (F : Int), .slice B m d, .int .i64 (T : Int), .int .i64 (S : Int), .int .i64 5, .slice D v q] wr)) (fun _ i _ => 2 - (intOf i).toNat)
    case atStart => exact ⟨0, P, by decide, rfl, Lib.hid (by simp), HOP, Lib.hid (by omega), HX3⟩
    case round =>
      clear HOP HX3
      obtain ⟨k, Q, hk, hi, HQQ, HO, HL, HX⟩ := hrel
      obtain ⟨u, hu⟩ : ∃ u, u = u5 := ⟨_, rfl⟩
      rw [← hu] at HO ⊢
      clear hu
      have hk' : k = 0 ∨ k = 1 ∨ k = 2 := by omega
      clear hk
      rcases hk' with rfl | rfl | rfl
      case inr.inr =>
        replace hi : _ = Value.int .i64 2 := hi
        subst hi
        have p5 := HX.out.cell (i := 5) (v := .int .i64 5) rfl
        go_wp2_with (at_builtin; go_must (refine wpList_append_reads _ rfl (.tmp 62) (.tmp 66) rfl Tryz.u8s' (w.heap.size + 1) u Q.length (u8s Q) rfl (HO.out.alloc _) (wr.heap.size + 1) (some ⟨wr.heap.size, 0, none⟩) 1 1 (u8s [UInt8.ofNat 5]) rfl (by exact reads_lit wr _ [UInt8.ofNat 5] _ _ (by rfl)) (u8s_one _) (by have := HL.out; have := HPL.out; unfold maxLen; omega) (by have := HL.out; have := HPL.out; omega) (by have := HX.out.size; simp; omega) ?_); intro v1 x1 hown hg hat; have HX1 := Lib.hid ((HX.out.alloc _).grow (HO.out.alloc _) hg); rw [← u8s_append] at hown; have HO1 := Lib.hid hown; clear hown hg hat)
        go_ret2
        have hf : Q ++ [UInt8.ofNat 5] = keyE ⟨row, F, qual, T, S, 5, []⟩ := by
          rw [HQQ.out, HP.out]
          unfold keyE tailK qualK
          simp
        rw [← hf]
        exact bytes_post2 (own_low HO1.out (Nat.le_succ _)) HX1.out.up
      case inl =>
        replace hi : _ = Value.int .i64 0 := hi
        subst hi
        have ix := fun w => idx_two0 (T : Int) (S : Int) w
        go_wp2_with (first
          | (go_at_call 168; go_must (refine (falling_at T _ (by have := HN.out; omega)).mono ?_); rintro e x1 ⟨A1, c1, rfl, hs1, hb1⟩; have HX1 := Lib.hid (HX.out.later hb1); have HO1 := Lib.hid (own_below HO.out hb1); have HR1 := Lib.hid hs1.rb; clear hs1 hb1)
          | (at_builtin; go_must (refine wpList_append_reads _ rfl (.tmp 58) (.tmp 59) rfl Tryz.u8s' (w.heap.size + 1) u Q.length (u8s Q) rfl HO1.out x1.heap.size A1 8 c1 (u8s (numK T)) rfl HR1.out (u8s_one _) (by have := HL.out; have := HPL.out; unfold maxLen; omega) (by have := HL.out; have := HPL.out; omega) (by have := HX1.out.size; omega) ?_); intro v2 x2 hown hg hat; have HX2 := Lib.hid (HX1.out.grow HO1.out hg); rw [← u8s_append] at hown; have HO2 := Lib.hid hown; clear hown hg hat))
        have HO3 : Hid (x2.ownsRow (w.heap.size + 1) 5 1 v2 (Q ++ numK T).length (u8s (Q ++ numK T))) := Lib.hid (by
          have := HO2.out
          rw [show (Q ++ numK T).length = Q.length + 8 from by simp [numK_len]]; exact this)
        clear HO2
        go_roundw
        case measure => simp [intOf]
        case rel => exact ⟨1, Q ++ numK T, by decide, rfl, Lib.hid (by rw [HQQ.out]; simp), HO3, Lib.hid (by have := HQQ.out; rw [this]; simp [numK_len]), HX2⟩
      case inr.inl =>
        replace hi : _ = Value.int .i64 1 := hi
        subst hi
        have ix := fun w => idx_two1 (T : Int) (S : Int) w
        go_wp2_with (first
          | (go_at_call 168; go_must (refine (falling_at S _ (by have := HN.out; omega)).mono ?_); rintro e x1 ⟨A1, c1, rfl, hs1, hb1⟩; have HX1 := Lib.hid (HX.out.later hb1); have HO1 := Lib.hid (own_below HO.out hb1); have HR1 := Lib.hid hs1.rb; clear hs1 hb1)
          | (at_builtin; go_must (refine wpList_append_reads _ rfl (.tmp 58) (.tmp 59) rfl Tryz.u8s' (w.heap.size + 1) u Q.length (u8s Q) rfl HO1.out x1.heap.size A1 8 c1 (u8s (numK S)) rfl HR1.out (u8s_one _) (by have := HL.out; have := HPL.out; unfold maxLen; omega) (by have := HL.out; have := HPL.out; omega) (by have := HX1.out.size; omega) ?_); intro v2 x2 hown hg hat; have HX2 := Lib.hid (HX1.out.grow HO1.out hg); rw [← u8s_append] at hown; have HO2 := Lib.hid hown; clear hown hg hat))
        have HO3 : Hid (x2.ownsRow (w.heap.size + 1) 5 1 v2 (Q ++ numK S).length (u8s (Q ++ numK S))) := Lib.hid (by
          have := HO2.out
          rw [show (Q ++ numK S).length = Q.length + 8 from by simp [numK_len]]; exact this)
        clear HO2
        go_roundw
        case measure => simp [intOf]
        case rel => exact ⟨2, Q ++ numK S, by decide, rfl, Lib.hid (by rw [HQQ.out]; simp), HO3, Lib.hid (by have := HQQ.out; rw [this]; simp [numK_len]), HX2⟩
set_option maxRecDepth 100000 in
set_option maxHeartbeats 2000000 in
theorem key_more (row qual : List UInt8) (A : Option Addr) (n c F : Nat) (B : Option Addr) (m d T S K : Nat) (D : Option Addr) (v q : Nat) (w : World) (hrow : Sl w A n c row) (hqual : Sl w B m d qual) (hz : checkN n F m T S (K : Int) v = 0) (hk : K ≠ 5) :
    Calls Tryz.prog 111 #[.agg #[.slice A n c, .int .i64 (F : Int), .slice B m d, .int .i64 (T : Int), .int .i64 (S : Int), .int .i64 (K : Int), .slice D v q]] w (BytesPost2 5 (keyE ⟨row, F, qual, T, S, (K : Int), []⟩) 0 w) := by
  obtain ⟨z1, z2, z3, z4, z5, z6, -⟩ := checkN_ok hz
  have HN : Hid (n ≤ 256 ∧ m ≤ 256 ∧ T ≤ 1099511627776 ∧ S ≤ 17592186044431) := Lib.hid (by omega)
  have HR : Hid (∀ x, Below w.heap.size w x → Sl x A n c row) := Lib.hid fun x h => hrow.later h
  have HQ : Hid (∀ x, Below w.heap.size w x → Sl x B m d qual) := Lib.hid fun x h => hqual.later h
  have HLEN : Hid ((ordB row).length ≤ 514 ∧ (ordB qual).length ≤ 514) := Lib.hid (by
    have h1 := ordB_len row; have h2 := ordB_len qual; have h3 := hrow.len; have h4 := hqual.len; omega)
  have HZ := Lib.hid hz
  have HX0 := Lib.hid (Bx.new w #[.slice A n c, .int .i64 (F : Int), .slice B m d, .int .i64 (T : Int), .int .i64 (S : Int), .int .i64 (K : Int), .slice D v q] 60)
  have hk5 : ((K : Int) == 5) = false := by rw [beq_eq_false_iff_ne]; omega
  have hk5' : ((K : Int) != 5) = true := by rw [bne_iff_ne]; omega
  have HK := Lib.hid hk
  obtain ⟨b4, hb4⟩ : ∃ b4, b4 = ((K : Int) == 4) := ⟨_, rfl⟩
  have HB4 := Lib.hid hb4
  have hk4 : ((K : Int) == 4) = b4 := hb4.symm
  clear hk hb4
  clear hz z1 z2 z3 z4 z5 z6 hrow hqual
  have tok3 : True := trivial
  have tok4 : True := trivial
  go_enter Tryz.func111, Tryz.ntmps111
  go_wp2_with (go_at_call 161; go_must (refine (check_any _ _ _ _ _ _ _ _ _ _ _ _ _ _).mono ?_); rintro e x1 ⟨rfl, hb1⟩; rw [HZ.out]; have HX1 := Lib.hid (HX0.out.later hb1); clear hb1 HX0)
  have c0 := HX1.out.cell (i := 0) (v := .slice A n c) rfl; have c1 := HX1.out.cell (i := 1) (v := .int .i64 (F : Int)) rfl; have c5 := HX1.out.cell (i := 5) (v := .int .i64 (K : Int)) rfl
  go_region_held3 (fun x => x.cell? ⟨w.heap.size, 0, none⟩ = some (.slice A n c) ∧ x.cell? ⟨w.heap.size, 1, none⟩ = some (.int .i64 (F : Int)) ∧ x.cell? ⟨w.heap.size, 5, none⟩ = some (.int .i64 (K : Int)) ∧ Bx w #[.slice A n c, .int .i64 (F : Int), .slice B m d, .int .i64 (T : Int), .int .i64 (S : Int), .int .i64 (K : Int), .slice D v q] x) (first | assumption | exact ⟨c0, c1, c5, HX1.out.later (Below.refl _ _).drew⟩ | exact keepB3 ‹_ ∧ _ ∧ _ ∧ Bx _ _ _› hb2 | exact keepA3 ‹_ ∧ _ ∧ _ ∧ Bx _ _ _› | exact keepG3 ‹_ ∧ _ ∧ _ ∧ Bx _ _ _› (own_below hO2 ((Below.refl _ _).alloc (Nat.le_refl _) _)) hg3) (first
    | (go_at_call 166; refine (ordered_any row A n c _ (by have := HN.out; omega) (HR.out _ (‹_ ∧ _ ∧ _ ∧ Bx _ _ _›).2.2.2.up).rb).mono ?_; rintro e x2 ⟨A2, c2, rfl, hO2, hb2⟩; have hO2 := own_low hO2 (‹_ ∧ _ ∧ _ ∧ Bx _ _ _›).2.2.2.size)
    | (go_at_call 167; refine (flag_any _ _).mono ?_; rintro e w0 ⟨rfl, rfl⟩)
    | (refine step_append_cells _ (by rfl) _ _ (by rfl) Tryz.u8s' (w.heap.size + 1) (.slice A2 (ordB row).length c2) (ordB row).length (u8s (ordB row)) (by rfl) (own_below hO2 ((Below.refl _ _).alloc (Nat.le_refl _) _)) (x2.heap.size + 1) (some ⟨x2.heap.size, 0, none⟩) 2 2 (u8s [UInt8.ofNat F, flg false]) (by rfl) (by exact reads_lit x2 _ [UInt8.ofNat F, flg false] _ _ (by show [Value.int .u8 (IntKind.u8.wrap (F : Int)), _] = [u8v _, u8v _]; rw [u8v_mod, IntKind.wrap_u8]; rfl)) (u8s_one _) (by have := HLEN.out; unfold maxLen; omega) (by have := HLEN.out; omega) (‹_ ∧ _ ∧ _ ∧ Bx _ _ _›).2.2.2.size ?_; intro v3 x3 hown3 hg3 hat3 hold3 hcell3))
  all_goals
    obtain ⟨-, -, -, hx3⟩ := ‹_ ∧ _ ∧ _ ∧ Bx _ _ x3›
    have HX3 := Lib.hid hx3
    rw [← u8s_append] at hown3
    have HO3 := Lib.hid hown3
    clear hx3 hown3 hg3 hat3 hold3 hcell3 hO2 hb2 c0 c1 c5
    have q3_5 := HX3.out.cell (i := 5) (v := .int .i64 (K : Int)) rfl
    have q3_2 := HX3.out.cell (i := 2) (v := .slice B m d) rfl
    go_wp2_with (first
      | (go_at_call 167; go_must (refine (flag_any _ _).mono ?_); rintro e w0 ⟨rfl, rfl⟩)
      | (go_at_call 166; have _t := tok3; go_must (refine (ordered_any qual B m d _ (by have := HN.out; omega) (HQ.out _ HX3.out.up).rb).mono ?_); rintro e x4 ⟨A4, c4, rfl, hO4, hb4⟩; have HX4 := Lib.hid (HX3.out.later hb4); have HO4 := Lib.hid (own_below HO3.out hb4); have HR4 := Lib.hid (RB.own hO4); clear hO4 hb4 tok3)
      | (at_builtin; have _t := tok4; go_must (refine wpList_append_reads _ rfl (.tmp 30) (.tmp 33) rfl Tryz.u8s' (w.heap.size + 1) v3 ((ordB row).length + 2) (u8s (ordB row ++ [UInt8.ofNat F, flg false])) rfl HO4.out x4.heap.size A4 (ordB qual).length c4 (u8s (ordB qual)) rfl HR4.out (u8s_one _) (by have := HLEN.out; unfold maxLen; omega) (by have := HLEN.out; omega) (by have := HX4.out.size; omega) ?_); intro v5 x5 hown hg hat; clear tok4; have HX5 := Lib.hid (HX4.out.grow HO4.out hg); rw [← u8s_append] at hown; have HO5 := Lib.hid hown; clear hown hg hat; have q5_5 := HX5.out.cell (i := 5) (v := .int .i64 (K : Int)) rfl)
      | (at_builtin; go_must (refine wpList_append_reads _ rfl (.tmp 35) (.tmp 40) rfl Tryz.u8s' (w.heap.size + 1) v5 ((ordB row).length + 2 + (ordB qual).length) (u8s ((ordB row ++ [UInt8.ofNat F, flg false]) ++ ordB qual)) rfl (HO5.out.alloc _) (x5.heap.size + 1) (some ⟨x5.heap.size, 0, none⟩) 1 1 (u8s ([flg b4])) rfl (by exact reads_lit x5 _ ([flg b4]) _ _ (by rfl)) (u8s_one _) (by have := HLEN.out; unfold maxLen; omega) (by have := HLEN.out; omega) (by have := HX5.out.size; simp; omega) ?_); intro v6 x6 hown hg hat; have HX6 := Lib.hid ((HX5.out.alloc _).grow (HO5.out.alloc _) hg); rw [← u8s_append] at hown; have HO6 := Lib.hid hown; clear hown hg hat; have q6_5 := HX6.out.cell (i := 5) (v := .int .i64 (K : Int)) rfl; have q6_3 := HX6.out.cell (i := 3) (v := .int .i64 (T : Int)) rfl; have q6_4 := HX6.out.cell (i := 4) (v := .int .i64 (S : Int)) rfl))
    clear HX1
    generalize IntKind.u8.wrap (F : Int) = wf
    obtain ⟨P, hP⟩ : ∃ P, P = ((ordB row ++ [UInt8.ofNat F, flg false]) ++ ordB qual) ++ [flg b4] := ⟨_, rfl⟩
    have HP := Lib.hid hP
    have HOP : Hid (x6.ownsRow (w.heap.size + 1) 5 1 v6 P.length (u8s P)) := Lib.hid (by
      have := HO6.out
      rw [← hP] at this
      have e : P.length = (ordB row).length + 2 + (ordB qual).length + 1 := by rw [hP]; simp only [List.length_append, List.length_cons, List.length_nil]
      rw [e]; exact this)
    have HPL : Hid (P.length ≤ 1031) := Lib.hid (by have := HLEN.out; rw [hP]; simp only [List.length_append, List.length_cons, List.length_nil]; omega)
    clear hP
    go_loopw [5, 47] (fun b i wr => ∃ (k : Nat) (Q : List UInt8), k ≤ 2 ∧ i = .int .i64 k ∧ Hid (Q = P ++ (if k = 0 then [] else if k = 1 then numK T else numK T ++ numK S)) ∧ Hid (wr.ownsRow (w.heap.size + 1) 5 1 b Q.length (u8s Q)) ∧ Hid (Q.length ≤ P.length + 16) ∧ Hid (Bx w #[.slice A n c, .int .i64 (F : Int), .slice B m d, .int .i64 (T : Int), .int .i64 (S : Int), .int .i64 (K : Int), .slice D v q] wr)) (fun _ i _ => 2 - (intOf i).toNat)
    case atStart => exact ⟨0, P, by decide, rfl, Lib.hid (by simp), HOP, Lib.hid (by omega), HX6⟩
    case round =>
      clear HOP HX6
      obtain ⟨k, Q, hk, hi, HQQ, HO, HL, HX⟩ := hrel
      obtain ⟨u, hu⟩ : ∃ u, u = u5 := ⟨_, rfl⟩
      rw [← hu] at HO ⊢
      clear hu
      have hk' : k = 0 ∨ k = 1 ∨ k = 2 := by omega
      clear hk
      rcases hk' with rfl | rfl | rfl
      case inr.inr =>
        replace hi : _ = Value.int .i64 2 := hi
        subst hi
        have p5 := HX.out.cell (i := 5) (v := .int .i64 (K : Int)) rfl
        go_wp2_with (at_builtin; go_must (refine wpList_append_reads _ rfl (.tmp 62) (.tmp 66) rfl Tryz.u8s' (w.heap.size + 1) u Q.length (u8s Q) rfl (HO.out.alloc _) (wr.heap.size + 1) (some ⟨wr.heap.size, 0, none⟩) 1 1 (u8s [UInt8.ofNat K]) rfl (by exact reads_lit wr _ [UInt8.ofNat K] _ _ (by show [_] = [u8v _]; rw [u8v_mod])) (u8s_one _) (by have := HL.out; have := HPL.out; unfold maxLen; omega) (by have := HL.out; have := HPL.out; omega) (by have := HX.out.size; simp; omega) ?_); intro v1 x1 hown hg hat; have HX1 := Lib.hid ((HX.out.alloc _).grow (HO.out.alloc _) hg); rw [← u8s_append] at hown; have HO1 := Lib.hid hown; clear hown hg hat)
        go_ret2
        have hf : Q ++ [UInt8.ofNat K] = keyE ⟨row, F, qual, T, S, (K : Int), []⟩ := by
          rw [HQQ.out, HP.out]
          unfold keyE tailK qualK
          have hkk : ¬ ((K : Int) = 5) := by have := HK.out; omega
          have h5 : ((K : Int) == 5) = false := hk5
          have hB := HB4.out
          clear hk4
          subst hB
          rw [if_neg hkk]
          simp only [h5]
          simp
        rw [← hf]
        exact bytes_post2 (own_low HO1.out (Nat.le_succ _)) HX1.out.up
      case inl =>
        replace hi : _ = Value.int .i64 0 := hi
        subst hi
        have ix := fun w => idx_two0 (T : Int) (S : Int) w
        go_wp2_with (first
          | (go_at_call 168; go_must (refine (falling_at T _ (by have := HN.out; omega)).mono ?_); rintro e x1 ⟨A1, c1, rfl, hs1, hb1⟩; have HX1 := Lib.hid (HX.out.later hb1); have HO1 := Lib.hid (own_below HO.out hb1); have HR1 := Lib.hid hs1.rb; clear hs1 hb1)
          | (at_builtin; go_must (refine wpList_append_reads _ rfl (.tmp 58) (.tmp 59) rfl Tryz.u8s' (w.heap.size + 1) u Q.length (u8s Q) rfl HO1.out x1.heap.size A1 8 c1 (u8s (numK T)) rfl HR1.out (u8s_one _) (by have := HL.out; have := HPL.out; unfold maxLen; omega) (by have := HL.out; have := HPL.out; omega) (by have := HX1.out.size; omega) ?_); intro v2 x2 hown hg hat; have HX2 := Lib.hid (HX1.out.grow HO1.out hg); rw [← u8s_append] at hown; have HO2 := Lib.hid hown; clear hown hg hat))
        have HO3 : Hid (x2.ownsRow (w.heap.size + 1) 5 1 v2 (Q ++ numK T).length (u8s (Q ++ numK T))) := Lib.hid (by
          have := HO2.out
          rw [show (Q ++ numK T).length = Q.length + 8 from by simp [numK_len]]; exact this)
        clear HO2
        go_roundw
        case measure => simp [intOf]
        case rel => exact ⟨1, Q ++ numK T, by decide, rfl, Lib.hid (by rw [HQQ.out]; simp), HO3, Lib.hid (by have := HQQ.out; rw [this]; simp [numK_len]), HX2⟩
      case inr.inl =>
        replace hi : _ = Value.int .i64 1 := hi
        subst hi
        have ix := fun w => idx_two1 (T : Int) (S : Int) w
        go_wp2_with (first
          | (go_at_call 168; go_must (refine (falling_at S _ (by have := HN.out; omega)).mono ?_); rintro e x1 ⟨A1, c1, rfl, hs1, hb1⟩; have HX1 := Lib.hid (HX.out.later hb1); have HO1 := Lib.hid (own_below HO.out hb1); have HR1 := Lib.hid hs1.rb; clear hs1 hb1)
          | (at_builtin; go_must (refine wpList_append_reads _ rfl (.tmp 58) (.tmp 59) rfl Tryz.u8s' (w.heap.size + 1) u Q.length (u8s Q) rfl HO1.out x1.heap.size A1 8 c1 (u8s (numK S)) rfl HR1.out (u8s_one _) (by have := HL.out; have := HPL.out; unfold maxLen; omega) (by have := HL.out; have := HPL.out; omega) (by have := HX1.out.size; omega) ?_); intro v2 x2 hown hg hat; have HX2 := Lib.hid (HX1.out.grow HO1.out hg); rw [← u8s_append] at hown; have HO2 := Lib.hid hown; clear hown hg hat))
        have HO3 : Hid (x2.ownsRow (w.heap.size + 1) 5 1 v2 (Q ++ numK S).length (u8s (Q ++ numK S))) := Lib.hid (by
          have := HO2.out
          rw [show (Q ++ numK S).length = Q.length + 8 from by simp [numK_len]]; exact this)
        clear HO2
        go_roundw
        case measure => simp [intOf]
        case rel => exact ⟨2, Q ++ numK S, by decide, rfl, Lib.hid (by rw [HQQ.out]; simp), HO3, Lib.hid (by have := HQQ.out; rw [this]; simp [numK_len]), HX2⟩
set_option maxRecDepth 100000 in
set_option maxHeartbeats 1000000 in
theorem key_err (f t s k : Int) (A : Option Addr) (n c : Nat) (B : Option Addr) (m d : Nat) (D : Option Addr) (v q : Nat) (w : World) (hz : checkN n f m t s k v ≠ 0) :
    Calls Tryz.prog 111 #[.agg #[.slice A n c, .int .i64 f, .slice B m d, .int .i64 t, .int .i64 s, .int .i64 k, .slice D v q]] w (BytesPost2 5 [] (checkN n f m t s k v) w) := by
  obtain ⟨z, hzz⟩ : ∃ z, z = checkN n f m t s k v := ⟨_, rfl⟩
  rw [← hzz] at hz ⊢
  have HZ := Lib.hid hzz
  have hd : (z != 0) = true := by rw [bne_iff_ne]; exact hz
  have HB := Lib.hid (fun o => (Below.refl w.heap.size w).alloc (Nat.le_refl _) o)
  clear hz hzz
  go_enter Tryz.func111, Tryz.ntmps111
  go_wp2_with (go_at_call 161; go_must (refine (check_any _ _ _ _ _ _ _ _ _ _ _ _ _ _).mono ?_); rintro e x1 ⟨rfl, hb1⟩; rw [← HZ.out]; have HB1 := Lib.hid (below_up (HB.out _) hb1); clear hb1 HB)
  go_ret2
  exact bytes_none2 HB1.out
theorem key_any (e : Ent) (A : Option Addr) (n c : Nat) (B : Option Addr) (m d : Nat) (D : Option Addr) (v q : Nat) (w : World) (h : En w A n c B m d D v q e) :
    Calls Tryz.prog 111 #[entV A n c B m d D v q e] w (BytesPost2 5 (KeyE e).1 (KeyE e).2 w) := by
  obtain ⟨row, f, qual, t, s, k, val⟩ := e
  have hl1 : row.length = n := h.row.len
  have hl2 : qual.length = m := h.qual.len
  have hl3 : val.length = v := h.val.len
  have hc : checkE ⟨row, f, qual, t, s, k, val⟩ = checkN n f m t s k v := by unfold checkE; simp only [hl1, hl2, hl3]
  unfold KeyE
  rw [hc]
  by_cases hz : checkN n f m t s k v = 0
  · rw [if_pos hz]
    obtain ⟨z1, z2, z3, z4, z5, z6, -⟩ := checkN_ok hz
    obtain ⟨F, rfl⟩ : ∃ F : Nat, f = F := ⟨f.toNat, by omega⟩
    obtain ⟨T, rfl⟩ : ∃ T : Nat, t = T := ⟨t.toNat, by omega⟩
    obtain ⟨S, rfl⟩ : ∃ S : Nat, s = S := ⟨s.toNat, by omega⟩
    obtain ⟨K, rfl⟩ : ∃ K : Nat, k = K := ⟨k.toNat, by omega⟩
    by_cases hk : K = 5
    · subst hk
      exact key_five row qual A n c F B m d T S D v q w h.row h.qual hz
    · exact key_more row qual A n c F B m d T S K D v q w h.row h.qual hz hk
  · rw [if_neg hz]
    exact key_err f t s k A n c B m d D v q w hz
section
variable {w x y : World} {cs : List (Array Value)}
structure Bxs (w : World) (cs : List (Array Value)) (x : World) : Prop where
  up : Below w.heap.size w x
  size : w.heap.size + cs.length ≤ x.heap.size
  cell : ∀ (j : Nat) c (i : Nat) v, cs[j]? = some c → c[i]? = some v → x.cell? ⟨w.heap.size + j, i, none⟩ = some v
  fz : ∀ (j : Nat) c (i : Nat), cs[j]? = some c → x.frozen? ⟨w.heap.size + j, i, none⟩ = false
theorem Bxs.nil (w : World) : Bxs w [] w := ⟨Below.refl _ _, Nat.le_refl _, fun j c i v h => (by simp at h), fun j c i h => (by simp at h)⟩
theorem Bxs.later (h : Bxs w cs x) (k : Below x.heap.size x y) : Bxs w cs y := by
  have hlt : ∀ (j : Nat) c, cs[j]? = some c → w.heap.size + j < x.heap.size := fun j c hj => by
    have := (List.getElem?_eq_some_iff.1 hj).1
    have := h.size
    omega
  exact ⟨h.up.trans (k.mono h.up.size), Nat.le_trans h.size k.size, fun j c i v hj hi => (k.cell (p := ⟨w.heap.size + j, i, none⟩) (hlt j c hj)).trans (h.cell j c i v hj hi),
    fun j c i hj => (k.frozen (p := ⟨w.heap.size + j, i, none⟩) (hlt j c hj)).trans (h.fz j c i hj)⟩
theorem Bxs.push {T : TypeId} {c : Array Value} (h : Bxs w cs x) (hs : x.heap.size = w.heap.size + cs.length) : Bxs w (cs ++ [c]) (x.alloc (.cells c T)) := by
  have k := h.later ((Below.refl _ x).alloc (Nat.le_refl _) (.cells c T))
  refine ⟨k.up, ?_, fun j d i v hj hi => ?_, fun j d i hj => ?_⟩
  · show _ ≤ (x.heap.push _).size
    simp only [Array.size_push, List.length_append, List.length_cons, List.length_nil]; omega
  · rcases Nat.lt_or_ge j cs.length with hlt | hge
    · rw [List.getElem?_append_left hlt] at hj; exact k.cell j d i v hj hi
    · rw [List.getElem?_append_right hge] at hj
      have : j = cs.length := by have := (List.getElem?_eq_some_iff.1 hj).1; simp at this; omega
      subst this
      simp at hj
      subst hj
      rw [← hs]
      simpa using hi
  · rcases Nat.lt_or_ge j cs.length with hlt | hge
    · rw [List.getElem?_append_left hlt] at hj; exact k.fz j d i hj
    · rw [List.getElem?_append_right hge] at hj
      have : j = cs.length := by have := (List.getElem?_eq_some_iff.1 hj).1; simp at this; omega
      subst this
      rw [← hs]
      simp
theorem Bxs.one (w : World) (T : TypeId) (c : Array Value) : Bxs w [c] (w.alloc (.cells c T)) := (Bxs.nil w).push (by simp)
theorem Bxs.two (w : World) (T : TypeId) (c c' : Array Value) : Bxs w [c, c'] ((w.alloc (.cells c T)).alloc (.cells c' T)) := (Bxs.one w T c).push (by show (w.heap.push _).size = _; simp)
theorem Bxs.set (h : Bxs w cs x) {j : Nat} {c : Array Value} (i : Nat) (v : Value) (hj : cs[j]? = some c) (hi : i < c.size) : Bxs w (cs.set j (c.set! i v)) (x.setCell ⟨w.heap.size + j, i, none⟩ v) := by
  have hjl := (List.getElem?_eq_some_iff.1 hj).1
  have hget : ∀ (k : Nat) d, (cs.set j (c.set! i v))[k]? = some d → (k = j ∧ d = c.set! i v) ∨ (k ≠ j ∧ cs[k]? = some d) := fun k d hk => by
    rw [List.getElem?_set] at hk
    by_cases e : j = k
    · subst e; rw [if_pos rfl, if_pos hjl] at hk; injection hk with hk; exact .inl ⟨rfl, hk.symm⟩
    · rw [if_neg e] at hk; exact .inr ⟨fun h => e h.symm, hk⟩
  refine ⟨h.up.setCell (Nat.le_add_right _ _) v, by rw [List.length_set]; exact Nat.le_trans h.size (by simp), fun k d n u hk hn => ?_, fun k d n hk => ?_⟩
  · rcases hget k d hk with ⟨rfl, rfl⟩ | ⟨hne, hk⟩
    · by_cases e : n = i
      · subst e
        have : u = v := by simp [hi] at hn; exact hn.symm
        subst this
        exact World.cell?_setCell_same _ _ _ (h.cell k c n c[n] hj (by simp [hi]))
      · have : c[n]? = some u := by
          rw [Array.set!_eq_setIfInBounds, Array.getElem?_setIfInBounds_ne (fun h => e h.symm)] at hn; exact hn
        rw [World.cell?_setCell_other _ _ _ _ (fun e' => by injection e' with _ e'; exact e e'.symm)]
        exact h.cell k c n u hj this
    · rw [World.cell?_setCell_other _ _ _ _ (fun e' => by injection e' with e' _; omega)]
      exact h.cell k d n u hk hn
  · rw [World.frozen?_setCell]
    rcases hget k d hk with ⟨rfl, rfl⟩ | ⟨hne, hk⟩
    · exact h.fz k c n hj
    · exact h.fz k d n hk
theorem Bxs.c0 (h : Bxs w cs x) {c : Array Value} {i : Nat} {v : Value} (hj : cs[0]? = some c) (hi : c[i]? = some v) : x.cell? ⟨w.heap.size, i, none⟩ = some v := h.cell 0 c i v hj hi
theorem Bxs.c1 (h : Bxs w cs x) {c : Array Value} {i : Nat} {v : Value} (hj : cs[1]? = some c) (hi : c[i]? = some v) : x.cell? ⟨w.heap.size + 1, i, none⟩ = some v := h.cell 1 c i v hj hi
theorem Bxs.c2 (h : Bxs w cs x) {c : Array Value} {i : Nat} {v : Value} (hj : cs[2]? = some c) (hi : c[i]? = some v) : x.cell? ⟨w.heap.size + 1 + 1, i, none⟩ = some v := h.cell 2 c i v hj hi
theorem Bxs.f0 (h : Bxs w cs x) {c : Array Value} (hj : cs[0]? = some c) : ∀ i, x.frozen? ⟨w.heap.size, i, none⟩ = false := fun i => h.fz 0 c i hj
theorem Bxs.f1 (h : Bxs w cs x) {c : Array Value} (hj : cs[1]? = some c) : ∀ i, x.frozen? ⟨w.heap.size + 1, i, none⟩ = false := fun i => h.fz 1 c i hj
theorem Bxs.f2 (h : Bxs w cs x) {c : Array Value} (hj : cs[2]? = some c) : ∀ i, x.frozen? ⟨w.heap.size + 1 + 1, i, none⟩ = false := fun i => h.fz 2 c i hj
theorem Bxs.cells0 (h : Bxs w cs x) {c : Array Value} (hj : cs[0]? = some c) : ∀ j v, c[j]? = some v → x.cell? ⟨w.heap.size, j, none⟩ = some v := fun j v hv => h.cell 0 c j v hj hv
structure Bt (T : TypeId) (w : World) (cs : List (Array Value)) (rs : RowL) (x : World) : Prop where
  box : Bxs w cs x
  rows : RowsB T (w.heap.size + cs.length) x rs
variable {T : TypeId} {rs : RowL}
theorem Bt.of (h : Bxs w cs x) : Bt T w cs [] x := ⟨h, RowsB.nil⟩
theorem Bt.later (h : Bt T w cs rs x) (k : Below x.heap.size x y) : Bt T w cs rs y := ⟨h.box.later k, h.rows.later k⟩
theorem Bt.drew (h : Bt T w cs rs x) : Bt T w cs rs x.drew := h.later (Below.refl _ _).drew
theorem Bt.fresh (h : Bt T w cs rs x) (k : Below x.heap.size x y) {A : Option Addr} {c : Nat} {l : List UInt8} (ho : OwnB T x.heap.size y A c l) : Bt T w cs (rs ++ [(A, c, l)]) y := ⟨h.box.later k, h.rows.fresh k ho h.box.size⟩
theorem Bt.freshR (h : Bt T w cs rs x) (k : Below x.heap.size x y) {rs' : RowL} (hr : RowsB T x.heap.size y rs') : Bt T w cs (rs ++ rs') y := ⟨h.box.later k, h.rows.app k hr h.box.size⟩
theorem Bt.alloc (h : Bt T w cs rs x) (o : Obj) : Bt T w cs rs (x.alloc o) := h.later ((Below.refl _ x).alloc (Nat.le_refl _) o)
theorem rows_pre {B : Nat} {us vs : RowL} (h : RowsB T B x (us ++ vs)) : RowsB T B x us :=
  ⟨fun i r hr => h.1 i r (by rw [List.getElem?_append_left (List.getElem?_eq_some_iff.1 hr).1]; exact hr), fun i j r s hr hs => h.2 i j r s (by rw [List.getElem?_append_left (List.getElem?_eq_some_iff.1 hr).1]; exact hr) (by rw [List.getElem?_append_left (List.getElem?_eq_some_iff.1 hs).1]; exact hs)⟩
theorem Bt.set (h : Bt T w cs rs x) {j : Nat} {c : Array Value} (i : Nat) (v : Value) (hj : cs[j]? = some c) (hi : i < c.size) : Bt T w (cs.set j (c.set! i v)) rs (x.setCell ⟨w.heap.size + j, i, none⟩ v) := by
  have hlt := (List.getElem?_eq_some_iff.1 hj).1
  refine ⟨h.box.set i v hj hi, ?_⟩
  rw [List.length_set]
  exact rows_set h.rows (by omega) i v
theorem Bt.s1_0 {a0 a1 a2 a3 a4 a5 a6 : Value} {c0 : Array Value} {r : List (Array Value)} (u : Value) (h : Bt T w (c0 :: #[a0, a1, a2, a3, a4, a5, a6] :: r) rs x) : Bt T w (c0 :: #[u, a1, a2, a3, a4, a5, a6] :: r) rs (x.setCell ⟨w.heap.size + 1, 0, none⟩ u) := h.set (j := 1) 0 u rfl (show 0 < 7 by decide)
theorem Bt.s1_1 {a0 a1 a2 a3 a4 a5 a6 : Value} {c0 : Array Value} {r : List (Array Value)} (u : Value) (h : Bt T w (c0 :: #[a0, a1, a2, a3, a4, a5, a6] :: r) rs x) : Bt T w (c0 :: #[a0, u, a2, a3, a4, a5, a6] :: r) rs (x.setCell ⟨w.heap.size + 1, 1, none⟩ u) := h.set (j := 1) 1 u rfl (show 1 < 7 by decide)
theorem Bt.s1_2 {a0 a1 a2 a3 a4 a5 a6 : Value} {c0 : Array Value} {r : List (Array Value)} (u : Value) (h : Bt T w (c0 :: #[a0, a1, a2, a3, a4, a5, a6] :: r) rs x) : Bt T w (c0 :: #[a0, a1, u, a3, a4, a5, a6] :: r) rs (x.setCell ⟨w.heap.size + 1, 2, none⟩ u) := h.set (j := 1) 2 u rfl (show 2 < 7 by decide)
theorem Bt.s1_3 {a0 a1 a2 a3 a4 a5 a6 : Value} {c0 : Array Value} {r : List (Array Value)} (u : Value) (h : Bt T w (c0 :: #[a0, a1, a2, a3, a4, a5, a6] :: r) rs x) : Bt T w (c0 :: #[a0, a1, a2, u, a4, a5, a6] :: r) rs (x.setCell ⟨w.heap.size + 1, 3, none⟩ u) := h.set (j := 1) 3 u rfl (show 3 < 7 by decide)
theorem Bt.s1_4 {a0 a1 a2 a3 a4 a5 a6 : Value} {c0 : Array Value} {r : List (Array Value)} (u : Value) (h : Bt T w (c0 :: #[a0, a1, a2, a3, a4, a5, a6] :: r) rs x) : Bt T w (c0 :: #[a0, a1, a2, a3, u, a5, a6] :: r) rs (x.setCell ⟨w.heap.size + 1, 4, none⟩ u) := h.set (j := 1) 4 u rfl (show 4 < 7 by decide)
theorem Bt.s1_5 {a0 a1 a2 a3 a4 a5 a6 : Value} {c0 : Array Value} {r : List (Array Value)} (u : Value) (h : Bt T w (c0 :: #[a0, a1, a2, a3, a4, a5, a6] :: r) rs x) : Bt T w (c0 :: #[a0, a1, a2, a3, a4, u, a6] :: r) rs (x.setCell ⟨w.heap.size + 1, 5, none⟩ u) := h.set (j := 1) 5 u rfl (show 5 < 7 by decide)
theorem Bt.s0_0 {a0 a1 a2 a3 a4 a5 a6 : Value} {r : List (Array Value)} (u : Value) (h : Bt T w (#[a0, a1, a2, a3, a4, a5, a6] :: r) rs x) : Bt T w (#[u, a1, a2, a3, a4, a5, a6] :: r) rs (x.setCell ⟨w.heap.size, 0, none⟩ u) := h.set (j := 0) 0 u rfl (show 0 < 7 by decide)
theorem Bt.s0_1 {a0 a1 a2 a3 a4 a5 a6 : Value} {r : List (Array Value)} (u : Value) (h : Bt T w (#[a0, a1, a2, a3, a4, a5, a6] :: r) rs x) : Bt T w (#[a0, u, a2, a3, a4, a5, a6] :: r) rs (x.setCell ⟨w.heap.size, 1, none⟩ u) := h.set (j := 0) 1 u rfl (show 1 < 7 by decide)
theorem Bt.s0_2 {a0 a1 a2 a3 a4 a5 a6 : Value} {r : List (Array Value)} (u : Value) (h : Bt T w (#[a0, a1, a2, a3, a4, a5, a6] :: r) rs x) : Bt T w (#[a0, a1, u, a3, a4, a5, a6] :: r) rs (x.setCell ⟨w.heap.size, 2, none⟩ u) := h.set (j := 0) 2 u rfl (show 2 < 7 by decide)
theorem Bt.s0_3 {a0 a1 a2 a3 a4 a5 a6 : Value} {r : List (Array Value)} (u : Value) (h : Bt T w (#[a0, a1, a2, a3, a4, a5, a6] :: r) rs x) : Bt T w (#[a0, a1, a2, u, a4, a5, a6] :: r) rs (x.setCell ⟨w.heap.size, 3, none⟩ u) := h.set (j := 0) 3 u rfl (show 3 < 7 by decide)
theorem Bt.s0_4 {a0 a1 a2 a3 a4 a5 a6 : Value} {r : List (Array Value)} (u : Value) (h : Bt T w (#[a0, a1, a2, a3, a4, a5, a6] :: r) rs x) : Bt T w (#[a0, a1, a2, a3, u, a5, a6] :: r) rs (x.setCell ⟨w.heap.size, 4, none⟩ u) := h.set (j := 0) 4 u rfl (show 4 < 7 by decide)
theorem Bt.s0_5 {a0 a1 a2 a3 a4 a5 a6 : Value} {r : List (Array Value)} (u : Value) (h : Bt T w (#[a0, a1, a2, a3, a4, a5, a6] :: r) rs x) : Bt T w (#[a0, a1, a2, a3, a4, u, a6] :: r) rs (x.setCell ⟨w.heap.size, 5, none⟩ u) := h.set (j := 0) 5 u rfl (show 5 < 7 by decide)
theorem Bt.s0_6 {a0 a1 a2 a3 a4 a5 a6 : Value} {r : List (Array Value)} (u : Value) (h : Bt T w (#[a0, a1, a2, a3, a4, a5, a6] :: r) rs x) : Bt T w (#[a0, a1, a2, a3, a4, a5, u] :: r) rs (x.setCell ⟨w.heap.size, 6, none⟩ u) := h.set (j := 0) 6 u rfl (show 6 < 7 by decide)
theorem Bt.fill7 {c : Array Value} {r : List (Array Value)} (h : Bt T w (c :: r) rs x) (hc : c.size = 7) (v0 v1 v2 v3 v4 v5 v6 : Value) : Bt T w (#[v0, v1, v2, v3, v4, v5, v6] :: r) rs
    (((((((x.setCell ⟨w.heap.size, 0, none⟩ v0).setCell ⟨w.heap.size, 1, none⟩ v1).setCell ⟨w.heap.size, 2, none⟩ v2).setCell ⟨w.heap.size, 3, none⟩ v3).setCell ⟨w.heap.size, 4, none⟩ v4).setCell ⟨w.heap.size, 5, none⟩ v5).setCell ⟨w.heap.size, 6, none⟩ v6) := by
  obtain ⟨l⟩ := c
  match l, hc with
  | [b0, b1, b2, b3, b4, b5, b6], _ =>
    exact Bt.s0_6 v6 (Bt.s0_5 v5 (Bt.s0_4 v4 (Bt.s0_3 v3 (Bt.s0_2 v2 (Bt.s0_1 v1 (Bt.s0_0 v0 h))))))
end
section
variable {P : Program}
theorem run_loadVar_at {w : World} {g : Nat} {ty : TypeId} {cs : Array Value} (hc : ∀ j v, cs[j]? = some v → w.cell? ⟨g, j, none⟩ = some v)
    (ha : (P.underlying ty).map (fun d => match d with | .struct _ | .array _ _ => true | _ => false) = some true) (hi : (P.info? ty).map (·.size) = some cs.size) :
    (loadVar ty ⟨g, 0, none⟩).run P w = .ok (.agg cs) w := by
  have hl : (loadCells ⟨g, 0, none⟩ cs.toList.length).run P w = .ok cs.toList.toArray w :=
    run_loadCells_list (P := P) w ⟨g, 0, none⟩ cs.toList (fun j v hv => by
      have hadd : (⟨g, 0, none⟩ : Addr).add j = ⟨g, j, none⟩ := by unfold Addr.add; split <;> simp_all
      rw [hadd]
      exact hc j v (by simpa using hv))
  simp only [Array.length_toList, Array.toArray_toList] at hl
  have h1 := run_isAgg_of ha w
  have h2 := run_sizeOf_of hi w
  simp [loadVar, Sem.run_bind, h1, h2, hl]
theorem results_box1 {fn : Func} {p t : Tmp} {ty : TypeId} (h : fn.results = #[.cell p ty, .tmp t]) (tmps : Array Value) (w : World) (g : Nat) (cs : Array Value)
    (hp : tmps.getD p undef = .pointer (some ⟨g, 0, none⟩)) (hc : ∀ j v, cs[j]? = some v → w.cell? ⟨g, j, none⟩ = some v)
    (ha : (P.underlying ty).map (fun d => match d with | .struct _ | .array _ _ => true | _ => false) = some true) (hi : (P.info? ty).map (·.size) = some cs.size) :
    (results fn tmps).run P w = .ok (.tuple #[.agg cs, tmps.getD t undef]) w := by
  have hp' : tmps[p]?.getD undef = .pointer (some ⟨g, 0, none⟩) := by simpa using hp
  simp [results, h, hp', asAddr, run_loadVar_at hc ha hi]
end
theorem drop_of_get {l : List UInt8} {k : Nat} {c : UInt8} (h : l[k]? = some c) : l.drop k = c :: l.drop (k + 1) := by
  obtain ⟨h1, rfl⟩ := List.getElem?_eq_some_iff.1 h
  exact List.drop_eq_getElem_cons h1
set_option maxRecDepth 100000 in
set_option maxHeartbeats 2000000 in
theorem ro_any (l : List UInt8) (A : Option Addr) (n c : Nat) (a : Int) (w : World) (hs : Sl w A n c l) (hn : n ≤ 140737488355000) :
    Calls Tryz.prog 196 #[.slice A n c, .int .i64 a] w (BytesPost3 5 (readO l a).1 ((readO l a).2.1 : Nat) ((readO l a).2.2 : Nat) w) := by
  have hl := hs.len
  have HR : Hid (∀ w', Below w.heap.size w w' → RB w' w'.heap.size A n l) := Lib.hid fun w' h => hs.rb.later h
  by_cases ho : outB n a = true
  · have HO := Lib.hid ho
    have H : Hid (BytesPost3 5 (readO l a).1 ((readO l a).2.1 : Nat) ((readO l a).2.2 : Nat) w (.returned (.tuple #[.slice none 0 0, .int .i64 0, .int .i64 1])) w) := Lib.hid (by
      unfold outB at ho
      simp at ho
      unfold readO
      rw [if_pos (by omega)]
      exact bytes_none3 (Below.refl _ _))
    clear hs ho hl
    go_enter Tryz.func196, Tryz.ntmps196
    go_wp2_with (go_at_call 184; go_must (refine (outside_any A n c a _).mono ?_); rintro e w0 ⟨rfl, rfl⟩; rw [HO.out])
    go_ret3
    exact H.out
  have ho : outB n a = false := by simpa using ho
  have HO := Lib.hid ho
  have ha : 0 ≤ a ∧ a ≤ n := by unfold outB at ho; simp at ho; omega
  obtain ⟨K, rfl⟩ : ∃ K : Nat, a = (K : Int) := ⟨a.toNat, by omega⟩
  have HL := Lib.hid hl
  obtain ⟨R, hR⟩ : ∃ R, R = readO l (K : Int) := ⟨_, rfl⟩
  rw [← hR]
  have HS : Hid (glO [] K (rdO (l.drop K)) = R) := Lib.hid (by rw [hR, readO_in (by omega)])
  have hK : K ≤ n := by omega
  clear hs ho hl ha hR
  go_enter Tryz.func196, Tryz.ntmps196
  go_wp2_with (go_at_call 184; go_must (refine (outside_any A n c (K : Int) _).mono ?_); rintro e w0 ⟨rfl, rfl⟩; rw [HO.out])
  go_loopw [1, 7] (fun i v wr => ∃ (k : Nat) (P : List UInt8), k ≤ n ∧ i = .int .i64 k ∧ Hid (P.length ≤ k) ∧ Hid (glO P k (rdO (l.drop k)) = R) ∧ wr.ownsRow w.heap.size 5 1 v P.length (u8s P) ∧ Hid (Below w.heap.size w wr)) (fun i _ _ => n - (intOf i).toNat)
  case atStart => exact ⟨K, [], hK, rfl, Lib.hid (by simp), HS, own_nil _ _ _ _, Lib.hid (Below.refl _ _)⟩
  case round =>
    clear HS
    obtain ⟨k, P, hk, rfl, HPL, HG, hown, HB⟩ := hrel
    obtain ⟨v, hv⟩ : ∃ v, v = u7 := ⟨_, rfl⟩
    rw [← hv] at hown ⊢
    clear hv
    have HT : Hid (rdO [] = ([], 0, 10) ∧ ∀ x, rdO [x] = ([], 0, 10)) := Lib.hid ⟨rfl, fun _ => rfl⟩
    have HE : Hid (∀ e, e ≠ 0 → R = ([], 0, e) → BytesPost3 5 R.1 (R.2.1 : Nat) (R.2.2 : Nat) w (.returned (.tuple #[.slice none 0 0, .int .i64 0, .int .i64 e])) wr) := Lib.hid fun e _ h => by
      rw [h]; exact bytes_none3 HB.out
    by_cases hlt : k < n
    case neg =>
      have hd : decide ((k : Int) < (n : Int)) = false := decide_eq_false (by omega)
      have H := Lib.hid (HE.out 10 (by decide) (by rw [← HG.out, List.drop_eq_nil_of_le (by have := HL.out; omega), HT.out.1]; rfl))
      clear HE
      go_wp2
      go_ret3
      exact H.out
    have hd : decide ((k : Int) < (n : Int)) = true := decide_eq_true (by omega)
    obtain ⟨b, o, x, rfl, _, hx, hcx⟩ := (HR.out _ HB.out).at_ hlt
    have HX := Lib.hid (drop_of_get hx)
    clear hx
    by_cases hx0 : x.toNat = 0
    case neg =>
      have hd2 : ((x.toNat : Int) != 0) = true := by rw [bne_iff_ne]; omega
      have HN : Hid (glO (P ++ [x]) (k + 1) (rdO (l.drop (k + 1))) = R) := Lib.hid (by rw [← HG.out, HX.out, rdO_ne hx0, glO_add])
      have HPL2 : Hid ((P ++ [x]).length ≤ k + 1) := Lib.hid (by rw [List.length_append]; have := HPL.out; simp; omega)
      clear HE hx0
      go_wp2_with (at_builtin; go_must (refine wpList_append_reads _ rfl (.tmp 24) (.tmp 26) rfl Tryz.u8s' w.heap.size v P.length (u8s P) rfl (hown.alloc _) (wr.heap.size + 1) (some ⟨wr.heap.size, 0, none⟩) 1 1 (u8s [x]) rfl (by exact reads_lit wr _ [x] _ _ rfl) (u8s_one _) (by have := HPL.out; unfold maxLen; omega) (by have := HPL.out; omega) (by have := HB.out.size; simp; omega) ?_); intro v1 w1 hown1 hg1 hat1; have HB1 := Lib.hid (below_app (HB.out.alloc HB.out.size (.cells #[.int .u8 (x.toNat : Int)] 5)) (hown.alloc _) hg1 (by have := HB.out.size; simp; omega) (Nat.le_refl _)); rw [← u8s_append] at hown1; have HO1 := Lib.hid hown1; clear hown1 hg1 hat1)
      have hO1 : w1.ownsRow w.heap.size 5 1 v1 (P ++ [x]).length (u8s (P ++ [x])) := by
        have := HO1.out
        rw [show (P ++ [x]).length = P.length + 1 from by simp]; exact this
      clear HO1
      go_roundw
      case rel => exact ⟨k + 1, P ++ [x], by omega, by go_num, HPL2, HN, hO1, HB1⟩
      case measure => simp [intOf]; omega
    have hd2 : ((x.toNat : Int) != 0) = false := by rw [bne_eq_false_iff_eq]; omega
    have hq1 : IntKind.i64.wrap ((k : Int) + 1) = (k : Int) + 1 := i64_sum (by omega) (by omega)
    by_cases hlt2 : k + 1 < n
    case neg =>
      have hd3 : ((k : Int) + 1 == (n : Int)) = true := by rw [beq_iff_eq]; omega
      have H := Lib.hid (HE.out 10 (by decide) (by rw [← HG.out, HX.out, List.drop_eq_nil_of_le (by have := HL.out; omega), HT.out.2]; rfl))
      clear HE hx0
      go_wp2
      go_ret3
      exact H.out
    have hd3 : ((k : Int) + 1 == (n : Int)) = false := by rw [beq_eq_false_iff_ne]; omega
    have hq2 : (0 : Int) ≤ (k : Int) + 1 := by omega
    have hq3 : (k : Int) + 1 < (n : Int) := by omega
    have hq4 : ((k : Int) + 1).toNat = k + 1 := by omega
    have hq5 : IntKind.i64.wrap ((k : Int) + 1 + 1) = (k : Int) + 2 := by rw [i64_sum (by omega) (by omega)]; omega
    obtain ⟨b', o', y, e', _, hy, hcy⟩ := (HR.out _ HB.out).at_ hlt2
    injection e' with e'
    injection e' with e1 e2
    subst e1; subst e2
    have HY := Lib.hid (drop_of_get hy)
    clear hy
    by_cases hy1 : y.toNat = 1
    · have hd4 : ((y.toNat : Int) == 1) = true := by rw [beq_iff_eq]; omega
      have H : Hid (BytesPost3 5 R.1 (R.2.1 : Nat) (R.2.2 : Nat) w (.returned (.tuple #[v, .int .i64 ((k : Int) + 2), .int .i64 0])) wr) := Lib.hid (by
        rw [← HG.out, HX.out, HY.out, rdO_one hx0 hy1]
        unfold glO
        rw [if_pos rfl]
        show BytesPost3 5 (P ++ []) ((k + 2 : Nat) : Int) 0 w _ wr
        rw [List.append_nil]
        exact bytes_post3 hown HB.out)
      clear HE hx0
      go_wp2
      go_ret3
      exact H.out
    have hd4 : ((y.toNat : Int) == 1) = false := by rw [beq_eq_false_iff_ne]; omega
    by_cases hy2 : y.toNat = 255
    · have hd5 : ((y.toNat : Int) == 255) = true := by rw [beq_iff_eq]; omega
      have HN : Hid (glO (P ++ [0]) (k + 2) (rdO (l.drop (k + 2))) = R) := Lib.hid (by rw [← HG.out, HX.out, HY.out, rdO_zero hx0 hy2, glO_add])
      have HPL2 : Hid ((P ++ [(0 : UInt8)]).length ≤ k + 2) := Lib.hid (by rw [List.length_append]; have := HPL.out; simp; omega)
      clear HE hx0
      go_wp2_with (at_builtin; go_must (refine wpList_append_reads _ rfl (.tmp 43) (.tmp 44) rfl Tryz.u8s' w.heap.size v P.length (u8s P) rfl (hown.alloc _) (wr.heap.size + 1) (some ⟨wr.heap.size, 0, none⟩) 1 1 (u8s [0]) rfl (by exact reads_lit wr _ [0] _ _ rfl) (u8s_one _) (by have := HPL.out; unfold maxLen; omega) (by have := HPL.out; omega) (by have := HB.out.size; simp; omega) ?_); intro v1 w1 hown1 hg1 hat1; have HB1 := Lib.hid (below_app (HB.out.alloc HB.out.size (.cells #[.int .u8 0] 5)) (hown.alloc _) hg1 (by have := HB.out.size; simp; omega) (Nat.le_refl _)); rw [← u8s_append] at hown1; have HO1 := Lib.hid hown1; clear hown1 hg1 hat1)
      have hO1 : w1.ownsRow w.heap.size 5 1 v1 (P ++ [(0 : UInt8)]).length (u8s (P ++ [(0 : UInt8)])) := by
        have := HO1.out
        rw [show (P ++ [(0 : UInt8)]).length = P.length + 1 from by simp]; exact this
      clear HO1
      go_roundw
      case rel => exact ⟨k + 2, P ++ [0], by omega, by go_num, HPL2, HN, hO1, HB1⟩
      case measure => simp [intOf]; omega
    · have hd5 : ((y.toNat : Int) == 255) = false := by rw [beq_eq_false_iff_ne]; omega
      have H := Lib.hid (HE.out 11 (by decide) (by rw [← HG.out, HX.out, HY.out, rdO_form hx0 hy1 hy2]; rfl))
      clear HE hx0
      go_wp2
      go_ret3
      exact H.out
def RRPost (r : Nat × Nat × Nat) (w : World) (e : Ending) (w' : World) : Prop := e = .returned (.tuple #[.int .i64 r.1, .int .i64 r.2.1, .int .i64 r.2.2]) ∧ w = w'
set_option maxRecDepth 100000 in
set_option maxHeartbeats 2000000 in
theorem rr_any (l : List UInt8) (A : Option Addr) (n c : Nat) (a : Int) (w : World) (hs : Sl w A n c l) (_hn : n ≤ 140737488355000) :
    Calls Tryz.prog 133 #[.slice A n c, .int .i64 a] w (RRPost (readR l a) w) := by
  have hl := hs.len
  by_cases ho : outB n a = true
  · have HO := Lib.hid ho
    have H : Hid (readR l a = (0, 0, 1)) := Lib.hid (by
      unfold outB at ho
      simp at ho
      unfold readR
      rw [if_pos (by omega)])
    clear hs ho hl
    go_enter Tryz.func133, Tryz.ntmps133
    go_wp2_with (go_at_call 184; go_must (refine (outside_any A n c a _).mono ?_); rintro e w0 ⟨rfl, rfl⟩; rw [HO.out])
    go_ret3
    rw [H.out]
    exact ⟨rfl, rfl⟩
  have ho : outB n a = false := by simpa using ho
  have HO := Lib.hid ho
  have ha : 0 ≤ a ∧ a ≤ n := by unfold outB at ho; simp at ho; omega
  obtain ⟨k, rfl⟩ : ∃ k : Nat, a = (k : Int) := ⟨a.toNat, by omega⟩
  have hk : k ≤ n := by omega
  have hbase : readR l (k : Int) = if n < k + 8 then (0, 0, 10) else if 127 < (l[k]?.getD 0).toNat then (0, 0, 13) else (big (cutS l k 8), k + 8, 0) := by
    unfold readR; rw [if_neg (by omega), Int.toNat_natCast, hl]
  have hcap := hs.cap
  have hlim := hs.lim
  by_cases h8 : n < k + 8
  · have H : Hid (readR l (k : Int) = (0, 0, 10)) := Lib.hid (by rw [hbase, if_pos h8])
    have hd : decide ((n : Int) - (k : Int) < 8) = true := decide_eq_true (by omega)
    clear hs ho hl ha hbase
    go_enter Tryz.func133, Tryz.ntmps133
    go_wp2_with (go_at_call 184; go_must (refine (outside_any A n c (k : Int) _).mono ?_); rintro e w0 ⟨rfl, rfl⟩; rw [HO.out])
    go_ret3
    rw [H.out]
    exact ⟨rfl, rfl⟩
  rw [if_neg h8] at hbase
  have hd : decide ((n : Int) - (k : Int) < 8) = false := decide_eq_false (by omega)
  have hkn : k < n := by omega
  obtain ⟨b, o, x, rfl, _, hx, hcx⟩ := hs.rb.at_ hkn
  rw [hx] at hbase
  by_cases hbig : 127 < x.toNat
  · have H : Hid (readR l (k : Int) = (0, 0, 13)) := Lib.hid (by rw [hbase, Option.getD_some, if_pos hbig])
    have hd2 : decide ((127 : Int) < (x.toNat : Int)) = true := decide_eq_true (by omega)
    have hd3 : decide (127 < x.toNat) = true := decide_eq_true hbig
    clear hs ho hl ha hbase hx
    go_enter Tryz.func133, Tryz.ntmps133
    go_wp2_with (go_at_call 184; go_must (refine (outside_any _ n c (k : Int) _).mono ?_); rintro e w0 ⟨rfl, rfl⟩; rw [HO.out])
    go_ret3
    rw [H.out]
    exact ⟨rfl, rfl⟩
  have HBS : Hid (readR l (k : Int) = (big (cutS l k 8), k + 8, 0)) := Lib.hid (by rw [hbase, Option.getD_some, if_neg hbig])
  have hd2 : decide ((127 : Int) < (x.toNat : Int)) = false := decide_eq_false (by omega)
  have hd3 : decide (127 < x.toNat) = false := decide_eq_false hbig
  obtain ⟨L, hL⟩ : ∃ L, L = cutS l k 8 := ⟨_, rfl⟩
  rw [← hL] at HBS
  have HLL : Hid (L.length = 8) := Lib.hid (by rw [hL]; unfold cutS; rw [List.length_take, List.length_drop]; omega)
  have H0 : Hid ((L[0]?.getD 0).toNat ≤ 127) := Lib.hid (by
    have e : L[0]? = l[k]? := by rw [hL]; unfold cutS; rw [List.getElem?_take_of_lt (by omega), List.getElem?_drop, Nat.add_zero]
    rw [e, hx, Option.getD_some]; omega)
  have HC : Hid (∀ (j : Nat) (y : UInt8), L[j]? = some y → w.cell? ⟨b, o + k + j, none⟩ = some (.int .u8 (y.toNat : Int))) := Lib.hid fun j y hy => by
    have hj : j < 8 := by have := (List.getElem?_eq_some_iff.1 hy).1; rw [HLL.out] at this; exact this
    have e : L[j]? = l[k + j]? := by rw [hL]; unfold cutS; rw [List.getElem?_take_of_lt hj, List.getElem?_drop]
    rw [e] at hy
    rw [Nat.add_assoc]
    exact hs.rb.cell hy
  have k0 : IntKind.i64.wrap ((k : Int) + 8) = (k : Int) + 8 := i64_sum (by omega) (by omega)
  have k1 : (0 : Int) ≤ (k : Int) + 8 := by omega
  have k2 : (k : Int) + 8 ≤ (c : Int) := by omega
  have k3 : ((k : Int) + 8).toNat = k + 8 := by omega
  have k4 : k ≤ k + 8 := by omega
  have k5 : k + 8 - k = 8 := by omega
  have k6 : c ≠ k := by omega
  clear hs ho hl ha hbase hx hL hbig
  go_enter Tryz.func133, Tryz.ntmps133
  go_wp2_with (go_at_call 184; go_must (refine (outside_any _ n c (k : Int) _).mono ?_); rintro e w0 ⟨rfl, rfl⟩; rw [HO.out])
  go_loop [7, 32] (fun s i => ∃ j : Nat, j ≤ 8 ∧ i = .int .i64 j ∧ ∃ N : Nat, Hid (N = big (L.take j)) ∧ N < 9223372036854775808 ∧ s = .int .i64 N) (fun _ i => 8 - (intOf i).toNat)
  case atStart => exact ⟨0, by omega, rfl, 0, Lib.hid (by simp [big]), by omega, rfl⟩
  case round =>
    obtain ⟨j, hj, rfl, N, HN, hN, rfl⟩ := hrel
    by_cases hlt : j < 8
    case neg =>
      have hdj : decide ((j : Int) < 8) = false := decide_eq_false (by omega)
      have HE : Hid (readR l (k : Int) = (N, k + 8, 0)) := Lib.hid (by rw [HBS.out, HN.out, take_all (by rw [HLL.out]; omega)])
      go_wp2
      go_ret3
      rw [HE.out]
      exact ⟨rfl, rfl⟩
    have hdj : decide ((j : Int) < 8) = true := decide_eq_true (by omega)
    obtain ⟨y, hy⟩ : ∃ y, L[j]? = some y := ⟨_, List.getElem?_eq_getElem (by rw [HLL.out]; exact hlt)⟩
    have hcy := HC.out j y hy
    have HB7 := Lib.hid (big_take H0.out (j := j) (by omega))
    have hNb : N < 36028797018963968 := by have := HB7.out; rw [← HN.out] at this; exact this
    have e1 := or_step N y hNb
    have e2 : wrap64 ((N : Int) * 256) = (N : Int) * 256 := wrap64_id (by omega) (by omega)
    have e3 : IntKind.i64.wrap ((N : Int) * 256) = (N : Int) * 256 := i64_sum (by omega) (by omega)
    have HN2 : Hid (N * 256 + y.toNat = big (L.take (j + 1))) := Lib.hid (by rw [take_snoc hy, big_snoc, HN.out])
    have hy8 := y.toNat_lt
    clear hy
    go_wp2
    go_round
    case rel => exact ⟨j + 1, by omega, by go_num, N * 256 + y.toNat, HN2, by omega, rfl⟩
    case measure => simp [intOf]; omega
set_option maxRecDepth 100000 in
set_option maxHeartbeats 2000000 in
theorem rfl_any (l : List UInt8) (A : Option Addr) (n c : Nat) (a : Int) (w : World) (hs : Sl w A n c l) (hn : n ≤ 140737488355000) :
    Calls Tryz.prog 197 #[.slice A n c, .int .i64 a] w (RRPost (readFl l a) w) := by
  have hend := readR_end l a
  have HC := Lib.hid (rr_any l A n c a w hs hn)
  obtain ⟨v, hv⟩ : ∃ v, v = (readR l a).1 := ⟨_, rfl⟩
  obtain ⟨p, hp⟩ : ∃ p, p = (readR l a).2.1 := ⟨_, rfl⟩
  obtain ⟨k, hk⟩ : ∃ k, k = (readR l a).2.2 := ⟨_, rfl⟩
  have hbase : readFl l a = if k = 0 then (9223372036854775807 - v, p, 0) else (0, 0, k) := by unfold readFl; rw [hv, hp, hk]
  have HU : Hid (RRPost (readR l a) w = RRPost (v, p, k) w) := Lib.hid (by rw [hv, hp, hk])
  rw [← hv, ← hk] at hend
  clear hv hp hk hs
  by_cases hk0 : k = 0
  · have H : Hid (readFl l a = (9223372036854775807 - v, p, 0)) := Lib.hid (by rw [hbase, if_pos hk0])
    obtain ⟨_, _, _, _, hv⟩ := hend hk0
    subst hk0
    have q1 : IntKind.i64.wrap (9223372036854775807 - (v : Int)) = ((9223372036854775807 - v : Nat) : Int) := by rw [i64_sum (by omega) (by omega)]; omega
    have q2 : (9223372036854775807 - (v : Int)) = ((9223372036854775807 - v : Nat) : Int) := by omega
    have HQ := Lib.hid q2
    clear hbase hend q2
    go_enter Tryz.func197, Tryz.ntmps197
    go_wp2_with (go_at_call 133; go_must (refine HC.out.mono ?_); rw [HU.out]; rintro e w1 ⟨rfl, rfl⟩)
    go_ret3
    rw [H.out]
    refine ⟨?_, rfl⟩
    first
      | rfl
      | (rw [← HQ.out]; rfl)
  · have H : Hid (readFl l a = (0, 0, k)) := Lib.hid (by rw [hbase, if_neg hk0])
    have hd : ((k : Int) != 0) = true := by rw [bne_iff_ne]; omega
    clear hbase hend
    go_enter Tryz.func197, Tryz.ntmps197
    go_wp2_with (go_at_call 133; go_must (refine HC.out.mono ?_); rw [HU.out]; rintro e w1 ⟨rfl, rfl⟩)
    go_ret3
    rw [H.out]
    exact ⟨rfl, rfl⟩
end Go.Proofs.YtfdbcfaeiglbeaaGreatDoor
