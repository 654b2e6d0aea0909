/-
  Byte slices that a call hands out as its own: the posts. Over any program.
-/
import Derived.Test.YtbcljgcilbfblaaDoorKit3
namespace Go.Proofs.YtbcljgcilbfblaaDoor
open Go.RowKit

/-- The slice that lies at A is the call's own row of these bytes. T: the element type. -/
def OwnB (T : TypeId) (base : Nat) (w : World) (A : Option Addr) (c : Nat) (l : List UInt8) : Prop := w.ownsRow base T 1 (.slice A l.length c) l.length (u8s l)
section
variable {T : TypeId} {base B : Nat} {w w' : World} {A : Option Addr} {c n : Nat} {l : List UInt8}
theorem OwnB.rb (h : OwnB T base w A c l) : RB w w.heap.size A l.length l := RB.own h
theorem OwnB.later (h : OwnB T base w A c l) (hb : Below w.heap.size w w') : OwnB T base w' A c l := own_below h hb
theorem OwnB.rebase {base' : Nat} (h : OwnB T base w A c l) (hb : base' ≤ base) : OwnB T base' w A c l := by
  refine ⟨h.1, ?_⟩
  rcases h.2 with h' | ⟨g, cap, cur, h1, h2, h3⟩
  · exact .inl h'
  · exact .inr ⟨g, cap, cur, h1, Nat.le_trans hb h2, h3⟩
theorem OwnB.cap (h : OwnB T base w A c l) : l.length ≤ c ∧ c ≤ maxLen ∧ (A = none → c = 0) := by
  obtain ⟨A', c', e, h1, h2, h3, _⟩ := own_slice h
  injection e with e1 _ e2
  subst e1; subst e2
  exact ⟨h1, h2, h3⟩
theorem own_bytes {v : Value} (h : w.ownsRow base T 1 v n (u8s l)) : ∃ A c, v = .slice A l.length c ∧ OwnB T base w A c l := by
  have hn : l.length = n := by have := h.1; rw [u8s_length] at this; omega
  subst hn
  obtain ⟨A, c, rfl, _⟩ := own_slice h
  exact ⟨A, c, rfl, h⟩
/-- The same under a name of its own: so that the walk does not take the length apart. -/
theorem own_named {v : Value} (h : w.ownsRow base T 1 v n (u8s l)) : ∃ L A c, Hid (L = l) ∧ Hid (L.length = n) ∧ v = .slice A L.length c ∧ OwnB T base w A c L := by
  obtain ⟨A, c, e, ho⟩ := own_bytes h
  exact ⟨l, A, c, Lib.hid rfl, Lib.hid (by have := h.1; rw [u8s_length] at this; omega), e, ho⟩
/-- What a call leaves that hands out new bytes. -/
def BytesPost (T : TypeId) (l : List UInt8) (w : World) (e : Ending) (w' : World) : Prop :=
  ∃ A c, e = .returned (.slice A l.length c) ∧ OwnB T w.heap.size w' A c l ∧ Below w.heap.size w w'
theorem bytes_post {v : Value} (h : w'.ownsRow w.heap.size T 1 v n (u8s l)) (hb : Below w.heap.size w w') : BytesPost T l w (.returned v) w' := by
  obtain ⟨A, c, rfl, ho⟩ := own_bytes h
  exact ⟨A, c, rfl, ho, hb⟩
/-- New bytes and an error. -/
def BytesPost2 (T : TypeId) (l : List UInt8) (k : Int) (w : World) (e : Ending) (w' : World) : Prop :=
  ∃ A c, e = .returned (.tuple #[.slice A l.length c, .int .i64 k]) ∧ OwnB T w.heap.size w' A c l ∧ Below w.heap.size w w'
theorem bytes_post2 {v : Value} {k : Int} (h : w'.ownsRow w.heap.size T 1 v n (u8s l)) (hb : Below w.heap.size w w') : BytesPost2 T l k w (.returned (.tuple #[v, .int .i64 k])) w' := by
  obtain ⟨A, c, rfl, ho⟩ := own_bytes h
  exact ⟨A, c, rfl, ho, hb⟩
theorem bytes_none2 {k : Int} (hb : Below w.heap.size w w') : BytesPost2 T [] k w (.returned (.tuple #[.slice none 0 0, .int .i64 k])) w' := bytes_post2 (n := 0) (own_nil _ _ _ _) hb
/-- New bytes, a place, an error. -/
def BytesPost3 (T : TypeId) (l : List UInt8) (p k : Int) (w : World) (e : Ending) (w' : World) : Prop :=
  ∃ A c, e = .returned (.tuple #[.slice A l.length c, .int .i64 p, .int .i64 k]) ∧ OwnB T w.heap.size w' A c l ∧ Below w.heap.size w w'
theorem bytes_post3 {v : Value} {p k : Int} (h : w'.ownsRow w.heap.size T 1 v n (u8s l)) (hb : Below w.heap.size w w') : BytesPost3 T l p k w (.returned (.tuple #[v, .int .i64 p, .int .i64 k])) w' := by
  obtain ⟨A, c, rfl, ho⟩ := own_bytes h
  exact ⟨A, c, rfl, ho, hb⟩
theorem bytes_none3 {p k : Int} (hb : Below w.heap.size w w') : BytesPost3 T [] p k w (.returned (.tuple #[.slice none 0 0, .int .i64 p, .int .i64 k])) w' := bytes_post3 (n := 0) (own_nil _ _ _ _) hb
end

theorem below_grown_drew {w w1 : World} (h : w.drew.grownBy w1 none) : Below w.heap.size w w1 := ((Below.refl w.heap.size w).drew).grown h (Nat.le_refl _) (by simp)
theorem below_grown_none {w w1 : World} (h : w.grownBy w1 none) : Below w.heap.size w w1 := (Below.refl w.heap.size w).grown h (Nat.le_refl _) (by simp)
theorem below_drewN {B n : Nat} {w w1 : World} (h : Below B w w1) : Below B w (w1.drewN n) := ⟨h.os, h.tape, h.output, h.size, h.block⟩
theorem i64_sum {x : Int} (h1 : -9223372036854775808 ≤ x) (h2 : x ≤ 9223372036854775807) : IntKind.i64.wrap x = x := IntWalk.i64_in _ ⟨h1, h2⟩
/-- A literal that was just made. -/
theorem reads_lit (w : World) (C : Array Value) (l : List UInt8) (t : TypeId) (fr : Nat × Nat) (hC : C.toList = u8s l) : RB (w.alloc (.cells C t fr)) (w.heap.size + 1) (some ⟨w.heap.size, 0, none⟩) l.length l :=
  RB.mk' rfl fun _ => ⟨_, 0, rfl, by omega, fun j c hj => by
    rw [Nat.zero_add, World.cell?_alloc_mark, ← Array.getElem?_toList, hC]
    exact u8s_at hj⟩

/-- A list of one slice, just made. -/
theorem rbs_one (w : World) (A : Option Addr) (n c : Nat) (l : List UInt8) (t : TypeId) (fr : Nat × Nat) (h1 : n ≤ c) (h2 : c ≤ 9223372036854775807) (h3 : A = none → c = 0) (hr : RB w w.heap.size A n l) :
    RBs (w.alloc (.cells #[.slice A n c] t fr)) (w.heap.size + 1) (some ⟨w.heap.size, 0, none⟩) 1 [l] := by
  obtain rfl := hr.len
  have hb : Below w.heap.size w (w.alloc (.cells #[.slice A l.length c] t fr)) := (Below.refl _ _).alloc (Nat.le_refl _) _
  refine (KV.nil.cons ⟨A, c, rfl, h1, h2, h3, (hr.below hb).more (by omega)⟩).rbs ⟨rfl, fun _ => ⟨_, 0, rfl, by omega, fun j u hu => ?_⟩⟩
  rw [Nat.zero_add, World.cell?_alloc_mark, ← Array.getElem?_toList]
  exact hu
theorem OwnB.one {T : TypeId} {base : Nat} {w : World} {A : Option Addr} {c : Nat} {l : List UInt8} (h : OwnB T base w A c l) (t : TypeId) (fr : Nat × Nat) :
    RBs (w.alloc (.cells #[.slice A l.length c] t fr)) (w.heap.size + 1) (some ⟨w.heap.size, 0, none⟩) 1 [l] := by
  obtain ⟨h1, h2, h3⟩ := h.cap
  unfold maxLen at h2
  exact rbs_one w A l.length c l t fr h1 h2 h3 h.rb

/-- A slice that reads, with what its capacity must be. -/
structure Sl (w : World) (A : Option Addr) (n c : Nat) (l : List UInt8) : Prop where
  rb : RB w w.heap.size A n l
  cap : n ≤ c
  lim : c ≤ 9223372036854775807
  nil : A = none → c = 0
section
variable {T : TypeId} {base : Nat} {w w' : World} {A : Option Addr} {c n m : Nat} {l : List UInt8}
theorem Sl.later (h : Sl w A n c l) (hb : Below w.heap.size w w') : Sl w' A n c l := ⟨h.rb.later hb, h.cap, h.lim, h.nil⟩
theorem Sl.len (h : Sl w A n c l) : l.length = n := h.rb.len
theorem Sl.le (h : Sl w A n c l) : n ≤ 9223372036854775807 := Nat.le_trans h.cap h.lim
theorem Sl.one (h : Sl w A n c l) (t : TypeId) (fr : Nat × Nat) : RBs (w.alloc (.cells #[.slice A n c] t fr)) (w.alloc (.cells #[.slice A n c] t fr)).heap.size (some ⟨w.heap.size, 0, none⟩) 1 [l] :=
  (rbs_one w A n c l t fr h.cap h.lim h.nil h.rb).more (by simp)
theorem Sl.take (h : Sl w A n c l) (hm : m ≤ n) : Sl w A m c (l.take m) := ⟨h.rb.take hm, Nat.le_trans hm h.cap, h.lim, h.nil⟩
/-- 's[k:]', where something of the room is left. -/
theorem Sl.drop {k : Nat} (h : Sl w A n c l) (hk : k ≤ n) (hc : k < c) : Sl w (A.map (·.add k)) (n - k) (c - k) (l.drop k) := by
  have h1 := h.rb.drop (k := k) (cap := c) hk h.cap
  rw [if_neg (by omega)] at h1
  refine ⟨h1, by have := h.cap; omega, by have := h.lim; omega, fun e => ?_⟩
  cases A with
  | none => have := h.nil rfl; omega
  | some _ => cases e
theorem Sl.own (h : OwnB T base w A c l) : Sl w A l.length c l := by
  obtain ⟨h1, h2, h3⟩ := h.cap
  unfold maxLen at h2
  exact ⟨h.rb, h1, h2, h3⟩
theorem BytesPost.at_ {e : Ending} (h : BytesPost T l w e w') (hn : l.length = n) : ∃ A c, e = .returned (.slice A n c) ∧ Sl w' A n c l ∧ OwnB T w.heap.size w' A c l ∧ Below w.heap.size w w' := by
  subst hn
  obtain ⟨A, c, rfl, ho, hb⟩ := h
  exact ⟨A, c, rfl, Sl.own ho, ho, hb⟩
theorem BytesPost2.at_ {e : Ending} {k k' : Int} (h : BytesPost2 T l k w e w') (hn : l.length = n) (hk : k = k') : ∃ A c, e = .returned (.tuple #[.slice A n c, .int .i64 k']) ∧ Sl w' A n c l ∧ OwnB T w.heap.size w' A c l ∧ Below w.heap.size w w' := by
  subst hn; subst hk
  obtain ⟨A, c, rfl, ho, hb⟩ := h
  exact ⟨A, c, rfl, Sl.own ho, ho, hb⟩
theorem BytesPost3.at_ {e : Ending} {p p' k k' : Int} (h : BytesPost3 T l p k w e w') (hn : l.length = n) (hp : p = p') (hk : k = k') : ∃ A c, e = .returned (.tuple #[.slice A n c, .int .i64 p', .int .i64 k']) ∧ Sl w' A n c l ∧ OwnB T w.heap.size w' A c l ∧ Below w.heap.size w w' := by
  subst hn; subst hp; subst hk
  obtain ⟨A, c, rfl, ho, hb⟩ := h
  exact ⟨A, c, rfl, Sl.own ho, ho, hb⟩
theorem Sl.lit (w : World) (C : Array Value) (l : List UInt8) (t : TypeId) (fr : Nat × Nat) (hC : C.toList = u8s l) (hn : l.length = n) (hc : n ≤ 9223372036854775807) : Sl (w.alloc (.cells C t fr)) (some ⟨w.heap.size, 0, none⟩) n n l := by
  subst hn
  exact ⟨(reads_lit w C l t fr hC).more (by simp), Nat.le_refl _, hc, fun e => nomatch e⟩
end

theorem Sl.cons {w : World} {A : Option Addr} {n c : Nat} {l : List UInt8} {vs : List Value} {ks : List (List UInt8)} (h : Sl w A n c l) (hk : KV w w.heap.size vs ks) : KV w w.heap.size (.slice A n c :: vs) (l :: ks) := by
  obtain rfl := h.len
  exact hk.cons ⟨A, c, rfl, h.cap, h.lim, h.nil, h.rb⟩
theorem Sl.none (w : World) : Sl w none 0 0 [] := ⟨RB.nil, Nat.le_refl _, by omega, fun _ => rfl⟩
/-- A literal list of slices, just made. -/
theorem kv_lit (w : World) (C : Array Value) (ks : List (List UInt8)) (n : Nat) (t : TypeId) (fr : Nat × Nat) (h : KV w w.heap.size C.toList ks) (hn : ks.length = n) :
    RBs (w.alloc (.cells C t fr)) (w.alloc (.cells C t fr)).heap.size (some ⟨w.heap.size, 0, none⟩) n ks := by
  subst hn
  have hb : Below w.heap.size w (w.alloc (.cells C t fr)) := (Below.refl _ _).alloc (Nat.le_refl _) _
  have hC : C.toList.length = ks.length := h.1
  refine ((h.below hb).more (by simp)).rbs ⟨by rw [hC]; omega, fun _ => ⟨_, 0, rfl, by simp, fun j u hu => ?_⟩⟩
  rw [Nat.zero_add, World.cell?_alloc_mark, ← Array.getElem?_toList]
  exact hu

end Go.Proofs.YtbcljgcilbfblaaDoor
