/-
  Many desks: each by its place in the list.
-/
import Derived.Test.YtbcljgcilbfblaaDoorWireG1
namespace Go.Proofs.YtbcljgcilbfblaaDoor
open Go.RowKit

structure Dk where
  g : Nat
  A : Option Addr
  n : Nat
  c : Nat
  N : Nat
  l : List UInt8
def Dk.ptr (d : Dk) : Value := .pointer (some ⟨d.g, 0, none⟩)
/-- What was lent. -/
def Dk.val (d : Dk) : Value := .slice d.A d.N d.c
def Dk.o (d : Dk) : List Ob := [boxO d.g [.slice d.A d.n d.c, .int .i64 (d.N : Int)], rowO 5 1 (.slice d.A d.n d.c) d.n (u8s d.l)]
def dsO (ds : List Dk) : List Ob := ds.flatMap Dk.o
/-- The bytes were lent. -/
structure LentD (d : Dk) (b : List UInt8) : Prop where
  N : d.N = b.length
  n : d.n ≤ 4000000
  A : ∃ gA, d.A = some ⟨gA, 0, none⟩
  l : LentL d.l b
theorem dsO_at {ds : List Dk} {j : Nat} {d : Dk} (h : ds[j]? = some d) : ∃ R, (dsO ds).Perm (d.o ++ R) ∧ ∀ d', (dsO (ds.set j d')).Perm (d'.o ++ R) := by
  obtain ⟨l1, l2, rfl, rfl⟩ := split_at h
  refine ⟨dsO l1 ++ dsO l2, ?_, fun d' => ?_⟩
  · have e : dsO (l1 ++ d :: l2) = dsO l1 ++ (d.o ++ dsO l2) := by simp [dsO]
    rw [e]; exact List.perm_append_comm_assoc _ _ _
  · have e : (l1 ++ d :: l2).set l1.length d' = l1 ++ d' :: l2 := by
      rw [List.set_append_right _ _ (Nat.le_refl _), Nat.sub_self]; rfl
    have e2 : dsO (l1 ++ d' :: l2) = dsO l1 ++ (d'.o ++ dsO l2) := by simp [dsO]
    rw [e, e2]; exact List.perm_append_comm_assoc _ _ _
/-- One desk ahead of all, and back. -/
theorem desk_front {w x : World} {pre : List Ob} {ds : List Dk} {j : Nat} {d : Dk} (hj : ds[j]? = some d) (h : OW w (pre ++ dsO ds) x) : ∃ R, OW w (d.o ++ R) x ∧ ∀ d' y, OW w (d'.o ++ R) y → OW w (pre ++ dsO (ds.set j d')) y := by
  obtain ⟨R, h1, h2⟩ := dsO_at hj
  refine ⟨pre ++ R, h.perm ((List.Perm.append_left pre h1).trans (List.perm_append_comm_assoc _ _ _)), fun d' y hy => ?_⟩
  exact hy.perm ((List.perm_append_comm_assoc _ _ _).trans (List.Perm.append_left pre (h2 d').symm))
theorem set_same {ds : List Dk} {j : Nat} {d : Dk} (hj : ds[j]? = some d) : ds.set j d = ds := by
  obtain ⟨l1, l2, rfl, rfl⟩ := split_at hj
  rw [List.set_append_right _ _ (Nat.le_refl _), Nat.sub_self]; rfl

theorem lendAt (pre : List Ob) (ds : List Dk) (j m bc : Nat) (d : Dk) (b : List UInt8) (B : Option Addr) (v : Value) (w x : World) (hv : d.ptr = v) (hj : ds[j]? = some d) (h : OW w (pre ++ dsO ds) x) (hd : d.n ≤ 4000000) (hS : ∀ z, Below w.heap.size w z → Sl z B m bc b) (hm : m ≤ 1048576) :
    Calls Tryd.prog 5 #[v, .slice B m bc] x fun e y => ∃ d', d'.g = d.g ∧ LentD d' b ∧ e = .returned (.slice d'.A m d'.c) ∧ OW w (pre ++ dsO (ds.set j d')) y := by
  subst hv
  obtain ⟨R, h1, h2⟩ := desk_front hj h
  refine (lend_any d.g m d.n d.c d.N bc b d.l d.A B w x R h1 hS hm hd).mono ?_
  rintro e y ⟨gA, n1, c1, l1, q1, q2, rfl, q4⟩
  exact ⟨⟨d.g, some ⟨gA, 0, none⟩, n1, c1, m, l1⟩, rfl, ⟨(hS w (Below.refl _ _)).len.symm, q1, ⟨gA, rfl⟩, q2⟩, rfl, h2 _ _ q4⟩
theorem backAt (pre : List Ob) (ds : List Dk) (j m bc : Nat) (d : Dk) (b : List UInt8) (B : Option Addr) (v : Value) (w x : World) (hv : d.ptr = v) (hj : ds[j]? = some d) (h : OW w (pre ++ dsO ds) x) (hd : LentD d b) (hS : ∀ z, Below w.heap.size w z → Sl z B m bc b) :
    Calls Tryd.prog 7 #[v, .slice B m bc] x fun e y => e = .returned (.bool true) ∧ OW w (pre ++ dsO ds) y := by
  subst hv
  obtain ⟨R, h1, h2⟩ := desk_front hj h
  obtain ⟨dg, dA, dn, dc, dN, dl⟩ := d
  obtain ⟨q1, q2, ⟨gA, rfl⟩, q4⟩ := hd
  obtain rfl : dN = m := q1.trans (hS w (Below.refl _ _)).len
  refine (back_any dg gA dN dn dc bc b dl B w x R h1 q4 hS q2).mono ?_
  rintro e y ⟨rfl, q⟩
  have q' := h2 ⟨dg, some ⟨gA, 0, none⟩, dn, dc, dN, dl⟩ y q
  rw [set_same hj] at q'
  exact ⟨rfl, q'⟩
theorem wipeAt (pre : List Ob) (ds : List Dk) (j : Nat) (d : Dk) (b : List UInt8) (v : Value) (w x : World) (hv : d.ptr = v) (hj : ds[j]? = some d) (h : OW w (pre ++ dsO ds) x) (hd : LentD d b) :
    Calls Tryd.prog 8 #[v] x fun e y => e = .returned (.tuple #[]) ∧ ∃ d', d'.g = d.g ∧ d'.n ≤ 4000000 ∧ OW w (pre ++ dsO (ds.set j d')) y := by
  subst hv
  obtain ⟨R, h1, h2⟩ := desk_front hj h
  obtain ⟨dg, dA, dn, dc, dN, dl⟩ := d
  obtain ⟨q1, q2, ⟨gA, rfl⟩, q4⟩ := hd
  have hl : dl.length = dn := row_lenG h1 (i := 1) rfl
  refine (wipe_any dg gA dN dn dc dl w x R h1 (by have h5 : b.length ≤ dl.length := q4.1; have h6 : dN = b.length := q1; omega) q2).mono ?_
  rintro e y ⟨rfl, l2, q⟩
  exact ⟨rfl, ⟨dg, some ⟨gA, 0, none⟩, dn, dc, dN, l2⟩, rfl, q2, h2 _ _ q⟩
theorem slD {w x : World} {pre : List Ob} {ds : List Dk} {j : Nat} {d : Dk} {b : List UInt8} (hj : ds[j]? = some d) (h : OW w (pre ++ dsO ds) x) (hd : LentD d b) {m : Nat} (hm : b.length = m) : Sl x d.A m d.c b := by
  obtain ⟨R, h1, _⟩ := desk_front hj h
  exact lent_sl h1 (i := 1) rfl hd.l hm
/-- All parts lie lent. -/
def AllLent (ds : List Dk) (ps : List (List UInt8)) (lo hi : Nat) : Prop := ∀ (i : Nat) p, lo ≤ i → i < hi → ps[i]? = some p → ∃ d, ds[i + 1]? = some d ∧ LentD d p
def vals (ds : List Dk) (k : Nat) : List Value := ((ds.drop 1).take k).map Dk.val
theorem vals_at {ds : List Dk} {k i : Nat} {d : Dk} (h : ds[i + 1]? = some d) (hi : i < k) : (vals ds k)[i]? = some d.val := by
  unfold vals
  rw [List.getElem?_map, List.getElem?_take, if_pos hi, List.getElem?_drop, show 1 + i = i + 1 from by omega, h]; rfl
theorem vals_snoc {ds : List Dk} {k : Nat} {d d' : Dk} (h : ds[k + 1]? = some d) : vals (ds.set (k + 1) d') (k + 1) = vals ds k ++ [d'.val] := by
  have hlt := (List.getElem?_eq_some_iff.1 h).1
  apply List.ext_getElem?
  intro i
  unfold vals
  rcases Nat.lt_trichotomy i k with hi | hi | hi
  · rw [List.getElem?_append_left (by simp; omega)]
    simp only [List.getElem?_map, List.getElem?_take, List.getElem?_drop, if_pos hi, if_pos (Nat.lt_succ_of_lt hi)]
    rw [List.getElem?_set_ne (by omega)]
  · subst hi
    rw [List.getElem?_append_right (by simp; omega)]
    have e : (((ds.drop 1).take i).map Dk.val).length = i := by simp; omega
    rw [e, Nat.sub_self]
    simp only [List.getElem?_map, List.getElem?_take, List.getElem?_drop, if_pos (Nat.lt_succ_self i)]
    rw [show 1 + i = i + 1 from by omega, List.getElem?_set_self hlt]; rfl
  · rw [List.getElem?_eq_none (by simp; omega), List.getElem?_eq_none (by simp; omega)]
theorem lent_rbs {w x : World} {pre : List Ob} {ds : List Dk} {ps : List (List UInt8)} {PA : Option Addr} {k pc : Nat} {T : TypeId} (h : OW w (rowO T 1 (.slice PA k pc) k (vals ds k) :: pre ++ dsO ds) x) (hl : ps.length = k) (ha : AllLent ds ps 0 k) : RBs x x.heap.size PA k ps := by
  have hr : Reads x x.heap.size 1 PA k (vals ds k) := Reads.own (h.row (i := 0) rfl)
  refine ⟨vals ds k, hr, ?_, fun i p hp => ?_⟩
  · have := hr.1; omega
  · have hi := (List.getElem?_eq_some_iff.1 hp).1
    obtain ⟨d, h1, h2⟩ := ha i p (Nat.zero_le _) (by omega) hp
    have hs := slD (m := p.length) h1 h h2 rfl
    refine ⟨d.A, d.c, ?_, hs.cap, hs.lim, hs.nil, hs.rb⟩
    rw [vals_at h1 (by omega), Dk.val, h2.N]
theorem AllLent.set {ds : List Dk} {ps : List (List UInt8)} {k : Nat} {d d' : Dk} {p : List UInt8} (h : AllLent ds ps 0 k) (hd : ds[k + 1]? = some d) (hp : ps[k]? = some p) (hl : LentD d' p) : AllLent (ds.set (k + 1) d') ps 0 (k + 1) := fun i q _ hi hq => by
  have hlt := (List.getElem?_eq_some_iff.1 hd).1
  by_cases he : i = k
  · subst he
    rw [hp] at hq; injection hq with hq; subst hq
    exact ⟨d', by rw [List.getElem?_set_self hlt], hl⟩
  · obtain ⟨e, h1, h2⟩ := h i q (Nat.zero_le _) (by omega) hq
    exact ⟨e, by rw [List.getElem?_set_ne (by omega)]; exact h1, h2⟩
theorem AllLent.drop {ds : List Dk} {ps : List (List UInt8)} {lo hi k : Nat} {d' : Dk} (h : AllLent ds ps lo hi) (hk : k ≤ lo) : AllLent (ds.set k d') ps lo hi := fun i q h1 h2 hq => by
  obtain ⟨e, h3, h4⟩ := h i q h1 h2 hq
  exact ⟨e, by rw [List.getElem?_set_ne (by omega)]; exact h3, h4⟩
theorem AllLent.up {ds : List Dk} {ps : List (List UInt8)} {lo hi : Nat} (h : AllLent ds ps lo hi) : AllLent ds ps (lo + 1) hi := fun i q h1 h2 hq => h i q (by omega) h2 hq
theorem ptrs_set {ds : List Dk} {j : Nat} {d d' : Dk} (hj : ds[j]? = some d) (hg : d'.g = d.g) : (ds.set j d').map Dk.ptr = ds.map Dk.ptr := by
  obtain ⟨l1, l2, rfl, rfl⟩ := split_at hj
  rw [List.set_append_right _ _ (Nat.le_refl _), Nat.sub_self]
  simp [Dk.ptr, hg]
def SmallD (ds : List Dk) : Prop := ∀ d, d ∈ ds → d.n ≤ 4000000
theorem SmallD.set {ds : List Dk} {j : Nat} {d' : Dk} (h : SmallD ds) (hd : d'.n ≤ 4000000) : SmallD (ds.set j d') := fun d hm => by
  rcases List.mem_or_eq_of_mem_set hm with h1 | rfl
  · exact h d h1
  · exact hd
theorem dsO_snoc (ds : List Dk) (d : Dk) : dsO (ds ++ [d]) = dsO ds ++ d.o := by simp [dsO]
theorem new_desk {w x : World} {pre : List Ob} {ds : List Dk} {g : Nat} (h : OW w ((pre ++ dsO ds) ++ [boxO g [.slice none 0 0, .int .i64 0]]) x) : OW w (pre ++ dsO (ds ++ [⟨g, none, 0, 0, 0, []⟩])) x := by
  have h2 := h.nilRow 5 1
  rw [dsO_snoc, ← List.append_assoc]
  rw [List.append_assoc] at h2
  exact h2
theorem SmallD.snoc {ds : List Dk} {d : Dk} (h : SmallD ds) (hd : d.n ≤ 4000000) : SmallD (ds ++ [d]) := fun e he => by
  rcases List.mem_append.1 he with h1 | h1
  · exact h e h1
  · rw [List.mem_singleton.1 h1]; exact hd
theorem AllLent.snoc {ds : List Dk} {ps : List (List UInt8)} {lo hi : Nat} {d : Dk} (h : AllLent ds ps lo hi) : AllLent (ds ++ [d]) ps lo hi := fun i q h1 h2 hq => by
  obtain ⟨e, h3, h4⟩ := h i q h1 h2 hq
  exact ⟨e, by rw [List.getElem?_append_left (List.getElem?_eq_some_iff.1 h3).1]; exact h3, h4⟩
theorem vals_app {ds : List Dk} {d : Dk} {k : Nat} (h : k + 1 ≤ ds.length) : vals (ds ++ [d]) k = vals ds k := by
  unfold vals
  cases ds with
  | nil => simp at h
  | cons a t =>
    simp only [List.cons_append, List.drop_succ_cons, List.drop_zero]
    rw [List.take_append_of_le_length (by simp at h; omega)]
theorem op_row : RowTy Tryd.prog 32 6 := ⟨⟨_, Tryd.underlying32, rfl⟩, by kernel_rfl⟩
theorem desk_ptrs : SliceOf Tryd.prog 28 24 1 8 := SliceOf.mk' (z := .pointer none) Tryd.underlying28 (by kernel_rfl) rfl (by decide)
theorem part_rows : SliceOf Tryd.prog 30 25 1 24 := SliceOf.mk' (z := .slice none 0 0) Tryd.underlying30 (by kernel_rfl) rfl (by decide)
end Go.Proofs.YtbcljgcilbfblaaDoor
