/-
  Laid together by merge.py: CellL16, Kit23, CellL18, CellL17, Law4, CellLaw2, Kit30, Kit31, Kept, Kept2, Kept3.
-/
import Derived.Test.YtcikhlieaoanoaaCm5
import Derived.Deep.DeepCutAuto
import Derived.Great.BuildSlice
import Derived.Test.YtcikhlieaoanoaaCm4

/-
  The law's Turned, walked. (Printed by gen_turned.py.)
-/
namespace Go.Proofs.Ytcikhlieaoanoaa
open Go.RowKit

/-- A row's bytes are others. -/
theorem St.putRow {T : TypeId} {w x y : World} {bs : List Bx1} {rs : RowL} {i c : Nat} {A : Option Addr} {l l' : List UInt8} (h : St T w bs rs x) (hr : rs[i]? = some (A, c, l)) (ho : OwnB T w.heap.size y A c l') (hc : Chg (fun b => A.map (·.block) = some b) x y) : St T w bs (rs.set i (A, c, l')) y := by
  have hS : ∀ b, A.map (·.block) = some b → ∃ a, A = some a ∧ a.block = b := fun b e => by
    cases A with
    | none => cases e
    | some a => injection e with e; exact ⟨a, rfl, e⟩
  have hlt := (List.getElem?_eq_some_iff.1 hr).1
  have hget : ∀ (j : Nat) r, (rs.set i (A, c, l'))[j]? = some r → (j = i ∧ r = (A, c, l')) ∨ (j ≠ i ∧ rs[j]? = some r) := fun j r hj => by
    rw [List.getElem?_set] at hj
    by_cases e : i = j
    · subst e; rw [if_pos rfl, if_pos hlt] at hj; injection hj with hj; exact .inl ⟨rfl, hj.symm⟩
    · rw [if_neg e] at hj; exact .inr ⟨fun h => e h.symm, hj⟩
  have hub : ∀ b, A.map (·.block) = some b → w.heap.size ≤ b := fun b e => by
    obtain ⟨a, ha, rfl⟩ := hS b e
    exact ((h.rows.1 i _ hr).lt ha).1
  have hbx : ∀ (q : Nat) g cs, bs[q]? = some (some (g, cs)) → ¬ A.map (·.block) = some g := fun q g cs hb e => by
    obtain ⟨a, ha, e'⟩ := hS g e
    exact h.off q i g cs _ a hb hr ha e'
  have h1 : St T w bs [] x := ⟨h.up, h.box, h.ne, RowsB.nil, fun _ _ _ _ _ _ _ h2 => by simp at h2⟩
  have h2 := h1.chg hc hub hbx (fun _ _ h3 => by simp at h3)
  refine ⟨h2.up, h2.box, h2.ne, ⟨fun j r hj => ?_, fun j q r s hj hq hne a b ha hb => ?_⟩, fun j q g cs r a hj hq ha => ?_⟩
  · rcases hget j r hj with ⟨rfl, rfl⟩ | ⟨hji, hj⟩
    · exact ho
    · refine own_chg (h.rows.1 j r hj) hc fun b hb e => ?_
      obtain ⟨a, ha, e'⟩ := hS b e
      obtain ⟨A2, c2, l2⟩ := r
      cases A2 with
      | none => cases hb
      | some a2 =>
        injection hb with hb
        exact h.rows.2 j i _ _ hj hr hji a2 a rfl ha (hb.trans e'.symm)
  · rcases hget j r hj with ⟨rfl, rfl⟩ | ⟨hji, hj1⟩ <;> rcases hget q s hq with ⟨rfl, rfl⟩ | ⟨hqi, hq1⟩
    · exact absurd rfl hne
    · exact h.rows.2 j q _ _ hr hq1 hne a b ha hb
    · exact h.rows.2 j q _ _ hj1 hr hne a b ha hb
    · exact h.rows.2 j q _ _ hj1 hq1 hne a b ha hb
  · rcases hget q r hq with ⟨rfl, rfl⟩ | ⟨hqi, hq1⟩
    · exact h.off j q g cs _ a hj hr ha
    · exact h.off j q g cs _ a hj hq1 ha
theorem results_boxL {P : Program} {fn : Func} {p : Tmp} {ty : TypeId} (h : fn.results = #[.cell p ty]) (tmps : Array Value) (w : World) (g : Nat) (cs : List Value)
    (hp : tmps.getD p undef = .pointer (some ⟨g, 0, none⟩)) (hc : w.rangeAt g 0 cs)
    (ha : (P.underlying ty).map (fun d => match d with | .struct _ | .array _ _ => true | _ => false) = some true) (hi : (P.info? ty).map (·.size) = some cs.toArray.size) :
    (results fn tmps).run P w = .ok (.agg cs.toArray) w :=
  results_box0 h tmps w g cs.toArray hp (fun j v hv => by have := hc j v (by simpa using hv); rwa [Nat.zero_add] at this) ha hi
theorem turn_zero : (Try.prog.info? 27).map (·.size) = some 7 := ent_size
/-- What Turned leaves: the entry's and the buffer's bytes, as long as they were. -/
def TurnPost (w : World) (bs : List Bx1) (rs : RowL) (L : List UInt8) (e : Ent) (A0 : Option Addr) (c0 : Nat) (A : Option Addr) (n c : Nat) (B : Option Addr) (m d : Nat) (D : Option Addr) (v q : Nat) (r : Ending) (y : World) : Prop :=
  ∃ L' e', r = .returned (.agg (entL A n c B m d D v q e').toArray) ∧ L'.length = L.length ∧ e'.row.length = e.row.length ∧ e'.qual.length = e.qual.length ∧ e'.val.length = e.val.length ∧
    St 5 w bs ((A0, c0, L' ++ mkL 70) :: (A, c, e'.row ++ mkL 70) :: (B, d, e'.qual ++ mkL 70) :: (D, q, e'.val ++ mkL 70) :: rs) y
theorem bset0 (bs : List Bx1) (a b c z : Bx1) : (bs ++ [a] ++ [b] ++ [c]).set (bs.length + 0) z = bs ++ [z] ++ [b] ++ [c] := by simp
theorem bset2 (bs : List Bx1) (a b c z : Bx1) : (bs ++ [a] ++ [b] ++ [c]).set (bs.length + 2) z = bs ++ [a] ++ [b] ++ [z] := by
  rw [List.append_assoc, List.append_assoc, List.set_append_right _ _ (by omega), show bs.length + 2 - bs.length = 2 from by omega]; simp
theorem int_size : (Try.prog.info? 3).map (·.size) = some 1 := by kernel_rfl
set_option maxRecDepth 100000 in
set_option maxHeartbeats 2000000 in
theorem turned_0 (w : World) (bs : List Bx1) (rs : RowL) (L : List UInt8) (e : Ent) (A0 : Option Addr) (n0 c0 : Nat) (A : Option Addr) (n c : Nat) (B : Option Addr) (m d : Nat) (D : Option Addr) (v q : Nat) (ta tb : Int) (x : World) (hst : St 5 w bs ((A0, c0, L ++ mkL 70) :: (A, c, e.row ++ mkL 70) :: (B, d, e.qual ++ mkL 70) :: (D, q, e.val ++ mkL 70) :: rs) x)
    (hl : L.length = n0 ∧ e.row.length = n ∧ e.qual.length = m ∧ e.val.length = v ∧ n0 ≤ 5000 ∧ n ≤ 5000 ∧ m ≤ 5000 ∧ v ≤ 5000) :
    Calls Try.prog 40 #[.agg (entL A n c B m d D v q e).toArray, .slice A0 n0 c0, .agg #[.int .i64 0, .int .i64 ta, .int .i64 tb]] x (TurnPost w bs rs L e A0 c0 A n c B m d D v q) := by
  have HL := Lib.hid hl
  have bx_at : ∀ {a b c : Bx1} (i : Nat) {z : Bx1}, [a, b, c][i]? = some z → (bs ++ [a] ++ [b] ++ [c])[bs.length + i]? = some z := fun {_ _ _} i {_} h => by
    rw [List.append_assoc, List.append_assoc, List.getElem?_append_right (by omega), show bs.length + i - bs.length = i from by omega]; exact h
  have HX : Hid (St 5 w (bs ++ [some (x.heap.size, entL A n c B m d D v q e)] ++ [some (x.heap.size + 1, [.int .i64 (0), .int .i64 ta, .int .i64 tb])] ++ [some (x.heap.size + 1 + 1, zeroL)]) ((A0, c0, L ++ mkL 70) :: (A, c, e.row ++ mkL 70) :: (B, d, e.qual ++ mkL 70) :: (D, q, e.val ++ mkL 70) :: rs) (((x.alloc (.cells (entL A n c B m d D v q e).toArray 27)).alloc (.cells ([.int .i64 (0), .int .i64 ta, .int .i64 tb] : List Value).toArray 62)).alloc (.cells zeroL.toArray 27))) := Lib.hid (by
    have h := ((hst.push (t := 27) (entL A n c B m d D v q e)).push (t := 62) [.int .i64 (0), .int .i64 ta, .int .i64 tb]).push (t := 27) zeroL
    have e1 : ∀ (x : World) o, (x.alloc o).heap.size = x.heap.size + 1 := fun x o => by show (x.heap.push o).size = _; simp
    rw [e1, e1, e1] at h
    exact h)
  clear hst hl
  go_enter Try.func40, Try.ntmps40
  go_wp2_with (first
    | (refine wpList_load_cell rfl 3 (.tmp 7) rfl rfl (HX.out.cell (i := bs.length + 1) (bx_at 1 rfl) (j := 0) rfl) (fun w => Try.isAgg3 w) ?_)
    | (refine wpList_load_cell rfl 22 (.tmp 17) rfl rfl (HX.out.cell (i := bs.length + 0) (bx_at 0 rfl) (j := 0) rfl) (fun w => Try.isAgg22 w) ?_)
    | (refine wpList_load_cell rfl 3 (.tmp 19) rfl rfl (HX.out.cell (i := bs.length + 1) (bx_at 1 rfl) (j := 1) rfl) (fun w => Try.isAgg3 w) ?_)
    | (refine wpList_load_cell rfl 3 (.tmp 21) rfl rfl (HX.out.cell (i := bs.length + 1) (bx_at 1 rfl) (j := 2) rfl) (fun w => Try.isAgg3 w) ?_)
    | (go_at_call 66; go_must (refine (put_any w.heap.size e.row (mkL 70) A n c ta tb _ (HX.out.own (i := 1) rfl) HL.out.2.1 (by have := HL.out; omega)).mono ?_); rintro r y1 ⟨rfl, l', hl', ho, hc⟩; replace HX := Lib.hid (HX.out.putRow (i := 1) rfl ho hc); have HLL := Lib.hid hl'; clear hl' ho hc)
    | (refine wpList_load_row7 rfl 27 (.tmp 3) rfl rfl (HX.out.range (i := bs.length + 0) (bx_at 0 rfl)) ent_row ?_)
    | (refine wpList_store_st rfl 27 (.tmp 6) (.tmp 62) rfl HX.out (bs.length + 2) (bx_at 2 rfl) rfl (entL A n c B m d D v q e) rfl rfl ent_size (entL_one _ _ _ _ _ _ _ _ _ _) ?_; intro y2 hst _; replace HX := Lib.hid (by have h := hst; rw [bset2] at h; exact h); clear hst))
  (try simp only [Exit.inBlock, Exit.then])
  refine bodyPost_ret (results_boxL rfl _ _ (x.heap.size + 1 + 1) _ rfl (HX.out.range (i := bs.length + 2) (bx_at 2 rfl)) (by kernel_rfl) (by kernel_rfl)) rfl ?_
  have hl := HL.out
  have hll := HLL.out
  exact ⟨L, { e with row := l' }, rfl, rfl, by rw [hll]; exact hl.2.1.symm, rfl, rfl, HX.out.cut.cut.cut⟩

set_option maxRecDepth 100000 in
set_option maxHeartbeats 2000000 in
theorem turned_1 (w : World) (bs : List Bx1) (rs : RowL) (L : List UInt8) (e : Ent) (A0 : Option Addr) (n0 c0 : Nat) (A : Option Addr) (n c : Nat) (B : Option Addr) (m d : Nat) (D : Option Addr) (v q : Nat) (ta tb : Int) (x : World) (hst : St 5 w bs ((A0, c0, L ++ mkL 70) :: (A, c, e.row ++ mkL 70) :: (B, d, e.qual ++ mkL 70) :: (D, q, e.val ++ mkL 70) :: rs) x)
    (hl : L.length = n0 ∧ e.row.length = n ∧ e.qual.length = m ∧ e.val.length = v ∧ n0 ≤ 5000 ∧ n ≤ 5000 ∧ m ≤ 5000 ∧ v ≤ 5000) :
    Calls Try.prog 40 #[.agg (entL A n c B m d D v q e).toArray, .slice A0 n0 c0, .agg #[.int .i64 1, .int .i64 ta, .int .i64 tb]] x (TurnPost w bs rs L e A0 c0 A n c B m d D v q) := by
  have HL := Lib.hid hl
  have bx_at : ∀ {a b c : Bx1} (i : Nat) {z : Bx1}, [a, b, c][i]? = some z → (bs ++ [a] ++ [b] ++ [c])[bs.length + i]? = some z := fun {_ _ _} i {_} h => by
    rw [List.append_assoc, List.append_assoc, List.getElem?_append_right (by omega), show bs.length + i - bs.length = i from by omega]; exact h
  have HX : Hid (St 5 w (bs ++ [some (x.heap.size, entL A n c B m d D v q e)] ++ [some (x.heap.size + 1, [.int .i64 (1), .int .i64 ta, .int .i64 tb])] ++ [some (x.heap.size + 1 + 1, zeroL)]) ((A0, c0, L ++ mkL 70) :: (A, c, e.row ++ mkL 70) :: (B, d, e.qual ++ mkL 70) :: (D, q, e.val ++ mkL 70) :: rs) (((x.alloc (.cells (entL A n c B m d D v q e).toArray 27)).alloc (.cells ([.int .i64 (1), .int .i64 ta, .int .i64 tb] : List Value).toArray 62)).alloc (.cells zeroL.toArray 27))) := Lib.hid (by
    have h := ((hst.push (t := 27) (entL A n c B m d D v q e)).push (t := 62) [.int .i64 (1), .int .i64 ta, .int .i64 tb]).push (t := 27) zeroL
    have e1 : ∀ (x : World) o, (x.alloc o).heap.size = x.heap.size + 1 := fun x o => by show (x.heap.push o).size = _; simp
    rw [e1, e1, e1] at h
    exact h)
  clear hst hl
  go_enter Try.func40, Try.ntmps40
  go_wp2_with (first
    | (refine wpList_load_cell rfl 3 (.tmp 7) rfl rfl (HX.out.cell (i := bs.length + 1) (bx_at 1 rfl) (j := 0) rfl) (fun w => Try.isAgg3 w) ?_)
    | (refine wpList_load_cell rfl 22 (.tmp 26) rfl rfl (HX.out.cell (i := bs.length + 0) (bx_at 0 rfl) (j := 2) rfl) (fun w => Try.isAgg22 w) ?_)
    | (refine wpList_load_cell rfl 3 (.tmp 28) rfl rfl (HX.out.cell (i := bs.length + 1) (bx_at 1 rfl) (j := 1) rfl) (fun w => Try.isAgg3 w) ?_)
    | (refine wpList_load_cell rfl 3 (.tmp 30) rfl rfl (HX.out.cell (i := bs.length + 1) (bx_at 1 rfl) (j := 2) rfl) (fun w => Try.isAgg3 w) ?_)
    | (go_at_call 66; go_must (refine (put_any w.heap.size e.qual (mkL 70) B m d ta tb _ (HX.out.own (i := 2) rfl) HL.out.2.2.1 (by have := HL.out; omega)).mono ?_); rintro r y1 ⟨rfl, l', hl', ho, hc⟩; replace HX := Lib.hid (HX.out.putRow (i := 2) rfl ho hc); have HLL := Lib.hid hl'; clear hl' ho hc)
    | (refine wpList_load_row7 rfl 27 (.tmp 3) rfl rfl (HX.out.range (i := bs.length + 0) (bx_at 0 rfl)) ent_row ?_)
    | (refine wpList_store_st rfl 27 (.tmp 6) (.tmp 62) rfl HX.out (bs.length + 2) (bx_at 2 rfl) rfl (entL A n c B m d D v q e) rfl rfl ent_size (entL_one _ _ _ _ _ _ _ _ _ _) ?_; intro y2 hst _; replace HX := Lib.hid (by have h := hst; rw [bset2] at h; exact h); clear hst))
  (try simp only [Exit.inBlock, Exit.then])
  refine bodyPost_ret (results_boxL rfl _ _ (x.heap.size + 1 + 1) _ rfl (HX.out.range (i := bs.length + 2) (bx_at 2 rfl)) (by kernel_rfl) (by kernel_rfl)) rfl ?_
  have hl := HL.out
  have hll := HLL.out
  exact ⟨L, { e with qual := l' }, rfl, rfl, rfl, by rw [hll]; exact hl.2.2.1.symm, rfl, HX.out.cut.cut.cut⟩

set_option maxRecDepth 100000 in
set_option maxHeartbeats 2000000 in
theorem turned_2 (w : World) (bs : List Bx1) (rs : RowL) (L : List UInt8) (e : Ent) (A0 : Option Addr) (n0 c0 : Nat) (A : Option Addr) (n c : Nat) (B : Option Addr) (m d : Nat) (D : Option Addr) (v q : Nat) (ta tb : Int) (x : World) (hst : St 5 w bs ((A0, c0, L ++ mkL 70) :: (A, c, e.row ++ mkL 70) :: (B, d, e.qual ++ mkL 70) :: (D, q, e.val ++ mkL 70) :: rs) x)
    (hl : L.length = n0 ∧ e.row.length = n ∧ e.qual.length = m ∧ e.val.length = v ∧ n0 ≤ 5000 ∧ n ≤ 5000 ∧ m ≤ 5000 ∧ v ≤ 5000) :
    Calls Try.prog 40 #[.agg (entL A n c B m d D v q e).toArray, .slice A0 n0 c0, .agg #[.int .i64 2, .int .i64 ta, .int .i64 tb]] x (TurnPost w bs rs L e A0 c0 A n c B m d D v q) := by
  have HL := Lib.hid hl
  have bx_at : ∀ {a b c : Bx1} (i : Nat) {z : Bx1}, [a, b, c][i]? = some z → (bs ++ [a] ++ [b] ++ [c])[bs.length + i]? = some z := fun {_ _ _} i {_} h => by
    rw [List.append_assoc, List.append_assoc, List.getElem?_append_right (by omega), show bs.length + i - bs.length = i from by omega]; exact h
  have HX : Hid (St 5 w (bs ++ [some (x.heap.size, entL A n c B m d D v q e)] ++ [some (x.heap.size + 1, [.int .i64 (2), .int .i64 ta, .int .i64 tb])] ++ [some (x.heap.size + 1 + 1, zeroL)]) ((A0, c0, L ++ mkL 70) :: (A, c, e.row ++ mkL 70) :: (B, d, e.qual ++ mkL 70) :: (D, q, e.val ++ mkL 70) :: rs) (((x.alloc (.cells (entL A n c B m d D v q e).toArray 27)).alloc (.cells ([.int .i64 (2), .int .i64 ta, .int .i64 tb] : List Value).toArray 62)).alloc (.cells zeroL.toArray 27))) := Lib.hid (by
    have h := ((hst.push (t := 27) (entL A n c B m d D v q e)).push (t := 62) [.int .i64 (2), .int .i64 ta, .int .i64 tb]).push (t := 27) zeroL
    have e1 : ∀ (x : World) o, (x.alloc o).heap.size = x.heap.size + 1 := fun x o => by show (x.heap.push o).size = _; simp
    rw [e1, e1, e1] at h
    exact h)
  clear hst hl
  go_enter Try.func40, Try.ntmps40
  go_wp2_with (first
    | (refine wpList_load_cell rfl 3 (.tmp 7) rfl rfl (HX.out.cell (i := bs.length + 1) (bx_at 1 rfl) (j := 0) rfl) (fun w => Try.isAgg3 w) ?_)
    | (refine wpList_load_cell rfl 22 (.tmp 35) rfl rfl (HX.out.cell (i := bs.length + 0) (bx_at 0 rfl) (j := 6) rfl) (fun w => Try.isAgg22 w) ?_)
    | (refine wpList_load_cell rfl 3 (.tmp 37) rfl rfl (HX.out.cell (i := bs.length + 1) (bx_at 1 rfl) (j := 1) rfl) (fun w => Try.isAgg3 w) ?_)
    | (refine wpList_load_cell rfl 3 (.tmp 39) rfl rfl (HX.out.cell (i := bs.length + 1) (bx_at 1 rfl) (j := 2) rfl) (fun w => Try.isAgg3 w) ?_)
    | (go_at_call 66; go_must (refine (put_any w.heap.size e.val (mkL 70) D v q ta tb _ (HX.out.own (i := 3) rfl) HL.out.2.2.2.1 (by have := HL.out; omega)).mono ?_); rintro r y1 ⟨rfl, l', hl', ho, hc⟩; replace HX := Lib.hid (HX.out.putRow (i := 3) rfl ho hc); have HLL := Lib.hid hl'; clear hl' ho hc)
    | (refine wpList_load_row7 rfl 27 (.tmp 3) rfl rfl (HX.out.range (i := bs.length + 0) (bx_at 0 rfl)) ent_row ?_)
    | (refine wpList_store_st rfl 27 (.tmp 6) (.tmp 62) rfl HX.out (bs.length + 2) (bx_at 2 rfl) rfl (entL A n c B m d D v q e) rfl rfl ent_size (entL_one _ _ _ _ _ _ _ _ _ _) ?_; intro y2 hst _; replace HX := Lib.hid (by have h := hst; rw [bset2] at h; exact h); clear hst))
  (try simp only [Exit.inBlock, Exit.then])
  refine bodyPost_ret (results_boxL rfl _ _ (x.heap.size + 1 + 1) _ rfl (HX.out.range (i := bs.length + 2) (bx_at 2 rfl)) (by kernel_rfl) (by kernel_rfl)) rfl ?_
  have hl := HL.out
  have hll := HLL.out
  exact ⟨L, { e with val := l' }, rfl, rfl, rfl, rfl, by rw [hll]; exact hl.2.2.2.1.symm, HX.out.cut.cut.cut⟩

set_option maxRecDepth 100000 in
set_option maxHeartbeats 2000000 in
theorem turned_3 (w : World) (bs : List Bx1) (rs : RowL) (L : List UInt8) (e : Ent) (A0 : Option Addr) (n0 c0 : Nat) (A : Option Addr) (n c : Nat) (B : Option Addr) (m d : Nat) (D : Option Addr) (v q : Nat) (ta tb : Int) (x : World) (hst : St 5 w bs ((A0, c0, L ++ mkL 70) :: (A, c, e.row ++ mkL 70) :: (B, d, e.qual ++ mkL 70) :: (D, q, e.val ++ mkL 70) :: rs) x)
    (hl : L.length = n0 ∧ e.row.length = n ∧ e.qual.length = m ∧ e.val.length = v ∧ n0 ≤ 5000 ∧ n ≤ 5000 ∧ m ≤ 5000 ∧ v ≤ 5000) :
    Calls Try.prog 40 #[.agg (entL A n c B m d D v q e).toArray, .slice A0 n0 c0, .agg #[.int .i64 3, .int .i64 ta, .int .i64 tb]] x (TurnPost w bs rs L e A0 c0 A n c B m d D v q) := by
  have HL := Lib.hid hl
  have bx_at : ∀ {a b c : Bx1} (i : Nat) {z : Bx1}, [a, b, c][i]? = some z → (bs ++ [a] ++ [b] ++ [c])[bs.length + i]? = some z := fun {_ _ _} i {_} h => by
    rw [List.append_assoc, List.append_assoc, List.getElem?_append_right (by omega), show bs.length + i - bs.length = i from by omega]; exact h
  have HX : Hid (St 5 w (bs ++ [some (x.heap.size, entL A n c B m d D v q e)] ++ [some (x.heap.size + 1, [.int .i64 (3), .int .i64 ta, .int .i64 tb])] ++ [some (x.heap.size + 1 + 1, zeroL)]) ((A0, c0, L ++ mkL 70) :: (A, c, e.row ++ mkL 70) :: (B, d, e.qual ++ mkL 70) :: (D, q, e.val ++ mkL 70) :: rs) (((x.alloc (.cells (entL A n c B m d D v q e).toArray 27)).alloc (.cells ([.int .i64 (3), .int .i64 ta, .int .i64 tb] : List Value).toArray 62)).alloc (.cells zeroL.toArray 27))) := Lib.hid (by
    have h := ((hst.push (t := 27) (entL A n c B m d D v q e)).push (t := 62) [.int .i64 (3), .int .i64 ta, .int .i64 tb]).push (t := 27) zeroL
    have e1 : ∀ (x : World) o, (x.alloc o).heap.size = x.heap.size + 1 := fun x o => by show (x.heap.push o).size = _; simp
    rw [e1, e1, e1] at h
    exact h)
  clear hst hl
  go_enter Try.func40, Try.ntmps40
  go_wp2_with (first
    | (refine wpList_load_cell rfl 3 (.tmp 7) rfl rfl (HX.out.cell (i := bs.length + 1) (bx_at 1 rfl) (j := 0) rfl) (fun w => Try.isAgg3 w) ?_)
    | (refine wpList_load_cell rfl 3 (.tmp 44) rfl rfl (HX.out.cell (i := bs.length + 1) (bx_at 1 rfl) (j := 2) rfl) (fun w => Try.isAgg3 w) ?_)
    | (refine wpList_store_cell rfl 3 (.tmp 46) (.tmp 45) rfl HX.out (bs.length + 0) (bx_at 0 rfl) 1 rfl (by show 1 < 7; decide) (.int .i64 tb) rfl int_size rfl ?_; intro y1 hst _; replace HX := Lib.hid (by have h := hst; rw [bset0] at h; exact h); clear hst)
    | (refine wpList_load_row7 rfl 27 (.tmp 3) rfl rfl (HX.out.range (i := bs.length + 0) (bx_at 0 rfl)) ent_row ?_)
    | (refine wpList_store_st rfl 27 (.tmp 6) (.tmp 62) rfl HX.out (bs.length + 2) (bx_at 2 rfl) rfl (entL A n c B m d D v q { e with fam := tb }) rfl rfl ent_size (entL_one _ _ _ _ _ _ _ _ _ _) ?_; intro y2 hst _; replace HX := Lib.hid (by have h := hst; rw [bset2] at h; exact h); clear hst))
  (try simp only [Exit.inBlock, Exit.then])
  refine bodyPost_ret (results_boxL rfl _ _ (x.heap.size + 1 + 1) _ rfl (HX.out.range (i := bs.length + 2) (bx_at 2 rfl)) (by kernel_rfl) (by kernel_rfl)) rfl ?_
  have hl := HL.out
  exact ⟨L, { e with fam := tb }, rfl, rfl, rfl, rfl, rfl, HX.out.cut.cut.cut⟩

set_option maxRecDepth 100000 in
set_option maxHeartbeats 2000000 in
theorem turned_4 (w : World) (bs : List Bx1) (rs : RowL) (L : List UInt8) (e : Ent) (A0 : Option Addr) (n0 c0 : Nat) (A : Option Addr) (n c : Nat) (B : Option Addr) (m d : Nat) (D : Option Addr) (v q : Nat) (ta tb : Int) (x : World) (hst : St 5 w bs ((A0, c0, L ++ mkL 70) :: (A, c, e.row ++ mkL 70) :: (B, d, e.qual ++ mkL 70) :: (D, q, e.val ++ mkL 70) :: rs) x)
    (hl : L.length = n0 ∧ e.row.length = n ∧ e.qual.length = m ∧ e.val.length = v ∧ n0 ≤ 5000 ∧ n ≤ 5000 ∧ m ≤ 5000 ∧ v ≤ 5000) :
    Calls Try.prog 40 #[.agg (entL A n c B m d D v q e).toArray, .slice A0 n0 c0, .agg #[.int .i64 4, .int .i64 ta, .int .i64 tb]] x (TurnPost w bs rs L e A0 c0 A n c B m d D v q) := by
  have HL := Lib.hid hl
  have bx_at : ∀ {a b c : Bx1} (i : Nat) {z : Bx1}, [a, b, c][i]? = some z → (bs ++ [a] ++ [b] ++ [c])[bs.length + i]? = some z := fun {_ _ _} i {_} h => by
    rw [List.append_assoc, List.append_assoc, List.getElem?_append_right (by omega), show bs.length + i - bs.length = i from by omega]; exact h
  have HX : Hid (St 5 w (bs ++ [some (x.heap.size, entL A n c B m d D v q e)] ++ [some (x.heap.size + 1, [.int .i64 (4), .int .i64 ta, .int .i64 tb])] ++ [some (x.heap.size + 1 + 1, zeroL)]) ((A0, c0, L ++ mkL 70) :: (A, c, e.row ++ mkL 70) :: (B, d, e.qual ++ mkL 70) :: (D, q, e.val ++ mkL 70) :: rs) (((x.alloc (.cells (entL A n c B m d D v q e).toArray 27)).alloc (.cells ([.int .i64 (4), .int .i64 ta, .int .i64 tb] : List Value).toArray 62)).alloc (.cells zeroL.toArray 27))) := Lib.hid (by
    have h := ((hst.push (t := 27) (entL A n c B m d D v q e)).push (t := 62) [.int .i64 (4), .int .i64 ta, .int .i64 tb]).push (t := 27) zeroL
    have e1 : ∀ (x : World) o, (x.alloc o).heap.size = x.heap.size + 1 := fun x o => by show (x.heap.push o).size = _; simp
    rw [e1, e1, e1] at h
    exact h)
  clear hst hl
  go_enter Try.func40, Try.ntmps40
  go_wp2_with (first
    | (refine wpList_load_cell rfl 3 (.tmp 7) rfl rfl (HX.out.cell (i := bs.length + 1) (bx_at 1 rfl) (j := 0) rfl) (fun w => Try.isAgg3 w) ?_)
    | (refine wpList_load_cell rfl 3 (.tmp 49) rfl rfl (HX.out.cell (i := bs.length + 1) (bx_at 1 rfl) (j := 2) rfl) (fun w => Try.isAgg3 w) ?_)
    | (refine wpList_store_cell rfl 3 (.tmp 51) (.tmp 50) rfl HX.out (bs.length + 0) (bx_at 0 rfl) 3 rfl (by show 3 < 7; decide) (.int .i64 tb) rfl int_size rfl ?_; intro y1 hst _; replace HX := Lib.hid (by have h := hst; rw [bset0] at h; exact h); clear hst)
    | (refine wpList_load_row7 rfl 27 (.tmp 3) rfl rfl (HX.out.range (i := bs.length + 0) (bx_at 0 rfl)) ent_row ?_)
    | (refine wpList_store_st rfl 27 (.tmp 6) (.tmp 62) rfl HX.out (bs.length + 2) (bx_at 2 rfl) rfl (entL A n c B m d D v q { e with ts := tb }) rfl rfl ent_size (entL_one _ _ _ _ _ _ _ _ _ _) ?_; intro y2 hst _; replace HX := Lib.hid (by have h := hst; rw [bset2] at h; exact h); clear hst))
  (try simp only [Exit.inBlock, Exit.then])
  refine bodyPost_ret (results_boxL rfl _ _ (x.heap.size + 1 + 1) _ rfl (HX.out.range (i := bs.length + 2) (bx_at 2 rfl)) (by kernel_rfl) (by kernel_rfl)) rfl ?_
  have hl := HL.out
  exact ⟨L, { e with ts := tb }, rfl, rfl, rfl, rfl, rfl, HX.out.cut.cut.cut⟩

set_option maxRecDepth 100000 in
set_option maxHeartbeats 2000000 in
theorem turned_5 (w : World) (bs : List Bx1) (rs : RowL) (L : List UInt8) (e : Ent) (A0 : Option Addr) (n0 c0 : Nat) (A : Option Addr) (n c : Nat) (B : Option Addr) (m d : Nat) (D : Option Addr) (v q : Nat) (ta tb : Int) (x : World) (hst : St 5 w bs ((A0, c0, L ++ mkL 70) :: (A, c, e.row ++ mkL 70) :: (B, d, e.qual ++ mkL 70) :: (D, q, e.val ++ mkL 70) :: rs) x)
    (hl : L.length = n0 ∧ e.row.length = n ∧ e.qual.length = m ∧ e.val.length = v ∧ n0 ≤ 5000 ∧ n ≤ 5000 ∧ m ≤ 5000 ∧ v ≤ 5000) :
    Calls Try.prog 40 #[.agg (entL A n c B m d D v q e).toArray, .slice A0 n0 c0, .agg #[.int .i64 5, .int .i64 ta, .int .i64 tb]] x (TurnPost w bs rs L e A0 c0 A n c B m d D v q) := by
  have HL := Lib.hid hl
  have bx_at : ∀ {a b c : Bx1} (i : Nat) {z : Bx1}, [a, b, c][i]? = some z → (bs ++ [a] ++ [b] ++ [c])[bs.length + i]? = some z := fun {_ _ _} i {_} h => by
    rw [List.append_assoc, List.append_assoc, List.getElem?_append_right (by omega), show bs.length + i - bs.length = i from by omega]; exact h
  have HX : Hid (St 5 w (bs ++ [some (x.heap.size, entL A n c B m d D v q e)] ++ [some (x.heap.size + 1, [.int .i64 (5), .int .i64 ta, .int .i64 tb])] ++ [some (x.heap.size + 1 + 1, zeroL)]) ((A0, c0, L ++ mkL 70) :: (A, c, e.row ++ mkL 70) :: (B, d, e.qual ++ mkL 70) :: (D, q, e.val ++ mkL 70) :: rs) (((x.alloc (.cells (entL A n c B m d D v q e).toArray 27)).alloc (.cells ([.int .i64 (5), .int .i64 ta, .int .i64 tb] : List Value).toArray 62)).alloc (.cells zeroL.toArray 27))) := Lib.hid (by
    have h := ((hst.push (t := 27) (entL A n c B m d D v q e)).push (t := 62) [.int .i64 (5), .int .i64 ta, .int .i64 tb]).push (t := 27) zeroL
    have e1 : ∀ (x : World) o, (x.alloc o).heap.size = x.heap.size + 1 := fun x o => by show (x.heap.push o).size = _; simp
    rw [e1, e1, e1] at h
    exact h)
  clear hst hl
  go_enter Try.func40, Try.ntmps40
  go_wp2_with (first
    | (refine wpList_load_cell rfl 3 (.tmp 7) rfl rfl (HX.out.cell (i := bs.length + 1) (bx_at 1 rfl) (j := 0) rfl) (fun w => Try.isAgg3 w) ?_)
    | (refine wpList_load_cell rfl 3 (.tmp 54) rfl rfl (HX.out.cell (i := bs.length + 1) (bx_at 1 rfl) (j := 2) rfl) (fun w => Try.isAgg3 w) ?_)
    | (refine wpList_store_cell rfl 3 (.tmp 56) (.tmp 55) rfl HX.out (bs.length + 0) (bx_at 0 rfl) 4 rfl (by show 4 < 7; decide) (.int .i64 tb) rfl int_size rfl ?_; intro y1 hst _; replace HX := Lib.hid (by have h := hst; rw [bset0] at h; exact h); clear hst)
    | (refine wpList_load_row7 rfl 27 (.tmp 3) rfl rfl (HX.out.range (i := bs.length + 0) (bx_at 0 rfl)) ent_row ?_)
    | (refine wpList_store_st rfl 27 (.tmp 6) (.tmp 62) rfl HX.out (bs.length + 2) (bx_at 2 rfl) rfl (entL A n c B m d D v q { e with seq := tb }) rfl rfl ent_size (entL_one _ _ _ _ _ _ _ _ _ _) ?_; intro y2 hst _; replace HX := Lib.hid (by have h := hst; rw [bset2] at h; exact h); clear hst))
  (try simp only [Exit.inBlock, Exit.then])
  refine bodyPost_ret (results_boxL rfl _ _ (x.heap.size + 1 + 1) _ rfl (HX.out.range (i := bs.length + 2) (bx_at 2 rfl)) (by kernel_rfl) (by kernel_rfl)) rfl ?_
  have hl := HL.out
  exact ⟨L, { e with seq := tb }, rfl, rfl, rfl, rfl, rfl, HX.out.cut.cut.cut⟩

set_option maxRecDepth 100000 in
set_option maxHeartbeats 2000000 in
theorem turned_6 (w : World) (bs : List Bx1) (rs : RowL) (L : List UInt8) (e : Ent) (A0 : Option Addr) (n0 c0 : Nat) (A : Option Addr) (n c : Nat) (B : Option Addr) (m d : Nat) (D : Option Addr) (v q : Nat) (ta tb : Int) (x : World) (hst : St 5 w bs ((A0, c0, L ++ mkL 70) :: (A, c, e.row ++ mkL 70) :: (B, d, e.qual ++ mkL 70) :: (D, q, e.val ++ mkL 70) :: rs) x)
    (hl : L.length = n0 ∧ e.row.length = n ∧ e.qual.length = m ∧ e.val.length = v ∧ n0 ≤ 5000 ∧ n ≤ 5000 ∧ m ≤ 5000 ∧ v ≤ 5000) :
    Calls Try.prog 40 #[.agg (entL A n c B m d D v q e).toArray, .slice A0 n0 c0, .agg #[.int .i64 6, .int .i64 ta, .int .i64 tb]] x (TurnPost w bs rs L e A0 c0 A n c B m d D v q) := by
  have HL := Lib.hid hl
  have bx_at : ∀ {a b c : Bx1} (i : Nat) {z : Bx1}, [a, b, c][i]? = some z → (bs ++ [a] ++ [b] ++ [c])[bs.length + i]? = some z := fun {_ _ _} i {_} h => by
    rw [List.append_assoc, List.append_assoc, List.getElem?_append_right (by omega), show bs.length + i - bs.length = i from by omega]; exact h
  have HX : Hid (St 5 w (bs ++ [some (x.heap.size, entL A n c B m d D v q e)] ++ [some (x.heap.size + 1, [.int .i64 (6), .int .i64 ta, .int .i64 tb])] ++ [some (x.heap.size + 1 + 1, zeroL)]) ((A0, c0, L ++ mkL 70) :: (A, c, e.row ++ mkL 70) :: (B, d, e.qual ++ mkL 70) :: (D, q, e.val ++ mkL 70) :: rs) (((x.alloc (.cells (entL A n c B m d D v q e).toArray 27)).alloc (.cells ([.int .i64 (6), .int .i64 ta, .int .i64 tb] : List Value).toArray 62)).alloc (.cells zeroL.toArray 27))) := Lib.hid (by
    have h := ((hst.push (t := 27) (entL A n c B m d D v q e)).push (t := 62) [.int .i64 (6), .int .i64 ta, .int .i64 tb]).push (t := 27) zeroL
    have e1 : ∀ (x : World) o, (x.alloc o).heap.size = x.heap.size + 1 := fun x o => by show (x.heap.push o).size = _; simp
    rw [e1, e1, e1] at h
    exact h)
  clear hst hl
  go_enter Try.func40, Try.ntmps40
  go_wp2_with (first
    | (refine wpList_load_cell rfl 3 (.tmp 7) rfl rfl (HX.out.cell (i := bs.length + 1) (bx_at 1 rfl) (j := 0) rfl) (fun w => Try.isAgg3 w) ?_)
    | (refine wpList_load_cell rfl 3 (.tmp 59) rfl rfl (HX.out.cell (i := bs.length + 1) (bx_at 1 rfl) (j := 2) rfl) (fun w => Try.isAgg3 w) ?_)
    | (refine wpList_store_cell rfl 3 (.tmp 61) (.tmp 60) rfl HX.out (bs.length + 0) (bx_at 0 rfl) 5 rfl (by show 5 < 7; decide) (.int .i64 tb) rfl int_size rfl ?_; intro y1 hst _; replace HX := Lib.hid (by have h := hst; rw [bset0] at h; exact h); clear hst)
    | (refine wpList_load_row7 rfl 27 (.tmp 3) rfl rfl (HX.out.range (i := bs.length + 0) (bx_at 0 rfl)) ent_row ?_)
    | (refine wpList_store_st rfl 27 (.tmp 6) (.tmp 62) rfl HX.out (bs.length + 2) (bx_at 2 rfl) rfl (entL A n c B m d D v q { e with kind := tb }) rfl rfl ent_size (entL_one _ _ _ _ _ _ _ _ _ _) ?_; intro y2 hst _; replace HX := Lib.hid (by have h := hst; rw [bset2] at h; exact h); clear hst))
  (try simp only [Exit.inBlock, Exit.then])
  refine bodyPost_ret (results_boxL rfl _ _ (x.heap.size + 1 + 1) _ rfl (HX.out.range (i := bs.length + 2) (bx_at 2 rfl)) (by kernel_rfl) (by kernel_rfl)) rfl ?_
  have hl := HL.out
  exact ⟨L, { e with kind := tb }, rfl, rfl, rfl, rfl, rfl, HX.out.cut.cut.cut⟩

set_option maxRecDepth 100000 in
set_option maxHeartbeats 2000000 in
theorem turned_7 (w : World) (bs : List Bx1) (rs : RowL) (L : List UInt8) (e : Ent) (A0 : Option Addr) (n0 c0 : Nat) (A : Option Addr) (n c : Nat) (B : Option Addr) (m d : Nat) (D : Option Addr) (v q : Nat) (kd : Int) (ta tb : Int) (x : World) (h0 : kd ≠ 0) (h1 : kd ≠ 1) (h2 : kd ≠ 2) (h3 : kd ≠ 3) (h4 : kd ≠ 4) (h5 : kd ≠ 5) (h6 : kd ≠ 6) (hst : St 5 w bs ((A0, c0, L ++ mkL 70) :: (A, c, e.row ++ mkL 70) :: (B, d, e.qual ++ mkL 70) :: (D, q, e.val ++ mkL 70) :: rs) x)
    (hl : L.length = n0 ∧ e.row.length = n ∧ e.qual.length = m ∧ e.val.length = v ∧ n0 ≤ 5000 ∧ n ≤ 5000 ∧ m ≤ 5000 ∧ v ≤ 5000) :
    Calls Try.prog 40 #[.agg (entL A n c B m d D v q e).toArray, .slice A0 n0 c0, .agg #[.int .i64 kd, .int .i64 ta, .int .i64 tb]] x (TurnPost w bs rs L e A0 c0 A n c B m d D v q) := by
  have HL := Lib.hid hl
  have bx_at : ∀ {a b c : Bx1} (i : Nat) {z : Bx1}, [a, b, c][i]? = some z → (bs ++ [a] ++ [b] ++ [c])[bs.length + i]? = some z := fun {_ _ _} i {_} h => by
    rw [List.append_assoc, List.append_assoc, List.getElem?_append_right (by omega), show bs.length + i - bs.length = i from by omega]; exact h
  have HX : Hid (St 5 w (bs ++ [some (x.heap.size, entL A n c B m d D v q e)] ++ [some (x.heap.size + 1, [.int .i64 (kd), .int .i64 ta, .int .i64 tb])] ++ [some (x.heap.size + 1 + 1, zeroL)]) ((A0, c0, L ++ mkL 70) :: (A, c, e.row ++ mkL 70) :: (B, d, e.qual ++ mkL 70) :: (D, q, e.val ++ mkL 70) :: rs) (((x.alloc (.cells (entL A n c B m d D v q e).toArray 27)).alloc (.cells ([.int .i64 (kd), .int .i64 ta, .int .i64 tb] : List Value).toArray 62)).alloc (.cells zeroL.toArray 27))) := Lib.hid (by
    have h := ((hst.push (t := 27) (entL A n c B m d D v q e)).push (t := 62) [.int .i64 (kd), .int .i64 ta, .int .i64 tb]).push (t := 27) zeroL
    have e1 : ∀ (x : World) o, (x.alloc o).heap.size = x.heap.size + 1 := fun x o => by show (x.heap.push o).size = _; simp
    rw [e1, e1, e1] at h
    exact h)
  have d0 : (kd == 0) = false := by rw [beq_eq_false_iff_ne]; exact h0
  have d1 : (kd == 1) = false := by rw [beq_eq_false_iff_ne]; exact h1
  have d2 : (kd == 2) = false := by rw [beq_eq_false_iff_ne]; exact h2
  have d3 : (kd == 3) = false := by rw [beq_eq_false_iff_ne]; exact h3
  have d4 : (kd == 4) = false := by rw [beq_eq_false_iff_ne]; exact h4
  have d5 : (kd == 5) = false := by rw [beq_eq_false_iff_ne]; exact h5
  have d6 : (kd == 6) = false := by rw [beq_eq_false_iff_ne]; exact h6
  clear h0 h1 h2 h3 h4 h5 h6
  clear hst hl
  go_enter Try.func40, Try.ntmps40
  go_wp2_with (first
    | (refine wpList_load_cell rfl 3 (.tmp 7) rfl rfl (HX.out.cell (i := bs.length + 1) (bx_at 1 rfl) (j := 0) rfl) (fun w => Try.isAgg3 w) ?_)
    | (refine wpList_load_cell rfl 3 (.tmp 10) rfl rfl (HX.out.cell (i := bs.length + 1) (bx_at 1 rfl) (j := 1) rfl) (fun w => Try.isAgg3 w) ?_)
    | (refine wpList_load_cell rfl 3 (.tmp 12) rfl rfl (HX.out.cell (i := bs.length + 1) (bx_at 1 rfl) (j := 2) rfl) (fun w => Try.isAgg3 w) ?_)
    | (go_at_call 66; go_must (refine (put_any w.heap.size L (mkL 70) A0 n0 c0 ta tb _ (HX.out.own (i := 0) rfl) HL.out.1 (by have := HL.out; omega)).mono ?_); rintro r y1 ⟨rfl, l', hl', ho, hc⟩; replace HX := Lib.hid (HX.out.putRow (i := 0) rfl ho hc); have HLL := Lib.hid hl'; clear hl' ho hc)
    | (refine wpList_load_row7 rfl 27 (.tmp 3) rfl rfl (HX.out.range (i := bs.length + 0) (bx_at 0 rfl)) ent_row ?_)
    | (refine wpList_store_st rfl 27 (.tmp 6) (.tmp 62) rfl HX.out (bs.length + 2) (bx_at 2 rfl) rfl (entL A n c B m d D v q e) rfl rfl ent_size (entL_one _ _ _ _ _ _ _ _ _ _) ?_; intro y2 hst _; replace HX := Lib.hid (by have h := hst; rw [bset2] at h; exact h); clear hst))
  (try simp only [Exit.inBlock, Exit.then])
  refine bodyPost_ret (results_boxL rfl _ _ (x.heap.size + 1 + 1) _ rfl (HX.out.range (i := bs.length + 2) (bx_at 2 rfl)) (by kernel_rfl) (by kernel_rfl)) rfl ?_
  have hl := HL.out
  have hll := HLL.out
  exact ⟨l', e, rfl, by rw [hll]; exact hl.1.symm, rfl, rfl, rfl, HX.out.cut.cut.cut⟩

theorem turned_any (w : World) (bs : List Bx1) (rs : RowL) (L : List UInt8) (e : Ent) (A0 : Option Addr) (n0 c0 : Nat) (A : Option Addr) (n c : Nat) (B : Option Addr) (m d : Nat) (D : Option Addr) (v q : Nat) (kd ta tb : Int) (x : World) (hst : St 5 w bs ((A0, c0, L ++ mkL 70) :: (A, c, e.row ++ mkL 70) :: (B, d, e.qual ++ mkL 70) :: (D, q, e.val ++ mkL 70) :: rs) x)
    (hl : L.length = n0 ∧ e.row.length = n ∧ e.qual.length = m ∧ e.val.length = v ∧ n0 ≤ 5000 ∧ n ≤ 5000 ∧ m ≤ 5000 ∧ v ≤ 5000) :
    Calls Try.prog 40 #[.agg (entL A n c B m d D v q e).toArray, .slice A0 n0 c0, .agg #[.int .i64 kd, .int .i64 ta, .int .i64 tb]] x (TurnPost w bs rs L e A0 c0 A n c B m d D v q) := by
  by_cases h0 : kd = 0
  · subst h0; exact turned_0 w bs rs L e A0 n0 c0 A n c B m d D v q ta tb x hst hl
  by_cases h1 : kd = 1
  · subst h1; exact turned_1 w bs rs L e A0 n0 c0 A n c B m d D v q ta tb x hst hl
  by_cases h2 : kd = 2
  · subst h2; exact turned_2 w bs rs L e A0 n0 c0 A n c B m d D v q ta tb x hst hl
  by_cases h3 : kd = 3
  · subst h3; exact turned_3 w bs rs L e A0 n0 c0 A n c B m d D v q ta tb x hst hl
  by_cases h4 : kd = 4
  · subst h4; exact turned_4 w bs rs L e A0 n0 c0 A n c B m d D v q ta tb x hst hl
  by_cases h5 : kd = 5
  · subst h5; exact turned_5 w bs rs L e A0 n0 c0 A n c B m d D v q ta tb x hst hl
  by_cases h6 : kd = 6
  · subst h6; exact turned_6 w bs rs L e A0 n0 c0 A n c B m d D v q ta tb x hst hl
  exact turned_7 w bs rs L e A0 n0 c0 A n c B m d D v q kd ta tb x h0 h1 h2 h3 h4 h5 h6 hst hl
end Go.Proofs.Ytcikhlieaoanoaa

/-
  Straight lines: a row in the midst of a block, a store; rows struck. Over any program.
-/
namespace Go.Proofs.Ytcikhlieaoanoaa
open Go.RowKit

section
variable {P : Program} {Q : Exit → Act → World → Prop} {S : World → Prop} {l : List Oper} {fuel : Nat} {listed : Array Bool} {a : Act} {w : World} {i : Nat} {o : Oper} {v : Value}
theorem yi_rowO {ty : TypeId} {x : Operand} (hw : Region.wanted o (yielded l.toArray a.tmps) = true) (ho : o.op = .load ty x) {g k : Nat} {cs : List Value} (hx : a.eval x = .pointer (some ⟨g, k, none⟩)) (hr : ∀ w, S w → w.rangeAt g k cs) (ht : RowTy P ty cs.length) :
    YieldsIf P l.toArray S o (.agg cs.toArray) a := by
  obtain ⟨⟨d, hu, hd⟩, hi⟩ := ht
  refine .inl ⟨hw, fun w hS => ?_⟩
  unfold execOp
  simp only [ho, hx, Instr.loadAt, Instr.sureAddr, Sem.run_bind, Sem.run_pure, Result.andThen_ok, run_loadVar_mid w g k ty cs d (hr w hS) hu hd hi]
/-- A whole box is written, the only operation that may come up. -/
theorem lx_store (i : Nat) {o : Oper} {ty : TypeId} {x y : Operand} (hi : l[i]? = some o) (hr : Region.ready .any l.toArray listed = [i]) (hw : Region.wanted o (yielded l.toArray a.tmps) = true)
    (ho : o.op = .store ty x y) {T : TypeId} {z : World} {bs : List Bx1} {rs : RowL} (h : St T z bs rs w) (j : Nat) {g : Nat} {cs : List Value} (hb : bs[j]? = some (some (g, cs))) (hx : a.eval x = .pointer (some ⟨g, 0, none⟩)) (vs : List Value) (hy : a.eval y = .agg vs.toArray)
    (hl : vs.length = cs.length) (ht : (P.info? ty).map (·.size) = some vs.length) (h1 : ∀ u ∈ vs, u.oneCell' = true)
    (hK : ∀ w', St T z (bs.set j (some (g, vs))) rs w' → Chg (fun b => b = g) w w' → S w' ∧ wpAnyH P .any l.toArray Q S fuel (listed.setIfInBounds i true) (a.put o.dst undef) w') : wpAnyH P .any l.toArray Q S (fuel + 1) listed a w := by
  refine wpAnyH_all hr (by simp) fun q hq => ?_
  obtain rfl : q = i := by simpa using hq
  unfold wpOp
  rw [lx_at hi]
  simp only [hw, if_true]
  have hp := h.put (vs := vs) hb hl
  exact .inl (wp_store_row ho hx hy (h.range hb) (h.fz hb) hl ht h1 (hK _ hp.1 hp.2))
end
section
variable {T : TypeId} {w x : World} {bs bs' : List Bx1} {rs rs' : RowL}
theorem St.cutRows (h : St T w bs (rs ++ rs') x) : St T w bs rs x :=
  ⟨h.up, h.box, h.ne, rows_pre h.rows, fun i j g cs r a hb hr => h.off i j g cs r a hb (by rw [List.getElem?_append_left (List.getElem?_eq_some_iff.1 hr).1]; exact hr)⟩
end
section
variable {P : Program} {Q : Exit → Act → World → Prop} {T : TypeId} {w : World} {bs : List Bx1} {rs : RowL} {p : Parts} {bx : Nat → Bool} {n : Nat} {av : Nat → Value} {Pst : Nat → Value → RowL → Prop} {l : List Oper} {f0 : Act} {o : Oper} {j : Nat}
theorem partG_callS {f : FuncId} {xs : List Operand} {vals : List Value} {ats : Array TypeId} (hok : p.ok f0.tmps.size = true) (hj : j < p.k) (ho : o.op = .call { callee := .value (.func f), args := (Operand.tmp (p.s j) :: xs).toArray, argTypes := ats }) (hxs : ∀ a : Act, xs.map a.eval = vals) (hd : o.dst = some (p.u j)) (hf : GoFn P f)
    (hL : edgeB o (p.L j) = true) (hch : chainB l p.C p.k = true) (hX : ∃ ox, l[p.X j]? = some ox ∧ edgeB ox (p.C j) = true)
    (hc : ∀ x bs' rs', St T w (bs ++ bs') (rs ++ rs') x → Calls P f (av j :: vals).toArray x fun e y => ∃ v R, e = .returned v ∧ Pst j v R ∧ RowsB T x.heap.size y R ∧ Below x.heap.size x y) :
    RegStep P Q l p.slots f0 (PartRG p bx T w bs rs n av Pst) (p.C j) o := by
  intro D a x hcl hs ⟨b, R, hst, hp⟩ hD hpre
  obtain ⟨⟨o1, o2, o3⟩, ⟨e1, e2, e3, e4, e5, e6⟩, ⟨m1, m2, m3⟩⟩ := own_ne hok hj
  have hl := (hp j hj).load (edge_on hL hpre)
  refine wp_call_go ho hf (av j :: vals).toArray (by rw [List.map_toArray, List.map_cons, hxs a, show a.eval (.tmp (p.s j)) = _ from hl]) ((hc x _ _ hst).mono fun e y ⟨v, R', he, hP, hR, hB⟩ => ⟨v, he, ?_⟩)
  rw [hd]
  have hno := chain_down hch hcl hD
  have hXf : D (p.X j) = false := by
    obtain ⟨ox, hox, hoe⟩ := hX
    cases h : D (p.X j) with
    | false => rfl
    | true => have := edge_on hoe (hcl _ _ hox h); rw [hD] at this; cases this
  refine ⟨hs.put (slot_in hj).2.1 _, b, upd R j R', ?_, fun i hi => ?_⟩
  · rw [rows_upd hj fun i h1 h2 => (hp i h2).no (hno i h1 h2), ← List.append_assoc]
    exact hst.app hB hR
  · by_cases e : i = j
    · subst e
      have h := hp i hi
      rw [upd_same]
      refine ⟨fun e => ?_, fun e => ?_, fun _ => ?_, fun hb e => h.nob hb (by rwa [done_other e4.symm] at e), h.nob0, fun hb e => ?_, fun hb e => ?_⟩
      · rw [put_other o1.symm]; exact h.load (by rwa [done_other e1] at e)
      · rw [done_same] at e; cases e
      · rw [put_same (by rw [hs.size]; exact m2)]; exact hP
      · obtain ⟨g, cs, h1, h2, h3, h4⟩ := h.box hb (by rwa [done_other e4.symm] at e)
        refine ⟨g, cs, by rw [put_other o3]; exact h1, h2, h3, fun e => ?_⟩
        rw [done_other e5.symm, hXf] at e; cases e
      · rw [done_other e5.symm, hXf] at e; cases e
    · rw [upd_other e]
      exact othersG hok hj hp (by simp) (.inr (.inl rfl)) hi e
end
section
variable {p : Parts} {n : Nat} {av : Value} {Pst : Value → RowL → Prop} {j : Nat} {D : Nat → Bool} {v : Nat → Value} {b : Bx1} {R : RowL}
theorem PartG.end0 (h : PartG p false n av Pst j D v b R) (hC : D (p.C j) = true) (hX : D (p.X j) = true) : b = none ∧ Pst (v (p.t j)) R := ⟨h.nob0 rfl, by rw [h.asg rfl hX]; exact h.call hC⟩
theorem PartG.end1 (h : PartG p true n av Pst j D v b R) (hC : D (p.C j) = true) (hA : D (p.A j) = true) (hX : D (p.X j) = true) : ∃ g cs, v (p.t j) = .pointer (some ⟨g, 0, none⟩) ∧ b = some (g, cs) ∧ Pst (.agg cs.toArray) R := by
  obtain ⟨g, cs, h1, h2, _, h4⟩ := h.box rfl hA
  exact ⟨g, cs, h1, h2, by rw [← h4 hX]; exact h.call hC⟩
end
end Go.Proofs.Ytcikhlieaoanoaa

/-
  CellAgain's statement 'in = Turned(in, buf, turns[i])': what holds of what is done.
-/
namespace Go.Proofs.Ytcikhlieaoanoaa
open Go.RowKit

section
variable {P : Program} {a : Act} {w : World} {o : Oper}
theorem exec_load_row {ty : TypeId} {x : Operand} (ho : o.op = .load ty x) {g k : Nat} {cs : List Value} (hx : a.eval x = .pointer (some ⟨g, k, none⟩)) (hr : w.rangeAt g k cs) (ht : RowTy P ty cs.length) : (execOp a.eval o).run P w = .ok (.value (.agg cs.toArray)) w := by
  obtain ⟨⟨d, hu, hd⟩, hi⟩ := ht
  unfold execOp
  simp only [ho, hx, Instr.loadAt, Instr.sureAddr, Sem.run_bind, Sem.run_pure, Result.andThen_ok, run_loadVar_mid w g k ty cs d hr hu hd hi]
theorem exec_move {x : Operand} (ho : o.op = .move x) {v : Value} (hx : a.eval x = v) : (execOp a.eval o).run P w = .ok (.value v) w := by
  subst hx
  unfold execOp
  simp only [ho, Sem.run_pure]
end
section
variable (w : World) (x0 x1 x4 : Bx1) (gi : Nat) (Ab : Option Addr) (nl cb : Nat) (Ai : Option Addr) (ni ci : Nat) (Bi : Option Addr) (mi di : Nat) (Di : Option Addr) (vi qi : Nat) (rs : RowL)
def tnB (E : Ent) : List Bx1 := [x0, x1, none, some (gi, entL Ai ni ci Bi mi di Di vi qi E), x4]
def tnR (L : List UInt8) (E : Ent) : RowL := (Ab, cb, L ++ mkL 70) :: (Ai, ci, E.row ++ mkL 70) :: (Bi, di, E.qual ++ mkL 70) :: (Di, qi, E.val ++ mkL 70) :: rs
def tnOk (L : List UInt8) (E : Ent) : Prop := L.length = nl ∧ E.row.length = ni ∧ E.qual.length = mi ∧ E.val.length = vi
structure TnR (L : List UInt8) (E : Ent) (c : Nat → Value) (D : Nat → Bool) (v : Nat → Value) (y : World) : Prop where
  st : D 6 = false → St 5 w (tnB x0 x1 x4 gi Ai ni ci Bi mi di Di vi qi E) (tnR Ab cb Ai ci Bi di Di qi rs L E) y
  sl : ∀ j, j < 6 → D j = true → v (124 + j) = c j
  cl : D 6 = true → ∃ L' E', tnOk nl ni mi vi L' E' ∧ v 130 = .agg (entL Ai ni ci Bi mi di Di vi qi E').toArray ∧
    (D 7 = false → St 5 w (tnB x0 x1 x4 gi Ai ni ci Bi mi di Di vi qi E) (tnR Ab cb Ai ci Bi di Di qi rs L' E') y) ∧ (D 7 = true → St 5 w (tnB x0 x1 x4 gi Ai ni ci Bi mi di Di vi qi E') (tnR Ab cb Ai ci Bi di Di qi rs L' E') y)
end
section
variable {w : World} {x0 x1 x4 : Bx1} {gi : Nat} {Ab : Option Addr} {nl cb : Nat} {Ai : Option Addr} {ni ci : Nat} {Bi : Option Addr} {mi di : Nat} {Di : Option Addr} {vi qi : Nat} {rs : RowL} {L : List UInt8} {E : Ent} {c : Nat → Value}
  {D : Nat → Bool} {a : Act} {y : World} {Q : Exit → Act → World → Prop} {l : List Oper} {f0 : Act} {o : Oper}
abbrev tnS : List Nat := [124, 125, 126, 127, 128, 129, 130]
theorem tn_put {i : Nat} (hi : i < 6) (h : TnR w x0 x1 x4 gi Ab nl cb Ai ni ci Bi mi di Di vi qi rs L E c D (fun k => a.eval (.tmp k)) y) (hsz : 130 < a.tmps.size) :
    TnR w x0 x1 x4 gi Ab nl cb Ai ni ci Bi mi di Di vi qi rs L E c (fun j => j == i || D j) (fun k => (a.put (some (124 + i)) (c i)).eval (.tmp k)) y := by
  refine ⟨fun e => h.st (by rwa [done_other (by omega)] at e), fun j hj e => ?_, fun e => ?_⟩
  · by_cases e' : j = i
    · subst e'; exact put_same (by omega) _
    · show (a.put (some (124 + i)) (c i)).eval (.tmp (124 + j)) = c j
      rw [put_other (by omega)]
      exact h.sl j hj (by rwa [done_other e'] at e)
  · obtain ⟨L', E', h1, h2, h3, h4⟩ := h.cl (by rwa [done_other (by omega)] at e)
    refine ⟨L', E', h1, ?_, fun e => h3 (by rwa [done_other (by omega)] at e), fun e => h4 (by rwa [done_other (by omega)] at e)⟩
    show (a.put (some (124 + i)) (c i)).eval (.tmp 130) = _
    rw [put_other (by omega)]
    exact h2
/-- An operation that only reads. -/
theorem tn_read {i : Nat} (hi : i < 6) (hsz : 130 < f0.tmps.size) (hd : o.dst = some (124 + i))
    (hrun : ∀ D a y, Same tnS f0 a → TnR w x0 x1 x4 gi Ab nl cb Ai ni ci Bi mi di Di vi qi rs L E c D (fun k => a.eval (.tmp k)) y → D 6 = false → (∀ e, e ∈ o.after → Region.binds .any e = true → D e.on = true) → (execOp a.eval o).run Try.prog y = .ok (.value (c i)) y)
    (h6 : ∀ D, Closed l D → D 6 = true → D i = true) :
    RegStep Try.prog Q l tnS f0 (TnR w x0 x1 x4 gi Ab nl cb Ai ni ci Bi mi di Di vi qi rs L E c) i o := by
  intro D a y hcl hs hR hD hpre
  have h6f : D 6 = false := by
    cases h : D 6 with
    | false => rfl
    | true => have := h6 D hcl h; rw [hD] at this; cases this
  have hm : 124 + i ∈ tnS := by
    simp only [tnS, List.mem_cons, List.not_mem_nil, or_false]
    omega
  have hr := hrun D a y hs hR h6f hpre
  have hres : Same tnS f0 (a.put (some (124 + i)) (c i)) ∧ TnR w x0 x1 x4 gi Ab nl cb Ai ni ci Bi mi di Di vi qi rs L E c (fun j => j == i || D j) (fun k => (a.put (some (124 + i)) (c i)).eval (.tmp k)) y := ⟨hs.put hm _, tn_put hi hR (by rw [hs.size]; exact hsz)⟩
  rw [← hd] at hres
  unfold Oper.wp
  rw [hr, Oper.upon_value]
  exact hres
theorem tn_call {kd ta tb : Int} {ats : Array TypeId} (hsz : 130 < f0.tmps.size) (ho : o.op = .call { callee := .value (.func 40), args := #[.tmp 124, .tmp 125, .tmp 129], argTypes := ats }) (hd : o.dst = some 130)
    (e0 : edgeB o 0 = true) (e1 : edgeB o 1 = true) (e5 : edgeB o 5 = true) (h7 : ∃ o7, l[7]? = some o7 ∧ edgeB o7 6 = true)
    (c0 : c 0 = .agg (entL Ai ni ci Bi mi di Di vi qi E).toArray) (c1 : c 1 = .slice Ab nl cb) (c5 : c 5 = .agg #[.int .i64 kd, .int .i64 ta, .int .i64 tb]) (hok : tnOk nl ni mi vi L E) (hb : nl ≤ 5000 ∧ ni ≤ 5000 ∧ mi ≤ 5000 ∧ vi ≤ 5000) :
    RegStep Try.prog Q l tnS f0 (TnR w x0 x1 x4 gi Ab nl cb Ai ni ci Bi mi di Di vi qi rs L E c) 6 o := by
  intro D a y hcl hs hR hD hpre
  have h7f : D 7 = false := by
    obtain ⟨o7, ho7, he⟩ := h7
    cases h : D 7 with
    | false => rfl
    | true => have := edge_on he (hcl _ _ ho7 h); rw [hD] at this; cases this
  have v0 : a.eval (.tmp 124) = _ := (hR.sl 0 (by decide) (edge_on e0 hpre)).trans c0
  have v1 : a.eval (.tmp 125) = _ := (hR.sl 1 (by decide) (edge_on e1 hpre)).trans c1
  have v5 : a.eval (.tmp 129) = _ := (hR.sl 5 (by decide) (edge_on e5 hpre)).trans c5
  refine wp_call_go ho ⟨_, Try.func40, by decide, by kernel_rfl⟩ #[.agg (entL Ai ni ci Bi mi di Di vi qi E).toArray, .slice Ab nl cb, .agg #[.int .i64 kd, .int .i64 ta, .int .i64 tb]] (by simp only [List.map_toArray, List.map_cons, List.map_nil, v0, v1, v5])
    ((turned_any w _ rs L E Ab nl cb Ai ni ci Bi mi di Di vi qi kd ta tb y (hR.st hD) ⟨hok.1, hok.2.1, hok.2.2.1, hok.2.2.2, by omega, by omega, by omega, by omega⟩).mono fun r y' ⟨L', E', q1, q2, q3, q4, q5, q6⟩ => ⟨_, q1, ?_⟩)
  rw [hd]
  refine ⟨hs.put (by decide) _, fun e => ?_, fun j hj e => ?_, fun _ => ⟨L', E', ⟨by rw [q2]; exact hok.1, by rw [q3]; exact hok.2.1, by rw [q4]; exact hok.2.2.1, by rw [q5]; exact hok.2.2.2⟩, put_same (by rw [hs.size]; exact hsz) _, fun _ => q6, fun e => ?_⟩⟩
  · rw [done_same] at e; cases e
  · show (a.put (some 130) _).eval (.tmp (124 + j)) = c j
    rw [put_other (by omega)]
    exact hR.sl j hj (by rwa [done_other (by omega)] at e)
  · rw [done_other (by decide), h7f] at e; cases e
theorem tn_store (_hsz : 130 < f0.tmps.size) (ho : o.op = .store 27 (.tmp 12) (.tmp 130)) (hd : o.dst = none) (e6 : edgeB o 6 = true) (hp : f0.eval (.tmp 12) = .pointer (some ⟨gi, 0, none⟩)) :
    RegStep Try.prog Q l tnS f0 (TnR w x0 x1 x4 gi Ab nl cb Ai ni ci Bi mi di Di vi qi rs L E c) 7 o := by
  intro D a y hcl hs hR hD hpre
  have h6 := edge_on e6 hpre
  obtain ⟨L', E', q1, q2, q3, q4⟩ := hR.cl h6
  have hst := q3 hD
  have hb : (tnB x0 x1 x4 gi Ai ni ci Bi mi di Di vi qi E)[3]? = some (some (gi, entL Ai ni ci Bi mi di Di vi qi E)) := rfl
  refine wp_store_row ho ((hs.eval (by decide)).trans hp) q2 (hst.range hb) (hst.fz hb) rfl ent_size (entL_one _ _ _ _ _ _ _ _ _ _) ?_
  rw [hd]
  refine ⟨hs, fun e => ?_, fun j hj e => hR.sl j hj (by rwa [done_other (by omega)] at e), fun _ => ⟨L', E', q1, q2, fun e => ?_, fun _ => ?_⟩⟩
  · rw [done_other (by decide), h6] at e; cases e
  · rw [done_same] at e; cases e
  · exact (hst.put (vs := entL Ai ni ci Bi mi di Di vi qi E') hb rfl).1
end
end Go.Proofs.Ytcikhlieaoanoaa

/-
  CellAgain walked. (Printed by gen_again2.py.)
-/
namespace Go.Proofs.Ytcikhlieaoanoaa
open Go.RowKit

/-- A list of changes, as it lies there. -/
def Trn (w : World) (A : Option Addr) (n : Nat) : Prop := 0 < n → ∃ b o, A = some ⟨b, o, none⟩ ∧ b < w.heap.size ∧ ∀ i, i < n → ∃ k t y : Int, w.rangeAt b (o + i * 3) [.int .i64 k, .int .i64 t, .int .i64 y]
theorem Trn.later {w x : World} {A : Option Addr} {n : Nat} (h : Trn w A n) (hb : Below w.heap.size w x) : Trn x A n := fun hn => by
  obtain ⟨b, o, h1, h2, h3⟩ := h hn
  refine ⟨b, o, h1, Nat.lt_of_lt_of_le h2 hb.size, fun i hi => ?_⟩
  obtain ⟨k, t, y, h4⟩ := h3 i hi
  exact ⟨k, t, y, fun j v hv => cell_below hb (h4 j v hv)⟩
theorem turn_row : RowTy Try.prog 62 3 := ⟨⟨_, Try.underlying62, rfl⟩, by kernel_rfl⟩
def SlPst (l : List UInt8) (n : Nat) (mk : List UInt8) (v : Value) (R : RowL) : Prop := ∃ A c, v = .slice A n c ∧ R = [(A, c, l ++ mk)]
theorem lpst_cs {e : Ent} {cs : List Value} {R : RowL} (h : LPst e (.agg cs.toArray) R) : ∃ A c B d D q, cs = entL A e.row.length c B e.qual.length d D e.val.length q e ∧ R = [(A, c, e.row ++ mkL 70), (B, d, e.qual ++ mkL 70), (D, q, e.val ++ mkL 70)] := by
  obtain ⟨A, c, B, d, D, q, h1, h2⟩ := h
  injection h1 with h1
  have h1 := congrArg Array.toList h1
  exact ⟨A, c, B, d, D, q, h1, h2⟩
theorem row_one {T : TypeId} {w : World} {B : Nat} {A : Option Addr} {c : Nat} {l : List UInt8} (h : OwnB T B w A c l) : RowsB T B w [(A, c, l)] := RowsB.nil.snoc h (fun i r hr => by simp at hr)
theorem laid_part {A : Option Addr} {n c : Nat} {b L : List UInt8} {nl : Nat} {w : World} (h : Sl w A n c b) (hL : b.take 5000 = L) (hn : L.length = nl) : ∀ x, Below w.heap.size w x →
    Calls Try.prog 13 (.slice A n c :: [.int .i64 5000] : List Value).toArray x fun r y => ∃ v R, r = .returned v ∧ SlPst L nl (mkL 70) v R ∧ RowsB 5 x.heap.size y R ∧ Below x.heap.size x y := fun x hx =>
  (laid_any b A n c 5000 x (h.later hx) (by decide)).mono fun r y hp => by
    rw [hL] at hp
    obtain ⟨A', c', h1, h2, h3⟩ := laid_n hp hn
    exact ⟨_, _, h1, ⟨A', c', rfl, rfl⟩, row_one h2, h3⟩
theorem turn_addr {a : Act} {y : World} {b o nt ct k : Nat} {pos : String} {af : Array Edge} {g : Option (Nat × Bool)} {d : Option Tmp} {ty : TypeId} (h1 : a.eval (.tmp 126) = .slice (some ⟨b, o, none⟩) nt ct) (h2 : a.eval (.tmp 127) = .int .i64 (k : Int)) (hk : k < nt) :
    (execOp a.eval { dst := d, op := .indexAddr 59 (.tmp 126) (.tmp 127), type := ty, pos := pos, after := af, guard := g }).run Try.prog y = .ok (.value (.pointer (some ⟨b, o + k * 3, none⟩))) y := by
  have q1 : (0 : Int) ≤ (k : Int) := by omega
  have q2 : (k : Int) < (nt : Int) := by omega
  unfold execOp
  simp only [h1, h2]
  go_simp
theorem copied_partS {i : Nat} {A : Option Addr} {n c : Nat} {L : List UInt8} {w : World} {bs : List Bx1} {rs : RowL} (hr : rs[i]? = some (A, c, L ++ mkL 70)) (hL : L.length = n) (hn : n ≤ 5000) : ∀ x bs' rs', St 5 w (bs ++ bs') (rs ++ rs') x →
    Calls Try.prog 14 (.slice A n c :: [] : List Value).toArray x fun r y => ∃ v R, r = .returned v ∧ SlPst L n [] v R ∧ RowsB 5 x.heap.size y R ∧ Below x.heap.size x y := fun x bs' rs' h => by
  have hs : Sl x A n c L := sl_front (h.sl (n := n + 75) (i := i) (by rw [List.getElem?_append_left (List.getElem?_eq_some_iff.1 hr).1]; exact hr) (by rw [List.length_append, mkL_len, hL])) hL
  refine (copied_any L A n c x (by omega) hs.rb).mono fun r y hp => ?_
  obtain ⟨A', c', h1, _, h2, h3⟩ := hp.at_ hL
  exact ⟨_, _, h1, ⟨A', c', rfl, rfl⟩, row_one (by rw [List.append_nil]; exact h2), h3⟩
theorem cutE_same {e : Ent} (h : e.row.length ≤ 5000 ∧ e.qual.length ≤ 5000 ∧ e.val.length ≤ 5000) : cutE e = e := by
  unfold cutE
  rw [List.take_of_length_le h.1, List.take_of_length_le h.2.1, List.take_of_length_le h.2.2]
theorem enm_n {w x : World} {bs : List Bx1} {rs : RowL} {T : TypeId} {i n m v : Nat} {A : Option Addr} {c : Nat} {B : Option Addr} {d : Nat} {D : Option Addr} {q : Nat} {e : Ent} (h : St T w bs rs x)
    (h0 : rs[i]? = some (A, c, e.row ++ mkL 70)) (h1 : rs[i + 1]? = some (B, d, e.qual ++ mkL 70)) (h2 : rs[i + 2]? = some (D, q, e.val ++ mkL 70)) (hl : e.row.length = n ∧ e.qual.length = m ∧ e.val.length = v) (hb : n ≤ 5000 ∧ m ≤ 5000 ∧ v ≤ 5000) : EnM x A n c B m d D v q e :=
  ⟨h.sl h0 (by rw [List.length_append, mkL_len, hl.1]), h.sl h1 (by rw [List.length_append, mkL_len, hl.2.1]), h.sl h2 (by rw [List.length_append, mkL_len, hl.2.2]), ⟨hl.1, hb.1⟩, ⟨hl.2.1, hb.2.1⟩, ⟨hl.2.2, hb.2.2⟩⟩
theorem entry_partS {i n m v : Nat} {A : Option Addr} {c : Nat} {B : Option Addr} {d : Nat} {D : Option Addr} {q : Nat} {e : Ent} {w : World} {bs : List Bx1} {rs : RowL} (h0 : rs[i]? = some (A, c, e.row ++ mkL 70)) (h1 : rs[i + 1]? = some (B, d, e.qual ++ mkL 70)) (h2 : rs[i + 2]? = some (D, q, e.val ++ mkL 70))
    (hl : e.row.length = n ∧ e.qual.length = m ∧ e.val.length = v) (hb : n ≤ 5000 ∧ m ≤ 5000 ∧ v ≤ 5000) : ∀ x bs' rs', St 5 w (bs ++ bs') (rs ++ rs') x →
    Calls Try.prog 21 (.agg (entL A n c B m d D v q e).toArray :: [] : List Value).toArray x fun r y => ∃ v R, r = .returned v ∧ LPst e v R ∧ RowsB 5 x.heap.size y R ∧ Below x.heap.size x y := fun x bs' rs' h => by
  have ha : ∀ {k : Nat} {r : Option Addr × Nat × List UInt8}, rs[k]? = some r → (rs ++ rs')[k]? = some r := fun hr => by rw [List.getElem?_append_left (List.getElem?_eq_some_iff.1 hr).1]; exact hr
  have hE := (enm_n h (ha h0) (ha h1) (ha h2) hl hb).en
  have h3 := entry_part hE x (Below.refl _ _)
  rw [cutE_same (by omega)] at h3
  exact h3
theorem copied_part {A : Option Addr} {n c : Nat} {L : List UInt8} {w : World} (h : ∀ x, Below w.heap.size w x → Sl x A n c L) (hn : n ≤ 140737488355000) : ∀ x, Below w.heap.size w x →
    Calls Try.prog 14 (.slice A n c :: [] : List Value).toArray x fun r y => ∃ v R, r = .returned v ∧ SlPst L n [] v R ∧ RowsB 5 x.heap.size y R ∧ Below x.heap.size x y := fun x hx =>
  (copied_any L A n c x hn (h x hx).rb).mono fun r y hp => by
    obtain ⟨A', c', h1, _, h2, h3⟩ := hp.at_ (h x hx).len
    exact ⟨_, _, h1, ⟨A', c', rfl, rfl⟩, row_one (by rw [List.append_nil]; exact h2), h3⟩
set_option maxRecDepth 100000 in
set_option maxHeartbeats 4000000 in
theorem again_any (b : List UInt8) (A0 : Option Addr) (n0 c0 : Nat) (e f : Ent) (A1 : Option Addr) (n1 c1 : Nat) (B1 : Option Addr) (m1 d1 : Nat) (D1 : Option Addr) (v1 q1 : Nat) (A2 : Option Addr) (n2 c2 : Nat) (B2 : Option Addr) (m2 d2 : Nat) (D2 : Option Addr) (v2 q2 : Nat) (a : Int) (At : Option Addr) (nt ct : Nat) (w : World) (hs : Sl w A0 n0 c0 b) (h1 : En w A1 n1 c1 B1 m1 d1 D1 v1 q1 e) (h2 : En w A2 n2 c2 B2 m2 d2 D2 v2 q2 f) (ht : Trn w At nt) (hnt : nt ≤ ct ∧ ct ≤ 9223372036854775807) :
    Calls Try.prog 10 #[.slice A0 n0 c0, entV A1 n1 c1 B1 m1 d1 D1 v1 q1 e, entV A2 n2 c2 B2 m2 d2 D2 v2 q2 f, .int .i64 a, .slice At nt ct] w fun r w' => r = .returned (.bool true) ∧ Below w.heap.size w w' := by
  have HB := Lib.hid hs
  have H1 := Lib.hid h1
  have H2 := Lib.hid h2
  have HT := Lib.hid ht
  obtain ⟨hn1, hn2⟩ := hnt
  have HX : Hid (St 5 w [some (w.heap.size, (entL A1 n1 c1 B1 m1 d1 D1 v1 q1 e)), some (w.heap.size + 1, (entL A2 n2 c2 B2 m2 d2 D2 v2 q2 f))] [] ((w.alloc (.cells (entL A1 n1 c1 B1 m1 d1 D1 v1 q1 e).toArray 27)).alloc (.cells (entL A2 n2 c2 B2 m2 d2 D2 v2 q2 f).toArray 27))) := Lib.hid (by
    have h := ((St.nil 5 w).push (t := 27) (entL A1 n1 c1 B1 m1 d1 D1 v1 q1 e)).push (t := 27) (entL A2 n2 c2 B2 m2 d2 D2 v2 q2 f)
    have e1 : ∀ (x : World) o, (x.alloc o).heap.size = x.heap.size + 1 := fun x o => by show (x.heap.push o).size = _; simp
    rw [e1] at h
    exact h)
  obtain ⟨L0, hL⟩ : ∃ L, L = b.take 5000 := ⟨_, rfl⟩
  obtain ⟨nl, hnl⟩ : ∃ n, n = L0.length := ⟨_, rfl⟩
  have HL := Lib.hid hL.symm
  have HN : Hid (L0.length = nl ∧ nl ≤ 5000) := Lib.hid ⟨hnl.symm, by rw [hnl, hL, List.length_take]; omega⟩
  obtain ⟨E0, hE⟩ : ∃ E, E = cutE e := ⟨_, rfl⟩
  obtain ⟨F, hF⟩ : ∃ E, E = cutE f := ⟨_, rfl⟩
  have HEL : Hid (E0.row.length ≤ 5000 ∧ E0.qual.length ≤ 5000 ∧ E0.val.length ≤ 5000) := Lib.hid (by rw [hE]; exact cutE_len e)
  have HFL : Hid (F.row.length ≤ 5000 ∧ F.qual.length ≤ 5000 ∧ F.val.length ≤ 5000) := Lib.hid (by rw [hF]; exact cutE_len f)
  have HCE : Hid (cutE e = E0 ∧ cutE f = F) := Lib.hid ⟨hE.symm, hF.symm⟩
  have HCF := Lib.hid hF.symm
  clear hL hnl hE hF hs h1 h2 ht
  unfold entV
  go_enter Try.func10, Try.ntmps10
  go_wp2_with fail
  refine wp_region_reg (by kernel_rfl) (by kernel_rfl) (Parts.slots (⟨3, fun j => 27 + 2 * j, fun j => 28 + 2 * j, fun j => 11 + j, fun j => 2 * j, fun j => 2 * j + 1, fun j => match j with | 0 => 11 | 1 => 6 | _ => 7, fun j => 8 + j⟩ : Parts)) (PartRG (⟨3, fun j => 27 + 2 * j, fun j => 28 + 2 * j, fun j => 11 + j, fun j => 2 * j, fun j => 2 * j + 1, fun j => match j with | 0 => 11 | 1 => 6 | _ => 7, fun j => 8 + j⟩ : Parts) (fun j => match j with | 0 => false | _ => true) 5 w [some (w.heap.size, (entL A1 n1 c1 B1 m1 d1 D1 v1 q1 e)), some (w.heap.size + 1, (entL A2 n2 c2 B2 m2 d2 D2 v2 q2 f))] [] 7 (fun j => match j with | 0 => .slice A0 n0 c0 | 1 => .agg (entL A1 n1 c1 B1 m1 d1 D1 v1 q1 e).toArray | _ => .agg (entL A2 n2 c2 B2 m2 d2 D2 v2 q2 f).toArray) (fun j => match j with | 0 => SlPst L0 nl (mkL 70) | 1 => LPst E0 | _ => LPst F)) (partRG_start HX.out.drew)
    ⟨partG_move (j := 0) rfl (by decide) rfl rfl (by decide) rfl, partG_call (j := 0) (xs := [.const (.int .i64 5000)]) rfl (by decide) rfl (fun _ => rfl) rfl ⟨_, Try.func13, by decide, by kernel_rfl⟩ (by kernel_rfl) (by kernel_rfl) ⟨_, rfl, by kernel_rfl⟩ (laid_part HB.out HL.out HN.out.1),
     partG_load (j := 1) (i := 0) rfl (by decide) rfl rfl (by decide) rfl rfl ent_row rfl, partG_call (j := 1) (xs := []) rfl (by decide) rfl (fun _ => rfl) rfl go_entry (by kernel_rfl) (by kernel_rfl) ⟨_, rfl, by kernel_rfl⟩ (fun x hx => by have h := entry_part H1.out x hx; rw [HCE.out.1] at h; exact h),
     partG_load (j := 2) (i := 1) rfl (by decide) rfl rfl (by decide) rfl rfl ent_row rfl, partG_call (j := 2) (xs := []) rfl (by decide) rfl (fun _ => rfl) rfl go_entry (by kernel_rfl) (by kernel_rfl) ⟨_, rfl, by kernel_rfl⟩ (fun x hx => by have h := entry_part H2.out x hx; rw [HCE.out.2] at h; exact h),
     partG_alloc (j := 1) (cs := zeroL) rfl (by decide) rfl rfl rfl ent_zero rfl ⟨_, rfl, by kernel_rfl⟩, partG_alloc (j := 2) (cs := zeroL) rfl (by decide) rfl rfl rfl ent_zero rfl ⟨_, rfl, by kernel_rfl⟩,
     partG_asg (j := 0) rfl (by decide) rfl rfl rfl, partG_store (j := 1) rfl (by decide) rfl rfl rfl (by kernel_rfl) (by kernel_rfl) lpst_cells ent_size, partG_store (j := 2) rfl (by decide) rfl rfl rfl (by kernel_rfl) (by kernel_rfl) lpst_cells ent_size, trivial⟩ ?_
  intro Dn sv x1 hall hR
  obtain ⟨bb, RR, hst, hp⟩ := hR
  obtain ⟨k1, Ab, cb, k2, k3⟩ := (hp 0 (by decide)).end0 (hall 1 (by decide)) (hall 8 (by decide))
  obtain ⟨gi, cs1, k4, k5, k6⟩ := (hp 1 (by decide)).end1 (hall 3 (by decide)) (hall 6 (by decide)) (hall 9 (by decide))
  obtain ⟨gf, cs2, k7, k8, k9⟩ := (hp 2 (by decide)).end1 (hall 5 (by decide)) (hall 7 (by decide)) (hall 10 (by decide))
  obtain ⟨Ai, ci, Bi, di, Di, qi, rfl, r6⟩ := lpst_cs (e := E0) k6
  obtain ⟨Af, cf, Bf, df, Df, qf, rfl, r9⟩ := lpst_cs (e := F) k9
  have hst : St 5 w ([some (w.heap.size, (entL A1 n1 c1 B1 m1 d1 D1 v1 q1 e)), some (w.heap.size + 1, (entL A2 n2 c2 B2 m2 d2 D2 v2 q2 f))] ++ [bb 0, bb 1, bb 2]) ([] ++ (RR 0 ++ (RR 1 ++ (RR 2 ++ [])))) x1 := hst
  rw [k1, k5, k8, k3, r6, r9] at hst
  have k2 : sv 11 = .slice Ab nl cb := k2
  have k4 : sv 12 = .pointer (some ⟨gi, 0, none⟩) := k4
  have k7 : sv 13 = .pointer (some ⟨gf, 0, none⟩) := k7
  simp only [show Parts.slots (⟨3, fun j => 27 + 2 * j, fun j => 28 + 2 * j, fun j => 11 + j, fun j => 2 * j, fun j => 2 * j + 1, fun j => match j with | 0 => 11 | 1 => 6 | _ => 7, fun j => 8 + j⟩ : Parts) = [27, 28, 11, 29, 30, 12, 31, 32, 13] from rfl, putsF, List.foldl_cons, List.foldl_nil, Act.put, List.setIfInBounds_toArray, List.set_cons_zero, List.set_cons_succ, k2, k4, k7]
  obtain ⟨ni, hni⟩ : ∃ n, n = E0.row.length := ⟨_, rfl⟩
  obtain ⟨mi, hmi⟩ : ∃ n, n = E0.qual.length := ⟨_, rfl⟩
  obtain ⟨vi, hvi⟩ : ∃ n, n = E0.val.length := ⟨_, rfl⟩
  have HI : Hid (ni ≤ 5000 ∧ mi ≤ 5000 ∧ vi ≤ 5000) := Lib.hid (by rw [hni, hmi, hvi]; exact HEL.out)
  have HS0 : Hid (∃ (L : List UInt8) (E : Ent), (L.length = nl ∧ E.row.length = ni ∧ E.qual.length = mi ∧ E.val.length = vi) ∧ St 5 w [some (w.heap.size, (entL A1 n1 c1 B1 m1 d1 D1 v1 q1 e)), some (w.heap.size + 1, (entL A2 n2 c2 B2 m2 d2 D2 v2 q2 f)), none, some (gi, (entL Ai ni ci Bi mi di Di vi qi E)), some (gf, (entL Af F.row.length cf Bf F.qual.length df Df F.val.length qf F))] [(Ab, cb, L ++ mkL 70), (Ai, ci, E.row ++ mkL 70), (Bi, di, E.qual ++ mkL 70), (Di, qi, E.val ++ mkL 70), (Af, cf, F.row ++ mkL 70), (Bf, df, F.qual ++ mkL 70), (Df, qf, F.val ++ mkL 70)] x1) := Lib.hid ⟨L0, E0, ⟨HN.out.1, hni.symm, hmi.symm, hvi.symm⟩, by rw [hni, hmi, hvi]; exact hst⟩
  clear hst hp k1 k2 k3 k4 k5 k6 k7 k8 k9 r6 r9 hall HX hni hmi hvi HL HCE HEL HB H1
  go_wp2_with fail
  go_loopw [14] (fun i wr => ∃ k : Nat, k ≤ 31 ∧ i = .int .i64 k ∧ Hid (∃ (L : List UInt8) (E : Ent), (L.length = nl ∧ E.row.length = ni ∧ E.qual.length = mi ∧ E.val.length = vi) ∧ St 5 w [some (w.heap.size, (entL A1 n1 c1 B1 m1 d1 D1 v1 q1 e)), some (w.heap.size + 1, (entL A2 n2 c2 B2 m2 d2 D2 v2 q2 f)), none, some (gi, (entL Ai ni ci Bi mi di Di vi qi E)), some (gf, (entL Af F.row.length cf Bf F.qual.length df Df F.val.length qf F))] [(Ab, cb, L ++ mkL 70), (Ai, ci, E.row ++ mkL 70), (Bi, di, E.qual ++ mkL 70), (Di, qi, E.val ++ mkL 70), (Af, cf, F.row ++ mkL 70), (Bf, df, F.qual ++ mkL 70), (Df, qf, F.val ++ mkL 70)] wr)) (fun i _ => 31 - (intOf i).toNat)
  case atStart => exact ⟨0, by omega, rfl, HS0⟩
  case round =>
    obtain ⟨k, hk, rfl, HREL⟩ := hrel
    clear HS0
    obtain ⟨L, E, hlen, hst⟩ := HREL.out
    have HLE := Lib.hid hlen
    have HX := Lib.hid hst
    clear HREL hlen hst
    by_cases hc : k ≤ nt ∧ k ≤ 30
    · obtain ⟨hc1, hc2⟩ := hc
      have hd1 : decide ((k : Int) ≤ (nt : Int)) = true := decide_eq_true (by omega)
      have hd2 : decide (k ≤ nt) = true := decide_eq_true hc1
      have hd3 : decide ((k : Int) ≤ 30) = true := decide_eq_true (by omega)
      have hd4 : decide (k ≤ 30) = true := decide_eq_true hc2
      obtain ⟨X, hX⟩ : ∃ x, x = (ParseKeyE L).1 := ⟨_, rfl⟩
      obtain ⟨z, hz⟩ : ∃ x, x = (ParseKeyE L).2 := ⟨_, rfl⟩
      obtain ⟨Y, hY⟩ : ∃ x, x = (UnpackE L a).1 := ⟨_, rfl⟩
      obtain ⟨pp, hpp⟩ : ∃ x, x = (UnpackE L a).2.1 := ⟨_, rfl⟩
      obtain ⟨zz, hzz⟩ : ∃ x, x = (UnpackE L a).2.2 := ⟨_, rfl⟩
      have HPK : Hid (ParseKeyE L = (X, z)) := Lib.hid (by rw [hX, hz])
      have HUP : Hid (UnpackE L a = (Y, pp, zz)) := Lib.hid (by rw [hY, hpp, hzz])
      clear hX hz hY hpp hzz
      go_wp2_with fail
      refine wp_region_reg (by kernel_rfl) (by kernel_rfl) (Parts.slots (⟨2, fun j => 43 + 2 * j, fun j => 44 + 2 * j, fun j => 15 + j, fun j => 2 * j, fun j => 2 * j + 1, fun j => match j with | 0 => 7 | _ => 4, fun j => 5 + j⟩ : Parts)) (PartRG (⟨2, fun j => 43 + 2 * j, fun j => 44 + 2 * j, fun j => 15 + j, fun j => 2 * j, fun j => 2 * j + 1, fun j => match j with | 0 => 7 | _ => 4, fun j => 5 + j⟩ : Parts) (fun j => match j with | 0 => false | _ => true) 5 w [some (w.heap.size, (entL A1 n1 c1 B1 m1 d1 D1 v1 q1 e)), some (w.heap.size + 1, (entL A2 n2 c2 B2 m2 d2 D2 v2 q2 f)), none, some (gi, (entL Ai ni ci Bi mi di Di vi qi E)), some (gf, (entL Af F.row.length cf Bf F.qual.length df Df F.val.length qf F))] [(Ab, cb, L ++ mkL 70), (Ai, ci, E.row ++ mkL 70), (Bi, di, E.qual ++ mkL 70), (Di, qi, E.val ++ mkL 70), (Af, cf, F.row ++ mkL 70), (Bf, df, F.qual ++ mkL 70), (Df, qf, F.val ++ mkL 70)] 7 (fun j => match j with | 0 => .slice Ab nl cb | _ => .agg (entL Ai ni ci Bi mi di Di vi qi E).toArray) (fun j => match j with | 0 => SlPst L nl [] | _ => LPst E)) (partRG_start HX.out.drew)
        ⟨partG_move (j := 0) rfl (by decide) rfl rfl (by decide) rfl, partG_callS (j := 0) (xs := []) rfl (by decide) rfl (fun _ => rfl) rfl ⟨_, Try.func14, by decide, by kernel_rfl⟩ (by kernel_rfl) (by kernel_rfl) ⟨_, rfl, by kernel_rfl⟩ (copied_partS (i := 0) rfl HLE.out.1 HN.out.2),
         partG_load (j := 1) (i := 3) rfl (by decide) rfl rfl (by decide) rfl rfl ent_row rfl, partG_callS (j := 1) (xs := []) rfl (by decide) rfl (fun _ => rfl) rfl go_entry (by kernel_rfl) (by kernel_rfl) ⟨_, rfl, by kernel_rfl⟩ (entry_partS (i := 1) rfl rfl rfl HLE.out.2 HI.out),
         partG_alloc (j := 1) (cs := zeroL) rfl (by decide) rfl rfl rfl ent_zero rfl ⟨_, rfl, by kernel_rfl⟩,
         partG_asg (j := 0) rfl (by decide) rfl rfl rfl, partG_store (j := 1) rfl (by decide) rfl rfl rfl (by kernel_rfl) (by kernel_rfl) lpst_cells ent_size, trivial⟩ ?_
      intro Dm sw x3 hall hR
      obtain ⟨bb2, RR2, hst, hp⟩ := hR
      obtain ⟨k1, Aw, cw, k2, k3⟩ := (hp 0 (by decide)).end0 (hall 1 (by decide)) (hall 5 (by decide))
      obtain ⟨gn, cs1, k4, k5, k6⟩ := (hp 1 (by decide)).end1 (hall 3 (by decide)) (hall 4 (by decide)) (hall 6 (by decide))
      obtain ⟨An, cn, Bn, dn, Dn', qn, rfl, r6⟩ := lpst_cs (e := E) k6
      have hst : St 5 w ([some (w.heap.size, (entL A1 n1 c1 B1 m1 d1 D1 v1 q1 e)), some (w.heap.size + 1, (entL A2 n2 c2 B2 m2 d2 D2 v2 q2 f)), none, some (gi, (entL Ai ni ci Bi mi di Di vi qi E)), some (gf, (entL Af F.row.length cf Bf F.qual.length df Df F.val.length qf F))] ++ [bb2 0, bb2 1]) ([(Ab, cb, L ++ mkL 70), (Ai, ci, E.row ++ mkL 70), (Bi, di, E.qual ++ mkL 70), (Di, qi, E.val ++ mkL 70), (Af, cf, F.row ++ mkL 70), (Bf, df, F.qual ++ mkL 70), (Df, qf, F.val ++ mkL 70)] ++ (RR2 0 ++ (RR2 1 ++ []))) x3 := hst
      rw [k1, k5, k3, r6, List.append_nil L, HLE.out.2.1, HLE.out.2.2.1, HLE.out.2.2.2] at hst
      have k2 : sw 15 = .slice Aw nl cw := k2
      have k4 : sw 16 = .pointer (some ⟨gn, 0, none⟩) := k4
      simp only [show Parts.slots (⟨2, fun j => 43 + 2 * j, fun j => 44 + 2 * j, fun j => 15 + j, fun j => 2 * j, fun j => 2 * j + 1, fun j => match j with | 0 => 7 | _ => 4, fun j => 5 + j⟩ : Parts) = [43, 44, 15, 45, 46, 16] from rfl, putsF, List.foldl_cons, List.foldl_nil, Act.put, List.setIfInBounds_toArray, List.set_cons_zero, List.set_cons_succ, k2, k4]
      replace HX := Lib.hid hst
      clear hst hp k1 k2 k3 k4 k5 k6 r6 hall
      have HIN : Hid (∀ x', Below x3.heap.size x3 x' → EnM x' Ai ni ci Bi mi di Di vi qi E) := Lib.hid fun x' hx => (enm_n (i := 1) HX.out rfl rfl rfl HLE.out.2 HI.out).later hx
      have HNW : Hid (∀ x', Below x3.heap.size x3 x' → EnM x' An ni cn Bn mi dn Dn' vi qn E) := Lib.hid fun x' hx => (enm_n (i := 8) HX.out rfl rfl rfl HLE.out.2 HI.out).later hx
      have HFR : Hid (∀ x', Below x3.heap.size x3 x' → EnM x' Af F.row.length cf Bf F.qual.length df Df F.val.length qf F) := Lib.hid fun x' hx => (enm_of (i := 4) HX.out rfl rfl rfl HFL.out).later hx
      have HBU : Hid (∀ x', Below x3.heap.size x3 x' → Sl x' Ab (nl + 75) cb (L ++ mkL 70)) := Lib.hid fun x' hx => (HX.out.sl (n := nl + 75) (i := 0) rfl (by rw [List.length_append, mkL_len, HLE.out.1])).later hx
      have HWA : Hid (∀ x', Below x3.heap.size x3 x' → Sl x' Aw nl cw L) := Lib.hid fun x' hx => (HX.out.sl (i := 7) rfl HLE.out.1).later hx
      have HR := Lib.hid (St.nil 5 x3)
      go_wp2_with (first | (go_at_call 15; go_must (refine (parsekey_any L Ab nl cb _ (sl_front (HBU.out _ HR.out.up) HLE.out.1) (by have := HN.out; omega)).mono ?_); rw [HPK.out]; rintro r y21 ⟨A21, c21, B21, d21, D21, q21, rfl, hr, hb⟩; replace HR := Lib.hid (HR.out.app hb hr); clear hr hb) | (refine wpList_alloc_st rfl 27 rfl HR.out zeroL ent_zero ?_; intro g21 w21 hst _; replace HR := Lib.hid hst; clear hst) | (refine wpList_store_st rfl 27 (.tmp 17) (.tmp 50) rfl HR.out 0 (g := g21) rfl rfl (entL A21 X.row.length c21 B21 X.qual.length d21 D21 X.val.length q21 X) rfl rfl ent_size (entL_one _ _ _ _ _ _ _ _ _ _) ?_; intro v21 hst _; replace HR := Lib.hid hst; clear hst))
      go_wp2_with (first | (go_at_call 16; go_must (refine (rparsekey_any L Aw nl cw _ (HWA.out _ HR.out.up) (by have := HN.out; omega)).mono ?_); rw [HPK.out]; rintro r y22 ⟨A22, c22, B22, d22, D22, q22, rfl, hr, hb⟩; replace HR := Lib.hid (HR.out.app hb hr); clear hr hb) | (refine wpList_alloc_st rfl 27 rfl HR.out zeroL ent_zero ?_; intro g22 w22 hst _; replace HR := Lib.hid hst; clear hst) | (refine wpList_store_st rfl 27 (.tmp 19) (.tmp 55) rfl HR.out 1 (g := g22) rfl rfl (entL A22 X.row.length c22 B22 X.qual.length d22 D22 X.val.length q22 X) rfl rfl ent_size (entL_one _ _ _ _ _ _ _ _ _ _) ?_; intro v22 hst _; replace HR := Lib.hid hst; clear hst))
      go_wp2_with (first | (go_at_call 37; go_must (refine (unpack_any L Ab nl cb a _ (sl_front (HBU.out _ HR.out.up) HLE.out.1) (by have := HN.out; omega)).mono ?_); rw [HUP.out]; rintro r y23 ⟨A23, c23, B23, d23, D23, q23, rfl, hr, hb⟩; replace HR := Lib.hid (HR.out.app hb hr); clear hr hb) | (refine wpList_alloc_st rfl 27 rfl HR.out zeroL ent_zero ?_; intro g23 w23 hst _; replace HR := Lib.hid hst; clear hst) | (refine wpList_store_st rfl 27 (.tmp 21) (.tmp 61) rfl HR.out 2 (g := g23) rfl rfl (entL A23 Y.row.length c23 B23 Y.qual.length d23 D23 Y.val.length q23 Y) rfl rfl ent_size (entL_one _ _ _ _ _ _ _ _ _ _) ?_; intro v23 hst _; replace HR := Lib.hid hst; clear hst))
      go_wp2_with (first | (go_at_call 38; go_must (refine (runpack_any L Aw nl cw a _ (HWA.out _ HR.out.up) (by have := HN.out; omega)).mono ?_); rw [HUP.out]; rintro r y24 ⟨A24, c24, B24, d24, D24, q24, rfl, hr, hb⟩; replace HR := Lib.hid (HR.out.app hb hr); clear hr hb) | (refine wpList_alloc_st rfl 27 rfl HR.out zeroL ent_zero ?_; intro g24 w24 hst _; replace HR := Lib.hid hst; clear hst) | (refine wpList_store_st rfl 27 (.tmp 24) (.tmp 68) rfl HR.out 3 (g := g24) rfl rfl (entL A24 Y.row.length c24 B24 Y.qual.length d24 D24 Y.val.length q24 Y) rfl rfl ent_size (entL_one _ _ _ _ _ _ _ _ _ _) ?_; intro v24 hst _; replace HR := Lib.hid hst; clear hst) | (refine wpList_load_row7 rfl 27 (.tmp 12) rfl rfl ((HX.out.later HR.out.up).range (i := 3) rfl) ent_row ?_) | (refine wpList_load_row7 rfl 27 (.tmp 16) rfl rfl ((HX.out.later HR.out.up).range (i := 6) rfl) ent_row ?_) | (refine wpList_load_row7 rfl 27 (.tmp 13) rfl rfl ((HX.out.later HR.out.up).range (i := 4) rfl) ent_row ?_))
      go_wp2_with (first | (go_at_call 39; go_must (refine (written_any E F Ai ni ci Bi mi di Di vi qi An ni cn Bn mi dn Dn' vi qn Af F.row.length cf Bf F.qual.length df Df F.val.length qf _ (HIN.out _ HR.out.up).en (HNW.out _ HR.out.up).en (HFR.out _ HR.out.up).en (by have := HI.out; omega)).mono ?_); rintro r y25 ⟨rfl, hb⟩; replace HR := Lib.hid (HR.out.later hb); clear hb) | (refine wpList_load_row7 rfl 27 (.tmp 17) rfl rfl (HR.out.range (i := 0) rfl) ent_row ?_) | (refine wpList_load_row7 rfl 27 (.tmp 19) rfl rfl (HR.out.range (i := 1) rfl) ent_row ?_))
      have tk : True := trivial
      go_wp2_with (first | (go_at_call 17; have _t := tk; go_must (refine (sameEntry_any X X A21 X.row.length c21 B21 X.qual.length d21 D21 X.val.length q21 A22 X.row.length c22 B22 X.qual.length d22 D22 X.val.length q22 _ rfl ⟨HR.out.sl (i := 0) rfl rfl, HR.out.sl (i := 1) rfl rfl, HR.out.sl (i := 2) rfl rfl⟩ ⟨HR.out.sl (i := 3) rfl rfl, HR.out.sl (i := 4) rfl rfl, HR.out.sl (i := 5) rfl rfl⟩).mono ?_); rintro r y26 ⟨rfl, hb⟩; replace HR := Lib.hid (HR.out.later hb); clear hb tk) | (refine wpList_load_row7 rfl 27 (.tmp 21) rfl rfl (HR.out.range (i := 2) rfl) ent_row ?_) | (refine wpList_load_row7 rfl 27 (.tmp 24) rfl rfl (HR.out.range (i := 3) rfl) ent_row ?_))
      have tk : True := trivial
      go_wp2_with (first | (go_at_call 17; have _t := tk; go_must (refine (sameEntry_any Y Y A23 Y.row.length c23 B23 Y.qual.length d23 D23 Y.val.length q23 A24 Y.row.length c24 B24 Y.qual.length d24 D24 Y.val.length q24 _ rfl ⟨HR.out.sl (i := 6) rfl rfl, HR.out.sl (i := 7) rfl rfl, HR.out.sl (i := 8) rfl rfl⟩ ⟨HR.out.sl (i := 9) rfl rfl, HR.out.sl (i := 10) rfl rfl, HR.out.sl (i := 11) rfl rfl⟩).mono ?_); rintro r y27 ⟨rfl, hb⟩; replace HR := Lib.hid (HR.out.later hb); clear hb tk))
      have HS := Lib.hid (Below.refl y27.heap.size y27).drew
      refine lx_start (S := fun x => Below y27.heap.size y27 x) (by kernel_rfl) HS.out ?_
      refine lx_take 0 rfl (by kernel_rfl) (by kernel_rfl) (by kernel_rfl) (fun _ _ _ h => h) (v := ?_) (yi_run rfl (fun w => ?_)) HS.out ?_
      rotate_left
      · first | (go_simp; done) | (go_simp; with_reducible rfl)
      simp only [Act.put, List.setIfInBounds_toArray, List.set_cons_zero, List.set_cons_succ]
      refine lx_take 1 rfl (by kernel_rfl) (by kernel_rfl) (by kernel_rfl) (fun _ _ _ h => h) (v := ?_) (yi_run rfl (fun w => ?_)) HS.out ?_
      rotate_left
      · first | (go_simp; done) | (go_simp; with_reducible rfl)
      simp only [Act.put, List.setIfInBounds_toArray, List.set_cons_zero, List.set_cons_succ]
      refine lx_call 2 rfl (by kernel_rfl) rfl rfl ⟨_, Try.func18, by decide, by kernel_rfl⟩ [.slice Ab nl cb, .slice Aw nl cw] rfl ?_
      refine (intact_any L Ab Aw nl cb cw _ (HBU.out _ (below_up HR.out.up HS.out)) (HWA.out _ (below_up HR.out.up HS.out)).rb (by have := HN.out; omega)).mono ?_
      rintro r x31 ⟨rfl, hb31⟩
      replace HS := Lib.hid (below_up HS.out hb31)
      clear hb31
      refine ⟨_, rfl, HS.out, ?_⟩
      simp only [Act.put, List.setIfInBounds_toArray, List.set_cons_zero, List.set_cons_succ]
      refine lx_take 3 rfl (by kernel_rfl) (by kernel_rfl) (by kernel_rfl) (fun _ _ _ h => h) (v := ?_) (yi_run rfl (fun w => ?_)) HS.out ?_
      rotate_left
      · first | (go_simp; done) | (go_simp; with_reducible rfl)
      simp only [Act.put, List.setIfInBounds_toArray, List.set_cons_zero, List.set_cons_succ]
      refine lx_take 4 rfl (by kernel_rfl) (by kernel_rfl) (by kernel_rfl) (fun _ _ _ h => h) (v := ?_) (yi_run rfl (fun w => ?_)) HS.out ?_
      rotate_left
      · first | (go_simp; done) | (go_simp; with_reducible rfl)
      simp only [Act.put, List.setIfInBounds_toArray, List.set_cons_zero, List.set_cons_succ]
      refine lx_take 5 rfl (by kernel_rfl) (by kernel_rfl) (by kernel_rfl) (fun _ _ _ h => h) (yi_row rfl rfl rfl (fun w hS => ((HX.out.later HR.out.up).later hS).range (i := 3) rfl) ent_row) HS.out ?_
      simp only [Act.put, List.setIfInBounds_toArray, List.set_cons_zero, List.set_cons_succ]
      refine lx_take 6 rfl (by kernel_rfl) (by kernel_rfl) (by kernel_rfl) (fun _ _ _ h => h) (yi_row rfl rfl rfl (fun w hS => ((HX.out.later HR.out.up).later hS).range (i := 6) rfl) ent_row) HS.out ?_
      simp only [Act.put, List.setIfInBounds_toArray, List.set_cons_zero, List.set_cons_succ]
      refine lx_call 7 rfl (by kernel_rfl) rfl rfl ⟨_, Try.func24, by decide, by kernel_rfl⟩ [.agg (entL Ai ni ci Bi mi di Di vi qi E).toArray, .agg (entL An ni cn Bn mi dn Dn' vi qn E).toArray] rfl ?_
      refine (stands_any E Ai ni ci Bi mi di Di vi qi An cn Bn dn Dn' qn _ (HIN.out _ (below_up HR.out.up HS.out)) (HNW.out _ (below_up HR.out.up HS.out)).en).mono ?_
      rintro r x32 ⟨rfl, hb32⟩
      replace HS := Lib.hid (below_up HS.out hb32)
      clear hb32
      refine ⟨_, rfl, HS.out, ?_⟩
      simp only [Act.put, List.setIfInBounds_toArray, List.set_cons_zero, List.set_cons_succ]
      refine lx_take 8 rfl (by kernel_rfl) (by kernel_rfl) (by kernel_rfl) (fun _ _ _ h => h) (v := ?_) (yi_run rfl (fun w => ?_)) HS.out ?_
      rotate_left
      · first | (go_simp; done) | (go_simp; with_reducible rfl)
      simp only [Act.put, List.setIfInBounds_toArray, List.set_cons_zero, List.set_cons_succ]
      refine lx_take 9 rfl (by kernel_rfl) (by kernel_rfl) (by kernel_rfl) (fun _ _ _ h => h) (v := ?_) (yi_run rfl (fun w => ?_)) HS.out ?_
      rotate_left
      · first | (go_simp; done) | (go_simp; with_reducible rfl)
      simp only [Act.put, List.setIfInBounds_toArray, List.set_cons_zero, List.set_cons_succ]
      refine lx_take 10 rfl (by kernel_rfl) (by kernel_rfl) (by kernel_rfl) (fun _ _ _ h => h) (v := ?_) (yi_run rfl (fun w => ?_)) HS.out ?_
      rotate_left
      · first | (go_simp; done) | (go_simp; with_reducible rfl)
      simp only [Act.put, List.setIfInBounds_toArray, List.set_cons_zero, List.set_cons_succ]
      refine lx_take 11 rfl (by kernel_rfl) (by kernel_rfl) (by kernel_rfl) (fun _ _ _ h => h) (yi_row rfl rfl rfl (fun w hS => ((HX.out.later HR.out.up).later hS).range (i := 4) rfl) ent_row) HS.out ?_
      simp only [Act.put, List.setIfInBounds_toArray, List.set_cons_zero, List.set_cons_succ]
      refine lx_take 12 rfl (by kernel_rfl) (by kernel_rfl) (by kernel_rfl) (fun _ _ _ h => h) (yi_row rfl rfl rfl (fun w hS => ((HX.out.later HR.out.up).later hS).range (i := 1) rfl) ent_row) HS.out ?_
      simp only [Act.put, List.setIfInBounds_toArray, List.set_cons_zero, List.set_cons_succ]
      refine lx_call 13 rfl (by kernel_rfl) rfl rfl ⟨_, Try.func21, by decide, by kernel_rfl⟩ [.agg (entL A2 n2 c2 B2 m2 d2 D2 v2 q2 f).toArray] rfl ?_
      refine (entry_any f A2 n2 c2 B2 m2 d2 D2 v2 q2 _ (H2.out.later (below_up (HX.out.later HR.out.up).up HS.out))).mono ?_
      rw [HCF.out]
      rintro r x33 ⟨A33, c33, B33, d33, D33, q33, rfl, hr33, hb33⟩
      have HM33 : Hid (∀ x, Below x33.heap.size x33 x → EnM x A33 F.row.length c33 B33 F.qual.length d33 D33 F.val.length q33 F) := Lib.hid fun x hx => (LaidE.enm hr33 HFL.out.1 HFL.out.2.1 HFL.out.2.2).later hx
      replace HS := Lib.hid (below_up HS.out hb33)
      clear hb33
      clear hr33
      refine ⟨_, rfl, HS.out, ?_⟩
      simp only [Act.put, List.setIfInBounds_toArray, List.set_cons_zero, List.set_cons_succ]
      refine lx_call 14 rfl (by kernel_rfl) rfl rfl ⟨_, Try.func24, by decide, by kernel_rfl⟩ [.agg (entL Af F.row.length cf Bf F.qual.length df Df F.val.length qf F).toArray, entV A33 F.row.length c33 B33 F.qual.length d33 D33 F.val.length q33 F] rfl ?_
      refine (stands_any F Af F.row.length cf Bf F.qual.length df Df F.val.length qf A33 c33 B33 d33 D33 q33 _ (HFR.out _ (below_up HR.out.up HS.out)) (HM33.out _ (Below.refl _ _)).en).mono ?_
      rintro r x34 ⟨rfl, hb34⟩
      replace HS := Lib.hid (below_up HS.out hb34)
      clear hb34
      clear HM33
      refine ⟨_, rfl, HS.out, ?_⟩
      simp only [Act.put, List.setIfInBounds_toArray, List.set_cons_zero, List.set_cons_succ]
      refine lx_take 15 rfl (by kernel_rfl) (by kernel_rfl) (by kernel_rfl) (fun _ _ _ h => h) (v := ?_) (yi_run rfl (fun w => ?_)) HS.out ?_
      rotate_left
      · first | (go_simp; done) | (go_simp; with_reducible rfl)
      simp only [Act.put, List.setIfInBounds_toArray, List.set_cons_zero, List.set_cons_succ]
      refine lx_take 16 rfl (by kernel_rfl) (by kernel_rfl) (by kernel_rfl) (fun _ _ _ h => h) (v := ?_) (yi_run rfl (fun w => ?_)) HS.out ?_
      rotate_left
      · first | (go_simp; done) | (go_simp; with_reducible rfl)
      simp only [Act.put, List.setIfInBounds_toArray, List.set_cons_zero, List.set_cons_succ]
      refine lx_done (by kernel_rfl) ?_
      replace HX := Lib.hid ((HX.out.later HR.out.up).later HS.out).cut.cutRows
      clear HR HS HIN HNW HFR HBU HWA HPK HUP
      by_cases hlt : k < nt
      · have hd5 : decide ((k : Int) < (nt : Int)) = true := decide_eq_true (by omega)
        have hd6 : decide (k < nt) = true := decide_eq_true hlt
        obtain ⟨bt, ot, rfl, hbt, hrow⟩ := HT.out (by omega)
        obtain ⟨kd, ta, tb, hq⟩ := hrow k hlt
        have HQ := Lib.hid hq
        clear hrow hq
        go_wp2_with fail
        refine wp_region_reg (by kernel_rfl) (by kernel_rfl) tnS (TnR w (some (w.heap.size, (entL A1 n1 c1 B1 m1 d1 D1 v1 q1 e))) (some (w.heap.size + 1, (entL A2 n2 c2 B2 m2 d2 D2 v2 q2 f))) (some (gf, (entL Af F.row.length cf Bf F.qual.length df Df F.val.length qf F))) gi Ab nl cb Ai ni ci Bi mi di Di vi qi [(Af, cf, F.row ++ mkL 70), (Bf, df, F.qual ++ mkL 70), (Df, qf, F.val ++ mkL 70)] L E (fun j => match j with | 0 => .agg (entL Ai ni ci Bi mi di Di vi qi E).toArray | 1 => .slice Ab nl cb | 2 => .slice (some ⟨bt, ot, none⟩) nt ct | 3 => .int .i64 (k : Int) | 4 => .pointer (some ⟨bt, ot + k * 3, none⟩) | _ => .agg ([.int .i64 kd, .int .i64 ta, .int .i64 tb] : List Value).toArray)) ⟨fun _ => HX.out.drew, (fun _ _ e => nomatch e), (fun e => nomatch e)⟩
          ⟨tn_read (i := 0) (by decide) (by show 130 < 131 + 1; decide) rfl (fun D a y hs hR h6 hp => exec_load_row rfl ((hs.eval (by decide)).trans rfl) ((hR.st h6).range (i := 3) rfl) ent_row) (fun D hc h => edge_on (by kernel_rfl) (hc 6 _ rfl h)),
           tn_read (i := 1) (by decide) (by show 130 < 131 + 1; decide) rfl (fun D a y hs hR h6 hp => exec_move rfl ((hs.eval (by decide)).trans rfl)) (fun D hc h => edge_on (by kernel_rfl) (hc 6 _ rfl h)),
           tn_read (i := 2) (by decide) (by show 130 < 131 + 1; decide) rfl (fun D a y hs hR h6 hp => exec_move rfl ((hs.eval (by decide)).trans rfl)) (fun D hc h => edge_on (by kernel_rfl) (hc 4 _ rfl (edge_on (n := 4) (by kernel_rfl) (hc 5 _ rfl (edge_on (n := 5) (by kernel_rfl) (hc 6 _ rfl h)))))),
           tn_read (i := 3) (by decide) (by show 130 < 131 + 1; decide) rfl (fun D a y hs hR h6 hp => exec_move rfl ((hs.eval (by decide)).trans rfl)) (fun D hc h => edge_on (by kernel_rfl) (hc 4 _ rfl (edge_on (n := 4) (by kernel_rfl) (hc 5 _ rfl (edge_on (n := 5) (by kernel_rfl) (hc 6 _ rfl h)))))),
           tn_read (i := 4) (by decide) (by show 130 < 131 + 1; decide) rfl (fun D a y hs hR h6 hp => turn_addr (hR.sl 2 (by decide) (edge_on (by kernel_rfl) hp)) (hR.sl 3 (by decide) (edge_on (by kernel_rfl) hp)) hlt) (fun D hc h => (edge_on (n := 4) (by kernel_rfl) (hc 5 _ rfl (edge_on (n := 5) (by kernel_rfl) (hc 6 _ rfl h))))),
           tn_read (i := 5) (by decide) (by show 130 < 131 + 1; decide) rfl (fun D a y hs hR h6 hp => exec_load_row rfl (hR.sl 4 (by decide) (edge_on (by kernel_rfl) hp)) (fun j v hv => cell_below (hR.st h6).up (HQ.out j v hv)) turn_row) (fun D hc h => edge_on (by kernel_rfl) (hc 6 _ rfl h)),
           tn_call (by show 130 < 131 + 1; decide) rfl rfl (by kernel_rfl) (by kernel_rfl) (by kernel_rfl) ⟨_, rfl, by kernel_rfl⟩ rfl rfl rfl HLE.out (by have := HI.out; have := HN.out; omega),
           tn_store (by show 130 < 131 + 1; decide) rfl rfl (by kernel_rfl) rfl, trivial⟩ ?_
        intro Dz sz y5 hall hR
        obtain ⟨L', E', zq1, zq2, _, zq4⟩ := hR.cl (hall 6 (by decide))
        have HX2 : Hid (St 5 w [some (w.heap.size, (entL A1 n1 c1 B1 m1 d1 D1 v1 q1 e)), some (w.heap.size + 1, (entL A2 n2 c2 B2 m2 d2 D2 v2 q2 f)), none, some (gi, (entL Ai ni ci Bi mi di Di vi qi E')), some (gf, (entL Af F.row.length cf Bf F.qual.length df Df F.val.length qf F))] [(Ab, cb, L' ++ mkL 70), (Ai, ci, E'.row ++ mkL 70), (Bi, di, E'.qual ++ mkL 70), (Di, qi, E'.val ++ mkL 70), (Af, cf, F.row ++ mkL 70), (Bf, df, F.qual ++ mkL 70), (Df, qf, F.val ++ mkL 70)] y5) := Lib.hid (zq4 (hall 7 (by decide)))
        have HL2 : Hid (L'.length = nl ∧ E'.row.length = ni ∧ E'.qual.length = mi ∧ E'.val.length = vi) := Lib.hid zq1
        simp only [tnS, putsF, List.foldl_cons, List.foldl_nil, Act.put, List.setIfInBounds_toArray, List.set_cons_zero, List.set_cons_succ]
        clear hR hall zq1 zq2 zq4
        go_wp2_with fail
        go_roundw
        case rel => exact ⟨k + 1, by omega, by go_num, Lib.hid ⟨L', E', HL2.out, HX2.out⟩⟩
        case measure => simp [intOf]; omega
      · have hd5 : decide ((k : Int) < (nt : Int)) = false := decide_eq_false (by omega)
        have hd6 : decide (k < nt) = false := decide_eq_false hlt
        go_wp2_with fail
        go_roundw
        case rel => exact ⟨k + 1, by omega, by go_num, Lib.hid ⟨L, E, HLE.out, HX.out⟩⟩
        case measure => simp [intOf]; omega
    · have HY := Lib.hid HX.out.up
      by_cases hc1 : k ≤ nt
      · have hd1 : decide ((k : Int) ≤ (nt : Int)) = true := decide_eq_true (by omega)
        have hd2 : decide (k ≤ nt) = true := decide_eq_true hc1
        have hd3 : decide ((k : Int) ≤ 30) = false := decide_eq_false (by omega)
        have hd4 : decide (k ≤ 30) = false := decide_eq_false (by omega)
        go_wp2_with (go_at_call 12; go_must (refine (told_any _).mono ?_); rintro r z1 ⟨rfl, hb⟩; have HZ := Lib.hid (below_up HY.out hb); clear hb)
        go_ret
        exact ⟨rfl, HZ.out⟩
      · have hd1 : decide ((k : Int) ≤ (nt : Int)) = false := decide_eq_false (by omega)
        have hd2 : decide (k ≤ nt) = false := decide_eq_false hc1
        go_wp2_with (go_at_call 12; go_must (refine (told_any _).mono ?_); rintro r z1 ⟨rfl, hb⟩; have HZ := Lib.hid (below_up HY.out hb); clear hb)
        go_ret
        exact ⟨rfl, HZ.out⟩
end Go.Proofs.Ytcikhlieaoanoaa

/-
  A slice of structs that came in, each field of one cell: its cells, what each field reads as, and the bound on it.
-/
namespace Go.Proofs.Ytcikhlieaoanoaa
open Go.RowKit Go.WideShapes Go.ChangeShapes Go.Joins Go.Deep

theorem bulk_mem {H : Type} {d : DataW H} {l : List (DataW H)} (h : d ∈ l) : Rows.uptoBulk d ≤ Rows.uptoBulkAll l := by
  induction l with
  | nil => cases h
  | cons x l ih =>
    simp only [Rows.uptoBulkAll]
    rcases List.mem_cons.1 h with rfl | h
    · omega
    · have := ih h; omega

section
variable {H : Type} {enc : TypeId × Value → H} {P : Program} {w : World} {base : Nat} {held : Bool}
theorem upto_structs {t e : TypeId} {fs : Array Field} {fuel : Nat} {cs : List Value} {x : DataW H × List MemPlace} (ht : P.underlying t = some (.slice e)) (he : P.underlying e = some (.struct fs))
    (hone : oneCellFields P fs = true) (hC : P.cellsOf e = fs.size) (h : DataW.trod enc P w base (fun _ => true) held fuel t cs = some x) :
    cs = [.slice none 0 0] ∨
    ∃ (a : Addr) (len cap : Nat), cs = [.slice (some a) len cap] ∧ len ≤ cap ∧ cap ≤ maxLen ∧ cap + 1 ≤ Rows.uptoBulk x.1 ∧
      ∀ i, i < len → ∀ (j : Nat) (f : Field), fs[j]? = some f → ∃ (v : Value) (y : DataW H × List MemPlace) (n : Nat), w.cell? (a.add (i * fs.size + j)) = some v ∧ DataW.trod enc P w base (fun _ => true) held n f.type [v] = some y ∧ Rows.uptoBulk y.1 + 1 ≤ Rows.uptoBulk x.1 := by
  rcases open_slice_fields ht he hone hC h with ⟨h0, _⟩ | ⟨a, len, cap, m, D, Pl, hcs, hb, hl, hm, hmm, hx, hi⟩
  · exact .inl h0
  · rw [if_pos rfl] at hmm
    subst hmm
    refine .inr ⟨a, len, m, hcs, hl, hm, ?_, fun i him j f hf => ?_⟩
    · rw [hx]
      simp only [Rows.uptoBulk]
      have e1 := bulk_len (H := H) ((List.range len).map D)
      have e2 := bulk_len (H := H) ((List.range (m - len)).map fun j => D (len + j))
      simp only [List.length_map, List.length_range] at e1 e2
      omega
    · obtain ⟨ys, n, hD, _, hyl, hq⟩ := hi i (by omega)
      obtain ⟨v, y, hc, hy, ht'⟩ := hq j f hf
      refine ⟨v, y, n, hc, ht', ?_⟩
      have h1 : Rows.uptoBulk y.1 ≤ Rows.uptoBulkAll (ys.map (·.1)) := bulk_mem (List.mem_map.2 ⟨y, List.mem_of_getElem? hy, rfl⟩)
      have h2 : Rows.uptoBulk (D i) ≤ Rows.uptoBulkAll ((List.range len).map D) := bulk_mem (List.mem_map.2 ⟨i, List.mem_range.2 him, rfl⟩)
      rw [hD] at h2
      rw [hx]
      simp only [Rows.uptoBulk] at h2 ⊢
      omega
theorem field_int {k : IntKind} {t : TypeId} {v : Value} {y : DataW H × List MemPlace} {n : Nat} {sp : Nat → Bool} (ht : P.underlying t = some (.int k)) (h : DataW.trod enc P w base sp held n t [v] = some y) : ∃ z : Int, v = .int k z ∧ (Lit.int k z).wf = true := by
  obtain ⟨z, e0, _, hw⟩ := DataW.trod_int ht h
  injection e0 with e0 _
  exact ⟨z, e0, hw⟩
theorem field_bytes {t e : TypeId} {v : Value} {y : DataW H × List MemPlace} {n : Nat} (ht : P.underlying t = some (.slice e)) (he : P.underlying e = some (.int .u8)) (hC : P.cellsOf e = 1) (h : DataW.trod enc P w base (fun _ => true) held n t [v] = some y) :
    ∃ (A : Option Addr) (m c : Nat) (l : List UInt8), v = .slice A m c ∧ Sl w A m c l ∧ c + 1 ≤ Rows.uptoBulk y.1 := by
  obtain ⟨A, c, l, e0, h1, h2⟩ := upto_bytes ht he hC h
  injection e0 with e0 _
  exact ⟨A, _, c, l, e0, h1, h2⟩
theorem field_keys {t t1 e : TypeId} {v : Value} {y : DataW H × List MemPlace} {n : Nat} (ht : P.underlying t = some (.slice t1)) (ht1 : P.underlying t1 = some (.slice e)) (he : P.underlying e = some (.int .u8)) (hC1 : P.cellsOf t1 = 1) (hC : P.cellsOf e = 1) (h : DataW.trod enc P w base (fun _ => true) held n t [v] = some y) :
    ∃ (A : Option Addr) (m c : Nat) (ks : List (List UInt8)), v = .slice A m c ∧ m ≤ c ∧ c ≤ 9223372036854775807 ∧ (A = none → c = 0) ∧ RBs w w.heap.size A m ks ∧ ks.flatten.length + c + 1 ≤ Rows.uptoBulk y.1 := by
  obtain ⟨A, c, ks, e0, h1, h2, h3, h4, h5⟩ := upto_keys ht ht1 he hC1 hC h
  injection e0 with e0 _
  exact ⟨A, _, c, ks, e0, h1, h2, h3, h4, h5⟩
end
end Go.Proofs.Ytcikhlieaoanoaa

/-
  A list of changes as an argument, opened.
-/
namespace Go.Proofs.Ytcikhlieaoanoaa
open Go.RowKit Go.WideShapes Go.ChangeShapes Go.Joins Go.Deep

section
variable {H : Type} {enc : TypeId × Value → H} {w : World} {base : Nat} {held : Bool}
theorem turns_spot {w : World} {a : Addr} {v : Value} (h : w.cell? a = some v) : a.spot = none := spot_none6 h
set_option maxRecDepth 100000 in
theorem open_turns_top {r : Reach} {b0 : Nat} {v : Value} {d : DataW H} {ps : List MemPlace} (hval : Value.okWide Try.prog w r b0 59 v) (h : DataW.Trod enc Try.prog w base (fun _ => true) held 59 v d ps) :
    ∃ (A : Option Addr) (n c : Nat), v = .slice A n c ∧ (n ≤ c ∧ c ≤ 9223372036854775807) ∧ Trn w A n := by
  obtain ⟨fuel, hf⟩ := open_slice_top Try.underlying59 hval h
  rcases upto_structs Try.underlying59 Try.underlying62 (by kernel_rfl) (by kernel_rfl) hf with h1 | ⟨a, len, cap, h1, hl, hm, _, hi⟩
  · injection h1 with h1
    exact ⟨none, 0, 0, h1, ⟨Nat.le_refl 0, Nat.zero_le _⟩, fun h => absurd h (by omega)⟩
  · injection h1 with h1
    refine ⟨some a, len, cap, h1, ⟨hl, by unfold maxLen at hm; exact hm⟩, fun hn => ?_⟩
    obtain ⟨v, y, n, c0, _⟩ := hi 0 hn 0 _ rfl
    have c0' : w.cell? (a.add 0) = some v := c0
    rw [show a.add 0 = a from by simp [Addr.add]] at c0'
    have hsp := spot_none6 c0'
    have hb0 := World.block_lt_of_cell? w a c0'
    obtain ⟨b, o, sp⟩ := a
    simp at hsp
    subst hsp
    refine ⟨b, o, rfl, hb0, fun i him => ?_⟩
    obtain ⟨v0, y0, n0, c0, t0, _⟩ := hi i him 0 _ rfl
    obtain ⟨v1, y1, n1, c1, t1, _⟩ := hi i him 1 _ rfl
    obtain ⟨v2, y2, n2, c2, t2, _⟩ := hi i him 2 _ rfl
    obtain ⟨k, rfl, _⟩ := field_int Try.underlying3 t0
    obtain ⟨t, rfl, _⟩ := field_int Try.underlying3 t1
    obtain ⟨z, rfl, _⟩ := field_int Try.underlying3 t2
    rw [Addr.add_mid] at c0 c1 c2
    refine ⟨k, t, z, fun j u hj => ?_⟩
    match j, hj with
    | 0, hj => injection hj with hj; subst hj; exact c0
    | 1, hj => injection hj with hj; subst hj; exact (congrArg (fun x => w.cell? ⟨b, x, none⟩) (by show o + i * 3 + 1 = o + (i * 3 + 1); omega)).trans c1
    | 2, hj => injection hj with hj; subst hj; exact (congrArg (fun x => w.cell? ⟨b, x, none⟩) (by show o + i * 3 + 2 = o + (i * 3 + 2); omega)).trans c2
end
end Go.Proofs.Ytcikhlieaoanoaa

/-
  What the call owns: boxes and rows of whatever cells, all apart, under one head. Over any program.
-/
namespace Go.Proofs.Ytcikhlieaoanoaa
open Go.RowKit

/-- A thing of the call's own: a box (its address, its cells), or a row (its element type, the cells that an element has, its slice, its length, its cells). -/
structure Ob where
  bx : Bool
  ty : TypeId
  sz : Nat
  v : Value
  n : Nat
  cs : List Value
def boxO (g : Nat) (cs : List Value) : Ob := ⟨true, 0, 0, .pointer (some ⟨g, 0, none⟩), 0, cs⟩
def rowO (T : TypeId) (sz : Nat) (v : Value) (n : Nat) (cs : List Value) : Ob := ⟨false, T, sz, v, n, cs⟩
def bytO (T : TypeId) (r : Option Addr × Nat × List UInt8) : Ob := ⟨false, T, 1, .slice r.1 r.2.2.length r.2.1, r.2.2.length, u8s r.2.2⟩
/-- A place that is free. -/
def nilO : Ob := ⟨false, 0, 1, .slice none 0 0, 0, []⟩
def vBlock : Value → Option Nat
  | .pointer (some a) => some a.block
  | .slice (some a) _ _ => some a.block
  | _ => none
def Ob.blk (o : Ob) : Option Nat := vBlock o.v
def Ob.at_ (B : Nat) (x : World) (o : Ob) : Prop :=
  (o.bx = true → ∃ g, o.v = .pointer (some ⟨g, 0, none⟩) ∧ B ≤ g ∧ g < x.heap.size ∧ x.rangeAt g 0 o.cs ∧ ∀ j, x.frozen? ⟨g, j, none⟩ = false) ∧
  (o.bx = false → x.ownsRow B o.ty o.sz o.v o.n o.cs)
def Ap (o p : Ob) : Prop := ∀ b, o.blk = some b → p.blk ≠ some b
structure OW (w : World) (os : List Ob) (x : World) : Prop where
  up : Below w.heap.size w x
  ob : ∀ o, o ∈ os → o.at_ w.heap.size x
  ne : os.Pairwise Ap

section
variable {w x y : World} {os os' ps : List Ob} {o p : Ob} {B g i j n sz c : Nat} {T : TypeId} {v : Value} {cs vs news : List Value} {S : Nat → Prop} {A : Option Addr} {l : List UInt8}
theorem own_vblock {e : TypeId} (h : w.ownsRow B e sz v n cs) : vBlock v = v.ownBlock := by
  rcases h.2 with ⟨rfl, _⟩ | ⟨g, cap, cur, rfl, _⟩ <;> rfl
theorem own_rebase {B' : Nat} (h : w.ownsRow B T sz v n cs) (hb : B' ≤ B) : w.ownsRow B' T sz v n cs := by
  refine ⟨h.1, ?_⟩
  rcases h.2 with h | ⟨g, cap, cur, hv, hg, hr⟩
  · exact .inl h
  · exact .inr ⟨g, cap, cur, hv, Nat.le_trans hb hg, hr⟩
theorem Ap.symm (h : Ap o p) : Ap p o := fun b hb e => h b e hb
theorem Ob.at_.lt {b : Nat} (h : o.at_ B x) (hb : o.blk = some b) : B ≤ b ∧ b < x.heap.size := by
  cases hq : o.bx with
  | true =>
    obtain ⟨g, h1, h2, h3, _⟩ := h.1 hq
    unfold Ob.blk at hb; rw [h1] at hb; injection hb with hb; subst hb; exact ⟨h2, h3⟩
  | false =>
    have h1 := h.2 hq
    unfold Ob.blk at hb; rw [own_vblock h1] at hb; exact World.ownsRow.lt h1 b hb
theorem Ob.at_.chg (h : o.at_ B x) (hc : Chg S x y) (hn : ∀ b, o.blk = some b → ¬ S b) : o.at_ B y := by
  refine ⟨fun hq => ?_, fun hq => ?_⟩
  · obtain ⟨g, h1, h2, h3, h4, h5⟩ := h.1 hq
    have hg : ¬ S g := hn g (by unfold Ob.blk; rw [h1]; rfl)
    exact ⟨g, h1, h2, Nat.lt_of_lt_of_le h3 hc.size, fun j v hv => hc.cell (h4 j v hv) hg, fun j => (World.frozen?_of_block (hc.block g h3 hg)).trans (h5 j)⟩
  · exact own_chg (h.2 hq) hc fun g hg => hn g (by unfold Ob.blk; rw [own_vblock (h.2 hq)]; exact hg)
theorem Ob.at_.mono {B' : Nat} (h : o.at_ B x) (hb : B' ≤ B) : o.at_ B' x :=
  ⟨fun hq => by
    obtain ⟨g, h1, h2, h3⟩ := h.1 hq
    exact ⟨g, h1, Nat.le_trans hb h2, h3⟩, fun hq => own_rebase (h.2 hq) hb⟩
theorem OW.nil (w : World) : OW w [] w := ⟨Below.refl _ _, fun o h => (by cases h), List.Pairwise.nil⟩
theorem OW.later (h : OW w os x) (k : Below x.heap.size x y) : OW w os y :=
  ⟨h.up.trans (k.mono h.up.size), fun o ho => (h.ob o ho).chg (S := fun _ => False) (Below.chg0 k) fun _ _ e => e, h.ne⟩
theorem OW.drew (h : OW w os x) : OW w os x.drew := h.later (Below.refl _ _).drew
theorem OW.al (h : OW w os x) (o : Obj) : OW w os (x.alloc o) := h.later ((Below.refl _ _).alloc (Nat.le_refl _) o)
theorem OW.perm (h : OW w os x) (hp : os.Perm os') : OW w os' x :=
  ⟨h.up, fun o ho => h.ob o (hp.mem_iff.2 ho), (hp.pairwise_iff (fun h => Ap.symm h)).1 h.ne⟩
theorem OW.sub (h : OW w os x) (hp : os'.Sublist os) : OW w os' x := ⟨h.up, fun o ho => h.ob o (hp.mem ho), h.ne.sublist hp⟩
theorem OW.erase (h : OW w os x) (i : Nat) : OW w (os.eraseIdx i) x := h.sub (List.eraseIdx_sublist _ _)
theorem OW.left (h : OW w (os ++ ps) x) : OW w os x := h.sub (List.sublist_append_left _ _)
theorem OW.right (h : OW w (os ++ ps) x) : OW w ps x := h.sub (List.sublist_append_right _ _)
theorem OW.app (h : OW w os x) (k : OW x ps y) : OW w (os ++ ps) y := by
  have h' := h.later k.up
  refine ⟨h'.up, fun o ho => ?_, ?_⟩
  · rcases List.mem_append.1 ho with ho | ho
    · exact h'.ob o ho
    · exact (k.ob o ho).mono h.up.size
  · refine List.pairwise_append.2 ⟨h.ne, k.ne, fun a ha b hb c hc e => ?_⟩
    have h1 := ((h.ob a ha).lt hc).2
    have h2 := ((k.ob b hb).lt e).1
    omega
theorem split_at {α : Type} {l : List α} {i : Nat} {a : α} (h : l[i]? = some a) : ∃ l1 l2, l = l1 ++ a :: l2 ∧ l1.length = i := by
  obtain ⟨hi, e⟩ := List.getElem?_eq_some_iff.1 h
  refine ⟨l.take i, l.drop (i + 1), ?_, by simp; omega⟩
  rw [← e, List.getElem_cons_drop, List.take_append_drop]
theorem OW.front (h : OW w os x) (hi : os[i]? = some o) : OW w (o :: os.eraseIdx i) x := by
  obtain ⟨l1, l2, rfl, rfl⟩ := split_at hi
  have e : (l1 ++ o :: l2).eraseIdx l1.length = l1 ++ l2 := by
    rw [List.eraseIdx_append_of_length_le (Nat.le_refl _), Nat.sub_self]; rfl
  rw [e]
  exact h.perm List.perm_middle
/-- One thing is turned into another: blocks of its own change alone, and new ones. -/
theorem OW.upd (h : OW w os x) (hi : os[i]? = some o) (hc : Chg S x y) (hS : ∀ b, b < x.heap.size → S b → o.blk = some b) (ho : p.at_ w.heap.size y) (hb : ∀ b, p.blk = some b → o.blk = some b ∨ x.heap.size ≤ b) : OW w (os.set i p) y := by
  obtain ⟨l1, l2, rfl, rfl⟩ := split_at hi
  have e : (l1 ++ o :: l2).set l1.length p = l1 ++ p :: l2 := by
    rw [List.set_append_right _ _ (Nat.le_refl _), Nat.sub_self]; rfl
  rw [e]
  obtain ⟨n1, n2, n3⟩ := List.pairwise_append.1 h.ne
  obtain ⟨n4, n5⟩ := List.pairwise_cons.1 n2
  have keep : ∀ q, q ∈ l1 ++ o :: l2 → Ap o q → q.at_ w.heap.size y := fun q hq ha =>
    (h.ob q hq).chg hc fun b hb hs => ha b (hS b ((h.ob q hq).lt hb).2 hs) hb
  have ap : ∀ q, q ∈ l1 ++ o :: l2 → Ap o q → Ap p q := fun q hq ha b hpb hqb => by
    rcases hb b hpb with h1 | h1
    · exact ha b h1 hqb
    · have := ((h.ob q hq).lt hqb).2; omega
  refine ⟨h.up.trans (hc.below h.up.size fun k hk hs => ((h.ob o (by simp)).lt (hS k hk hs)).1), fun q hq => ?_, List.pairwise_append.2 ⟨n1, List.pairwise_cons.2 ⟨fun q hq => ap q (by simp [hq]) (n4 q hq), n5⟩, fun q hq r hr => ?_⟩⟩
  · rcases List.mem_append.1 hq with h1 | h1
    · exact keep q (by simp [h1]) (Ap.symm (n3 q h1 o (by simp)))
    · rcases List.mem_cons.1 h1 with rfl | h1
      · exact ho
      · exact keep q (by simp [h1]) (n4 q h1)
  · rcases List.mem_cons.1 hr with rfl | h1
    · exact Ap.symm (ap q (by simp [hq]) (Ap.symm (n3 q hq o (by simp))))
    · exact n3 q hq r (by simp [h1])
theorem OW.get (h : OW w os x) (hi : os[i]? = some o) : o.at_ w.heap.size x := h.ob o (List.mem_of_getElem? hi)
theorem OW.apart (h : OW w os x) (hi : os[i]? = some o) (hj : os[j]? = some p) (hne : i ≠ j) : Ap o p := by
  obtain ⟨h1, e1⟩ := List.getElem?_eq_some_iff.1 hi
  obtain ⟨h2, e2⟩ := List.getElem?_eq_some_iff.1 hj
  subst e1; subst e2
  rcases Nat.lt_or_gt_of_ne hne with h3 | h3
  · exact List.pairwise_iff_getElem.1 h.ne i j h1 h2 h3
  · exact Ap.symm (List.pairwise_iff_getElem.1 h.ne j i h2 h1 h3)
/-! What is read. -/
theorem OW.box (h : OW w os x) (hi : os[i]? = some (boxO g cs)) : w.heap.size ≤ g ∧ g < x.heap.size ∧ x.rangeAt g 0 cs ∧ ∀ j, x.frozen? ⟨g, j, none⟩ = false := by
  obtain ⟨g', h1, h2⟩ := (h.get hi).1 rfl
  injection h1 with h1; injection h1 with h1; injection h1 with h1
  subst h1; exact h2
theorem OW.range (h : OW w os x) (hi : os[i]? = some (boxO g cs)) : x.rangeAt g 0 cs := (h.box hi).2.2.1
theorem OW.cell (h : OW w os x) (hi : os[i]? = some (boxO g cs)) (hv : cs[j]? = some v) : x.cell? ⟨g, j, none⟩ = some v := by
  have := h.range hi j v hv; rwa [Nat.zero_add] at this
theorem OW.fz (h : OW w os x) (hi : os[i]? = some (boxO g cs)) (j : Nat) : x.frozen? ⟨g, j, none⟩ = false := (h.box hi).2.2.2 j
theorem OW.row (h : OW w os x) (hi : os[i]? = some (rowO T sz v n cs)) : x.ownsRow w.heap.size T sz v n cs := (h.get hi).2 rfl
theorem OW.byt (h : OW w os x) (hi : os[i]? = some (bytO T (A, c, l))) : OwnB T w.heap.size x A c l := (h.get hi).2 rfl
theorem OW.sl (h : OW w os x) (hi : os[i]? = some (bytO T (A, c, l))) (hn : l.length = n) : Sl x A n c l := hn ▸ Sl.own (h.byt hi)
/-! By membership. -/
theorem OW.cellm (h : OW w os x) (hm : boxO g cs ∈ os) (hv : cs[j]? = some v) : x.cell? ⟨g, j, none⟩ = some v := by
  obtain ⟨i, hi⟩ := List.getElem?_of_mem hm
  exact h.cell hi hv
theorem OW.rangem (h : OW w os x) (hm : boxO g cs ∈ os) : x.rangeAt g 0 cs := by
  obtain ⟨i, hi⟩ := List.getElem?_of_mem hm
  exact h.range hi
theorem OW.rowm (h : OW w os x) (hm : rowO T sz v n cs ∈ os) : x.ownsRow w.heap.size T sz v n cs := (h.ob _ hm).2 rfl
theorem OW.slm (h : OW w os x) (hm : bytO T (A, c, l) ∈ os) (hn : l.length = n) : Sl x A n c l := hn ▸ Sl.own (h.rowm (T := T) (sz := 1) hm)
theorem perm_front {α : Type} {l : List α} {a : α} (hi : l[i]? = some a) : l.Perm (a :: l.eraseIdx i) := by
  obtain ⟨l1, l2, rfl, rfl⟩ := split_at hi
  have e : (l1 ++ a :: l2).eraseIdx l1.length = l1 ++ l2 := by
    rw [List.eraseIdx_append_of_length_le (Nat.le_refl _), Nat.sub_self]; rfl
  rw [e]
  exact List.perm_middle
/-! What comes in. -/
theorem OW.row1 (k : Below x.heap.size x y) (h : y.ownsRow x.heap.size T sz v n cs) : OW x [rowO T sz v n cs] y :=
  ⟨k, fun o ho => by
    obtain rfl := List.mem_singleton.1 ho
    exact ⟨(fun e => nomatch e), fun _ => h⟩, List.pairwise_singleton _ _⟩
theorem OW.byt1 (k : Below x.heap.size x y) (h : OwnB T x.heap.size y A c l) : OW x [bytO T (A, c, l)] y :=
  ⟨k, fun o ho => by
    obtain rfl := List.mem_singleton.1 ho
    exact ⟨(fun e => nomatch e), fun _ => h⟩, List.pairwise_singleton _ _⟩
theorem OW.box1 (x : World) (t : TypeId) (cs : List Value) : OW x [boxO x.heap.size cs] (x.alloc (.cells cs.toArray t)) :=
  ⟨(Below.refl _ _).alloc (Nat.le_refl _) _, fun o ho => by
    obtain rfl := List.mem_singleton.1 ho
    exact ⟨fun _ => ⟨x.heap.size, rfl, Nat.le_refl _, by show _ < (x.heap.push _).size; simp, range_new _ _ _, fun j => by simp⟩, fun e => nomatch e⟩, List.pairwise_singleton _ _⟩
theorem OW.lit1 (x : World) (C : Array Value) (e : TypeId) (sz n : Nat) (hm : n ≤ maxLen) (hs : C.size = n * sz) : OW x [rowO e sz (.slice (some ⟨x.heap.size, 0, none⟩) n n) n C.toList] (x.alloc (.cells C e)) :=
  OW.row1 ((Below.refl _ _).alloc (Nat.le_refl _) _) (World.ownsRow_lit x C n (Nat.le_refl _) hm hs)
theorem byt_blk (r : Option Addr × Nat × List UInt8) : (bytO T r).blk = r.1.map (·.block) := by
  obtain ⟨A, c, l⟩ := r
  cases A <;> rfl
theorem OW.rows1 {rs : RowL} (k : Below x.heap.size x y) (h : RowsB T x.heap.size y rs) : OW x (rs.map (bytO T)) y := by
  refine ⟨k, fun o ho => ?_, ?_⟩
  · obtain ⟨r, hr, rfl⟩ := List.mem_map.1 ho
    obtain ⟨i, hi⟩ := List.getElem?_of_mem hr
    exact ⟨(fun e => nomatch e), fun _ => h.1 i r hi⟩
  · rw [List.pairwise_map]
    refine List.pairwise_iff_getElem.2 fun i j hi hj hij b hb e => ?_
    rw [byt_blk] at hb e
    obtain ⟨a, ha, ha'⟩ := Option.map_eq_some_iff.1 hb
    obtain ⟨a2, ha2, ha2'⟩ := Option.map_eq_some_iff.1 e
    exact h.2 i j _ _ (List.getElem?_eq_getElem hi) (List.getElem?_eq_getElem hj) (Nat.ne_of_lt hij) a a2 ha ha2 (ha'.trans ha2'.symm)
theorem OW.toRows {rs : RowL} (h : OW w (rs.map (bytO T)) x) : RowsB T w.heap.size x rs := by
  refine ⟨fun i r hr => (h.ob _ (List.mem_map_of_mem (List.mem_of_getElem? hr))).2 rfl, fun i j r s hr hs hij a b ha hb e => ?_⟩
  exact h.apart (i := i) (j := j) (by rw [List.getElem?_map, hr]; rfl) (by rw [List.getElem?_map, hs]; rfl) hij a.block (by rw [byt_blk, ha]; rfl) (by rw [byt_blk, hb, e]; rfl)
/-- All that a St holds. -/
theorem St.ow {T : TypeId} {bs : List (Nat × List Value)} {rs : RowL} (h : St T w (bs.map some) rs x) : OW w (bs.map (fun b => boxO b.1 b.2) ++ rs.map (bytO T)) x := by
  have hr := OW.rows1 (x := w) h.up h.rows
  refine ⟨h.up, fun o ho => ?_, List.pairwise_append.2 ⟨?_, hr.ne, fun o ho p hp b hb e => ?_⟩⟩
  · rcases List.mem_append.1 ho with ho | ho
    · obtain ⟨⟨g, cs⟩, hb, rfl⟩ := List.mem_map.1 ho
      obtain ⟨i, hi⟩ := List.getElem?_of_mem hb
      obtain ⟨h1, h2, h3, h4⟩ := h.box i g cs (by rw [List.getElem?_map, hi]; rfl)
      exact ⟨fun _ => ⟨g, rfl, h1, h2, h3, h4⟩, fun e => nomatch e⟩
    · exact hr.ob o ho
  · rw [List.pairwise_map]
    refine List.pairwise_iff_getElem.2 fun i j hi hj hij b hb e => ?_
    injection hb with hb
    injection e with e
    refine h.ne i j bs[i].1 bs[i].2 bs[j].1 bs[j].2 (by rw [List.getElem?_map, List.getElem?_eq_getElem hi]; rfl) (by rw [List.getElem?_map, List.getElem?_eq_getElem hj]; rfl) (Nat.ne_of_lt hij) (hb.trans e.symm)
  · obtain ⟨⟨g, cs⟩, hb', rfl⟩ := List.mem_map.1 ho
    obtain ⟨r, hr', rfl⟩ := List.mem_map.1 hp
    obtain ⟨i, hi⟩ := List.getElem?_of_mem hb'
    obtain ⟨j, hj⟩ := List.getElem?_of_mem hr'
    rw [byt_blk] at e
    obtain ⟨a, ha, ha'⟩ := Option.map_eq_some_iff.1 e
    injection hb with hb
    exact h.off i j g cs r a (by rw [List.getElem?_map, hi]; rfl) hj ha (ha'.trans hb.symm)
/-! What is written. -/
theorem OW.putR (h : OW w os x) (hi : os[i]? = some (boxO g cs)) (hc : Chg (fun b => b = g) x y) (hr : y.rangeAt g 0 vs) (hf : ∀ q, y.frozen? q = x.frozen? q) : OW w (os.set i (boxO g vs)) y := by
  obtain ⟨h1, h2, h3, h4⟩ := h.box hi
  exact h.upd hi hc (fun b _ e => by subst e; rfl) ⟨fun _ => ⟨g, rfl, h1, Nat.lt_of_lt_of_le h2 hc.size, hr, fun j => (hf _).trans (h4 j)⟩, fun e => nomatch e⟩ fun b hb => .inl hb
/-- A box is written whole. -/
theorem OW.put (h : OW w os x) (hi : os[i]? = some (boxO g cs)) (hl : vs.length = cs.length) : OW w (os.set i (boxO g vs)) (x.setCells g 0 vs) := by
  obtain ⟨h1, h2, h3, h4⟩ := h.box hi
  exact h.putR hi (setCells_chg g vs 0 x) (World.rangeAt_setCells_same x g 0 vs fun j hj => ⟨h3.isSome j (by omega), by rw [Nat.zero_add]; exact h4 j⟩) fun q => World.frozen?_setCells _ _ _ _ _
/-- One cell of a box is written. -/
theorem OW.put1 (h : OW w os x) (hi : os[i]? = some (boxO g cs)) (j : Nat) (u : Value) : OW w (os.set i (boxO g (cs.set j u))) (x.setCell ⟨g, j, none⟩ u) := by
  obtain ⟨h1, h2, hr, h4⟩ := h.box hi
  refine h.putR hi (Chg.setCell x ⟨g, j, none⟩ u) (fun k q hk => ?_) fun q => World.frozen?_setCell _ _ _ _
  rw [Nat.zero_add]
  rw [List.getElem?_set] at hk
  by_cases e : j = k
  · subst e
    rw [if_pos rfl] at hk
    split at hk
    · rename_i hlt
      injection hk with hk; subst hk
      have := hr j _ (List.getElem?_eq_getElem hlt)
      rw [Nat.zero_add] at this
      exact World.cell?_setCell_same _ _ _ this
    · cases hk
  · rw [if_neg e] at hk
    rw [World.cell?_setCell_other _ _ _ _ (fun e' => by injection e' with _ e' _; exact e e')]
    have := hr k q hk
    rwa [Nat.zero_add] at this
/-- A row was appended to. -/
theorem OW.grow {v' : Value} {m : Nat} (h : OW w os x) (hi : os[i]? = some (rowO T sz v n cs)) (ho : y.ownsRow w.heap.size T sz v' m vs) (hg : x.grownBy y v.ownBlock) (hat : v'.ownBlock = v.ownBlock ∨ v'.ownBlock = some x.heap.size) : OW w (os.set i (rowO T sz v' m vs)) y := by
  have hr := h.row hi
  refine h.upd hi (grown_chg hg) (fun b _ e => by show vBlock v = _; rw [own_vblock hr]; exact e) ⟨(fun e => nomatch e), fun _ => ho⟩ fun b hb => ?_
  have hb : vBlock v' = some b := hb
  rw [own_vblock ho] at hb
  rcases hat with e | e
  · left; show vBlock v = _; rw [own_vblock hr, ← e]; exact hb
  · right; rw [e] at hb; injection hb with hb; omega
/-- One cell of a row is written. -/
theorem OW.store {cap : Nat} (h : OW w os x) (hi : os[i]? = some (rowO T sz (.slice (some ⟨g, 0, none⟩) n cap) n cs)) (j : Nat) (u : Value) : OW w (os.set i (rowO T sz (.slice (some ⟨g, 0, none⟩) n cap) n (cs.set j u))) (x.setCell ⟨g, j, none⟩ u) :=
  h.upd hi (Chg.setCell x ⟨g, j, none⟩ u) (fun b _ e => by subst e; rfl) ⟨(fun e => nomatch e), fun _ => (World.ownsRow.stored (h.row hi) j u).1⟩ fun b hb => .inl hb
end
end Go.Proofs.Ytcikhlieaoanoaa

/-
  A region that draws its order as a straight line, where what the loads read need stand only till the last operations begin, each of which waits for all loads. Over any program.
-/
namespace Go.Proofs.Ytcikhlieaoanoaa
open Go.RowKit

section
variable {P : Program} {ops : Array Oper} {Q : Exit → Act → World → Prop} {F : List Nat} {S : World → Prop}
def finB (F : List Nat) (listed : Array Bool) : Bool := F.any fun k => listed.getD k false
/-- As wpAnyH; once one of F has come up, S is not asked any more. -/
def wpAnyT (P : Program) (ops : Array Oper) (Q : Exit → Act → World → Prop) (F : List Nat) (S : World → Prop) : Nat → Array Bool → Act → World → Prop
  | 0, listed, a, w => Region.ready .any ops listed = [] ∧ Q .normal a w
  | fuel + 1, listed, a, w =>
    (Region.ready .any ops listed = [] → Q .normal a w) ∧
    ∀ i ∈ Region.ready .any ops listed, wpOp P ops Q i (fun a' w' => (finB F (listed.setIfInBounds i true) = false → S w') ∧ wpAnyT P ops Q F S fuel (listed.setIfInBounds i true) a' w') a w
theorem wpAny_of_T : ∀ (fuel : Nat) (listed : Array Bool) (a : Act) (w : World), wpAnyT P ops Q F S fuel listed a w → wpAny P .any ops Q fuel listed a w
  | 0, _, _, _, h => h
  | fuel + 1, _, _, _, h => ⟨h.1, fun i hi => wpOp_mono (fun a' w' h' => wpAny_of_T fuel _ a' w' h'.2) (h.2 i hi)⟩
/-- D: none of these comes up ahead of operation i. -/
def depB (ops : Array Oper) (i : Nat) (D : List Nat) : Bool := !D.contains i && D.all fun k => match ops[k]? with
  | none => false
  | some o => o.after.any fun e => Region.binds .any e && (e.on == i || D.contains e.on)
theorem getD_ne {L : Array Bool} {j k : Nat} (d : Bool) (h : j ≠ k) : (L.setIfInBounds j true).getD k d = L.getD k d := by
  simp only [Array.getD_eq_getD_getElem?, Array.getElem?_setIfInBounds_ne h]
theorem fin_off {D : List Nat} {L : Array Bool} (hF : F.all (D.contains ·) = true) (hL : ∀ k, k ∈ D → L.getD k false = false) : finB F L = false := by
  unfold finB
  rw [List.any_eq_false]
  intro k hk
  have h1 := List.all_eq_true.1 hF k hk
  rw [hL k (by simpa using h1)]; simp
theorem fin_set {L : Array Bool} {i : Nat} (hi : F.contains i = false) : finB F (L.setIfInBounds i true) = finB F L := by
  unfold finB
  have : ∀ G : List Nat, (∀ k, k ∈ G → k ≠ i) → (G.any fun k => (L.setIfInBounds i true).getD k false) = G.any fun k => L.getD k false := fun G => by
    induction G with
    | nil => intro _; rfl
    | cons k G ih =>
      intro h
      rw [List.any_cons, List.any_cons, ih fun q hq => h q (List.mem_cons_of_mem _ hq), getD_ne false (fun e => h k (by simp) e.symm)]
  exact this F fun k hk e => by
    subst e
    have : F.contains k = true := by simpa using hk
    rw [hi] at this; cases this
theorem wpAnyT_first {i : Nat} {oi : Oper} {v : Value} (R : World → Prop) (hi : ops[i]? = some oi) (hsel : ∀ (j : Nat) (o : Oper) cs b, ops[j]? = some o → o.op ≠ .select cs b)
    (hQ : ∀ c a w, Q (.panic c) (a.put oi.dst v) w → Q (.panic c) a w) (D : List Nat) (hD : depB ops i D = true) (hiF : F.contains i = false)
    (hR : ∀ (L : Array Bool) w, (∀ k, k ∈ D → L.getD k false = false) → (finB F L = false → S w) → R w) :
    ∀ (fuel : Nat) (listed : Array Bool) (a : Act) (w : World),
      (∀ j oj, ops[j]? = some oj → j ≠ i → listed.getD j true = false → (∀ e ∈ oj.after, Region.binds .any e = true → e.on ≠ i) → oi.apart ops oj = true) →
      i ∈ Region.ready .any ops listed → (∀ k, k ∈ D → listed.getD k false = false) → YieldsIf P ops R oi v a → (finB F listed = false → S w) →
      wpAnyT P ops Q F S fuel (listed.setIfInBounds i true) (a.put oi.dst v) w → wpAnyT P ops Q F S (fuel + 1) listed a w := by
  obtain ⟨hDi, hDe⟩ := Bool.and_eq_true_iff.1 hD
  intro fuel
  induction fuel with
  | zero =>
    intro listed a w _ hr hun hy hS H
    refine ⟨fun h => (by rw [h] at hr; cases hr), fun j hj => ?_⟩
    by_cases hji : j = i
    · subst hji; exact hy.wpOp hi (hR listed w hun hS) ⟨fun e => hS (by rwa [fin_set hiF] at e), H⟩
    · have := ready_mono hj hji
      rw [H.1] at this
      cases this
  | succ fuel ih =>
    intro listed a w hfree hr hun hy hS H
    refine ⟨fun h => (by rw [h] at hr; cases hr), fun j hj => ?_⟩
    by_cases hji : j = i
    · subst hji; exact hy.wpOp hi (hR listed w hun hS) ⟨fun e => hS (by rwa [fin_set hiF] at e), H⟩
    · have h1 := H.2 j (ready_mono hj hji)
      obtain ⟨hjun, oj, hoj, hall⟩ := mem_ready.1 hj
      have hiun := (mem_ready.1 hr).1
      have hi0 : listed.getD i false = true → False := fun h1 => by
        rcases Nat.lt_or_ge i listed.size with h' | h'
        · simp [h'] at hiun h1; rw [hiun] at h1; cases h1
        · simp [Array.getElem?_eq_none h'] at h1
      have hnot : ∀ e ∈ oj.after, Region.binds .any e = true → e.on ≠ i := fun e he hb heq => hi0 (heq ▸ hall e he hb)
      have hjD : j ∉ D := fun hjm => by
        have h2 := List.all_eq_true.1 hDe j hjm
        rw [hoj] at h2
        have h2' : oj.after.any (fun e => Region.binds .any e && (e.on == i || D.contains e.on)) = true := h2
        rw [← Array.any_toList, List.any_eq_true] at h2'
        obtain ⟨e, he, h3⟩ := h2'
        have he := Array.mem_toList_iff.1 he
        obtain ⟨hb, h4⟩ := Bool.and_eq_true_iff.1 h3
        have h5 := hall e he hb
        rcases Bool.or_eq_true_iff.1 h4 with h6 | h6
        · exact hi0 ((beq_iff_eq.1 h6) ▸ h5)
        · rw [hun e.on (by simpa using h6)] at h5; cases h5
      have hiD : i ∉ D := by simpa using hDi
      have hun' : ∀ k, k ∈ D → (listed.setIfInBounds j true).getD k false = false := fun k hk => by
        have h3 : j ≠ k := fun e => hjD (by rw [e]; exact hk)
        rw [getD_ne false h3]; exact hun k hk
      have h2 := wpOp_putIf hoj (hfree j oj hoj hji hjun hnot) (fun cs b => hsel i oi cs b hi) (fun cs b => hsel j oj cs b hoj) hQ hy h1
      have hfree' : ∀ k ok, ops[k]? = some ok → k ≠ i → (listed.setIfInBounds j true).getD k true = false →
          (∀ e ∈ ok.after, Region.binds .any e = true → e.on ≠ i) → oi.apart ops ok = true := fun k ok hk hki hun hno => by
        refine hfree k ok hk hki ?_ hno
        by_cases hjk : j = k
        · subst hjk; exact hjun
        · rw [getD_ne true hjk] at hun; exact hun
      refine wpOp_mono (fun a' w' h3 => ?_) h2
      have hS' : finB F (listed.setIfInBounds j true) = false → S w' := fun e => h3.2.1 (by rw [Array.setIfInBounds_comm _ _ (Ne.symm hji), fin_set hiF]; exact e)
      refine ⟨hS', ih (listed.setIfInBounds j true) a' w' hfree' (ready_mono hr (Ne.symm hji)) hun' h3.1 hS' ?_⟩
      rw [Array.setIfInBounds_comm _ _ hji]
      exact h3.2.2
end
section
variable {P : Program} {Q : Exit → Act → World → Prop} {F : List Nat} {S : World → Prop} {l : List Oper} {fuel : Nat} {listed : Array Bool} {a : Act} {w : World} {i : Nat} {o : Oper} {v : Value}
theorem lt_start {id : Nat} (F : List Nat) (hm : P.follows .mixedOrders = true) (h : ∀ z, Below w.heap.size w z → ∃ S, wpAnyT P l.toArray Q F S l.length (Array.replicate l.length false) a z) : (Code.region id l.toArray true).wp P Q a w := by
  obtain ⟨S, h⟩ := h w.drew (Below.refl _ _).drew
  exact wp_region_any hm (wpAny_of_T _ _ _ _ (by simpa using h))
/-- What reads where S holds: all of F waits for it. -/
theorem lt_take (i : Nat) (D : List Nat) {o : Oper} (hi : l[i]? = some o) (hs : Region.noSelect l.toArray = true) (hf : Region.free .any l.toArray listed i = true) (hr : (Region.ready .any l.toArray listed).contains i = true)
    (hd : depB l.toArray i D = true) (hF : (F.all (D.contains ·) && !F.contains i && D.all (fun k => !listed.getD k false)) = true)
    (hQ : ∀ c a w, Q (.panic c) (a.put o.dst v) w → Q (.panic c) a w) (hy : YieldsIf P l.toArray S o v a) (hS : S w)
    (h : wpAnyT P l.toArray Q F S fuel (listed.setIfInBounds i true) (a.put o.dst v) w) : wpAnyT P l.toArray Q F S (fuel + 1) listed a w := by
  simp only [Bool.and_eq_true, Bool.not_eq_true'] at hF
  exact wpAnyT_first S (lx_at hi) (Region.noSelect_spec hs) hQ D hd hF.1.2 (fun L w hL hS => hS (fin_off hF.1.1 hL)) fuel listed a w (Region.free_spec (lx_at hi) hf) (by simpa using hr) (fun k hk => by simpa using List.all_eq_true.1 hF.2 k hk) hy (fun _ => hS) h
/-- What yields in whatever world. -/
theorem lt_pure (i : Nat) {o : Oper} (hi : l[i]? = some o) (hs : Region.noSelect l.toArray = true) (hf : Region.free .any l.toArray listed i = true) (hr : (Region.ready .any l.toArray listed).contains i = true) (hiF : F.contains i = false)
    (hQ : ∀ c a w, Q (.panic c) (a.put o.dst v) w → Q (.panic c) a w) (hy : YieldsIf P l.toArray (fun _ => True) o v a) (hS : finB F listed = false → S w)
    (h : wpAnyT P l.toArray Q F S fuel (listed.setIfInBounds i true) (a.put o.dst v) w) : wpAnyT P l.toArray Q F S (fuel + 1) listed a w :=
  wpAnyT_first (fun _ => True) (lx_at hi) (Region.noSelect_spec hs) hQ [] (by simp [depB]) hiF (fun _ _ _ _ => trivial) fuel listed a w (Region.free_spec (lx_at hi) hf) (by simpa using hr) (fun k hk => by cases hk) hy hS h
theorem lt_skip (i : Nat) {o : Oper} (hi : l[i]? = some o) (hs : Region.noSelect l.toArray = true) (hf : Region.free .any l.toArray listed i = true) (hr : (Region.ready .any l.toArray listed).contains i = true) (hiF : F.contains i = false)
    (hQ : ∀ c a w, Q (.panic c) (a.put o.dst undef) w → Q (.panic c) a w) (hw : Region.wanted o (yielded l.toArray a.tmps) = false) (hS : finB F listed = false → S w)
    (h : wpAnyT P l.toArray Q F S fuel (listed.setIfInBounds i true) (a.put o.dst undef) w) : wpAnyT P l.toArray Q F S (fuel + 1) listed a w :=
  lt_pure i hi hs hf hr hiF hQ (.inr ⟨hw, rfl⟩) hS h
/-- The same behind the first of F. -/
theorem lt_pureF (i : Nat) {o : Oper} (hi : l[i]? = some o) (hs : Region.noSelect l.toArray = true) (hf : Region.free .any l.toArray listed i = true) (hr : (Region.ready .any l.toArray listed).contains i = true) (hiF : F.contains i = false) (hfin : finB F listed = true)
    (hQ : ∀ c a w, Q (.panic c) (a.put o.dst v) w → Q (.panic c) a w) (hy : YieldsIf P l.toArray (fun _ => True) o v a)
    (h : wpAnyT P l.toArray Q F S fuel (listed.setIfInBounds i true) (a.put o.dst v) w) : wpAnyT P l.toArray Q F S (fuel + 1) listed a w :=
  lt_pure i hi hs hf hr hiF hQ hy (fun e => by rw [hfin] at e; cases e) h
/-- The only one that may come up. -/
theorem lt_op (i : Nat) {o : Oper} (hi : l[i]? = some o) (hr : Region.ready .any l.toArray listed = [i]) (hw : Region.wanted o (yielded l.toArray a.tmps) = true)
    (h : o.wp P a w (fun a' w' => (finB F (listed.setIfInBounds i true) = false → S w') ∧ wpAnyT P l.toArray Q F S fuel (listed.setIfInBounds i true) a' w') Q) : wpAnyT P l.toArray Q F S (fuel + 1) listed a w := by
  refine ⟨fun h0 => ?_, fun j hj => ?_⟩
  · rw [hr] at h0; cases h0
  rw [hr] at hj
  obtain rfl : j = i := by simpa using hj
  unfold wpOp
  rw [lx_at hi]
  simp only [hw, if_true]
  exact .inl h
/-- One of the last, or behind them. -/
theorem lt_end (i : Nat) {o : Oper} (hi : l[i]? = some o) (hr : Region.ready .any l.toArray listed = [i]) (hw : Region.wanted o (yielded l.toArray a.tmps) = true) (hfin : finB F (listed.setIfInBounds i true) = true)
    (h : o.wp P a w (wpAnyT P l.toArray Q F S fuel (listed.setIfInBounds i true)) Q) : wpAnyT P l.toArray Q F S (fuel + 1) listed a w :=
  lt_op i hi hr hw (Oper.wp_mono (fun _ _ h => ⟨(fun e => by rw [hfin] at e; cases e), h⟩) h)
theorem lt_call (i : Nat) {o : Oper} {f : FuncId} {xs : List Operand} {ats : Array TypeId} (hi : l[i]? = some o) (hr : Region.ready .any l.toArray listed = [i]) (hw : Region.wanted o (yielded l.toArray a.tmps) = true)
    (ho : o.op = .call { callee := .value (.func f), args := xs.toArray, argTypes := ats }) (hf : GoFn P f) (vals : List Value) (hv : xs.map a.eval = vals)
    (hc : Calls P f vals.toArray w fun e w' => ∃ v, e = .returned v ∧ (finB F (listed.setIfInBounds i true) = false → S w') ∧ wpAnyT P l.toArray Q F S fuel (listed.setIfInBounds i true) (a.put o.dst v) w') : wpAnyT P l.toArray Q F S (fuel + 1) listed a w :=
  lt_op i hi hr hw (wp_call_go ho hf vals.toArray (by rw [List.map_toArray, hv]) hc)
theorem lt_done (hr : Region.ready .any l.toArray listed = []) (h : Q .normal a w) : wpAnyT P l.toArray Q F S fuel listed a w := by
  cases fuel with
  | zero => exact ⟨hr, h⟩
  | succ f => exact ⟨fun _ => h, fun i hi => (by rw [hr] at hi; cases hi)⟩
end
/-! ### Single operations over what the call owns -/
section
variable {P : Program} {Q : Exit → Act → World → Prop} {K : Act → World → Prop} {o : Oper} {a : Act} {w x : World} {os : List Ob}
theorem wpo_append {t e : TypeId} {size bytes : Nat} (s y : Operand) (ho : o.op = .call { callee := .builtin .append, args := #[s, y], argTypes := #[t, t] }) (hS : SliceOf P t e size bytes) (h : OW w os x) (i : Nat) {v : Value} {n : Nat} {cs : List Value} (hi : os[i]? = some (rowO e size v n cs)) (hs : a.eval s = v)
    (B : Nat) (A : Option Addr) (m c : Nat) (news : List Value) (hy : a.eval y = .slice A m c) (hr : Reads x B size A m news) (h1 : ∀ u ∈ news, u.oneCell' = true) (h63 : n + m ≤ maxLen) (hbytes : (n + m) * bytes ≤ 140737488355328)
    (hK : ∀ A' c' z, OW w (os.set i (rowO e size (.slice A' (n + m) c') (n + m) (cs ++ news))) z → x.grownBy z v.ownBlock → K (a.put o.dst (.slice A' (n + m) c')) z) : o.wp P a x K Q := by
  refine wp_append_reads x s y ho hS w.heap.size v n cs hs (h.row hi) B A m c news hy hr h1 h63 hbytes h.up.size fun v' w' h2 h3 h4 => ?_
  obtain ⟨A', c', rfl, _⟩ := own_slice h2
  exact hK A' c' w' (h.grow hi h2 h3 h4) h3
theorem wpo_build {t e : TypeId} {len sz bytes : Nat} {parts : Array (Nat × Operand)} (ho : o.op = .buildSlice t len parts) (C : Array Value) (hS : SliceOf P t e sz bytes) (z : Value) (hz : (P.info? e).bind (·.zero) = some z) (hsm : ¬ len * sz > 2 ^ 24) (hp : ¬ len * sz = 0) (hm : len ≤ maxLen) (hsz : C.size = len * sz)
    (hf : Instr.fill (fun i => some (i * sz, sz)) ((Array.range (len * sz)).map (z.cells[· % z.cells.size]!)) (parts.map fun (i, x) => (i, a.eval x)).toList = some C)
    (h : OW w os x) (hK : ∀ g z, OW w (os ++ [rowO e sz (.slice (some ⟨g, 0, none⟩) len len) len C.toList]) z → Below x.heap.size x z → K (a.put o.dst (.slice (some ⟨g, 0, none⟩) len len)) z) : o.wp P a x K Q := by
  obtain ⟨ht, ⟨i, z', hi, hz', hsize, _, _⟩, _⟩ := hS
  rw [hi] at hz
  have hz : i.zero = some z := hz
  rw [hz'] at hz; injection hz with hz; subst hz
  subst hsize
  exact wp_buildSlice t e len parts ho C i z' ht hi hz' hsm hp hf (hK _ _ (h.app (OW.lit1 x C e i.size len hm hsz)) ((Below.refl _ _).alloc (Nat.le_refl _) _))
theorem wpo_box {t : TypeId} {y : Operand} (ho : o.op = .box t y) (cs : List Value) (hx : (a.eval y).cells = cs.toArray) (h : OW w os x) (hK : ∀ g z, OW w (os ++ [boxO g cs]) z → Below x.heap.size x z → K (a.put o.dst (.pointer (some ⟨g, 0, none⟩))) z) : o.wp P a x K Q := by
  unfold Oper.wp execOp
  simp only [ho, Sem.run_bind, Instr.box, newVar, newRow, run_newObj_alloc, Sem.run_pure, Result.andThen_ok, hx]
  exact hK _ _ (h.app (OW.box1 x t cs)) ((Below.refl _ _).alloc (Nat.le_refl _) _)
theorem wpo_alloc {t : TypeId} (ho : o.op = .alloc t) (cs : List Value) (hz : (P.info? t).bind (·.zero) = some (.agg cs.toArray) ∨ ∃ v : Value, (P.info? t).bind (·.zero) = some v ∧ v.cells = cs.toArray) (h : OW w os x) (hK : ∀ g z, OW w (os ++ [boxO g cs]) z → Below x.heap.size x z → K (a.put o.dst (.pointer (some ⟨g, 0, none⟩))) z) : o.wp P a x K Q := by
  obtain ⟨v, hv, hc⟩ : ∃ v : Value, (P.info? t).bind (·.zero) = some v ∧ v.cells = cs.toArray := by
    rcases hz with h | h
    · exact ⟨_, h, rfl⟩
    · exact h
  refine wp_alloc_row ho hv ?_
  rw [hc]
  exact hK _ _ (h.app (OW.box1 x t cs)) ((Below.refl _ _).alloc (Nat.le_refl _) _)
theorem wpo_put {t : TypeId} {p y : Operand} (ho : o.op = .store t p y) (h : OW w os x) (i : Nat) {g : Nat} {cs : List Value} (hi : os[i]? = some (boxO g cs)) (hx : a.eval p = .pointer (some ⟨g, 0, none⟩)) (vs : List Value) (hy : a.eval y = .agg vs.toArray) (hl : vs.length = cs.length) (ht : (P.info? t).map (·.size) = some vs.length) (h1 : ∀ u ∈ vs, u.oneCell' = true)
    (hK : ∀ z, OW w (os.set i (boxO g vs)) z → Chg (fun b => b = g) x z → K (a.put o.dst undef) z) : o.wp P a x K Q :=
  wp_store_row ho hx hy (h.range hi) (h.fz hi) hl ht h1 (hK _ (h.put hi hl) (setCells_chg g vs 0 x))
theorem wpo_put1 {t : TypeId} {p y : Operand} (ho : o.op = .store t p y) (h : OW w os x) (i : Nat) {g : Nat} {cs : List Value} (hi : os[i]? = some (boxO g cs)) (j : Nat) (hx : a.eval p = .pointer (some ⟨g, j, none⟩)) (hj : j < cs.length) (v : Value) (hy : a.eval y = v) (ht : (P.info? t).map (·.size) = some 1) (h1 : v.oneCell' = true)
    (hK : ∀ z, OW w (os.set i (boxO g (cs.set j v))) z → Chg (fun b => b = g) x z → K (a.put o.dst undef) z) : o.wp P a x K Q := by
  unfold Oper.wp execOp
  have hs : (x.cell? ⟨g, j, none⟩).isSome = true := by
    rw [h.cell hi (List.getElem?_eq_getElem hj)]; rfl
  simp only [ho, hx, hy, Instr.storeAt, Instr.sureAddr, Sem.run_bind, Sem.run_pure, Result.andThen_ok, run_storeVar_one x g j t v hs (h.fz hi j) h1 ht]
  exact hK _ (h.put1 hi j v) (Chg.setCell x ⟨g, j, none⟩ v)
theorem wpo_store {t : TypeId} {p y : Operand} (ho : o.op = .store t p y) (h : OW w os x) (i : Nat) {T : TypeId} {sz g n cap : Nat} {cs : List Value} (hi : os[i]? = some (rowO T sz (.slice (some ⟨g, 0, none⟩) n cap) n cs)) (j : Nat) (hx : a.eval p = .pointer (some ⟨g, j, none⟩)) (hj : j < n * sz) (v : Value) (hy : a.eval y = v) (ht : (P.info? t).map (·.size) = some 1) (h1 : v.oneCell' = true)
    (hK : ∀ z, OW w (os.set i (rowO T sz (.slice (some ⟨g, 0, none⟩) n cap) n (cs.set j v))) z → Chg (fun b => b = g) x z → K (a.put o.dst undef) z) : o.wp P a x K Q := by
  unfold Oper.wp execOp
  have hr := h.row hi
  have hs : (x.cell? ⟨g, j, none⟩).isSome = true := by
    rw [World.ownsRow.cellAt hr j hj, List.getElem?_eq_getElem (by rw [hr.1]; exact hj)]; rfl
  simp only [ho, hx, hy, Instr.storeAt, Instr.sureAddr, Sem.run_bind, Sem.run_pure, Result.andThen_ok, run_storeVar_one x g j t v hs (World.ownsRow.frozenAt hr j) h1 ht]
  exact hK _ (h.store hi j v) (Chg.setCell x ⟨g, j, none⟩ v)
end
/-! ### The same along a list -/
section
variable {P : Program} {ops : Array Oper} {Q : Exit → Act → World → Prop} {rest : List Oper} {o : Oper} {a : Act} {w x : World} {os : List Ob}
theorem wl_append {t e : TypeId} {size bytes : Nat} (hgd : Region.wanted o (yielded ops a.tmps) = true) (s y : Operand) (ho : o.op = .call { callee := .builtin .append, args := #[s, y], argTypes := #[t, t] }) (hS : SliceOf P t e size bytes) (h : OW w os x) (i : Nat) {v : Value} {n : Nat} {cs : List Value} (hi : os[i]? = some (rowO e size v n cs)) (hs : a.eval s = v)
    (B : Nat) (A : Option Addr) (m c : Nat) (news : List Value) (hy : a.eval y = .slice A m c) (hr : Reads x B size A m news) (h1 : ∀ u ∈ news, u.oneCell' = true) (h63 : n + m ≤ maxLen) (hbytes : (n + m) * bytes ≤ 140737488355328)
    (hK : ∀ A' c' z, OW w (os.set i (rowO e size (.slice A' (n + m) c') (n + m) (cs ++ news))) z → x.grownBy z v.ownBlock → wpList P ops Q rest (a.put o.dst (.slice A' (n + m) c')) z) : wpList P ops Q (o :: rest) a x :=
  BigFrame.wpList_want hgd fun _ hk => wpo_append s y ho hS h i hi hs B A m c news hy hr h1 h63 hbytes fun A' c' z hz hg => hk _ _ (hK A' c' z hz hg)
theorem wl_build {t e : TypeId} {len sz bytes : Nat} (hgd : Region.wanted o (yielded ops a.tmps) = true) (parts : Array (Nat × Operand)) (ho : o.op = .buildSlice t len parts) (C : Array Value) (hS : SliceOf P t e sz bytes) (z : Value) (hz : (P.info? e).bind (·.zero) = some z) (hsm : ¬ len * sz > 2 ^ 24) (hp : ¬ len * sz = 0) (hm : len ≤ maxLen) (hsz : C.size = len * sz)
    (hf : Instr.fill (fun i => some (i * sz, sz)) ((Array.range (len * sz)).map (z.cells[· % z.cells.size]!)) (parts.map fun (i, x) => (i, a.eval x)).toList = some C)
    (h : OW w os x) (hK : ∀ g z, OW w (os ++ [rowO e sz (.slice (some ⟨g, 0, none⟩) len len) len C.toList]) z → Below x.heap.size x z → wpList P ops Q rest (a.put o.dst (.slice (some ⟨g, 0, none⟩) len len)) z) : wpList P ops Q (o :: rest) a x :=
  BigFrame.wpList_want hgd fun _ hk => wpo_build ho C hS z hz hsm hp hm hsz hf h fun g z hz hb => hk _ _ (hK g z hz hb)
theorem wl_box {t : TypeId} (hgd : Region.wanted o (yielded ops a.tmps) = true) (y : Operand) (ho : o.op = .box t y) (cs : List Value) (hx : (a.eval y).cells = cs.toArray) (h : OW w os x) (hK : ∀ g z, OW w (os ++ [boxO g cs]) z → Below x.heap.size x z → wpList P ops Q rest (a.put o.dst (.pointer (some ⟨g, 0, none⟩))) z) : wpList P ops Q (o :: rest) a x :=
  BigFrame.wpList_want hgd fun _ hk => wpo_box ho cs hx h fun g z hz hb => hk _ _ (hK g z hz hb)
theorem wl_alloc {t : TypeId} (hgd : Region.wanted o (yielded ops a.tmps) = true) (ho : o.op = .alloc t) (cs : List Value) (hz : (P.info? t).bind (·.zero) = some (.agg cs.toArray) ∨ ∃ v : Value, (P.info? t).bind (·.zero) = some v ∧ v.cells = cs.toArray) (h : OW w os x) (hK : ∀ g z, OW w (os ++ [boxO g cs]) z → Below x.heap.size x z → wpList P ops Q rest (a.put o.dst (.pointer (some ⟨g, 0, none⟩))) z) : wpList P ops Q (o :: rest) a x :=
  BigFrame.wpList_want hgd fun _ hk => wpo_alloc ho cs hz h fun g z hz hb => hk _ _ (hK g z hz hb)
theorem wl_put {t : TypeId} (hgd : Region.wanted o (yielded ops a.tmps) = true) (p y : Operand) (ho : o.op = .store t p y) (h : OW w os x) (i : Nat) {g : Nat} {cs : List Value} (hi : os[i]? = some (boxO g cs)) (hx : a.eval p = .pointer (some ⟨g, 0, none⟩)) (vs : List Value) (hy : a.eval y = .agg vs.toArray) (hl : vs.length = cs.length) (ht : (P.info? t).map (·.size) = some vs.length) (h1 : ∀ u ∈ vs, u.oneCell' = true)
    (hK : ∀ z, OW w (os.set i (boxO g vs)) z → Chg (fun b => b = g) x z → wpList P ops Q rest (a.put o.dst undef) z) : wpList P ops Q (o :: rest) a x :=
  BigFrame.wpList_want hgd fun _ hk => wpo_put ho h i hi hx vs hy hl ht h1 fun z hz hc => hk _ _ (hK z hz hc)
theorem wl_put1 {t : TypeId} (hgd : Region.wanted o (yielded ops a.tmps) = true) (p y : Operand) (ho : o.op = .store t p y) (h : OW w os x) (i : Nat) {g : Nat} {cs : List Value} (hi : os[i]? = some (boxO g cs)) (j : Nat) (hx : a.eval p = .pointer (some ⟨g, j, none⟩)) (hj : j < cs.length) (v : Value) (hy : a.eval y = v) (ht : (P.info? t).map (·.size) = some 1) (h1 : v.oneCell' = true)
    (hK : ∀ z, OW w (os.set i (boxO g (cs.set j v))) z → Chg (fun b => b = g) x z → wpList P ops Q rest (a.put o.dst undef) z) : wpList P ops Q (o :: rest) a x :=
  BigFrame.wpList_want hgd fun _ hk => wpo_put1 ho h i hi j hx hj v hy ht h1 fun z hz hc => hk _ _ (hK z hz hc)
theorem wl_store {t : TypeId} (hgd : Region.wanted o (yielded ops a.tmps) = true) (p y : Operand) (ho : o.op = .store t p y) (h : OW w os x) (i : Nat) {T : TypeId} {sz g n cap : Nat} {cs : List Value} (hi : os[i]? = some (rowO T sz (.slice (some ⟨g, 0, none⟩) n cap) n cs)) (j : Nat) (hx : a.eval p = .pointer (some ⟨g, j, none⟩)) (hj : j < n * sz) (v : Value) (hy : a.eval y = v) (ht : (P.info? t).map (·.size) = some 1) (h1 : v.oneCell' = true)
    (hK : ∀ z, OW w (os.set i (rowO T sz (.slice (some ⟨g, 0, none⟩) n cap) n (cs.set j v))) z → Chg (fun b => b = g) x z → wpList P ops Q rest (a.put o.dst undef) z) : wpList P ops Q (o :: rest) a x :=
  BigFrame.wpList_want hgd fun _ hk => wpo_store ho h i hi j hx hj v hy ht h1 fun z hz hc => hk _ _ (hK z hz hc)
end
end Go.Proofs.Ytcikhlieaoanoaa

/-
  The statements' Kept, walked over what the call owns: Keep, Entry. (Printed by gen_kept.py.)
-/
namespace Go.Proofs.Ytcikhlieaoanoaa
open Go.RowKit

theorem Try.kss3 : SliceOf Try.prog 35 22 1 24 := SliceOf.mk' (z := .slice none 0 0) Try.underlying35 (by kernel_rfl) rfl (by decide)
set_option maxRecDepth 100000 in
set_option maxHeartbeats 2000000 in
theorem keep_raw (g : Nat) (lv wv : Value) (n k : Nat) (vs ws : List Value) (os : List Ob) (A : Option Addr) (m c : Nat) (l : List UInt8) (w x : World) (h : OW w (boxO g [lv, wv] :: rowO 22 1 lv n vs :: rowO 22 1 wv k ws :: os) x) (hm : bytO 5 (A, c, l) ∈ os) (hl : l.length = m) (hmb : m ≤ 140737488355000) (hn : n ≤ 1000000) (hk : k ≤ 1000000) :
    Calls Try.prog 42 #[.pointer (some ⟨g, 0, none⟩), .slice A m c] x fun e y => e = .returned (.tuple #[]) ∧ ∃ A1 c1 A2 c2 A3 c3, OW w (boxO g [.slice A1 (n + 1) c1, .slice A2 (k + 1) c2] :: rowO 22 1 (.slice A1 (n + 1) c1) (n + 1) (vs ++ [.slice A m c]) :: rowO 22 1 (.slice A2 (k + 1) c2) (k + 1) (ws ++ [.slice A3 m c3]) :: (os ++ [bytO 5 (A3, c3, l)])) y := by
  have HX := Lib.hid h
  have HM := Lib.hid hm
  have HL := Lib.hid hl
  obtain ⟨LA, lc, rfl, _⟩ := own_slice (h.row (i := 1) rfl)
  obtain ⟨WA, wc, rfl, _⟩ := own_slice (h.row (i := 2) rfl)
  clear h hm hl
  go_enter Try.func42, Try.ntmps42
  go_wp2_with (first
    | (refine wpList_load_cell rfl 35 (.tmp 7) rfl rfl (HX.out.cell (i := 0) (j := 0) rfl rfl) (fun w => Try.isAgg35 w) ?_)
    | (at_builtin; go_must (refine wl_append rfl (.tmp 8) (.tmp 10) rfl Try.kss3 (HX.out.al (.cells #[.slice A m c] 22)) 1 rfl rfl _ (some ⟨x.heap.size, 0, none⟩) 1 1 [.slice A m c] rfl (lit_one8 _ _ _ _ rfl) (by simp [Value.oneCell']) (by unfold maxLen; omega) (by omega) ?_); intro A1 c1 x1 hz _; replace HX := Lib.hid hz; clear hz)
    | (refine wl_put1 rfl (.tmp 13) (.tmp 11) rfl HX.out 0 rfl 0 rfl (by simp) _ rfl (by kernel_rfl) rfl ?_; intro x2 hz _; replace HX := Lib.hid hz; clear hz))
  go_wp2
  refine lt_start [8, 11] (by kernel_rfl) ?_
  intro xd hd
  replace HX := Lib.hid (HX.out.later hd)
  clear hd
  refine ⟨fun z => Below xd.heap.size xd z, ?_⟩
  have HS := Lib.hid (Below.refl xd.heap.size xd)
  refine lt_pure 0 rfl (by kernel_rfl) (by kernel_rfl) (by kernel_rfl) (by kernel_rfl) (fun _ _ _ h => h) (v := ?_) (yi_run rfl (fun w => ?_)) (fun _ => HS.out) ?_
  rotate_left
  · first | (go_simp; done) | (go_simp; with_reducible rfl)
  simp only [Act.put, List.setIfInBounds_toArray, List.set_cons_zero, List.set_cons_succ]
  refine lt_pure 1 rfl (by kernel_rfl) (by kernel_rfl) (by kernel_rfl) (by kernel_rfl) (fun _ _ _ h => h) (v := ?_) (yi_run rfl (fun w => ?_)) (fun _ => HS.out) ?_
  rotate_left
  · first | (go_simp; done) | (go_simp; with_reducible rfl)
  simp only [Act.put, List.setIfInBounds_toArray, List.set_cons_zero, List.set_cons_succ]
  refine lt_pure 2 rfl (by kernel_rfl) (by kernel_rfl) (by kernel_rfl) (by kernel_rfl) (fun _ _ _ h => h) (v := ?_) (yi_run rfl (fun w => ?_)) (fun _ => HS.out) ?_
  rotate_left
  · first | (go_simp; done) | (go_simp; with_reducible rfl)
  simp only [Act.put, List.setIfInBounds_toArray, List.set_cons_zero, List.set_cons_succ]
  refine lt_pure 3 rfl (by kernel_rfl) (by kernel_rfl) (by kernel_rfl) (by kernel_rfl) (fun _ _ _ h => h) (v := ?_) (yi_run rfl (fun w => ?_)) (fun _ => HS.out) ?_
  rotate_left
  · first | (go_simp; done) | (go_simp; with_reducible rfl)
  simp only [Act.put, List.setIfInBounds_toArray, List.set_cons_zero, List.set_cons_succ]
  refine lt_take 4 [8, 9, 10, 11] rfl (by kernel_rfl) (by kernel_rfl) (by kernel_rfl) (by kernel_rfl) (by kernel_rfl) (fun _ _ _ h => h) (yi_cell rfl rfl rfl (fun w hS => (HX.out.later hS).cell (i := 0) (j := 1) rfl rfl) (fun w => Try.isAgg35 w)) HS.out ?_
  simp only [Act.put, List.setIfInBounds_toArray, List.set_cons_zero, List.set_cons_succ]
  refine lt_pure 5 rfl (by kernel_rfl) (by kernel_rfl) (by kernel_rfl) (by kernel_rfl) (fun _ _ _ h => h) (v := ?_) (yi_run rfl (fun w => ?_)) (fun _ => HS.out) ?_
  rotate_left
  · first | (go_simp; done) | (go_simp; with_reducible rfl)
  simp only [Act.put, List.setIfInBounds_toArray, List.set_cons_zero, List.set_cons_succ]
  refine lt_call 6 rfl (by kernel_rfl) rfl rfl ⟨_, Try.func14, by decide, by kernel_rfl⟩ [.slice A m c] rfl ?_
  refine (copied_any l A m c _ hmb (HX.out.slm (List.mem_cons_of_mem _ (List.mem_cons_of_mem _ (List.mem_cons_of_mem _ HM.out))) HL.out).rb).mono ?_
  rintro e x3 hp
  obtain ⟨A3, c3, rfl, _, ho, hb⟩ := hp.at_ HL.out
  replace HS := Lib.hid hb
  replace HX := Lib.hid (HX.out.app (OW.byt1 hb ho))
  clear hp ho hb
  refine ⟨_, rfl, fun _ => HS.out, ?_⟩
  simp only [Act.put, List.setIfInBounds_toArray, List.set_cons_zero, List.set_cons_succ]
  refine lt_op 7 rfl (by kernel_rfl) rfl ?_
  refine wpo_build rfl #[.slice A3 m c3] Try.kss3 (.slice none 0 0) (by kernel_rfl) (by decide) (by decide) (by decide) rfl (by kernel_rfl) HX.out ?_
  intro g4 x4 hz hb
  replace HX := Lib.hid hz.left
  replace HS := Lib.hid (HS.out.trans (hb.mono HS.out.size))
  have HR : Hid (Reads x4 x4.heap.size 1 (some ⟨g4, 0, none⟩) 1 [.slice A3 m c3]) := Lib.hid (Reads.own (hz.right.row (i := 0) rfl))
  clear hz hb
  refine ⟨fun _ => HS.out, ?_⟩
  simp only [Act.put, List.setIfInBounds_toArray, List.set_cons_zero, List.set_cons_succ]
  refine lt_end 8 rfl (by kernel_rfl) rfl (by kernel_rfl) ?_
  refine wpo_append (.tmp 18) (.tmp 21) rfl Try.kss3 HX.out 2 rfl rfl _ (some ⟨g4, 0, none⟩) 1 1 [.slice A3 m c3] rfl HR.out (by simp [Value.oneCell']) (by unfold maxLen; omega) (by omega) ?_
  intro A5 c5 x5 hz _
  replace HX := Lib.hid hz
  clear hz HR
  simp only [Act.put, List.setIfInBounds_toArray, List.set_cons_zero, List.set_cons_succ]
  refine lt_pureF 9 rfl (by kernel_rfl) (by kernel_rfl) (by kernel_rfl) (by kernel_rfl) (by kernel_rfl) (fun _ _ _ h => h) (v := ?_) (yi_run rfl (fun w => ?_)) ?_
  rotate_left
  · first | (go_simp; done) | (go_simp; with_reducible rfl)
  simp only [Act.put, List.setIfInBounds_toArray, List.set_cons_zero, List.set_cons_succ]
  refine lt_pureF 10 rfl (by kernel_rfl) (by kernel_rfl) (by kernel_rfl) (by kernel_rfl) (by kernel_rfl) (fun _ _ _ h => h) (v := ?_) (yi_run rfl (fun w => ?_)) ?_
  rotate_left
  · first | (go_simp; done) | (go_simp; with_reducible rfl)
  simp only [Act.put, List.setIfInBounds_toArray, List.set_cons_zero, List.set_cons_succ]
  refine lt_end 11 rfl (by kernel_rfl) rfl (by kernel_rfl) ?_
  refine wpo_put1 rfl HX.out 0 rfl 1 rfl (by simp) _ rfl (by kernel_rfl) rfl ?_
  intro x6 hz _
  replace HX := Lib.hid hz
  clear hz
  simp only [Act.put]
  refine lt_done (by kernel_rfl) ?_
  clear HS
  go_wp2
  go_end0
  exact ⟨rfl, A1, c1, A5, c5, A3, c3, HX.out⟩

/-- A Kept: its box, its two lists, the rows that were kept, their copies. -/
def bookO (g : Nat) (lv wv : Value) (rs cs : RowL) : List Ob := boxO g [lv, wv] :: rowO 22 1 lv rs.length (rs.map valR) :: rowO 22 1 wv cs.length (cs.map valR) :: (rs.map (bytO 5) ++ cs.map (bytO 5))
theorem perm_book {α : Type} {R C os E : List α} {a b : α} (h : os.Perm (a :: E)) : (R ++ C ++ os ++ [b]).Perm (R ++ [a] ++ (C ++ [b]) ++ E) := by
  have h1 : (os ++ [b]).Perm (a :: b :: E) := by
    refine (h.append_right [b]).trans ?_
    rw [List.cons_append]
    exact List.Perm.cons a List.perm_append_comm
  have h2 : (C ++ (os ++ [b])).Perm (a :: (C ++ b :: E)) := (h1.append_left C).trans List.perm_middle
  have h3 := h2.append_left R
  simpa [List.append_assoc] using h3
theorem keep_book (g : Nat) (lv wv : Value) (rs cs : RowL) (os : List Ob) (i : Nat) (A : Option Addr) (m c : Nat) (l : List UInt8) (w x : World) (h : OW w (bookO g lv wv rs cs ++ os) x) (hi : os[i]? = some (bytO 5 (A, c, l))) (hl : l.length = m) (hmb : m ≤ 140737488355000) (hn : rs.length ≤ 1000000) (hk : cs.length ≤ 1000000) :
    Calls Try.prog 42 #[.pointer (some ⟨g, 0, none⟩), .slice A m c] x fun e y => e = .returned (.tuple #[]) ∧ ∃ lv' wv' A' c', OW w (bookO g lv' wv' (rs ++ [(A, c, l)]) (cs ++ [(A', c', l)]) ++ os.eraseIdx i) y := by
  have e1 : bookO g lv wv rs cs ++ os = boxO g [lv, wv] :: rowO 22 1 lv rs.length (rs.map valR) :: rowO 22 1 wv cs.length (cs.map valR) :: (rs.map (bytO 5) ++ cs.map (bytO 5) ++ os) := rfl
  rw [e1] at h
  refine (keep_raw g lv wv _ _ _ _ _ A m c l w x h (List.mem_append_right _ (List.mem_of_getElem? hi)) hl hmb hn hk).mono ?_
  rintro e y ⟨he, A1, c1, A2, c2, A3, c3, h'⟩
  refine ⟨he, .slice A1 (rs.length + 1) c1, .slice A2 (cs.length + 1) c2, A3, c3, OW.perm h' ?_⟩
  have hp := perm_book (R := rs.map (bytO 5)) (C := cs.map (bytO 5)) (b := bytO 5 (A3, c3, l)) (perm_front hi)
  have e2 : rs.map valR ++ [.slice A m c] = (rs ++ [(A, c, l)]).map valR := by rw [List.map_append, List.map_cons, List.map_nil]; simp only [valR]; rw [hl]
  have e3 : cs.map valR ++ [.slice A3 m c3] = (cs ++ [(A3, c3, l)]).map valR := by rw [List.map_append, List.map_cons, List.map_nil]; simp only [valR]; rw [hl]
  have e4 : rs.length + 1 = (rs ++ [(A, c, l)]).length := by rw [List.length_append]; rfl
  have e5 : cs.length + 1 = (cs ++ [(A3, c3, l)]).length := by rw [List.length_append]; rfl
  rw [e2, e3]
  show (boxO g _ :: rowO 22 1 _ (rs.length + 1) _ :: rowO 22 1 _ (cs.length + 1) _ :: _).Perm (boxO g _ :: rowO 22 1 _ (rs ++ [(A, c, l)]).length _ :: rowO 22 1 _ (cs ++ [(A3, c3, l)]).length _ :: ((rs ++ [(A, c, l)]).map (bytO 5) ++ (cs ++ [(A3, c3, l)]).map (bytO 5) ++ os.eraseIdx i))
  have e6 : (rs ++ [(A, c, l)]).map (bytO 5) = rs.map (bytO 5) ++ [bytO 5 (A, c, l)] := by rw [List.map_append]; rfl
  have e7 : (cs ++ [(A3, c3, l)]).map (bytO 5) = cs.map (bytO 5) ++ [bytO 5 (A3, c3, l)] := by rw [List.map_append]; rfl
  rw [← e4, ← e5, e6, e7]
  exact List.Perm.cons _ (List.Perm.cons _ (List.Perm.cons _ hp))
theorem getE_left {α : Type} {os ps : List α} {i : Nat} {a : α} (h : os[i]? = some a) : (os ++ ps)[i]? = some a := by
  rw [List.getElem?_append_left (List.getElem?_eq_some_iff.1 h).1]; exact h
theorem eraseE_left {α : Type} {os ps : List α} {i : Nat} {a : α} (h : os[i]? = some a) : (os ++ ps).eraseIdx i = os.eraseIdx i ++ ps := List.eraseIdx_append_of_lt_length (List.getElem?_eq_some_iff.1 h).1 ps
theorem getE_next {α : Type} {os : List α} {i j : Nat} (h : i ≤ j) : (os.eraseIdx i)[j]? = os[j + 1]? := by
  rw [List.getElem?_eraseIdx]; simp [Nat.not_lt.2 h]
theorem keep_box (g : Nat) (lv wv : Value) (rs cs : RowL) (os : List Ob) (b : Ob) (i : Nat) (A : Option Addr) (m c : Nat) (l : List UInt8) (w x : World) (h : OW w (bookO g lv wv rs cs ++ (os ++ [b])) x) (hi : os[i]? = some (bytO 5 (A, c, l))) (hl : l.length = m) (hmb : m ≤ 140737488355000) (hn : rs.length ≤ 1000000) (hk : cs.length ≤ 1000000) :
    Calls Try.prog 42 #[.pointer (some ⟨g, 0, none⟩), .slice A m c] x fun e y => e = .returned (.tuple #[]) ∧ ∃ lv' wv' A' c', OW w (bookO g lv' wv' (rs ++ [(A, c, l)]) (cs ++ [(A', c', l)]) ++ (os.eraseIdx i ++ [b])) y := by
  rw [← eraseE_left hi]
  exact keep_book g lv wv rs cs _ i A m c l w x h (getE_left hi) hl hmb hn hk
/-- Three rows of an entry are kept. -/
def ErPost (g : Nat) (rs cs : RowL) (os : List Ob) (i : Nat) (r1 r2 r3 : Option Addr × Nat × List UInt8) (w : World) (e : Ending) (y : World) : Prop :=
  e = .returned (.tuple #[]) ∧ ∃ lv wv A1 c1 A2 c2 A3 c3, OW w (bookO g lv wv (rs ++ [r1, r2, r3]) (cs ++ [(A1, c1, r1.2.2), (A2, c2, r2.2.2), (A3, c3, r3.2.2)]) ++ ((os.eraseIdx i).eraseIdx i).eraseIdx i) y
set_option maxRecDepth 100000 in
set_option maxHeartbeats 2000000 in
theorem entry_book (g : Nat) (lv wv : Value) (rs cs : RowL) (os : List Ob) (i : Nat) (A : Option Addr) (n c : Nat) (B : Option Addr) (m d : Nat) (D : Option Addr) (v q : Nat) (l1 l2 l3 : List UInt8) (fam ts seq kind : Int) (w x : World) (h : OW w (bookO g lv wv rs cs ++ os) x)
    (h1 : os[i]? = some (bytO 5 (A, c, l1))) (h2 : os[i + 1]? = some (bytO 5 (B, d, l2))) (h3 : os[i + 2]? = some (bytO 5 (D, q, l3))) (hl : l1.length = n ∧ l2.length = m ∧ l3.length = v) (hb : n ≤ 140737488355000 ∧ m ≤ 140737488355000 ∧ v ≤ 140737488355000) (hn : rs.length ≤ 900000) (hk : cs.length ≤ 900000) :
    Calls Try.prog 43 #[.pointer (some ⟨g, 0, none⟩), .agg #[.slice A n c, .int .i64 fam, .slice B m d, .int .i64 ts, .int .i64 seq, .int .i64 kind, .slice D v q]] x (ErPost g rs cs os i (A, c, l1) (B, d, l2) (D, q, l3) w) := by
  have HX := Lib.hid h
  have H1 := Lib.hid h1
  have H2 : Hid ((os.eraseIdx i)[i]? = some (bytO 5 (B, d, l2))) := Lib.hid ((getE_next (Nat.le_refl _)).trans h2)
  have H3 : Hid (((os.eraseIdx i).eraseIdx i)[i]? = some (bytO 5 (D, q, l3))) := Lib.hid (((getE_next (Nat.le_refl _)).trans (getE_next (Nat.le_succ _))).trans h3)
  have HL := Lib.hid hl
  have HN : Hid (∀ r, (rs ++ [r]).length ≤ 1000000) := Lib.hid fun r => by rw [List.length_append]; have : [r].length = 1 := rfl; omega
  have HN2 : Hid (∀ r s, (rs ++ [r] ++ [s]).length ≤ 1000000) := Lib.hid fun r s => by rw [List.length_append, List.length_append]; have : [r].length = 1 := rfl; have : [s].length = 1 := rfl; omega
  have HK : Hid (∀ r, (cs ++ [r]).length ≤ 1000000) := Lib.hid fun r => by rw [List.length_append]; have : [r].length = 1 := rfl; omega
  have HK2 : Hid (∀ r s, (cs ++ [r] ++ [s]).length ≤ 1000000) := Lib.hid fun r s => by rw [List.length_append, List.length_append]; have : [r].length = 1 := rfl; have : [s].length = 1 := rfl; omega
  have tk : True := trivial
  clear h h1 h2 h3 hl
  go_enter Try.func43, Try.ntmps43
  go_wp2_with (first
    | (refine wl_box rfl (.tmp 1) rfl [.slice A n c, .int .i64 fam, .slice B m d, .int .i64 ts, .int .i64 seq, .int .i64 kind, .slice D v q] rfl HX.out ?_; intro b1 x1 hz _; rw [List.append_assoc] at hz; replace HX := Lib.hid hz; clear hz)
    | (refine wpList_load_cell rfl 22 (.tmp 5) rfl rfl (HX.out.cellm (g := b1) (cs := [.slice A n c, .int .i64 fam, .slice B m d, .int .i64 ts, .int .i64 seq, .int .i64 kind, .slice D v q]) (j := 0) (by simp) rfl) (fun w => Try.isAgg22 w) ?_)
    | (refine wpList_load_cell rfl 22 (.tmp 9) rfl rfl (HX.out.cellm (g := b1) (cs := [.slice A n c, .int .i64 fam, .slice B m d, .int .i64 ts, .int .i64 seq, .int .i64 kind, .slice D v q]) (j := 2) (by simp) rfl) (fun w => Try.isAgg22 w) ?_)
    | (go_at_call 42; have _t := tk; go_must (refine (keep_box g lv wv rs cs os _ i A n c l1 w _ HX.out H1.out HL.out.1 hb.1 (by omega) (by omega)).mono ?_); rintro e x2 ⟨rfl, lv2, wv2, A2, c2, hz⟩; replace HX := Lib.hid hz; clear hz tk))
  have tk : True := trivial
  go_wp2_with (first
    | (refine wpList_load_cell rfl 22 (.tmp 13) rfl rfl (HX.out.cellm (g := b1) (cs := [.slice A n c, .int .i64 fam, .slice B m d, .int .i64 ts, .int .i64 seq, .int .i64 kind, .slice D v q]) (j := 6) (by simp) rfl) (fun w => Try.isAgg22 w) ?_)
    | (go_at_call 42; have _t := tk; go_must (refine (keep_box g lv2 wv2 _ _ (os.eraseIdx i) _ i B m d l2 w _ HX.out H2.out HL.out.2.1 hb.2.1 (HN.out _) (HK.out _)).mono ?_); rintro e x3 ⟨rfl, lv3, wv3, A3, c3, hz⟩; replace HX := Lib.hid hz; clear hz tk))
  have tk : True := trivial
  go_wp2_with (first
    | (refine wpList_load_cell rfl 22 (.tmp 13) rfl rfl (HX.out.cellm (g := b1) (cs := [.slice A n c, .int .i64 fam, .slice B m d, .int .i64 ts, .int .i64 seq, .int .i64 kind, .slice D v q]) (j := 6) (by simp) rfl) (fun w => Try.isAgg22 w) ?_)
    | (go_at_call 42; have _t := tk; go_must (refine (keep_box g lv3 wv3 _ _ ((os.eraseIdx i).eraseIdx i) _ i D v q l3 w _ HX.out H3.out HL.out.2.2 hb.2.2 (HN2.out _ _) (HK2.out _ _)).mono ?_); rintro e x4 ⟨rfl, lv4, wv4, A4, c4, hz⟩; replace HX := Lib.hid hz; clear hz tk))
  go_end0
  refine ⟨rfl, lv4, wv4, A2, c2, A3, c3, A4, c4, ?_⟩
  have h := HX.out
  simp only [List.append_assoc, List.cons_append, List.nil_append] at h
  exact h.sub ((List.Sublist.refl _).append (List.sublist_append_left _ _))
end Go.Proofs.Ytcikhlieaoanoaa

/-
  The statements' Kept, walked over what the call owns: Untouched, Settle, Settled. (Printed by gen_kept.py.)
-/
namespace Go.Proofs.Ytcikhlieaoanoaa
open Go.RowKit

def InR (rs : RowL) (b : Nat) : Prop := ∃ (i : Nat) (r : Option Addr × Nat × List UInt8) (a : Addr), rs[i]? = some r ∧ r.1 = some a ∧ a.block = b
/-- What the rows of a Kept are, in a world. -/
theorem book_rows {w x : World} {g : Nat} {lv wv : Value} {rs cs : RowL} {os : List Ob} (h : OW w (bookO g lv wv rs cs ++ os) x) : RowsB 5 w.heap.size x rs ∧ RowsB 5 w.heap.size x cs :=
  ⟨(h.sub (((((List.sublist_append_left _ _).cons _).cons _).cons _).trans (List.sublist_append_left _ _))).toRows, (h.sub (((((List.sublist_append_right _ _).cons _).cons _).cons _).trans (List.sublist_append_left _ _))).toRows⟩
set_option maxRecDepth 100000 in
set_option maxHeartbeats 2000000 in
theorem untouched_ow (g : Nat) (lv wv : Value) (rs cs : RowL) (os : List Ob) (w x : World) (h : OW w (bookO g lv wv rs cs ++ os) x) (hs : cs.map (·.2.2) = rs.map (·.2.2)) (hm : rs.length ≤ 1000000) :
    Calls Try.prog 44 #[.pointer (some ⟨g, 0, none⟩)] x fun e y => e = .returned (.bool true) ∧ Below x.heap.size x y := by
  obtain ⟨n, hn⟩ : ∃ n, n = rs.length := ⟨_, rfl⟩
  have hcl : cs.length = rs.length := by have := congrArg List.length hs; simpa using this
  obtain ⟨LA, lc, rfl, _, _, _, hrl⟩ := own_slice (h.row (i := 1) rfl)
  obtain ⟨WA, wc, rfl, _, _, _, hrw⟩ := own_slice (h.row (i := 2) rfl)
  obtain ⟨hr1, hr2⟩ := book_rows h
  have HX : Hid (∀ y, Below x.heap.size x y → y.cell? ⟨g, 0, none⟩ = some (.slice LA n lc) ∧ y.cell? ⟨g, 1, none⟩ = some (.slice WA n wc)) := Lib.hid fun y hy => by
    have h' := h.later hy
    rw [hn]
    exact ⟨h'.cell (i := 0) rfl rfl, by have := h'.cell (i := 0) (j := 1) rfl rfl; rwa [hcl] at this⟩
  have HC : Hid (∀ k, k < n → ∃ b o b' o' a c a' c' l, LA = some ⟨b, o, none⟩ ∧ WA = some ⟨b', o', none⟩ ∧ (∀ y, Below x.heap.size x y → y.cell? ⟨b, o + k, none⟩ = some (.slice a l.length c) ∧ y.cell? ⟨b', o' + k, none⟩ = some (.slice a' l.length c') ∧ Sl y a l.length c l ∧ Sl y a' l.length c' l)) := Lib.hid fun k hk => by
    rw [hn] at hk
    obtain ⟨b, o, rfl, hb, hc⟩ := hrl.2 (by omega)
    obtain ⟨b', o', rfl, hb', hc'⟩ := hrw.2 (by omega)
    obtain ⟨⟨a, c, l⟩, hr⟩ : ∃ r, rs[k]? = some r := ⟨_, List.getElem?_eq_getElem hk⟩
    obtain ⟨⟨a', c', l'⟩, hr'⟩ : ∃ r, cs[k]? = some r := ⟨_, List.getElem?_eq_getElem (by omega)⟩
    have hll : l' = l := by
      have e1 : (cs.map (·.2.2))[k]? = some l' := by rw [List.getElem?_map, hr']; rfl
      rw [hs, List.getElem?_map, hr] at e1
      injection e1 with e1; exact e1.symm
    subst hll
    refine ⟨b, o, b', o', a, c, a', c', l', rfl, rfl, fun y hy => ⟨?_, ?_, (hr1.sl hr).later hy, (hr2.sl hr').later hy⟩⟩
    · exact (hy.cell (p := ⟨b, o + k, none⟩) hb).trans (hc k _ (by rw [List.getElem?_map, hr]; rfl))
    · exact (hy.cell (p := ⟨b', o' + k, none⟩) hb').trans (hc' k _ (by rw [List.getElem?_map, hr']; rfl))
  rw [← hn] at hm
  clear h hs hrl hrw hn hr1 hr2 hcl
  go_enter Try.func44, Try.ntmps44
  go_wp2_with fail
  go_loopw [3] (fun i wr => ∃ k : Nat, k ≤ n ∧ i = .int .i64 k ∧ Hid (Below x.heap.size x wr)) (fun i _ => n - (intOf i).toNat)
  case atStart => exact ⟨0, Nat.zero_le _, rfl, Lib.hid (Below.refl _ _)⟩
  case round =>
    obtain ⟨k, hk, rfl, HB⟩ := hrel
    obtain ⟨x0, _⟩ := HX.out wr HB.out
    by_cases hlt : k < n
    case neg =>
      have hd : decide ((k : Int) < (n : Int)) = false := decide_eq_false (by omega)
      go_wp2_with fail
      go_ret
      exact ⟨rfl, HB.out⟩
    have hd : decide ((k : Int) < (n : Int)) = true := decide_eq_true (by omega)
    obtain ⟨b, o, b', o', a, c, a', c', l, rfl, rfl, hcc⟩ := HC.out k hlt
    obtain ⟨q, hq⟩ : ∃ q, q = l.length := ⟨_, rfl⟩
    rw [← hq] at hcc
    have HCC := Lib.hid hcc
    have XS : Hid ((l == l) = true) := Lib.hid (by simp)
    have XQ : Hid (q ≤ 9223372036854775807) := Lib.hid (hcc x (Below.refl _ _)).2.2.1.le
    have hk1 : (k : Int) < (n : Int) := by omega
    have hk2 : (0 : Int) ≤ (k : Int) := by omega
    clear hcc hq
    go_wp2_with fail
    clear x0
    refine lt_start [] (by kernel_rfl) ?_
    intro xd hd0
    refine ⟨fun z => Below x.heap.size x z, ?_⟩
    have HS := Lib.hid (HB.out.trans (hd0.mono HB.out.size))
    refine lt_pure 0 rfl (by kernel_rfl) (by kernel_rfl) (by kernel_rfl) (by kernel_rfl) (fun _ _ _ h => h) (v := ?_) (yi_run rfl (fun w => ?_)) (fun _ => HS.out) ?_
    rotate_left
    · first | (go_simp; done) | (go_simp; with_reducible rfl)
    simp only [Act.put, List.setIfInBounds_toArray, List.set_cons_zero, List.set_cons_succ]
    refine lt_pure 1 rfl (by kernel_rfl) (by kernel_rfl) (by kernel_rfl) (by kernel_rfl) (fun _ _ _ h => h) (v := ?_) (yi_run rfl (fun w => ?_)) (fun _ => HS.out) ?_
    rotate_left
    · first | (go_simp; done) | (go_simp; with_reducible rfl)
    simp only [Act.put, List.setIfInBounds_toArray, List.set_cons_zero, List.set_cons_succ]
    refine lt_pure 2 rfl (by kernel_rfl) (by kernel_rfl) (by kernel_rfl) (by kernel_rfl) (fun _ _ _ h => h) (v := ?_) (yi_run rfl (fun w => ?_)) (fun _ => HS.out) ?_
    rotate_left
    · first | (go_simp; done) | (go_simp; with_reducible rfl)
    simp only [Act.put, List.setIfInBounds_toArray, List.set_cons_zero, List.set_cons_succ]
    refine lt_take 3 [5, 6, 14, 15] rfl (by kernel_rfl) (by kernel_rfl) (by kernel_rfl) (by kernel_rfl) (by kernel_rfl) (fun _ _ _ h => h) (yi_cell rfl rfl rfl (fun w hS => (HX.out w hS).1) (fun w => Try.isAgg35 w)) HS.out ?_
    simp only [Act.put, List.setIfInBounds_toArray, List.set_cons_zero, List.set_cons_succ]
    refine lt_pure 4 rfl (by kernel_rfl) (by kernel_rfl) (by kernel_rfl) (by kernel_rfl) (fun _ _ _ h => h) (v := ?_) (yi_run rfl (fun w => ?_)) (fun _ => HS.out) ?_
    rotate_left
    · first | (go_simp; done) | (go_simp; with_reducible rfl)
    simp only [Act.put, List.setIfInBounds_toArray, List.set_cons_zero, List.set_cons_succ]
    refine lt_pure 5 rfl (by kernel_rfl) (by kernel_rfl) (by kernel_rfl) (by kernel_rfl) (fun _ _ _ h => h) (v := ?_) (yi_run rfl (fun w => ?_)) (fun _ => HS.out) ?_
    rotate_left
    · first | (go_simp; done) | (go_simp; with_reducible rfl)
    simp only [Act.put, List.setIfInBounds_toArray, List.set_cons_zero, List.set_cons_succ]
    refine lt_take 6 [14, 15] rfl (by kernel_rfl) (by kernel_rfl) (by kernel_rfl) (by kernel_rfl) (by kernel_rfl) (fun _ _ _ h => h) (yi_cell rfl rfl rfl (fun w hS => (HCC.out w hS).1) (fun w => Try.isAgg22 w)) HS.out ?_
    simp only [Act.put, List.setIfInBounds_toArray, List.set_cons_zero, List.set_cons_succ]
    refine lt_pure 7 rfl (by kernel_rfl) (by kernel_rfl) (by kernel_rfl) (by kernel_rfl) (fun _ _ _ h => h) (v := ?_) (yi_run rfl (fun w => ?_)) (fun _ => HS.out) ?_
    rotate_left
    · first | (go_simp; done) | (go_simp; with_reducible rfl)
    simp only [Act.put, List.setIfInBounds_toArray, List.set_cons_zero, List.set_cons_succ]
    refine lt_pure 8 rfl (by kernel_rfl) (by kernel_rfl) (by kernel_rfl) (by kernel_rfl) (fun _ _ _ h => h) (v := ?_) (yi_run rfl (fun w => ?_)) (fun _ => HS.out) ?_
    rotate_left
    · first | (go_simp; done) | (go_simp; with_reducible rfl)
    simp only [Act.put, List.setIfInBounds_toArray, List.set_cons_zero, List.set_cons_succ]
    refine lt_pure 9 rfl (by kernel_rfl) (by kernel_rfl) (by kernel_rfl) (by kernel_rfl) (fun _ _ _ h => h) (v := ?_) (yi_run rfl (fun w => ?_)) (fun _ => HS.out) ?_
    rotate_left
    · first | (go_simp; done) | (go_simp; with_reducible rfl)
    simp only [Act.put, List.setIfInBounds_toArray, List.set_cons_zero, List.set_cons_succ]
    refine lt_take 10 [12, 13, 14, 15] rfl (by kernel_rfl) (by kernel_rfl) (by kernel_rfl) (by kernel_rfl) (by kernel_rfl) (fun _ _ _ h => h) (yi_cell rfl rfl rfl (fun w hS => (HX.out w hS).2) (fun w => Try.isAgg35 w)) HS.out ?_
    simp only [Act.put, List.setIfInBounds_toArray, List.set_cons_zero, List.set_cons_succ]
    refine lt_pure 11 rfl (by kernel_rfl) (by kernel_rfl) (by kernel_rfl) (by kernel_rfl) (fun _ _ _ h => h) (v := ?_) (yi_run rfl (fun w => ?_)) (fun _ => HS.out) ?_
    rotate_left
    · first | (go_simp; done) | (go_simp; with_reducible rfl)
    simp only [Act.put, List.setIfInBounds_toArray, List.set_cons_zero, List.set_cons_succ]
    refine lt_pure 12 rfl (by kernel_rfl) (by kernel_rfl) (by kernel_rfl) (by kernel_rfl) (fun _ _ _ h => h) (v := ?_) (yi_run rfl (fun w => ?_)) (fun _ => HS.out) ?_
    rotate_left
    · first | (go_simp; done) | (go_simp; with_reducible rfl)
    simp only [Act.put, List.setIfInBounds_toArray, List.set_cons_zero, List.set_cons_succ]
    refine lt_take 13 [14, 15] rfl (by kernel_rfl) (by kernel_rfl) (by kernel_rfl) (by kernel_rfl) (by kernel_rfl) (fun _ _ _ h => h) (yi_cell rfl rfl rfl (fun w hS => (HCC.out w hS).2.1) (fun w => Try.isAgg22 w)) HS.out ?_
    simp only [Act.put, List.setIfInBounds_toArray, List.set_cons_zero, List.set_cons_succ]
    refine lt_call 14 rfl (by kernel_rfl) rfl rfl ⟨_, Try.func30, by decide, by kernel_rfl⟩ [.slice a q c, .slice a' q c'] rfl ?_
    refine (same_any l l a a' q c q c' _ XQ.out (HCC.out _ HS.out).2.2.1.rb (HCC.out _ HS.out).2.2.2.rb).mono ?_
    rw [XS.out]
    rintro e z ⟨rfl, hb⟩
    replace HS := Lib.hid (below_up HS.out hb)
    clear hb
    refine ⟨_, rfl, fun _ => HS.out, ?_⟩
    simp only [Act.put, List.setIfInBounds_toArray, List.set_cons_zero, List.set_cons_succ]
    refine lt_pure 15 rfl (by kernel_rfl) (by kernel_rfl) (by kernel_rfl) (by kernel_rfl) (fun _ _ _ h => h) (v := ?_) (yi_run rfl (fun w => ?_)) (fun _ => HS.out) ?_
    rotate_left
    · first | (go_simp; done) | (go_simp; with_reducible rfl)
    simp only [Act.put, List.setIfInBounds_toArray, List.set_cons_zero, List.set_cons_succ]
    refine lt_done (by kernel_rfl) ?_
    have HB9 := Lib.hid HS.out
    clear HS
    go_wp2_with fail
    go_roundw
    case rel => exact ⟨k + 1, by omega, by go_num, HB9⟩
    case measure => simp [intOf]; omega

def mk25 (i : Nat) : UInt8 := UInt8.ofNat (1 + i % 250)
theorem mk25_v (i : Nat) : u8v (mk25 i) = .int .u8 (1 + (i : Int) % 250) := by
  unfold u8v mk25
  rw [UInt8.toNat_ofNat', Nat.mod_eq_of_lt (by omega)]
  rw [show ((1 + i % 250 : Nat) : Int) = 1 + (i : Int) % 250 from by omega]
theorem mk25_n (i : Nat) : ((mk25 i).toNat : Int) = 1 + (i : Int) % 250 := by
  have h := mk25_v i
  unfold u8v at h
  injection h with _ h
def markR (rs : RowL) : RowL := fillR mk25 rs rs.length
/-- The lengthened ones of the first q rows. -/
def more7 (mk : Nat → UInt8) (rs : RowL) (q : Nat) : List (List UInt8) := (List.range q).map fun i => List.replicate ((rs[i]?.map fun r => r.2.2.length).getD 0 + 70) (mk i)
theorem more7_succ (mk : Nat → UInt8) {rs : RowL} {q : Nat} {A : Option Addr} {c : Nat} {l : List UInt8} (h : rs[q]? = some (A, c, l)) : more7 mk rs (q + 1) = more7 mk rs q ++ [List.replicate (l.length + 70) (mk q)] := by simp [more7, List.range_succ, h]
theorem more7_at (mk : Nat → UInt8) {rs : RowL} {q i : Nat} (hi : i < q) {A : Option Addr} {c : Nat} {l : List UInt8} (h : rs[i]? = some (A, c, l)) : (more7 mk rs q)[i]? = some (List.replicate (l.length + 70) (mk i)) := by simp [more7, hi, h]
theorem ap_blk : ∀ os : List Ob, os.Pairwise Ap ↔ (os.map Ob.blk).Pairwise fun a b => ∀ x, a = some x → b ≠ some x := fun os => by
  rw [List.pairwise_map]; rfl
/-- All rows of a list are others, in the same blocks. -/
theorem OW.swapRows {T : TypeId} {w x y : World} {ps qs : List Ob} {rs rs' : RowL} (h : OW w (ps ++ (rs.map (bytO T) ++ qs)) x) (hc : Chg (InR rs) x y) (hr : RowsB T w.heap.size y rs') (he : rs'.map (·.1) = rs.map (·.1)) : OW w (ps ++ (rs'.map (bytO T) ++ qs)) y := by
  have hb : rs'.map (fun r => (bytO T r).blk) = rs.map (fun r => (bytO T r).blk) := by
    have e : ∀ z : RowL, z.map (fun r => (bytO T r).blk) = (z.map (·.1)).map (fun a => a.map (·.block)) := fun z => by
      rw [List.map_map]
      exact List.map_congr_left fun r _ => byt_blk r
    rw [e, e, he]
  have hin : ∀ b, InR rs b → ∃ o, o ∈ rs.map (bytO T) ∧ o.blk = some b := fun b ⟨i, r, a, h1, h2, h3⟩ => ⟨bytO T r, List.mem_map_of_mem (List.mem_of_getElem? h1), by rw [byt_blk, h2, ← h3]; rfl⟩
  obtain ⟨n1, n2, n3⟩ := List.pairwise_append.1 h.ne
  obtain ⟨n4, n5, n6⟩ := List.pairwise_append.1 n2
  have keep : ∀ o, o ∈ ps ∨ o ∈ qs → o.at_ w.heap.size y := fun o ho => by
    have hm : o ∈ ps ++ (rs.map (bytO T) ++ qs) := by
      rcases ho with ho | ho
      · exact List.mem_append_left _ ho
      · exact List.mem_append_right _ (List.mem_append_right _ ho)
    refine (h.ob o hm).chg hc fun b hob hi => ?_
    obtain ⟨p, hp, hpb⟩ := hin b hi
    rcases ho with ho | ho
    · exact n3 o ho p (List.mem_append_left _ hp) b hob hpb
    · exact n6 p hp o ho b hpb hob
  refine ⟨h.up.trans (hc.below h.up.size fun b hb' hi => ?_), fun o ho => ?_, ?_⟩
  · obtain ⟨p, hp, hpb⟩ := hin b hi
    exact ((h.ob p (List.mem_append_right _ (List.mem_append_left _ hp))).lt hpb).1
  · rcases List.mem_append.1 ho with ho | ho
    · exact keep o (.inl ho)
    · rcases List.mem_append.1 ho with ho | ho
      · obtain ⟨r, hr', rfl⟩ := List.mem_map.1 ho
        obtain ⟨i, hi⟩ := List.getElem?_of_mem hr'
        exact ⟨(fun e => nomatch e), fun _ => hr.1 i r hi⟩
      · exact keep o (.inr ho)
  · rw [ap_blk]
    have := (ap_blk _).1 h.ne
    rw [List.map_append, List.map_append, List.map_map] at this ⊢
    have e : rs'.map (Ob.blk ∘ bytO T) = rs.map (Ob.blk ∘ bytO T) := hb
    rw [e]; exact this
theorem book_off {w x : World} {g : Nat} {lv wv : Value} {rs cs : RowL} {os : List Ob} (h : OW w (bookO g lv wv rs cs ++ os) x) : ¬ InR rs g ∧ ∀ b, lv.ownBlock = some b → ¬ InR rs b := by
  have key : ∀ (o : Ob), (o = boxO g [lv, wv] ∨ o = rowO 22 1 lv rs.length (rs.map valR)) → ∀ b, o.blk = some b → ¬ InR rs b := fun o ho b hb ⟨i, r, a, h1, h2, h3⟩ => by
    have hm : bytO 5 r ∈ rs.map (bytO 5) := List.mem_map_of_mem (List.mem_of_getElem? h1)
    have hb2 : (bytO 5 r).blk = some b := by rw [byt_blk, h2, ← h3]; rfl
    obtain ⟨m1, m2⟩ := List.pairwise_cons.1 h.ne
    obtain ⟨m3, _⟩ := List.pairwise_cons.1 m2
    rcases ho with rfl | rfl
    · exact m1 _ (by simp [hm]) b hb hb2
    · exact m3 _ (by simp [hm]) b hb hb2
  refine ⟨key _ (.inl rfl) g rfl, fun b hb => key _ (.inr rfl) b ?_⟩
  show vBlock lv = some b
  rw [own_vblock (h.row (i := 1) rfl)]; exact hb

set_option maxRecDepth 100000 in
set_option maxHeartbeats 8000000 in
theorem settle_ow (g : Nat) (lv wv : Value) (rs cs : RowL) (os : List Ob) (w x : World) (h : OW w (bookO g lv wv rs cs ++ os) x) (hs : cs.map (·.2.2) = rs.map (·.2.2)) (hm : rs.length ≤ 1000000) (hb : ∀ (i : Nat) r, rs[i]? = some r → r.2.2.length ≤ 16777216) :
    Calls Try.prog 41 #[.pointer (some ⟨g, 0, none⟩)] x fun e y => e = .returned (.bool true) ∧ OW w (bookO g lv wv (markR rs) cs ++ os) y := by
  have H := Lib.hid h
  have HSC := Lib.hid hs
  have HLB := Lib.hid hb
  obtain ⟨n, hn⟩ : ∃ n, n = rs.length := ⟨_, rfl⟩
  have hm' := hm
  rw [← hn] at hm
  have XN := Lib.hid hn
  have HM := Lib.hid hm'
  clear h hs hb hn hm'
  go_enter Try.func41, Try.ntmps41
  go_wp2_with (go_at_call 44; go_must (refine (untouched_ow g lv wv rs cs os w _ H.out HSC.out HM.out).mono ?_); rintro e w1 ⟨rfl, hb1⟩; have H1 := Lib.hid (H.out.later hb1); clear hb1)
  obtain ⟨wa, rfl⟩ : ∃ wa : World, wa = w1 := ⟨_, rfl⟩
  obtain ⟨B, hB⟩ : ∃ B, B = w.heap.size := ⟨_, rfl⟩
  have hol := H1.out.row (i := 1) rfl
  rw [← XN.out] at hol
  obtain ⟨LA, lc, rfl, _⟩ := own_slice hol
  have hR8 : RowsB 5 B wa rs := by rw [hB]; exact (book_rows H1.out).1
  have hoff := book_off H1.out
  have hbx := H1.out.cell (i := 0) (j := 0) rfl rfl
  have hfin : Hid (∀ y r2, Chg (InR rs) wa y → RowsB 5 B y r2 → r2.map (·.1) = rs.map (·.1) → r2 = markR rs → OW w (bookO g (.slice LA n lc) wv (markR rs) cs ++ os) y) := Lib.hid fun y r2 hc hr he h2 => by
    subst h2
    have h3 := H1.out
    have e1 : bookO g (.slice LA n lc) wv rs cs ++ os = [boxO g [.slice LA n lc, wv], rowO 22 1 (.slice LA n lc) rs.length (rs.map valR), rowO 22 1 wv cs.length (cs.map valR)] ++ (rs.map (bytO 5) ++ (cs.map (bytO 5) ++ os)) := by simp [bookO]
    rw [e1] at h3
    have h4 := h3.swapRows hc (by rw [hB] at hr; exact hr) he
    have e2 : (markR rs).length = rs.length := fillR_len _ _ _
    have e3 : (markR rs).map valR = rs.map valR := by
      refine List.ext_getElem? fun i => ?_
      rw [List.getElem?_map, List.getElem?_map]
      unfold markR
      rw [fillR_get]
      cases rs[i]? with
      | none => rfl
      | some r =>
        simp only [Option.map_some]
        split <;> simp [valR]
    have e4 : bookO g (.slice LA n lc) wv (markR rs) cs ++ os = [boxO g [.slice LA n lc, wv], rowO 22 1 (.slice LA n lc) rs.length (rs.map valR), rowO 22 1 wv cs.length (cs.map valR)] ++ ((markR rs).map (bytO 5) ++ (cs.map (bytO 5) ++ os)) := by simp [bookO, e2, e3]
    rw [e4]; exact h4
  have HEX : Hid (∀ k, k < n → ∃ (F : List UInt8) (a : Option Addr) (ca gl : Nat), F.length ≤ 16777216 ∧ rs[k]? = some (a, ca, F) ∧ LA = some ⟨gl, 0, none⟩ ∧ gl < wa.heap.size ∧ ¬ InR rs gl ∧ ∀ x, Chg (InR rs) wa x → x.cell? ⟨gl, k, none⟩ = some (.slice a F.length ca)) := Lib.hid fun k hk => by
    obtain ⟨⟨a, ca, F⟩, hrk⟩ : ∃ r, rs[k]? = some r := ⟨_, List.getElem?_eq_getElem (by rw [← XN.out]; exact hk)⟩
    obtain ⟨gl, cap, hv, h1, h2, _⟩ := own_form hol (by omega)
    injection hv with hv _ _
    subst hv
    have hnr : ¬ InR rs gl := hoff.2 gl rfl
    exact ⟨F, a, ca, gl, HLB.out _ _ hrk, hrk, rfl, h2, hnr, fun x hx => hx.cell (p := ⟨gl, k, none⟩) ((World.ownsRow.cellAt hol k (by omega)).trans (by rw [List.getElem?_map, hrk]; rfl)) hnr⟩
  have HBK : Hid (∀ x, Chg (InR rs) wa x → x.cell? ⟨g, 0, none⟩ = some (.slice LA n lc)) := Lib.hid fun x hx => hx.cell hbx hoff.1
  have R8 := Lib.hid hR8
  have HLT : Hid (∀ (i : Nat) r a, rs[i]? = some r → r.1 = some a → B ≤ a.block ∧ a.block < wa.heap.size) := Lib.hid fun i r a hr ha => (hR8.1 i r hr).lt ha
  have HBS : Hid (B ≤ wa.heap.size) := Lib.hid (by rw [hB]; exact H1.out.up.size)
  have HFM : Hid (∀ k, k = n → fillR mk25 rs k = markR rs) := Lib.hid fun k hk => by rw [hk, XN.out]; rfl
  have x0 := HBK.out wa (Chg.refl _ _)
  clear hol hR8 hoff hbx H1 H HSC HLB XN HM hB
  go_wp2_with fail
  clear x0
  go_loopw [3] (fun i wr => ∃ k : Nat, k ≤ n ∧ i = .int .i64 k ∧ Hid (RowsB 5 B wr (fillR mk25 rs k)) ∧ Hid (Chg (InR rs) wa wr)) (fun i _ => n - (intOf i).toNat)
  case atStart => exact ⟨0, by omega, rfl, Lib.hid (by rw [fillR_zero]; exact R8.out), Lib.hid (Chg.refl _ _)⟩
  case round =>
    obtain ⟨k, hk, rfl, HRW, HC⟩ := hrel
    have x0 := HBK.out wr HC.out
    by_cases hlt : k < n
    case neg =>
      have hd : decide ((k : Int) < (n : Int)) = false := decide_eq_false (by omega)
      have hkn : k = n := by omega
      obtain ⟨r2, hr2⟩ : ∃ r2, r2 = fillR mk25 rs k := ⟨_, rfl⟩
      rw [← hr2] at HRW
      have HR2 : Hid (r2 = markR rs ∧ r2.map (·.1) = rs.map (·.1)) := Lib.hid ⟨hr2.trans (HFM.out k hkn), by
        rw [hr2]
        refine List.ext_getElem? fun i => ?_
        rw [List.getElem?_map, List.getElem?_map, fillR_get]
        cases rs[i]? with
        | none => rfl
        | some r =>
          simp only [Option.map_some]
          split <;> rfl⟩
      have HEX4 : Hid (∀ k, k < n → ∀ a ca (F : List UInt8), rs[k]? = some (a, ca, F) → r2[k]? = some (a, ca, List.replicate F.length (mk25 k))) := Lib.hid fun i hi a ca F h => by
        rw [hr2, fillR_get, h, hkn]; simp [hi]
      have HL4 : Hid (∀ (i : Nat) r a, r2[i]? = some r → r.1 = some a → InR rs a.block) := Lib.hid fun i r a hr ha => by
        rw [hr2, fillR_get] at hr
        cases h : rs[i]? with
        | none => rw [h] at hr; cases hr
        | some q =>
          rw [h] at hr; injection hr with hr
          have e : q.1 = some a := by
            rw [← ha, ← hr]; split <;> rfl
          exact ⟨i, q, a, h, e, rfl⟩
      obtain ⟨wp, rfl⟩ : ∃ wp : World, wp = wr := ⟨_, rfl⟩
      obtain ⟨H3, hH3⟩ : ∃ H, H = wp.heap.size := ⟨_, rfl⟩
      have hwH : wa.heap.size ≤ H3 := by have := HC.out.size; omega
      have HL3 : Hid (∀ (i : Nat) r a, r2[i]? = some r → r.1 = some a → a.block < H3) := Lib.hid fun i r a hr ha => by
        obtain ⟨j, q, b, e1, e2, e3⟩ := HL4.out i r a hr ha
        have := (HLT.out j q b e1 e2).2
        omega
      have HLB : Hid (∀ (i : Nat) r a, r2[i]? = some r → r.1 = some a → B ≤ a.block) := Lib.hid fun i r a hr ha => by
        obtain ⟨j, q, b, e1, e2, e3⟩ := HL4.out i r a hr ha
        have := (HLT.out j q b e1 e2).1
        omega
      have hH3' : H3 ≤ wp.heap.size := by omega
      have hbH : B ≤ H3 := Nat.le_trans HBS.out hwH
      clear hr2 hH3 hkn hk
      go_wp2_with fail
      clear hlt x0
      go_loopw [5, 6] (fun v i wr => ∃ (q : Nat) (vs : List Value), q ≤ n ∧ i = .int .i64 q ∧ wr.ownsRow H3 22 1 v q vs ∧ Hid (RowsB 5 B wr r2) ∧ Hid (FamS wr v.ownBlock vs (more7 mk25 rs q)) ∧ Hid (Aps r2 q vs) ∧ Hid (Chg (InR rs) wa wr) ∧ Hid (H3 ≤ wr.heap.size)) (fun _ i _ => n - (intOf i).toNat)
      case atStart => exact ⟨0, [], by omega, rfl, own_nil _ _ _ _, HRW, Lib.hid FamS.nil, Lib.hid (Aps.nil _), HC, Lib.hid hH3'⟩
      case round =>
        clear HRW HC hH3' hd
        obtain ⟨q, vs, hq, rfl, hown, HRW, HF, HA, HC, HH⟩ := hrel
        have x0 := HBK.out wr HC.out
        by_cases hlt : q < n
        case neg =>
          have hd : decide ((q : Int) < (n : Int)) = false := decide_eq_false (by omega)
          obtain ⟨Am, cm, hv, _, _, _, hrm⟩ := own_slice hown
          subst hv
          have HRM : Hid (∀ k, k < n → ∃ (b o gl L : Nat) (a a' : Option Addr) (ca c' : Nat), Am = some ⟨b, o, none⟩ ∧ LA = some ⟨gl, 0, none⟩ ∧ L ≤ 16777216 ∧ wr.cell? ⟨gl, k, none⟩ = some (.slice a L ca) ∧ wr.cell? ⟨b, o + k, none⟩ = some (.slice a' (L + 70) c') ∧ Sl wr a L ca (List.replicate L (mk25 k)) ∧ Sl wr a' (L + 70) c' (List.replicate (L + 70) (mk25 k))) := Lib.hid fun k hk => by
            obtain ⟨F, a, ca, gl, h1, h2, h3, h4, h5, h6⟩ := HEX.out k hk
            obtain ⟨b, o, rfl, hb, hcell⟩ := hrm.2 (by omega)
            obtain ⟨a', c', q1, q2⟩ := HF.out.at_ (more7_at mk25 (show k < q by omega) h2)
            rw [List.length_replicate] at q1 q2
            exact ⟨b, o, gl, F.length, a, a', ca, c', rfl, h3, h1, h6 wr HC.out, hcell _ _ q1, HRW.out.sl_at (HEX4.out k hk _ _ _ h2) (by simp), q2⟩
          have HEND := Lib.hid (hfin.out wr r2 HC.out HRW.out HR2.out.2 HR2.out.1)
          have hqn : q = n := by omega
          have HQN := Lib.hid hqn
          clear hown hrm hqn
          go_wp2_with fail
          clear hd hlt
          go_loop [9] (fun i => ∃ k : Nat, k ≤ n ∧ i = .int .i64 k) (fun i => n - (intOf i).toNat)
          case atStart => exact ⟨0, by omega, rfl⟩
          case round =>
            obtain ⟨k, hk, rfl⟩ := hrel
            by_cases hlt : k < n
            case neg =>
              have hd : decide ((k : Int) < (n : Int)) = false := decide_eq_false (by omega)
              have hd' : decide ((k : Int) < (q : Int)) = false := decide_eq_false (by have := HQN.out; omega)
              go_wp2_with fail
              go_ret
              exact ⟨rfl, HEND.out⟩
            have hd : decide ((k : Int) < (q : Int)) = true := decide_eq_true (by have := HQN.out; omega)
            obtain ⟨b, o, gl, L, a, a', ca, c', rfl, rfl, hL, m1, m2, s1, s2⟩ := HRM.out k hlt
            have P1 := Lib.hid s1
            have P2 := Lib.hid s2
            have MS := Lib.hid (mk25_n k)
            have j1 : (0 : Int) ≤ (k : Int) := by omega
            have j2 : (k : Int) < (n : Int) := by omega
            have j3 : (k : Int) < (q : Int) := by have := HQN.out; omega
            have j4 : k < q := by omega
            clear s1 s2
            go_wp2_with fail
            go_loop [10] (fun i => ∃ t : Nat, t ≤ L + 70 ∧ i = .int .i64 t) (fun i => L + 70 - (intOf i).toNat)
            case atStart => exact ⟨0, by omega, rfl⟩
            case round =>
              obtain ⟨t, ht, rfl⟩ := hrel
              by_cases htl : t < L + 70
              case neg =>
                have hd2 : decide ((t : Int) < (L : Int) + 70) = false := decide_eq_false (by omega)
                go_wp2_with fail
                go_round
                case rel => exact ⟨k + 1, by omega, by go_num⟩
                case measure => simp [intOf]; omega
              have hd2 : decide ((t : Int) < (L : Int) + 70) = true := decide_eq_true (by omega)
              obtain ⟨b2, o2, u2, rfl, _, hu2, hc2⟩ := P2.out.rb.at_ htl
              rw [List.getElem?_replicate, if_pos htl] at hu2
              injection hu2 with hu2
              rw [← hu2, MS.out] at hc2
              have i1 : (0 : Int) ≤ (t : Int) := by omega
              have i2 : (t : Int) < (L : Int) + 70 := by omega
              clear hu2
              by_cases htL : t < L
              case pos =>
                have hd3 : decide ((t : Int) < (L : Int)) = true := decide_eq_true (by omega)
                obtain ⟨b1, o1, u1, rfl, _, hu1, hc1⟩ := P1.out.rb.at_ htL
                rw [List.getElem?_replicate, if_pos htL] at hu1
                injection hu1 with hu1
                rw [← hu1, MS.out] at hc1
                have i3 : (t : Int) < (L : Int) := by omega
                clear hu1
                go_wp2_with fail
                go_round
                case rel => exact ⟨t + 1, by omega, by go_num⟩
                case measure => simp [intOf]; omega
              have hd3 : decide ((t : Int) < (L : Int)) = false := decide_eq_false (by omega)
              go_wp2_with fail
              go_round
              case rel => exact ⟨t + 1, by omega, by go_num⟩
              case measure => simp [intOf]; omega
        have hd : decide ((q : Int) < (n : Int)) = true := decide_eq_true (by omega)
        obtain ⟨F, a, ca, gl, hlf, hsk, rfl, hglt, hoff, hcc⟩ := HEX.out q hlt
        obtain ⟨L, hL⟩ : ∃ L, L = F.length := ⟨_, rfl⟩
        have hrk := HEX4.out q hlt _ _ _ hsk
        have hcell := hcc wr HC.out
        rw [← hL] at hrk hcell hlf
        obtain ⟨m, hm'⟩ : ∃ m, m = mk25 q := ⟨_, rfl⟩
        rw [← hm'] at hrk
        have HRK := Lib.hid hrk
        have HOK := Lib.hid (HRW.out.1 q _ hrk)
        have HIR : Hid (∀ b, a = some b → InR rs b.block) := Lib.hid fun b hb => HL4.out q _ b hrk hb
        have HNE : Hid (a.map (·.block) ≠ some gl) := Lib.hid fun e => by
          cases a with
          | none => cases e
          | some b => injection e with e; exact hoff (e ▸ HIR.out b rfl)
        have HGE : Hid (∀ b, a = some b → B ≤ b.block) := Lib.hid fun b hb => HLB.out q _ b hrk hb
        have HHG : Hid (∀ b, a = some b → b.block < H3) := Lib.hid fun b hb => HL3.out q _ b hrk hb
        obtain ⟨v, hv⟩ : ∃ v, v = u5 := ⟨_, rfl⟩
        rw [← hv] at hown HF ⊢
        have HO := Lib.hid hown
        have HML : Hid (more7 mk25 rs (q + 1) = more7 mk25 rs q ++ [List.replicate L m ++ List.replicate 70 m]) := Lib.hid (by
          rw [more7_succ mk25 hsk, ← hL, hm', List.replicate_append_replicate])
        have HGC : Hid (GC 5 B wr ⟨gl, q, none⟩ (.slice a L ca) a ca (List.replicate L m) wr) := Lib.hid ⟨hcell, HOK.out, World.grownBy.refl _ _⟩
        have HBW2 : Hid (B ≤ wr.heap.size) := Lib.hid (Nat.le_trans hbH HH.out)
        have XM : Hid (u8v m = .int .u8 (1 + (q : Int) % 250)) := Lib.hid (by rw [hm']; exact mk25_v q)
        have HGL : Hid (gl < wr.heap.size) := Lib.hid (Nat.lt_of_lt_of_le hglt HC.out.size)
        have j1 : (0 : Int) ≤ (q : Int) := by omega
        have j2 : (q : Int) < (n : Int) := by omega
        obtain ⟨wo, rfl⟩ : ∃ wo : World, wo = wr := ⟨_, rfl⟩
        clear hv hown hsk hrk hcc hL hm' hglt
        go_wp2_with fail
        go_loopw [7, 8] (fun v i wy => ∃ (j : Nat) (A5 : Option Addr) (c5 : Nat), j ≤ 70 ∧ v = .slice A5 (L + j) c5 ∧ i = .int .i64 j ∧ Hid (OwnB 5 B wy A5 c5 (List.replicate L m ++ List.replicate j m)) ∧ Hid (GC 5 B wo ⟨gl, q, none⟩ (.slice a L ca) a ca (List.replicate L m) wy) ∧ Hid (Blk wo a A5)) (fun _ i _ => 70 - (intOf i).toNat)
        case atStart => exact ⟨0, a, ca, by omega, rfl, rfl, Lib.hid (by rw [List.replicate_zero, List.append_nil]; exact HGC.out.own), HGC, Lib.hid (fun x hx => .inl (by rw [hx]; rfl))⟩
        case round =>
          obtain ⟨j, A5, c5, hj, rfl, rfl, HO5, HG5, HK5⟩ := hrel
          clear hcell x0
          by_cases hj70 : j < 70
          case neg =>
            have hd7 : decide ((j : Int) < 70) = false := decide_eq_false (by omega)
            obtain rfl : j = 70 := by omega
            have HLEN : Hid ((List.replicate L m ++ List.replicate 70 m).length = L + 70) := Lib.hid (by simp)
            go_wp2_with (at_builtin; go_must (refine wpList_append_reads _ rfl (.tmp 75) (.tmp 77) rfl Try.kss3 H3 v q vs rfl ((more_own2 HO.out HG5.out.grown HHG.out).alloc _) (wr.heap.size + 1) (some ⟨wr.heap.size, 0, none⟩) 1 1 [.slice A5 (L + 70) c5] rfl (lit_one8 _ _ _ _ rfl) (by simp [Value.oneCell']) (by unfold maxLen; omega) (by omega) (by have := HH.out; have := HG5.out.grown.size; simp; omega) ?_); intro v8 w8 hown8 hg8 hat8; have HST := Lib.hid (more_step2 HLEN.out HRW.out HRK.out HF.out HA.out HO.out HL3.out HH.out HG5.out.grown HG5.out.own HO5.out HK5.out hg8 hat8); have HO8 := Lib.hid hown8; clear hown8 hg8 hat8)
            have hO8 := HO8.out
            have HC8 := Lib.hid (HC.out.trans3 (HST.out.2.2.2 (fun b => InR rs b ∨ H3 ≤ b) (fun b hb => .inl (HIR.out b hb)) fun b h => .inr h) hwH)
            clear HO8
            go_roundw
            case rel => exact ⟨q + 1, vs ++ [.slice A5 (L + 70) c5], by omega, by go_num, hO8, Lib.hid HST.out.1, Lib.hid (by rw [HML.out]; exact HST.out.2.1), Lib.hid HST.out.2.2.1, HC8, Lib.hid (Nat.le_trans HH.out (HST.out.2.2.2 (fun b => True) (fun _ _ => trivial) fun _ _ => trivial).size)⟩
            case measure => simp [intOf]; omega
          have hd7 : decide ((j : Int) < 70) = true := decide_eq_true (by omega)
          have HSR : Hid (Sl wr a (L + 0) ca (List.replicate L m ++ List.replicate 0 m)) := Lib.hid (by
            have h := Sl.own HG5.out.own
            rw [List.length_replicate] at h
            rw [List.replicate_zero, List.append_nil]
            exact h)
          have hb0 := (Below.refl wr.heap.size wr).alloc (Nat.le_refl _) (.cells #[.int .u8 (1 + (q : Int) % 250)] 5)
          have HB0 := Lib.hid hb0
          clear hb0
          go_wp2_with (at_builtin; go_must (refine wpList_append_cells _ rfl (.tmp 68) (.tmp 73) rfl Try.u8s' B (.slice A5 (L + j) c5) (L + j) (u8s (List.replicate L m ++ List.replicate j m)) rfl (own_len (HO5.out.later HB0.out) (by simp)) (wr.heap.size + 1) (some ⟨wr.heap.size, 0, none⟩) 1 1 (u8s (List.replicate 1 m)) rfl (by exact reads_lit wr _ [m] _ _ (by show _ = [u8v m]; rw [XM.out])) (u8s_one _) (by unfold maxLen; omega) (by omega) (by have := HBW2.out; have := HG5.out.grown.size; simp; omega) ?_); intro v7 w7 hown7 hg7 hat7 hold7 hcell7; obtain ⟨A7, c7, rfl, _⟩ := own_slice hown7; have HST := Lib.hid (grow_step (HG5.out.call HB0.out) (HO5.out.later HB0.out) HK5.out (HSR.out.later HB0.out) (own_off HG5.out.own) (HSR.out.later HB0.out) (own_off HG5.out.own) HNE.out HGL.out hown7 hg7 hat7 hold7 hcell7); clear hown7 hg7 hat7 hold7 hcell7)
          go_roundw
          case rel => exact ⟨j + 1, A7, c7, by omega, rfl, by go_num, Lib.hid HST.out.1, Lib.hid HST.out.2.1, Lib.hid HST.out.2.2.1⟩
          case measure => simp [intOf]; omega
    have hd : decide ((k : Int) < (n : Int)) = true := decide_eq_true (by omega)
    obtain ⟨F, a, ca, gl, hlf, hsk, rfl, hglt, hoff, hcc⟩ := HEX.out k hlt
    obtain ⟨LF, hLF⟩ : ∃ L, L = F.length := ⟨_, rfl⟩
    rw [← hLF] at hcc hlf
    have XLF := Lib.hid hLF
    have HMV := Lib.hid (mk25_v k)
    have HSK := Lib.hid hsk
    have HCC := Lib.hid hcc
    have HGB : Hid (∀ b, a = some b → B ≤ b.block ∧ InR rs b.block) := Lib.hid fun b hb => ⟨(HLT.out k _ b hsk hb).1, ⟨k, _, b, hsk, hb, rfl⟩⟩
    have hcell := hcc wr HC.out
    clear hsk hLF hcc
    go_wp2_with fail
    go_loopw [4] (fun q wr => ∃ j : Nat, j ≤ LF ∧ q = .int .i64 j ∧ Hid (RowsB 5 B wr ((fillR mk25 rs k).set k (a, ca, fillTo F (mk25 k) j))) ∧ Hid (Chg (InR rs) wa wr)) (fun q _ => LF - (intOf q).toNat)
    case atStart => exact ⟨0, by omega, rfl, Lib.hid (by rw [fillR_start HSK.out]; exact HRW.out), HC⟩
    case round =>
      obtain ⟨j, hj, rfl, HRJ, HCJ⟩ := hrel
      have hcell2 := HCC.out wr HCJ.out
      have x1 := HBK.out wr HCJ.out
      clear hcell x0
      by_cases hjl : j < LF
      case neg =>
        obtain rfl : j = LF := by omega
        have HDONE : Hid (RowsB 5 B wr (fillR mk25 rs (k + 1))) := Lib.hid (by
          have h := HRJ.out
          rw [XLF.out, fillR_done HSK.out] at h
          exact h)
        have hd2 : decide ((j : Int) < (j : Int)) = false := decide_eq_false (by omega)
        go_wp2_with fail
        go_roundw
        case rel => exact ⟨k + 1, by omega, by go_num, HDONE, HCJ⟩
        case measure => simp [intOf]; omega
      have hd2 : decide ((j : Int) < (LF : Int)) = true := decide_eq_true (by omega)
      have hjF : j < F.length := by rw [← XLF.out]; exact hjl
      obtain ⟨gk, rfl, hgk1, hgk2⟩ := HRJ.out.form (i := k) (l := fillTo F (mk25 k) j) (by rw [List.getElem?_set, if_pos rfl, if_pos (by rw [fillR_len]; exact (List.getElem?_eq_some_iff.1 HSK.out).1)]) (by rw [fillTo_len _ (by omega)]; omega)
      have HG3 : Hid (B ≤ gk ∧ InR rs gk) := Lib.hid (HGB.out _ rfl)
      obtain ⟨u, hu⟩ : ∃ u, (fillTo F (mk25 k) j)[j]? = some u := ⟨_, List.getElem?_eq_getElem (by rw [fillTo_len _ (by omega)]; exact hjF)⟩
      obtain ⟨hcu, hfu⟩ := HRJ.out.cell (i := k) (g := gk) (c := ca) (by rw [List.getElem?_set, if_pos rfl, if_pos (by rw [fillR_len]; exact (List.getElem?_eq_some_iff.1 HSK.out).1)]) hu
      have hst := HRJ.out.fill HSK.out hjF
      rw [HMV.out] at hst
      have HST := Lib.hid hst
      clear hst hu hjF hgk1 hgk2
      go_wp2_with fail
      go_roundw
      case rel => exact ⟨j + 1, by omega, by go_num, Lib.hid HST.out.1, Lib.hid (HCJ.out.trans (HST.out.2.mono fun b _ e => by rw [e]; exact HG3.out.2))⟩
      case measure => simp [intOf]; omega

set_option maxRecDepth 100000 in
set_option maxHeartbeats 4000000 in
theorem settled_ow (g : Nat) (lv wv : Value) (rs cs : RowL) (os : List Ob) (w x : World) (h : OW w (bookO g lv wv (markR rs) cs ++ os) x) (hm : rs.length ≤ 1000000) (hb : ∀ (i : Nat) r, rs[i]? = some r → r.2.2.length ≤ 16777216) :
    Calls Try.prog 45 #[.pointer (some ⟨g, 0, none⟩)] x fun e y => e = .returned (.bool true) ∧ x = y := by
  obtain ⟨n, hn⟩ : ∃ n, n = rs.length := ⟨_, rfl⟩
  have hml : (markR rs).length = n := (fillR_len _ _ _).trans hn.symm
  have hol := h.row (i := 1) rfl
  have hbx := h.cell (i := 0) (j := 0) rfl rfl
  rw [hml] at hol
  obtain ⟨LA, lc, rfl, _, _, _, hrl⟩ := own_slice hol
  have HEX : Hid (∀ k, k < n → ∃ (L : Nat) (a : Option Addr) (ca b o : Nat), L ≤ 16777216 ∧ LA = some ⟨b, o, none⟩ ∧ x.cell? ⟨b, o + k, none⟩ = some (.slice a L ca) ∧ Sl x a L ca (List.replicate L (mk25 k))) := Lib.hid fun k hk => by
    obtain ⟨⟨a, ca, F⟩, hrk⟩ : ∃ r, rs[k]? = some r := ⟨_, List.getElem?_eq_getElem (by rw [← hn]; exact hk)⟩
    have hmk : (markR rs)[k]? = some (a, ca, List.replicate F.length (mk25 k)) := by
      unfold markR
      rw [fillR_get, hrk, ← hn]; simp [hk]
    obtain ⟨b, o, rfl, hb', hc⟩ := hrl.2 (by omega)
    exact ⟨F.length, a, ca, b, o, hb _ _ hrk, rfl, hc k _ (by rw [List.getElem?_map, hmk]; simp [valR]), (book_rows h).1.sl_at hmk (by simp)⟩
  rw [← hn] at hm
  clear h hol hrl hml hn hb
  go_enter Try.func45, Try.ntmps45
  go_wp2_with fail
  go_loop [3] (fun i => ∃ k : Nat, k ≤ n ∧ i = .int .i64 k) (fun i => n - (intOf i).toNat)
  case atStart => exact ⟨0, by omega, rfl⟩
  case round =>
    obtain ⟨k, hk, rfl⟩ := hrel
    by_cases hlt : k < n
    case neg =>
      have hd : decide ((k : Int) < (n : Int)) = false := decide_eq_false (by omega)
      go_wp2_with fail
      go_ret
      exact ⟨rfl, rfl⟩
    have hd : decide ((k : Int) < (n : Int)) = true := decide_eq_true (by omega)
    obtain ⟨L, a, ca, b, o, hL, rfl, hc, hsl⟩ := HEX.out k hlt
    have P1 := Lib.hid hsl
    have MS := Lib.hid (mk25_n k)
    have j1 : (0 : Int) ≤ (k : Int) := by omega
    have j2 : (k : Int) < (n : Int) := by omega
    clear hsl
    go_wp2_with fail
    go_loop [4] (fun i => ∃ t : Nat, t ≤ L ∧ i = .int .i64 t) (fun i => L - (intOf i).toNat)
    case atStart => exact ⟨0, by omega, rfl⟩
    case round =>
      obtain ⟨t, ht, rfl⟩ := hrel
      by_cases htl : t < L
      case neg =>
        have hd2 : decide ((t : Int) < (L : Int)) = false := decide_eq_false (by omega)
        go_wp2_with fail
        go_round
        case rel => exact ⟨k + 1, by omega, by go_num⟩
        case measure => simp [intOf]; omega
      have hd2 : decide ((t : Int) < (L : Int)) = true := decide_eq_true (by omega)
      obtain ⟨b1, o1, u1, rfl, _, hu1, hc1⟩ := P1.out.rb.at_ htl
      rw [List.getElem?_replicate, if_pos htl] at hu1
      injection hu1 with hu1
      rw [← hu1, MS.out] at hc1
      have i1 : (0 : Int) ≤ (t : Int) := by omega
      have i2 : (t : Int) < (L : Int) := by omega
      clear hu1
      go_wp2_with fail
      go_round
      case rel => exact ⟨t + 1, by omega, by go_num⟩
      case measure => simp [intOf]; omega
end Go.Proofs.Ytcikhlieaoanoaa

/-
  A Kept by what it holds: over what the call owns.
-/
namespace Go.Proofs.Ytcikhlieaoanoaa
open Go.RowKit

section
variable {w x y : World} {ps os us : List Ob} {o : Ob}
/-- New things are put ahead of the rest. -/
theorem OW.addF (h : OW w (ps ++ os) x) (k : OW x us y) : OW w (ps ++ (us ++ os)) y := by
  refine (h.app k).perm ?_
  rw [List.append_assoc]
  exact List.Perm.append_left ps List.perm_append_comm
theorem OW.addNil {T : TypeId} (h : OW w os x) : OW w (rowO T 1 (.slice none 0 0) 0 [] :: os) x :=
  ⟨h.up, fun p hp => by
    rcases List.mem_cons.1 hp with rfl | hp
    · exact ⟨(fun e => nomatch e), fun _ => own_nil _ _ _ _⟩
    · exact h.ob p hp, List.pairwise_cons.2 ⟨(fun p _ b hb => nomatch hb), h.ne⟩⟩
end
/-- The Kept at g holds the byte strings KS; ms are among its rows; os lie beside it. -/
def KB (w x : World) (g : Nat) (KS : List (List UInt8)) (ms : RowL) (os : List Ob) : Prop :=
  ∃ lv wv rs cs, OW w (bookO g lv wv rs cs ++ os) x ∧ rs.map (·.2.2) = KS ∧ cs.map (·.2.2) = KS ∧ ∀ r, r ∈ ms → r ∈ rs
section
variable {w x y : World} {g i n c m : Nat} {KS : List (List UInt8)} {ms : RowL} {os us : List Ob} {A : Option Addr} {l : List UInt8}
theorem KB.up (h : KB w x g KS ms os) : Below w.heap.size w x := by obtain ⟨lv, wv, rs, cs, h, _⟩ := h; exact h.up
theorem KB.later (h : KB w x g KS ms os) (k : Below x.heap.size x y) : KB w y g KS ms os := by
  obtain ⟨lv, wv, rs, cs, h, r⟩ := h; exact ⟨lv, wv, rs, cs, h.later k, r⟩
theorem KB.add (h : KB w x g KS ms os) (k : OW x us y) : KB w y g KS ms (us ++ os) := by
  obtain ⟨lv, wv, rs, cs, h, r⟩ := h; exact ⟨lv, wv, rs, cs, h.addF k, r⟩
theorem KB.fresh (h : KB w x g KS ms os) (k : Below x.heap.size x y) (ho : OwnB 5 x.heap.size y A c l) : KB w y g KS ms (bytO 5 (A, c, l) :: os) := h.add (OW.byt1 k ho)
theorem KB.rows (h : KB w x g KS ms os) (k : Below x.heap.size x y) {rs : RowL} (hr : RowsB 5 x.heap.size y rs) : KB w y g KS ms (rs.map (bytO 5) ++ os) := h.add (OW.rows1 k hr)
theorem KB.sub (h : KB w x g KS ms os) (hs : us.Sublist os) : KB w x g KS ms us := by
  obtain ⟨lv, wv, rs, cs, h, r⟩ := h; exact ⟨lv, wv, rs, cs, h.sub ((List.Sublist.refl _).append hs), r⟩
theorem KB.drop (h : KB w x g KS ms (us ++ os)) : KB w x g KS ms os := h.sub (List.sublist_append_right _ _)
theorem KB.forget (h : KB w x g KS ms os) : KB w x g KS [] os := by
  obtain ⟨lv, wv, rs, cs, h, h1, h2, _⟩ := h; exact ⟨lv, wv, rs, cs, h, h1, h2, fun r hr => by cases hr⟩
theorem KB.rest (h : KB w x g KS ms os) : OW w os x := by
  obtain ⟨lv, wv, rs, cs, h, _⟩ := h; exact h.right
theorem KB.get (h : KB w x g KS ms os) (hi : os[i]? = some (bytO 5 (A, c, l))) (hn : l.length = n) : Sl x A n c l := h.rest.sl hi hn
theorem KB.kept (h : KB w x g KS ms os) (hi : ms[i]? = some (A, c, l)) (hn : l.length = n) : Sl x A n c l := by
  obtain ⟨lv, wv, rs, cs, h, _, _, h3⟩ := h
  exact h.slm (T := 5) (by
    have := h3 _ (List.mem_of_getElem? hi)
    simp only [bookO, List.cons_append, List.mem_cons, List.mem_append, List.mem_map]
    exact .inr (.inr (.inr (.inl (.inl ⟨_, this, rfl⟩))))) hn
theorem KB.len {B : Nat} (h : KB w x g KS ms os) (hk : KS.length ≤ B) : ∃ lv wv rs cs, OW w (bookO g lv wv rs cs ++ os) x ∧ rs.map (·.2.2) = KS ∧ cs.map (·.2.2) = KS ∧ (∀ r, r ∈ ms → r ∈ rs) ∧ rs.length ≤ B ∧ cs.length ≤ B := by
  obtain ⟨lv, wv, rs, cs, h, h1, h2, h3⟩ := h
  exact ⟨lv, wv, rs, cs, h, h1, h2, h3, by rw [← h1] at hk; simpa using hk, by rw [← h2] at hk; simpa using hk⟩
theorem map_snoc {rs : RowL} {r : Option Addr × Nat × List UInt8} (h : rs.map (·.2.2) = KS) : (rs ++ [r]).map (·.2.2) = KS ++ [r.2.2] := by rw [List.map_append, h]; rfl
theorem keep_kb (h : KB w x g KS ms os) (hi : os[i]? = some (bytO 5 (A, c, l))) (hl : l.length = m) (hm : m ≤ 140737488355000) (hk : KS.length ≤ 1000000) :
    Calls Try.prog 42 #[.pointer (some ⟨g, 0, none⟩), .slice A m c] x fun e y => e = .returned (.tuple #[]) ∧ KB w y g (KS ++ [l]) (ms ++ [(A, c, l)]) (os.eraseIdx i) := by
  obtain ⟨lv, wv, rs, cs, h, h1, h2, h3, h4, h5⟩ := h.len hk
  refine (keep_book g lv wv rs cs os i A m c l w x h hi hl hm h4 h5).mono ?_
  rintro e y ⟨he, lv', wv', A', c', hz⟩
  exact ⟨he, lv', wv', _, _, hz, map_snoc h1, map_snoc h2, fun r hr => by
    rcases List.mem_append.1 hr with hr | hr
    · exact List.mem_append_left _ (h3 r hr)
    · exact List.mem_append_right _ hr⟩
theorem entry_kb {B D : Option Addr} {d q v : Nat} {l2 l3 : List UInt8} (fam ts seq kind : Int) (h : KB w x g KS ms os) (h1 : os[i]? = some (bytO 5 (A, c, l))) (h2 : os[i + 1]? = some (bytO 5 (B, d, l2))) (h3 : os[i + 2]? = some (bytO 5 (D, q, l3)))
    (hl : l.length = n ∧ l2.length = m ∧ l3.length = v) (hb : n ≤ 140737488355000 ∧ m ≤ 140737488355000 ∧ v ≤ 140737488355000) (hk : KS.length ≤ 900000) :
    Calls Try.prog 43 #[.pointer (some ⟨g, 0, none⟩), .agg #[.slice A n c, .int .i64 fam, .slice B m d, .int .i64 ts, .int .i64 seq, .int .i64 kind, .slice D v q]] x fun e y => e = .returned (.tuple #[]) ∧ KB w y g (KS ++ [l, l2, l3]) ms (((os.eraseIdx i).eraseIdx i).eraseIdx i) := by
  obtain ⟨lv, wv, rs, cs, h, e1, e2, e3, e4, e5⟩ := h.len hk
  refine (entry_book g lv wv rs cs os i A n c B m d D v q l l2 l3 fam ts seq kind w x h h1 h2 h3 hl hb e4 e5).mono ?_
  rintro e y ⟨he, lv', wv', A1, c1, A2, c2, A3, c3, hz⟩
  exact ⟨he, lv', wv', _, _, hz, by rw [List.map_append, e1]; rfl, by rw [List.map_append, e2]; rfl, fun r hr => List.mem_append_left _ (e3 r hr)⟩
theorem untouched_kb (h : KB w x g KS ms os) (hk : KS.length ≤ 1000000) :
    Calls Try.prog 44 #[.pointer (some ⟨g, 0, none⟩)] x fun e y => e = .returned (.bool true) ∧ Below x.heap.size x y := by
  obtain ⟨lv, wv, rs, cs, h, h1, h2, h3, h4, h5⟩ := h.len hk
  exact untouched_ow g lv wv rs cs os w x h (h2.trans h1.symm) h4
theorem settle_kb (h : KB w x g KS ms os) (hk : KS.length ≤ 1000000) (hb : ∀ l, l ∈ KS → l.length ≤ 16777216) :
    Calls Try.prog 41 #[.pointer (some ⟨g, 0, none⟩)] x fun e y => e = .returned (.bool true) ∧ ∃ lv wv rs cs, OW w (bookO g lv wv (markR rs) cs ++ os) y ∧ rs.map (·.2.2) = KS ∧ cs.map (·.2.2) = KS := by
  obtain ⟨lv, wv, rs, cs, h, h1, h2, h3, h4, h5⟩ := h.len hk
  refine (settle_ow g lv wv rs cs os w x h (h2.trans h1.symm) h4 fun i r hr => hb _ ?_).mono ?_
  · rw [← h1]; exact List.mem_map_of_mem (List.mem_of_getElem? hr)
  · rintro e y ⟨he, hz⟩
    exact ⟨he, lv, wv, rs, cs, hz, h1, h2⟩
theorem settled_kb {lv wv : Value} {rs cs : RowL} (h : OW w (bookO g lv wv (markR rs) cs ++ os) x) (hr : rs.map (·.2.2) = KS) (hk : KS.length ≤ 1000000) (hb : ∀ l, l ∈ KS → l.length ≤ 16777216) :
    Calls Try.prog 45 #[.pointer (some ⟨g, 0, none⟩)] x fun e y => e = .returned (.bool true) ∧ x = y :=
  settled_ow g lv wv rs cs os w x h (by rw [← hr] at hk; simpa using hk) fun i r hi => hb _ (by rw [← hr]; exact List.mem_map_of_mem (List.mem_of_getElem? hi))
/-- A list of slices, as it reads from a world on. -/
def Lst (x : World) (p : Addr) (n c : Nat) (A : Option Addr) (KS : List (List UInt8)) : Prop :=
  n = KS.length ∧ ∀ y, Below x.heap.size x y → y.cell? p = some (.slice A n c) ∧ ∀ (j : Nat) l, KS[j]? = some l → ∃ b o a d, A = some ⟨b, o, none⟩ ∧ y.cell? ⟨b, o + j, none⟩ = some (.slice a l.length d) ∧ Sl y a l.length d l
theorem Lst.later {p : Addr} (h : Lst x p n c A KS) (k : Below x.heap.size x y) : Lst y p n c A KS := ⟨h.1, fun z hz => h.2 z (k.trans (hz.mono k.size))⟩
theorem lst_of {v : Value} {rs : RowL} {p : Addr} {vs : List Value} {k : Nat} (hp : ∀ y, Below x.heap.size x y → y.cell? p = some v) (hr : x.ownsRow w.heap.size 22 1 v k vs) (hk : k = rs.length) (hv : vs = rs.map valR) (hrs : RowsB 5 w.heap.size x rs) (hc : rs.map (·.2.2) = KS) : ∃ A n c, v = .slice A n c ∧ Lst x p n c A KS := by
  subst hk; subst hv
  obtain ⟨A, c, rfl, _, _, _, hrd⟩ := own_slice hr
  refine ⟨A, rs.length, c, rfl, by rw [← hc]; simp, fun y hy => ⟨hp y hy, fun j l hj => ?_⟩⟩
  obtain ⟨a, d, hrj⟩ := cont_one10 hc hj
  have hlt := (List.getElem?_eq_some_iff.1 hrj).1
  obtain ⟨b, o, rfl, hb, hcell⟩ := hrd.2 (by omega)
  exact ⟨b, o, a, d, rfl, (hy.cell (p := ⟨b, o + j, none⟩) hb).trans (hcell j _ (by rw [List.getElem?_map, hrj]; rfl)), (hrs.sl hrj).later hy⟩
theorem book_lst {lv wv : Value} {rs cs : RowL} {K1 K2 : List (List UInt8)} (h : OW w (bookO g lv wv rs cs ++ os) x) (h1 : rs.map (·.2.2) = K1) (h2 : cs.map (·.2.2) = K2) : (∃ A n c, lv = .slice A n c ∧ Lst x ⟨g, 0, none⟩ n c A K1) ∧ ∃ A n c, wv = .slice A n c ∧ Lst x ⟨g, 1, none⟩ n c A K2 :=
  ⟨lst_of (fun _ hy => (h.later hy).cell (i := 0) (j := 0) rfl rfl) (h.row (i := 1) rfl) rfl rfl (book_rows h).1 h1, lst_of (fun _ hy => (h.later hy).cell (i := 0) (j := 1) rfl rfl) (h.row (i := 2) rfl) rfl rfl (book_rows h).2 h2⟩
theorem KB.lsts (h : KB w x g KS ms os) : (∃ A n c, Lst x ⟨g, 0, none⟩ n c A KS) ∧ ∃ A n c, Lst x ⟨g, 1, none⟩ n c A KS := by
  obtain ⟨lv, wv, rs, cs, h, h1, h2, _⟩ := h
  obtain ⟨⟨A, n, c, _, k1⟩, A', n', c', _, k2⟩ := book_lst h h1 h2
  exact ⟨⟨A, n, c, k1⟩, A', n', c', k2⟩
/-- A new one. -/
theorem KB.new (h : OW w (os ++ [boxO g [.slice none 0 0, .slice none 0 0]]) y) : KB w y g [] [] os := by
  refine ⟨.slice none 0 0, .slice none 0 0, [], [], ?_, rfl, rfl, fun r hr => by cases hr⟩
  have h2 : OW w (rowO 22 1 (.slice none 0 0) 0 [] :: rowO 22 1 (.slice none 0 0) 0 [] :: boxO g [.slice none 0 0, .slice none 0 0] :: os) y := OW.addNil (OW.addNil (h.perm List.perm_append_comm))
  refine h2.perm ?_
  show (_ :: _ :: _ :: os).Perm (boxO g _ :: rowO 22 1 _ 0 [] :: rowO 22 1 _ 0 [] :: os)
  exact (List.Perm.cons _ (List.Perm.swap _ _ _)).trans (List.Perm.swap _ _ _)
/-- A Kept was settled; a new one comes in its place. -/
theorem KB.next {g2 : Nat} {P : List Ob} (h : OW w (P ++ (boxO g2 [.slice none 0 0, .slice none 0 0] :: os)) y) : KB w y g2 [] [] (os ++ P) := by
  refine KB.new (h.perm ?_)
  refine List.perm_middle.trans ?_
  refine (List.Perm.cons _ List.perm_append_comm).trans ?_
  have := (List.perm_append_comm : ((os ++ P) ++ [boxO g2 [.slice none 0 0, .slice none 0 0]]).Perm _).symm
  simpa using this
theorem KB.put {b : Nat} {vs : List Value} {cs0 : List Value} (h : KB w x g KS ms os) (hi : os[i]? = some (boxO b cs0)) (hl : vs.length = cs0.length) : KB w (x.setCells b 0 vs) g KS ms (os.set i (boxO b vs)) ∧ x.rangeAt b 0 cs0 ∧ ∀ j, x.frozen? ⟨b, j, none⟩ = false := by
  obtain ⟨lv, wv, rs, cs, h, r⟩ := h
  have hi' : (bookO g lv wv rs cs ++ os)[(bookO g lv wv rs cs).length + i]? = some (boxO b cs0) := by
    rw [List.getElem?_append_right (Nat.le_add_right _ _), Nat.add_sub_cancel_left]; exact hi
  have h1 := h.put hi' hl
  rw [List.set_append_right _ _ (Nat.le_add_right _ _), Nat.add_sub_cancel_left] at h1
  exact ⟨⟨lv, wv, rs, cs, h1, r⟩, h.range hi', h.fz hi'⟩
end
section
variable {P : Program} {ops : Array Oper} {Q : Exit → Act → World → Prop} {rest : List Oper} {o : Oper} {a : Act} {w x : World} {os : List Ob} {g : Nat} {KS : List (List UInt8)} {ms : RowL}
theorem wk_put {t : TypeId} (hgd : Region.wanted o (yielded ops a.tmps) = true) (p y : Operand) (ho : o.op = .store t p y) (h : KB w x g KS ms os) (i : Nat) {b : Nat} {cs : List Value} (hi : os[i]? = some (boxO b cs)) (hx : a.eval p = .pointer (some ⟨b, 0, none⟩)) (vs : List Value) (hy : a.eval y = .agg vs.toArray) (hl : vs.length = cs.length) (ht : (P.info? t).map (·.size) = some vs.length) (h1 : ∀ u ∈ vs, u.oneCell' = true)
    (hK : ∀ z, KB w z g KS ms (os.set i (boxO b vs)) → wpList P ops Q rest (a.put o.dst undef) z) : wpList P ops Q (o :: rest) a x :=
  BigFrame.wpList_want hgd fun _ hk => wp_store_row ho hx hy (h.put hi hl).2.1 (h.put hi hl).2.2 hl ht h1 (hk _ _ (hK _ (h.put hi hl).1))
theorem wpList_load_rowO (hgd : Region.wanted o (yielded ops a.tmps) = true) (ty : TypeId) (p : Operand) (ho : o.op = .load ty p) {b k : Nat} {cs : List Value} (hx : a.eval p = .pointer (some ⟨b, k, none⟩)) (hr : x.rangeAt b k cs) (ht : RowTy P ty cs.length)
    (hK : wpList P ops Q rest (a.put o.dst (.agg cs.toArray)) x) : wpList P ops Q (o :: rest) a x := by
  obtain ⟨⟨d, hu, hd⟩, hi⟩ := ht
  exact BigFrame.wpList_want hgd fun _ hk => wp_load_mid ty p ho b k hx cs d hr hu hd hi (hk _ _ hK)
end
theorem own_rangeAt {x : World} {B g off n c sz : Nat} {T : TypeId} {cs vs : List Value} (h : x.ownsRow B T sz (.slice (some ⟨g, 0, none⟩) n c) n cs) (hs : ∀ (j : Nat) v, vs[j]? = some v → cs[off + j]? = some v) : x.rangeAt g off vs := fun j v hv => by
  have h1 := hs j v hv
  rw [World.ownsRow.cellAt h (off + j) (by have := (List.getElem?_eq_some_iff.1 h1).1; have := h.1; omega)]
  exact h1
theorem settled_kb2 {w x : World} {g : Nat} {lv wv : Value} {rs cs : RowL} {KS : List (List UInt8)} (h : OW w (bookO g lv wv (markR rs) cs) x) (hr : rs.map (·.2.2) = KS) (hk : KS.length ≤ 1000000) (hb : ∀ l, l ∈ KS → l.length ≤ 16777216) :
    Calls Try.prog 45 #[.pointer (some ⟨g, 0, none⟩)] x fun e y => e = .returned (.bool true) ∧ x = y :=
  settled_kb (os := []) (by rw [List.append_nil]; exact h) hr hk hb
end Go.Proofs.Ytcikhlieaoanoaa
