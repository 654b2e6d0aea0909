/-
  Laid together by merge.py: CellL16, Kit23, CellL18, CellL17, Law4, CellLaw2.
-/
import Derived.Test.YtcikhlieaoanoaaCm5
import Derived.Deep.DeepCutAuto

/-
  The law's Turned, walked. (Printed by gen_turned.py.)
-/
namespace Go.Proofs.Ytcikhlieaoanoaa
open Go.RowKit

/-- A row's bytes are others. -/
theorem St.putRow {T : TypeId} {w x y : World} {bs : List Bx1} {rs : RowL} {i c : Nat} {A : Option Addr} {l l' : List UInt8} (h : St T w bs rs x) (hr : rs[i]? = some (A, c, l)) (ho : OwnB T w.heap.size y A c l') (hc : Chg (fun b => A.map (·.block) = some b) x y) : St T w bs (rs.set i (A, c, l')) y := by
  have hS : ∀ b, A.map (·.block) = some b → ∃ a, A = some a ∧ a.block = b := fun b e => by
    cases A with
    | none => cases e
    | some a => injection e with e; exact ⟨a, rfl, e⟩
  have hlt := (List.getElem?_eq_some_iff.1 hr).1
  have hget : ∀ (j : Nat) r, (rs.set i (A, c, l'))[j]? = some r → (j = i ∧ r = (A, c, l')) ∨ (j ≠ i ∧ rs[j]? = some r) := fun j r hj => by
    rw [List.getElem?_set] at hj
    by_cases e : i = j
    · subst e; rw [if_pos rfl, if_pos hlt] at hj; injection hj with hj; exact .inl ⟨rfl, hj.symm⟩
    · rw [if_neg e] at hj; exact .inr ⟨fun h => e h.symm, hj⟩
  have hub : ∀ b, A.map (·.block) = some b → w.heap.size ≤ b := fun b e => by
    obtain ⟨a, ha, rfl⟩ := hS b e
    exact ((h.rows.1 i _ hr).lt ha).1
  have hbx : ∀ (q : Nat) g cs, bs[q]? = some (some (g, cs)) → ¬ A.map (·.block) = some g := fun q g cs hb e => by
    obtain ⟨a, ha, e'⟩ := hS g e
    exact h.off q i g cs _ a hb hr ha e'
  have h1 : St T w bs [] x := ⟨h.up, h.box, h.ne, RowsB.nil, fun _ _ _ _ _ _ _ h2 => by simp at h2⟩
  have h2 := h1.chg hc hub hbx (fun _ _ h3 => by simp at h3)
  refine ⟨h2.up, h2.box, h2.ne, ⟨fun j r hj => ?_, fun j q r s hj hq hne a b ha hb => ?_⟩, fun j q g cs r a hj hq ha => ?_⟩
  · rcases hget j r hj with ⟨rfl, rfl⟩ | ⟨hji, hj⟩
    · exact ho
    · refine own_chg (h.rows.1 j r hj) hc fun b hb e => ?_
      obtain ⟨a, ha, e'⟩ := hS b e
      obtain ⟨A2, c2, l2⟩ := r
      cases A2 with
      | none => cases hb
      | some a2 =>
        injection hb with hb
        exact h.rows.2 j i _ _ hj hr hji a2 a rfl ha (hb.trans e'.symm)
  · rcases hget j r hj with ⟨rfl, rfl⟩ | ⟨hji, hj1⟩ <;> rcases hget q s hq with ⟨rfl, rfl⟩ | ⟨hqi, hq1⟩
    · exact absurd rfl hne
    · exact h.rows.2 j q _ _ hr hq1 hne a b ha hb
    · exact h.rows.2 j q _ _ hj1 hr hne a b ha hb
    · exact h.rows.2 j q _ _ hj1 hq1 hne a b ha hb
  · rcases hget q r hq with ⟨rfl, rfl⟩ | ⟨hqi, hq1⟩
    · exact h.off j q g cs _ a hj hr ha
    · exact h.off j q g cs _ a hj hq1 ha
theorem results_boxL {P : Program} {fn : Func} {p : Tmp} {ty : TypeId} (h : fn.results = #[.cell p ty]) (tmps : Array Value) (w : World) (g : Nat) (cs : List Value)
    (hp : tmps.getD p undef = .pointer (some ⟨g, 0, none⟩)) (hc : w.rangeAt g 0 cs)
    (ha : (P.underlying ty).map (fun d => match d with | .struct _ | .array _ _ => true | _ => false) = some true) (hi : (P.info? ty).map (·.size) = some cs.toArray.size) :
    (results fn tmps).run P w = .ok (.agg cs.toArray) w :=
  results_box0 h tmps w g cs.toArray hp (fun j v hv => by have := hc j v (by simpa using hv); rwa [Nat.zero_add] at this) ha hi
theorem turn_zero : (Try.prog.info? 27).map (·.size) = some 7 := ent_size
/-- What Turned leaves: the entry's and the buffer's bytes, as long as they were. -/
def TurnPost (w : World) (bs : List Bx1) (rs : RowL) (L : List UInt8) (e : Ent) (A0 : Option Addr) (c0 : Nat) (A : Option Addr) (n c : Nat) (B : Option Addr) (m d : Nat) (D : Option Addr) (v q : Nat) (r : Ending) (y : World) : Prop :=
  ∃ L' e', r = .returned (.agg (entL A n c B m d D v q e').toArray) ∧ L'.length = L.length ∧ e'.row.length = e.row.length ∧ e'.qual.length = e.qual.length ∧ e'.val.length = e.val.length ∧
    St 5 w bs ((A0, c0, L' ++ mkL 70) :: (A, c, e'.row ++ mkL 70) :: (B, d, e'.qual ++ mkL 70) :: (D, q, e'.val ++ mkL 70) :: rs) y
theorem bset0 (bs : List Bx1) (a b c z : Bx1) : (bs ++ [a] ++ [b] ++ [c]).set (bs.length + 0) z = bs ++ [z] ++ [b] ++ [c] := by simp
theorem bset2 (bs : List Bx1) (a b c z : Bx1) : (bs ++ [a] ++ [b] ++ [c]).set (bs.length + 2) z = bs ++ [a] ++ [b] ++ [z] := by
  rw [List.append_assoc, List.append_assoc, List.set_append_right _ _ (by omega), show bs.length + 2 - bs.length = 2 from by omega]; simp
theorem int_size : (Try.prog.info? 3).map (·.size) = some 1 := by kernel_rfl
set_option maxRecDepth 100000 in
set_option maxHeartbeats 2000000 in
theorem turned_0 (w : World) (bs : List Bx1) (rs : RowL) (L : List UInt8) (e : Ent) (A0 : Option Addr) (n0 c0 : Nat) (A : Option Addr) (n c : Nat) (B : Option Addr) (m d : Nat) (D : Option Addr) (v q : Nat) (ta tb : Int) (x : World) (hst : St 5 w bs ((A0, c0, L ++ mkL 70) :: (A, c, e.row ++ mkL 70) :: (B, d, e.qual ++ mkL 70) :: (D, q, e.val ++ mkL 70) :: rs) x)
    (hl : L.length = n0 ∧ e.row.length = n ∧ e.qual.length = m ∧ e.val.length = v ∧ n0 ≤ 5000 ∧ n ≤ 5000 ∧ m ≤ 5000 ∧ v ≤ 5000) :
    Calls Try.prog 40 #[.agg (entL A n c B m d D v q e).toArray, .slice A0 n0 c0, .agg #[.int .i64 0, .int .i64 ta, .int .i64 tb]] x (TurnPost w bs rs L e A0 c0 A n c B m d D v q) := by
  have HL := Lib.hid hl
  have bx_at : ∀ {a b c : Bx1} (i : Nat) {z : Bx1}, [a, b, c][i]? = some z → (bs ++ [a] ++ [b] ++ [c])[bs.length + i]? = some z := fun {_ _ _} i {_} h => by
    rw [List.append_assoc, List.append_assoc, List.getElem?_append_right (by omega), show bs.length + i - bs.length = i from by omega]; exact h
  have HX : Hid (St 5 w (bs ++ [some (x.heap.size, entL A n c B m d D v q e)] ++ [some (x.heap.size + 1, [.int .i64 (0), .int .i64 ta, .int .i64 tb])] ++ [some (x.heap.size + 1 + 1, zeroL)]) ((A0, c0, L ++ mkL 70) :: (A, c, e.row ++ mkL 70) :: (B, d, e.qual ++ mkL 70) :: (D, q, e.val ++ mkL 70) :: rs) (((x.alloc (.cells (entL A n c B m d D v q e).toArray 27)).alloc (.cells ([.int .i64 (0), .int .i64 ta, .int .i64 tb] : List Value).toArray 62)).alloc (.cells zeroL.toArray 27))) := Lib.hid (by
    have h := ((hst.push (t := 27) (entL A n c B m d D v q e)).push (t := 62) [.int .i64 (0), .int .i64 ta, .int .i64 tb]).push (t := 27) zeroL
    have e1 : ∀ (x : World) o, (x.alloc o).heap.size = x.heap.size + 1 := fun x o => by show (x.heap.push o).size = _; simp
    rw [e1, e1, e1] at h
    exact h)
  clear hst hl
  go_enter Try.func40, Try.ntmps40
  go_wp2_with (first
    | (refine wpList_load_cell rfl 3 (.tmp 7) rfl rfl (HX.out.cell (i := bs.length + 1) (bx_at 1 rfl) (j := 0) rfl) (fun w => Try.isAgg3 w) ?_)
    | (refine wpList_load_cell rfl 22 (.tmp 17) rfl rfl (HX.out.cell (i := bs.length + 0) (bx_at 0 rfl) (j := 0) rfl) (fun w => Try.isAgg22 w) ?_)
    | (refine wpList_load_cell rfl 3 (.tmp 19) rfl rfl (HX.out.cell (i := bs.length + 1) (bx_at 1 rfl) (j := 1) rfl) (fun w => Try.isAgg3 w) ?_)
    | (refine wpList_load_cell rfl 3 (.tmp 21) rfl rfl (HX.out.cell (i := bs.length + 1) (bx_at 1 rfl) (j := 2) rfl) (fun w => Try.isAgg3 w) ?_)
    | (go_at_call 66; go_must (refine (put_any w.heap.size e.row (mkL 70) A n c ta tb _ (HX.out.own (i := 1) rfl) HL.out.2.1 (by have := HL.out; omega)).mono ?_); rintro r y1 ⟨rfl, l', hl', ho, hc⟩; replace HX := Lib.hid (HX.out.putRow (i := 1) rfl ho hc); have HLL := Lib.hid hl'; clear hl' ho hc)
    | (refine wpList_load_row7 rfl 27 (.tmp 3) rfl rfl (HX.out.range (i := bs.length + 0) (bx_at 0 rfl)) ent_row ?_)
    | (refine wpList_store_st rfl 27 (.tmp 6) (.tmp 62) rfl HX.out (bs.length + 2) (bx_at 2 rfl) rfl (entL A n c B m d D v q e) rfl rfl ent_size (entL_one _ _ _ _ _ _ _ _ _ _) ?_; intro y2 hst _; replace HX := Lib.hid (by have h := hst; rw [bset2] at h; exact h); clear hst))
  (try simp only [Exit.inBlock, Exit.then])
  refine bodyPost_ret (results_boxL rfl _ _ (x.heap.size + 1 + 1) _ rfl (HX.out.range (i := bs.length + 2) (bx_at 2 rfl)) (by kernel_rfl) (by kernel_rfl)) rfl ?_
  have hl := HL.out
  have hll := HLL.out
  exact ⟨L, { e with row := l' }, rfl, rfl, by rw [hll]; exact hl.2.1.symm, rfl, rfl, HX.out.cut.cut.cut⟩

set_option maxRecDepth 100000 in
set_option maxHeartbeats 2000000 in
theorem turned_1 (w : World) (bs : List Bx1) (rs : RowL) (L : List UInt8) (e : Ent) (A0 : Option Addr) (n0 c0 : Nat) (A : Option Addr) (n c : Nat) (B : Option Addr) (m d : Nat) (D : Option Addr) (v q : Nat) (ta tb : Int) (x : World) (hst : St 5 w bs ((A0, c0, L ++ mkL 70) :: (A, c, e.row ++ mkL 70) :: (B, d, e.qual ++ mkL 70) :: (D, q, e.val ++ mkL 70) :: rs) x)
    (hl : L.length = n0 ∧ e.row.length = n ∧ e.qual.length = m ∧ e.val.length = v ∧ n0 ≤ 5000 ∧ n ≤ 5000 ∧ m ≤ 5000 ∧ v ≤ 5000) :
    Calls Try.prog 40 #[.agg (entL A n c B m d D v q e).toArray, .slice A0 n0 c0, .agg #[.int .i64 1, .int .i64 ta, .int .i64 tb]] x (TurnPost w bs rs L e A0 c0 A n c B m d D v q) := by
  have HL := Lib.hid hl
  have bx_at : ∀ {a b c : Bx1} (i : Nat) {z : Bx1}, [a, b, c][i]? = some z → (bs ++ [a] ++ [b] ++ [c])[bs.length + i]? = some z := fun {_ _ _} i {_} h => by
    rw [List.append_assoc, List.append_assoc, List.getElem?_append_right (by omega), show bs.length + i - bs.length = i from by omega]; exact h
  have HX : Hid (St 5 w (bs ++ [some (x.heap.size, entL A n c B m d D v q e)] ++ [some (x.heap.size + 1, [.int .i64 (1), .int .i64 ta, .int .i64 tb])] ++ [some (x.heap.size + 1 + 1, zeroL)]) ((A0, c0, L ++ mkL 70) :: (A, c, e.row ++ mkL 70) :: (B, d, e.qual ++ mkL 70) :: (D, q, e.val ++ mkL 70) :: rs) (((x.alloc (.cells (entL A n c B m d D v q e).toArray 27)).alloc (.cells ([.int .i64 (1), .int .i64 ta, .int .i64 tb] : List Value).toArray 62)).alloc (.cells zeroL.toArray 27))) := Lib.hid (by
    have h := ((hst.push (t := 27) (entL A n c B m d D v q e)).push (t := 62) [.int .i64 (1), .int .i64 ta, .int .i64 tb]).push (t := 27) zeroL
    have e1 : ∀ (x : World) o, (x.alloc o).heap.size = x.heap.size + 1 := fun x o => by show (x.heap.push o).size = _; simp
    rw [e1, e1, e1] at h
    exact h)
  clear hst hl
  go_enter Try.func40, Try.ntmps40
  go_wp2_with (first
    | (refine wpList_load_cell rfl 3 (.tmp 7) rfl rfl (HX.out.cell (i := bs.length + 1) (bx_at 1 rfl) (j := 0) rfl) (fun w => Try.isAgg3 w) ?_)
    | (refine wpList_load_cell rfl 22 (.tmp 26) rfl rfl (HX.out.cell (i := bs.length + 0) (bx_at 0 rfl) (j := 2) rfl) (fun w => Try.isAgg22 w) ?_)
    | (refine wpList_load_cell rfl 3 (.tmp 28) rfl rfl (HX.out.cell (i := bs.length + 1) (bx_at 1 rfl) (j := 1) rfl) (fun w => Try.isAgg3 w) ?_)
    | (refine wpList_load_cell rfl 3 (.tmp 30) rfl rfl (HX.out.cell (i := bs.length + 1) (bx_at 1 rfl) (j := 2) rfl) (fun w => Try.isAgg3 w) ?_)
    | (go_at_call 66; go_must (refine (put_any w.heap.size e.qual (mkL 70) B m d ta tb _ (HX.out.own (i := 2) rfl) HL.out.2.2.1 (by have := HL.out; omega)).mono ?_); rintro r y1 ⟨rfl, l', hl', ho, hc⟩; replace HX := Lib.hid (HX.out.putRow (i := 2) rfl ho hc); have HLL := Lib.hid hl'; clear hl' ho hc)
    | (refine wpList_load_row7 rfl 27 (.tmp 3) rfl rfl (HX.out.range (i := bs.length + 0) (bx_at 0 rfl)) ent_row ?_)
    | (refine wpList_store_st rfl 27 (.tmp 6) (.tmp 62) rfl HX.out (bs.length + 2) (bx_at 2 rfl) rfl (entL A n c B m d D v q e) rfl rfl ent_size (entL_one _ _ _ _ _ _ _ _ _ _) ?_; intro y2 hst _; replace HX := Lib.hid (by have h := hst; rw [bset2] at h; exact h); clear hst))
  (try simp only [Exit.inBlock, Exit.then])
  refine bodyPost_ret (results_boxL rfl _ _ (x.heap.size + 1 + 1) _ rfl (HX.out.range (i := bs.length + 2) (bx_at 2 rfl)) (by kernel_rfl) (by kernel_rfl)) rfl ?_
  have hl := HL.out
  have hll := HLL.out
  exact ⟨L, { e with qual := l' }, rfl, rfl, rfl, by rw [hll]; exact hl.2.2.1.symm, rfl, HX.out.cut.cut.cut⟩

set_option maxRecDepth 100000 in
set_option maxHeartbeats 2000000 in
theorem turned_2 (w : World) (bs : List Bx1) (rs : RowL) (L : List UInt8) (e : Ent) (A0 : Option Addr) (n0 c0 : Nat) (A : Option Addr) (n c : Nat) (B : Option Addr) (m d : Nat) (D : Option Addr) (v q : Nat) (ta tb : Int) (x : World) (hst : St 5 w bs ((A0, c0, L ++ mkL 70) :: (A, c, e.row ++ mkL 70) :: (B, d, e.qual ++ mkL 70) :: (D, q, e.val ++ mkL 70) :: rs) x)
    (hl : L.length = n0 ∧ e.row.length = n ∧ e.qual.length = m ∧ e.val.length = v ∧ n0 ≤ 5000 ∧ n ≤ 5000 ∧ m ≤ 5000 ∧ v ≤ 5000) :
    Calls Try.prog 40 #[.agg (entL A n c B m d D v q e).toArray, .slice A0 n0 c0, .agg #[.int .i64 2, .int .i64 ta, .int .i64 tb]] x (TurnPost w bs rs L e A0 c0 A n c B m d D v q) := by
  have HL := Lib.hid hl
  have bx_at : ∀ {a b c : Bx1} (i : Nat) {z : Bx1}, [a, b, c][i]? = some z → (bs ++ [a] ++ [b] ++ [c])[bs.length + i]? = some z := fun {_ _ _} i {_} h => by
    rw [List.append_assoc, List.append_assoc, List.getElem?_append_right (by omega), show bs.length + i - bs.length = i from by omega]; exact h
  have HX : Hid (St 5 w (bs ++ [some (x.heap.size, entL A n c B m d D v q e)] ++ [some (x.heap.size + 1, [.int .i64 (2), .int .i64 ta, .int .i64 tb])] ++ [some (x.heap.size + 1 + 1, zeroL)]) ((A0, c0, L ++ mkL 70) :: (A, c, e.row ++ mkL 70) :: (B, d, e.qual ++ mkL 70) :: (D, q, e.val ++ mkL 70) :: rs) (((x.alloc (.cells (entL A n c B m d D v q e).toArray 27)).alloc (.cells ([.int .i64 (2), .int .i64 ta, .int .i64 tb] : List Value).toArray 62)).alloc (.cells zeroL.toArray 27))) := Lib.hid (by
    have h := ((hst.push (t := 27) (entL A n c B m d D v q e)).push (t := 62) [.int .i64 (2), .int .i64 ta, .int .i64 tb]).push (t := 27) zeroL
    have e1 : ∀ (x : World) o, (x.alloc o).heap.size = x.heap.size + 1 := fun x o => by show (x.heap.push o).size = _; simp
    rw [e1, e1, e1] at h
    exact h)
  clear hst hl
  go_enter Try.func40, Try.ntmps40
  go_wp2_with (first
    | (refine wpList_load_cell rfl 3 (.tmp 7) rfl rfl (HX.out.cell (i := bs.length + 1) (bx_at 1 rfl) (j := 0) rfl) (fun w => Try.isAgg3 w) ?_)
    | (refine wpList_load_cell rfl 22 (.tmp 35) rfl rfl (HX.out.cell (i := bs.length + 0) (bx_at 0 rfl) (j := 6) rfl) (fun w => Try.isAgg22 w) ?_)
    | (refine wpList_load_cell rfl 3 (.tmp 37) rfl rfl (HX.out.cell (i := bs.length + 1) (bx_at 1 rfl) (j := 1) rfl) (fun w => Try.isAgg3 w) ?_)
    | (refine wpList_load_cell rfl 3 (.tmp 39) rfl rfl (HX.out.cell (i := bs.length + 1) (bx_at 1 rfl) (j := 2) rfl) (fun w => Try.isAgg3 w) ?_)
    | (go_at_call 66; go_must (refine (put_any w.heap.size e.val (mkL 70) D v q ta tb _ (HX.out.own (i := 3) rfl) HL.out.2.2.2.1 (by have := HL.out; omega)).mono ?_); rintro r y1 ⟨rfl, l', hl', ho, hc⟩; replace HX := Lib.hid (HX.out.putRow (i := 3) rfl ho hc); have HLL := Lib.hid hl'; clear hl' ho hc)
    | (refine wpList_load_row7 rfl 27 (.tmp 3) rfl rfl (HX.out.range (i := bs.length + 0) (bx_at 0 rfl)) ent_row ?_)
    | (refine wpList_store_st rfl 27 (.tmp 6) (.tmp 62) rfl HX.out (bs.length + 2) (bx_at 2 rfl) rfl (entL A n c B m d D v q e) rfl rfl ent_size (entL_one _ _ _ _ _ _ _ _ _ _) ?_; intro y2 hst _; replace HX := Lib.hid (by have h := hst; rw [bset2] at h; exact h); clear hst))
  (try simp only [Exit.inBlock, Exit.then])
  refine bodyPost_ret (results_boxL rfl _ _ (x.heap.size + 1 + 1) _ rfl (HX.out.range (i := bs.length + 2) (bx_at 2 rfl)) (by kernel_rfl) (by kernel_rfl)) rfl ?_
  have hl := HL.out
  have hll := HLL.out
  exact ⟨L, { e with val := l' }, rfl, rfl, rfl, rfl, by rw [hll]; exact hl.2.2.2.1.symm, HX.out.cut.cut.cut⟩

set_option maxRecDepth 100000 in
set_option maxHeartbeats 2000000 in
theorem turned_3 (w : World) (bs : List Bx1) (rs : RowL) (L : List UInt8) (e : Ent) (A0 : Option Addr) (n0 c0 : Nat) (A : Option Addr) (n c : Nat) (B : Option Addr) (m d : Nat) (D : Option Addr) (v q : Nat) (ta tb : Int) (x : World) (hst : St 5 w bs ((A0, c0, L ++ mkL 70) :: (A, c, e.row ++ mkL 70) :: (B, d, e.qual ++ mkL 70) :: (D, q, e.val ++ mkL 70) :: rs) x)
    (hl : L.length = n0 ∧ e.row.length = n ∧ e.qual.length = m ∧ e.val.length = v ∧ n0 ≤ 5000 ∧ n ≤ 5000 ∧ m ≤ 5000 ∧ v ≤ 5000) :
    Calls Try.prog 40 #[.agg (entL A n c B m d D v q e).toArray, .slice A0 n0 c0, .agg #[.int .i64 3, .int .i64 ta, .int .i64 tb]] x (TurnPost w bs rs L e A0 c0 A n c B m d D v q) := by
  have HL := Lib.hid hl
  have bx_at : ∀ {a b c : Bx1} (i : Nat) {z : Bx1}, [a, b, c][i]? = some z → (bs ++ [a] ++ [b] ++ [c])[bs.length + i]? = some z := fun {_ _ _} i {_} h => by
    rw [List.append_assoc, List.append_assoc, List.getElem?_append_right (by omega), show bs.length + i - bs.length = i from by omega]; exact h
  have HX : Hid (St 5 w (bs ++ [some (x.heap.size, entL A n c B m d D v q e)] ++ [some (x.heap.size + 1, [.int .i64 (3), .int .i64 ta, .int .i64 tb])] ++ [some (x.heap.size + 1 + 1, zeroL)]) ((A0, c0, L ++ mkL 70) :: (A, c, e.row ++ mkL 70) :: (B, d, e.qual ++ mkL 70) :: (D, q, e.val ++ mkL 70) :: rs) (((x.alloc (.cells (entL A n c B m d D v q e).toArray 27)).alloc (.cells ([.int .i64 (3), .int .i64 ta, .int .i64 tb] : List Value).toArray 62)).alloc (.cells zeroL.toArray 27))) := Lib.hid (by
    have h := ((hst.push (t := 27) (entL A n c B m d D v q e)).push (t := 62) [.int .i64 (3), .int .i64 ta, .int .i64 tb]).push (t := 27) zeroL
    have e1 : ∀ (x : World) o, (x.alloc o).heap.size = x.heap.size + 1 := fun x o => by show (x.heap.push o).size = _; simp
    rw [e1, e1, e1] at h
    exact h)
  clear hst hl
  go_enter Try.func40, Try.ntmps40
  go_wp2_with (first
    | (refine wpList_load_cell rfl 3 (.tmp 7) rfl rfl (HX.out.cell (i := bs.length + 1) (bx_at 1 rfl) (j := 0) rfl) (fun w => Try.isAgg3 w) ?_)
    | (refine wpList_load_cell rfl 3 (.tmp 44) rfl rfl (HX.out.cell (i := bs.length + 1) (bx_at 1 rfl) (j := 2) rfl) (fun w => Try.isAgg3 w) ?_)
    | (refine wpList_store_cell rfl 3 (.tmp 46) (.tmp 45) rfl HX.out (bs.length + 0) (bx_at 0 rfl) 1 rfl (by show 1 < 7; decide) (.int .i64 tb) rfl int_size rfl ?_; intro y1 hst _; replace HX := Lib.hid (by have h := hst; rw [bset0] at h; exact h); clear hst)
    | (refine wpList_load_row7 rfl 27 (.tmp 3) rfl rfl (HX.out.range (i := bs.length + 0) (bx_at 0 rfl)) ent_row ?_)
    | (refine wpList_store_st rfl 27 (.tmp 6) (.tmp 62) rfl HX.out (bs.length + 2) (bx_at 2 rfl) rfl (entL A n c B m d D v q { e with fam := tb }) rfl rfl ent_size (entL_one _ _ _ _ _ _ _ _ _ _) ?_; intro y2 hst _; replace HX := Lib.hid (by have h := hst; rw [bset2] at h; exact h); clear hst))
  (try simp only [Exit.inBlock, Exit.then])
  refine bodyPost_ret (results_boxL rfl _ _ (x.heap.size + 1 + 1) _ rfl (HX.out.range (i := bs.length + 2) (bx_at 2 rfl)) (by kernel_rfl) (by kernel_rfl)) rfl ?_
  have hl := HL.out
  exact ⟨L, { e with fam := tb }, rfl, rfl, rfl, rfl, rfl, HX.out.cut.cut.cut⟩

set_option maxRecDepth 100000 in
set_option maxHeartbeats 2000000 in
theorem turned_4 (w : World) (bs : List Bx1) (rs : RowL) (L : List UInt8) (e : Ent) (A0 : Option Addr) (n0 c0 : Nat) (A : Option Addr) (n c : Nat) (B : Option Addr) (m d : Nat) (D : Option Addr) (v q : Nat) (ta tb : Int) (x : World) (hst : St 5 w bs ((A0, c0, L ++ mkL 70) :: (A, c, e.row ++ mkL 70) :: (B, d, e.qual ++ mkL 70) :: (D, q, e.val ++ mkL 70) :: rs) x)
    (hl : L.length = n0 ∧ e.row.length = n ∧ e.qual.length = m ∧ e.val.length = v ∧ n0 ≤ 5000 ∧ n ≤ 5000 ∧ m ≤ 5000 ∧ v ≤ 5000) :
    Calls Try.prog 40 #[.agg (entL A n c B m d D v q e).toArray, .slice A0 n0 c0, .agg #[.int .i64 4, .int .i64 ta, .int .i64 tb]] x (TurnPost w bs rs L e A0 c0 A n c B m d D v q) := by
  have HL := Lib.hid hl
  have bx_at : ∀ {a b c : Bx1} (i : Nat) {z : Bx1}, [a, b, c][i]? = some z → (bs ++ [a] ++ [b] ++ [c])[bs.length + i]? = some z := fun {_ _ _} i {_} h => by
    rw [List.append_assoc, List.append_assoc, List.getElem?_append_right (by omega), show bs.length + i - bs.length = i from by omega]; exact h
  have HX : Hid (St 5 w (bs ++ [some (x.heap.size, entL A n c B m d D v q e)] ++ [some (x.heap.size + 1, [.int .i64 (4), .int .i64 ta, .int .i64 tb])] ++ [some (x.heap.size + 1 + 1, zeroL)]) ((A0, c0, L ++ mkL 70) :: (A, c, e.row ++ mkL 70) :: (B, d, e.qual ++ mkL 70) :: (D, q, e.val ++ mkL 70) :: rs) (((x.alloc (.cells (entL A n c B m d D v q e).toArray 27)).alloc (.cells ([.int .i64 (4), .int .i64 ta, .int .i64 tb] : List Value).toArray 62)).alloc (.cells zeroL.toArray 27))) := Lib.hid (by
    have h := ((hst.push (t := 27) (entL A n c B m d D v q e)).push (t := 62) [.int .i64 (4), .int .i64 ta, .int .i64 tb]).push (t := 27) zeroL
    have e1 : ∀ (x : World) o, (x.alloc o).heap.size = x.heap.size + 1 := fun x o => by show (x.heap.push o).size = _; simp
    rw [e1, e1, e1] at h
    exact h)
  clear hst hl
  go_enter Try.func40, Try.ntmps40
  go_wp2_with (first
    | (refine wpList_load_cell rfl 3 (.tmp 7) rfl rfl (HX.out.cell (i := bs.length + 1) (bx_at 1 rfl) (j := 0) rfl) (fun w => Try.isAgg3 w) ?_)
    | (refine wpList_load_cell rfl 3 (.tmp 49) rfl rfl (HX.out.cell (i := bs.length + 1) (bx_at 1 rfl) (j := 2) rfl) (fun w => Try.isAgg3 w) ?_)
    | (refine wpList_store_cell rfl 3 (.tmp 51) (.tmp 50) rfl HX.out (bs.length + 0) (bx_at 0 rfl) 3 rfl (by show 3 < 7; decide) (.int .i64 tb) rfl int_size rfl ?_; intro y1 hst _; replace HX := Lib.hid (by have h := hst; rw [bset0] at h; exact h); clear hst)
    | (refine wpList_load_row7 rfl 27 (.tmp 3) rfl rfl (HX.out.range (i := bs.length + 0) (bx_at 0 rfl)) ent_row ?_)
    | (refine wpList_store_st rfl 27 (.tmp 6) (.tmp 62) rfl HX.out (bs.length + 2) (bx_at 2 rfl) rfl (entL A n c B m d D v q { e with ts := tb }) rfl rfl ent_size (entL_one _ _ _ _ _ _ _ _ _ _) ?_; intro y2 hst _; replace HX := Lib.hid (by have h := hst; rw [bset2] at h; exact h); clear hst))
  (try simp only [Exit.inBlock, Exit.then])
  refine bodyPost_ret (results_boxL rfl _ _ (x.heap.size + 1 + 1) _ rfl (HX.out.range (i := bs.length + 2) (bx_at 2 rfl)) (by kernel_rfl) (by kernel_rfl)) rfl ?_
  have hl := HL.out
  exact ⟨L, { e with ts := tb }, rfl, rfl, rfl, rfl, rfl, HX.out.cut.cut.cut⟩

set_option maxRecDepth 100000 in
set_option maxHeartbeats 2000000 in
theorem turned_5 (w : World) (bs : List Bx1) (rs : RowL) (L : List UInt8) (e : Ent) (A0 : Option Addr) (n0 c0 : Nat) (A : Option Addr) (n c : Nat) (B : Option Addr) (m d : Nat) (D : Option Addr) (v q : Nat) (ta tb : Int) (x : World) (hst : St 5 w bs ((A0, c0, L ++ mkL 70) :: (A, c, e.row ++ mkL 70) :: (B, d, e.qual ++ mkL 70) :: (D, q, e.val ++ mkL 70) :: rs) x)
    (hl : L.length = n0 ∧ e.row.length = n ∧ e.qual.length = m ∧ e.val.length = v ∧ n0 ≤ 5000 ∧ n ≤ 5000 ∧ m ≤ 5000 ∧ v ≤ 5000) :
    Calls Try.prog 40 #[.agg (entL A n c B m d D v q e).toArray, .slice A0 n0 c0, .agg #[.int .i64 5, .int .i64 ta, .int .i64 tb]] x (TurnPost w bs rs L e A0 c0 A n c B m d D v q) := by
  have HL := Lib.hid hl
  have bx_at : ∀ {a b c : Bx1} (i : Nat) {z : Bx1}, [a, b, c][i]? = some z → (bs ++ [a] ++ [b] ++ [c])[bs.length + i]? = some z := fun {_ _ _} i {_} h => by
    rw [List.append_assoc, List.append_assoc, List.getElem?_append_right (by omega), show bs.length + i - bs.length = i from by omega]; exact h
  have HX : Hid (St 5 w (bs ++ [some (x.heap.size, entL A n c B m d D v q e)] ++ [some (x.heap.size + 1, [.int .i64 (5), .int .i64 ta, .int .i64 tb])] ++ [some (x.heap.size + 1 + 1, zeroL)]) ((A0, c0, L ++ mkL 70) :: (A, c, e.row ++ mkL 70) :: (B, d, e.qual ++ mkL 70) :: (D, q, e.val ++ mkL 70) :: rs) (((x.alloc (.cells (entL A n c B m d D v q e).toArray 27)).alloc (.cells ([.int .i64 (5), .int .i64 ta, .int .i64 tb] : List Value).toArray 62)).alloc (.cells zeroL.toArray 27))) := Lib.hid (by
    have h := ((hst.push (t := 27) (entL A n c B m d D v q e)).push (t := 62) [.int .i64 (5), .int .i64 ta, .int .i64 tb]).push (t := 27) zeroL
    have e1 : ∀ (x : World) o, (x.alloc o).heap.size = x.heap.size + 1 := fun x o => by show (x.heap.push o).size = _; simp
    rw [e1, e1, e1] at h
    exact h)
  clear hst hl
  go_enter Try.func40, Try.ntmps40
  go_wp2_with (first
    | (refine wpList_load_cell rfl 3 (.tmp 7) rfl rfl (HX.out.cell (i := bs.length + 1) (bx_at 1 rfl) (j := 0) rfl) (fun w => Try.isAgg3 w) ?_)
    | (refine wpList_load_cell rfl 3 (.tmp 54) rfl rfl (HX.out.cell (i := bs.length + 1) (bx_at 1 rfl) (j := 2) rfl) (fun w => Try.isAgg3 w) ?_)
    | (refine wpList_store_cell rfl 3 (.tmp 56) (.tmp 55) rfl HX.out (bs.length + 0) (bx_at 0 rfl) 4 rfl (by show 4 < 7; decide) (.int .i64 tb) rfl int_size rfl ?_; intro y1 hst _; replace HX := Lib.hid (by have h := hst; rw [bset0] at h; exact h); clear hst)
    | (refine wpList_load_row7 rfl 27 (.tmp 3) rfl rfl (HX.out.range (i := bs.length + 0) (bx_at 0 rfl)) ent_row ?_)
    | (refine wpList_store_st rfl 27 (.tmp 6) (.tmp 62) rfl HX.out (bs.length + 2) (bx_at 2 rfl) rfl (entL A n c B m d D v q { e with seq := tb }) rfl rfl ent_size (entL_one _ _ _ _ _ _ _ _ _ _) ?_; intro y2 hst _; replace HX := Lib.hid (by have h := hst; rw [bset2] at h; exact h); clear hst))
  (try simp only [Exit.inBlock, Exit.then])
  refine bodyPost_ret (results_boxL rfl _ _ (x.heap.size + 1 + 1) _ rfl (HX.out.range (i := bs.length + 2) (bx_at 2 rfl)) (by kernel_rfl) (by kernel_rfl)) rfl ?_
  have hl := HL.out
  exact ⟨L, { e with seq := tb }, rfl, rfl, rfl, rfl, rfl, HX.out.cut.cut.cut⟩

set_option maxRecDepth 100000 in
set_option maxHeartbeats 2000000 in
theorem turned_6 (w : World) (bs : List Bx1) (rs : RowL) (L : List UInt8) (e : Ent) (A0 : Option Addr) (n0 c0 : Nat) (A : Option Addr) (n c : Nat) (B : Option Addr) (m d : Nat) (D : Option Addr) (v q : Nat) (ta tb : Int) (x : World) (hst : St 5 w bs ((A0, c0, L ++ mkL 70) :: (A, c, e.row ++ mkL 70) :: (B, d, e.qual ++ mkL 70) :: (D, q, e.val ++ mkL 70) :: rs) x)
    (hl : L.length = n0 ∧ e.row.length = n ∧ e.qual.length = m ∧ e.val.length = v ∧ n0 ≤ 5000 ∧ n ≤ 5000 ∧ m ≤ 5000 ∧ v ≤ 5000) :
    Calls Try.prog 40 #[.agg (entL A n c B m d D v q e).toArray, .slice A0 n0 c0, .agg #[.int .i64 6, .int .i64 ta, .int .i64 tb]] x (TurnPost w bs rs L e A0 c0 A n c B m d D v q) := by
  have HL := Lib.hid hl
  have bx_at : ∀ {a b c : Bx1} (i : Nat) {z : Bx1}, [a, b, c][i]? = some z → (bs ++ [a] ++ [b] ++ [c])[bs.length + i]? = some z := fun {_ _ _} i {_} h => by
    rw [List.append_assoc, List.append_assoc, List.getElem?_append_right (by omega), show bs.length + i - bs.length = i from by omega]; exact h
  have HX : Hid (St 5 w (bs ++ [some (x.heap.size, entL A n c B m d D v q e)] ++ [some (x.heap.size + 1, [.int .i64 (6), .int .i64 ta, .int .i64 tb])] ++ [some (x.heap.size + 1 + 1, zeroL)]) ((A0, c0, L ++ mkL 70) :: (A, c, e.row ++ mkL 70) :: (B, d, e.qual ++ mkL 70) :: (D, q, e.val ++ mkL 70) :: rs) (((x.alloc (.cells (entL A n c B m d D v q e).toArray 27)).alloc (.cells ([.int .i64 (6), .int .i64 ta, .int .i64 tb] : List Value).toArray 62)).alloc (.cells zeroL.toArray 27))) := Lib.hid (by
    have h := ((hst.push (t := 27) (entL A n c B m d D v q e)).push (t := 62) [.int .i64 (6), .int .i64 ta, .int .i64 tb]).push (t := 27) zeroL
    have e1 : ∀ (x : World) o, (x.alloc o).heap.size = x.heap.size + 1 := fun x o => by show (x.heap.push o).size = _; simp
    rw [e1, e1, e1] at h
    exact h)
  clear hst hl
  go_enter Try.func40, Try.ntmps40
  go_wp2_with (first
    | (refine wpList_load_cell rfl 3 (.tmp 7) rfl rfl (HX.out.cell (i := bs.length + 1) (bx_at 1 rfl) (j := 0) rfl) (fun w => Try.isAgg3 w) ?_)
    | (refine wpList_load_cell rfl 3 (.tmp 59) rfl rfl (HX.out.cell (i := bs.length + 1) (bx_at 1 rfl) (j := 2) rfl) (fun w => Try.isAgg3 w) ?_)
    | (refine wpList_store_cell rfl 3 (.tmp 61) (.tmp 60) rfl HX.out (bs.length + 0) (bx_at 0 rfl) 5 rfl (by show 5 < 7; decide) (.int .i64 tb) rfl int_size rfl ?_; intro y1 hst _; replace HX := Lib.hid (by have h := hst; rw [bset0] at h; exact h); clear hst)
    | (refine wpList_load_row7 rfl 27 (.tmp 3) rfl rfl (HX.out.range (i := bs.length + 0) (bx_at 0 rfl)) ent_row ?_)
    | (refine wpList_store_st rfl 27 (.tmp 6) (.tmp 62) rfl HX.out (bs.length + 2) (bx_at 2 rfl) rfl (entL A n c B m d D v q { e with kind := tb }) rfl rfl ent_size (entL_one _ _ _ _ _ _ _ _ _ _) ?_; intro y2 hst _; replace HX := Lib.hid (by have h := hst; rw [bset2] at h; exact h); clear hst))
  (try simp only [Exit.inBlock, Exit.then])
  refine bodyPost_ret (results_boxL rfl _ _ (x.heap.size + 1 + 1) _ rfl (HX.out.range (i := bs.length + 2) (bx_at 2 rfl)) (by kernel_rfl) (by kernel_rfl)) rfl ?_
  have hl := HL.out
  exact ⟨L, { e with kind := tb }, rfl, rfl, rfl, rfl, rfl, HX.out.cut.cut.cut⟩

set_option maxRecDepth 100000 in
set_option maxHeartbeats 2000000 in
theorem turned_7 (w : World) (bs : List Bx1) (rs : RowL) (L : List UInt8) (e : Ent) (A0 : Option Addr) (n0 c0 : Nat) (A : Option Addr) (n c : Nat) (B : Option Addr) (m d : Nat) (D : Option Addr) (v q : Nat) (kd : Int) (ta tb : Int) (x : World) (h0 : kd ≠ 0) (h1 : kd ≠ 1) (h2 : kd ≠ 2) (h3 : kd ≠ 3) (h4 : kd ≠ 4) (h5 : kd ≠ 5) (h6 : kd ≠ 6) (hst : St 5 w bs ((A0, c0, L ++ mkL 70) :: (A, c, e.row ++ mkL 70) :: (B, d, e.qual ++ mkL 70) :: (D, q, e.val ++ mkL 70) :: rs) x)
    (hl : L.length = n0 ∧ e.row.length = n ∧ e.qual.length = m ∧ e.val.length = v ∧ n0 ≤ 5000 ∧ n ≤ 5000 ∧ m ≤ 5000 ∧ v ≤ 5000) :
    Calls Try.prog 40 #[.agg (entL A n c B m d D v q e).toArray, .slice A0 n0 c0, .agg #[.int .i64 kd, .int .i64 ta, .int .i64 tb]] x (TurnPost w bs rs L e A0 c0 A n c B m d D v q) := by
  have HL := Lib.hid hl
  have bx_at : ∀ {a b c : Bx1} (i : Nat) {z : Bx1}, [a, b, c][i]? = some z → (bs ++ [a] ++ [b] ++ [c])[bs.length + i]? = some z := fun {_ _ _} i {_} h => by
    rw [List.append_assoc, List.append_assoc, List.getElem?_append_right (by omega), show bs.length + i - bs.length = i from by omega]; exact h
  have HX : Hid (St 5 w (bs ++ [some (x.heap.size, entL A n c B m d D v q e)] ++ [some (x.heap.size + 1, [.int .i64 (kd), .int .i64 ta, .int .i64 tb])] ++ [some (x.heap.size + 1 + 1, zeroL)]) ((A0, c0, L ++ mkL 70) :: (A, c, e.row ++ mkL 70) :: (B, d, e.qual ++ mkL 70) :: (D, q, e.val ++ mkL 70) :: rs) (((x.alloc (.cells (entL A n c B m d D v q e).toArray 27)).alloc (.cells ([.int .i64 (kd), .int .i64 ta, .int .i64 tb] : List Value).toArray 62)).alloc (.cells zeroL.toArray 27))) := Lib.hid (by
    have h := ((hst.push (t := 27) (entL A n c B m d D v q e)).push (t := 62) [.int .i64 (kd), .int .i64 ta, .int .i64 tb]).push (t := 27) zeroL
    have e1 : ∀ (x : World) o, (x.alloc o).heap.size = x.heap.size + 1 := fun x o => by show (x.heap.push o).size = _; simp
    rw [e1, e1, e1] at h
    exact h)
  have d0 : (kd == 0) = false := by rw [beq_eq_false_iff_ne]; exact h0
  have d1 : (kd == 1) = false := by rw [beq_eq_false_iff_ne]; exact h1
  have d2 : (kd == 2) = false := by rw [beq_eq_false_iff_ne]; exact h2
  have d3 : (kd == 3) = false := by rw [beq_eq_false_iff_ne]; exact h3
  have d4 : (kd == 4) = false := by rw [beq_eq_false_iff_ne]; exact h4
  have d5 : (kd == 5) = false := by rw [beq_eq_false_iff_ne]; exact h5
  have d6 : (kd == 6) = false := by rw [beq_eq_false_iff_ne]; exact h6
  clear h0 h1 h2 h3 h4 h5 h6
  clear hst hl
  go_enter Try.func40, Try.ntmps40
  go_wp2_with (first
    | (refine wpList_load_cell rfl 3 (.tmp 7) rfl rfl (HX.out.cell (i := bs.length + 1) (bx_at 1 rfl) (j := 0) rfl) (fun w => Try.isAgg3 w) ?_)
    | (refine wpList_load_cell rfl 3 (.tmp 10) rfl rfl (HX.out.cell (i := bs.length + 1) (bx_at 1 rfl) (j := 1) rfl) (fun w => Try.isAgg3 w) ?_)
    | (refine wpList_load_cell rfl 3 (.tmp 12) rfl rfl (HX.out.cell (i := bs.length + 1) (bx_at 1 rfl) (j := 2) rfl) (fun w => Try.isAgg3 w) ?_)
    | (go_at_call 66; go_must (refine (put_any w.heap.size L (mkL 70) A0 n0 c0 ta tb _ (HX.out.own (i := 0) rfl) HL.out.1 (by have := HL.out; omega)).mono ?_); rintro r y1 ⟨rfl, l', hl', ho, hc⟩; replace HX := Lib.hid (HX.out.putRow (i := 0) rfl ho hc); have HLL := Lib.hid hl'; clear hl' ho hc)
    | (refine wpList_load_row7 rfl 27 (.tmp 3) rfl rfl (HX.out.range (i := bs.length + 0) (bx_at 0 rfl)) ent_row ?_)
    | (refine wpList_store_st rfl 27 (.tmp 6) (.tmp 62) rfl HX.out (bs.length + 2) (bx_at 2 rfl) rfl (entL A n c B m d D v q e) rfl rfl ent_size (entL_one _ _ _ _ _ _ _ _ _ _) ?_; intro y2 hst _; replace HX := Lib.hid (by have h := hst; rw [bset2] at h; exact h); clear hst))
  (try simp only [Exit.inBlock, Exit.then])
  refine bodyPost_ret (results_boxL rfl _ _ (x.heap.size + 1 + 1) _ rfl (HX.out.range (i := bs.length + 2) (bx_at 2 rfl)) (by kernel_rfl) (by kernel_rfl)) rfl ?_
  have hl := HL.out
  have hll := HLL.out
  exact ⟨l', e, rfl, by rw [hll]; exact hl.1.symm, rfl, rfl, rfl, HX.out.cut.cut.cut⟩

theorem turned_any (w : World) (bs : List Bx1) (rs : RowL) (L : List UInt8) (e : Ent) (A0 : Option Addr) (n0 c0 : Nat) (A : Option Addr) (n c : Nat) (B : Option Addr) (m d : Nat) (D : Option Addr) (v q : Nat) (kd ta tb : Int) (x : World) (hst : St 5 w bs ((A0, c0, L ++ mkL 70) :: (A, c, e.row ++ mkL 70) :: (B, d, e.qual ++ mkL 70) :: (D, q, e.val ++ mkL 70) :: rs) x)
    (hl : L.length = n0 ∧ e.row.length = n ∧ e.qual.length = m ∧ e.val.length = v ∧ n0 ≤ 5000 ∧ n ≤ 5000 ∧ m ≤ 5000 ∧ v ≤ 5000) :
    Calls Try.prog 40 #[.agg (entL A n c B m d D v q e).toArray, .slice A0 n0 c0, .agg #[.int .i64 kd, .int .i64 ta, .int .i64 tb]] x (TurnPost w bs rs L e A0 c0 A n c B m d D v q) := by
  by_cases h0 : kd = 0
  · subst h0; exact turned_0 w bs rs L e A0 n0 c0 A n c B m d D v q ta tb x hst hl
  by_cases h1 : kd = 1
  · subst h1; exact turned_1 w bs rs L e A0 n0 c0 A n c B m d D v q ta tb x hst hl
  by_cases h2 : kd = 2
  · subst h2; exact turned_2 w bs rs L e A0 n0 c0 A n c B m d D v q ta tb x hst hl
  by_cases h3 : kd = 3
  · subst h3; exact turned_3 w bs rs L e A0 n0 c0 A n c B m d D v q ta tb x hst hl
  by_cases h4 : kd = 4
  · subst h4; exact turned_4 w bs rs L e A0 n0 c0 A n c B m d D v q ta tb x hst hl
  by_cases h5 : kd = 5
  · subst h5; exact turned_5 w bs rs L e A0 n0 c0 A n c B m d D v q ta tb x hst hl
  by_cases h6 : kd = 6
  · subst h6; exact turned_6 w bs rs L e A0 n0 c0 A n c B m d D v q ta tb x hst hl
  exact turned_7 w bs rs L e A0 n0 c0 A n c B m d D v q kd ta tb x h0 h1 h2 h3 h4 h5 h6 hst hl
end Go.Proofs.Ytcikhlieaoanoaa

/-
  Straight lines: a row in the midst of a block, a store; rows struck. Over any program.
-/
namespace Go.Proofs.Ytcikhlieaoanoaa
open Go.RowKit

section
variable {P : Program} {Q : Exit → Act → World → Prop} {S : World → Prop} {l : List Oper} {fuel : Nat} {listed : Array Bool} {a : Act} {w : World} {i : Nat} {o : Oper} {v : Value}
theorem yi_rowO {ty : TypeId} {x : Operand} (hw : Region.wanted o (yielded l.toArray a.tmps) = true) (ho : o.op = .load ty x) {g k : Nat} {cs : List Value} (hx : a.eval x = .pointer (some ⟨g, k, none⟩)) (hr : ∀ w, S w → w.rangeAt g k cs) (ht : RowTy P ty cs.length) :
    YieldsIf P l.toArray S o (.agg cs.toArray) a := by
  obtain ⟨⟨d, hu, hd⟩, hi⟩ := ht
  refine .inl ⟨hw, fun w hS => ?_⟩
  unfold execOp
  simp only [ho, hx, Instr.loadAt, Instr.sureAddr, Sem.run_bind, Sem.run_pure, Result.andThen_ok, run_loadVar_mid w g k ty cs d (hr w hS) hu hd hi]
/-- A whole box is written, the only operation that may come up. -/
theorem lx_store (i : Nat) {o : Oper} {ty : TypeId} {x y : Operand} (hi : l[i]? = some o) (hr : Region.ready .any l.toArray listed = [i]) (hw : Region.wanted o (yielded l.toArray a.tmps) = true)
    (ho : o.op = .store ty x y) {T : TypeId} {z : World} {bs : List Bx1} {rs : RowL} (h : St T z bs rs w) (j : Nat) {g : Nat} {cs : List Value} (hb : bs[j]? = some (some (g, cs))) (hx : a.eval x = .pointer (some ⟨g, 0, none⟩)) (vs : List Value) (hy : a.eval y = .agg vs.toArray)
    (hl : vs.length = cs.length) (ht : (P.info? ty).map (·.size) = some vs.length) (h1 : ∀ u ∈ vs, u.oneCell' = true)
    (hK : ∀ w', St T z (bs.set j (some (g, vs))) rs w' → Chg (fun b => b = g) w w' → S w' ∧ wpAnyH P .any l.toArray Q S fuel (listed.setIfInBounds i true) (a.put o.dst undef) w') : wpAnyH P .any l.toArray Q S (fuel + 1) listed a w := by
  refine wpAnyH_all hr (by simp) fun q hq => ?_
  obtain rfl : q = i := by simpa using hq
  unfold wpOp
  rw [lx_at hi]
  simp only [hw, if_true]
  have hp := h.put (vs := vs) hb hl
  exact .inl (wp_store_row ho hx hy (h.range hb) (h.fz hb) hl ht h1 (hK _ hp.1 hp.2))
end
section
variable {T : TypeId} {w x : World} {bs bs' : List Bx1} {rs rs' : RowL}
theorem St.cutRows (h : St T w bs (rs ++ rs') x) : St T w bs rs x :=
  ⟨h.up, h.box, h.ne, rows_pre h.rows, fun i j g cs r a hb hr => h.off i j g cs r a hb (by rw [List.getElem?_append_left (List.getElem?_eq_some_iff.1 hr).1]; exact hr)⟩
end
section
variable {P : Program} {Q : Exit → Act → World → Prop} {T : TypeId} {w : World} {bs : List Bx1} {rs : RowL} {p : Parts} {bx : Nat → Bool} {n : Nat} {av : Nat → Value} {Pst : Nat → Value → RowL → Prop} {l : List Oper} {f0 : Act} {o : Oper} {j : Nat}
theorem partG_callS {f : FuncId} {xs : List Operand} {vals : List Value} {ats : Array TypeId} (hok : p.ok f0.tmps.size = true) (hj : j < p.k) (ho : o.op = .call { callee := .value (.func f), args := (Operand.tmp (p.s j) :: xs).toArray, argTypes := ats }) (hxs : ∀ a : Act, xs.map a.eval = vals) (hd : o.dst = some (p.u j)) (hf : GoFn P f)
    (hL : edgeB o (p.L j) = true) (hch : chainB l p.C p.k = true) (hX : ∃ ox, l[p.X j]? = some ox ∧ edgeB ox (p.C j) = true)
    (hc : ∀ x bs' rs', St T w (bs ++ bs') (rs ++ rs') x → Calls P f (av j :: vals).toArray x fun e y => ∃ v R, e = .returned v ∧ Pst j v R ∧ RowsB T x.heap.size y R ∧ Below x.heap.size x y) :
    RegStep P Q l p.slots f0 (PartRG p bx T w bs rs n av Pst) (p.C j) o := by
  intro D a x hcl hs ⟨b, R, hst, hp⟩ hD hpre
  obtain ⟨⟨o1, o2, o3⟩, ⟨e1, e2, e3, e4, e5, e6⟩, ⟨m1, m2, m3⟩⟩ := own_ne hok hj
  have hl := (hp j hj).load (edge_on hL hpre)
  refine wp_call_go ho hf (av j :: vals).toArray (by rw [List.map_toArray, List.map_cons, hxs a, show a.eval (.tmp (p.s j)) = _ from hl]) ((hc x _ _ hst).mono fun e y ⟨v, R', he, hP, hR, hB⟩ => ⟨v, he, ?_⟩)
  rw [hd]
  have hno := chain_down hch hcl hD
  have hXf : D (p.X j) = false := by
    obtain ⟨ox, hox, hoe⟩ := hX
    cases h : D (p.X j) with
    | false => rfl
    | true => have := edge_on hoe (hcl _ _ hox h); rw [hD] at this; cases this
  refine ⟨hs.put (slot_in hj).2.1 _, b, upd R j R', ?_, fun i hi => ?_⟩
  · rw [rows_upd hj fun i h1 h2 => (hp i h2).no (hno i h1 h2), ← List.append_assoc]
    exact hst.app hB hR
  · by_cases e : i = j
    · subst e
      have h := hp i hi
      rw [upd_same]
      refine ⟨fun e => ?_, fun e => ?_, fun _ => ?_, fun hb e => h.nob hb (by rwa [done_other e4.symm] at e), h.nob0, fun hb e => ?_, fun hb e => ?_⟩
      · rw [put_other o1.symm]; exact h.load (by rwa [done_other e1] at e)
      · rw [done_same] at e; cases e
      · rw [put_same (by rw [hs.size]; exact m2)]; exact hP
      · obtain ⟨g, cs, h1, h2, h3, h4⟩ := h.box hb (by rwa [done_other e4.symm] at e)
        refine ⟨g, cs, by rw [put_other o3]; exact h1, h2, h3, fun e => ?_⟩
        rw [done_other e5.symm, hXf] at e; cases e
      · rw [done_other e5.symm, hXf] at e; cases e
    · rw [upd_other e]
      exact othersG hok hj hp (by simp) (.inr (.inl rfl)) hi e
end
section
variable {p : Parts} {n : Nat} {av : Value} {Pst : Value → RowL → Prop} {j : Nat} {D : Nat → Bool} {v : Nat → Value} {b : Bx1} {R : RowL}
theorem PartG.end0 (h : PartG p false n av Pst j D v b R) (hC : D (p.C j) = true) (hX : D (p.X j) = true) : b = none ∧ Pst (v (p.t j)) R := ⟨h.nob0 rfl, by rw [h.asg rfl hX]; exact h.call hC⟩
theorem PartG.end1 (h : PartG p true n av Pst j D v b R) (hC : D (p.C j) = true) (hA : D (p.A j) = true) (hX : D (p.X j) = true) : ∃ g cs, v (p.t j) = .pointer (some ⟨g, 0, none⟩) ∧ b = some (g, cs) ∧ Pst (.agg cs.toArray) R := by
  obtain ⟨g, cs, h1, h2, _, h4⟩ := h.box rfl hA
  exact ⟨g, cs, h1, h2, by rw [← h4 hX]; exact h.call hC⟩
end
end Go.Proofs.Ytcikhlieaoanoaa

/-
  CellAgain's statement 'in = Turned(in, buf, turns[i])': what holds of what is done.
-/
namespace Go.Proofs.Ytcikhlieaoanoaa
open Go.RowKit

section
variable {P : Program} {a : Act} {w : World} {o : Oper}
theorem exec_load_row {ty : TypeId} {x : Operand} (ho : o.op = .load ty x) {g k : Nat} {cs : List Value} (hx : a.eval x = .pointer (some ⟨g, k, none⟩)) (hr : w.rangeAt g k cs) (ht : RowTy P ty cs.length) : (execOp a.eval o).run P w = .ok (.value (.agg cs.toArray)) w := by
  obtain ⟨⟨d, hu, hd⟩, hi⟩ := ht
  unfold execOp
  simp only [ho, hx, Instr.loadAt, Instr.sureAddr, Sem.run_bind, Sem.run_pure, Result.andThen_ok, run_loadVar_mid w g k ty cs d hr hu hd hi]
theorem exec_move {x : Operand} (ho : o.op = .move x) {v : Value} (hx : a.eval x = v) : (execOp a.eval o).run P w = .ok (.value v) w := by
  subst hx
  unfold execOp
  simp only [ho, Sem.run_pure]
end
section
variable (w : World) (x0 x1 x4 : Bx1) (gi : Nat) (Ab : Option Addr) (nl cb : Nat) (Ai : Option Addr) (ni ci : Nat) (Bi : Option Addr) (mi di : Nat) (Di : Option Addr) (vi qi : Nat) (rs : RowL)
def tnB (E : Ent) : List Bx1 := [x0, x1, none, some (gi, entL Ai ni ci Bi mi di Di vi qi E), x4]
def tnR (L : List UInt8) (E : Ent) : RowL := (Ab, cb, L ++ mkL 70) :: (Ai, ci, E.row ++ mkL 70) :: (Bi, di, E.qual ++ mkL 70) :: (Di, qi, E.val ++ mkL 70) :: rs
def tnOk (L : List UInt8) (E : Ent) : Prop := L.length = nl ∧ E.row.length = ni ∧ E.qual.length = mi ∧ E.val.length = vi
structure TnR (L : List UInt8) (E : Ent) (c : Nat → Value) (D : Nat → Bool) (v : Nat → Value) (y : World) : Prop where
  st : D 6 = false → St 5 w (tnB x0 x1 x4 gi Ai ni ci Bi mi di Di vi qi E) (tnR Ab cb Ai ci Bi di Di qi rs L E) y
  sl : ∀ j, j < 6 → D j = true → v (124 + j) = c j
  cl : D 6 = true → ∃ L' E', tnOk nl ni mi vi L' E' ∧ v 130 = .agg (entL Ai ni ci Bi mi di Di vi qi E').toArray ∧
    (D 7 = false → St 5 w (tnB x0 x1 x4 gi Ai ni ci Bi mi di Di vi qi E) (tnR Ab cb Ai ci Bi di Di qi rs L' E') y) ∧ (D 7 = true → St 5 w (tnB x0 x1 x4 gi Ai ni ci Bi mi di Di vi qi E') (tnR Ab cb Ai ci Bi di Di qi rs L' E') y)
end
section
variable {w : World} {x0 x1 x4 : Bx1} {gi : Nat} {Ab : Option Addr} {nl cb : Nat} {Ai : Option Addr} {ni ci : Nat} {Bi : Option Addr} {mi di : Nat} {Di : Option Addr} {vi qi : Nat} {rs : RowL} {L : List UInt8} {E : Ent} {c : Nat → Value}
  {D : Nat → Bool} {a : Act} {y : World} {Q : Exit → Act → World → Prop} {l : List Oper} {f0 : Act} {o : Oper}
abbrev tnS : List Nat := [124, 125, 126, 127, 128, 129, 130]
theorem tn_put {i : Nat} (hi : i < 6) (h : TnR w x0 x1 x4 gi Ab nl cb Ai ni ci Bi mi di Di vi qi rs L E c D (fun k => a.eval (.tmp k)) y) (hsz : 130 < a.tmps.size) :
    TnR w x0 x1 x4 gi Ab nl cb Ai ni ci Bi mi di Di vi qi rs L E c (fun j => j == i || D j) (fun k => (a.put (some (124 + i)) (c i)).eval (.tmp k)) y := by
  refine ⟨fun e => h.st (by rwa [done_other (by omega)] at e), fun j hj e => ?_, fun e => ?_⟩
  · by_cases e' : j = i
    · subst e'; exact put_same (by omega) _
    · show (a.put (some (124 + i)) (c i)).eval (.tmp (124 + j)) = c j
      rw [put_other (by omega)]
      exact h.sl j hj (by rwa [done_other e'] at e)
  · obtain ⟨L', E', h1, h2, h3, h4⟩ := h.cl (by rwa [done_other (by omega)] at e)
    refine ⟨L', E', h1, ?_, fun e => h3 (by rwa [done_other (by omega)] at e), fun e => h4 (by rwa [done_other (by omega)] at e)⟩
    show (a.put (some (124 + i)) (c i)).eval (.tmp 130) = _
    rw [put_other (by omega)]
    exact h2
/-- An operation that only reads. -/
theorem tn_read {i : Nat} (hi : i < 6) (hsz : 130 < f0.tmps.size) (hd : o.dst = some (124 + i))
    (hrun : ∀ D a y, Same tnS f0 a → TnR w x0 x1 x4 gi Ab nl cb Ai ni ci Bi mi di Di vi qi rs L E c D (fun k => a.eval (.tmp k)) y → D 6 = false → (∀ e, e ∈ o.after → Region.binds .any e = true → D e.on = true) → (execOp a.eval o).run Try.prog y = .ok (.value (c i)) y)
    (h6 : ∀ D, Closed l D → D 6 = true → D i = true) :
    RegStep Try.prog Q l tnS f0 (TnR w x0 x1 x4 gi Ab nl cb Ai ni ci Bi mi di Di vi qi rs L E c) i o := by
  intro D a y hcl hs hR hD hpre
  have h6f : D 6 = false := by
    cases h : D 6 with
    | false => rfl
    | true => have := h6 D hcl h; rw [hD] at this; cases this
  have hm : 124 + i ∈ tnS := by
    simp only [tnS, List.mem_cons, List.not_mem_nil, or_false]
    omega
  have hr := hrun D a y hs hR h6f hpre
  have hres : Same tnS f0 (a.put (some (124 + i)) (c i)) ∧ TnR w x0 x1 x4 gi Ab nl cb Ai ni ci Bi mi di Di vi qi rs L E c (fun j => j == i || D j) (fun k => (a.put (some (124 + i)) (c i)).eval (.tmp k)) y := ⟨hs.put hm _, tn_put hi hR (by rw [hs.size]; exact hsz)⟩
  rw [← hd] at hres
  unfold Oper.wp
  rw [hr, Oper.upon_value]
  exact hres
theorem tn_call {kd ta tb : Int} {ats : Array TypeId} (hsz : 130 < f0.tmps.size) (ho : o.op = .call { callee := .value (.func 40), args := #[.tmp 124, .tmp 125, .tmp 129], argTypes := ats }) (hd : o.dst = some 130)
    (e0 : edgeB o 0 = true) (e1 : edgeB o 1 = true) (e5 : edgeB o 5 = true) (h7 : ∃ o7, l[7]? = some o7 ∧ edgeB o7 6 = true)
    (c0 : c 0 = .agg (entL Ai ni ci Bi mi di Di vi qi E).toArray) (c1 : c 1 = .slice Ab nl cb) (c5 : c 5 = .agg #[.int .i64 kd, .int .i64 ta, .int .i64 tb]) (hok : tnOk nl ni mi vi L E) (hb : nl ≤ 5000 ∧ ni ≤ 5000 ∧ mi ≤ 5000 ∧ vi ≤ 5000) :
    RegStep Try.prog Q l tnS f0 (TnR w x0 x1 x4 gi Ab nl cb Ai ni ci Bi mi di Di vi qi rs L E c) 6 o := by
  intro D a y hcl hs hR hD hpre
  have h7f : D 7 = false := by
    obtain ⟨o7, ho7, he⟩ := h7
    cases h : D 7 with
    | false => rfl
    | true => have := edge_on he (hcl _ _ ho7 h); rw [hD] at this; cases this
  have v0 : a.eval (.tmp 124) = _ := (hR.sl 0 (by decide) (edge_on e0 hpre)).trans c0
  have v1 : a.eval (.tmp 125) = _ := (hR.sl 1 (by decide) (edge_on e1 hpre)).trans c1
  have v5 : a.eval (.tmp 129) = _ := (hR.sl 5 (by decide) (edge_on e5 hpre)).trans c5
  refine wp_call_go ho ⟨_, Try.func40, by decide, by kernel_rfl⟩ #[.agg (entL Ai ni ci Bi mi di Di vi qi E).toArray, .slice Ab nl cb, .agg #[.int .i64 kd, .int .i64 ta, .int .i64 tb]] (by simp only [List.map_toArray, List.map_cons, List.map_nil, v0, v1, v5])
    ((turned_any w _ rs L E Ab nl cb Ai ni ci Bi mi di Di vi qi kd ta tb y (hR.st hD) ⟨hok.1, hok.2.1, hok.2.2.1, hok.2.2.2, by omega, by omega, by omega, by omega⟩).mono fun r y' ⟨L', E', q1, q2, q3, q4, q5, q6⟩ => ⟨_, q1, ?_⟩)
  rw [hd]
  refine ⟨hs.put (by decide) _, fun e => ?_, fun j hj e => ?_, fun _ => ⟨L', E', ⟨by rw [q2]; exact hok.1, by rw [q3]; exact hok.2.1, by rw [q4]; exact hok.2.2.1, by rw [q5]; exact hok.2.2.2⟩, put_same (by rw [hs.size]; exact hsz) _, fun _ => q6, fun e => ?_⟩⟩
  · rw [done_same] at e; cases e
  · show (a.put (some 130) _).eval (.tmp (124 + j)) = c j
    rw [put_other (by omega)]
    exact hR.sl j hj (by rwa [done_other (by omega)] at e)
  · rw [done_other (by decide), h7f] at e; cases e
theorem tn_store (_hsz : 130 < f0.tmps.size) (ho : o.op = .store 27 (.tmp 12) (.tmp 130)) (hd : o.dst = none) (e6 : edgeB o 6 = true) (hp : f0.eval (.tmp 12) = .pointer (some ⟨gi, 0, none⟩)) :
    RegStep Try.prog Q l tnS f0 (TnR w x0 x1 x4 gi Ab nl cb Ai ni ci Bi mi di Di vi qi rs L E c) 7 o := by
  intro D a y hcl hs hR hD hpre
  have h6 := edge_on e6 hpre
  obtain ⟨L', E', q1, q2, q3, q4⟩ := hR.cl h6
  have hst := q3 hD
  have hb : (tnB x0 x1 x4 gi Ai ni ci Bi mi di Di vi qi E)[3]? = some (some (gi, entL Ai ni ci Bi mi di Di vi qi E)) := rfl
  refine wp_store_row ho ((hs.eval (by decide)).trans hp) q2 (hst.range hb) (hst.fz hb) rfl ent_size (entL_one _ _ _ _ _ _ _ _ _ _) ?_
  rw [hd]
  refine ⟨hs, fun e => ?_, fun j hj e => hR.sl j hj (by rwa [done_other (by omega)] at e), fun _ => ⟨L', E', q1, q2, fun e => ?_, fun _ => ?_⟩⟩
  · rw [done_other (by decide), h6] at e; cases e
  · rw [done_same] at e; cases e
  · exact (hst.put (vs := entL Ai ni ci Bi mi di Di vi qi E') hb rfl).1
end
end Go.Proofs.Ytcikhlieaoanoaa

/-
  CellAgain walked. (Printed by gen_again2.py.)
-/
namespace Go.Proofs.Ytcikhlieaoanoaa
open Go.RowKit

/-- A list of changes, as it lies there. -/
def Trn (w : World) (A : Option Addr) (n : Nat) : Prop := 0 < n → ∃ b o, A = some ⟨b, o, none⟩ ∧ b < w.heap.size ∧ ∀ i, i < n → ∃ k t y : Int, w.rangeAt b (o + i * 3) [.int .i64 k, .int .i64 t, .int .i64 y]
theorem Trn.later {w x : World} {A : Option Addr} {n : Nat} (h : Trn w A n) (hb : Below w.heap.size w x) : Trn x A n := fun hn => by
  obtain ⟨b, o, h1, h2, h3⟩ := h hn
  refine ⟨b, o, h1, Nat.lt_of_lt_of_le h2 hb.size, fun i hi => ?_⟩
  obtain ⟨k, t, y, h4⟩ := h3 i hi
  exact ⟨k, t, y, fun j v hv => cell_below hb (h4 j v hv)⟩
theorem turn_row : RowTy Try.prog 62 3 := ⟨⟨_, Try.underlying62, rfl⟩, by kernel_rfl⟩
def SlPst (l : List UInt8) (n : Nat) (mk : List UInt8) (v : Value) (R : RowL) : Prop := ∃ A c, v = .slice A n c ∧ R = [(A, c, l ++ mk)]
theorem lpst_cs {e : Ent} {cs : List Value} {R : RowL} (h : LPst e (.agg cs.toArray) R) : ∃ A c B d D q, cs = entL A e.row.length c B e.qual.length d D e.val.length q e ∧ R = [(A, c, e.row ++ mkL 70), (B, d, e.qual ++ mkL 70), (D, q, e.val ++ mkL 70)] := by
  obtain ⟨A, c, B, d, D, q, h1, h2⟩ := h
  injection h1 with h1
  have h1 := congrArg Array.toList h1
  exact ⟨A, c, B, d, D, q, h1, h2⟩
theorem row_one {T : TypeId} {w : World} {B : Nat} {A : Option Addr} {c : Nat} {l : List UInt8} (h : OwnB T B w A c l) : RowsB T B w [(A, c, l)] := RowsB.nil.snoc h (fun i r hr => by simp at hr)
theorem laid_part {A : Option Addr} {n c : Nat} {b L : List UInt8} {nl : Nat} {w : World} (h : Sl w A n c b) (hL : b.take 5000 = L) (hn : L.length = nl) : ∀ x, Below w.heap.size w x →
    Calls Try.prog 13 (.slice A n c :: [.int .i64 5000] : List Value).toArray x fun r y => ∃ v R, r = .returned v ∧ SlPst L nl (mkL 70) v R ∧ RowsB 5 x.heap.size y R ∧ Below x.heap.size x y := fun x hx =>
  (laid_any b A n c 5000 x (h.later hx) (by decide)).mono fun r y hp => by
    rw [hL] at hp
    obtain ⟨A', c', h1, h2, h3⟩ := laid_n hp hn
    exact ⟨_, _, h1, ⟨A', c', rfl, rfl⟩, row_one h2, h3⟩
theorem turn_addr {a : Act} {y : World} {b o nt ct k : Nat} {pos : String} {af : Array Edge} {g : Option (Nat × Bool)} {d : Option Tmp} {ty : TypeId} (h1 : a.eval (.tmp 126) = .slice (some ⟨b, o, none⟩) nt ct) (h2 : a.eval (.tmp 127) = .int .i64 (k : Int)) (hk : k < nt) :
    (execOp a.eval { dst := d, op := .indexAddr 59 (.tmp 126) (.tmp 127), type := ty, pos := pos, after := af, guard := g }).run Try.prog y = .ok (.value (.pointer (some ⟨b, o + k * 3, none⟩))) y := by
  have q1 : (0 : Int) ≤ (k : Int) := by omega
  have q2 : (k : Int) < (nt : Int) := by omega
  unfold execOp
  simp only [h1, h2]
  go_simp
theorem copied_partS {i : Nat} {A : Option Addr} {n c : Nat} {L : List UInt8} {w : World} {bs : List Bx1} {rs : RowL} (hr : rs[i]? = some (A, c, L ++ mkL 70)) (hL : L.length = n) (hn : n ≤ 5000) : ∀ x bs' rs', St 5 w (bs ++ bs') (rs ++ rs') x →
    Calls Try.prog 14 (.slice A n c :: [] : List Value).toArray x fun r y => ∃ v R, r = .returned v ∧ SlPst L n [] v R ∧ RowsB 5 x.heap.size y R ∧ Below x.heap.size x y := fun x bs' rs' h => by
  have hs : Sl x A n c L := sl_front (h.sl (n := n + 75) (i := i) (by rw [List.getElem?_append_left (List.getElem?_eq_some_iff.1 hr).1]; exact hr) (by rw [List.length_append, mkL_len, hL])) hL
  refine (copied_any L A n c x (by omega) hs.rb).mono fun r y hp => ?_
  obtain ⟨A', c', h1, _, h2, h3⟩ := hp.at_ hL
  exact ⟨_, _, h1, ⟨A', c', rfl, rfl⟩, row_one (by rw [List.append_nil]; exact h2), h3⟩
theorem cutE_same {e : Ent} (h : e.row.length ≤ 5000 ∧ e.qual.length ≤ 5000 ∧ e.val.length ≤ 5000) : cutE e = e := by
  unfold cutE
  rw [List.take_of_length_le h.1, List.take_of_length_le h.2.1, List.take_of_length_le h.2.2]
theorem enm_n {w x : World} {bs : List Bx1} {rs : RowL} {T : TypeId} {i n m v : Nat} {A : Option Addr} {c : Nat} {B : Option Addr} {d : Nat} {D : Option Addr} {q : Nat} {e : Ent} (h : St T w bs rs x)
    (h0 : rs[i]? = some (A, c, e.row ++ mkL 70)) (h1 : rs[i + 1]? = some (B, d, e.qual ++ mkL 70)) (h2 : rs[i + 2]? = some (D, q, e.val ++ mkL 70)) (hl : e.row.length = n ∧ e.qual.length = m ∧ e.val.length = v) (hb : n ≤ 5000 ∧ m ≤ 5000 ∧ v ≤ 5000) : EnM x A n c B m d D v q e :=
  ⟨h.sl h0 (by rw [List.length_append, mkL_len, hl.1]), h.sl h1 (by rw [List.length_append, mkL_len, hl.2.1]), h.sl h2 (by rw [List.length_append, mkL_len, hl.2.2]), ⟨hl.1, hb.1⟩, ⟨hl.2.1, hb.2.1⟩, ⟨hl.2.2, hb.2.2⟩⟩
theorem entry_partS {i n m v : Nat} {A : Option Addr} {c : Nat} {B : Option Addr} {d : Nat} {D : Option Addr} {q : Nat} {e : Ent} {w : World} {bs : List Bx1} {rs : RowL} (h0 : rs[i]? = some (A, c, e.row ++ mkL 70)) (h1 : rs[i + 1]? = some (B, d, e.qual ++ mkL 70)) (h2 : rs[i + 2]? = some (D, q, e.val ++ mkL 70))
    (hl : e.row.length = n ∧ e.qual.length = m ∧ e.val.length = v) (hb : n ≤ 5000 ∧ m ≤ 5000 ∧ v ≤ 5000) : ∀ x bs' rs', St 5 w (bs ++ bs') (rs ++ rs') x →
    Calls Try.prog 21 (.agg (entL A n c B m d D v q e).toArray :: [] : List Value).toArray x fun r y => ∃ v R, r = .returned v ∧ LPst e v R ∧ RowsB 5 x.heap.size y R ∧ Below x.heap.size x y := fun x bs' rs' h => by
  have ha : ∀ {k : Nat} {r : Option Addr × Nat × List UInt8}, rs[k]? = some r → (rs ++ rs')[k]? = some r := fun hr => by rw [List.getElem?_append_left (List.getElem?_eq_some_iff.1 hr).1]; exact hr
  have hE := (enm_n h (ha h0) (ha h1) (ha h2) hl hb).en
  have h3 := entry_part hE x (Below.refl _ _)
  rw [cutE_same (by omega)] at h3
  exact h3
theorem copied_part {A : Option Addr} {n c : Nat} {L : List UInt8} {w : World} (h : ∀ x, Below w.heap.size w x → Sl x A n c L) (hn : n ≤ 140737488355000) : ∀ x, Below w.heap.size w x →
    Calls Try.prog 14 (.slice A n c :: [] : List Value).toArray x fun r y => ∃ v R, r = .returned v ∧ SlPst L n [] v R ∧ RowsB 5 x.heap.size y R ∧ Below x.heap.size x y := fun x hx =>
  (copied_any L A n c x hn (h x hx).rb).mono fun r y hp => by
    obtain ⟨A', c', h1, _, h2, h3⟩ := hp.at_ (h x hx).len
    exact ⟨_, _, h1, ⟨A', c', rfl, rfl⟩, row_one (by rw [List.append_nil]; exact h2), h3⟩
set_option maxRecDepth 100000 in
set_option maxHeartbeats 4000000 in
theorem again_any (b : List UInt8) (A0 : Option Addr) (n0 c0 : Nat) (e f : Ent) (A1 : Option Addr) (n1 c1 : Nat) (B1 : Option Addr) (m1 d1 : Nat) (D1 : Option Addr) (v1 q1 : Nat) (A2 : Option Addr) (n2 c2 : Nat) (B2 : Option Addr) (m2 d2 : Nat) (D2 : Option Addr) (v2 q2 : Nat) (a : Int) (At : Option Addr) (nt ct : Nat) (w : World) (hs : Sl w A0 n0 c0 b) (h1 : En w A1 n1 c1 B1 m1 d1 D1 v1 q1 e) (h2 : En w A2 n2 c2 B2 m2 d2 D2 v2 q2 f) (ht : Trn w At nt) (hnt : nt ≤ ct ∧ ct ≤ 9223372036854775807) :
    Calls Try.prog 10 #[.slice A0 n0 c0, entV A1 n1 c1 B1 m1 d1 D1 v1 q1 e, entV A2 n2 c2 B2 m2 d2 D2 v2 q2 f, .int .i64 a, .slice At nt ct] w fun r w' => r = .returned (.bool true) ∧ Below w.heap.size w w' := by
  have HB := Lib.hid hs
  have H1 := Lib.hid h1
  have H2 := Lib.hid h2
  have HT := Lib.hid ht
  obtain ⟨hn1, hn2⟩ := hnt
  have HX : Hid (St 5 w [some (w.heap.size, (entL A1 n1 c1 B1 m1 d1 D1 v1 q1 e)), some (w.heap.size + 1, (entL A2 n2 c2 B2 m2 d2 D2 v2 q2 f))] [] ((w.alloc (.cells (entL A1 n1 c1 B1 m1 d1 D1 v1 q1 e).toArray 27)).alloc (.cells (entL A2 n2 c2 B2 m2 d2 D2 v2 q2 f).toArray 27))) := Lib.hid (by
    have h := ((St.nil 5 w).push (t := 27) (entL A1 n1 c1 B1 m1 d1 D1 v1 q1 e)).push (t := 27) (entL A2 n2 c2 B2 m2 d2 D2 v2 q2 f)
    have e1 : ∀ (x : World) o, (x.alloc o).heap.size = x.heap.size + 1 := fun x o => by show (x.heap.push o).size = _; simp
    rw [e1] at h
    exact h)
  obtain ⟨L0, hL⟩ : ∃ L, L = b.take 5000 := ⟨_, rfl⟩
  obtain ⟨nl, hnl⟩ : ∃ n, n = L0.length := ⟨_, rfl⟩
  have HL := Lib.hid hL.symm
  have HN : Hid (L0.length = nl ∧ nl ≤ 5000) := Lib.hid ⟨hnl.symm, by rw [hnl, hL, List.length_take]; omega⟩
  obtain ⟨E0, hE⟩ : ∃ E, E = cutE e := ⟨_, rfl⟩
  obtain ⟨F, hF⟩ : ∃ E, E = cutE f := ⟨_, rfl⟩
  have HEL : Hid (E0.row.length ≤ 5000 ∧ E0.qual.length ≤ 5000 ∧ E0.val.length ≤ 5000) := Lib.hid (by rw [hE]; exact cutE_len e)
  have HFL : Hid (F.row.length ≤ 5000 ∧ F.qual.length ≤ 5000 ∧ F.val.length ≤ 5000) := Lib.hid (by rw [hF]; exact cutE_len f)
  have HCE : Hid (cutE e = E0 ∧ cutE f = F) := Lib.hid ⟨hE.symm, hF.symm⟩
  have HCF := Lib.hid hF.symm
  clear hL hnl hE hF hs h1 h2 ht
  unfold entV
  go_enter Try.func10, Try.ntmps10
  go_wp2_with fail
  refine wp_region_reg (by kernel_rfl) (by kernel_rfl) (Parts.slots (⟨3, fun j => 27 + 2 * j, fun j => 28 + 2 * j, fun j => 11 + j, fun j => 2 * j, fun j => 2 * j + 1, fun j => match j with | 0 => 11 | 1 => 6 | _ => 7, fun j => 8 + j⟩ : Parts)) (PartRG (⟨3, fun j => 27 + 2 * j, fun j => 28 + 2 * j, fun j => 11 + j, fun j => 2 * j, fun j => 2 * j + 1, fun j => match j with | 0 => 11 | 1 => 6 | _ => 7, fun j => 8 + j⟩ : Parts) (fun j => match j with | 0 => false | _ => true) 5 w [some (w.heap.size, (entL A1 n1 c1 B1 m1 d1 D1 v1 q1 e)), some (w.heap.size + 1, (entL A2 n2 c2 B2 m2 d2 D2 v2 q2 f))] [] 7 (fun j => match j with | 0 => .slice A0 n0 c0 | 1 => .agg (entL A1 n1 c1 B1 m1 d1 D1 v1 q1 e).toArray | _ => .agg (entL A2 n2 c2 B2 m2 d2 D2 v2 q2 f).toArray) (fun j => match j with | 0 => SlPst L0 nl (mkL 70) | 1 => LPst E0 | _ => LPst F)) (partRG_start HX.out.drew)
    ⟨partG_move (j := 0) rfl (by decide) rfl rfl (by decide) rfl, partG_call (j := 0) (xs := [.const (.int .i64 5000)]) rfl (by decide) rfl (fun _ => rfl) rfl ⟨_, Try.func13, by decide, by kernel_rfl⟩ (by kernel_rfl) (by kernel_rfl) ⟨_, rfl, by kernel_rfl⟩ (laid_part HB.out HL.out HN.out.1),
     partG_load (j := 1) (i := 0) rfl (by decide) rfl rfl (by decide) rfl rfl ent_row rfl, partG_call (j := 1) (xs := []) rfl (by decide) rfl (fun _ => rfl) rfl go_entry (by kernel_rfl) (by kernel_rfl) ⟨_, rfl, by kernel_rfl⟩ (fun x hx => by have h := entry_part H1.out x hx; rw [HCE.out.1] at h; exact h),
     partG_load (j := 2) (i := 1) rfl (by decide) rfl rfl (by decide) rfl rfl ent_row rfl, partG_call (j := 2) (xs := []) rfl (by decide) rfl (fun _ => rfl) rfl go_entry (by kernel_rfl) (by kernel_rfl) ⟨_, rfl, by kernel_rfl⟩ (fun x hx => by have h := entry_part H2.out x hx; rw [HCE.out.2] at h; exact h),
     partG_alloc (j := 1) (cs := zeroL) rfl (by decide) rfl rfl rfl ent_zero rfl ⟨_, rfl, by kernel_rfl⟩, partG_alloc (j := 2) (cs := zeroL) rfl (by decide) rfl rfl rfl ent_zero rfl ⟨_, rfl, by kernel_rfl⟩,
     partG_asg (j := 0) rfl (by decide) rfl rfl rfl, partG_store (j := 1) rfl (by decide) rfl rfl rfl (by kernel_rfl) (by kernel_rfl) lpst_cells ent_size, partG_store (j := 2) rfl (by decide) rfl rfl rfl (by kernel_rfl) (by kernel_rfl) lpst_cells ent_size, trivial⟩ ?_
  intro Dn sv x1 hall hR
  obtain ⟨bb, RR, hst, hp⟩ := hR
  obtain ⟨k1, Ab, cb, k2, k3⟩ := (hp 0 (by decide)).end0 (hall 1 (by decide)) (hall 8 (by decide))
  obtain ⟨gi, cs1, k4, k5, k6⟩ := (hp 1 (by decide)).end1 (hall 3 (by decide)) (hall 6 (by decide)) (hall 9 (by decide))
  obtain ⟨gf, cs2, k7, k8, k9⟩ := (hp 2 (by decide)).end1 (hall 5 (by decide)) (hall 7 (by decide)) (hall 10 (by decide))
  obtain ⟨Ai, ci, Bi, di, Di, qi, rfl, r6⟩ := lpst_cs (e := E0) k6
  obtain ⟨Af, cf, Bf, df, Df, qf, rfl, r9⟩ := lpst_cs (e := F) k9
  have hst : St 5 w ([some (w.heap.size, (entL A1 n1 c1 B1 m1 d1 D1 v1 q1 e)), some (w.heap.size + 1, (entL A2 n2 c2 B2 m2 d2 D2 v2 q2 f))] ++ [bb 0, bb 1, bb 2]) ([] ++ (RR 0 ++ (RR 1 ++ (RR 2 ++ [])))) x1 := hst
  rw [k1, k5, k8, k3, r6, r9] at hst
  have k2 : sv 11 = .slice Ab nl cb := k2
  have k4 : sv 12 = .pointer (some ⟨gi, 0, none⟩) := k4
  have k7 : sv 13 = .pointer (some ⟨gf, 0, none⟩) := k7
  simp only [show Parts.slots (⟨3, fun j => 27 + 2 * j, fun j => 28 + 2 * j, fun j => 11 + j, fun j => 2 * j, fun j => 2 * j + 1, fun j => match j with | 0 => 11 | 1 => 6 | _ => 7, fun j => 8 + j⟩ : Parts) = [27, 28, 11, 29, 30, 12, 31, 32, 13] from rfl, putsF, List.foldl_cons, List.foldl_nil, Act.put, List.setIfInBounds_toArray, List.set_cons_zero, List.set_cons_succ, k2, k4, k7]
  obtain ⟨ni, hni⟩ : ∃ n, n = E0.row.length := ⟨_, rfl⟩
  obtain ⟨mi, hmi⟩ : ∃ n, n = E0.qual.length := ⟨_, rfl⟩
  obtain ⟨vi, hvi⟩ : ∃ n, n = E0.val.length := ⟨_, rfl⟩
  have HI : Hid (ni ≤ 5000 ∧ mi ≤ 5000 ∧ vi ≤ 5000) := Lib.hid (by rw [hni, hmi, hvi]; exact HEL.out)
  have HS0 : Hid (∃ (L : List UInt8) (E : Ent), (L.length = nl ∧ E.row.length = ni ∧ E.qual.length = mi ∧ E.val.length = vi) ∧ St 5 w [some (w.heap.size, (entL A1 n1 c1 B1 m1 d1 D1 v1 q1 e)), some (w.heap.size + 1, (entL A2 n2 c2 B2 m2 d2 D2 v2 q2 f)), none, some (gi, (entL Ai ni ci Bi mi di Di vi qi E)), some (gf, (entL Af F.row.length cf Bf F.qual.length df Df F.val.length qf F))] [(Ab, cb, L ++ mkL 70), (Ai, ci, E.row ++ mkL 70), (Bi, di, E.qual ++ mkL 70), (Di, qi, E.val ++ mkL 70), (Af, cf, F.row ++ mkL 70), (Bf, df, F.qual ++ mkL 70), (Df, qf, F.val ++ mkL 70)] x1) := Lib.hid ⟨L0, E0, ⟨HN.out.1, hni.symm, hmi.symm, hvi.symm⟩, by rw [hni, hmi, hvi]; exact hst⟩
  clear hst hp k1 k2 k3 k4 k5 k6 k7 k8 k9 r6 r9 hall HX hni hmi hvi HL HCE HEL HB H1
  go_wp2_with fail
  go_loopw [14] (fun i wr => ∃ k : Nat, k ≤ 31 ∧ i = .int .i64 k ∧ Hid (∃ (L : List UInt8) (E : Ent), (L.length = nl ∧ E.row.length = ni ∧ E.qual.length = mi ∧ E.val.length = vi) ∧ St 5 w [some (w.heap.size, (entL A1 n1 c1 B1 m1 d1 D1 v1 q1 e)), some (w.heap.size + 1, (entL A2 n2 c2 B2 m2 d2 D2 v2 q2 f)), none, some (gi, (entL Ai ni ci Bi mi di Di vi qi E)), some (gf, (entL Af F.row.length cf Bf F.qual.length df Df F.val.length qf F))] [(Ab, cb, L ++ mkL 70), (Ai, ci, E.row ++ mkL 70), (Bi, di, E.qual ++ mkL 70), (Di, qi, E.val ++ mkL 70), (Af, cf, F.row ++ mkL 70), (Bf, df, F.qual ++ mkL 70), (Df, qf, F.val ++ mkL 70)] wr)) (fun i _ => 31 - (intOf i).toNat)
  case atStart => exact ⟨0, by omega, rfl, HS0⟩
  case round =>
    obtain ⟨k, hk, rfl, HREL⟩ := hrel
    clear HS0
    obtain ⟨L, E, hlen, hst⟩ := HREL.out
    have HLE := Lib.hid hlen
    have HX := Lib.hid hst
    clear HREL hlen hst
    by_cases hc : k ≤ nt ∧ k ≤ 30
    · obtain ⟨hc1, hc2⟩ := hc
      have hd1 : decide ((k : Int) ≤ (nt : Int)) = true := decide_eq_true (by omega)
      have hd2 : decide (k ≤ nt) = true := decide_eq_true hc1
      have hd3 : decide ((k : Int) ≤ 30) = true := decide_eq_true (by omega)
      have hd4 : decide (k ≤ 30) = true := decide_eq_true hc2
      obtain ⟨X, hX⟩ : ∃ x, x = (ParseKeyE L).1 := ⟨_, rfl⟩
      obtain ⟨z, hz⟩ : ∃ x, x = (ParseKeyE L).2 := ⟨_, rfl⟩
      obtain ⟨Y, hY⟩ : ∃ x, x = (UnpackE L a).1 := ⟨_, rfl⟩
      obtain ⟨pp, hpp⟩ : ∃ x, x = (UnpackE L a).2.1 := ⟨_, rfl⟩
      obtain ⟨zz, hzz⟩ : ∃ x, x = (UnpackE L a).2.2 := ⟨_, rfl⟩
      have HPK : Hid (ParseKeyE L = (X, z)) := Lib.hid (by rw [hX, hz])
      have HUP : Hid (UnpackE L a = (Y, pp, zz)) := Lib.hid (by rw [hY, hpp, hzz])
      clear hX hz hY hpp hzz
      go_wp2_with fail
      refine wp_region_reg (by kernel_rfl) (by kernel_rfl) (Parts.slots (⟨2, fun j => 43 + 2 * j, fun j => 44 + 2 * j, fun j => 15 + j, fun j => 2 * j, fun j => 2 * j + 1, fun j => match j with | 0 => 7 | _ => 4, fun j => 5 + j⟩ : Parts)) (PartRG (⟨2, fun j => 43 + 2 * j, fun j => 44 + 2 * j, fun j => 15 + j, fun j => 2 * j, fun j => 2 * j + 1, fun j => match j with | 0 => 7 | _ => 4, fun j => 5 + j⟩ : Parts) (fun j => match j with | 0 => false | _ => true) 5 w [some (w.heap.size, (entL A1 n1 c1 B1 m1 d1 D1 v1 q1 e)), some (w.heap.size + 1, (entL A2 n2 c2 B2 m2 d2 D2 v2 q2 f)), none, some (gi, (entL Ai ni ci Bi mi di Di vi qi E)), some (gf, (entL Af F.row.length cf Bf F.qual.length df Df F.val.length qf F))] [(Ab, cb, L ++ mkL 70), (Ai, ci, E.row ++ mkL 70), (Bi, di, E.qual ++ mkL 70), (Di, qi, E.val ++ mkL 70), (Af, cf, F.row ++ mkL 70), (Bf, df, F.qual ++ mkL 70), (Df, qf, F.val ++ mkL 70)] 7 (fun j => match j with | 0 => .slice Ab nl cb | _ => .agg (entL Ai ni ci Bi mi di Di vi qi E).toArray) (fun j => match j with | 0 => SlPst L nl [] | _ => LPst E)) (partRG_start HX.out.drew)
        ⟨partG_move (j := 0) rfl (by decide) rfl rfl (by decide) rfl, partG_callS (j := 0) (xs := []) rfl (by decide) rfl (fun _ => rfl) rfl ⟨_, Try.func14, by decide, by kernel_rfl⟩ (by kernel_rfl) (by kernel_rfl) ⟨_, rfl, by kernel_rfl⟩ (copied_partS (i := 0) rfl HLE.out.1 HN.out.2),
         partG_load (j := 1) (i := 3) rfl (by decide) rfl rfl (by decide) rfl rfl ent_row rfl, partG_callS (j := 1) (xs := []) rfl (by decide) rfl (fun _ => rfl) rfl go_entry (by kernel_rfl) (by kernel_rfl) ⟨_, rfl, by kernel_rfl⟩ (entry_partS (i := 1) rfl rfl rfl HLE.out.2 HI.out),
         partG_alloc (j := 1) (cs := zeroL) rfl (by decide) rfl rfl rfl ent_zero rfl ⟨_, rfl, by kernel_rfl⟩,
         partG_asg (j := 0) rfl (by decide) rfl rfl rfl, partG_store (j := 1) rfl (by decide) rfl rfl rfl (by kernel_rfl) (by kernel_rfl) lpst_cells ent_size, trivial⟩ ?_
      intro Dm sw x3 hall hR
      obtain ⟨bb2, RR2, hst, hp⟩ := hR
      obtain ⟨k1, Aw, cw, k2, k3⟩ := (hp 0 (by decide)).end0 (hall 1 (by decide)) (hall 5 (by decide))
      obtain ⟨gn, cs1, k4, k5, k6⟩ := (hp 1 (by decide)).end1 (hall 3 (by decide)) (hall 4 (by decide)) (hall 6 (by decide))
      obtain ⟨An, cn, Bn, dn, Dn', qn, rfl, r6⟩ := lpst_cs (e := E) k6
      have hst : St 5 w ([some (w.heap.size, (entL A1 n1 c1 B1 m1 d1 D1 v1 q1 e)), some (w.heap.size + 1, (entL A2 n2 c2 B2 m2 d2 D2 v2 q2 f)), none, some (gi, (entL Ai ni ci Bi mi di Di vi qi E)), some (gf, (entL Af F.row.length cf Bf F.qual.length df Df F.val.length qf F))] ++ [bb2 0, bb2 1]) ([(Ab, cb, L ++ mkL 70), (Ai, ci, E.row ++ mkL 70), (Bi, di, E.qual ++ mkL 70), (Di, qi, E.val ++ mkL 70), (Af, cf, F.row ++ mkL 70), (Bf, df, F.qual ++ mkL 70), (Df, qf, F.val ++ mkL 70)] ++ (RR2 0 ++ (RR2 1 ++ []))) x3 := hst
      rw [k1, k5, k3, r6, List.append_nil L, HLE.out.2.1, HLE.out.2.2.1, HLE.out.2.2.2] at hst
      have k2 : sw 15 = .slice Aw nl cw := k2
      have k4 : sw 16 = .pointer (some ⟨gn, 0, none⟩) := k4
      simp only [show Parts.slots (⟨2, fun j => 43 + 2 * j, fun j => 44 + 2 * j, fun j => 15 + j, fun j => 2 * j, fun j => 2 * j + 1, fun j => match j with | 0 => 7 | _ => 4, fun j => 5 + j⟩ : Parts) = [43, 44, 15, 45, 46, 16] from rfl, putsF, List.foldl_cons, List.foldl_nil, Act.put, List.setIfInBounds_toArray, List.set_cons_zero, List.set_cons_succ, k2, k4]
      replace HX := Lib.hid hst
      clear hst hp k1 k2 k3 k4 k5 k6 r6 hall
      have HIN : Hid (∀ x', Below x3.heap.size x3 x' → EnM x' Ai ni ci Bi mi di Di vi qi E) := Lib.hid fun x' hx => (enm_n (i := 1) HX.out rfl rfl rfl HLE.out.2 HI.out).later hx
      have HNW : Hid (∀ x', Below x3.heap.size x3 x' → EnM x' An ni cn Bn mi dn Dn' vi qn E) := Lib.hid fun x' hx => (enm_n (i := 8) HX.out rfl rfl rfl HLE.out.2 HI.out).later hx
      have HFR : Hid (∀ x', Below x3.heap.size x3 x' → EnM x' Af F.row.length cf Bf F.qual.length df Df F.val.length qf F) := Lib.hid fun x' hx => (enm_of (i := 4) HX.out rfl rfl rfl HFL.out).later hx
      have HBU : Hid (∀ x', Below x3.heap.size x3 x' → Sl x' Ab (nl + 75) cb (L ++ mkL 70)) := Lib.hid fun x' hx => (HX.out.sl (n := nl + 75) (i := 0) rfl (by rw [List.length_append, mkL_len, HLE.out.1])).later hx
      have HWA : Hid (∀ x', Below x3.heap.size x3 x' → Sl x' Aw nl cw L) := Lib.hid fun x' hx => (HX.out.sl (i := 7) rfl HLE.out.1).later hx
      have HR := Lib.hid (St.nil 5 x3)
      go_wp2_with (first | (go_at_call 15; go_must (refine (parsekey_any L Ab nl cb _ (sl_front (HBU.out _ HR.out.up) HLE.out.1) (by have := HN.out; omega)).mono ?_); rw [HPK.out]; rintro r y21 ⟨A21, c21, B21, d21, D21, q21, rfl, hr, hb⟩; replace HR := Lib.hid (HR.out.app hb hr); clear hr hb) | (refine wpList_alloc_st rfl 27 rfl HR.out zeroL ent_zero ?_; intro g21 w21 hst _; replace HR := Lib.hid hst; clear hst) | (refine wpList_store_st rfl 27 (.tmp 17) (.tmp 50) rfl HR.out 0 (g := g21) rfl rfl (entL A21 X.row.length c21 B21 X.qual.length d21 D21 X.val.length q21 X) rfl rfl ent_size (entL_one _ _ _ _ _ _ _ _ _ _) ?_; intro v21 hst _; replace HR := Lib.hid hst; clear hst))
      go_wp2_with (first | (go_at_call 16; go_must (refine (rparsekey_any L Aw nl cw _ (HWA.out _ HR.out.up) (by have := HN.out; omega)).mono ?_); rw [HPK.out]; rintro r y22 ⟨A22, c22, B22, d22, D22, q22, rfl, hr, hb⟩; replace HR := Lib.hid (HR.out.app hb hr); clear hr hb) | (refine wpList_alloc_st rfl 27 rfl HR.out zeroL ent_zero ?_; intro g22 w22 hst _; replace HR := Lib.hid hst; clear hst) | (refine wpList_store_st rfl 27 (.tmp 19) (.tmp 55) rfl HR.out 1 (g := g22) rfl rfl (entL A22 X.row.length c22 B22 X.qual.length d22 D22 X.val.length q22 X) rfl rfl ent_size (entL_one _ _ _ _ _ _ _ _ _ _) ?_; intro v22 hst _; replace HR := Lib.hid hst; clear hst))
      go_wp2_with (first | (go_at_call 37; go_must (refine (unpack_any L Ab nl cb a _ (sl_front (HBU.out _ HR.out.up) HLE.out.1) (by have := HN.out; omega)).mono ?_); rw [HUP.out]; rintro r y23 ⟨A23, c23, B23, d23, D23, q23, rfl, hr, hb⟩; replace HR := Lib.hid (HR.out.app hb hr); clear hr hb) | (refine wpList_alloc_st rfl 27 rfl HR.out zeroL ent_zero ?_; intro g23 w23 hst _; replace HR := Lib.hid hst; clear hst) | (refine wpList_store_st rfl 27 (.tmp 21) (.tmp 61) rfl HR.out 2 (g := g23) rfl rfl (entL A23 Y.row.length c23 B23 Y.qual.length d23 D23 Y.val.length q23 Y) rfl rfl ent_size (entL_one _ _ _ _ _ _ _ _ _ _) ?_; intro v23 hst _; replace HR := Lib.hid hst; clear hst))
      go_wp2_with (first | (go_at_call 38; go_must (refine (runpack_any L Aw nl cw a _ (HWA.out _ HR.out.up) (by have := HN.out; omega)).mono ?_); rw [HUP.out]; rintro r y24 ⟨A24, c24, B24, d24, D24, q24, rfl, hr, hb⟩; replace HR := Lib.hid (HR.out.app hb hr); clear hr hb) | (refine wpList_alloc_st rfl 27 rfl HR.out zeroL ent_zero ?_; intro g24 w24 hst _; replace HR := Lib.hid hst; clear hst) | (refine wpList_store_st rfl 27 (.tmp 24) (.tmp 68) rfl HR.out 3 (g := g24) rfl rfl (entL A24 Y.row.length c24 B24 Y.qual.length d24 D24 Y.val.length q24 Y) rfl rfl ent_size (entL_one _ _ _ _ _ _ _ _ _ _) ?_; intro v24 hst _; replace HR := Lib.hid hst; clear hst) | (refine wpList_load_row7 rfl 27 (.tmp 12) rfl rfl ((HX.out.later HR.out.up).range (i := 3) rfl) ent_row ?_) | (refine wpList_load_row7 rfl 27 (.tmp 16) rfl rfl ((HX.out.later HR.out.up).range (i := 6) rfl) ent_row ?_) | (refine wpList_load_row7 rfl 27 (.tmp 13) rfl rfl ((HX.out.later HR.out.up).range (i := 4) rfl) ent_row ?_))
      go_wp2_with (first | (go_at_call 39; go_must (refine (written_any E F Ai ni ci Bi mi di Di vi qi An ni cn Bn mi dn Dn' vi qn Af F.row.length cf Bf F.qual.length df Df F.val.length qf _ (HIN.out _ HR.out.up).en (HNW.out _ HR.out.up).en (HFR.out _ HR.out.up).en (by have := HI.out; omega)).mono ?_); rintro r y25 ⟨rfl, hb⟩; replace HR := Lib.hid (HR.out.later hb); clear hb) | (refine wpList_load_row7 rfl 27 (.tmp 17) rfl rfl (HR.out.range (i := 0) rfl) ent_row ?_) | (refine wpList_load_row7 rfl 27 (.tmp 19) rfl rfl (HR.out.range (i := 1) rfl) ent_row ?_))
      have tk : True := trivial
      go_wp2_with (first | (go_at_call 17; have _t := tk; go_must (refine (sameEntry_any X X A21 X.row.length c21 B21 X.qual.length d21 D21 X.val.length q21 A22 X.row.length c22 B22 X.qual.length d22 D22 X.val.length q22 _ rfl ⟨HR.out.sl (i := 0) rfl rfl, HR.out.sl (i := 1) rfl rfl, HR.out.sl (i := 2) rfl rfl⟩ ⟨HR.out.sl (i := 3) rfl rfl, HR.out.sl (i := 4) rfl rfl, HR.out.sl (i := 5) rfl rfl⟩).mono ?_); rintro r y26 ⟨rfl, hb⟩; replace HR := Lib.hid (HR.out.later hb); clear hb tk) | (refine wpList_load_row7 rfl 27 (.tmp 21) rfl rfl (HR.out.range (i := 2) rfl) ent_row ?_) | (refine wpList_load_row7 rfl 27 (.tmp 24) rfl rfl (HR.out.range (i := 3) rfl) ent_row ?_))
      have tk : True := trivial
      go_wp2_with (first | (go_at_call 17; have _t := tk; go_must (refine (sameEntry_any Y Y A23 Y.row.length c23 B23 Y.qual.length d23 D23 Y.val.length q23 A24 Y.row.length c24 B24 Y.qual.length d24 D24 Y.val.length q24 _ rfl ⟨HR.out.sl (i := 6) rfl rfl, HR.out.sl (i := 7) rfl rfl, HR.out.sl (i := 8) rfl rfl⟩ ⟨HR.out.sl (i := 9) rfl rfl, HR.out.sl (i := 10) rfl rfl, HR.out.sl (i := 11) rfl rfl⟩).mono ?_); rintro r y27 ⟨rfl, hb⟩; replace HR := Lib.hid (HR.out.later hb); clear hb tk))
      have HS := Lib.hid (Below.refl y27.heap.size y27).drew
      refine lx_start (S := fun x => Below y27.heap.size y27 x) (by kernel_rfl) HS.out ?_
      refine lx_take 0 rfl (by kernel_rfl) (by kernel_rfl) (by kernel_rfl) (fun _ _ _ h => h) (v := ?_) (yi_run rfl (fun w => ?_)) HS.out ?_
      rotate_left
      · first | (go_simp; done) | (go_simp; with_reducible rfl)
      simp only [Act.put, List.setIfInBounds_toArray, List.set_cons_zero, List.set_cons_succ]
      refine lx_take 1 rfl (by kernel_rfl) (by kernel_rfl) (by kernel_rfl) (fun _ _ _ h => h) (v := ?_) (yi_run rfl (fun w => ?_)) HS.out ?_
      rotate_left
      · first | (go_simp; done) | (go_simp; with_reducible rfl)
      simp only [Act.put, List.setIfInBounds_toArray, List.set_cons_zero, List.set_cons_succ]
      refine lx_call 2 rfl (by kernel_rfl) rfl rfl ⟨_, Try.func18, by decide, by kernel_rfl⟩ [.slice Ab nl cb, .slice Aw nl cw] rfl ?_
      refine (intact_any L Ab Aw nl cb cw _ (HBU.out _ (below_up HR.out.up HS.out)) (HWA.out _ (below_up HR.out.up HS.out)).rb (by have := HN.out; omega)).mono ?_
      rintro r x31 ⟨rfl, hb31⟩
      replace HS := Lib.hid (below_up HS.out hb31)
      clear hb31
      refine ⟨_, rfl, HS.out, ?_⟩
      simp only [Act.put, List.setIfInBounds_toArray, List.set_cons_zero, List.set_cons_succ]
      refine lx_take 3 rfl (by kernel_rfl) (by kernel_rfl) (by kernel_rfl) (fun _ _ _ h => h) (v := ?_) (yi_run rfl (fun w => ?_)) HS.out ?_
      rotate_left
      · first | (go_simp; done) | (go_simp; with_reducible rfl)
      simp only [Act.put, List.setIfInBounds_toArray, List.set_cons_zero, List.set_cons_succ]
      refine lx_take 4 rfl (by kernel_rfl) (by kernel_rfl) (by kernel_rfl) (fun _ _ _ h => h) (v := ?_) (yi_run rfl (fun w => ?_)) HS.out ?_
      rotate_left
      · first | (go_simp; done) | (go_simp; with_reducible rfl)
      simp only [Act.put, List.setIfInBounds_toArray, List.set_cons_zero, List.set_cons_succ]
      refine lx_take 5 rfl (by kernel_rfl) (by kernel_rfl) (by kernel_rfl) (fun _ _ _ h => h) (yi_row rfl rfl rfl (fun w hS => ((HX.out.later HR.out.up).later hS).range (i := 3) rfl) ent_row) HS.out ?_
      simp only [Act.put, List.setIfInBounds_toArray, List.set_cons_zero, List.set_cons_succ]
      refine lx_take 6 rfl (by kernel_rfl) (by kernel_rfl) (by kernel_rfl) (fun _ _ _ h => h) (yi_row rfl rfl rfl (fun w hS => ((HX.out.later HR.out.up).later hS).range (i := 6) rfl) ent_row) HS.out ?_
      simp only [Act.put, List.setIfInBounds_toArray, List.set_cons_zero, List.set_cons_succ]
      refine lx_call 7 rfl (by kernel_rfl) rfl rfl ⟨_, Try.func24, by decide, by kernel_rfl⟩ [.agg (entL Ai ni ci Bi mi di Di vi qi E).toArray, .agg (entL An ni cn Bn mi dn Dn' vi qn E).toArray] rfl ?_
      refine (stands_any E Ai ni ci Bi mi di Di vi qi An cn Bn dn Dn' qn _ (HIN.out _ (below_up HR.out.up HS.out)) (HNW.out _ (below_up HR.out.up HS.out)).en).mono ?_
      rintro r x32 ⟨rfl, hb32⟩
      replace HS := Lib.hid (below_up HS.out hb32)
      clear hb32
      refine ⟨_, rfl, HS.out, ?_⟩
      simp only [Act.put, List.setIfInBounds_toArray, List.set_cons_zero, List.set_cons_succ]
      refine lx_take 8 rfl (by kernel_rfl) (by kernel_rfl) (by kernel_rfl) (fun _ _ _ h => h) (v := ?_) (yi_run rfl (fun w => ?_)) HS.out ?_
      rotate_left
      · first | (go_simp; done) | (go_simp; with_reducible rfl)
      simp only [Act.put, List.setIfInBounds_toArray, List.set_cons_zero, List.set_cons_succ]
      refine lx_take 9 rfl (by kernel_rfl) (by kernel_rfl) (by kernel_rfl) (fun _ _ _ h => h) (v := ?_) (yi_run rfl (fun w => ?_)) HS.out ?_
      rotate_left
      · first | (go_simp; done) | (go_simp; with_reducible rfl)
      simp only [Act.put, List.setIfInBounds_toArray, List.set_cons_zero, List.set_cons_succ]
      refine lx_take 10 rfl (by kernel_rfl) (by kernel_rfl) (by kernel_rfl) (fun _ _ _ h => h) (v := ?_) (yi_run rfl (fun w => ?_)) HS.out ?_
      rotate_left
      · first | (go_simp; done) | (go_simp; with_reducible rfl)
      simp only [Act.put, List.setIfInBounds_toArray, List.set_cons_zero, List.set_cons_succ]
      refine lx_take 11 rfl (by kernel_rfl) (by kernel_rfl) (by kernel_rfl) (fun _ _ _ h => h) (yi_row rfl rfl rfl (fun w hS => ((HX.out.later HR.out.up).later hS).range (i := 4) rfl) ent_row) HS.out ?_
      simp only [Act.put, List.setIfInBounds_toArray, List.set_cons_zero, List.set_cons_succ]
      refine lx_take 12 rfl (by kernel_rfl) (by kernel_rfl) (by kernel_rfl) (fun _ _ _ h => h) (yi_row rfl rfl rfl (fun w hS => ((HX.out.later HR.out.up).later hS).range (i := 1) rfl) ent_row) HS.out ?_
      simp only [Act.put, List.setIfInBounds_toArray, List.set_cons_zero, List.set_cons_succ]
      refine lx_call 13 rfl (by kernel_rfl) rfl rfl ⟨_, Try.func21, by decide, by kernel_rfl⟩ [.agg (entL A2 n2 c2 B2 m2 d2 D2 v2 q2 f).toArray] rfl ?_
      refine (entry_any f A2 n2 c2 B2 m2 d2 D2 v2 q2 _ (H2.out.later (below_up (HX.out.later HR.out.up).up HS.out))).mono ?_
      rw [HCF.out]
      rintro r x33 ⟨A33, c33, B33, d33, D33, q33, rfl, hr33, hb33⟩
      have HM33 : Hid (∀ x, Below x33.heap.size x33 x → EnM x A33 F.row.length c33 B33 F.qual.length d33 D33 F.val.length q33 F) := Lib.hid fun x hx => (LaidE.enm hr33 HFL.out.1 HFL.out.2.1 HFL.out.2.2).later hx
      replace HS := Lib.hid (below_up HS.out hb33)
      clear hb33
      clear hr33
      refine ⟨_, rfl, HS.out, ?_⟩
      simp only [Act.put, List.setIfInBounds_toArray, List.set_cons_zero, List.set_cons_succ]
      refine lx_call 14 rfl (by kernel_rfl) rfl rfl ⟨_, Try.func24, by decide, by kernel_rfl⟩ [.agg (entL Af F.row.length cf Bf F.qual.length df Df F.val.length qf F).toArray, entV A33 F.row.length c33 B33 F.qual.length d33 D33 F.val.length q33 F] rfl ?_
      refine (stands_any F Af F.row.length cf Bf F.qual.length df Df F.val.length qf A33 c33 B33 d33 D33 q33 _ (HFR.out _ (below_up HR.out.up HS.out)) (HM33.out _ (Below.refl _ _)).en).mono ?_
      rintro r x34 ⟨rfl, hb34⟩
      replace HS := Lib.hid (below_up HS.out hb34)
      clear hb34
      clear HM33
      refine ⟨_, rfl, HS.out, ?_⟩
      simp only [Act.put, List.setIfInBounds_toArray, List.set_cons_zero, List.set_cons_succ]
      refine lx_take 15 rfl (by kernel_rfl) (by kernel_rfl) (by kernel_rfl) (fun _ _ _ h => h) (v := ?_) (yi_run rfl (fun w => ?_)) HS.out ?_
      rotate_left
      · first | (go_simp; done) | (go_simp; with_reducible rfl)
      simp only [Act.put, List.setIfInBounds_toArray, List.set_cons_zero, List.set_cons_succ]
      refine lx_take 16 rfl (by kernel_rfl) (by kernel_rfl) (by kernel_rfl) (fun _ _ _ h => h) (v := ?_) (yi_run rfl (fun w => ?_)) HS.out ?_
      rotate_left
      · first | (go_simp; done) | (go_simp; with_reducible rfl)
      simp only [Act.put, List.setIfInBounds_toArray, List.set_cons_zero, List.set_cons_succ]
      refine lx_done (by kernel_rfl) ?_
      replace HX := Lib.hid ((HX.out.later HR.out.up).later HS.out).cut.cutRows
      clear HR HS HIN HNW HFR HBU HWA HPK HUP
      by_cases hlt : k < nt
      · have hd5 : decide ((k : Int) < (nt : Int)) = true := decide_eq_true (by omega)
        have hd6 : decide (k < nt) = true := decide_eq_true hlt
        obtain ⟨bt, ot, rfl, hbt, hrow⟩ := HT.out (by omega)
        obtain ⟨kd, ta, tb, hq⟩ := hrow k hlt
        have HQ := Lib.hid hq
        clear hrow hq
        go_wp2_with fail
        refine wp_region_reg (by kernel_rfl) (by kernel_rfl) tnS (TnR w (some (w.heap.size, (entL A1 n1 c1 B1 m1 d1 D1 v1 q1 e))) (some (w.heap.size + 1, (entL A2 n2 c2 B2 m2 d2 D2 v2 q2 f))) (some (gf, (entL Af F.row.length cf Bf F.qual.length df Df F.val.length qf F))) gi Ab nl cb Ai ni ci Bi mi di Di vi qi [(Af, cf, F.row ++ mkL 70), (Bf, df, F.qual ++ mkL 70), (Df, qf, F.val ++ mkL 70)] L E (fun j => match j with | 0 => .agg (entL Ai ni ci Bi mi di Di vi qi E).toArray | 1 => .slice Ab nl cb | 2 => .slice (some ⟨bt, ot, none⟩) nt ct | 3 => .int .i64 (k : Int) | 4 => .pointer (some ⟨bt, ot + k * 3, none⟩) | _ => .agg ([.int .i64 kd, .int .i64 ta, .int .i64 tb] : List Value).toArray)) ⟨fun _ => HX.out.drew, (fun _ _ e => nomatch e), (fun e => nomatch e)⟩
          ⟨tn_read (i := 0) (by decide) (by show 130 < 131 + 1; decide) rfl (fun D a y hs hR h6 hp => exec_load_row rfl ((hs.eval (by decide)).trans rfl) ((hR.st h6).range (i := 3) rfl) ent_row) (fun D hc h => edge_on (by kernel_rfl) (hc 6 _ rfl h)),
           tn_read (i := 1) (by decide) (by show 130 < 131 + 1; decide) rfl (fun D a y hs hR h6 hp => exec_move rfl ((hs.eval (by decide)).trans rfl)) (fun D hc h => edge_on (by kernel_rfl) (hc 6 _ rfl h)),
           tn_read (i := 2) (by decide) (by show 130 < 131 + 1; decide) rfl (fun D a y hs hR h6 hp => exec_move rfl ((hs.eval (by decide)).trans rfl)) (fun D hc h => edge_on (by kernel_rfl) (hc 4 _ rfl (edge_on (n := 4) (by kernel_rfl) (hc 5 _ rfl (edge_on (n := 5) (by kernel_rfl) (hc 6 _ rfl h)))))),
           tn_read (i := 3) (by decide) (by show 130 < 131 + 1; decide) rfl (fun D a y hs hR h6 hp => exec_move rfl ((hs.eval (by decide)).trans rfl)) (fun D hc h => edge_on (by kernel_rfl) (hc 4 _ rfl (edge_on (n := 4) (by kernel_rfl) (hc 5 _ rfl (edge_on (n := 5) (by kernel_rfl) (hc 6 _ rfl h)))))),
           tn_read (i := 4) (by decide) (by show 130 < 131 + 1; decide) rfl (fun D a y hs hR h6 hp => turn_addr (hR.sl 2 (by decide) (edge_on (by kernel_rfl) hp)) (hR.sl 3 (by decide) (edge_on (by kernel_rfl) hp)) hlt) (fun D hc h => (edge_on (n := 4) (by kernel_rfl) (hc 5 _ rfl (edge_on (n := 5) (by kernel_rfl) (hc 6 _ rfl h))))),
           tn_read (i := 5) (by decide) (by show 130 < 131 + 1; decide) rfl (fun D a y hs hR h6 hp => exec_load_row rfl (hR.sl 4 (by decide) (edge_on (by kernel_rfl) hp)) (fun j v hv => cell_below (hR.st h6).up (HQ.out j v hv)) turn_row) (fun D hc h => edge_on (by kernel_rfl) (hc 6 _ rfl h)),
           tn_call (by show 130 < 131 + 1; decide) rfl rfl (by kernel_rfl) (by kernel_rfl) (by kernel_rfl) ⟨_, rfl, by kernel_rfl⟩ rfl rfl rfl HLE.out (by have := HI.out; have := HN.out; omega),
           tn_store (by show 130 < 131 + 1; decide) rfl rfl (by kernel_rfl) rfl, trivial⟩ ?_
        intro Dz sz y5 hall hR
        obtain ⟨L', E', zq1, zq2, _, zq4⟩ := hR.cl (hall 6 (by decide))
        have HX2 : Hid (St 5 w [some (w.heap.size, (entL A1 n1 c1 B1 m1 d1 D1 v1 q1 e)), some (w.heap.size + 1, (entL A2 n2 c2 B2 m2 d2 D2 v2 q2 f)), none, some (gi, (entL Ai ni ci Bi mi di Di vi qi E')), some (gf, (entL Af F.row.length cf Bf F.qual.length df Df F.val.length qf F))] [(Ab, cb, L' ++ mkL 70), (Ai, ci, E'.row ++ mkL 70), (Bi, di, E'.qual ++ mkL 70), (Di, qi, E'.val ++ mkL 70), (Af, cf, F.row ++ mkL 70), (Bf, df, F.qual ++ mkL 70), (Df, qf, F.val ++ mkL 70)] y5) := Lib.hid (zq4 (hall 7 (by decide)))
        have HL2 : Hid (L'.length = nl ∧ E'.row.length = ni ∧ E'.qual.length = mi ∧ E'.val.length = vi) := Lib.hid zq1
        simp only [tnS, putsF, List.foldl_cons, List.foldl_nil, Act.put, List.setIfInBounds_toArray, List.set_cons_zero, List.set_cons_succ]
        clear hR hall zq1 zq2 zq4
        go_wp2_with fail
        go_roundw
        case rel => exact ⟨k + 1, by omega, by go_num, Lib.hid ⟨L', E', HL2.out, HX2.out⟩⟩
        case measure => simp [intOf]; omega
      · have hd5 : decide ((k : Int) < (nt : Int)) = false := decide_eq_false (by omega)
        have hd6 : decide (k < nt) = false := decide_eq_false hlt
        go_wp2_with fail
        go_roundw
        case rel => exact ⟨k + 1, by omega, by go_num, Lib.hid ⟨L, E, HLE.out, HX.out⟩⟩
        case measure => simp [intOf]; omega
    · have HY := Lib.hid HX.out.up
      by_cases hc1 : k ≤ nt
      · have hd1 : decide ((k : Int) ≤ (nt : Int)) = true := decide_eq_true (by omega)
        have hd2 : decide (k ≤ nt) = true := decide_eq_true hc1
        have hd3 : decide ((k : Int) ≤ 30) = false := decide_eq_false (by omega)
        have hd4 : decide (k ≤ 30) = false := decide_eq_false (by omega)
        go_wp2_with (go_at_call 12; go_must (refine (told_any _).mono ?_); rintro r z1 ⟨rfl, hb⟩; have HZ := Lib.hid (below_up HY.out hb); clear hb)
        go_ret
        exact ⟨rfl, HZ.out⟩
      · have hd1 : decide ((k : Int) ≤ (nt : Int)) = false := decide_eq_false (by omega)
        have hd2 : decide (k ≤ nt) = false := decide_eq_false hc1
        go_wp2_with (go_at_call 12; go_must (refine (told_any _).mono ?_); rintro r z1 ⟨rfl, hb⟩; have HZ := Lib.hid (below_up HY.out hb); clear hb)
        go_ret
        exact ⟨rfl, HZ.out⟩
end Go.Proofs.Ytcikhlieaoanoaa

/-
  A slice of structs that came in, each field of one cell: its cells, what each field reads as, and the bound on it.
-/
namespace Go.Proofs.Ytcikhlieaoanoaa
open Go.RowKit Go.WideShapes Go.ChangeShapes Go.Joins Go.Deep

theorem bulk_mem {H : Type} {d : DataW H} {l : List (DataW H)} (h : d ∈ l) : Rows.uptoBulk d ≤ Rows.uptoBulkAll l := by
  induction l with
  | nil => cases h
  | cons x l ih =>
    simp only [Rows.uptoBulkAll]
    rcases List.mem_cons.1 h with rfl | h
    · omega
    · have := ih h; omega

section
variable {H : Type} {enc : TypeId × Value → H} {P : Program} {w : World} {base : Nat} {held : Bool}
theorem upto_structs {t e : TypeId} {fs : Array Field} {fuel : Nat} {cs : List Value} {x : DataW H × List MemPlace} (ht : P.underlying t = some (.slice e)) (he : P.underlying e = some (.struct fs))
    (hone : oneCellFields P fs = true) (hC : P.cellsOf e = fs.size) (h : DataW.trod enc P w base (fun _ => true) held fuel t cs = some x) :
    cs = [.slice none 0 0] ∨
    ∃ (a : Addr) (len cap : Nat), cs = [.slice (some a) len cap] ∧ len ≤ cap ∧ cap ≤ maxLen ∧ cap + 1 ≤ Rows.uptoBulk x.1 ∧
      ∀ i, i < len → ∀ (j : Nat) (f : Field), fs[j]? = some f → ∃ (v : Value) (y : DataW H × List MemPlace) (n : Nat), w.cell? (a.add (i * fs.size + j)) = some v ∧ DataW.trod enc P w base (fun _ => true) held n f.type [v] = some y ∧ Rows.uptoBulk y.1 + 1 ≤ Rows.uptoBulk x.1 := by
  rcases open_slice_fields ht he hone hC h with ⟨h0, _⟩ | ⟨a, len, cap, m, D, Pl, hcs, hb, hl, hm, hmm, hx, hi⟩
  · exact .inl h0
  · rw [if_pos rfl] at hmm
    subst hmm
    refine .inr ⟨a, len, m, hcs, hl, hm, ?_, fun i him j f hf => ?_⟩
    · rw [hx]
      simp only [Rows.uptoBulk]
      have e1 := bulk_len (H := H) ((List.range len).map D)
      have e2 := bulk_len (H := H) ((List.range (m - len)).map fun j => D (len + j))
      simp only [List.length_map, List.length_range] at e1 e2
      omega
    · obtain ⟨ys, n, hD, _, hyl, hq⟩ := hi i (by omega)
      obtain ⟨v, y, hc, hy, ht'⟩ := hq j f hf
      refine ⟨v, y, n, hc, ht', ?_⟩
      have h1 : Rows.uptoBulk y.1 ≤ Rows.uptoBulkAll (ys.map (·.1)) := bulk_mem (List.mem_map.2 ⟨y, List.mem_of_getElem? hy, rfl⟩)
      have h2 : Rows.uptoBulk (D i) ≤ Rows.uptoBulkAll ((List.range len).map D) := bulk_mem (List.mem_map.2 ⟨i, List.mem_range.2 him, rfl⟩)
      rw [hD] at h2
      rw [hx]
      simp only [Rows.uptoBulk] at h2 ⊢
      omega
theorem field_int {k : IntKind} {t : TypeId} {v : Value} {y : DataW H × List MemPlace} {n : Nat} {sp : Nat → Bool} (ht : P.underlying t = some (.int k)) (h : DataW.trod enc P w base sp held n t [v] = some y) : ∃ z : Int, v = .int k z ∧ (Lit.int k z).wf = true := by
  obtain ⟨z, e0, _, hw⟩ := DataW.trod_int ht h
  injection e0 with e0 _
  exact ⟨z, e0, hw⟩
theorem field_bytes {t e : TypeId} {v : Value} {y : DataW H × List MemPlace} {n : Nat} (ht : P.underlying t = some (.slice e)) (he : P.underlying e = some (.int .u8)) (hC : P.cellsOf e = 1) (h : DataW.trod enc P w base (fun _ => true) held n t [v] = some y) :
    ∃ (A : Option Addr) (m c : Nat) (l : List UInt8), v = .slice A m c ∧ Sl w A m c l ∧ c + 1 ≤ Rows.uptoBulk y.1 := by
  obtain ⟨A, c, l, e0, h1, h2⟩ := upto_bytes ht he hC h
  injection e0 with e0 _
  exact ⟨A, _, c, l, e0, h1, h2⟩
theorem field_keys {t t1 e : TypeId} {v : Value} {y : DataW H × List MemPlace} {n : Nat} (ht : P.underlying t = some (.slice t1)) (ht1 : P.underlying t1 = some (.slice e)) (he : P.underlying e = some (.int .u8)) (hC1 : P.cellsOf t1 = 1) (hC : P.cellsOf e = 1) (h : DataW.trod enc P w base (fun _ => true) held n t [v] = some y) :
    ∃ (A : Option Addr) (m c : Nat) (ks : List (List UInt8)), v = .slice A m c ∧ m ≤ c ∧ c ≤ 9223372036854775807 ∧ (A = none → c = 0) ∧ RBs w w.heap.size A m ks ∧ ks.flatten.length + c + 1 ≤ Rows.uptoBulk y.1 := by
  obtain ⟨A, c, ks, e0, h1, h2, h3, h4, h5⟩ := upto_keys ht ht1 he hC1 hC h
  injection e0 with e0 _
  exact ⟨A, _, c, ks, e0, h1, h2, h3, h4, h5⟩
end
end Go.Proofs.Ytcikhlieaoanoaa

/-
  A list of changes as an argument, opened.
-/
namespace Go.Proofs.Ytcikhlieaoanoaa
open Go.RowKit Go.WideShapes Go.ChangeShapes Go.Joins Go.Deep

section
variable {H : Type} {enc : TypeId × Value → H} {w : World} {base : Nat} {held : Bool}
theorem turns_spot {w : World} {a : Addr} {v : Value} (h : w.cell? a = some v) : a.spot = none := spot_none6 h
set_option maxRecDepth 100000 in
theorem open_turns_top {r : Reach} {b0 : Nat} {v : Value} {d : DataW H} {ps : List MemPlace} (hval : Value.okWide Try.prog w r b0 59 v) (h : DataW.Trod enc Try.prog w base (fun _ => true) held 59 v d ps) :
    ∃ (A : Option Addr) (n c : Nat), v = .slice A n c ∧ (n ≤ c ∧ c ≤ 9223372036854775807) ∧ Trn w A n := by
  obtain ⟨fuel, hf⟩ := open_slice_top Try.underlying59 hval h
  rcases upto_structs Try.underlying59 Try.underlying62 (by kernel_rfl) (by kernel_rfl) hf with h1 | ⟨a, len, cap, h1, hl, hm, _, hi⟩
  · injection h1 with h1
    exact ⟨none, 0, 0, h1, ⟨Nat.le_refl 0, Nat.zero_le _⟩, fun h => absurd h (by omega)⟩
  · injection h1 with h1
    refine ⟨some a, len, cap, h1, ⟨hl, by unfold maxLen at hm; exact hm⟩, fun hn => ?_⟩
    obtain ⟨v, y, n, c0, _⟩ := hi 0 hn 0 _ rfl
    have c0' : w.cell? (a.add 0) = some v := c0
    rw [show a.add 0 = a from by simp [Addr.add]] at c0'
    have hsp := spot_none6 c0'
    have hb0 := World.block_lt_of_cell? w a c0'
    obtain ⟨b, o, sp⟩ := a
    simp at hsp
    subst hsp
    refine ⟨b, o, rfl, hb0, fun i him => ?_⟩
    obtain ⟨v0, y0, n0, c0, t0, _⟩ := hi i him 0 _ rfl
    obtain ⟨v1, y1, n1, c1, t1, _⟩ := hi i him 1 _ rfl
    obtain ⟨v2, y2, n2, c2, t2, _⟩ := hi i him 2 _ rfl
    obtain ⟨k, rfl, _⟩ := field_int Try.underlying3 t0
    obtain ⟨t, rfl, _⟩ := field_int Try.underlying3 t1
    obtain ⟨z, rfl, _⟩ := field_int Try.underlying3 t2
    rw [Addr.add_mid] at c0 c1 c2
    refine ⟨k, t, z, fun j u hj => ?_⟩
    match j, hj with
    | 0, hj => injection hj with hj; subst hj; exact c0
    | 1, hj => injection hj with hj; subst hj; exact (congrArg (fun x => w.cell? ⟨b, x, none⟩) (by show o + i * 3 + 1 = o + (i * 3 + 1); omega)).trans c1
    | 2, hj => injection hj with hj; subst hj; exact (congrArg (fun x => w.cell? ⟨b, x, none⟩) (by show o + i * 3 + 2 = o + (i * 3 + 2); omega)).trans c2
end
end Go.Proofs.Ytcikhlieaoanoaa
