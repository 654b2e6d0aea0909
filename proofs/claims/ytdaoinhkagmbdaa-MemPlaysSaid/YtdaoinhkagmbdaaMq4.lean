/-
  Laid together by merge.py: MemW2, CellW3, WireW4, WireW7, WireW9, CellW7, MemW3, Kit44, MemW4, MemW5, FullK, FullK2, MemW6, CellW4, CellP3, CellW5, CellW6, CellW8, CellR3, CellR4, WireR2, CellR6, CellP4, CellW9.
-/
import Derived.Test.YtdaoinhkagmbdaaMq3
import Derived.Test.YtdaoinhkagmbdaaMq1
import Derived.Test.YtdaoinhkagmbdaaMq2
import Derived.Deep.DeepCutAuto
import Derived.Deep.RegionHeld3
namespace Go.Proofs.Ytdaoinhkagmbdaa
open Go.RowKit
def WithP (w : World) (os ms : List Ob) (r : ER) (t : Tr) (e : Ending) (z : World) : Prop :=
  ∃ t' ns b, e = .returned (.tuple #[t'.ptr, .bool b]) ∧ OW w (os ++ ns) z ∧ TrM (ms ++ ns) t' ∧ t'.ok ∧ ((b = true ∧ hitB t.ents r.e = false ∧ t'.list = insR t.list r) ∨ (b = false ∧ hitB t.ents r.e = true ∧ t' = t))
theorem with_no {w z : World} {os ms ns : List Ob} {r : ER} {t : Tr} (h : OW w (os ++ ns) z) (hm : TrM ms t) (ok : t.ok) (hh : hitB t.ents r.e = true) : WithP w os ms r t (.returned (.tuple #[t.ptr, .bool false])) z :=
  ⟨t, ns, false, rfl, h, hm.more fun _ ho => List.mem_append_left _ ho, ok, .inr ⟨rfl, hh, rfl⟩⟩
theorem WithP.cases {w z : World} {os ms : List Ob} {r : ER} {t : Tr} {e : Ending} (h : WithP w os ms r t e z) : ∃ t' ns b, e = .returned (.tuple #[t'.ptr, .bool b]) ∧ OW w (os ++ ns) z ∧ TrM (ms ++ ns) t' ∧ t'.ok ∧ ((b = true ∧ hitB t.ents r.e = false ∧ t'.list = insR t.list r) ∨ (b = false ∧ hitB t.ents r.e = true ∧ t' = t)) := h
theorem tr_insR {m : List ER} {r : ER} : (insR m r).length = m.length + 1 := by
  unfold insR
  have hle : insN (m.map ER.e) r.e ≤ m.length := by have := twN_le (fun x => decide (cmpE x r.e < 0)) (m.map ER.e); rwa [List.length_map] at this
  rw [List.length_append, List.length_cons, List.length_take, List.length_drop]; omega
set_option maxRecDepth 100000 in
set_option maxHeartbeats 8000000 in
theorem with_any {w : World} (tg : Nat) (rp fr : Value) (nn bb : Nat) (r : ER) : ∀ (t : Tr) (x : World) (os ms : List Ob), OW w os x → (∀ o, o ∈ ms → o ∈ os) → boxO tg [.func (.func 27) #[] #[], rp, .int .i64 (nn : Nat), .int .i64 (bb : Nat), fr] ∈ os → TrM ms t → t.ok → AscE t.ents → (∀ q, q ∈ t.list → EClip os q) → EClip os r → t.list.length ≤ 90000 →
    Calls Try.prog 65 #[.pointer (some ⟨tg, 0, none⟩), t.ptr, .agg #[.slice r.A r.e.row.length r.c, .int .i64 r.e.fam, .slice r.B r.e.qual.length r.d, .int .i64 r.e.ts, .int .i64 r.e.seq, .int .i64 r.e.kind, .slice r.D r.e.val.length r.q]] x (WithP w os ms r t) := by
  intro t
  induction t with
  | nil =>
    intro x os ms h _ _ _ _ _ _ _ _
    have HX := Lib.hid h
    clear h
    go_enter Try.func65, Try.ntmps65
    simp only [Tr.ptr, Tr.adr]
    go_wp2_with (first
      | (refine wl_box rfl (.tmp 2) rfl [.slice r.A r.e.row.length r.c, .int .i64 r.e.fam, .slice r.B r.e.qual.length r.d, .int .i64 r.e.ts, .int .i64 r.e.seq, .int .i64 r.e.kind, .slice r.D r.e.val.length r.q] rfl HX.out ?_; intro g5 x1 hz _; have HX1 := Lib.hid (hz.perm List.perm_append_comm); clear hz HX)
      | (refine wpList_load_row7 rfl 30 (.tmp 5) rfl rfl (HX1.out.range (i := 0) rfl) ent_row8 ?_)
      | (go_at_call 90; go_must (refine (hang_v HX1.out r .nil .nil (fun o h => by cases h) (fun o h => by cases h) (by decide) (by decide) rfl rfl).mono ?_); rintro e z5 ⟨g1, rfl, hz⟩; have HY : Hid (OW w (os ++ [boxO g1 (nodeC r .nil .nil (1 + max 0 0))]) z5) := Lib.hid (by rw [List.append_assoc] at hz; exact hz.right); clear hz))
    go_ret2
    exact ⟨.node g1 r 1 .nil .nil, _, true, rfl, HY.out, TrM.mk (List.mem_append_right _ (.head _)) (fun o h => by cases h) (fun o h => by cases h), ⟨rfl, trivial, trivial⟩, .inl ⟨rfl, rfl, rfl⟩⟩
  | node g a k l q ihl ihq =>
    intro x os ms h hs hT hm ok hA hE hr hlen
    have HX := Lib.hid h
    have HT := Lib.hid hT
    have HM := Lib.hid hm
    obtain ⟨hn, hml, hmq⟩ := hm.left
    obtain ⟨hk, okl, okq⟩ := ok
    have HN := Lib.hid hn
    have HML := Lib.hid hml
    have HMQ := Lib.hid hmq
    have HOK : Hid (Tr.ok (.node g a k l q)) := Lib.hid ⟨hk, okl, okq⟩
    have HOL := Lib.hid okl
    have HOQ := Lib.hid okq
    have HA : Hid (AscE ((l.list ++ a :: q.list).map ER.e)) := Lib.hid hA
    have hA2 : AscE (l.ents ++ a.e :: q.ents) := by
      have h9 : AscE ((l.list ++ a :: q.list).map ER.e) := hA
      rw [List.map_append, List.map_cons] at h9; exact h9
    have HA2 := Lib.hid hA2
    have HAL : Hid (AscE l.ents) := Lib.hid (List.pairwise_append.1 hA2).1
    have HAQ : Hid (AscE q.ents) := Lib.hid (List.pairwise_cons.1 (List.pairwise_append.1 hA2).2.1).2
    have HEA : Hid (EClip os a) := Lib.hid (hE a (List.mem_append_right _ (.head _)))
    have HEL : Hid (∀ q, q ∈ l.list → EClip os q) := Lib.hid fun q' hq => hE q' (List.mem_append_left _ hq)
    have HEQ : Hid (∀ q', q' ∈ q.list → EClip os q') := Lib.hid fun q' hq => hE q' (List.mem_append_right _ (.tail _ hq))
    have HR := Lib.hid hr
    have HENT : Hid ((Tr.node g a k l q).ents = l.ents ++ a.e :: q.ents) := Lib.hid (by show (l.list ++ a :: q.list).map ER.e = _; rw [List.map_append, List.map_cons]; rfl)
    have hl2 : l.list.length + 1 + q.list.length ≤ 90000 := by
      have h9 : (l.list ++ a :: q.list).length ≤ 90000 := hlen
      rw [List.length_append, List.length_cons] at h9; omega
    obtain ⟨cv, hcv⟩ : ∃ z, z = cmpE r.e a.e := ⟨_, rfl⟩
    have HCV := Lib.hid hcv.symm
    clear h hT hm hn hml hmq hk okl okq hA hA2 hE hr hlen hcv
    go_enter Try.func65, Try.ntmps65
    simp only [Tr.ptr, Tr.adr]
    have hin : ∀ g5 o, o ∈ ms → o ∈ [boxO g5 [.slice r.A r.e.row.length r.c, .int .i64 r.e.fam, .slice r.B r.e.qual.length r.d, .int .i64 r.e.ts, .int .i64 r.e.seq, .int .i64 r.e.kind, .slice r.D r.e.val.length r.q]] ++ os := fun g5 o ho => List.mem_append_right _ (hs o ho)
    have hio : ∀ g5 o, o ∈ os → o ∈ [boxO g5 [.slice r.A r.e.row.length r.c, .int .i64 r.e.fam, .slice r.B r.e.qual.length r.d, .int .i64 r.e.ts, .int .i64 r.e.seq, .int .i64 r.e.kind, .slice r.D r.e.val.length r.q]] ++ os := fun g5 o ho => List.mem_append_right _ ho
    go_upto_region 3 with (first
      | (refine wl_box rfl (.tmp 2) rfl [.slice r.A r.e.row.length r.c, .int .i64 r.e.fam, .slice r.B r.e.qual.length r.d, .int .i64 r.e.ts, .int .i64 r.e.seq, .int .i64 r.e.kind, .slice r.D r.e.val.length r.q] rfl HX.out ?_; intro g5 x1 hz _; have HX1 := Lib.hid (hz.perm List.perm_append_comm); clear hz HX))
    replace hin := hin g5
    replace hio := hio g5
    refine lt_start [] (by kernel_rfl) ?_
    intro xd hd
    refine ⟨fun z => OW w ([boxO g5 [.slice r.A r.e.row.length r.c, .int .i64 r.e.fam, .slice r.B r.e.qual.length r.d, .int .i64 r.e.ts, .int .i64 r.e.seq, .int .i64 r.e.kind, .slice r.D r.e.val.length r.q]] ++ os) z, ?_⟩
    have HS := Lib.hid (HX1.out.later hd)
    refine lt_pure 0 rfl (by kernel_rfl) (by kernel_rfl) (by kernel_rfl) (by kernel_rfl) (fun _ _ _ h => h) (v := ?_) (yi_run rfl (fun w => ?_)) (fun _ => HS.out) ?_
    rotate_left
    · first | (go_simp; done) | (go_simp; with_reducible rfl)
    simp only [Act.put, List.setIfInBounds_toArray, List.set_cons_zero, List.set_cons_succ]
    refine lt_pure 1 rfl (by kernel_rfl) (by kernel_rfl) (by kernel_rfl) (by kernel_rfl) (fun _ _ _ h => h) (v := ?_) (yi_run rfl (fun w => ?_)) (fun _ => HS.out) ?_
    rotate_left
    · first | (go_simp; done) | (go_simp; with_reducible rfl)
    simp only [Act.put, List.setIfInBounds_toArray, List.set_cons_zero, List.set_cons_succ]
    refine lt_pure 2 rfl (by kernel_rfl) (by kernel_rfl) (by kernel_rfl) (by kernel_rfl) (fun _ _ _ h => h) (v := ?_) (yi_run rfl (fun w => ?_)) (fun _ => HS.out) ?_
    rotate_left
    · first | (go_simp; done) | (go_simp; with_reducible rfl)
    simp only [Act.put, List.setIfInBounds_toArray, List.set_cons_zero, List.set_cons_succ]
    refine lt_take 3 [9, 10] rfl (by kernel_rfl) (by kernel_rfl) (by kernel_rfl) (by kernel_rfl) (by kernel_rfl) (fun _ _ _ h => h) (yi_cell rfl rfl rfl (fun w hS => OW.cellm hS (hio _ HT.out) (j := 0) rfl) (fun w => Try.isAgg53 w)) HS.out ?_
    simp only [Act.put, List.setIfInBounds_toArray, List.set_cons_zero, List.set_cons_succ]
    refine lt_take 4 [9, 10] rfl (by kernel_rfl) (by kernel_rfl) (by kernel_rfl) (by kernel_rfl) (by kernel_rfl) (fun _ _ _ h => h) (yi_row rfl rfl rfl (fun w hS => OW.range hS (i := 0) rfl) ent_row8) HS.out ?_
    simp only [Act.put, List.setIfInBounds_toArray, List.set_cons_zero, List.set_cons_succ]
    refine lt_pure 5 rfl (by kernel_rfl) (by kernel_rfl) (by kernel_rfl) (by kernel_rfl) (fun _ _ _ h => h) (v := ?_) (yi_run rfl (fun w => ?_)) (fun _ => HS.out) ?_
    rotate_left
    · first | (go_simp; done) | (go_simp; with_reducible rfl)
    simp only [Act.put, List.setIfInBounds_toArray, List.set_cons_zero, List.set_cons_succ]
    refine lt_pure 6 rfl (by kernel_rfl) (by kernel_rfl) (by kernel_rfl) (by kernel_rfl) (fun _ _ _ h => h) (v := ?_) (yi_run rfl (fun w => ?_)) (fun _ => HS.out) ?_
    rotate_left
    · first | (go_simp; done) | (go_simp; with_reducible rfl)
    simp only [Act.put, List.setIfInBounds_toArray, List.set_cons_zero, List.set_cons_succ]
    refine lt_pure 7 rfl (by kernel_rfl) (by kernel_rfl) (by kernel_rfl) (by kernel_rfl) (fun _ _ _ h => h) (v := ?_) (yi_run rfl (fun w => ?_)) (fun _ => HS.out) ?_
    rotate_left
    · first | (go_simp; done) | (go_simp; with_reducible rfl)
    simp only [Act.put, List.setIfInBounds_toArray, List.set_cons_zero, List.set_cons_succ]
    refine lt_take 8 [9, 10] rfl (by kernel_rfl) (by kernel_rfl) (by kernel_rfl) (by kernel_rfl) (by kernel_rfl) (fun _ _ _ h => h) (yi_rowO rfl rfl rfl (fun w hS => node_ent hS (hin _ HN.out)) ent_row8) HS.out ?_
    simp only [Act.put, List.setIfInBounds_toArray, List.set_cons_zero, List.set_cons_succ]
    refine lt_op 9 rfl (by kernel_rfl) rfl ?_
    refine wp_call_dyn (xs := [.tmp 21, .tmp 25]) (lb := []) rfl rfl ⟨_, Try.func27, by decide, by kernel_rfl⟩ [.agg #[.slice r.A r.e.row.length r.c, .int .i64 r.e.fam, .slice r.B r.e.qual.length r.d, .int .i64 r.e.ts, .int .i64 r.e.seq, .int .i64 r.e.kind, .slice r.D r.e.val.length r.q], .agg #[.slice a.A a.e.row.length a.c, .int .i64 a.e.fam, .slice a.B a.e.qual.length a.d, .int .i64 a.e.ts, .int .i64 a.e.seq, .int .i64 a.e.kind, .slice a.D a.e.val.length a.q]] rfl ?_
    refine (compare_any r.e a.e r.A _ r.c r.B _ r.d r.D _ r.q a.A _ a.c a.B _ a.d a.D _ a.q _ ((HR.out.more hio).en HS.out) ((HEA.out.more hio).en HS.out)).mono ?_
    rw [HCV.out]
    rintro e y1 ⟨rfl, hb⟩
    replace HS := Lib.hid (HS.out.later hb)
    clear hb
    refine ⟨_, rfl, ?_⟩
    refine ⟨fun _ => HS.out, ?_⟩
    simp only [Act.put, List.setIfInBounds_toArray, List.set_cons_zero, List.set_cons_succ]
    refine lt_pure 10 rfl (by kernel_rfl) (by kernel_rfl) (by kernel_rfl) (by kernel_rfl) (fun _ _ _ h => h) (v := ?_) (yi_run rfl (fun w => ?_)) (fun _ => HS.out) ?_
    rotate_left
    · first | (go_simp; done) | (go_simp; with_reducible rfl)
    simp only [Act.put, List.setIfInBounds_toArray, List.set_cons_zero, List.set_cons_succ]
    refine lt_done (by kernel_rfl) ?_
    have HX2 := HS
    clear HS HX1
    by_cases hc0 : cv < 0
    case pos =>
      have hc1 : decide (cv < 0) = true := decide_eq_true hc0
      have HLT := Lib.hid (ins_lt (A := l.ents) (B := q.ents) (a := a.e) (e := r.e) (by rw [HCV.out]; exact hc0))
      have HIR : Hid (insR (l.list ++ a :: q.list) r = insR l.list r ++ a :: q.list) := Lib.hid (insR_lt (by rw [HCV.out]; exact hc0))
      go_upto_region 5 with fail
      refine lt_start [] (by kernel_rfl) ?_
      intro xd hd
      refine ⟨fun z => OW w ([boxO g5 [.slice r.A r.e.row.length r.c, .int .i64 r.e.fam, .slice r.B r.e.qual.length r.d, .int .i64 r.e.ts, .int .i64 r.e.seq, .int .i64 r.e.kind, .slice r.D r.e.val.length r.q]] ++ os) z, ?_⟩
      have HS := Lib.hid (HX2.out.later hd)
      refine lt_pure 0 rfl (by kernel_rfl) (by kernel_rfl) (by kernel_rfl) (by kernel_rfl) (fun _ _ _ h => h) (v := ?_) (yi_run rfl (fun w => ?_)) (fun _ => HS.out) ?_
      rotate_left
      · first | (go_simp; done) | (go_simp; with_reducible rfl)
      simp only [Act.put, List.setIfInBounds_toArray, List.set_cons_zero, List.set_cons_succ]
      refine lt_pure 1 rfl (by kernel_rfl) (by kernel_rfl) (by kernel_rfl) (by kernel_rfl) (fun _ _ _ h => h) (v := ?_) (yi_run rfl (fun w => ?_)) (fun _ => HS.out) ?_
      rotate_left
      · first | (go_simp; done) | (go_simp; with_reducible rfl)
      simp only [Act.put, List.setIfInBounds_toArray, List.set_cons_zero, List.set_cons_succ]
      refine lt_pure 2 rfl (by kernel_rfl) (by kernel_rfl) (by kernel_rfl) (by kernel_rfl) (fun _ _ _ h => h) (v := ?_) (yi_run rfl (fun w => ?_)) (fun _ => HS.out) ?_
      rotate_left
      · first | (go_simp; done) | (go_simp; with_reducible rfl)
      simp only [Act.put, List.setIfInBounds_toArray, List.set_cons_zero, List.set_cons_succ]
      refine lt_pure 3 rfl (by kernel_rfl) (by kernel_rfl) (by kernel_rfl) (by kernel_rfl) (fun _ _ _ h => h) (v := ?_) (yi_run rfl (fun w => ?_)) (fun _ => HS.out) ?_
      rotate_left
      · first | (go_simp; done) | (go_simp; with_reducible rfl)
      simp only [Act.put, List.setIfInBounds_toArray, List.set_cons_zero, List.set_cons_succ]
      refine lt_take 4 [6, 7, 8, 9, 10, 11] rfl (by kernel_rfl) (by kernel_rfl) (by kernel_rfl) (by kernel_rfl) (by kernel_rfl) (fun _ _ _ h => h) (yi_cell rfl rfl rfl (fun w hS => node_l hS (hin _ HN.out)) (fun w => Try.isAgg78 w)) HS.out ?_
      simp only [Act.put, List.setIfInBounds_toArray, List.set_cons_zero, List.set_cons_succ]
      refine lt_take 5 [6, 7, 8, 9, 10, 11] rfl (by kernel_rfl) (by kernel_rfl) (by kernel_rfl) (by kernel_rfl) (by kernel_rfl) (fun _ _ _ h => h) (yi_row rfl rfl rfl (fun w hS => OW.range hS (i := 0) rfl) ent_row8) HS.out ?_
      simp only [Act.put, List.setIfInBounds_toArray, List.set_cons_zero, List.set_cons_succ]
      refine lt_call 6 rfl (by kernel_rfl) rfl rfl ⟨_, Try.func65, by decide, by kernel_rfl⟩ [.pointer (some ⟨tg, 0, none⟩), l.ptr, .agg #[.slice r.A r.e.row.length r.c, .int .i64 r.e.fam, .slice r.B r.e.qual.length r.d, .int .i64 r.e.ts, .int .i64 r.e.seq, .int .i64 r.e.kind, .slice r.D r.e.val.length r.q]] rfl ?_
      refine (ihl _ _ _ HS.out hin (hio _ HT.out) HML.out HOL.out HAL.out (fun q' hq => (HEL.out q' hq).more hio) (HR.out.more hio) (by omega)).mono ?_
      intro e y2 hp
      obtain ⟨t2, ns2, b2, rfl, hz, hm2, ok2, hcase⟩ := hp.cases
      have HZ : Hid (OW w (os ++ ns2) y2) := Lib.hid (by rw [List.append_assoc] at hz; exact hz.right)
      have HZ0 := Lib.hid hz
      have HM2 : Hid (TrM (ms ++ ns2) t2) := Lib.hid hm2
      have HOK2 := Lib.hid ok2
      replace HS := Lib.hid (hz.sub (List.sublist_append_left _ _))
      clear hp hz hm2 ok2
      refine ⟨_, rfl, fun _ => HS.out, ?_⟩
      simp only [Act.put, List.setIfInBounds_toArray, List.set_cons_zero, List.set_cons_succ]
      refine lt_pure 7 rfl (by kernel_rfl) (by kernel_rfl) (by kernel_rfl) (by kernel_rfl) (fun _ _ _ h => h) (v := ?_) (yi_run rfl (fun w => ?_)) (fun _ => HS.out) ?_
      rotate_left
      · first | (go_simp; done) | (go_simp; with_reducible rfl)
      simp only [Act.put, List.setIfInBounds_toArray, List.set_cons_zero, List.set_cons_succ]
      refine lt_pure 8 rfl (by kernel_rfl) (by kernel_rfl) (by kernel_rfl) (by kernel_rfl) (fun _ _ _ h => h) (v := ?_) (yi_run rfl (fun w => ?_)) (fun _ => HS.out) ?_
      rotate_left
      · first | (go_simp; done) | (go_simp; with_reducible rfl)
      simp only [Act.put, List.setIfInBounds_toArray, List.set_cons_zero, List.set_cons_succ]
      refine lt_pure 9 rfl (by kernel_rfl) (by kernel_rfl) (by kernel_rfl) (by kernel_rfl) (fun _ _ _ h => h) (v := ?_) (yi_run rfl (fun w => ?_)) (fun _ => HS.out) ?_
      rotate_left
      · first | (go_simp; done) | (go_simp; with_reducible rfl)
      simp only [Act.put, List.setIfInBounds_toArray, List.set_cons_zero, List.set_cons_succ]
      refine lt_pure 10 rfl (by kernel_rfl) (by kernel_rfl) (by kernel_rfl) (by kernel_rfl) (fun _ _ _ h => h) (v := ?_) (yi_run rfl (fun w => ?_)) (fun _ => HS.out) ?_
      rotate_left
      · first | (go_simp; done) | (go_simp; with_reducible rfl)
      simp only [Act.put, List.setIfInBounds_toArray, List.set_cons_zero, List.set_cons_succ]
      refine lt_pure 11 rfl (by kernel_rfl) (by kernel_rfl) (by kernel_rfl) (by kernel_rfl) (fun _ _ _ h => h) (v := ?_) (yi_run rfl (fun w => ?_)) (fun _ => HS.out) ?_
      rotate_left
      · first | (go_simp; done) | (go_simp; with_reducible rfl)
      simp only [Act.put, List.setIfInBounds_toArray, List.set_cons_zero, List.set_cons_succ]
      refine lt_done (by kernel_rfl) ?_
      clear HS HX2
      rcases hcase with ⟨rfl, hh, hli⟩ | ⟨rfl, hh, rfl⟩
      · have HH := Lib.hid hh
        have HLI := Lib.hid hli
        clear hh hli
        have hin2 : ∀ o, o ∈ ms ++ ns2 → o ∈ [boxO g5 [.slice r.A r.e.row.length r.c, .int .i64 r.e.fam, .slice r.B r.e.qual.length r.d, .int .i64 r.e.ts, .int .i64 r.e.seq, .int .i64 r.e.kind, .slice r.D r.e.val.length r.q]] ++ os ++ ns2 := fun o ho => (List.mem_append.1 ho).elim (fun h => List.mem_append_left _ (hin o h)) (fun h => List.mem_append_right _ h)
        go_upto_region 8 with fail
        refine lt_start [] (by kernel_rfl) ?_
        intro xd hd
        refine ⟨fun z => OW w ([boxO g5 [.slice r.A r.e.row.length r.c, .int .i64 r.e.fam, .slice r.B r.e.qual.length r.d, .int .i64 r.e.ts, .int .i64 r.e.seq, .int .i64 r.e.kind, .slice r.D r.e.val.length r.q]] ++ os ++ ns2) z, ?_⟩
        have HS := Lib.hid (HZ0.out.later hd)
        refine lt_pure 0 rfl (by kernel_rfl) (by kernel_rfl) (by kernel_rfl) (by kernel_rfl) (fun _ _ _ h => h) (v := ?_) (yi_run rfl (fun w => ?_)) (fun _ => HS.out) ?_
        rotate_left
        · first | (go_simp; done) | (go_simp; with_reducible rfl)
        simp only [Act.put, List.setIfInBounds_toArray, List.set_cons_zero, List.set_cons_succ]
        refine lt_pure 1 rfl (by kernel_rfl) (by kernel_rfl) (by kernel_rfl) (by kernel_rfl) (fun _ _ _ h => h) (v := ?_) (yi_run rfl (fun w => ?_)) (fun _ => HS.out) ?_
        rotate_left
        · first | (go_simp; done) | (go_simp; with_reducible rfl)
        simp only [Act.put, List.setIfInBounds_toArray, List.set_cons_zero, List.set_cons_succ]
        refine lt_pure 2 rfl (by kernel_rfl) (by kernel_rfl) (by kernel_rfl) (by kernel_rfl) (fun _ _ _ h => h) (v := ?_) (yi_run rfl (fun w => ?_)) (fun _ => HS.out) ?_
        rotate_left
        · first | (go_simp; done) | (go_simp; with_reducible rfl)
        simp only [Act.put, List.setIfInBounds_toArray, List.set_cons_zero, List.set_cons_succ]
        refine lt_take 3 [9, 10, 11] rfl (by kernel_rfl) (by kernel_rfl) (by kernel_rfl) (by kernel_rfl) (by kernel_rfl) (fun _ _ _ h => h) (yi_rowO rfl rfl rfl (fun w hS => node_ent hS (List.mem_append_left _ (hin _ HN.out))) ent_row8) HS.out ?_
        simp only [Act.put, List.setIfInBounds_toArray, List.set_cons_zero, List.set_cons_succ]
        refine lt_pure 4 rfl (by kernel_rfl) (by kernel_rfl) (by kernel_rfl) (by kernel_rfl) (fun _ _ _ h => h) (v := ?_) (yi_run rfl (fun w => ?_)) (fun _ => HS.out) ?_
        rotate_left
        · first | (go_simp; done) | (go_simp; with_reducible rfl)
        simp only [Act.put, List.setIfInBounds_toArray, List.set_cons_zero, List.set_cons_succ]
        refine lt_pure 5 rfl (by kernel_rfl) (by kernel_rfl) (by kernel_rfl) (by kernel_rfl) (fun _ _ _ h => h) (v := ?_) (yi_run rfl (fun w => ?_)) (fun _ => HS.out) ?_
        rotate_left
        · first | (go_simp; done) | (go_simp; with_reducible rfl)
        simp only [Act.put, List.setIfInBounds_toArray, List.set_cons_zero, List.set_cons_succ]
        refine lt_pure 6 rfl (by kernel_rfl) (by kernel_rfl) (by kernel_rfl) (by kernel_rfl) (fun _ _ _ h => h) (v := ?_) (yi_run rfl (fun w => ?_)) (fun _ => HS.out) ?_
        rotate_left
        · first | (go_simp; done) | (go_simp; with_reducible rfl)
        simp only [Act.put, List.setIfInBounds_toArray, List.set_cons_zero, List.set_cons_succ]
        refine lt_pure 7 rfl (by kernel_rfl) (by kernel_rfl) (by kernel_rfl) (by kernel_rfl) (fun _ _ _ h => h) (v := ?_) (yi_run rfl (fun w => ?_)) (fun _ => HS.out) ?_
        rotate_left
        · first | (go_simp; done) | (go_simp; with_reducible rfl)
        simp only [Act.put, List.setIfInBounds_toArray, List.set_cons_zero, List.set_cons_succ]
        refine lt_take 8 [9, 10, 11] rfl (by kernel_rfl) (by kernel_rfl) (by kernel_rfl) (by kernel_rfl) (by kernel_rfl) (fun _ _ _ h => h) (yi_cell rfl rfl rfl (fun w hS => node_q hS (List.mem_append_left _ (hin _ HN.out))) (fun w => Try.isAgg78 w)) HS.out ?_
        simp only [Act.put, List.setIfInBounds_toArray, List.set_cons_zero, List.set_cons_succ]
        refine lt_call 9 rfl (by kernel_rfl) rfl rfl ⟨_, Try.func91, by decide, by kernel_rfl⟩ [.agg #[.slice a.A a.e.row.length a.c, .int .i64 a.e.fam, .slice a.B a.e.qual.length a.d, .int .i64 a.e.ts, .int .i64 a.e.seq, .int .i64 a.e.kind, .slice a.D a.e.val.length a.q], t2.ptr, q.ptr] rfl ?_
        refine (even_any (ms := ms ++ ns2) HS.out hin2 a t2 q HM2.out (HMQ.out.more fun _ ho => List.mem_append_left _ ho) HOK2.out HOQ.out (by rw [HLI.out, tr_insR]; omega) (by omega)).mono ?_
        rintro e y4 ⟨t3, ns3, rfl, hz, hm3, ok3, hl3⟩
        have HZ3 : Hid (OW w (os ++ ns2 ++ ns3) y4) := Lib.hid (by rw [List.append_assoc, List.append_assoc] at hz; rw [List.append_assoc]; exact hz.right)
        have HM3 : Hid (TrM (ms ++ ns2 ++ ns3) t3) := Lib.hid hm3
        have HOK3 := Lib.hid ok3
        have HL3 := Lib.hid hl3
        replace HS := Lib.hid (hz.sub (List.sublist_append_left _ _))
        clear hz hm3 ok3 hl3
        refine ⟨_, rfl, fun _ => HS.out, ?_⟩
        simp only [Act.put, List.setIfInBounds_toArray, List.set_cons_zero, List.set_cons_succ]
        refine lt_pure 10 rfl (by kernel_rfl) (by kernel_rfl) (by kernel_rfl) (by kernel_rfl) (fun _ _ _ h => h) (v := ?_) (yi_run rfl (fun w => ?_)) (fun _ => HS.out) ?_
        rotate_left
        · first | (go_simp; done) | (go_simp; with_reducible rfl)
        simp only [Act.put, List.setIfInBounds_toArray, List.set_cons_zero, List.set_cons_succ]
        refine lt_pure 11 rfl (by kernel_rfl) (by kernel_rfl) (by kernel_rfl) (by kernel_rfl) (fun _ _ _ h => h) (v := ?_) (yi_run rfl (fun w => ?_)) (fun _ => HS.out) ?_
        rotate_left
        · first | (go_simp; done) | (go_simp; with_reducible rfl)
        simp only [Act.put, List.setIfInBounds_toArray, List.set_cons_zero, List.set_cons_succ]
        refine lt_done (by kernel_rfl) ?_
        clear HS
        go_wp2_with fail
        go_ret2
        refine ⟨t3, ns2 ++ ns3, true, rfl, by rw [← List.append_assoc]; exact HZ3.out, by rw [← List.append_assoc]; exact HM3.out, HOK3.out, .inl ⟨rfl, ?_, ?_⟩⟩
        · rw [HENT.out, HLT.out.2]; exact HH.out
        · show t3.list = insR (l.list ++ a :: q.list) r
          rw [HL3.out, HIR.out, HLI.out]
      · have HH := Lib.hid hh
        clear hh
        go_wp2_with fail
        go_ret2
        exact with_no HZ.out HM.out HOK.out (by rw [HENT.out, HLT.out.2]; exact HH.out)
    have hc1 : decide (cv < 0) = false := decide_eq_false hc0
    by_cases hc2 : 0 < cv
    case pos =>
      have hc3 : decide (cv > 0) = true := decide_eq_true hc2
      have HGT := Lib.hid (ins_gt HA2.out (e := r.e) (by rw [HCV.out]; exact hc2))
      have HIR : Hid (insR (l.list ++ a :: q.list) r = l.list ++ a :: insR q.list r) := Lib.hid (insR_gt HA.out (by rw [HCV.out]; exact hc2))
      go_upto_region 10 with fail
      refine lt_start [] (by kernel_rfl) ?_
      intro xd hd
      refine ⟨fun z => OW w ([boxO g5 [.slice r.A r.e.row.length r.c, .int .i64 r.e.fam, .slice r.B r.e.qual.length r.d, .int .i64 r.e.ts, .int .i64 r.e.seq, .int .i64 r.e.kind, .slice r.D r.e.val.length r.q]] ++ os) z, ?_⟩
      have HS := Lib.hid (HX2.out.later hd)
      refine lt_pure 0 rfl (by kernel_rfl) (by kernel_rfl) (by kernel_rfl) (by kernel_rfl) (fun _ _ _ h => h) (v := ?_) (yi_run rfl (fun w => ?_)) (fun _ => HS.out) ?_
      rotate_left
      · first | (go_simp; done) | (go_simp; with_reducible rfl)
      simp only [Act.put, List.setIfInBounds_toArray, List.set_cons_zero, List.set_cons_succ]
      refine lt_pure 1 rfl (by kernel_rfl) (by kernel_rfl) (by kernel_rfl) (by kernel_rfl) (fun _ _ _ h => h) (v := ?_) (yi_run rfl (fun w => ?_)) (fun _ => HS.out) ?_
      rotate_left
      · first | (go_simp; done) | (go_simp; with_reducible rfl)
      simp only [Act.put, List.setIfInBounds_toArray, List.set_cons_zero, List.set_cons_succ]
      refine lt_pure 2 rfl (by kernel_rfl) (by kernel_rfl) (by kernel_rfl) (by kernel_rfl) (fun _ _ _ h => h) (v := ?_) (yi_run rfl (fun w => ?_)) (fun _ => HS.out) ?_
      rotate_left
      · first | (go_simp; done) | (go_simp; with_reducible rfl)
      simp only [Act.put, List.setIfInBounds_toArray, List.set_cons_zero, List.set_cons_succ]
      refine lt_pure 3 rfl (by kernel_rfl) (by kernel_rfl) (by kernel_rfl) (by kernel_rfl) (fun _ _ _ h => h) (v := ?_) (yi_run rfl (fun w => ?_)) (fun _ => HS.out) ?_
      rotate_left
      · first | (go_simp; done) | (go_simp; with_reducible rfl)
      simp only [Act.put, List.setIfInBounds_toArray, List.set_cons_zero, List.set_cons_succ]
      refine lt_take 4 [6, 7, 8, 9, 10, 11] rfl (by kernel_rfl) (by kernel_rfl) (by kernel_rfl) (by kernel_rfl) (by kernel_rfl) (fun _ _ _ h => h) (yi_cell rfl rfl rfl (fun w hS => node_q hS (hin _ HN.out)) (fun w => Try.isAgg78 w)) HS.out ?_
      simp only [Act.put, List.setIfInBounds_toArray, List.set_cons_zero, List.set_cons_succ]
      refine lt_take 5 [6, 7, 8, 9, 10, 11] rfl (by kernel_rfl) (by kernel_rfl) (by kernel_rfl) (by kernel_rfl) (by kernel_rfl) (fun _ _ _ h => h) (yi_row rfl rfl rfl (fun w hS => OW.range hS (i := 0) rfl) ent_row8) HS.out ?_
      simp only [Act.put, List.setIfInBounds_toArray, List.set_cons_zero, List.set_cons_succ]
      refine lt_call 6 rfl (by kernel_rfl) rfl rfl ⟨_, Try.func65, by decide, by kernel_rfl⟩ [.pointer (some ⟨tg, 0, none⟩), q.ptr, .agg #[.slice r.A r.e.row.length r.c, .int .i64 r.e.fam, .slice r.B r.e.qual.length r.d, .int .i64 r.e.ts, .int .i64 r.e.seq, .int .i64 r.e.kind, .slice r.D r.e.val.length r.q]] rfl ?_
      refine (ihq _ _ _ HS.out hin (hio _ HT.out) HMQ.out HOQ.out HAQ.out (fun q' hq => (HEQ.out q' hq).more hio) (HR.out.more hio) (by omega)).mono ?_
      intro e y2 hp
      obtain ⟨t2, ns2, b2, rfl, hz, hm2, ok2, hcase⟩ := hp.cases
      have HZ : Hid (OW w (os ++ ns2) y2) := Lib.hid (by rw [List.append_assoc] at hz; exact hz.right)
      have HZ0 := Lib.hid hz
      have HM2 : Hid (TrM (ms ++ ns2) t2) := Lib.hid hm2
      have HOK2 := Lib.hid ok2
      replace HS := Lib.hid (hz.sub (List.sublist_append_left _ _))
      clear hp hz hm2 ok2
      refine ⟨_, rfl, fun _ => HS.out, ?_⟩
      simp only [Act.put, List.setIfInBounds_toArray, List.set_cons_zero, List.set_cons_succ]
      refine lt_pure 7 rfl (by kernel_rfl) (by kernel_rfl) (by kernel_rfl) (by kernel_rfl) (fun _ _ _ h => h) (v := ?_) (yi_run rfl (fun w => ?_)) (fun _ => HS.out) ?_
      rotate_left
      · first | (go_simp; done) | (go_simp; with_reducible rfl)
      simp only [Act.put, List.setIfInBounds_toArray, List.set_cons_zero, List.set_cons_succ]
      refine lt_pure 8 rfl (by kernel_rfl) (by kernel_rfl) (by kernel_rfl) (by kernel_rfl) (fun _ _ _ h => h) (v := ?_) (yi_run rfl (fun w => ?_)) (fun _ => HS.out) ?_
      rotate_left
      · first | (go_simp; done) | (go_simp; with_reducible rfl)
      simp only [Act.put, List.setIfInBounds_toArray, List.set_cons_zero, List.set_cons_succ]
      refine lt_pure 9 rfl (by kernel_rfl) (by kernel_rfl) (by kernel_rfl) (by kernel_rfl) (fun _ _ _ h => h) (v := ?_) (yi_run rfl (fun w => ?_)) (fun _ => HS.out) ?_
      rotate_left
      · first | (go_simp; done) | (go_simp; with_reducible rfl)
      simp only [Act.put, List.setIfInBounds_toArray, List.set_cons_zero, List.set_cons_succ]
      refine lt_pure 10 rfl (by kernel_rfl) (by kernel_rfl) (by kernel_rfl) (by kernel_rfl) (fun _ _ _ h => h) (v := ?_) (yi_run rfl (fun w => ?_)) (fun _ => HS.out) ?_
      rotate_left
      · first | (go_simp; done) | (go_simp; with_reducible rfl)
      simp only [Act.put, List.setIfInBounds_toArray, List.set_cons_zero, List.set_cons_succ]
      refine lt_pure 11 rfl (by kernel_rfl) (by kernel_rfl) (by kernel_rfl) (by kernel_rfl) (fun _ _ _ h => h) (v := ?_) (yi_run rfl (fun w => ?_)) (fun _ => HS.out) ?_
      rotate_left
      · first | (go_simp; done) | (go_simp; with_reducible rfl)
      simp only [Act.put, List.setIfInBounds_toArray, List.set_cons_zero, List.set_cons_succ]
      refine lt_done (by kernel_rfl) ?_
      clear HS HX2
      rcases hcase with ⟨rfl, hh, hli⟩ | ⟨rfl, hh, rfl⟩
      · have HH := Lib.hid hh
        have HLI := Lib.hid hli
        clear hh hli
        have hin2 : ∀ o, o ∈ ms ++ ns2 → o ∈ [boxO g5 [.slice r.A r.e.row.length r.c, .int .i64 r.e.fam, .slice r.B r.e.qual.length r.d, .int .i64 r.e.ts, .int .i64 r.e.seq, .int .i64 r.e.kind, .slice r.D r.e.val.length r.q]] ++ os ++ ns2 := fun o ho => (List.mem_append.1 ho).elim (fun h => List.mem_append_left _ (hin o h)) (fun h => List.mem_append_right _ h)
        go_upto_region 13 with fail
        refine lt_start [] (by kernel_rfl) ?_
        intro xd hd
        refine ⟨fun z => OW w ([boxO g5 [.slice r.A r.e.row.length r.c, .int .i64 r.e.fam, .slice r.B r.e.qual.length r.d, .int .i64 r.e.ts, .int .i64 r.e.seq, .int .i64 r.e.kind, .slice r.D r.e.val.length r.q]] ++ os ++ ns2) z, ?_⟩
        have HS := Lib.hid (HZ0.out.later hd)
        refine lt_pure 0 rfl (by kernel_rfl) (by kernel_rfl) (by kernel_rfl) (by kernel_rfl) (fun _ _ _ h => h) (v := ?_) (yi_run rfl (fun w => ?_)) (fun _ => HS.out) ?_
        rotate_left
        · first | (go_simp; done) | (go_simp; with_reducible rfl)
        simp only [Act.put, List.setIfInBounds_toArray, List.set_cons_zero, List.set_cons_succ]
        refine lt_pure 1 rfl (by kernel_rfl) (by kernel_rfl) (by kernel_rfl) (by kernel_rfl) (fun _ _ _ h => h) (v := ?_) (yi_run rfl (fun w => ?_)) (fun _ => HS.out) ?_
        rotate_left
        · first | (go_simp; done) | (go_simp; with_reducible rfl)
        simp only [Act.put, List.setIfInBounds_toArray, List.set_cons_zero, List.set_cons_succ]
        refine lt_pure 2 rfl (by kernel_rfl) (by kernel_rfl) (by kernel_rfl) (by kernel_rfl) (fun _ _ _ h => h) (v := ?_) (yi_run rfl (fun w => ?_)) (fun _ => HS.out) ?_
        rotate_left
        · first | (go_simp; done) | (go_simp; with_reducible rfl)
        simp only [Act.put, List.setIfInBounds_toArray, List.set_cons_zero, List.set_cons_succ]
        refine lt_take 3 [9, 10, 11] rfl (by kernel_rfl) (by kernel_rfl) (by kernel_rfl) (by kernel_rfl) (by kernel_rfl) (fun _ _ _ h => h) (yi_rowO rfl rfl rfl (fun w hS => node_ent hS (List.mem_append_left _ (hin _ HN.out))) ent_row8) HS.out ?_
        simp only [Act.put, List.setIfInBounds_toArray, List.set_cons_zero, List.set_cons_succ]
        refine lt_pure 4 rfl (by kernel_rfl) (by kernel_rfl) (by kernel_rfl) (by kernel_rfl) (fun _ _ _ h => h) (v := ?_) (yi_run rfl (fun w => ?_)) (fun _ => HS.out) ?_
        rotate_left
        · first | (go_simp; done) | (go_simp; with_reducible rfl)
        simp only [Act.put, List.setIfInBounds_toArray, List.set_cons_zero, List.set_cons_succ]
        refine lt_pure 5 rfl (by kernel_rfl) (by kernel_rfl) (by kernel_rfl) (by kernel_rfl) (fun _ _ _ h => h) (v := ?_) (yi_run rfl (fun w => ?_)) (fun _ => HS.out) ?_
        rotate_left
        · first | (go_simp; done) | (go_simp; with_reducible rfl)
        simp only [Act.put, List.setIfInBounds_toArray, List.set_cons_zero, List.set_cons_succ]
        refine lt_pure 6 rfl (by kernel_rfl) (by kernel_rfl) (by kernel_rfl) (by kernel_rfl) (fun _ _ _ h => h) (v := ?_) (yi_run rfl (fun w => ?_)) (fun _ => HS.out) ?_
        rotate_left
        · first | (go_simp; done) | (go_simp; with_reducible rfl)
        simp only [Act.put, List.setIfInBounds_toArray, List.set_cons_zero, List.set_cons_succ]
        refine lt_take 7 [9, 10, 11] rfl (by kernel_rfl) (by kernel_rfl) (by kernel_rfl) (by kernel_rfl) (by kernel_rfl) (fun _ _ _ h => h) (yi_cell rfl rfl rfl (fun w hS => node_l hS (List.mem_append_left _ (hin _ HN.out))) (fun w => Try.isAgg78 w)) HS.out ?_
        simp only [Act.put, List.setIfInBounds_toArray, List.set_cons_zero, List.set_cons_succ]
        refine lt_pure 8 rfl (by kernel_rfl) (by kernel_rfl) (by kernel_rfl) (by kernel_rfl) (fun _ _ _ h => h) (v := ?_) (yi_run rfl (fun w => ?_)) (fun _ => HS.out) ?_
        rotate_left
        · first | (go_simp; done) | (go_simp; with_reducible rfl)
        simp only [Act.put, List.setIfInBounds_toArray, List.set_cons_zero, List.set_cons_succ]
        refine lt_call 9 rfl (by kernel_rfl) rfl rfl ⟨_, Try.func91, by decide, by kernel_rfl⟩ [.agg #[.slice a.A a.e.row.length a.c, .int .i64 a.e.fam, .slice a.B a.e.qual.length a.d, .int .i64 a.e.ts, .int .i64 a.e.seq, .int .i64 a.e.kind, .slice a.D a.e.val.length a.q], l.ptr, t2.ptr] rfl ?_
        refine (even_any (ms := ms ++ ns2) HS.out hin2 a l t2 (HML.out.more fun _ ho => List.mem_append_left _ ho) HM2.out HOL.out HOK2.out (by omega) (by rw [HLI.out, tr_insR]; omega)).mono ?_
        rintro e y4 ⟨t3, ns3, rfl, hz, hm3, ok3, hl3⟩
        have HZ3 : Hid (OW w (os ++ ns2 ++ ns3) y4) := Lib.hid (by rw [List.append_assoc, List.append_assoc] at hz; rw [List.append_assoc]; exact hz.right)
        have HM3 : Hid (TrM (ms ++ ns2 ++ ns3) t3) := Lib.hid hm3
        have HOK3 := Lib.hid ok3
        have HL3 := Lib.hid hl3
        replace HS := Lib.hid (hz.sub (List.sublist_append_left _ _))
        clear hz hm3 ok3 hl3
        refine ⟨_, rfl, fun _ => HS.out, ?_⟩
        simp only [Act.put, List.setIfInBounds_toArray, List.set_cons_zero, List.set_cons_succ]
        refine lt_pure 10 rfl (by kernel_rfl) (by kernel_rfl) (by kernel_rfl) (by kernel_rfl) (fun _ _ _ h => h) (v := ?_) (yi_run rfl (fun w => ?_)) (fun _ => HS.out) ?_
        rotate_left
        · first | (go_simp; done) | (go_simp; with_reducible rfl)
        simp only [Act.put, List.setIfInBounds_toArray, List.set_cons_zero, List.set_cons_succ]
        refine lt_pure 11 rfl (by kernel_rfl) (by kernel_rfl) (by kernel_rfl) (by kernel_rfl) (fun _ _ _ h => h) (v := ?_) (yi_run rfl (fun w => ?_)) (fun _ => HS.out) ?_
        rotate_left
        · first | (go_simp; done) | (go_simp; with_reducible rfl)
        simp only [Act.put, List.setIfInBounds_toArray, List.set_cons_zero, List.set_cons_succ]
        refine lt_done (by kernel_rfl) ?_
        clear HS
        go_wp2_with fail
        go_ret2
        refine ⟨t3, ns2 ++ ns3, true, rfl, by rw [← List.append_assoc]; exact HZ3.out, by rw [← List.append_assoc]; exact HM3.out, HOK3.out, .inl ⟨rfl, ?_, ?_⟩⟩
        · rw [HENT.out, HGT.out.2]; exact HH.out
        · show t3.list = insR (l.list ++ a :: q.list) r
          rw [HL3.out, HIR.out, HLI.out]
      · have HH := Lib.hid hh
        clear hh
        go_wp2_with fail
        go_ret2
        exact with_no HZ.out HM.out HOK.out (by rw [HENT.out, HGT.out.2]; exact HH.out)
    have hc3 : decide (cv > 0) = false := decide_eq_false hc2
    have HEQ2 := Lib.hid (ins_eq HA2.out (e := r.e) (by rw [HCV.out]; omega))
    go_wp2_with fail
    go_ret2
    exact with_no (ns := []) (by rw [List.append_nil]; exact HX2.out.right) HM.out HOK.out (by rw [HENT.out]; exact HEQ2.out)
end Go.Proofs.Ytdaoinhkagmbdaa
namespace Go.Proofs.Ytdaoinhkagmbdaa
open Go.RowKit
set_option maxRecDepth 100000 in
theorem flag_any (b : Bool) (w : World) : Calls Try.prog 74 #[.bool b] w fun e w' => e = .returned (.int .u8 ((flg b).toNat : Int)) ∧ w = w' := by
  cases b <;> (go_enter Try.func74, Try.ntmps74; go_wp2; go_ret; exact ⟨rfl, rfl⟩)
theorem idx_two0 (T S : Int) (w : World) : (Instr.index 105 (.agg #[.int .i64 T, .int .i64 S]) (.int .i64 0)).run Try.prog w = .ok (.int .i64 T) w := run_index_arr w _ 3 2 _ 0 _ (by kernel_rfl) (by kernel_rfl) (by kernel_rfl) (by decide) rfl
theorem idx_two1 (T S : Int) (w : World) : (Instr.index 105 (.agg #[.int .i64 T, .int .i64 S]) (.int .i64 1)).run Try.prog w = .ok (.int .i64 S) w := run_index_arr w _ 3 2 _ 1 _ (by kernel_rfl) (by kernel_rfl) (by kernel_rfl) (by decide) rfl
theorem falling_at (v : Nat) (w : World) (hv : v < 9223372036854775808) : Calls Try.prog 75 #[.int .i64 v] w fun e w' => ∃ A c, e = .returned (.tuple #[.slice A 8 c, .int .i64 0]) ∧ Sl w' A 8 c (numK v) ∧ Below w.heap.size w w' := by
  refine (falling_any v w hv).mono fun e w' h => ?_
  obtain ⟨A, c, h1, h2, h3, h4⟩ := BytesPost2.at_ h (risB_len _) rfl
  exact ⟨A, c, h1, by unfold numK; rw [Int.toNat_natCast]; exact h2, h4⟩
set_option maxRecDepth 100000 in
set_option maxHeartbeats 2000000 in
theorem key_five (row qual : List UInt8) (A : Option Addr) (n c F : Nat) (B : Option Addr) (m d T S : Nat) (D : Option Addr) (v q : Nat) (w : World) (hrow : Sl w A n c row) (hqual : Sl w B m d qual) (hz : checkN n F m T S 5 v = 0) :
    Calls Try.prog 52 #[.agg #[.slice A n c, .int .i64 (F : Int), .slice B m d, .int .i64 (T : Int), .int .i64 (S : Int), .int .i64 5, .slice D v q]] w (BytesPost2 5 (keyE ⟨row, F, qual, T, S, 5, []⟩) 0 w) := by
  obtain ⟨z1, z2, z3, z4, z5, z6, -⟩ := checkN_ok hz
  have HN : Hid (n ≤ 256 ∧ m ≤ 256 ∧ T ≤ 1099511627776 ∧ S ≤ 17592186044431) := Lib.hid (by omega)
  have HR : Hid (∀ x, Below w.heap.size w x → Sl x A n c row) := Lib.hid fun x h => hrow.later h
  have HQ : Hid (∀ x, Below w.heap.size w x → Sl x B m d qual) := Lib.hid fun x h => hqual.later h
  have HLEN : Hid ((ordB row).length ≤ 514 ∧ (ordB qual).length ≤ 514) := Lib.hid (by
    have h1 := ordB_len row; have h2 := ordB_len qual; have h3 := hrow.len; have h4 := hqual.len; omega)
  have HZ := Lib.hid hz
  have HX0 := Lib.hid (Bx.new w #[.slice A n c, .int .i64 (F : Int), .slice B m d, .int .i64 (T : Int), .int .i64 (S : Int), .int .i64 5, .slice D v q] 30)
  clear hz z1 z2 z3 z4 z5 z6 hrow hqual
  go_enter Try.func52, Try.ntmps52
  go_wp2_with (go_at_call 72; go_must (refine (check_any _ _ _ _ _ _ _ _ _ _ _ _ _ _).mono ?_); rintro e x1 ⟨rfl, hb1⟩; rw [HZ.out]; have HX1 := Lib.hid (HX0.out.later hb1); clear hb1 HX0)
  have c0 := HX1.out.cell (i := 0) (v := .slice A n c) rfl; have c1 := HX1.out.cell (i := 1) (v := .int .i64 (F : Int)) rfl; have c5 := HX1.out.cell (i := 5) (v := .int .i64 5) rfl
  go_region_held3 (fun x => x.cell? ⟨w.heap.size, 0, none⟩ = some (.slice A n c) ∧ x.cell? ⟨w.heap.size, 1, none⟩ = some (.int .i64 (F : Int)) ∧ x.cell? ⟨w.heap.size, 5, none⟩ = some (.int .i64 5) ∧ Bx w #[.slice A n c, .int .i64 (F : Int), .slice B m d, .int .i64 (T : Int), .int .i64 (S : Int), .int .i64 5, .slice D v q] x) (first | assumption | exact ⟨c0, c1, c5, HX1.out.later (Below.refl _ _).drew⟩ | exact keepB3 ‹_ ∧ _ ∧ _ ∧ Bx _ _ _› hb2 | exact keepA3 ‹_ ∧ _ ∧ _ ∧ Bx _ _ _› | exact keepG3 ‹_ ∧ _ ∧ _ ∧ Bx _ _ _› (own_below hO2 ((Below.refl _ _).alloc (Nat.le_refl _) _)) hg3) (first
    | (go_at_call 73; refine (ordered_any row A n c _ (by have := HN.out; omega) (HR.out _ (‹_ ∧ _ ∧ _ ∧ Bx _ _ _›).2.2.2.up).rb).mono ?_; rintro e x2 ⟨A2, c2, rfl, hO2, hb2⟩; have hO2 := own_low hO2 (‹_ ∧ _ ∧ _ ∧ Bx _ _ _›).2.2.2.size)
    | (go_at_call 74; refine (flag_any _ _).mono ?_; rintro e w0 ⟨rfl, rfl⟩)
    | (refine step_append_cells _ (by rfl) _ _ (by rfl) Try.u8s' (w.heap.size + 1) (.slice A2 (ordB row).length c2) (ordB row).length (u8s (ordB row)) (by rfl) (own_below hO2 ((Below.refl _ _).alloc (Nat.le_refl _) _)) (x2.heap.size + 1) (some ⟨x2.heap.size, 0, none⟩) 2 2 (u8s [UInt8.ofNat F, flg true]) (by rfl) (by exact reads_lit x2 _ [UInt8.ofNat F, flg true] _ _ (by show [Value.int .u8 (IntKind.u8.wrap (F : Int)), _] = [u8v _, u8v _]; rw [u8v_mod, IntKind.wrap_u8]; rfl)) (u8s_one _) (by have := HLEN.out; unfold maxLen; omega) (by have := HLEN.out; omega) (‹_ ∧ _ ∧ _ ∧ Bx _ _ _›).2.2.2.size ?_; intro v3 x3 hown3 hg3 hat3 hold3 hcell3))
  all_goals
    obtain ⟨-, -, -, hx3⟩ := ‹_ ∧ _ ∧ _ ∧ Bx _ _ x3›
    have HX3 := Lib.hid hx3
    rw [← u8s_append] at hown3
    have HO3 := Lib.hid hown3
    clear hx3 hown3 hg3 hat3 hold3 hcell3 hO2 hb2 c0 c1 c5
    have q3_3 := HX3.out.cell (i := 3) (v := .int .i64 (T : Int)) rfl
    have q3_4 := HX3.out.cell (i := 4) (v := .int .i64 (S : Int)) rfl
    go_wp2_with fail
    clear HX1
    generalize IntKind.u8.wrap (F : Int) = wf
    obtain ⟨P, hP⟩ : ∃ P, P = ordB row ++ [UInt8.ofNat F, flg true] := ⟨_, rfl⟩
    have HP := Lib.hid hP
    have HOP : Hid (x3.ownsRow (w.heap.size + 1) 5 1 v3 P.length (u8s P)) := Lib.hid (by
      have := HO3.out
      rw [← hP] at this
      have e : P.length = (ordB row).length + 2 := by rw [hP]; simp only [List.length_append, List.length_cons, List.length_nil]
      rw [e]; exact this)
    have HPL : Hid (P.length ≤ 1031) := Lib.hid (by have := HLEN.out; rw [hP]; simp only [List.length_append, List.length_cons, List.length_nil]; omega)
    clear hP
    go_loopw [5, 47] (fun b i wr => ∃ (k : Nat) (Q : List UInt8), k ≤ 2 ∧ i = .int .i64 k ∧ Hid (Q = P ++ (if k = 0 then [] else if k = 1 then numK T else numK T ++ numK S)) ∧ Hid (wr.ownsRow (w.heap.size + 1) 5 1 b Q.length (u8s Q)) ∧ Hid (Q.length ≤ P.length + 16) ∧ Hid (Bx w #[.slice A n c, .int .i64 (F : Int), .slice B m d, .int .i64 (T : Int), .int .i64 (S : Int), .int .i64 5, .slice D v q] wr)) (fun _ i _ => 2 - (intOf i).toNat)
    case atStart => exact ⟨0, P, by decide, rfl, Lib.hid (by simp), HOP, Lib.hid (by omega), HX3⟩
    case round =>
      clear HOP HX3
      obtain ⟨k, Q, hk, hi, HQQ, HO, HL, HX⟩ := hrel
      obtain ⟨u, hu⟩ : ∃ u, u = u5 := ⟨_, rfl⟩
      rw [← hu] at HO ⊢
      clear hu
      have hk' : k = 0 ∨ k = 1 ∨ k = 2 := by omega
      clear hk
      rcases hk' with rfl | rfl | rfl
      case inr.inr =>
        replace hi : _ = Value.int .i64 2 := hi
        subst hi
        have p5 := HX.out.cell (i := 5) (v := .int .i64 5) rfl
        go_wp2_with (at_builtin; go_must (refine wpList_append_reads _ rfl (.tmp 62) (.tmp 66) rfl Try.u8s' (w.heap.size + 1) u Q.length (u8s Q) rfl (HO.out.alloc _) (wr.heap.size + 1) (some ⟨wr.heap.size, 0, none⟩) 1 1 (u8s [UInt8.ofNat 5]) rfl (by exact reads_lit wr _ [UInt8.ofNat 5] _ _ (by rfl)) (u8s_one _) (by have := HL.out; have := HPL.out; unfold maxLen; omega) (by have := HL.out; have := HPL.out; omega) (by have := HX.out.size; simp; omega) ?_); intro v1 x1 hown hg hat; have HX1 := Lib.hid ((HX.out.alloc _).grow (HO.out.alloc _) hg); rw [← u8s_append] at hown; have HO1 := Lib.hid hown; clear hown hg hat)
        go_ret2
        have hf : Q ++ [UInt8.ofNat 5] = keyE ⟨row, F, qual, T, S, 5, []⟩ := by
          rw [HQQ.out, HP.out]
          unfold keyE tailK qualK
          simp
        rw [← hf]
        exact bytes_post2 (own_low HO1.out (Nat.le_succ _)) HX1.out.up
      case inl =>
        replace hi : _ = Value.int .i64 0 := hi
        subst hi
        have ix := fun w => idx_two0 (T : Int) (S : Int) w
        go_wp2_with (first
          | (go_at_call 75; go_must (refine (falling_at T _ (by have := HN.out; omega)).mono ?_); rintro e x1 ⟨A1, c1, rfl, hs1, hb1⟩; have HX1 := Lib.hid (HX.out.later hb1); have HO1 := Lib.hid (own_below HO.out hb1); have HR1 := Lib.hid hs1.rb; clear hs1 hb1)
          | (at_builtin; go_must (refine wpList_append_reads _ rfl (.tmp 58) (.tmp 59) rfl Try.u8s' (w.heap.size + 1) u Q.length (u8s Q) rfl HO1.out x1.heap.size A1 8 c1 (u8s (numK T)) rfl HR1.out (u8s_one _) (by have := HL.out; have := HPL.out; unfold maxLen; omega) (by have := HL.out; have := HPL.out; omega) (by have := HX1.out.size; omega) ?_); intro v2 x2 hown hg hat; have HX2 := Lib.hid (HX1.out.grow HO1.out hg); rw [← u8s_append] at hown; have HO2 := Lib.hid hown; clear hown hg hat))
        have HO3 : Hid (x2.ownsRow (w.heap.size + 1) 5 1 v2 (Q ++ numK T).length (u8s (Q ++ numK T))) := Lib.hid (by
          have := HO2.out
          rw [show (Q ++ numK T).length = Q.length + 8 from by simp [numK_len]]; exact this)
        clear HO2
        go_roundw
        case measure => simp [intOf]
        case rel => exact ⟨1, Q ++ numK T, by decide, rfl, Lib.hid (by rw [HQQ.out]; simp), HO3, Lib.hid (by have := HQQ.out; rw [this]; simp [numK_len]), HX2⟩
      case inr.inl =>
        replace hi : _ = Value.int .i64 1 := hi
        subst hi
        have ix := fun w => idx_two1 (T : Int) (S : Int) w
        go_wp2_with (first
          | (go_at_call 75; go_must (refine (falling_at S _ (by have := HN.out; omega)).mono ?_); rintro e x1 ⟨A1, c1, rfl, hs1, hb1⟩; have HX1 := Lib.hid (HX.out.later hb1); have HO1 := Lib.hid (own_below HO.out hb1); have HR1 := Lib.hid hs1.rb; clear hs1 hb1)
          | (at_builtin; go_must (refine wpList_append_reads _ rfl (.tmp 58) (.tmp 59) rfl Try.u8s' (w.heap.size + 1) u Q.length (u8s Q) rfl HO1.out x1.heap.size A1 8 c1 (u8s (numK S)) rfl HR1.out (u8s_one _) (by have := HL.out; have := HPL.out; unfold maxLen; omega) (by have := HL.out; have := HPL.out; omega) (by have := HX1.out.size; omega) ?_); intro v2 x2 hown hg hat; have HX2 := Lib.hid (HX1.out.grow HO1.out hg); rw [← u8s_append] at hown; have HO2 := Lib.hid hown; clear hown hg hat))
        have HO3 : Hid (x2.ownsRow (w.heap.size + 1) 5 1 v2 (Q ++ numK S).length (u8s (Q ++ numK S))) := Lib.hid (by
          have := HO2.out
          rw [show (Q ++ numK S).length = Q.length + 8 from by simp [numK_len]]; exact this)
        clear HO2
        go_roundw
        case measure => simp [intOf]
        case rel => exact ⟨2, Q ++ numK S, by decide, rfl, Lib.hid (by rw [HQQ.out]; simp), HO3, Lib.hid (by have := HQQ.out; rw [this]; simp [numK_len]), HX2⟩
set_option maxRecDepth 100000 in
set_option maxHeartbeats 2000000 in
theorem key_more (row qual : List UInt8) (A : Option Addr) (n c F : Nat) (B : Option Addr) (m d T S K : Nat) (D : Option Addr) (v q : Nat) (w : World) (hrow : Sl w A n c row) (hqual : Sl w B m d qual) (hz : checkN n F m T S (K : Int) v = 0) (hk : K ≠ 5) :
    Calls Try.prog 52 #[.agg #[.slice A n c, .int .i64 (F : Int), .slice B m d, .int .i64 (T : Int), .int .i64 (S : Int), .int .i64 (K : Int), .slice D v q]] w (BytesPost2 5 (keyE ⟨row, F, qual, T, S, (K : Int), []⟩) 0 w) := by
  obtain ⟨z1, z2, z3, z4, z5, z6, -⟩ := checkN_ok hz
  have HN : Hid (n ≤ 256 ∧ m ≤ 256 ∧ T ≤ 1099511627776 ∧ S ≤ 17592186044431) := Lib.hid (by omega)
  have HR : Hid (∀ x, Below w.heap.size w x → Sl x A n c row) := Lib.hid fun x h => hrow.later h
  have HQ : Hid (∀ x, Below w.heap.size w x → Sl x B m d qual) := Lib.hid fun x h => hqual.later h
  have HLEN : Hid ((ordB row).length ≤ 514 ∧ (ordB qual).length ≤ 514) := Lib.hid (by
    have h1 := ordB_len row; have h2 := ordB_len qual; have h3 := hrow.len; have h4 := hqual.len; omega)
  have HZ := Lib.hid hz
  have HX0 := Lib.hid (Bx.new w #[.slice A n c, .int .i64 (F : Int), .slice B m d, .int .i64 (T : Int), .int .i64 (S : Int), .int .i64 (K : Int), .slice D v q] 30)
  have hk5 : ((K : Int) == 5) = false := by rw [beq_eq_false_iff_ne]; omega
  have hk5' : ((K : Int) != 5) = true := by rw [bne_iff_ne]; omega
  have HK := Lib.hid hk
  obtain ⟨b4, hb4⟩ : ∃ b4, b4 = ((K : Int) == 4) := ⟨_, rfl⟩
  have HB4 := Lib.hid hb4
  have hk4 : ((K : Int) == 4) = b4 := hb4.symm
  clear hk hb4
  clear hz z1 z2 z3 z4 z5 z6 hrow hqual
  have tok3 : True := trivial
  have tok4 : True := trivial
  go_enter Try.func52, Try.ntmps52
  go_wp2_with (go_at_call 72; go_must (refine (check_any _ _ _ _ _ _ _ _ _ _ _ _ _ _).mono ?_); rintro e x1 ⟨rfl, hb1⟩; rw [HZ.out]; have HX1 := Lib.hid (HX0.out.later hb1); clear hb1 HX0)
  have c0 := HX1.out.cell (i := 0) (v := .slice A n c) rfl; have c1 := HX1.out.cell (i := 1) (v := .int .i64 (F : Int)) rfl; have c5 := HX1.out.cell (i := 5) (v := .int .i64 (K : Int)) rfl
  go_region_held3 (fun x => x.cell? ⟨w.heap.size, 0, none⟩ = some (.slice A n c) ∧ x.cell? ⟨w.heap.size, 1, none⟩ = some (.int .i64 (F : Int)) ∧ x.cell? ⟨w.heap.size, 5, none⟩ = some (.int .i64 (K : Int)) ∧ Bx w #[.slice A n c, .int .i64 (F : Int), .slice B m d, .int .i64 (T : Int), .int .i64 (S : Int), .int .i64 (K : Int), .slice D v q] x) (first | assumption | exact ⟨c0, c1, c5, HX1.out.later (Below.refl _ _).drew⟩ | exact keepB3 ‹_ ∧ _ ∧ _ ∧ Bx _ _ _› hb2 | exact keepA3 ‹_ ∧ _ ∧ _ ∧ Bx _ _ _› | exact keepG3 ‹_ ∧ _ ∧ _ ∧ Bx _ _ _› (own_below hO2 ((Below.refl _ _).alloc (Nat.le_refl _) _)) hg3) (first
    | (go_at_call 73; refine (ordered_any row A n c _ (by have := HN.out; omega) (HR.out _ (‹_ ∧ _ ∧ _ ∧ Bx _ _ _›).2.2.2.up).rb).mono ?_; rintro e x2 ⟨A2, c2, rfl, hO2, hb2⟩; have hO2 := own_low hO2 (‹_ ∧ _ ∧ _ ∧ Bx _ _ _›).2.2.2.size)
    | (go_at_call 74; refine (flag_any _ _).mono ?_; rintro e w0 ⟨rfl, rfl⟩)
    | (refine step_append_cells _ (by rfl) _ _ (by rfl) Try.u8s' (w.heap.size + 1) (.slice A2 (ordB row).length c2) (ordB row).length (u8s (ordB row)) (by rfl) (own_below hO2 ((Below.refl _ _).alloc (Nat.le_refl _) _)) (x2.heap.size + 1) (some ⟨x2.heap.size, 0, none⟩) 2 2 (u8s [UInt8.ofNat F, flg false]) (by rfl) (by exact reads_lit x2 _ [UInt8.ofNat F, flg false] _ _ (by show [Value.int .u8 (IntKind.u8.wrap (F : Int)), _] = [u8v _, u8v _]; rw [u8v_mod, IntKind.wrap_u8]; rfl)) (u8s_one _) (by have := HLEN.out; unfold maxLen; omega) (by have := HLEN.out; omega) (‹_ ∧ _ ∧ _ ∧ Bx _ _ _›).2.2.2.size ?_; intro v3 x3 hown3 hg3 hat3 hold3 hcell3))
  all_goals
    obtain ⟨-, -, -, hx3⟩ := ‹_ ∧ _ ∧ _ ∧ Bx _ _ x3›
    have HX3 := Lib.hid hx3
    rw [← u8s_append] at hown3
    have HO3 := Lib.hid hown3
    clear hx3 hown3 hg3 hat3 hold3 hcell3 hO2 hb2 c0 c1 c5
    have q3_5 := HX3.out.cell (i := 5) (v := .int .i64 (K : Int)) rfl
    have q3_2 := HX3.out.cell (i := 2) (v := .slice B m d) rfl
    go_wp2_with (first
      | (go_at_call 74; go_must (refine (flag_any _ _).mono ?_); rintro e w0 ⟨rfl, rfl⟩)
      | (go_at_call 73; have _t := tok3; go_must (refine (ordered_any qual B m d _ (by have := HN.out; omega) (HQ.out _ HX3.out.up).rb).mono ?_); rintro e x4 ⟨A4, c4, rfl, hO4, hb4⟩; have HX4 := Lib.hid (HX3.out.later hb4); have HO4 := Lib.hid (own_below HO3.out hb4); have HR4 := Lib.hid (RB.own hO4); clear hO4 hb4 tok3)
      | (at_builtin; have _t := tok4; go_must (refine wpList_append_reads _ rfl (.tmp 30) (.tmp 33) rfl Try.u8s' (w.heap.size + 1) v3 ((ordB row).length + 2) (u8s (ordB row ++ [UInt8.ofNat F, flg false])) rfl HO4.out x4.heap.size A4 (ordB qual).length c4 (u8s (ordB qual)) rfl HR4.out (u8s_one _) (by have := HLEN.out; unfold maxLen; omega) (by have := HLEN.out; omega) (by have := HX4.out.size; omega) ?_); intro v5 x5 hown hg hat; clear tok4; have HX5 := Lib.hid (HX4.out.grow HO4.out hg); rw [← u8s_append] at hown; have HO5 := Lib.hid hown; clear hown hg hat; have q5_5 := HX5.out.cell (i := 5) (v := .int .i64 (K : Int)) rfl)
      | (at_builtin; go_must (refine wpList_append_reads _ rfl (.tmp 35) (.tmp 40) rfl Try.u8s' (w.heap.size + 1) v5 ((ordB row).length + 2 + (ordB qual).length) (u8s ((ordB row ++ [UInt8.ofNat F, flg false]) ++ ordB qual)) rfl (HO5.out.alloc _) (x5.heap.size + 1) (some ⟨x5.heap.size, 0, none⟩) 1 1 (u8s ([flg b4])) rfl (by exact reads_lit x5 _ ([flg b4]) _ _ (by rfl)) (u8s_one _) (by have := HLEN.out; unfold maxLen; omega) (by have := HLEN.out; omega) (by have := HX5.out.size; simp; omega) ?_); intro v6 x6 hown hg hat; have HX6 := Lib.hid ((HX5.out.alloc _).grow (HO5.out.alloc _) hg); rw [← u8s_append] at hown; have HO6 := Lib.hid hown; clear hown hg hat; have q6_5 := HX6.out.cell (i := 5) (v := .int .i64 (K : Int)) rfl; have q6_3 := HX6.out.cell (i := 3) (v := .int .i64 (T : Int)) rfl; have q6_4 := HX6.out.cell (i := 4) (v := .int .i64 (S : Int)) rfl))
    clear HX1
    generalize IntKind.u8.wrap (F : Int) = wf
    obtain ⟨P, hP⟩ : ∃ P, P = ((ordB row ++ [UInt8.ofNat F, flg false]) ++ ordB qual) ++ [flg b4] := ⟨_, rfl⟩
    have HP := Lib.hid hP
    have HOP : Hid (x6.ownsRow (w.heap.size + 1) 5 1 v6 P.length (u8s P)) := Lib.hid (by
      have := HO6.out
      rw [← hP] at this
      have e : P.length = (ordB row).length + 2 + (ordB qual).length + 1 := by rw [hP]; simp only [List.length_append, List.length_cons, List.length_nil]
      rw [e]; exact this)
    have HPL : Hid (P.length ≤ 1031) := Lib.hid (by have := HLEN.out; rw [hP]; simp only [List.length_append, List.length_cons, List.length_nil]; omega)
    clear hP
    go_loopw [5, 47] (fun b i wr => ∃ (k : Nat) (Q : List UInt8), k ≤ 2 ∧ i = .int .i64 k ∧ Hid (Q = P ++ (if k = 0 then [] else if k = 1 then numK T else numK T ++ numK S)) ∧ Hid (wr.ownsRow (w.heap.size + 1) 5 1 b Q.length (u8s Q)) ∧ Hid (Q.length ≤ P.length + 16) ∧ Hid (Bx w #[.slice A n c, .int .i64 (F : Int), .slice B m d, .int .i64 (T : Int), .int .i64 (S : Int), .int .i64 (K : Int), .slice D v q] wr)) (fun _ i _ => 2 - (intOf i).toNat)
    case atStart => exact ⟨0, P, by decide, rfl, Lib.hid (by simp), HOP, Lib.hid (by omega), HX6⟩
    case round =>
      clear HOP HX6
      obtain ⟨k, Q, hk, hi, HQQ, HO, HL, HX⟩ := hrel
      obtain ⟨u, hu⟩ : ∃ u, u = u5 := ⟨_, rfl⟩
      rw [← hu] at HO ⊢
      clear hu
      have hk' : k = 0 ∨ k = 1 ∨ k = 2 := by omega
      clear hk
      rcases hk' with rfl | rfl | rfl
      case inr.inr =>
        replace hi : _ = Value.int .i64 2 := hi
        subst hi
        have p5 := HX.out.cell (i := 5) (v := .int .i64 (K : Int)) rfl
        go_wp2_with (at_builtin; go_must (refine wpList_append_reads _ rfl (.tmp 62) (.tmp 66) rfl Try.u8s' (w.heap.size + 1) u Q.length (u8s Q) rfl (HO.out.alloc _) (wr.heap.size + 1) (some ⟨wr.heap.size, 0, none⟩) 1 1 (u8s [UInt8.ofNat K]) rfl (by exact reads_lit wr _ [UInt8.ofNat K] _ _ (by show [_] = [u8v _]; rw [u8v_mod])) (u8s_one _) (by have := HL.out; have := HPL.out; unfold maxLen; omega) (by have := HL.out; have := HPL.out; omega) (by have := HX.out.size; simp; omega) ?_); intro v1 x1 hown hg hat; have HX1 := Lib.hid ((HX.out.alloc _).grow (HO.out.alloc _) hg); rw [← u8s_append] at hown; have HO1 := Lib.hid hown; clear hown hg hat)
        go_ret2
        have hf : Q ++ [UInt8.ofNat K] = keyE ⟨row, F, qual, T, S, (K : Int), []⟩ := by
          rw [HQQ.out, HP.out]
          unfold keyE tailK qualK
          have hkk : ¬ ((K : Int) = 5) := by have := HK.out; omega
          have h5 : ((K : Int) == 5) = false := hk5
          have hB := HB4.out
          clear hk4
          subst hB
          rw [if_neg hkk]
          simp only [h5]
          simp
        rw [← hf]
        exact bytes_post2 (own_low HO1.out (Nat.le_succ _)) HX1.out.up
      case inl =>
        replace hi : _ = Value.int .i64 0 := hi
        subst hi
        have ix := fun w => idx_two0 (T : Int) (S : Int) w
        go_wp2_with (first
          | (go_at_call 75; go_must (refine (falling_at T _ (by have := HN.out; omega)).mono ?_); rintro e x1 ⟨A1, c1, rfl, hs1, hb1⟩; have HX1 := Lib.hid (HX.out.later hb1); have HO1 := Lib.hid (own_below HO.out hb1); have HR1 := Lib.hid hs1.rb; clear hs1 hb1)
          | (at_builtin; go_must (refine wpList_append_reads _ rfl (.tmp 58) (.tmp 59) rfl Try.u8s' (w.heap.size + 1) u Q.length (u8s Q) rfl HO1.out x1.heap.size A1 8 c1 (u8s (numK T)) rfl HR1.out (u8s_one _) (by have := HL.out; have := HPL.out; unfold maxLen; omega) (by have := HL.out; have := HPL.out; omega) (by have := HX1.out.size; omega) ?_); intro v2 x2 hown hg hat; have HX2 := Lib.hid (HX1.out.grow HO1.out hg); rw [← u8s_append] at hown; have HO2 := Lib.hid hown; clear hown hg hat))
        have HO3 : Hid (x2.ownsRow (w.heap.size + 1) 5 1 v2 (Q ++ numK T).length (u8s (Q ++ numK T))) := Lib.hid (by
          have := HO2.out
          rw [show (Q ++ numK T).length = Q.length + 8 from by simp [numK_len]]; exact this)
        clear HO2
        go_roundw
        case measure => simp [intOf]
        case rel => exact ⟨1, Q ++ numK T, by decide, rfl, Lib.hid (by rw [HQQ.out]; simp), HO3, Lib.hid (by have := HQQ.out; rw [this]; simp [numK_len]), HX2⟩
      case inr.inl =>
        replace hi : _ = Value.int .i64 1 := hi
        subst hi
        have ix := fun w => idx_two1 (T : Int) (S : Int) w
        go_wp2_with (first
          | (go_at_call 75; go_must (refine (falling_at S _ (by have := HN.out; omega)).mono ?_); rintro e x1 ⟨A1, c1, rfl, hs1, hb1⟩; have HX1 := Lib.hid (HX.out.later hb1); have HO1 := Lib.hid (own_below HO.out hb1); have HR1 := Lib.hid hs1.rb; clear hs1 hb1)
          | (at_builtin; go_must (refine wpList_append_reads _ rfl (.tmp 58) (.tmp 59) rfl Try.u8s' (w.heap.size + 1) u Q.length (u8s Q) rfl HO1.out x1.heap.size A1 8 c1 (u8s (numK S)) rfl HR1.out (u8s_one _) (by have := HL.out; have := HPL.out; unfold maxLen; omega) (by have := HL.out; have := HPL.out; omega) (by have := HX1.out.size; omega) ?_); intro v2 x2 hown hg hat; have HX2 := Lib.hid (HX1.out.grow HO1.out hg); rw [← u8s_append] at hown; have HO2 := Lib.hid hown; clear hown hg hat))
        have HO3 : Hid (x2.ownsRow (w.heap.size + 1) 5 1 v2 (Q ++ numK S).length (u8s (Q ++ numK S))) := Lib.hid (by
          have := HO2.out
          rw [show (Q ++ numK S).length = Q.length + 8 from by simp [numK_len]]; exact this)
        clear HO2
        go_roundw
        case measure => simp [intOf]
        case rel => exact ⟨2, Q ++ numK S, by decide, rfl, Lib.hid (by rw [HQQ.out]; simp), HO3, Lib.hid (by have := HQQ.out; rw [this]; simp [numK_len]), HX2⟩
set_option maxRecDepth 100000 in
set_option maxHeartbeats 1000000 in
theorem key_err (f t s k : Int) (A : Option Addr) (n c : Nat) (B : Option Addr) (m d : Nat) (D : Option Addr) (v q : Nat) (w : World) (hz : checkN n f m t s k v ≠ 0) :
    Calls Try.prog 52 #[.agg #[.slice A n c, .int .i64 f, .slice B m d, .int .i64 t, .int .i64 s, .int .i64 k, .slice D v q]] w (BytesPost2 5 [] (checkN n f m t s k v) w) := by
  obtain ⟨z, hzz⟩ : ∃ z, z = checkN n f m t s k v := ⟨_, rfl⟩
  rw [← hzz] at hz ⊢
  have HZ := Lib.hid hzz
  have hd : (z != 0) = true := by rw [bne_iff_ne]; exact hz
  have HB := Lib.hid (fun o => (Below.refl w.heap.size w).alloc (Nat.le_refl _) o)
  clear hz hzz
  go_enter Try.func52, Try.ntmps52
  go_wp2_with (go_at_call 72; go_must (refine (check_any _ _ _ _ _ _ _ _ _ _ _ _ _ _).mono ?_); rintro e x1 ⟨rfl, hb1⟩; rw [← HZ.out]; have HB1 := Lib.hid (below_up (HB.out _) hb1); clear hb1 HB)
  go_ret2
  exact bytes_none2 HB1.out
theorem key_any (e : Ent) (A : Option Addr) (n c : Nat) (B : Option Addr) (m d : Nat) (D : Option Addr) (v q : Nat) (w : World) (h : En w A n c B m d D v q e) :
    Calls Try.prog 52 #[entV A n c B m d D v q e] w (BytesPost2 5 (KeyE e).1 (KeyE e).2 w) := by
  obtain ⟨row, f, qual, t, s, k, val⟩ := e
  have hl1 : row.length = n := h.row.len
  have hl2 : qual.length = m := h.qual.len
  have hl3 : val.length = v := h.val.len
  have hc : checkE ⟨row, f, qual, t, s, k, val⟩ = checkN n f m t s k v := by unfold checkE; simp only [hl1, hl2, hl3]
  unfold KeyE
  rw [hc]
  by_cases hz : checkN n f m t s k v = 0
  · rw [if_pos hz]
    obtain ⟨z1, z2, z3, z4, z5, z6, -⟩ := checkN_ok hz
    obtain ⟨F, rfl⟩ : ∃ F : Nat, f = F := ⟨f.toNat, by omega⟩
    obtain ⟨T, rfl⟩ : ∃ T : Nat, t = T := ⟨t.toNat, by omega⟩
    obtain ⟨S, rfl⟩ : ∃ S : Nat, s = S := ⟨s.toNat, by omega⟩
    obtain ⟨K, rfl⟩ : ∃ K : Nat, k = K := ⟨k.toNat, by omega⟩
    by_cases hk : K = 5
    · subst hk
      exact key_five row qual A n c F B m d T S D v q w h.row h.qual hz
    · exact key_more row qual A n c F B m d T S K D v q w h.row h.qual hz hk
  · rw [if_neg hz]
    exact key_err f t s k A n c B m d D v q w hz
end Go.Proofs.Ytdaoinhkagmbdaa
namespace Go.Proofs.Ytdaoinhkagmbdaa
open Go.RowKit
section
variable (l : List UInt8) (A : Option Addr) (n c k : Nat) (w : World)
variable (hn : n ≤ 9223372036854775807) (hnc : n ≤ c) (hc : c ≤ 9223372036854775807) (hA : A = none → c = 0) (hr : RB w w.heap.size A n l) (ht : TabAt 0 w) (hk : k ≤ n)
include hk in
end
end Go.Proofs.Ytdaoinhkagmbdaa
namespace Go.Proofs.Ytdaoinhkagmbdaa
open Go.RowKit
end Go.Proofs.Ytdaoinhkagmbdaa
namespace Go.Proofs.Ytdaoinhkagmbdaa
open Go.RowKit
end Go.Proofs.Ytdaoinhkagmbdaa
namespace Go.Proofs.Ytdaoinhkagmbdaa
open Go.RowKit
theorem keepB1 {w x y z : World} {cs : Array Value} {p : Addr} {a : Value} (h : x.cell? p = some a ∧ Bx w cs x ∧ Below z.heap.size z x) (k : Below x.heap.size x y) : y.cell? p = some a ∧ Bx w cs y ∧ Below z.heap.size z y :=
  ⟨cell_below k h.1, h.2.1.later k, h.2.2.trans (k.mono h.2.2.size)⟩
theorem keepG1 {w x y z : World} {cs : Array Value} {i : Nat} {a : Value} {e : TypeId} {s n : Nat} {v : Value} {xs : List Value} (h : x.cell? ⟨w.heap.size, i, none⟩ = some a ∧ Bx w cs x ∧ Below z.heap.size z x) (hz : Bx w cs z) (hown : x.ownsRow z.heap.size e s v n xs) (hg : x.grownBy y v.ownBlock) :
    y.cell? ⟨w.heap.size, i, none⟩ = some a ∧ Bx w cs y ∧ Below z.heap.size z y := by
  have hne : some w.heap.size ≠ v.ownBlock := fun e => by
    have h1 := (hown.lt _ e.symm).1
    have h2 := hz.size
    omega
  exact ⟨hg.cell h.1 hne, h.2.1.grow (own_low hown hz.size) hg, below_app h.2.2 hown hg h.2.2.size (Nat.le_refl _)⟩
set_option maxRecDepth 100000 in
set_option maxHeartbeats 1000000 in
theorem pack_any (e : Ent) (A : Option Addr) (n c : Nat) (B : Option Addr) (m d : Nat) (D : Option Addr) (v q : Nat) (w : World) (h : En w A n c B m d D v q e) :
    Calls Try.prog 26 #[entV A n c B m d D v q e] w (BytesPost2 5 (PackE e).1 (PackE e).2 w) := by
  have HX0 := Lib.hid (Bx.new w #[.slice A n c, .int .i64 e.fam, .slice B m d, .int .i64 e.ts, .int .i64 e.seq, .int .i64 e.kind, .slice D v q] 30)
  have HE : Hid (∀ x, Below w.heap.size w x → En x A n c B m d D v q e) := Lib.hid fun x hx => h.later hx
  have hvl := h.val.len
  unfold PackE entV
  by_cases hc : checkE e = 0
  · rw [if_pos hc]
    have HK : Hid (KeyE e = (keyE e, 0)) := Lib.hid (by unfold KeyE; rw [if_pos hc])
    have HLEN : Hid ((keyE e).length ≤ 1048 ∧ v ≤ 4096 ∧ (uintB (keyE e).length).length ≤ 10 ∧ (uintB e.val.length).length ≤ 10 ∧ e.val.length = v) := Lib.hid (by
      have h1 := keyE_len (ok_of hc); have h2 := (ok_of hc).val.1
      exact ⟨h1, by omega, uintB_ten (by omega), uintB_ten (by omega), hvl⟩)
    obtain ⟨L1, hL1⟩ : ∃ L, L = uintB (keyE e).length ++ keyE e := ⟨_, rfl⟩
    obtain ⟨L2, hL2⟩ : ∃ L, L = uintB e.val.length ++ e.val := ⟨_, rfl⟩
    have X1 := Lib.hid hL1
    have X2 := Lib.hid hL2
    have XL : Hid (L1.length ≤ 1058 ∧ L2.length ≤ 4106) := Lib.hid (by have := HLEN.out; rw [hL1, hL2]; simp only [List.length_append]; omega)
    have XP : Hid (packB e = L1 ++ L2) := Lib.hid (by rw [hL1, hL2]; rfl)
    rw [XP.out]
    clear hL1 hL2
    clear h hc hvl
    go_enter Try.func26, Try.ntmps26
    have tok1 : True := trivial
    go_wp2_with (go_at_call 52; go_must (refine (key_any e A n c B m d D v q _ (HE.out _ HX0.out.up)).mono ?_); rw [HK.out]; rintro e' x1 hp; obtain ⟨A1, c1, rfl, hS1, _, hb1⟩ := hp.at_ (n := (keyE e).length) rfl rfl; have HX1 := Lib.hid (HX0.out.later hb1); have HS1 := Lib.hid hS1; clear hb1 hp hS1; have y6 := HX1.out.cell (i := 6) (v := .slice D v q) rfl)
    go_region_held3 (fun x => x.cell? ⟨w.heap.size, 6, none⟩ = some (.slice D v q) ∧ Bx w #[.slice A n c, .int .i64 e.fam, .slice B m d, .int .i64 e.ts, .int .i64 e.seq, .int .i64 e.kind, .slice D v q] x ∧ Below x1.heap.size x1 x) (first | assumption | exact ⟨y6, HX1.out.later (Below.refl _ _).drew, (Below.refl _ _).drew⟩ | exact keepB1 ‹_ ∧ Bx _ _ _ ∧ Below _ _ _› hb2 | exact keepB1 ‹_ ∧ Bx _ _ _ ∧ Below _ _ _› hb3 | exact keepG1 ‹_ ∧ Bx _ _ _ ∧ Below _ _ _› HX1.out (own_below hO2 hb3) hg4) (first
      | (go_at_call 53; have _t := tok1; refine (bytes_any (keyE e) A1 _ c1 _ (by have := HLEN.out; omega) (HS1.out.later (‹_ ∧ Bx _ _ _ ∧ Below _ _ _›).2.2).rb).mono ?_; rw [← X1.out]; rintro e' x2 ⟨A2, c2, rfl, hO2, hb2⟩; have hO2 := own_low hO2 (‹_ ∧ Bx _ _ _ ∧ Below _ _ _›).2.2.size; clear tok1)
      | (go_at_call 53; refine (bytes_any e.val D v q _ (by have := HLEN.out; omega) (HE.out _ (‹_ ∧ Bx _ _ _ ∧ Below _ _ _›).2.1.up).val.rb).mono ?_; rw [← X2.out]; rintro e' x3 ⟨A3, c3, rfl, hO3, hb3⟩)
      | (refine step_append_cells _ (by rfl) _ _ (by rfl) Try.u8s' x1.heap.size (.slice A2 L1.length c2) L1.length (u8s (L1)) (by rfl) (own_below hO2 hb3) x3.heap.size A3 L2.length c3 (u8s (L2)) (by rfl) (RB.own hO3) (u8s_one _) (by have := XL.out; unfold maxLen; omega) (by have := XL.out; omega) (Nat.le_trans (‹_ ∧ Bx _ _ _ ∧ Below _ _ x3›).2.2.size (Nat.le_refl _)) ?_; intro v4 x4 hown4 hg4 hat4 hold4 hcell4))
    all_goals
      obtain ⟨-, -, hb4⟩ := ‹_ ∧ Bx _ _ _ ∧ Below _ _ x4›
      rw [← u8s_append] at hown4
      have HO4 := Lib.hid hown4
      have HB4 := Lib.hid (HX1.out.up.trans (hb4.mono HX1.out.up.size))
      clear hown4 hg4 hat4 hold4 hcell4 hb4 hO2 hO3 hb2 hb3 y6
      go_wp2_with fail
      go_ret2
      exact bytes_post2 (own_low HO4.out HX1.out.up.size) HB4.out
  · rw [if_neg hc]
    obtain ⟨z, hz⟩ : ∃ z, z = checkE e := ⟨_, rfl⟩
    have HK : Hid (KeyE e = ([], z)) := Lib.hid (by unfold KeyE; rw [if_neg hc, hz])
    have hd : (z != 0) = true := by rw [bne_iff_ne, hz]; exact hc
    rw [← hz]
    clear h hc hz hvl
    go_enter Try.func26, Try.ntmps26
    go_wp2_with (go_at_call 52; go_must (refine (key_any e A n c B m d D v q _ (HE.out _ HX0.out.up)).mono ?_); rw [HK.out]; rintro e' x1 hp; obtain ⟨A1, c1, rfl, hS1, _, hb1⟩ := hp.at_ (n := 0) rfl rfl; have HX1 := Lib.hid (HX0.out.later hb1); clear hb1 hp hS1)
    go_ret2
    exact bytes_none2 HX1.out.up
end Go.Proofs.Ytdaoinhkagmbdaa
namespace Go.Proofs.Ytdaoinhkagmbdaa
open Go.RowKit
theorem sclip_any8 (A : Option Addr) (n c : Nat) (w : World) (hc : n ≤ c) (_hl : c ≤ 9223372036854775807) : Calls Try.prog 92 #[.slice A n c] w fun e w' => e = .returned (.slice A n n) ∧ w = w' := by
  have i1 : (0 : Int) ≤ (n : Int) := by omega
  have i2 : (n : Int) ≤ (c : Int) := by omega
  go_enter Try.func92, Try.ntmps92
  go_wp2_with fail
  go_ret
  exact ⟨rfl, rfl⟩
set_option maxRecDepth 100000 in
theorem mcopied_any {l : List UInt8} {A : Option Addr} {n c : Nat} {w : World} (h : Sl w A n c l) (hn : n ≤ 140737488355000) :
    Calls Try.prog 66 #[.slice A n c] w fun e z => ∃ B, e = .returned (.slice B n n) ∧ CAt B l ∧ OW w [clipO B l] z := by
  have HE := Lib.hid h.rb
  have HN := Lib.hid ((OW.nil w).nilB 5)
  have HLR := Lib.hid h.rb.len
  clear h
  go_enter Try.func66, Try.ntmps66
  go_wp2_with (first
    | (at_builtin; go_must (refine wl_appB rfl (.const (.slice none 0 0)) (.tmp 3) rfl Try.u8s' HN.out 0 (n := 0) rfl rfl rfl _ _ n _ l rfl HE.out (by omega) ?_); intro A1 c9 x5 hz; rw [Nat.zero_add]; have HY := Lib.hid hz; have HCN := Lib.hid (cat_of HY.out (i := 0) rfl); have HY2 := Lib.hid (HY.out.clip (i := 0) rfl); have hcp := (HY.out.sl (i := 0) rfl (show ([] ++ l).length = n from HLR.out)); have hc1 := hcp.cap; have hc2 := hcp.lim; clear hz hcp HN HY)
    | (go_at_call 92; go_must (refine (sclip_any8 _ _ _ _ hc1 hc2).mono ?_); rintro r x6 ⟨rfl, rfl⟩))
  go_ret
  exact ⟨A1, rfl, HCN.out, HY2.out⟩
def OwnQ (r : ER) (w : World) (e : Ending) (z : World) : Prop :=
  ∃ s : ER, e = .returned (.agg #[.slice s.A s.e.row.length s.c, .int .i64 s.e.fam, .slice s.B s.e.qual.length s.d, .int .i64 s.e.ts, .int .i64 s.e.seq, .int .i64 s.e.kind, .slice s.D s.e.val.length s.q]) ∧ s.e = r.e ∧ EClip [clipO s.A s.e.row, clipO s.B s.e.qual, clipO s.D s.e.val] s ∧ OW w [clipO s.A s.e.row, clipO s.B s.e.qual, clipO s.D s.e.val] z
set_option maxRecDepth 100000 in
set_option maxHeartbeats 4000000 in
theorem mown_any (r : ER) (w : World) (h : r.En w) (hn : r.e.row.length ≤ 140737488355000 ∧ r.e.qual.length ≤ 140737488355000 ∧ r.e.val.length ≤ 140737488355000) :
    Calls Try.prog 40 #[.agg #[.slice r.A r.e.row.length r.c, .int .i64 r.e.fam, .slice r.B r.e.qual.length r.d, .int .i64 r.e.ts, .int .i64 r.e.seq, .int .i64 r.e.kind, .slice r.D r.e.val.length r.q]] w (OwnQ r w) := by
  obtain ⟨hn1, hn2, hn3⟩ := hn
  have HE : Hid (∀ z, Below w.heap.size w z → r.En z) := Lib.hid fun z hz => h.later hz
  clear h
  have HX := Lib.hid (OW.nil w)
  obtain ⟨nr, hnr⟩ : ∃ z, z = r.e.row.length := ⟨_, rfl⟩
  obtain ⟨nq, hnq⟩ : ∃ z, z = r.e.qual.length := ⟨_, rfl⟩
  obtain ⟨nv, hnv⟩ : ∃ z, z = r.e.val.length := ⟨_, rfl⟩
  rw [← hnr] at hn1 ⊢
  rw [← hnq] at hn2 ⊢
  rw [← hnv] at hn3 ⊢
  have HNR := Lib.hid hnr
  have HNQ := Lib.hid hnq
  have HNV := Lib.hid hnv
  have HR : Hid (∀ z, Below w.heap.size w z → Sl z r.A nr r.c r.e.row ∧ Sl z r.B nq r.d r.e.qual ∧ Sl z r.D nv r.q r.e.val) := Lib.hid fun z hz => by
    have h := HE.out z hz
    rw [HNR.out, HNQ.out, HNV.out]
    exact ⟨h.row, h.qual, h.val⟩
  clear hnr hnq hnv HE
  go_enter Try.func40, Try.ntmps40
  go_upto_region 1 with (first
    | (refine wl_box rfl (.tmp 0) rfl [.slice r.A nr r.c, .int .i64 r.e.fam, .slice r.B nq r.d, .int .i64 r.e.ts, .int .i64 r.e.seq, .int .i64 r.e.kind, .slice r.D nv r.q] rfl HX.out ?_; intro gb x1 hz _; replace HX := Lib.hid hz; clear hz)
    | (refine wl_alloc rfl rfl [.slice none 0 0, .int .i64 0, .slice none 0 0, .int .i64 0, .int .i64 0, .int .i64 0, .slice none 0 0] (.inl (by kernel_rfl)) HX.out ?_; intro gr x2 hz _; have HX0 := Lib.hid hz; clear hz HX))
  refine lt_start [10, 12, 14] (by kernel_rfl) ?_
  intro xd hd
  refine ⟨fun z => OW w [boxO gb [.slice r.A nr r.c, .int .i64 r.e.fam, .slice r.B nq r.d, .int .i64 r.e.ts, .int .i64 r.e.seq, .int .i64 r.e.kind, .slice r.D nv r.q], boxO gr [.slice none 0 0, .int .i64 0, .slice none 0 0, .int .i64 0, .int .i64 0, .int .i64 0, .slice none 0 0]] z, ?_⟩
  have HS := Lib.hid (HX0.out.later hd)
  refine lt_pure 0 rfl (by kernel_rfl) (by kernel_rfl) (by kernel_rfl) (by kernel_rfl) (fun _ _ _ h => h) (v := ?_) (yi_run rfl (fun w => ?_)) (fun _ => HS.out) ?_
  rotate_left
  · first | (go_simp; done) | (go_simp; with_reducible rfl)
  simp only [Act.put, List.setIfInBounds_toArray, List.set_cons_zero, List.set_cons_succ]
  refine lt_take 1 [2, 5, 8, 9, 10, 11, 12, 13, 14] rfl (by kernel_rfl) (by kernel_rfl) (by kernel_rfl) (by kernel_rfl) (by kernel_rfl) (fun _ _ _ h => h) (yi_cell rfl rfl rfl (fun w hS => OW.cell hS (i := 0) (j := 0) rfl rfl) (fun w => Try.isAgg28 w)) HS.out ?_
  simp only [Act.put, List.setIfInBounds_toArray, List.set_cons_zero, List.set_cons_succ]
  refine lt_pure 3 rfl (by kernel_rfl) (by kernel_rfl) (by kernel_rfl) (by kernel_rfl) (fun _ _ _ h => h) (v := ?_) (yi_run rfl (fun w => ?_)) (fun _ => HS.out) ?_
  rotate_left
  · first | (go_simp; done) | (go_simp; with_reducible rfl)
  simp only [Act.put, List.setIfInBounds_toArray, List.set_cons_zero, List.set_cons_succ]
  refine lt_take 4 [5, 8, 9, 10, 11, 12, 13, 14] rfl (by kernel_rfl) (by kernel_rfl) (by kernel_rfl) (by kernel_rfl) (by kernel_rfl) (fun _ _ _ h => h) (yi_cell rfl rfl rfl (fun w hS => OW.cell hS (i := 0) (j := 2) rfl rfl) (fun w => Try.isAgg28 w)) HS.out ?_
  simp only [Act.put, List.setIfInBounds_toArray, List.set_cons_zero, List.set_cons_succ]
  refine lt_pure 6 rfl (by kernel_rfl) (by kernel_rfl) (by kernel_rfl) (by kernel_rfl) (fun _ _ _ h => h) (v := ?_) (yi_run rfl (fun w => ?_)) (fun _ => HS.out) ?_
  rotate_left
  · first | (go_simp; done) | (go_simp; with_reducible rfl)
  simp only [Act.put, List.setIfInBounds_toArray, List.set_cons_zero, List.set_cons_succ]
  refine lt_take 7 [8, 9, 10, 11, 12, 13, 14] rfl (by kernel_rfl) (by kernel_rfl) (by kernel_rfl) (by kernel_rfl) (by kernel_rfl) (fun _ _ _ h => h) (yi_cell rfl rfl rfl (fun w hS => OW.cell hS (i := 0) (j := 6) rfl rfl) (fun w => Try.isAgg28 w)) HS.out ?_
  simp only [Act.put, List.setIfInBounds_toArray, List.set_cons_zero, List.set_cons_succ]
  refine lt_call 2 rfl (by kernel_rfl) rfl rfl ⟨_, Try.func66, by decide, by kernel_rfl⟩ [.slice r.A nr r.c] rfl ?_
  refine (mcopied_any (HR.out _ HS.out.up).1 (by omega)).mono ?_
  rintro e y1 ⟨A1, rfl, hc, hz⟩
  have HC1 := Lib.hid hc
  have HY1 := Lib.hid (HS.out.app hz)
  replace HS : Hid (OW w [boxO gb [.slice r.A nr r.c, .int .i64 r.e.fam, .slice r.B nq r.d, .int .i64 r.e.ts, .int .i64 r.e.seq, .int .i64 r.e.kind, .slice r.D nv r.q], boxO gr [.slice none 0 0, .int .i64 0, .slice none 0 0, .int .i64 0, .int .i64 0, .int .i64 0, .slice none 0 0]] y1) := Lib.hid (HY1.out.sub ((List.nil_sublist _).cons_cons _ |>.cons_cons _))
  clear hc hz
  refine ⟨_, rfl, fun _ => HS.out, ?_⟩
  simp only [Act.put, List.setIfInBounds_toArray, List.set_cons_zero, List.set_cons_succ]
  refine lt_pure 9 rfl (by kernel_rfl) (by kernel_rfl) (by kernel_rfl) (by kernel_rfl) (fun _ _ _ h => h) (v := ?_) (yi_run rfl (fun w => ?_)) (fun _ => HS.out) ?_
  rotate_left
  · first | (go_simp; done) | (go_simp; with_reducible rfl)
  simp only [Act.put, List.setIfInBounds_toArray, List.set_cons_zero, List.set_cons_succ]
  refine lt_call 5 rfl (by kernel_rfl) rfl rfl ⟨_, Try.func66, by decide, by kernel_rfl⟩ [.slice r.B nq r.d] rfl ?_
  refine (mcopied_any (HR.out _ HS.out.up).2.1 (by omega)).mono ?_
  rintro e y2 ⟨B1, rfl, hc, hz⟩
  have HC2 := Lib.hid hc
  have HY2 := Lib.hid (HY1.out.app hz)
  replace HS : Hid (OW w [boxO gb [.slice r.A nr r.c, .int .i64 r.e.fam, .slice r.B nq r.d, .int .i64 r.e.ts, .int .i64 r.e.seq, .int .i64 r.e.kind, .slice r.D nv r.q], boxO gr [.slice none 0 0, .int .i64 0, .slice none 0 0, .int .i64 0, .int .i64 0, .int .i64 0, .slice none 0 0]] y2) := Lib.hid (HY2.out.sub ((List.nil_sublist _).cons_cons _ |>.cons_cons _))
  clear hc hz
  refine ⟨_, rfl, fun _ => HS.out, ?_⟩
  simp only [Act.put, List.setIfInBounds_toArray, List.set_cons_zero, List.set_cons_succ]
  refine lt_call 8 rfl (by kernel_rfl) rfl rfl ⟨_, Try.func66, by decide, by kernel_rfl⟩ [.slice r.D nv r.q] rfl ?_
  refine (mcopied_any (HR.out _ HS.out.up).2.2 (by omega)).mono ?_
  rintro e y3 ⟨D1, rfl, hc, hz⟩
  have HC3 := Lib.hid hc
  have HY3 := Lib.hid (HY2.out.app hz)
  replace HS : Hid (OW w [boxO gb [.slice r.A nr r.c, .int .i64 r.e.fam, .slice r.B nq r.d, .int .i64 r.e.ts, .int .i64 r.e.seq, .int .i64 r.e.kind, .slice r.D nv r.q], boxO gr [.slice none 0 0, .int .i64 0, .slice none 0 0, .int .i64 0, .int .i64 0, .int .i64 0, .slice none 0 0]] y3) := Lib.hid (HY3.out.sub ((List.nil_sublist _).cons_cons _ |>.cons_cons _))
  clear hc hz
  refine ⟨_, rfl, fun _ => HS.out, ?_⟩
  simp only [Act.put, List.setIfInBounds_toArray, List.set_cons_zero, List.set_cons_succ]
  refine lt_end 10 rfl (by kernel_rfl) rfl (by kernel_rfl) ?_
  refine wpo_put1 rfl HY3.out 0 rfl 0 rfl (by show 0 < 7; decide) (.slice A1 nr nr) rfl (by kernel_rfl) rfl ?_
  intro z1 hz _
  have HW1 := Lib.hid hz
  clear hz
  simp only [Act.put]
  refine lt_pureF 11 rfl (by kernel_rfl) (by kernel_rfl) (by kernel_rfl) (by kernel_rfl) (by kernel_rfl) (fun _ _ _ h => h) (v := ?_) (yi_run rfl (fun w => ?_)) ?_
  rotate_left
  · first | (go_simp; done) | (go_simp; with_reducible rfl)
  simp only [Act.put, List.setIfInBounds_toArray, List.set_cons_zero, List.set_cons_succ]
  refine lt_end 12 rfl (by kernel_rfl) rfl (by kernel_rfl) ?_
  refine wpo_put1 rfl HW1.out 0 rfl 2 rfl (by show 2 < 7; decide) (.slice B1 nq nq) rfl (by kernel_rfl) rfl ?_
  intro z2 hz _
  have HW2 := Lib.hid hz
  clear hz
  simp only [Act.put]
  refine lt_pureF 13 rfl (by kernel_rfl) (by kernel_rfl) (by kernel_rfl) (by kernel_rfl) (by kernel_rfl) (fun _ _ _ h => h) (v := ?_) (yi_run rfl (fun w => ?_)) ?_
  rotate_left
  · first | (go_simp; done) | (go_simp; with_reducible rfl)
  simp only [Act.put, List.setIfInBounds_toArray, List.set_cons_zero, List.set_cons_succ]
  refine lt_end 14 rfl (by kernel_rfl) rfl (by kernel_rfl) ?_
  refine wpo_put1 rfl HW2.out 0 rfl 6 rfl (by show 6 < 7; decide) (.slice D1 nv nv) rfl (by kernel_rfl) rfl ?_
  intro z3 hz _
  have HW3 := Lib.hid hz
  clear hz
  simp only [Act.put]
  refine lt_done (by kernel_rfl) ?_
  clear HS
  have HY : Hid (OW w [boxO gb [.slice A1 nr nr, .int .i64 r.e.fam, .slice B1 nq nq, .int .i64 r.e.ts, .int .i64 r.e.seq, .int .i64 r.e.kind, .slice D1 nv nv], boxO gr [.slice none 0 0, .int .i64 0, .slice none 0 0, .int .i64 0, .int .i64 0, .int .i64 0, .slice none 0 0], clipO A1 r.e.row, clipO B1 r.e.qual, clipO D1 r.e.val] z3) := Lib.hid HW3.out
  clear HW3
  go_wp2_with (first
    | (refine wpList_load_row7 rfl 30 (.tmp 1) rfl rfl (HY.out.range (i := 0) rfl) ent_row8 ?_)
    | (refine wl_put rfl (.tmp 2) (.tmp 15) rfl HY.out 1 rfl rfl [.slice A1 nr nr, .int .i64 r.e.fam, .slice B1 nq nq, .int .i64 r.e.ts, .int .i64 r.e.seq, .int .i64 r.e.kind, .slice D1 nv nv] rfl rfl (by kernel_rfl) (by simp [Value.oneCell']) ?_; intro x9 hz _; have HZ := Lib.hid hz; clear hz))
  refine bodyPost_ret (results_rowL rfl _ _ gr [.slice A1 nr nr, .int .i64 r.e.fam, .slice B1 nq nq, .int .i64 r.e.ts, .int .i64 r.e.seq, .int .i64 r.e.kind, .slice D1 nv nv] rfl (HZ.out.range (i := 1) rfl) (by kernel_rfl) (by kernel_rfl)) rfl ?_
  rw [HNR.out] at hn1
  rw [HNQ.out] at hn2
  rw [HNV.out] at hn3
  refine ⟨⟨A1, r.e.row.length, B1, r.e.qual.length, D1, r.e.val.length, r.e⟩, by rw [HNR.out, HNQ.out, HNV.out], rfl, ⟨rfl, rfl, rfl, HC1.out, HC2.out, HC3.out, .head _, .tail _ (.head _), .tail _ (.tail _ (.head _)), hn1, hn2, hn3⟩, ?_⟩
  exact HZ.out.sub ((List.Sublist.refl _).cons _ |>.cons _)
def sumP (L : List Ent) : Nat := (L.map fun e => (packB e).length).sum
def tabC (t : Tr) (fr : Bool) : List Value := [.func (.func 27) #[] #[], t.ptr, .int .i64 (t.list.length : Nat), .int .i64 (sumP t.ents : Nat), .bool fr]
def addE (L : List Ent) (fr : Bool) (e : Ent) : List Ent × Int := if checkE e ≠ 0 then (L, checkE e) else if fr = true then (L, 81) else if hitB L e = true then (L, 80) else (insE L e, 0)
theorem pack_le {e : Ent} (h : checkE e = 0) : (packB e).length ≤ 5200 := by
  have h1 := keyE_len (ok_of h)
  have h2 := (ok_of h).val.1
  have h3 : (uintB (keyE e).length).length ≤ 10 := uintB_ten (by omega)
  have h4 : (uintB e.val.length).length ≤ 10 := uintB_ten (by omega)
  unfold packB
  simp only [List.length_append]
  omega
theorem sumP_le {L : List Ent} (h : ∀ e, e ∈ L → checkE e = 0) : sumP L ≤ 5200 * L.length := by
  induction L with
  | nil => exact Nat.le_refl _
  | cons a L ih =>
    have h1 := pack_le (h a (.head _))
    have h2 := ih fun e he => h e (.tail _ he)
    unfold sumP at h2 ⊢
    rw [List.map_cons, List.sum_cons, List.length_cons]; omega
theorem sumP_ins {L : List Ent} {e : Ent} (h : hitB L e = false) : sumP (insE L e) = sumP L + (packB e).length := by
  unfold insE
  rw [if_neg (by rw [h]; exact Bool.noConfusion)]
  have h1 : sumP L = sumP (L.take (insN L e)) + sumP (L.drop (insN L e)) := by
    unfold sumP
    rw [← List.sum_append, ← List.map_append, List.take_append_drop]
  rw [h1]
  unfold sumP
  rw [List.map_append, List.map_cons, List.sum_append, List.sum_cons]; omega
theorem Tr.ents_len (t : Tr) : t.ents.length = t.list.length := by unfold Tr.ents; exact List.length_map ..
theorem ins_mem {L : List Ent} {e x : Ent} (h : x ∈ insE L e) : x = e ∨ x ∈ L := by
  unfold insE at h
  split at h
  · exact .inr h
  · rcases List.mem_append.1 h with h | h
    · exact .inr (List.mem_of_mem_take h)
    · rcases List.mem_cons.1 h with h | h
      · exact .inl h
      · exact .inr (List.mem_of_mem_drop h)
theorem with_v {w x : World} {os ms : List Ob} {t : Tr} {v : Value} (hv : t.ptr = v) (tg : Nat) (rp fr : Value) (nn bb : Nat) (r : ER) (h : OW w os x) (hs : ∀ o, o ∈ ms → o ∈ os) (hT : boxO tg [.func (.func 27) #[] #[], rp, .int .i64 (nn : Nat), .int .i64 (bb : Nat), fr] ∈ os) (hm : TrM ms t) (ok : t.ok) (ha : AscE t.ents) (he : ∀ q, q ∈ t.list → EClip os q) (hr : EClip os r) (hl : t.list.length ≤ 90000) :
    Calls Try.prog 65 #[.pointer (some ⟨tg, 0, none⟩), v, .agg #[.slice r.A r.e.row.length r.c, .int .i64 r.e.fam, .slice r.B r.e.qual.length r.d, .int .i64 r.e.ts, .int .i64 r.e.seq, .int .i64 r.e.kind, .slice r.D r.e.val.length r.q]] x (WithP w os ms r t) := by
  subst hv; exact with_any tg rp fr nn bb r t x os ms h hs hT hm ok ha he hr hl
def SetP (w : World) (tg : Nat) (nb : Int) (fr : Value) (os ms : List Ob) (r : ER) (t : Tr) (e : Ending) (z : World) : Prop :=
  ∃ b, e = .returned (.bool b) ∧ ((b = false ∧ hitB t.ents r.e = true ∧ OW w (boxO tg [.func (.func 27) #[] #[], t.ptr, .int .i64 (t.list.length : Nat), .int .i64 nb, fr] :: os) z) ∨
  (b = true ∧ hitB t.ents r.e = false ∧ ∃ t' ns, OW w (boxO tg [.func (.func 27) #[] #[], t'.ptr, .int .i64 (t'.list.length : Nat), .int .i64 nb, fr] :: (os ++ ns)) z ∧ Tb (ms ++ ns) t' ∧ t'.ents = insE t.ents r.e))
theorem Tb.ins {ms ns : List Ob} {t t' : Tr} {r : ER} (h : Tb ms t) (hm : TrM (ms ++ ns) t') (ok : t'.ok) (hl : t'.list = insR t.list r) (hh : hitB t.ents r.e = false) (hr : EClip ms r) (hc : checkE r.e = 0) : Tb (ms ++ ns) t' ∧ t'.ents = insE t.ents r.e := by
  have he : t'.ents = insE t.ents r.e := by unfold Tr.ents; rw [hl]; exact insR_ents hh
  refine ⟨⟨hm, ok, by rw [he]; exact ins_asc h.asc _, fun e hx => ?_, fun q hq => ?_⟩, he⟩
  · rw [he] at hx
    rcases ins_mem hx with rfl | hx
    · exact hc
    · exact h.chk e hx
  · rw [hl] at hq
    rcases insR_mem hq with rfl | hq
    · exact hr.more fun o ho => List.mem_append_left _ ho
    · exact (h.en q hq).more fun o ho => List.mem_append_left _ ho
set_option maxRecDepth 100000 in
set_option maxHeartbeats 4000000 in
theorem setadd_any {w x : World} {tg : Nat} {nb : Nat} {fr : Value} {os ms : List Ob} {t : Tr} (r : ER) (h : OW w (boxO tg [.func (.func 27) #[] #[], t.ptr, .int .i64 (t.list.length : Nat), .int .i64 (nb : Nat), fr] :: os) x) (hs : ∀ o, o ∈ ms → o ∈ os) (hT : Tb ms t) (hr : EClip ms r) (hc : checkE r.e = 0) (hlen : t.list.length ≤ 90000) :
    Calls Try.prog 39 #[.pointer (some ⟨tg, 0, none⟩), .agg #[.slice r.A r.e.row.length r.c, .int .i64 r.e.fam, .slice r.B r.e.qual.length r.d, .int .i64 r.e.ts, .int .i64 r.e.seq, .int .i64 r.e.kind, .slice r.D r.e.val.length r.q]] x (SetP w tg nb fr os ms r t) := by
  have HX := Lib.hid h
  have HS0 := Lib.hid hs
  have HT := Lib.hid hT
  have HR := Lib.hid hr
  have HCK := Lib.hid hc
  obtain ⟨tp, htp⟩ : ∃ z, z = t.adr := ⟨_, rfl⟩
  have HTP : Hid (t.ptr = .pointer tp) := Lib.hid (by rw [htp]; rfl)
  obtain ⟨n, hn⟩ : ∃ z, z = t.list.length := ⟨_, rfl⟩
  have HN := Lib.hid hn
  have hn9 : n ≤ 90000 := by omega
  have s1 : IntKind.i64.wrap ((n : Int) + 1) = (n : Int) + 1 := i64_sum (by omega) (by omega)
  clear h hs hT hr hc htp hn
  go_enter Try.func39, Try.ntmps39
  go_upto_region 1 with (first
    | (refine wl_box rfl (.tmp 1) rfl [.slice r.A r.e.row.length r.c, .int .i64 r.e.fam, .slice r.B r.e.qual.length r.d, .int .i64 r.e.ts, .int .i64 r.e.seq, .int .i64 r.e.kind, .slice r.D r.e.val.length r.q] rfl HX.out ?_; intro gb x1 hz _; have HX1 := Lib.hid (hz.perm List.perm_append_comm); clear hz HX))
  have HIN : Hid (∀ o, o ∈ ms → o ∈ [boxO gb [.slice r.A r.e.row.length r.c, .int .i64 r.e.fam, .slice r.B r.e.qual.length r.d, .int .i64 r.e.ts, .int .i64 r.e.seq, .int .i64 r.e.kind, .slice r.D r.e.val.length r.q]] ++ boxO tg [.func (.func 27) #[] #[], t.ptr, .int .i64 (t.list.length : Nat), .int .i64 (nb : Nat), fr] :: os) := Lib.hid fun o ho => List.mem_append_right _ (.tail _ (HS0.out o ho))
  refine lt_start [] (by kernel_rfl) ?_
  intro xd hd
  refine ⟨fun z => OW w ([boxO gb [.slice r.A r.e.row.length r.c, .int .i64 r.e.fam, .slice r.B r.e.qual.length r.d, .int .i64 r.e.ts, .int .i64 r.e.seq, .int .i64 r.e.kind, .slice r.D r.e.val.length r.q]] ++ boxO tg [.func (.func 27) #[] #[], t.ptr, .int .i64 (t.list.length : Nat), .int .i64 (nb : Nat), fr] :: os) z, ?_⟩
  have HS := Lib.hid (HX1.out.later hd)
  refine lt_pure 0 rfl (by kernel_rfl) (by kernel_rfl) (by kernel_rfl) (by kernel_rfl) (fun _ _ _ h => h) (v := ?_) (yi_run rfl (fun w => ?_)) (fun _ => HS.out) ?_
  rotate_left
  · first | (go_simp; done) | (go_simp; with_reducible rfl)
  simp only [Act.put, List.setIfInBounds_toArray, List.set_cons_zero, List.set_cons_succ]
  refine lt_pure 1 rfl (by kernel_rfl) (by kernel_rfl) (by kernel_rfl) (by kernel_rfl) (fun _ _ _ h => h) (v := ?_) (yi_run rfl (fun w => ?_)) (fun _ => HS.out) ?_
  rotate_left
  · first | (go_simp; done) | (go_simp; with_reducible rfl)
  simp only [Act.put, List.setIfInBounds_toArray, List.set_cons_zero, List.set_cons_succ]
  refine lt_pure 2 rfl (by kernel_rfl) (by kernel_rfl) (by kernel_rfl) (by kernel_rfl) (fun _ _ _ h => h) (v := ?_) (yi_run rfl (fun w => ?_)) (fun _ => HS.out) ?_
  rotate_left
  · first | (go_simp; done) | (go_simp; with_reducible rfl)
  simp only [Act.put, List.setIfInBounds_toArray, List.set_cons_zero, List.set_cons_succ]
  refine lt_pure 3 rfl (by kernel_rfl) (by kernel_rfl) (by kernel_rfl) (by kernel_rfl) (fun _ _ _ h => h) (v := ?_) (yi_run rfl (fun w => ?_)) (fun _ => HS.out) ?_
  rotate_left
  · first | (go_simp; done) | (go_simp; with_reducible rfl)
  simp only [Act.put, List.setIfInBounds_toArray, List.set_cons_zero, List.set_cons_succ]
  refine lt_take 4 [6, 7, 8, 9, 10, 11] rfl (by kernel_rfl) (by kernel_rfl) (by kernel_rfl) (by kernel_rfl) (by kernel_rfl) (fun _ _ _ h => h) (yi_cell rfl rfl rfl (fun w hS => (by have h := OW.cell hS (i := 1) (j := 1) rfl rfl; rw [HTP.out] at h; exact h)) (fun w => Try.isAgg78 w)) HS.out ?_
  simp only [Act.put, List.setIfInBounds_toArray, List.set_cons_zero, List.set_cons_succ]
  refine lt_take 5 [6, 7, 8, 9, 10, 11] rfl (by kernel_rfl) (by kernel_rfl) (by kernel_rfl) (by kernel_rfl) (by kernel_rfl) (fun _ _ _ h => h) (yi_row rfl rfl rfl (fun w hS => OW.range hS (i := 0) rfl) ent_row8) HS.out ?_
  simp only [Act.put, List.setIfInBounds_toArray, List.set_cons_zero, List.set_cons_succ]
  refine lt_call 6 rfl (by kernel_rfl) rfl rfl ⟨_, Try.func65, by decide, by kernel_rfl⟩ [.pointer (some ⟨tg, 0, none⟩), .pointer tp, .agg #[.slice r.A r.e.row.length r.c, .int .i64 r.e.fam, .slice r.B r.e.qual.length r.d, .int .i64 r.e.ts, .int .i64 r.e.seq, .int .i64 r.e.kind, .slice r.D r.e.val.length r.q]] rfl ?_
  refine (with_v HTP.out tg t.ptr fr t.list.length nb r HS.out HIN.out (.tail _ (.head _)) HT.out.m HT.out.ok HT.out.asc (fun q hq => (HT.out.en q hq).more HIN.out) (HR.out.more HIN.out) (by have := HN.out; omega)).mono ?_
  intro e y2 hp
  obtain ⟨t2, ns2, b2, rfl, hz, hm2, ok2, hcase⟩ := hp.cases
  have HZ := Lib.hid hz
  have HM2 := Lib.hid hm2
  have HOK2 := Lib.hid ok2
  replace HS := Lib.hid (hz.sub (List.sublist_append_left _ _))
  clear hp hz hm2 ok2
  refine ⟨_, rfl, fun _ => HS.out, ?_⟩
  simp only [Act.put, List.setIfInBounds_toArray, List.set_cons_zero, List.set_cons_succ]
  refine lt_pure 7 rfl (by kernel_rfl) (by kernel_rfl) (by kernel_rfl) (by kernel_rfl) (fun _ _ _ h => h) (v := ?_) (yi_run rfl (fun w => ?_)) (fun _ => HS.out) ?_
  rotate_left
  · first | (go_simp; done) | (go_simp; with_reducible rfl)
  simp only [Act.put, List.setIfInBounds_toArray, List.set_cons_zero, List.set_cons_succ]
  refine lt_pure 8 rfl (by kernel_rfl) (by kernel_rfl) (by kernel_rfl) (by kernel_rfl) (fun _ _ _ h => h) (v := ?_) (yi_run rfl (fun w => ?_)) (fun _ => HS.out) ?_
  rotate_left
  · first | (go_simp; done) | (go_simp; with_reducible rfl)
  simp only [Act.put, List.setIfInBounds_toArray, List.set_cons_zero, List.set_cons_succ]
  refine lt_pure 9 rfl (by kernel_rfl) (by kernel_rfl) (by kernel_rfl) (by kernel_rfl) (fun _ _ _ h => h) (v := ?_) (yi_run rfl (fun w => ?_)) (fun _ => HS.out) ?_
  rotate_left
  · first | (go_simp; done) | (go_simp; with_reducible rfl)
  simp only [Act.put, List.setIfInBounds_toArray, List.set_cons_zero, List.set_cons_succ]
  refine lt_pure 10 rfl (by kernel_rfl) (by kernel_rfl) (by kernel_rfl) (by kernel_rfl) (fun _ _ _ h => h) (v := ?_) (yi_run rfl (fun w => ?_)) (fun _ => HS.out) ?_
  rotate_left
  · first | (go_simp; done) | (go_simp; with_reducible rfl)
  simp only [Act.put, List.setIfInBounds_toArray, List.set_cons_zero, List.set_cons_succ]
  refine lt_pure 11 rfl (by kernel_rfl) (by kernel_rfl) (by kernel_rfl) (by kernel_rfl) (fun _ _ _ h => h) (v := ?_) (yi_run rfl (fun w => ?_)) (fun _ => HS.out) ?_
  rotate_left
  · first | (go_simp; done) | (go_simp; with_reducible rfl)
  simp only [Act.put, List.setIfInBounds_toArray, List.set_cons_zero, List.set_cons_succ]
  refine lt_done (by kernel_rfl) ?_
  clear HS
  rcases hcase with ⟨rfl, hh, hli⟩ | ⟨rfl, hh, rfl⟩
  · have HH := Lib.hid hh
    have HLI := Lib.hid hli
    obtain ⟨up, hup⟩ : ∃ z, z = t2.adr := ⟨_, rfl⟩
    have HUP : Hid (t2.ptr = .pointer up) := Lib.hid (by rw [hup]; rfl)
    clear hh hli hup
    rw [HUP.out]
    have HQ : Hid (OW w (boxO tg [.func (.func 27) #[] #[], t.ptr, .int .i64 (n : Nat), .int .i64 (nb : Nat), fr] :: (os ++ ns2)) y2) := Lib.hid (by rw [HN.out]; have h := HZ.out; rw [List.append_assoc] at h; exact h.right)
    go_wp2_with (first
      | (refine wl_put1 rfl (.tmp 21) (.tmp 19) rfl HQ.out 0 rfl 1 rfl (by show 1 < 5; decide) (.pointer up) rfl (by kernel_rfl) rfl ?_; intro x7 hz _; have HQ1 : Hid (OW w (boxO tg [.func (.func 27) #[] #[], .pointer up, .int .i64 (n : Nat), .int .i64 (nb : Nat), fr] :: (os ++ ns2)) x7) := Lib.hid hz; clear hz)
      | (refine wpList_load_cell rfl 3 (.tmp 24) rfl rfl (HQ1.out.cell (i := 0) (j := 2) rfl rfl) (fun w => Try.isAgg3 w) ?_)
      | (refine wl_put1 rfl (.tmp 28) (.tmp 26) rfl HQ1.out 0 rfl 2 rfl (by show 2 < 5; decide) (.int .i64 ((n : Int) + 1)) rfl (by kernel_rfl) rfl ?_; intro x8 hz _; have HQ2 : Hid (OW w (boxO tg [.func (.func 27) #[] #[], .pointer up, .int .i64 ((n : Int) + 1), .int .i64 (nb : Nat), fr] :: (os ++ ns2)) x8) := Lib.hid hz; clear hz))
    go_ret
    obtain ⟨h8, h9⟩ := Tb.ins (ns := ns2) HT.out HM2.out HOK2.out HLI.out HH.out HR.out HCK.out
    refine ⟨true, rfl, .inr ⟨rfl, HH.out, t2, ns2, ?_, h8, h9⟩⟩
    have hl9 : ((t2.list.length : Nat) : Int) = (n : Int) + 1 := by rw [HLI.out, tr_insR, HN.out]; omega
    rw [HUP.out, hl9]
    exact HQ2.out
  · have HH := Lib.hid hh
    clear hh
    go_wp2_with fail
    go_ret
    refine ⟨false, rfl, .inl ⟨rfl, HH.out, ?_⟩⟩
    have h := HZ.out
    rw [List.append_assoc] at h
    exact h.right.sub (by show List.Sublist (_ :: os) (_ :: (os ++ ns2)); exact (List.sublist_append_left _ _).cons_cons _)
def AddP (w : World) (tg : Nat) (fr : Bool) (os ms : List Ob) (e : Ent) (t : Tr) (r : Ending) (z : World) : Prop :=
  ∃ t' ns, r = .returned (.int .i64 (addE t.ents fr e).2) ∧ OW w (boxO tg (tabC t' fr) :: (os ++ ns)) z ∧ Tb (ms ++ ns) t' ∧ t'.ents = (addE t.ents fr e).1
theorem add_same {w z : World} {tg : Nat} {fr : Bool} {os ms : List Ob} {e : Ent} {t : Tr} (hT : Tb ms t) (h : OW w (boxO tg (tabC t fr) :: os) z) {k : Int} (ha : addE t.ents fr e = (t.ents, k)) : AddP w tg fr os ms e t (.returned (.int .i64 k)) z :=
  ⟨t, [], by rw [ha], by rw [List.append_nil]; exact h, by rw [List.append_nil]; exact hT, by rw [ha]⟩
theorem chk_lens {e : Ent} (h : checkE e = 0) : e.row.length ≤ 140737488355000 ∧ e.qual.length ≤ 140737488355000 ∧ e.val.length ≤ 140737488355000 := by
  have h1 := ok_of h
  have h2 := h1.row; have h3 := h1.qual; have h4 := h1.val
  omega
theorem own_perm {a b : Ob} {os cs : List Ob} : (([a] ++ b :: os) ++ cs).Perm (b :: (os ++ cs ++ [a])) := by
  show (a :: (b :: os ++ cs)).Perm (b :: ((os ++ cs) ++ [a]))
  exact (List.Perm.swap _ _ _).trans (List.Perm.cons _ (List.perm_append_comm (l₁ := [a])))
theorem addE_bad {L : List Ent} {fr : Bool} {e : Ent} (h : checkE e ≠ 0) : addE L fr e = (L, checkE e) := by unfold addE; rw [if_pos h]
theorem addE_cold {L : List Ent} {e : Ent} (h : checkE e = 0) : addE L true e = (L, 81) := by unfold addE; rw [if_neg (by omega), if_pos rfl]
theorem addE_hit {L : List Ent} {e : Ent} (h : checkE e = 0) (hh : hitB L e = true) : addE L false e = (L, 80) := by unfold addE; rw [if_neg (by omega), if_neg (by decide), if_pos hh]
theorem addE_new {L : List Ent} {e : Ent} (h : checkE e = 0) (hh : hitB L e = false) : addE L false e = (insE L e, 0) := by unfold addE; rw [if_neg (by omega), if_neg (by decide), if_neg (by rw [hh]; decide)]
set_option maxRecDepth 100000 in
set_option maxHeartbeats 8000000 in
theorem tadd_any {w x : World} {tg : Nat} {fr : Bool} {os ms : List Ob} {t : Tr} (r : ER) (h : OW w (boxO tg (tabC t fr) :: os) x) (hs : ∀ o, o ∈ ms → o ∈ os) (hT : Tb ms t) (hE : r.En x) (hlen : t.list.length ≤ 90000) :
    Calls Try.prog 10 #[.pointer (some ⟨tg, 0, none⟩), .agg #[.slice r.A r.e.row.length r.c, .int .i64 r.e.fam, .slice r.B r.e.qual.length r.d, .int .i64 r.e.ts, .int .i64 r.e.seq, .int .i64 r.e.kind, .slice r.D r.e.val.length r.q]] x (AddP w tg fr os ms r.e t) := by
  have HX := Lib.hid h
  have HS0 := Lib.hid hs
  have HT := Lib.hid hT
  have HE : Hid (∀ z, Below x.heap.size x z → r.En z) := Lib.hid fun z hz => hE.later hz
  have hn9 : sumP t.ents ≤ 5200 * 90000 := by have := sumP_le hT.chk; rw [Tr.ents_len] at this; omega
  obtain ⟨nb, hnb⟩ : ∃ z, z = sumP t.ents := ⟨_, rfl⟩
  have HNB := Lib.hid hnb
  rw [← hnb] at hn9
  clear h hs hT hE hnb
  go_enter Try.func10, Try.ntmps10
  by_cases c1 : checkE r.e = 0
  case neg =>
    obtain ⟨k, hk⟩ : ∃ k, k = checkE r.e := ⟨_, rfl⟩
    have HP : Hid (PackE r.e = ([], k)) := Lib.hid (by unfold PackE; rw [if_neg c1, hk])
    have HA : Hid (addE t.ents fr r.e = (t.ents, k)) := Lib.hid (by rw [hk]; exact addE_bad c1)
    have d1 : (k != 0) = true := by rw [hk]; exact bne_iff_ne.2 c1
    clear hk c1
    go_wp2_with (first
      | (refine wl_box rfl (.tmp 1) rfl [.slice r.A r.e.row.length r.c, .int .i64 r.e.fam, .slice r.B r.e.qual.length r.d, .int .i64 r.e.ts, .int .i64 r.e.seq, .int .i64 r.e.kind, .slice r.D r.e.val.length r.q] rfl HX.out ?_; intro gb x1 hz hb; have HX1 := Lib.hid (hz.perm List.perm_append_comm); have HB1 := Lib.hid ((OW.nil x).later hb); clear hz hb HX)
      | (refine wpList_load_row7 rfl 30 (.tmp 3) rfl rfl (HX1.out.range (i := 0) rfl) ent_row8 ?_)
      | (go_at_call 26; go_must (refine (pack_any r.e r.A _ r.c r.B _ r.d r.D _ r.q _ (HE.out _ HB1.out.up)).mono ?_); rw [HP.out]; rintro e x2 ⟨A2, c2, rfl, ho, hb⟩; have HX2 := Lib.hid (HX1.out.later hb); have HB2 := Lib.hid (HB1.out.later hb); clear ho hb HX1))
    go_ret
    exact add_same HT.out (HX2.out.sub (List.sublist_append_right _ _)) HA.out
  have HP : Hid (PackE r.e = (packB r.e, 0)) := Lib.hid (by unfold PackE; rw [if_pos c1])
  have HCK := Lib.hid c1
  have hpl := pack_le c1
  obtain ⟨pl, hpl2⟩ : ∃ z, z = (packB r.e).length := ⟨_, rfl⟩
  have HPL := Lib.hid hpl2
  rw [← hpl2] at hpl
  clear c1 hpl2
  go_upto_region 2 with (first
      | (refine wl_box rfl (.tmp 1) rfl [.slice r.A r.e.row.length r.c, .int .i64 r.e.fam, .slice r.B r.e.qual.length r.d, .int .i64 r.e.ts, .int .i64 r.e.seq, .int .i64 r.e.kind, .slice r.D r.e.val.length r.q] rfl HX.out ?_; intro gb x1 hz hb; have HX1 := Lib.hid (hz.perm List.perm_append_comm); have HB1 := Lib.hid ((OW.nil x).later hb); clear hz hb HX)
      | (refine wpList_load_row7 rfl 30 (.tmp 3) rfl rfl (HX1.out.range (i := 0) rfl) ent_row8 ?_)
      | (go_at_call 26; go_must (refine (pack_any r.e r.A _ r.c r.B _ r.d r.D _ r.q _ (HE.out _ HB1.out.up)).mono ?_); rw [HP.out]; unfold BytesPost2; rw [← HPL.out]; rintro e x2 ⟨A2, c2, rfl, ho, hb⟩; have HX2 := Lib.hid (HX1.out.later hb); have HB2 := Lib.hid (HB1.out.later hb); clear ho hb HX1))
  cases fr
  case «true» =>
    go_wp2_with (refine wpList_load_cell rfl 4 (.tmp 19) rfl rfl (HX2.out.cell (i := 1) (j := 4) rfl rfl) (fun w => Try.isAgg4 w) ?_)
    go_ret
    exact add_same HT.out (HX2.out.sub (List.sublist_append_right _ _)) (addE_cold HCK.out)
  go_upto_region 6 with (refine wpList_load_cell rfl 4 (.tmp 19) rfl rfl (HX2.out.cell (i := 1) (j := 4) rfl rfl) (fun w => Try.isAgg4 w) ?_)
  refine lt_start [5] (by kernel_rfl) ?_
  intro xd hd
  refine ⟨fun z => OW w ([boxO gb [.slice r.A r.e.row.length r.c, .int .i64 r.e.fam, .slice r.B r.e.qual.length r.d, .int .i64 r.e.ts, .int .i64 r.e.seq, .int .i64 r.e.kind, .slice r.D r.e.val.length r.q]] ++ boxO tg (tabC t false) :: os) z ∧ OW x [] z, ?_⟩
  have HS := Lib.hid (And.intro (HX2.out.later hd) (HB2.out.later hd))
  refine lt_pure 0 rfl (by kernel_rfl) (by kernel_rfl) (by kernel_rfl) (by kernel_rfl) (fun _ _ _ h => h) (v := ?_) (yi_run rfl (fun w => ?_)) (fun _ => HS.out) ?_
  rotate_left
  · first | (go_simp; done) | (go_simp; with_reducible rfl)
  simp only [Act.put, List.setIfInBounds_toArray, List.set_cons_zero, List.set_cons_succ]
  refine lt_pure 1 rfl (by kernel_rfl) (by kernel_rfl) (by kernel_rfl) (by kernel_rfl) (fun _ _ _ h => h) (v := ?_) (yi_run rfl (fun w => ?_)) (fun _ => HS.out) ?_
  rotate_left
  · first | (go_simp; done) | (go_simp; with_reducible rfl)
  simp only [Act.put, List.setIfInBounds_toArray, List.set_cons_zero, List.set_cons_succ]
  refine lt_pure 2 rfl (by kernel_rfl) (by kernel_rfl) (by kernel_rfl) (by kernel_rfl) (fun _ _ _ h => h) (v := ?_) (yi_run rfl (fun w => ?_)) (fun _ => HS.out) ?_
  rotate_left
  · first | (go_simp; done) | (go_simp; with_reducible rfl)
  simp only [Act.put, List.setIfInBounds_toArray, List.set_cons_zero, List.set_cons_succ]
  refine lt_take 3 [4, 5, 6, 7] rfl (by kernel_rfl) (by kernel_rfl) (by kernel_rfl) (by kernel_rfl) (by kernel_rfl) (fun _ _ _ h => h) (yi_row rfl rfl rfl (fun w hS => OW.range hS.1 (i := 0) rfl) ent_row8) HS.out ?_
  simp only [Act.put, List.setIfInBounds_toArray, List.set_cons_zero, List.set_cons_succ]
  refine lt_call 4 rfl (by kernel_rfl) rfl rfl ⟨_, Try.func40, by decide, by kernel_rfl⟩ [.agg #[.slice r.A r.e.row.length r.c, .int .i64 r.e.fam, .slice r.B r.e.qual.length r.d, .int .i64 r.e.ts, .int .i64 r.e.seq, .int .i64 r.e.kind, .slice r.D r.e.val.length r.q]] rfl ?_
  refine (mown_any r _ (HE.out _ HS.out.2.up) (chk_lens HCK.out)).mono ?_
  rintro e y1 ⟨s, rfl, hse, hec, hz⟩
  have HSE := Lib.hid hse
  have HEC := Lib.hid hec
  have HY1 : Hid (OW w (boxO tg (tabC t false) :: (os ++ [clipO s.A s.e.row, clipO s.B s.e.qual, clipO s.D s.e.val] ++ [boxO gb [.slice r.A r.e.row.length r.c, .int .i64 r.e.fam, .slice r.B r.e.qual.length r.d, .int .i64 r.e.ts, .int .i64 r.e.seq, .int .i64 r.e.kind, .slice r.D r.e.val.length r.q]])) y1) := Lib.hid ((HS.out.1.app hz).perm own_perm)
  replace HS := Lib.hid (And.intro ((HS.out.1.app hz).sub (List.sublist_append_left _ _)) (HS.out.2.later hz.up))
  clear hse hec hz
  refine ⟨_, rfl, fun _ => HS.out, ?_⟩
  simp only [Act.put, List.setIfInBounds_toArray, List.set_cons_zero, List.set_cons_succ]
  refine lt_call 5 rfl (by kernel_rfl) rfl rfl ⟨_, Try.func39, by decide, by kernel_rfl⟩ [.pointer (some ⟨tg, 0, none⟩), .agg #[.slice s.A s.e.row.length s.c, .int .i64 s.e.fam, .slice s.B s.e.qual.length s.d, .int .i64 s.e.ts, .int .i64 s.e.seq, .int .i64 s.e.kind, .slice s.D s.e.val.length s.q]] rfl ?_
  refine (setadd_any (w := w) (nb := nb) (fr := .bool false) (os := os ++ [clipO s.A s.e.row, clipO s.B s.e.qual, clipO s.D s.e.val] ++ [boxO gb [.slice r.A r.e.row.length r.c, .int .i64 r.e.fam, .slice r.B r.e.qual.length r.d, .int .i64 r.e.ts, .int .i64 r.e.seq, .int .i64 r.e.kind, .slice r.D r.e.val.length r.q]]) (ms := ms ++ [clipO s.A s.e.row, clipO s.B s.e.qual, clipO s.D s.e.val]) s (by have h := HY1.out; unfold tabC at h; rw [← HNB.out] at h; exact h) (fun o ho => List.mem_append_left _ ((List.mem_append.1 ho).elim (fun h => List.mem_append_left _ (HS0.out o h)) (fun h => List.mem_append_right _ h))) (HT.out.more fun _ ho => List.mem_append_left _ ho) (HEC.out.more fun o ho => List.mem_append_right _ ho) (by rw [HSE.out]; exact HCK.out) hlen).mono ?_
  rintro e y2 ⟨b, rfl, hcase⟩
  refine ⟨_, rfl, (fun e => nomatch e), ?_⟩
  simp only [Act.put, List.setIfInBounds_toArray, List.set_cons_zero, List.set_cons_succ]
  refine lt_pureF 6 rfl (by kernel_rfl) (by kernel_rfl) (by kernel_rfl) (by kernel_rfl) (by kernel_rfl) (fun _ _ _ h => h) (v := ?_) (yi_run rfl (fun w => ?_)) ?_
  rotate_left
  · first | (go_simp; done) | (go_simp; with_reducible rfl)
  simp only [Act.put, List.setIfInBounds_toArray, List.set_cons_zero, List.set_cons_succ]
  refine lt_pureF 7 rfl (by kernel_rfl) (by kernel_rfl) (by kernel_rfl) (by kernel_rfl) (by kernel_rfl) (fun _ _ _ h => h) (v := ?_) (yi_run rfl (fun w => ?_)) ?_
  rotate_left
  · first | (go_simp; done) | (go_simp; with_reducible rfl)
  simp only [Act.put, List.setIfInBounds_toArray, List.set_cons_zero, List.set_cons_succ]
  refine lt_done (by kernel_rfl) ?_
  clear HS
  rcases hcase with ⟨rfl, hh, hz⟩ | ⟨rfl, hh, t2, ns2, hz, hT2, he2⟩
  · have HZ := Lib.hid hz
    rw [HSE.out] at hh
    have HH := Lib.hid hh
    clear hh hz
    go_wp2_with fail
    go_ret
    refine add_same HT.out ?_ (addE_hit HCK.out HH.out)
    have h := HZ.out
    rw [HNB.out] at h
    exact h.sub (((List.sublist_append_left _ _).trans (List.sublist_append_left _ _)).cons_cons _)
  rw [HSE.out] at hh he2
  have HH := Lib.hid hh
  have HT2 := Lib.hid hT2
  have HE2 := Lib.hid he2
  have HZ : Hid (OW w (boxO tg [.func (.func 27) #[] #[], t2.ptr, .int .i64 (t2.list.length : Nat), .int .i64 (nb : Nat), .bool false] :: (os ++ ([clipO s.A s.e.row, clipO s.B s.e.qual, clipO s.D s.e.val] ++ ns2))) y2) := Lib.hid (by
    refine hz.sub (List.Sublist.cons_cons _ ?_)
    rw [List.append_assoc, List.append_assoc]
    exact (List.Sublist.refl _).append ((List.Sublist.refl _).append (List.sublist_append_right _ _)))
  have s1 : IntKind.i64.wrap ((nb : Int) + (pl : Int)) = (nb : Int) + (pl : Int) := i64_sum (by omega) (by omega)
  clear hh hT2 he2 hz
  go_wp2_with (first
    | (refine wpList_load_cell rfl 3 (.tmp 31) rfl rfl (HZ.out.cell (i := 0) (j := 3) rfl rfl) (fun w => Try.isAgg3 w) ?_)
    | (refine wl_put1 rfl (.tmp 37) (.tmp 35) rfl HZ.out 0 rfl 3 rfl (by show 3 < 5; decide) (.int .i64 ((nb : Int) + (pl : Int))) rfl (by kernel_rfl) rfl ?_; intro x8 hz _; have HZ2 := Lib.hid hz; clear hz))
  go_ret
  refine ⟨t2, [clipO s.A s.e.row, clipO s.B s.e.qual, clipO s.D s.e.val] ++ ns2, by rw [addE_new HCK.out HH.out]; rfl, ?_, by rw [← List.append_assoc]; exact HT2.out, by rw [addE_new HCK.out HH.out]; exact HE2.out⟩
  have hs9 : ((sumP t2.ents : Nat) : Int) = (nb : Int) + (pl : Int) := by rw [HE2.out, sumP_ins HH.out, ← HNB.out, ← HPL.out]; omega
  unfold tabC
  rw [hs9]
  exact HZ2.out
set_option maxRecDepth 100000 in
theorem tnew_any (x : World) : Calls Try.prog 9 #[] x fun e z => ∃ tg, e = .returned (.pointer (some ⟨tg, 0, none⟩)) ∧ OW x [boxO tg (tabC .nil false)] z := by
  have HX := Lib.hid (OW.nil x)
  go_enter Try.func9, Try.ntmps9
  go_wp2_with (refine wl_box rfl (.tmp 2) rfl [.func (.func 27) #[] #[], .pointer none, .int .i64 0, .int .i64 0, .bool false] rfl HX.out ?_; intro gb x1 hz _; have HX1 := Lib.hid hz; clear hz)
  go_ret
  exact ⟨gb, rfl, HX1.out⟩
section
variable {w x : World} {tg : Nat} {fr : Bool} {os : List Ob} {t : Tr}
set_option maxRecDepth 100000 in
theorem tlen_any (h : OW w os x) (hm : boxO tg (tabC t fr) ∈ os) : Calls Try.prog 14 #[.pointer (some ⟨tg, 0, none⟩)] x fun e z => e = .returned (.int .i64 (t.list.length : Nat)) ∧ z = x := by
  have hc := h.cellm hm (j := 2) (show (tabC t fr)[2]? = some (.int .i64 (t.list.length : Nat)) from rfl)
  obtain ⟨n, hn⟩ : ∃ z, z = t.list.length := ⟨_, rfl⟩
  rw [← hn] at hc ⊢
  clear h hm hn
  go_enter Try.func14, Try.ntmps14
  go_wp2_with (refine wpList_load_cell rfl 3 (.tmp 6) rfl rfl hc (fun w => Try.isAgg3 w) ?_)
  go_ret
  exact ⟨rfl, rfl⟩
set_option maxRecDepth 100000 in
theorem tbytes_any (h : OW w os x) (hm : boxO tg (tabC t fr) ∈ os) : Calls Try.prog 25 #[.pointer (some ⟨tg, 0, none⟩)] x fun e z => e = .returned (.int .i64 (sumP t.ents : Nat)) ∧ z = x := by
  have hc := h.cellm hm (j := 3) (show (tabC t fr)[3]? = some (.int .i64 (sumP t.ents : Nat)) from rfl)
  obtain ⟨n, hn⟩ : ∃ z, z = sumP t.ents := ⟨_, rfl⟩
  rw [← hn] at hc ⊢
  clear h hm hn
  go_enter Try.func25, Try.ntmps25
  go_wp2_with (refine wpList_load_cell rfl 3 (.tmp 5) rfl rfl hc (fun w => Try.isAgg3 w) ?_)
  go_ret
  exact ⟨rfl, rfl⟩
set_option maxRecDepth 100000 in
theorem tfrozen_any (h : OW w os x) (hm : boxO tg (tabC t fr) ∈ os) : Calls Try.prog 34 #[.pointer (some ⟨tg, 0, none⟩)] x fun e z => e = .returned (.bool fr) ∧ z = x := by
  have hc := h.cellm hm (j := 4) (show (tabC t fr)[4]? = some (.bool fr) from rfl)
  clear h hm
  go_enter Try.func34, Try.ntmps34
  go_wp2_with (refine wpList_load_cell rfl 4 (.tmp 5) rfl rfl hc (fun w => Try.isAgg4 w) ?_)
  go_ret
  exact ⟨rfl, rfl⟩
set_option maxRecDepth 100000 in
theorem tfreeze_any (h : OW w (boxO tg (tabC t fr) :: os) x) : Calls Try.prog 60 #[.pointer (some ⟨tg, 0, none⟩)] x fun e z => e = .returned (.tuple #[]) ∧ OW w (boxO tg (tabC t true) :: os) z := by
  have HX := Lib.hid h
  clear h
  go_enter Try.func60, Try.ntmps60
  go_wp2_with (refine wl_put1 rfl (.tmp 4) (.const (.bool true)) rfl HX.out 0 rfl 4 rfl (by show 4 < 5; decide) (.bool true) rfl (by kernel_rfl) rfl ?_; intro x8 hz _; have HZ2 := Lib.hid hz; clear hz)
  go_end0
  exact ⟨rfl, HZ2.out⟩
end
end Go.Proofs.Ytdaoinhkagmbdaa
namespace Go.Proofs.Ytdaoinhkagmbdaa
open Go.RowKit
section
variable {α : Type} {P : Program}
def IterQ (P : Program) (g : Nat) (lb : Array Value) (L : List α) (St Itr : List Ob → Prop) (Hand : α → Array Value → World → World → Prop) : Prop :=
  ∀ (l : Nat) (J Jx : List α → List Ob → World → Prop) (W : World),
    (∀ pre qs z, J pre qs z → ∃ w os, OW w (os ++ qs) z ∧ Itr os) →
    (∀ pre qs qs2 y z, J pre qs y → OW y qs2 z → J pre (qs ++ qs2) z) → (∀ pre qs qs2 z, J pre (qs ++ qs2) z → J pre qs z) →
    (∀ pre qs qs2 y z, Jx pre qs y → OW y qs2 z → Jx pre (qs ++ qs2) z) → (∀ pre qs qs2 z, Jx pre (qs ++ qs2) z → Jx pre qs z) →
    (∀ pre qs x W0 vs W1, pre ++ [x] <+: L → J pre qs W0 → Hand x vs W0 W1 → YieldAt Fence.wide 9 P l vs W1 fun e z =>
      (e = .returned (.bool true) ∧ J (pre ++ [x]) qs z) ∨ (e = .returned (.bool false) ∧ Jx (pre ++ [x]) qs z)) →
    (∃ w os, OW w os W ∧ St os ∧ Itr os) → J [] [] W → Calls P g (#[.func (.yield l) #[] #[]] ++ lb) W fun e z => (∃ v, e = .returned v) ∧ (J L [] z ∨ ∃ pre, pre <+: L ∧ Jx pre [] z)
theorem ow_in {w z : World} {os ds qs : List Ob} {o : Ob} (h : OW w (os ++ o :: (ds ++ qs)) z) : OW w ((os ++ o :: ds) ++ qs) z := by rw [List.append_assoc]; exact h
theorem ow_more {w y z : World} {os ds qs qs2 : List Ob} {o : Ob} (h : OW w (os ++ o :: (ds ++ qs)) y) (h2 : OW y qs2 z) : OW w (os ++ o :: (ds ++ (qs ++ qs2))) z := by
  have h3 := h.app h2
  rw [List.append_assoc, List.cons_append, List.append_assoc] at h3
  exact h3
theorem ow_less {w z : World} {os ds qs qs2 : List Ob} {o : Ob} (h : OW w (os ++ o :: (ds ++ (qs ++ qs2))) z) : OW w (os ++ o :: (ds ++ qs)) z :=
  h.sub (List.Sublist.append (List.Sublist.refl _) (List.Sublist.cons_cons _ (List.Sublist.append (List.Sublist.refl _) (List.sublist_append_left _ _))))
theorem range_coreQ {F : Fence} {n : Nat} {w W1 : World} {g l : Nat} {lb : Array Value} {L : List α} {St Itr : List Ob → Prop} {Hand : α → Array Value → World → World → Prop} {ps : Array Tmp} {assign body : Code} {Q : Exit → Act → World → Prop} {a' : Act} {fn : FuncId} {tmps : Array Value} {D : Nat} {ds : List Ob}
    (hit : IterQ P g lb L St Itr Hand) (hps : ∀ x vs y z, Hand x vs y z → vs.size = ps.size ∧ Below y.heap.size y z) (I : List α → List Ob → Prop) (Ix : Code → List α → List Ob → Prop)
    (hI : ∀ pre os es, I pre os → Itr (os ++ es)) {os0 : List Ob} (h0 : I [] os0) (hS : St os0) (hS1 : Itr os0) (hx : OW w (os0 ++ rawO l (.loop (mkRec fn tmps ps assign body D .ready none)) :: ds) W1)
    (hround : ∀ qs pre x vs W0 W1 os, pre ++ [x] <+: L → I pre os → OW w (os ++ rawO l (.loop (mkRec fn tmps ps assign body D .ready none)) :: (ds ++ qs)) W0 → Hand x vs W0 W1 →
      RoundOK P w l assign body I Ix tmps (rawO l (.loop (mkRec fn tmps ps assign body D .ready none)) :: (ds ++ qs)) (rawO l (.loop (mkRec fn tmps ps assign body D .busy none)) :: (ds ++ qs)) pre x W1 vs ps)
    (hdone : ∀ os z, I L os → OW w (os ++ ds) z → Q .normal a' z) (hstop : ∀ c pre os z, pre <+: L → Ix c pre os → OW w (os ++ ds) z → c.wpIn F n P Q a' z) :
    Calls P g (#[.func (.yield l) #[] #[]] ++ lb) W1 (rangePost F n P l Q a') := by
  refine (hit l (fun pre qs z => ∃ os, I pre os ∧ OW w (os ++ rawO l (.loop (mkRec fn tmps ps assign body D .ready none)) :: (ds ++ qs)) z)
    (fun pre qs z => ∃ c os, Ix c pre os ∧ OW w (os ++ rawO l (.loop (mkRec fn tmps ps assign body D .done (some c))) :: (ds ++ qs)) z) W1
    (fun pre qs z ⟨os, h1, h2⟩ => ⟨w, _, ow_in h2, hI pre os _ h1⟩) (fun pre qs qs2 y z ⟨os, h1, h2⟩ hb => ⟨os, h1, ow_more h2 hb⟩) (fun pre qs qs2 z ⟨os, h1, h2⟩ => ⟨os, h1, ow_less h2⟩) (fun pre qs qs2 y z ⟨c, os, h1, h2⟩ hb => ⟨c, os, h1, ow_more h2 hb⟩) (fun pre qs qs2 z ⟨c, os, h1, h2⟩ => ⟨c, os, h1, ow_less h2⟩) ?_ ⟨w, os0, hx.left, hS, hS1⟩ ⟨os0, h0, by rw [List.append_nil]; exact hx⟩).mono ?_
  · rintro pre qs x W0 vs Wb hpre ⟨os, hi, ho⟩ hh
    have hr := hround qs pre x vs W0 Wb os hpre hi ho hh
    have hrec : Wb.heap[l]? = some (.loop (mkRec fn tmps ps assign body D .ready none)) := (ho.later (hps x vs _ _ hh).2).rawE
    exact ⟨fn, _, assign, body, run_yield hrec (by rw [(hps x vs _ _ hh).1]; rfl), roundIn_of_wpIn (F := Fence.wide) trivial (wpIn_mono hr fun e a1 z hz => by
      cases e with
      | normal =>
        obtain ⟨os2, h1, h2⟩ := hz
        refine ⟨_, run_beginRound h1.rawE rfl, ?_⟩
        refine wpIn_mono (h2 _ (h1.putRawE _)) fun e a3 z3 h3 => ?_
        cases e with
        | normal =>
          obtain ⟨os3, h4, h5⟩ := h3
          exact ⟨_, _, run_endRound none h5.rawE, .inl ⟨rfl, os3, h4, h5.putRawE _⟩⟩
        | ret =>
          obtain ⟨os3, h4, h5⟩ := h3
          exact ⟨_, _, run_endRound (some .ret) h5.rawE, .inr ⟨rfl, .ret, os3, h4, h5.putRawE _⟩⟩
        | exit id =>
          obtain ⟨os3, h4, h5⟩ := h3
          exact ⟨_, _, run_endRound (some (.exit id)) h5.rawE, .inr ⟨rfl, .exit id, os3, h4, h5.putRawE _⟩⟩
        | goto t =>
          obtain ⟨os3, h4, h5⟩ := h3
          exact ⟨_, _, run_endRound (some (.goto t)) h5.rawE, .inr ⟨rfl, .goto t, os3, h4, h5.putRawE _⟩⟩
        | panic ch => exact h3.elim
        | outgrown => exact h3.elim
      | ret => exact hz.elim
      | exit id => exact hz.elim
      | goto t => exact hz.elim
      | panic ch => exact hz.elim
      | outgrown => exact hz.elim)⟩
  · rintro e z ⟨⟨v, rfl⟩, ⟨os, h1, h2⟩ | ⟨pre, hp, c, os, h1, h2⟩⟩ <;> rw [List.append_nil] at h2
    · exact ⟨none, _, run_endLoop h2.rawE (fun e => nomatch e), hdone os _ h1 (h2.putRawE _).dropE⟩
    · exact ⟨some c, _, run_endLoop h2.rawE (fun e => nomatch e), hstop c pre os _ hp h1 (h2.putRawE _).dropE⟩
theorem wp_rangeQ {w x : World} {g : Operand} {gf : Nat} {lb : Array Value} {L : List α} {St Itr : List Ob → Prop} {Hand : α → Array Value → World → World → Prop} {ps : Array Tmp} {assign body : Code} {Q : Exit → Act → World → Prop} {a : Act}
    (hg : a.eval g = .func (.func gf) #[] lb) (eg : ∀ args w, (callFunc gf args).run P w = .ok (.enter gf args) w)
    (hit : IterQ P gf lb L St Itr Hand) (hps : ∀ x vs y z, Hand x vs y z → vs.size = ps.size ∧ Below y.heap.size y z) (I : List α → List Ob → Prop) (Ix : Code → List α → List Ob → Prop)
    (hI : ∀ pre os es, I pre os → Itr (os ++ es)) {os0 : List Ob} (h0 : I [] os0) (hS : St os0) (hS1 : Itr os0) (hx : OW w os0 x)
    (hround : ∀ (l : Nat) (p1 p2 : List Ob) pre xx vs W0 W1 os, (∃ r ds, p2 = rawO l (.loop r) :: ds) → pre ++ [xx] <+: L → I pre os → OW w (os ++ p1) W0 → Hand xx vs W0 W1 → RoundOK P w l assign body I Ix a.tmps p1 p2 pre xx W1 vs ps)
    (hdone : ∀ D os z, I L os → OW w (os ++ [dfrO D]) z → Q .normal { a with defers := markD D :: a.defers } z)
    (hstop : ∀ D c pre os z, pre <+: L → Ix c pre os → OW w (os ++ [dfrO D]) z → c.wp P Q { a with defers := markD D :: a.defers } z) : (Code.rangeFunc g ps assign body).wp P Q a x := by
  refine (wpIn_wide (n := 0)).1 (wpIn_rangeFunc fun fn _ => ?_)
  obtain ⟨W1, hW1⟩ : ∃ z, z = (x.alloc (.deferred (some []))).alloc (.loop (mkRec fn a.tmps ps assign body x.heap.size .ready none)) := ⟨_, rfl⟩
  have h2 : OW w (os0 ++ rawO (x.heap.size + 1) (.loop (mkRec fn a.tmps ps assign body x.heap.size .ready none)) :: [dfrO x.heap.size]) W1 := by
    rw [hW1]
    have h3 := (hx.app (OW.raw1 x (.deferred (some [])))).app (OW.raw1 _ (.loop (mkRec fn a.tmps ps assign body x.heap.size .ready none)))
    rw [World.size_alloc] at h3
    refine h3.perm ?_
    rw [List.append_assoc]
    exact List.Perm.append_left _ (List.Perm.swap _ _ _)
  refine ⟨x.heap.size + 1, [markD x.heap.size], W1, { target := .fn (.func gf) lb, args := #[.func (.yield (x.heap.size + 1)) #[] #[]] }, W1, gf, #[.func (.yield (x.heap.size + 1)) #[] #[]] ++ lb, W1, by rw [hW1]; exact run_enterLoop_outer _ _ _ _ _, ?_, fun _ _ => trivial, ?_, (fun e => nomatch e), callsIn_wide.2 ?_⟩
  · simp only [resolve, hg]
    simp [go_sem]
  · simp [invoke, go_sem, eg]
  · exact range_coreQ hit hps I Ix hI h0 hS hS1 h2 (fun _ pre xx vs W0 W1 os h4 h5 h6 h7 => hround _ _ _ pre xx vs W0 W1 os ⟨_, _, rfl⟩ h4 h5 h6 h7) (fun os z h4 h5 => hdone _ os z h4 h5) fun c pre os z h4 h5 h6 => wpIn_wide.2 (hstop _ c pre os z h4 h5 h6)
end
theorem wl_call_dyn {P : Program} {ops : Array Oper} {Q : Exit → Act → World → Prop} {rest : List Oper} {o : Oper} {a : Act} {w : World} (hgd : Region.wanted o (yielded ops a.tmps) = true) {y : Operand} {xs : List Operand} {ats : Array TypeId} (ho : o.op = .call { callee := .value y, args := xs.toArray, argTypes := ats }) {f : FuncId} {lb : List Value} (hy : a.eval y = .func (.func f) #[] lb.toArray) (hf : GoFn P f)
    (vals : List Value) (hv : xs.map a.eval = vals) (hc : Calls P f (vals ++ lb).toArray w fun e w' => ∃ v, e = .returned v ∧ wpList P ops Q rest (a.put o.dst v) w') : wpList P ops Q (o :: rest) a w :=
  BigFrame.wpList_want hgd fun _ hk => wp_call_dyn ho hy hf vals hv (hc.mono fun _ _ ⟨v, h1, h2⟩ => ⟨v, h1, hk _ _ h2⟩)
end Go.Proofs.Ytdaoinhkagmbdaa
namespace Go.Proofs.Ytdaoinhkagmbdaa
open Go.RowKit
def HandM (e : Ent) (vs : Array Value) (W W1 : World) : Prop := ∃ s : ER, vs = #[.agg #[.slice s.A s.e.row.length s.c, .int .i64 s.e.fam, .slice s.B s.e.qual.length s.d, .int .i64 s.e.ts, .int .i64 s.e.seq, .int .i64 s.e.kind, .slice s.D s.e.val.length s.q]] ∧ s.e = e ∧ EClip [clipO s.A s.e.row, clipO s.B s.e.qual, clipO s.D s.e.val] s ∧ OW W [clipO s.A s.e.row, clipO s.B s.e.qual, clipO s.D s.e.val] W1
theorem HandM.ok {e : Ent} {vs : Array Value} {W W1 : World} (h : HandM e vs W W1) : vs.size = 1 ∧ Below W.heap.size W W1 := by
  obtain ⟨s, rfl, _, _, h⟩ := h
  exact ⟨rfl, h.up⟩
structure IQ (l : Nat) (L : List Ent) (Itr : List Ob → Prop) (J Jx : List Ent → List Ob → World → Prop) : Prop where
  hit : ∀ pre qs z, J pre qs z → ∃ w os, OW w (os ++ qs) z ∧ Itr os
  grow : ∀ pre qs qs2 y z, J pre qs y → OW y qs2 z → J pre (qs ++ qs2) z
  drop : ∀ pre qs qs2 z, J pre (qs ++ qs2) z → J pre qs z
  growx : ∀ pre qs qs2 y z, Jx pre qs y → OW y qs2 z → Jx pre (qs ++ qs2) z
  dropx : ∀ pre qs qs2 z, Jx pre (qs ++ qs2) z → Jx pre qs z
  yld : ∀ pre qs x W0 vs W1, pre ++ [x] <+: L → J pre qs W0 → HandM x vs W0 W1 → YieldAt Fence.wide 9 Try.prog l vs W1 fun e z =>
      (e = .returned (.bool true) ∧ J (pre ++ [x]) qs z) ∨ (e = .returned (.bool false) ∧ Jx (pre ++ [x]) qs z)
theorem any_in_cut {F : Fence} {n : Nat} {P : Program} {md : Region.Mode} {ops : Array Oper} {Q : Exit → Act → World → Prop} {fuel : Nat} {listed : Array Bool} {a : Act} {w : World} (fuel2 : Nat) (listed2 : Array Bool) (φ : Act → World → Prop)
    (key : ∀ a2 w2, φ a2 w2 → wpAnyIn F n P md ops Q fuel2 listed2 a2 w2)
    (main : (∀ a2 w2, φ a2 w2 → wpAnyIn F n P md ops Q fuel2 listed2 a2 w2) → wpAnyIn F n P md ops Q fuel listed a w) : wpAnyIn F n P md ops Q fuel listed a w := main key
theorem wpIn_yields {P : Program} {n : Nat} {ops : Array Oper} {S : World → Prop} {o : Oper} {a : Act} {w : World} {K : Act → World → Prop} {Q : Exit → Act → World → Prop} {v : Value} (hd : ∀ c, o.op ≠ .defer c) (hy : YieldsIf P ops S o v a) (hS : S w) (hw : Region.wanted o (yielded ops a.tmps) = true) (hK : K (a.put o.dst v) w) : o.wpIn (FW none) n P a w K Q := by
  refine wp_in hd (fun _ _ h => h) ?_
  rcases hy with ⟨_, hv⟩ | ⟨h, _⟩
  · unfold Oper.wp
    rw [hv w hS]
    exact hK
  · rw [hw] at h; cases h
theorem ready_yields {P : Program} {n : Nat} {md : Region.Mode} {l : List Oper} {S : World → Prop} {o : Oper} {a : Act} {w : World} {Q : Exit → Act → World → Prop} {v : Value} {fuel : Nat} {listed : Array Bool} {i : Nat} {rs : List Nat} (hi : l[i]? = some o) (hd : ∀ c, o.op ≠ .defer c) (hy : YieldsIf P l.toArray S o v a) (hS : S w) (hw : Region.wanted o (yielded l.toArray a.tmps) = true)
    (hK : wpAnyIn (FW none) n P md l.toArray Q fuel (listed.setIfInBounds i true) (a.put o.dst v) w) (hs : AllReadyIn (FW none) n P md l.toArray Q fuel listed a w rs) : AllReadyIn (FW none) n P md l.toArray Q fuel listed a w (i :: rs) :=
  AllReadyIn.cons (lx_at hi) (fun K hk => by rw [if_pos hw]; exact wpIn_yields hd hy hS hw (hk _ _ hK)) hs
set_option maxRecDepth 100000 in
set_option maxHeartbeats 4000000 in
theorem y69_any {l : Nat} {L : List Ent} {Itr : List Ob → Prop} {J Jx : List Ent → List Ob → World → Prop} (hQ : IQ l L Itr J Jx) (r : ER) (hr : ∀ os, Itr os → EClip os r) {pre : List Ent} {qs : List Ob} {bg i : Nat} (hq : qs[i]? = some (boxO bg [.func (.yield l) #[] #[]])) (hpre : pre ++ [r.e] <+: L) {W0 : World} (h0 : J pre qs W0) :
    Calls Try.prog 69 #[.agg #[.slice r.A r.e.row.length r.c, .int .i64 r.e.fam, .slice r.B r.e.qual.length r.d, .int .i64 r.e.ts, .int .i64 r.e.seq, .int .i64 r.e.kind, .slice r.D r.e.val.length r.q], .pointer (some ⟨bg, 0, none⟩)] W0 fun e z => (e = .returned (.bool true) ∧ J (pre ++ [r.e]) qs z) ∨ (e = .returned (.bool false) ∧ Jx (pre ++ [r.e]) qs z) := by
  have HX := Lib.hid (OW.nil W0)
  have HQ := Lib.hid hQ
  have HR := Lib.hid hr
  have HI := Lib.hid hq
  have HP := Lib.hid hpre
  have H0 := Lib.hid h0
  clear hQ hr hq hpre h0
  refine (callsIn_wide (n := 10)).1 (callsIn_of_wp Try.func69 rfl trivial ?_ rfl)
  simp only [Try.ntmps69, List.size_toArray, List.length_cons, List.length_nil, Nat.reduceAdd, Nat.reduceSub, Array.replicate_succ, Array.replicate_zero, List.push_toArray, List.append_toArray, List.nil_append, List.cons_append]
  gi_wp2_with (refine wlIn_one (ro := none) rfl ?_; refine wl_box rfl (.tmp 0) rfl [.slice r.A r.e.row.length r.c, .int .i64 r.e.fam, .slice r.B r.e.qual.length r.d, .int .i64 r.e.ts, .int .i64 r.e.seq, .int .i64 r.e.kind, .slice r.D r.e.val.length r.q] rfl HX.out ?_; intro ge x1 hz _; have H1 : Hid (J pre (qs ++ [boxO ge [.slice r.A r.e.row.length r.c, .int .i64 r.e.fam, .slice r.B r.e.qual.length r.d, .int .i64 r.e.ts, .int .i64 r.e.seq, .int .i64 r.e.kind, .slice r.D r.e.val.length r.q]]) x1) := Lib.hid (HQ.out.grow _ _ _ _ _ H0.out (by simpa using hz)); clear hz HX; refine wlIn_back ?_)
  refine wpIn_region_any (by kernel_rfl) ?_
  change wpAnyIn _ _ _ _ _ _ _ _ _ (World.drew _)
  have H2 : Hid (J pre (qs ++ [boxO ge [.slice r.A r.e.row.length r.c, .int .i64 r.e.fam, .slice r.B r.e.qual.length r.d, .int .i64 r.e.ts, .int .i64 r.e.seq, .int .i64 r.e.kind, .slice r.D r.e.val.length r.q]]) x1.drew) := Lib.hid (by
    have h := HQ.out.grow _ _ [] _ _ H1.out ⟨(Below.refl _ _).drew, fun o h => (by cases h), List.Pairwise.nil⟩
    rwa [List.append_nil] at h)
  obtain ⟨x2, hx2⟩ : ∃ z, z = x1.drew := ⟨_, rfl⟩
  rw [← hx2] at H2 ⊢
  clear hx2
  have hld : ∀ z, J pre (qs ++ [boxO ge [.slice r.A r.e.row.length r.c, .int .i64 r.e.fam, .slice r.B r.e.qual.length r.d, .int .i64 r.e.ts, .int .i64 r.e.seq, .int .i64 r.e.kind, .slice r.D r.e.val.length r.q]]) z → z.cell? ⟨bg, 0, none⟩ = some (.func (.yield l) #[] #[]) ∧ z.rangeAt ge 0 [.slice r.A r.e.row.length r.c, .int .i64 r.e.fam, .slice r.B r.e.qual.length r.d, .int .i64 r.e.ts, .int .i64 r.e.seq, .int .i64 r.e.kind, .slice r.D r.e.val.length r.q] ∧ r.En z := fun z hz => by
    obtain ⟨w, os, h, hi⟩ := HQ.out.hit _ _ _ hz
    exact ⟨h.cellm (List.mem_append_right _ (List.mem_append_left _ (List.mem_of_getElem? HI.out))) (j := 0) rfl, h.rangem (List.mem_append_right _ (List.mem_append_right _ (.head _))), ((HR.out _ hi).more fun _ ho => List.mem_append_left _ ho).en h⟩
  have HLD := Lib.hid hld
  clear hld
  have hrl := (HR.out _ (HQ.out.hit _ _ _ H2.out).choose_spec.choose_spec.2).lens
  have HRL := Lib.hid hrl
  clear hrl
  refine any_in_cut 2 #[true, true, true, false, false] (fun a2 z => ∃ s : ER, a2 = { tmps := #[.agg #[.slice r.A r.e.row.length r.c, .int .i64 r.e.fam, .slice r.B r.e.qual.length r.d, .int .i64 r.e.ts, .int .i64 r.e.seq, .int .i64 r.e.kind, .slice r.D r.e.val.length r.q], .pointer (some ⟨bg, 0, none⟩), .pointer (some ⟨ge, 0, none⟩), .bool false, .func (.yield l) #[] #[], .agg #[.slice r.A r.e.row.length r.c, .int .i64 r.e.fam, .slice r.B r.e.qual.length r.d, .int .i64 r.e.ts, .int .i64 r.e.seq, .int .i64 r.e.kind, .slice r.D r.e.val.length r.q], .agg #[.slice s.A s.e.row.length s.c, .int .i64 s.e.fam, .slice s.B s.e.qual.length s.d, .int .i64 s.e.ts, .int .i64 s.e.seq, .int .i64 s.e.kind, .slice s.D s.e.val.length s.q], undef], defers := [] } ∧ ∃ y, J pre (qs ++ [boxO ge [.slice r.A r.e.row.length r.c, .int .i64 r.e.fam, .slice r.B r.e.qual.length r.d, .int .i64 r.e.ts, .int .i64 r.e.seq, .int .i64 r.e.kind, .slice r.D r.e.val.length r.q]]) y ∧ HandM r.e #[.agg #[.slice s.A s.e.row.length s.c, .int .i64 s.e.fam, .slice s.B s.e.qual.length s.d, .int .i64 s.e.ts, .int .i64 s.e.seq, .int .i64 s.e.kind, .slice s.D s.e.val.length s.q]] y z) ?_ ?_
  · rintro _ z ⟨s, rfl, y, hJ, hH⟩
    obtain ⟨fn, tmps, assign, body, hy, hR⟩ := HQ.out.yld _ _ _ _ _ _ HP.out hJ hH
    refine wpAnyIn_ready (rs := [3]) (by kernel_rfl) (by simp) ?_
    refine AllReadyIn.cons rfl (fun K hK => ?_) AllReadyIn.nil
    go_simp
    refine RoundIn.mono hR ?_
    rintro e z2 (⟨rfl, hj⟩ | ⟨rfl, hj⟩)
    · have HJ := Lib.hid (HQ.out.drop _ _ _ _ hj)
      simp only []
      refine hK _ _ ?_
      clear hR hy hK hj hJ hH
      refine wpAnyIn_ready (rs := [4]) (by kernel_rfl) (by simp) ?_
      refine AllReadyIn.cons rfl (fun K hK => ?_) AllReadyIn.nil
      go_simp
      refine hK _ _ (wpAnyIn_done (by kernel_rfl) ?_ _)
      clear hK
      gi_wp2
      go_ret
      exact .inl ⟨rfl, HJ.out⟩
    · have HJ := Lib.hid (HQ.out.dropx _ _ _ _ hj)
      simp only []
      refine hK _ _ ?_
      clear hR hy hK hj hJ hH
      refine wpAnyIn_ready (rs := [4]) (by kernel_rfl) (by simp) ?_
      refine AllReadyIn.cons rfl (fun K hK => ?_) AllReadyIn.nil
      go_simp
      refine hK _ _ (wpAnyIn_done (by kernel_rfl) ?_ _)
      clear hK
      gi_wp2
      go_ret
      exact .inr ⟨rfl, HJ.out⟩
  intro key
  refine any_in_cut 3 #[true, true, false, false, false] (fun a2 z => a2 = { tmps := #[.agg #[.slice r.A r.e.row.length r.c, .int .i64 r.e.fam, .slice r.B r.e.qual.length r.d, .int .i64 r.e.ts, .int .i64 r.e.seq, .int .i64 r.e.kind, .slice r.D r.e.val.length r.q], .pointer (some ⟨bg, 0, none⟩), .pointer (some ⟨ge, 0, none⟩), .bool false, .func (.yield l) #[] #[], .agg #[.slice r.A r.e.row.length r.c, .int .i64 r.e.fam, .slice r.B r.e.qual.length r.d, .int .i64 r.e.ts, .int .i64 r.e.seq, .int .i64 r.e.kind, .slice r.D r.e.val.length r.q], undef, undef], defers := [] } ∧ J pre (qs ++ [boxO ge [.slice r.A r.e.row.length r.c, .int .i64 r.e.fam, .slice r.B r.e.qual.length r.d, .int .i64 r.e.ts, .int .i64 r.e.seq, .int .i64 r.e.kind, .slice r.D r.e.val.length r.q]]) z) ?_ ?_
  · rintro _ z ⟨rfl, hJ⟩
    refine wpAnyIn_ready (rs := [2]) (by kernel_rfl) (by simp) ?_
    refine AllReadyIn.cons rfl (fun K hK => ?_) AllReadyIn.nil
    go_simp
    refine ⟨trivial, CallsIn.mono (callsIn_fw (ro := none) (mown_any r _ (HLD.out _ hJ).2.2 HRL.out)) ?_⟩
    rintro e y1 ⟨s, rfl, hse, hec, hz⟩
    simp only []
    refine hK _ _ ?_
    exact key _ _ ⟨s, rfl, z, hJ, s, rfl, hse, hec, hz⟩
  intro key2
  have hF : ∀ w, J pre (qs ++ [boxO ge [.slice r.A r.e.row.length r.c, .int .i64 r.e.fam, .slice r.B r.e.qual.length r.d, .int .i64 r.e.ts, .int .i64 r.e.seq, .int .i64 r.e.kind, .slice r.D r.e.val.length r.q]]) w → _ := fun w hS => (HLD.out w hS).1
  have hE : ∀ w, J pre (qs ++ [boxO ge [.slice r.A r.e.row.length r.c, .int .i64 r.e.fam, .slice r.B r.e.qual.length r.d, .int .i64 r.e.ts, .int .i64 r.e.seq, .int .i64 r.e.kind, .slice r.D r.e.val.length r.q]]) w → _ := fun w hS => (HLD.out w hS).2.1
  refine wpAnyIn_ready (rs := [0, 1]) (by kernel_rfl) (by simp) ?_
  refine ready_yields (S := J pre (qs ++ [boxO ge [.slice r.A r.e.row.length r.c, .int .i64 r.e.fam, .slice r.B r.e.qual.length r.d, .int .i64 r.e.ts, .int .i64 r.e.seq, .int .i64 r.e.kind, .slice r.D r.e.val.length r.q]])) rfl (fun c h => nomatch h) (yi_cell rfl rfl rfl hF (fun w => Try.isAgg83 w)) H2.out rfl ?_ ?_
  · simp only [Act.put, List.setIfInBounds_toArray, List.set_cons_zero, List.set_cons_succ]
    refine wpAnyIn_ready (rs := [1]) (by kernel_rfl) (by simp) ?_
    refine ready_yields (S := J pre (qs ++ [boxO ge [.slice r.A r.e.row.length r.c, .int .i64 r.e.fam, .slice r.B r.e.qual.length r.d, .int .i64 r.e.ts, .int .i64 r.e.seq, .int .i64 r.e.kind, .slice r.D r.e.val.length r.q]])) rfl (fun c h => nomatch h) (yi_row rfl rfl rfl hE ent_row8) H2.out rfl ?_ AllReadyIn.nil
    simp only [Act.put, List.setIfInBounds_toArray, List.set_cons_zero, List.set_cons_succ]
    exact key2 _ _ ⟨rfl, H2.out⟩
  refine ready_yields (S := J pre (qs ++ [boxO ge [.slice r.A r.e.row.length r.c, .int .i64 r.e.fam, .slice r.B r.e.qual.length r.d, .int .i64 r.e.ts, .int .i64 r.e.seq, .int .i64 r.e.kind, .slice r.D r.e.val.length r.q]])) rfl (fun c h => nomatch h) (yi_row rfl rfl rfl hE ent_row8) H2.out rfl ?_ AllReadyIn.nil
  simp only [Act.put, List.setIfInBounds_toArray, List.set_cons_zero, List.set_cons_succ]
  refine wpAnyIn_ready (rs := [0, 2]) (by kernel_rfl) (by simp) ?_
  refine ready_yields (S := J pre (qs ++ [boxO ge [.slice r.A r.e.row.length r.c, .int .i64 r.e.fam, .slice r.B r.e.qual.length r.d, .int .i64 r.e.ts, .int .i64 r.e.seq, .int .i64 r.e.kind, .slice r.D r.e.val.length r.q]])) rfl (fun c h => nomatch h) (yi_cell rfl rfl rfl hF (fun w => Try.isAgg83 w)) H2.out rfl ?_ ?_
  · simp only [Act.put, List.setIfInBounds_toArray, List.set_cons_zero, List.set_cons_succ]
    exact key2 _ _ ⟨rfl, H2.out⟩
  refine AllReadyIn.cons rfl (fun K hK => ?_) AllReadyIn.nil
  go_simp
  refine ⟨trivial, CallsIn.mono (callsIn_fw (ro := none) (mown_any r _ (HLD.out _ H2.out).2.2 HRL.out)) ?_⟩
  rintro e y1 ⟨s, rfl, hse, hec, hz⟩
  simp only []
  refine hK _ _ ?_
  have hJ1 := HQ.out.drop _ _ _ _ (HQ.out.grow _ _ _ _ _ H2.out hz)
  clear hK
  refine wpAnyIn_ready (rs := [0]) (by kernel_rfl) (by simp) ?_
  refine ready_yields (S := J pre (qs ++ [boxO ge [.slice r.A r.e.row.length r.c, .int .i64 r.e.fam, .slice r.B r.e.qual.length r.d, .int .i64 r.e.ts, .int .i64 r.e.seq, .int .i64 r.e.kind, .slice r.D r.e.val.length r.q]])) rfl (fun c h => nomatch h) (yi_cell rfl rfl rfl hF (fun w => Try.isAgg83 w)) hJ1 rfl ?_ AllReadyIn.nil
  simp only [Act.put, List.setIfInBounds_toArray, List.set_cons_zero, List.set_cons_succ]
  exact key _ _ ⟨s, rfl, x2, H2.out, s, rfl, hse, hec, hz⟩
theorem IQ.later {l : Nat} {L : List Ent} {Itr : List Ob → Prop} {J Jx : List Ent → List Ob → World → Prop} (hQ : IQ l L Itr J Jx) {pre : List Ent} {qs : List Ob} {y z : World} (h : J pre qs y) (hb : Below y.heap.size y z) : J pre qs z := by
  have h := hQ.grow _ _ [] _ _ h ⟨hb, fun o h => (by cases h), List.Pairwise.nil⟩
  rwa [List.append_nil] at h
def fl (A : Ent → Bool) (L : List Ent) : List Ent := L.filter fun e => !A e
theorem fl_all {A : Ent → Bool} {L : List Ent} (h : ∀ e, e ∈ L → A e = true) : fl A L = [] := by
  unfold fl
  rw [List.filter_eq_nil_iff]
  intro e he
  rw [h e he]; decide
set_option maxRecDepth 100000 in
set_option maxHeartbeats 4000000 in
theorem each_any {l : Nat} {L : List Ent} {Itr : List Ob → Prop} {J Jx : List Ent → List Ob → World → Prop} (hQ : IQ l L Itr J Jx) {A : Ent → Bool} {fa : Nat} {lba : List Value} (hf : GoFn Try.prog fa)
    (hA : ∀ pre qs W (r : ER), J pre qs W → (∀ os, Itr os → EClip os r) → Calls Try.prog fa (([.agg #[.slice r.A r.e.row.length r.c, .int .i64 r.e.fam, .slice r.B r.e.qual.length r.d, .int .i64 r.e.ts, .int .i64 r.e.seq, .int .i64 r.e.kind, .slice r.D r.e.val.length r.q]] : List Value) ++ lba).toArray W fun e z => e = .returned (.bool (A r.e)) ∧ Below W.heap.size W z)
    {qs : List Ob} {bg i : Nat} (hq : qs[i]? = some (boxO bg [.func (.yield l) #[] #[]])) : ∀ (t : Tr) (pre : List Ent) (W : World), (∀ os, Itr os → TrM os t ∧ ∀ r, r ∈ t.list → EClip os r) → (t.ents.Pairwise fun a b => A b = true → A a = true) → pre ++ fl A t.ents <+: L → J pre qs W →
      Calls Try.prog 68 #[t.ptr, .func (.func fa) #[] lba.toArray, .func (.func 69) #[] #[.pointer (some ⟨bg, 0, none⟩)]] W fun e z => ∃ b, e = .returned (.bool b) ∧ ((b = true ∧ J (pre ++ fl A t.ents) qs z) ∨ (b = false ∧ ∃ p, p <+: L ∧ Jx p qs z)) := by
  intro t
  have HQ := Lib.hid hQ
  have HA := Lib.hid hA
  have HI := Lib.hid hq
  clear hQ hA hq
  induction t with
  | nil =>
    intro pre W _ _ _ h
    have H := Lib.hid h
    clear h
    go_enter Try.func68, Try.ntmps68
    simp only [Tr.ptr, Tr.adr]
    go_wp2_with fail
    go_ret
    exact ⟨true, rfl, .inl ⟨rfl, by show J (pre ++ []) qs W; rw [List.append_nil]; exact H.out⟩⟩
  | node g r k lt qt ihl ihq =>
    intro pre W hm hpw hpre h
    have H := Lib.hid h
    have HML : Hid (∀ os, Itr os → TrM os lt ∧ ∀ r, r ∈ lt.list → EClip os r) := Lib.hid fun os ho => ⟨(hm os ho).1.left.2.1, fun r hr => (hm os ho).2 r (List.mem_append_left _ hr)⟩
    have HMQ : Hid (∀ os, Itr os → TrM os qt ∧ ∀ r, r ∈ qt.list → EClip os r) := Lib.hid fun os ho => ⟨(hm os ho).1.left.2.2, fun r hr => (hm os ho).2 r (List.mem_append_right _ (.tail _ hr))⟩
    have HR : Hid (∀ os, Itr os → EClip os r) := Lib.hid fun os ho => (hm os ho).2 r (List.mem_append_right _ (.head _))
    have HN : Hid (∀ p z, J p qs z → z.rangeAt g 0 [.slice r.A r.e.row.length r.c, .int .i64 r.e.fam, .slice r.B r.e.qual.length r.d, .int .i64 r.e.ts, .int .i64 r.e.seq, .int .i64 r.e.kind, .slice r.D r.e.val.length r.q] ∧ z.cell? ⟨g, 7, none⟩ = some lt.ptr ∧ z.cell? ⟨g, 8, none⟩ = some qt.ptr) := Lib.hid fun p z hz => by
      obtain ⟨w, os, h1, h2⟩ := HQ.out.hit _ _ _ hz
      have h3 := List.mem_append_left qs (hm os h2).1.left.1
      exact ⟨node_ent h1 h3, node_l h1 h3, node_q h1 h3⟩
    have he : (Tr.node g r k lt qt).ents = lt.ents ++ r.e :: qt.ents := by show (lt.list ++ r :: qt.list).map ER.e = _; rw [List.map_append, List.map_cons]; rfl
    rw [he] at hpw hpre ⊢
    have HPW := Lib.hid hpw
    have HPL : Hid (lt.ents.Pairwise fun a b => A b = true → A a = true) := Lib.hid (List.pairwise_append.1 hpw).1
    have HPQ : Hid (qt.ents.Pairwise fun a b => A b = true → A a = true) := Lib.hid (List.pairwise_cons.1 (List.pairwise_append.1 hpw).2.1).2
    have HPRE := Lib.hid hpre
    have hr0 := HN.out _ _ H.out
    have HE0 := Lib.hid hr0.1
    clear h hm he hpw hpre hr0
    go_enter Try.func68, Try.ntmps68
    simp only [Tr.ptr, Tr.adr]
    go_upto_region 3 with fail
    cases hA9 : A r.e
    case «true» =>
      have hA8 := hA9
      have HF : Hid (fl A (lt.ents ++ r.e :: qt.ents) = fl A qt.ents) := Lib.hid (by
        have h1 := fl_all (A := A) (L := lt.ents) fun e he => (List.pairwise_append.1 HPW.out).2.2 e he _ (.head _) hA8
        unfold fl at h1 ⊢
        rw [List.filter_append, h1, List.filter_cons_of_neg (by rw [hA8]; decide)]; rfl)
      have HA9 := Lib.hid hA9
      clear hA9 hA8
      go_wp2_with (first
        | (refine wpList_load_row7 rfl 30 (.tmp 12) rfl rfl HE0.out ent_row8 ?_)
        | (refine wl_call_dyn (xs := [.tmp 13]) (lb := lba) rfl rfl rfl hf [.agg #[.slice r.A r.e.row.length r.c, .int .i64 r.e.fam, .slice r.B r.e.qual.length r.d, .int .i64 r.e.ts, .int .i64 r.e.seq, .int .i64 r.e.kind, .slice r.D r.e.val.length r.q]] rfl ?_; refine (HA.out pre qs W r H.out HR.out).mono ?_; rw [HA9.out]; rintro e z1 ⟨rfl, hb⟩; refine ⟨_, rfl, ?_⟩; have H1 := Lib.hid (HQ.out.later H.out hb); have hq8 := (HN.out _ _ H1.out).2.2; have HC8 := Lib.hid hq8; clear hb hq8 H)
        | (refine wpList_load_cell rfl 78 (.tmp 17) rfl rfl HC8.out (fun w => Try.isAgg78 w) ?_)
        | (go_at_call 68; go_must (refine (ihq pre _ HMQ.out HPQ.out (by have h := HPRE.out; rwa [HF.out] at h) H1.out).mono ?_); rintro e z2 ⟨b, rfl, hj⟩; have HJ := Lib.hid hj; clear hj))
      go_ret
      refine ⟨b, rfl, ?_⟩
      rw [HF.out]
      exact HJ.out
    have HF : Hid (fl A (lt.ents ++ r.e :: qt.ents) = fl A lt.ents ++ r.e :: fl A qt.ents) := Lib.hid (by
      unfold fl
      rw [List.filter_append, List.filter_cons_of_pos (by rw [hA9]; rfl)])
    have HA9 := Lib.hid hA9
    have HPX : Hid (pre ++ fl A lt.ents ++ [r.e] <+: L) := Lib.hid (by
      have h := HPRE.out
      rw [HF.out] at h
      exact (List.prefix_append (pre ++ fl A lt.ents ++ [r.e]) (fl A qt.ents)).trans (by simpa using h))
    have tk1 : True := trivial
    clear hA9
    go_wp2_with (first
      | (refine wpList_load_row7 rfl 30 (.tmp 12) rfl rfl HE0.out ent_row8 ?_)
      | (refine wl_call_dyn (xs := [.tmp 13]) (lb := lba) rfl rfl rfl hf [.agg #[.slice r.A r.e.row.length r.c, .int .i64 r.e.fam, .slice r.B r.e.qual.length r.d, .int .i64 r.e.ts, .int .i64 r.e.seq, .int .i64 r.e.kind, .slice r.D r.e.val.length r.q]] rfl ?_; refine (HA.out pre qs W r H.out HR.out).mono ?_; rw [HA9.out]; rintro e z1 ⟨rfl, hb⟩; refine ⟨_, rfl, ?_⟩; have H1 := Lib.hid (HQ.out.later H.out hb); have hq8 := (HN.out _ _ H1.out).2.1; have HC7 := Lib.hid hq8; clear hb hq8 H)
      | (refine wpList_load_cell rfl 78 (.tmp 24) rfl rfl HC7.out (fun w => Try.isAgg78 w) ?_)
      | (go_at_call 68; (have _t := tk1); go_must (refine (ihl pre _ HML.out HPL.out (by have h := HPRE.out; rw [HF.out, ← List.append_assoc] at h; exact (List.prefix_append _ _).trans h) H1.out).mono ?_); rintro e z2 ⟨b, rfl, ⟨rfl, hj⟩ | ⟨rfl, hj⟩⟩ <;> (have HJ2 := Lib.hid hj; clear hj tk1 _t H1))
      | (refine wpList_load_row7 rfl 30 (.tmp 33) rfl rfl (HN.out _ _ HJ2.out).1 ent_row8 ?_)
      | (go_at_call 69; go_must (refine (y69_any HQ.out r HR.out HI.out (HPX.out) HJ2.out).mono ?_); rintro e z3 (⟨rfl, hj⟩ | ⟨rfl, hj⟩) <;> (have HJ3 := Lib.hid hj; clear hj))
      | (refine wpList_load_cell rfl 78 (.tmp 40) rfl rfl (HN.out _ _ HJ3.out).2.2 (fun w => Try.isAgg78 w) ?_)
      | (go_at_call 68; go_must (refine (ihq _ _ HMQ.out HPQ.out (by have h := HPRE.out; rw [HF.out] at h; simpa using h) HJ3.out).mono ?_); rintro e z4 ⟨b, rfl, hj⟩; have HJ4 := Lib.hid hj; clear hj))
    all_goals go_ret
    · refine ⟨b, rfl, ?_⟩
      rw [HF.out]
      have h := HJ4.out
      rw [List.append_assoc, List.append_assoc] at h
      exact h
    · exact ⟨false, rfl, .inr ⟨rfl, _, HPX.out, HJ3.out⟩⟩
    · exact ⟨false, rfl, .inr ⟨rfl, HJ2.out⟩⟩
end Go.Proofs.Ytdaoinhkagmbdaa
namespace Go.Proofs.Ytdaoinhkagmbdaa
open Go.RowKit
structure StT (tg b24 b83 : Nat) (av : Value) (t : Tr) (fr : Bool) (os : List Ob) : Prop where
  p : boxO b24 [.pointer (some ⟨tg, 0, none⟩)] ∈ os
  a : boxO b83 [av] ∈ os
  t : boxO tg (tabC t fr) ∈ os
structure ItT (t : Tr) (AO : List Ob → Prop) (os : List Ob) : Prop where
  m : TrM os t
  en : ∀ r, r ∈ t.list → EClip os r
  ao : AO os
set_option maxRecDepth 100000 in
set_option maxHeartbeats 4000000 in
theorem iter_any (tg b24 b83 : Nat) (t : Tr) (fr : Bool) (A : Ent → Bool) (fa : Nat) (lba : List Value) (AO : List Ob → Prop) (hf : GoFn Try.prog fa)
    (hA : ∀ w os W (r : ER), OW w os W → AO os → EClip os r → Calls Try.prog fa (([.agg #[.slice r.A r.e.row.length r.c, .int .i64 r.e.fam, .slice r.B r.e.qual.length r.d, .int .i64 r.e.ts, .int .i64 r.e.seq, .int .i64 r.e.kind, .slice r.D r.e.val.length r.q]] : List Value) ++ lba).toArray W fun e z => e = .returned (.bool (A r.e)) ∧ Below W.heap.size W z)
    (hp : t.ents.Pairwise fun a b => A b = true → A a = true) :
    IterQ Try.prog 67 #[.pointer (some ⟨b24, 0, none⟩), .pointer (some ⟨b83, 0, none⟩)] (fl A t.ents) (StT tg b24 b83 (.func (.func fa) #[] lba.toArray) t fr) (ItT t AO) HandM := by
  intro l J Jx W h1 h2 h3 h4 h5 h6 ⟨w, os, hO, hSt, hIt⟩ h0
  have HQ : Hid (IQ l (fl A t.ents) (ItT t AO) J Jx) := Lib.hid ⟨h1, h2, h3, h4, h5, h6⟩
  have HA := Lib.hid hA
  have HP := Lib.hid hp
  have HO := Lib.hid hO
  have H0 := Lib.hid h0
  have HC1 := Lib.hid hSt.p
  have HC2 := Lib.hid hSt.a
  have HC3 := Lib.hid hSt.t
  have HX := Lib.hid (OW.nil W)
  clear h1 h2 h3 h4 h5 h6 hA hp hO hSt hIt h0
  show Calls Try.prog _ #[.func (.yield l) #[] #[], .pointer (some ⟨b24, 0, none⟩), .pointer (some ⟨b83, 0, none⟩)] W _
  go_enter Try.func67, Try.ntmps67
  go_upto_region 1 with (refine wl_box rfl (.tmp 0) rfl [.func (.yield l) #[] #[]] rfl HX.out ?_; intro bg x1 hz hb; have HJ1 : Hid (J [] [boxO bg [.func (.yield l) #[] #[]]] x1) := Lib.hid (HQ.out.grow _ [] _ _ _ H0.out hz); have HO1 := Lib.hid (HO.out.later hb); clear hz hb HX H0)
  refine lt_start [7] (by kernel_rfl) ?_
  intro xd hd
  refine ⟨fun z => OW w os z ∧ J [] [boxO bg [.func (.yield l) #[] #[]]] z, ?_⟩
  have HS := Lib.hid (And.intro (HO1.out.later hd) (HQ.out.later HJ1.out hd))
  refine lt_take 0 [1, 2, 3, 4, 7] rfl (by kernel_rfl) (by kernel_rfl) (by kernel_rfl) (by kernel_rfl) (by kernel_rfl) (fun _ _ _ h => h) (yi_cell rfl rfl rfl (fun w hS => OW.cellm hS.1 HC1.out (j := 0) rfl) (fun w => Try.isAgg24 w)) HS.out ?_
  simp only [Act.put, List.setIfInBounds_toArray, List.set_cons_zero, List.set_cons_succ]
  refine lt_pure 1 rfl (by kernel_rfl) (by kernel_rfl) (by kernel_rfl) (by kernel_rfl) (fun _ _ _ h => h) (v := ?_) (yi_run rfl (fun w => ?_)) (fun _ => HS.out) ?_
  rotate_left
  · first | (go_simp; done) | (go_simp; with_reducible rfl)
  simp only [Act.put, List.setIfInBounds_toArray, List.set_cons_zero, List.set_cons_succ]
  refine lt_pure 2 rfl (by kernel_rfl) (by kernel_rfl) (by kernel_rfl) (by kernel_rfl) (fun _ _ _ h => h) (v := ?_) (yi_run rfl (fun w => ?_)) (fun _ => HS.out) ?_
  rotate_left
  · first | (go_simp; done) | (go_simp; with_reducible rfl)
  simp only [Act.put, List.setIfInBounds_toArray, List.set_cons_zero, List.set_cons_succ]
  refine lt_pure 3 rfl (by kernel_rfl) (by kernel_rfl) (by kernel_rfl) (by kernel_rfl) (fun _ _ _ h => h) (v := ?_) (yi_run rfl (fun w => ?_)) (fun _ => HS.out) ?_
  rotate_left
  · first | (go_simp; done) | (go_simp; with_reducible rfl)
  simp only [Act.put, List.setIfInBounds_toArray, List.set_cons_zero, List.set_cons_succ]
  refine lt_take 4 [7] rfl (by kernel_rfl) (by kernel_rfl) (by kernel_rfl) (by kernel_rfl) (by kernel_rfl) (fun _ _ _ h => h) (yi_cell rfl rfl rfl (fun w hS => OW.cellm hS.1 HC3.out (j := 1) rfl) (fun w => Try.isAgg78 w)) HS.out ?_
  simp only [Act.put, List.setIfInBounds_toArray, List.set_cons_zero, List.set_cons_succ]
  refine lt_take 5 [7] rfl (by kernel_rfl) (by kernel_rfl) (by kernel_rfl) (by kernel_rfl) (by kernel_rfl) (fun _ _ _ h => h) (yi_cell rfl rfl rfl (fun w hS => OW.cellm hS.1 HC2.out (j := 0) rfl) (fun w => Try.isAgg83 w)) HS.out ?_
  simp only [Act.put, List.setIfInBounds_toArray, List.set_cons_zero, List.set_cons_succ]
  refine lt_pure 6 rfl (by kernel_rfl) (by kernel_rfl) (by kernel_rfl) (by kernel_rfl) (fun _ _ _ h => h) (v := ?_) (yi_run rfl (fun w => ?_)) (fun _ => HS.out) ?_
  rotate_left
  · first | (go_simp; done) | (go_simp; with_reducible rfl)
  simp only [Act.put, List.setIfInBounds_toArray, List.set_cons_zero, List.set_cons_succ]
  refine lt_call 7 rfl (by kernel_rfl) rfl rfl ⟨_, Try.func68, by decide, by kernel_rfl⟩ [t.ptr, .func (.func fa) #[] lba.toArray, .func (.func 69) #[] #[.pointer (some ⟨bg, 0, none⟩)]] rfl ?_
  refine (each_any HQ.out hf (fun pre qs W r hj hr => by
    obtain ⟨w2, os2, h1, h2⟩ := HQ.out.hit _ _ _ hj
    exact HA.out w2 os2 W r h1.left h2.ao (hr os2 h2)) (qs := [boxO bg [.func (.yield l) #[] #[]]]) (i := 0) rfl t [] _ (fun os ho => ⟨ho.m, ho.en⟩) HP.out (List.prefix_refl _) HS.out.2).mono ?_
  rintro e z ⟨b, rfl, hj⟩
  refine ⟨_, rfl, (fun e => nomatch e), ?_⟩
  simp only [Act.put, List.setIfInBounds_toArray, List.set_cons_zero, List.set_cons_succ]
  refine lt_done (by kernel_rfl) ?_
  clear HS
  go_end0
  refine ⟨⟨_, rfl⟩, ?_⟩
  rcases hj with ⟨_, hj⟩ | ⟨_, p, hp, hj⟩
  · exact .inl (HQ.out.drop _ [] _ _ hj)
  · exact .inr ⟨p, hp, HQ.out.dropx _ [] _ _ hj⟩
set_option maxRecDepth 100000 in
theorem behind_any (tg fa : Nat) (bs : Array Value) (x : World) : Calls Try.prog 41 #[.pointer (some ⟨tg, 0, none⟩), .func (.func fa) #[] bs] x fun e z => ∃ b24 b83, e = .returned (.func (.func 67) #[] #[.pointer (some ⟨b24, 0, none⟩), .pointer (some ⟨b83, 0, none⟩)]) ∧ OW x [boxO b24 [.pointer (some ⟨tg, 0, none⟩)], boxO b83 [.func (.func fa) #[] bs]] z := by
  have HX := Lib.hid (OW.nil x)
  go_enter Try.func41, Try.ntmps41
  go_wp2_with (first
    | (refine wl_box rfl (.tmp 0) rfl [.pointer (some ⟨tg, 0, none⟩)] rfl HX.out ?_; intro g1 x1 hz _; have HX1 := Lib.hid hz; clear hz HX)
    | (refine wl_box rfl (.tmp 1) rfl [.func (.func fa) #[] bs] rfl HX1.out ?_; intro g2 x2 hz _; have HX2 := Lib.hid hz; clear hz HX1))
  go_ret
  exact ⟨g1, g2, rfl, HX2.out⟩
set_option maxRecDepth 100000 in
theorem all_any8 (tg : Nat) (x : World) : Calls Try.prog 12 #[.pointer (some ⟨tg, 0, none⟩)] x fun e z => ∃ b24 b83, e = .returned (.func (.func 67) #[] #[.pointer (some ⟨b24, 0, none⟩), .pointer (some ⟨b83, 0, none⟩)]) ∧ OW x [boxO b24 [.pointer (some ⟨tg, 0, none⟩)], boxO b83 [.func (.func 42) #[] #[]]] z := by
  go_enter Try.func12, Try.ntmps12
  go_wp2_with (go_at_call 41; go_must (refine (behind_any tg _ _ _).mono ?_); rintro e z ⟨b24, b83, rfl, hz⟩; have HZ := Lib.hid hz; clear hz)
  go_ret
  exact ⟨b24, b83, rfl, HZ.out⟩
set_option maxRecDepth 100000 in
theorem all1_any8 (r : ER) (W : World) : Calls Try.prog 42 #[.agg #[.slice r.A r.e.row.length r.c, .int .i64 r.e.fam, .slice r.B r.e.qual.length r.d, .int .i64 r.e.ts, .int .i64 r.e.seq, .int .i64 r.e.kind, .slice r.D r.e.val.length r.q]] W fun e z => e = .returned (.bool false) ∧ Below W.heap.size W z := by
  have HX := Lib.hid (OW.nil W)
  go_enter Try.func42, Try.ntmps42
  go_wp2_with (refine wl_box rfl (.tmp 0) rfl [.slice r.A r.e.row.length r.c, .int .i64 r.e.fam, .slice r.B r.e.qual.length r.d, .int .i64 r.e.ts, .int .i64 r.e.seq, .int .i64 r.e.kind, .slice r.D r.e.val.length r.q] rfl HX.out ?_; intro g1 x1 hz _; have HX1 := Lib.hid hz; clear hz HX)
  go_ret
  exact ⟨rfl, HX1.out.up⟩
theorem allIter (tg b24 b83 : Nat) (t : Tr) (fr : Bool) :
    IterQ Try.prog 67 #[.pointer (some ⟨b24, 0, none⟩), .pointer (some ⟨b83, 0, none⟩)] t.ents (StT tg b24 b83 (.func (.func 42) #[] #[]) t fr) (ItT t fun _ => True) HandM := by
  have h := iter_any tg b24 b83 t fr (fun _ => false) 42 [] (fun _ => True) ⟨_, Try.func42, by decide, by kernel_rfl⟩ (fun w os W r _ _ _ => all1_any8 r W) (List.pairwise_of_forall (fun _ _ h => (by cases h)))
  have e : fl (fun _ => false) t.ents = t.ents := by unfold fl; exact List.filter_eq_self.2 fun _ _ => rfl
  rw [e] at h
  exact h
def AoF (b5 : Nat) (s : ER) (os : List Ob) : Prop := boxO b5 [.slice s.A s.e.row.length s.c, .int .i64 s.e.fam, .slice s.B s.e.qual.length s.d, .int .i64 s.e.ts, .int .i64 s.e.seq, .int .i64 s.e.kind, .slice s.D s.e.val.length s.q] ∈ os ∧ EClip os s
set_option maxRecDepth 100000 in
theorem from1_any (b5 : Nat) (s r : ER) {w W : World} {os : List Ob} (h : OW w os W) (ha : AoF b5 s os) (hr : EClip os r) : Calls Try.prog 55 #[.agg #[.slice r.A r.e.row.length r.c, .int .i64 r.e.fam, .slice r.B r.e.qual.length r.d, .int .i64 r.e.ts, .int .i64 r.e.seq, .int .i64 r.e.kind, .slice r.D r.e.val.length r.q], .pointer (some ⟨b5, 0, none⟩)] W fun e z => e = .returned (.bool (decide (cmpE r.e s.e < 0))) ∧ Below W.heap.size W z := by
  have HX := Lib.hid (OW.nil W)
  have HO := Lib.hid h
  have HA := Lib.hid ha
  have HR := Lib.hid hr
  obtain ⟨cv, hcv⟩ : ∃ z, z = cmpE r.e s.e := ⟨_, rfl⟩
  rw [← hcv]
  have HCV := Lib.hid hcv.symm
  clear h ha hr hcv
  go_enter Try.func55, Try.ntmps55
  go_wp2_with (first
    | (refine wl_box rfl (.tmp 0) rfl [.slice r.A r.e.row.length r.c, .int .i64 r.e.fam, .slice r.B r.e.qual.length r.d, .int .i64 r.e.ts, .int .i64 r.e.seq, .int .i64 r.e.kind, .slice r.D r.e.val.length r.q] rfl HX.out ?_; intro g1 x1 hz hb; have HX1 := Lib.hid hz; have HO1 := Lib.hid (HO.out.later hb); clear hz hb HX)
    | (refine wpList_load_row7 rfl 30 (.tmp 2) rfl rfl (HX1.out.range (i := 0) rfl) ent_row8 ?_)
    | (refine wpList_load_row7 rfl 30 (.tmp 1) rfl rfl (HO1.out.rangem HA.out.1) ent_row8 ?_)
    | (go_at_call 27; go_must (refine (compare_any r.e s.e r.A _ r.c r.B _ r.d r.D _ r.q s.A _ s.c s.B _ s.d s.D _ s.q _ (HR.out.en HO1.out) (HA.out.2.en HO1.out)).mono ?_); rw [HCV.out]; rintro e z ⟨rfl, hb⟩; have HX2 := Lib.hid (HX1.out.later hb); clear hb HX1))
  go_ret
  exact ⟨rfl, HX2.out.up⟩
theorem from_pw {L : List Ent} (h : AscE L) (s : Ent) : L.Pairwise fun a b => decide (cmpE b s < 0) = true → decide (cmpE a s < 0) = true :=
  h.imp fun hab hb => decide_eq_true (cmpE_lt_trans hab (of_decide_eq_true hb))
theorem fromIter (tg b24 b83 b5 : Nat) (s : ER) (t : Tr) (fr : Bool) (ha : AscE t.ents) :
    IterQ Try.prog 67 #[.pointer (some ⟨b24, 0, none⟩), .pointer (some ⟨b83, 0, none⟩)] (fl (fun e => decide (cmpE e s.e < 0)) t.ents) (StT tg b24 b83 (.func (.func 55) #[] #[.pointer (some ⟨b5, 0, none⟩)]) t fr) (ItT t (AoF b5 s)) HandM :=
  iter_any tg b24 b83 t fr _ 55 [.pointer (some ⟨b5, 0, none⟩)] (AoF b5 s) ⟨_, Try.func55, by decide, by kernel_rfl⟩ (fun w os W r h1 h2 h3 => from1_any b5 s r h1 h2 h3) (from_pw ha s.e)
def FromP (tg : Nat) (r : ER) (x : World) (e : Ending) (z : World) : Prop :=
  ∃ b24 b83 b5, ∃ s : ER, e = .returned (.func (.func 67) #[] #[.pointer (some ⟨b24, 0, none⟩), .pointer (some ⟨b83, 0, none⟩)]) ∧ s.e = r.e ∧ EClip [clipO s.A s.e.row, clipO s.B s.e.qual, clipO s.D s.e.val] s ∧ OW x ([boxO b24 [.pointer (some ⟨tg, 0, none⟩)], boxO b83 [.func (.func 55) #[] #[.pointer (some ⟨b5, 0, none⟩)]], boxO b5 [.slice s.A s.e.row.length s.c, .int .i64 s.e.fam, .slice s.B s.e.qual.length s.d, .int .i64 s.e.ts, .int .i64 s.e.seq, .int .i64 s.e.kind, .slice s.D s.e.val.length s.q]] ++ [clipO s.A s.e.row, clipO s.B s.e.qual, clipO s.D s.e.val]) z
set_option maxRecDepth 100000 in
set_option maxHeartbeats 4000000 in
theorem from_any (tg : Nat) (r : ER) (x : World) (h : r.En x) (hn : r.e.row.length ≤ 140737488355000 ∧ r.e.qual.length ≤ 140737488355000 ∧ r.e.val.length ≤ 140737488355000) :
    Calls Try.prog 28 #[.pointer (some ⟨tg, 0, none⟩), .agg #[.slice r.A r.e.row.length r.c, .int .i64 r.e.fam, .slice r.B r.e.qual.length r.d, .int .i64 r.e.ts, .int .i64 r.e.seq, .int .i64 r.e.kind, .slice r.D r.e.val.length r.q]] x (FromP tg r x) := by
  have HX := Lib.hid (OW.nil x)
  have HE : Hid (∀ z, Below x.heap.size x z → r.En z) := Lib.hid fun z hz => h.later hz
  have HN := Lib.hid hn
  clear h hn
  go_enter Try.func28, Try.ntmps28
  go_wp2_with (first
    | (refine wl_box rfl (.tmp 1) rfl [.slice r.A r.e.row.length r.c, .int .i64 r.e.fam, .slice r.B r.e.qual.length r.d, .int .i64 r.e.ts, .int .i64 r.e.seq, .int .i64 r.e.kind, .slice r.D r.e.val.length r.q] rfl HX.out ?_; intro g1 x1 hz _; have HX1 := Lib.hid hz; clear hz HX)
    | (refine wpList_load_row7 rfl 30 (.tmp 3) rfl rfl (HX1.out.range (i := 0) rfl) ent_row8 ?_)
    | (go_at_call 40; go_must (refine (mown_any r _ (HE.out _ HX1.out.up) HN.out).mono ?_); rintro e x2 ⟨s, rfl, hse, hec, hz⟩; have HSE := Lib.hid hse; have HEC := Lib.hid hec; have HX2 := Lib.hid (HX1.out.app hz); clear hse hec hz HX1)
    | (refine wl_alloc rfl rfl [.slice none 0 0, .int .i64 0, .slice none 0 0, .int .i64 0, .int .i64 0, .int .i64 0, .slice none 0 0] (.inl (by kernel_rfl)) HX2.out ?_; intro g5 x3 hz _; have HX3 := Lib.hid hz; clear hz HX2)
    | (refine wl_put rfl (.tmp 5) (.tmp 7) rfl HX3.out 4 rfl rfl [.slice s.A s.e.row.length s.c, .int .i64 s.e.fam, .slice s.B s.e.qual.length s.d, .int .i64 s.e.ts, .int .i64 s.e.seq, .int .i64 s.e.kind, .slice s.D s.e.val.length s.q] rfl rfl (by kernel_rfl) (by simp [Value.oneCell']) ?_; intro x4 hz _; have HX4 := Lib.hid hz; clear hz HX3)
    | (go_at_call 41; go_must (refine (behind_any tg _ _ _).mono ?_); rintro e z ⟨b24, b83, rfl, hz⟩; have HZ := Lib.hid (HX4.out.app hz); clear hz HX4))
  go_ret
  refine ⟨b24, b83, g5, s, rfl, HSE.out, HEC.out, ?_⟩
  exact (HZ.out.erase 0).perm (by
    show List.Perm (_ :: _ :: _ :: _ :: _ :: _ :: []) (_ :: _ :: _ :: _ :: _ :: _ :: [])
    (refine perm_of_cnt fun a => ?_; (first | ((repeat (first | rw [cntO_app] | rw [cntO_cons] | rw [cntO_nil])) <;> omega) | ((simp only [cntO_app, cntO_cons, cntO_nil]) <;> omega))))
end Go.Proofs.Ytdaoinhkagmbdaa
namespace Go.Proofs.Ytdaoinhkagmbdaa
open Go.RowKit
theorem Try.kssF : SliceOf Try.prog 44 28 1 24 := SliceOf.mk' (z := .slice none 0 0) Try.underlying44 (by kernel_rfl) rfl (by decide)
def FlK (vals : List Value) (ms : List UInt8) (ks : List Ob) : Prop := ∀ (i : Nat) (v : Value) (m : UInt8), vals[i]? = some v → ms[i]? = some m → ∃ A n cap, v = Value.slice A n cap ∧ n ≤ 1000000101 ∧ Marked ks A n cap m
structure FlD where
  lv : Value
  mA : Option Addr
  mc : Nat
  N : Nat
  vals : List Value
  ms : List UInt8
  ks : List Ob
def flO (g : Nat) (d : FlD) (rest : List Ob) : List Ob := boxO g [d.lv, .slice d.mA d.ms.length d.mc, .int .i64 (d.N : Nat)] :: rowO 28 1 d.lv d.vals.length d.vals :: bytO 5 (d.mA, d.mc, d.ms) :: rest
structure FlOk (d : FlD) : Prop where
  len : d.vals.length = d.ms.length
  few : 50 * d.vals.length ≤ d.N
  lim : d.N ≤ 5000000000
  keep : FlK d.vals d.ms d.ks
def Fl (g : Nat) (os : List Ob) : Prop := ∃ d, os = flO g d d.ks ∧ FlOk d
theorem Fl.new {w x : World} {g : Nat} {os : List Ob} (h : OW w (os ++ [boxO g [.slice none 0 0, .slice none 0 0, .int .i64 0]]) x) : ∃ of, Fl g of ∧ OW w (os ++ of) x := by
  have h1 := (h.nilRow 28 1).nilB 5
  refine ⟨_, ⟨⟨.slice none 0 0, none, 0, 0, [], [], []⟩, rfl, rfl, Nat.le_refl _, by decide, fun i v m hv => by cases hv⟩, ?_⟩
  rw [List.append_assoc, List.append_assoc] at h1
  exact h1
theorem FlK.le {vals : List Value} {ms : List UInt8} {ks ks' : List Ob} (h : FlK vals ms ks) (hk : LeM ks ks') : FlK vals ms ks' := fun i v m hv hm => by
  obtain ⟨A, n, cap, h1, h2, h3⟩ := h i v m hv hm
  exact ⟨A, n, cap, h1, h2, hk _ _ _ _ h3⟩
theorem FlK.add {vals : List Value} {ms : List UInt8} {ks : List Ob} (h : FlK vals ms ks) (hl : vals.length = ms.length) {us : List Value} {m : UInt8} {k : Nat} (_hu : us.length = k) (hus : ∀ v, v ∈ us → ∃ A n cap, v = Value.slice A n cap ∧ n ≤ 1000000101 ∧ Marked ks A n cap m) : FlK (vals ++ us) (ms ++ List.replicate k m) ks := fun i v m' hv hm => by
  by_cases hi : i < vals.length
  · rw [List.getElem?_append_left hi] at hv
    rw [List.getElem?_append_left (by omega)] at hm
    exact h i v m' hv hm
  · rw [List.getElem?_append_right (by omega)] at hv
    rw [List.getElem?_append_right (by omega), List.getElem?_replicate] at hm
    split at hm
    · injection hm with hm; subst hm
      exact hus v (List.mem_of_getElem? hv)
    · cases hm
theorem perm_take {α : Type} (f ks rest : List α) (o : α) : ((f ++ ks) ++ o :: rest).Perm ((f ++ rest) ++ o :: ks) := by
  rw [List.append_assoc, List.append_assoc]
  refine List.Perm.append_left f ?_
  have h1 : (ks ++ o :: rest).Perm (o :: (ks ++ rest)) := List.perm_middle
  have h2 : (rest ++ o :: ks).Perm (o :: (rest ++ ks)) := List.perm_middle
  exact h1.trans ((List.Perm.cons o List.perm_append_comm).trans h2.symm)
theorem perm3 {α : Type} (a b c : List α) : ((a ++ b) ++ c).Perm ((a ++ c) ++ b) := by
  rw [List.append_assoc, List.append_assoc]
  exact List.Perm.append_left a List.perm_append_comm
theorem perm_back3 {α : Type} (f ks rest : List α) : ((f ++ rest) ++ ks).Perm ((f ++ ks) ++ rest) := by
  rw [List.append_assoc, List.append_assoc]
  exact List.Perm.append_left f List.perm_append_comm
theorem drop3 {w z : World} {f ks : List Ob} {a b c : Ob} (h : OW w ((((f ++ [a]) ++ [b]) ++ [c]) ++ ks) z) : OW w (f ++ ks) z := by
  refine h.sub (List.Sublist.append ?_ (List.Sublist.refl _))
  exact (List.sublist_append_left f [a]).trans ((List.sublist_append_left _ [b]).trans (List.sublist_append_left _ [c]))
def markN (q : Nat) : Nat := q / 4 % 200 + 20
def markU (q : Nat) : UInt8 := UInt8.ofNat (markN q)
theorem markN_le (q : Nat) : markN q ≤ 219 := by unfold markN; omega
theorem markU_v (q : Nat) : u8v (markU q) = .int .u8 (markN q : Int) := by
  have h := markN_le q
  unfold u8v markU
  rw [UInt8.toNat_ofNat', Nat.mod_eq_of_lt (by omega)]
theorem OW.marks {w x : World} {os : List Ob} {T : TypeId} {g k c : Nat} {m : UInt8} (h : OW w os x) (hm : rowO T 1 (.slice (some ⟨g, 0, none⟩) k c) k (u8s (List.replicate k m)) ∈ os) : RB x x.heap.size (some ⟨g, 0, none⟩) k (List.replicate k m) := Reads.own (h.rowm hm)
set_option maxRecDepth 1000000 in
set_option maxHeartbeats 8000000 in
theorem take_any {w x : World} {g : Nat} {osF rest : List Ob} {o : Ob} {A : Option Addr} {n cap : Nat} (hF : Fl g osF) (hS : SlB o A n cap) (h : OW w (osF ++ o :: rest) x) (hn : n ≤ 1000000000) :
    Calls Try.prog 59 #[.pointer (some ⟨g, 0, none⟩), .slice A n cap] x fun e z => e = .returned (.tuple #[]) ∧ ∃ osF', Fl g osF' ∧ OW w (osF' ++ rest) z := by
  obtain ⟨⟨lv, mA, mc, N, vals, ms, ks0⟩, rfl, hd⟩ := hF
  obtain ⟨q, hq⟩ : ∃ z, z = vals.length := ⟨_, rfl⟩
  obtain ⟨LA, lc, hlv, _⟩ := own_slice (h.row (i := 1) rfl)
  have hlv : lv = .slice LA vals.length lc := hlv
  subst hlv
  have hq2 : vals.length = ms.length := hd.len
  have hq1 : 50 * vals.length ≤ N := hd.few
  have hlim : N ≤ 5000000000 := hd.lim
  have HFK := Lib.hid hd.keep
  have h : OW w (([boxO g [.slice LA vals.length lc, .slice mA ms.length mc, .int .i64 (N : Nat)], rowO 28 1 (.slice LA vals.length lc) vals.length vals, bytO 5 (mA, mc, ms)] ++ ks0) ++ o :: rest) x := h
  have HOUT := Lib.hid h
  have HD := Lib.hid hd
  rw [← hq2, ← hq] at h
  rw [← hq] at hq1 hq2
  have HQ := Lib.hid hq.symm
  have HQM := Lib.hid hq2.symm
  have hql : q ≤ 100000000 := by omega
  have hc : x.cell? ⟨g, 2, none⟩ = some (.int .i64 (N : Nat)) := h.cell (i := 0) (j := 2) rfl rfl
  clear hd hq hq2
  by_cases hN : 16000000 < N
  · have dN : decide ((N : Int) > 16000000) = true := decide_eq_true (by omega)
    clear h hq1
    go_enter Try.func59, Try.ntmps59
    go_wp2_with (refine wpList_load_cell rfl 3 (.tmp 10) rfl rfl hc (fun w => Try.isAgg3 w) ?_)
    refine bodyPost_ret (results_none rfl _ _ _) rfl ?_
    exact ⟨rfl, _, ⟨⟨.slice LA vals.length lc, mA, mc, N, vals, ms, ks0⟩, rfl, HD.out⟩, HOUT.out.dropE⟩
  have dN : decide ((N : Int) > 16000000) = false := decide_eq_false (by omega)
  obtain ⟨mm, hmm⟩ : ∃ z, z = markN q := ⟨_, rfl⟩
  obtain ⟨m, hm⟩ : ∃ z, z = markU q := ⟨_, rfl⟩
  have hmv : u8v m = .int .u8 (mm : Int) := by rw [hm, hmm]; exact markU_v q
  have hm219 : mm ≤ 219 := by rw [hmm]; exact markN_le q
  have HMV := Lib.hid hmv
  obtain ⟨q4, hq4⟩ : ∃ z, z = q / 4 := ⟨_, rfl⟩
  obtain ⟨q5, hq5⟩ : ∃ z, z = q4 % 200 := ⟨_, rfl⟩
  have r1 : (q : Int) / 4 = (q4 : Int) := by omega
  have r2 : (q4 : Int) % 200 = (q5 : Int) := by omega
  have r3 : (q5 : Int) + 20 = (mm : Int) := by rw [hmm]; unfold markN; omega
  have hq40 : (0 : Int) ≤ (q4 : Int) := by omega
  have hq50 : (0 : Int) ≤ (q5 : Int) := by omega
  have hq5l : q5 ≤ 199 := by omega
  obtain ⟨N2, hN2⟩ : ∃ z, z = N + 4 * n + 200 := ⟨_, rfl⟩
  have HN2 : Hid (N2 = N + 4 * n + 200 ∧ 50 * (q + 4) ≤ N2 ∧ N2 ≤ 5000000000) := Lib.hid ⟨hN2, by omega, by omega⟩
  have HIN : Hid (Value.int .i64 (((N : Int) + 4 * (n : Int)) + 200) = .int .i64 ((N2 : Nat) : Int)) := Lib.hid (by congr 1; omega)
  have hperm := h.perm (perm_take [boxO g [.slice LA q lc, .slice mA q mc, .int .i64 (N : Nat)], rowO 28 1 (.slice LA q lc) q vals, bytO 5 (mA, mc, ms)] ks0 rest o)
  obtain ⟨o', hset, hcase⟩ := hS w x _ _ hperm (getE_app _ o ks0) m
  rw [setE_app] at hset
  have HX : Hid (OW w (([boxO g [.slice LA q lc, .slice mA q mc, .int .i64 (N : Nat)], rowO 28 1 (.slice LA q lc) q vals, bytO 5 (mA, mc, ms)] ++ rest) ++ o' :: ks0) x) := Lib.hid hset
  have HCASE := Lib.hid hcase
  have hc0 : x.cell? ⟨g, 0, none⟩ = some (.slice LA q lc) := hset.cell (i := 0) (j := 0) rfl rfl
  have hncap : n ≤ cap := by
    rcases hcase with ⟨_, h1, h2⟩ | ⟨_, _, _, h1, _⟩ <;> omega
  clear h hm hmm hmv hq4 hq5 hperm hset hcase hS HOUT HD hN2 hq1
  go_enter Try.func59, Try.ntmps59
  go_wp2_with (first
    | (refine wpList_load_cell rfl 3 (.tmp 10) rfl rfl hc (fun w => Try.isAgg3 w) ?_)
    | (refine wpList_load_cell rfl 3 (.tmp 16) rfl rfl hc (fun w => Try.isAgg3 w) ?_)
    | (refine wl_put1 rfl (.tmp 24) (.tmp 22) rfl HX.out 0 rfl 2 rfl (by simp) (.int .i64 (N2 : Nat)) HIN.out (by kernel_rfl) rfl ?_; intro x1 hz _; have HX1 : Hid (OW w (([boxO g [.slice LA q lc, .slice mA q mc, .int .i64 (N2 : Nat)], rowO 28 1 (.slice LA q lc) q vals, bytO 5 (mA, mc, ms)] ++ rest) ++ o' :: ks0) x1) := Lib.hid hz; have hc1 : x1.cell? ⟨g, 0, none⟩ = some (.slice LA q lc) := hz.cell (i := 0) (j := 0) rfl rfl; clear hz HX hc hc0)
    | (refine wpList_load_cell rfl 44 (.tmp 27) rfl rfl hc1 (fun w => Try.isAgg44 w) ?_))
  clear hc1 r1 r2 r3 hq40 hq50 hq5l
  go_loopw [5] (fun iv wr => ∃ (j : Nat) (k0 : Ob), j ≤ n ∧ iv = .int .i64 j ∧ Hid (OW w (([boxO g [.slice LA q lc, .slice mA q mc, .int .i64 (N2 : Nat)], rowO 28 1 (.slice LA q lc) q vals, bytO 5 (mA, mc, ms)] ++ rest) ++ k0 :: ks0) wr) ∧ Hid ((A = none ∧ n = 0 ∧ cap = 0) ∨ ∃ g c, A = some ⟨g, 0, none⟩ ∧ n ≤ cap ∧ cap ≤ c ∧ k0 = fillO g c j m)) (fun iv _ => n - (intOf iv).toNat)
  case atStart => exact ⟨0, o', Nat.zero_le _, rfl, HX1, HCASE⟩
  case round =>
    clear HX1 HCASE
    obtain ⟨j, k0, hj, rfl, HX2, HC2⟩ := hrel
    by_cases hlt : j < n
    case pos =>
      have hdj : decide ((j : Int) < (n : Int)) = true := decide_eq_true (by omega)
      have i0 : (0 : Int) ≤ (j : Int) := by omega
      have i1 : (j : Int) < (n : Int) := by omega
      rcases HC2.out with ⟨_, h1, _⟩ | ⟨gb, c, rfl, h1, h2, rfl⟩
      · omega
      go_wp2_with (refine wl_storeM rfl (.tmp 43) (.tmp 42) rfl HX2.out (by omega) rfl HMV.out.symm (by kernel_rfl) ?_; intro x3 hz; have HX3 := Lib.hid hz; clear hz HX2)
      go_roundw
      case rel => exact ⟨j + 1, _, by omega, by go_num, HX3, Lib.hid (.inr ⟨gb, c, rfl, h1, h2, rfl⟩)⟩
      case measure => simp [intOf]; omega
    obtain rfl : j = n := by omega
    have hdj : decide ((j : Int) < (j : Int)) = false := decide_eq_false (by omega)
    obtain ⟨ks1, hks1⟩ : ∃ z, z = k0 :: ks0 := ⟨_, rfl⟩
    have HM : Hid (Marked ks1 A j cap m) := Lib.hid (by
      rcases HC2.out with ⟨h1, h2, h3⟩ | ⟨gb, c, h1, h2, h3, h4⟩
      · exact .inl ⟨h1, h2, h3⟩
      · exact .inr ⟨gb, c, j, h1, Nat.le_refl _, h2, h3, by rw [hks1, h4]; exact List.mem_cons_self ..⟩)
    have HL1 : Hid (LeM ks0 ks1) := Lib.hid (LeM.sub fun _ ho => by rw [hks1]; exact List.mem_cons_of_mem _ ho)
    rw [← hks1] at HX2
    clear HC2 hks1 hlt hj
    go_wp2_with (first
      | (refine wl_build rfl #[(0, .tmp 45)] rfl #[.int .u8 (mm : Int)] Try.u8s' (.int .u8 0) (by kernel_rfl) (by decide) (by decide) (by decide) rfl (by kernel_rfl) HX2.out ?_; intro g7 x4 hz _; have HX4 := Lib.hid hz.left; have HRB : Hid (RB x4 x4.heap.size (some ⟨g7, 0, none⟩) 1 (List.replicate 1 m)) := Lib.hid (by have h9 := Reads.own (hz.right.row (i := 0) rfl); rw [← HMV.out] at h9; exact h9); clear hz HX2)
      | (at_builtin; go_must (refine wl_appM rfl (.tmp 44) (.tmp 46) rfl Try.u8s' HX4.out HM.out rfl _ 1 1 rfl HRB.out (by omega) (by omega) ?_); intro A5 c5 ks5 x5 h1 h2 h3; have HX5 := Lib.hid h1; have HL5 := Lib.hid (HL1.out.trans h2); have HM5 := Lib.hid h3; have HMB := Lib.hid (h2 _ _ _ _ HM.out); clear h1 h2 h3 HX4 HRB HL1 HM))
    go_loopw [6, 7] (fun gv iv wr => ∃ (k : Nat) (A6 : Option Addr) (c6 : Nat) (ks6 : List Ob), k ≤ 100 ∧ gv = .slice A6 (j + 1 + k) c6 ∧ iv = .int .i64 k ∧ Hid (OW w (([boxO g [.slice LA q lc, .slice mA q mc, .int .i64 (N2 : Nat)], rowO 28 1 (.slice LA q lc) q vals, bytO 5 (mA, mc, ms)] ++ rest) ++ ks6) wr) ∧ Hid (LeM ks0 ks6) ∧ Hid (Marked ks6 A6 (j + 1 + k) c6 m) ∧ Hid (Marked ks6 A j cap m)) (fun _ iv _ => 100 - (intOf iv).toNat)
    case atStart => exact ⟨0, A5, c5, ks5, by omega, rfl, rfl, HX5, HL5, HM5, HMB⟩
    case round =>
      clear HX5 HL5 HM5 HMB
      obtain ⟨k, A6, c6, ks6, hk, rfl, rfl, HX6, HL6, HM6, HMB6⟩ := hrel
      by_cases hlt : k < 100
      case pos =>
        have hdk : decide ((k : Int) < 100) = true := decide_eq_true (by omega)
        go_wp2_with (first
          | (refine wl_build rfl #[(0, .tmp 53)] rfl #[.int .u8 (mm : Int)] Try.u8s' (.int .u8 0) (by kernel_rfl) (by decide) (by decide) (by decide) rfl (by kernel_rfl) HX6.out ?_; intro g7 x6 hz _; have HX7 := Lib.hid hz.left; have HRB : Hid (RB x6 x6.heap.size (some ⟨g7, 0, none⟩) 1 (List.replicate 1 m)) := Lib.hid (by have h9 := Reads.own (hz.right.row (i := 0) rfl); rw [← HMV.out] at h9; exact h9); clear hz HX6)
          | (at_builtin; go_must (refine wl_appM rfl (.tmp 52) (.tmp 54) rfl Try.u8s' HX7.out HM6.out rfl _ 1 1 rfl HRB.out (by omega) (by omega) ?_); intro A7 c7 ks7 x7 h1 h2 h3; have HX8 := Lib.hid h1; have HL7 := Lib.hid (HL6.out.trans h2); have HM7 := Lib.hid h3; have HMB7 := Lib.hid (h2 _ _ _ _ HMB6.out); clear h1 h2 h3 HX7 HRB))
        go_roundw
        case rel => exact ⟨k + 1, A7, c7, ks7, by omega, rfl, by go_num, HX8, HL7, HM7, HMB7⟩
        case measure => simp [intOf]; omega
      obtain rfl : k = 100 := by omega
      have hdk : decide (((100 : Nat) : Int) < 100) = false := by decide
      clear hlt hk
      go_upto_region 12 with fail
      go_cut [4] (fun mv wx => mv = .int .u8 (mm : Int) ∧ ∃ (L17 : Option Addr) (c17 : Nat) (A9 : Option Addr) (c9 : Nat) (A14 : Option Addr) (c14 : Nat) (ks7 : List Ob), Hid (OW w (([boxO g [.slice L17 (q + 4) c17, .slice mA q mc, .int .i64 (N2 : Nat)], rowO 28 1 (.slice L17 (q + 4) c17) (q + 4) (vals ++ [.slice A j cap, .slice A9 (j + 1) c9, .slice A14 (j + 2) c14, .slice A6 (j + 1 + 100) c6]), bytO 5 (mA, mc, ms)] ++ rest) ++ ks7) wx) ∧ Hid (LeM ks0 ks7) ∧ Hid (Marked ks7 A j cap m) ∧ Hid (Marked ks7 A9 (j + 1) c9 m) ∧ Hid (Marked ks7 A14 (j + 2) c14 m) ∧ Hid (Marked ks7 A6 (j + 1 + 100) c6 m))
      case first =>
        refine lt_start [20] (by kernel_rfl) ?_
        intro xd hd
        refine ⟨fun z => z.cell? ⟨g, 0, none⟩ = some (.slice LA q lc), ?_⟩
        have HX := Lib.hid (HX6.out.later hd)
        have HS : Hid (xd.cell? ⟨g, 0, none⟩ = some (.slice LA q lc)) := Lib.hid (HX.out.cell (i := 0) (j := 0) rfl rfl)
        have e1 : Hid ((#[Value.int .u8 (mm : Int)] : Array Value).toList = u8s (List.replicate 1 m)) := Lib.hid (by rw [← HMV.out]; rfl)
        have e2 : Hid ((#[Value.int .u8 (mm : Int), .int .u8 (mm : Int)] : Array Value).toList = u8s (List.replicate 2 m)) := Lib.hid (by rw [← HMV.out]; rfl)
        clear hd HX6
        refine lt_pure 0 rfl (by kernel_rfl) (by kernel_rfl) (by kernel_rfl) (by kernel_rfl) (fun _ _ _ h => h) (v := ?_) (yi_run rfl (fun w => ?_)) (fun _ => HS.out) ?_
        rotate_left
        · first | (go_simp; done) | (go_simp; with_reducible rfl)
        simp only [Act.put, List.setIfInBounds_toArray, List.set_cons_zero, List.set_cons_succ]
        refine lt_pure 1 rfl (by kernel_rfl) (by kernel_rfl) (by kernel_rfl) (by kernel_rfl) (fun _ _ _ h => h) (v := ?_) (yi_run rfl (fun w => ?_)) (fun _ => HS.out) ?_
        rotate_left
        · first | (go_simp; done) | (go_simp; with_reducible rfl)
        simp only [Act.put, List.setIfInBounds_toArray, List.set_cons_zero, List.set_cons_succ]
        refine lt_pure 2 rfl (by kernel_rfl) (by kernel_rfl) (by kernel_rfl) (by kernel_rfl) (fun _ _ _ h => h) (v := ?_) (yi_run rfl (fun w => ?_)) (fun _ => HS.out) ?_
        rotate_left
        · first | (go_simp; done) | (go_simp; with_reducible rfl)
        simp only [Act.put, List.setIfInBounds_toArray, List.set_cons_zero, List.set_cons_succ]
        refine lt_pure 3 rfl (by kernel_rfl) (by kernel_rfl) (by kernel_rfl) (by kernel_rfl) (fun _ _ _ h => h) (v := ?_) (yi_run rfl (fun w => ?_)) (fun _ => HS.out) ?_
        rotate_left
        · first | (go_simp; done) | (go_simp; with_reducible rfl)
        simp only [Act.put, List.setIfInBounds_toArray, List.set_cons_zero, List.set_cons_succ]
        refine lt_take 4 [17, 18, 19, 20] rfl (by kernel_rfl) (by kernel_rfl) (by kernel_rfl) (by kernel_rfl) (by kernel_rfl) (fun _ _ _ h => h) (yi_cell rfl rfl rfl (fun w hS => hS) (fun w => Try.isAgg44 w)) HS.out ?_
        simp only [Act.put, List.setIfInBounds_toArray, List.set_cons_zero, List.set_cons_succ]
        refine lt_pure 5 rfl (by kernel_rfl) (by kernel_rfl) (by kernel_rfl) (by kernel_rfl) (fun _ _ _ h => h) (v := ?_) (yi_run rfl (fun w => ?_)) (fun _ => HS.out) ?_
        rotate_left
        · first | (go_simp; done) | (go_simp; with_reducible rfl)
        simp only [Act.put, List.setIfInBounds_toArray, List.set_cons_zero, List.set_cons_succ]
        refine lt_pure 6 rfl (by kernel_rfl) (by kernel_rfl) (by kernel_rfl) (by kernel_rfl) (fun _ _ _ h => h) (v := ?_) (yi_run rfl (fun w => ?_)) (fun _ => HS.out) ?_
        rotate_left
        · first | (go_simp; done) | (go_simp; with_reducible rfl)
        simp only [Act.put, List.setIfInBounds_toArray, List.set_cons_zero, List.set_cons_succ]
        refine lt_pure 7 rfl (by kernel_rfl) (by kernel_rfl) (by kernel_rfl) (by kernel_rfl) (fun _ _ _ h => h) (v := ?_) (yi_run rfl (fun w => ?_)) (fun _ => HS.out) ?_
        rotate_left
        · first | (go_simp; done) | (go_simp; with_reducible rfl)
        simp only [Act.put, List.setIfInBounds_toArray, List.set_cons_zero, List.set_cons_succ]
        refine lt_pure 10 rfl (by kernel_rfl) (by kernel_rfl) (by kernel_rfl) (by kernel_rfl) (fun _ _ _ h => h) (v := ?_) (yi_run rfl (fun w => ?_)) (fun _ => HS.out) ?_
        rotate_left
        · first | (go_simp; done) | (go_simp; with_reducible rfl)
        simp only [Act.put, List.setIfInBounds_toArray, List.set_cons_zero, List.set_cons_succ]
        refine lt_pure 11 rfl (by kernel_rfl) (by kernel_rfl) (by kernel_rfl) (by kernel_rfl) (fun _ _ _ h => h) (v := ?_) (yi_run rfl (fun w => ?_)) (fun _ => HS.out) ?_
        rotate_left
        · first | (go_simp; done) | (go_simp; with_reducible rfl)
        simp only [Act.put, List.setIfInBounds_toArray, List.set_cons_zero, List.set_cons_succ]
        refine lt_pure 12 rfl (by kernel_rfl) (by kernel_rfl) (by kernel_rfl) (by kernel_rfl) (fun _ _ _ h => h) (v := ?_) (yi_run rfl (fun w => ?_)) (fun _ => HS.out) ?_
        rotate_left
        · first | (go_simp; done) | (go_simp; with_reducible rfl)
        simp only [Act.put, List.setIfInBounds_toArray, List.set_cons_zero, List.set_cons_succ]
        refine lt_pure 15 rfl (by kernel_rfl) (by kernel_rfl) (by kernel_rfl) (by kernel_rfl) (fun _ _ _ h => h) (v := ?_) (yi_run rfl (fun w => ?_)) (fun _ => HS.out) ?_
        rotate_left
        · first | (go_simp; done) | (go_simp; with_reducible rfl)
        simp only [Act.put, List.setIfInBounds_toArray, List.set_cons_zero, List.set_cons_succ]
        refine lt_two 8 13 rfl rfl (by kernel_rfl) rfl rfl ?_ ?_
        · refine wpo_build rfl #[.int .u8 (mm : Int)] Try.u8s' (.int .u8 0) (by kernel_rfl) (by decide) (by decide) (by decide) rfl (by kernel_rfl) HX.out ?_
          intro g8 y8 hz _
          rw [e1.out] at hz
          replace HX := Lib.hid (hz.perm (perm3 _ _ _))
          replace HS := Lib.hid (HX.out.cell (i := 0) (j := 0) rfl rfl)
          clear hz
          refine ⟨fun _ => HS.out, ?_⟩
          simp only [Act.put, List.setIfInBounds_toArray, List.set_cons_zero, List.set_cons_succ]
          refine lt_two 9 13 rfl rfl (by kernel_rfl) rfl rfl ?_ ?_
          · refine wpo_appM (.tmp 62) (.tmp 64) rfl Try.u8s' HX.out HMB6.out rfl _ 1 1 rfl (HX.out.marks (T := 5) (c := 1) (List.mem_append_left _ (by simp))) (by omega) (by omega) ?_
            intro A9 c9 ks9 y9 h1 h2 h3
            replace HX := Lib.hid h1
            replace HS := Lib.hid (HX.out.cell (i := 0) (j := 0) rfl rfl)
            replace HL6 := Lib.hid (HL6.out.trans h2)
            replace HMB6 := Lib.hid (h2 _ _ _ _ HMB6.out)
            replace HM6 := Lib.hid (h2 _ _ _ _ HM6.out)
            have HM9 := Lib.hid h3
            clear h1 h2 h3
            refine ⟨fun _ => HS.out, ?_⟩
            simp only [Act.put, List.setIfInBounds_toArray, List.set_cons_zero, List.set_cons_succ]
            refine lt_op 13 rfl (by kernel_rfl) rfl ?_
            refine wpo_build rfl #[.int .u8 (mm : Int), .int .u8 (mm : Int)] Try.u8s' (.int .u8 0) (by kernel_rfl) (by decide) (by decide) (by decide) rfl (by kernel_rfl) HX.out ?_
            intro g13 y13 hz _
            rw [e2.out] at hz
            replace HX := Lib.hid (hz.perm (perm3 _ _ _))
            replace HS := Lib.hid (HX.out.cell (i := 0) (j := 0) rfl rfl)
            clear hz
            refine ⟨fun _ => HS.out, ?_⟩
            simp only [Act.put, List.setIfInBounds_toArray, List.set_cons_zero, List.set_cons_succ]
            refine lt_op 14 rfl (by kernel_rfl) rfl ?_
            refine wpo_appM (.tmp 66) (.tmp 69) rfl Try.u8s' HX.out HMB6.out rfl _ 2 2 rfl (HX.out.marks (T := 5) (c := 2) (List.mem_append_left _ (by simp))) (by omega) (by omega) ?_
            intro A14 c14 ks14 y14 h1 h2 h3
            replace HX := Lib.hid h1
            replace HS := Lib.hid (HX.out.cell (i := 0) (j := 0) rfl rfl)
            replace HL6 := Lib.hid (HL6.out.trans h2)
            replace HMB6 := Lib.hid (h2 _ _ _ _ HMB6.out)
            replace HM6 := Lib.hid (h2 _ _ _ _ HM6.out)
            replace HM9 := Lib.hid (h2 _ _ _ _ HM9.out)
            have HM14 := Lib.hid h3
            clear h1 h2 h3
            refine ⟨fun _ => HS.out, ?_⟩
            simp only [Act.put, List.setIfInBounds_toArray, List.set_cons_zero, List.set_cons_succ]
            refine lt_op 16 rfl (by kernel_rfl) rfl ?_
            refine wpo_build rfl #[Value.slice A j cap, .slice A9 (j + 1) c9, .slice A14 (j + 2) c14, .slice A6 (j + 1 + 100) c6] Try.kssF (.slice none 0 0) (by kernel_rfl) (by decide) (by decide) (by decide) rfl (by kernel_rfl) HX.out ?_
            intro g16 y16 hz _
            replace HX := Lib.hid (hz.perm (perm3 _ _ _))
            replace HS := Lib.hid (HX.out.cell (i := 0) (j := 0) rfl rfl)
            clear hz
            refine ⟨fun _ => HS.out, ?_⟩
            simp only [Act.put, List.setIfInBounds_toArray, List.set_cons_zero, List.set_cons_succ]
            refine lt_op 17 rfl (by kernel_rfl) rfl ?_
            refine wpo_append (.tmp 60) (.tmp 72) rfl Try.kssF HX.out 1 rfl rfl _ (some ⟨g16, 0, none⟩) 4 4 [Value.slice A j cap, .slice A9 (j + 1) c9, .slice A14 (j + 2) c14, .slice A6 (j + 1 + 100) c6] rfl (Reads.own (HX.out.rowm (T := 28) (sz := 1) (v := .slice (some ⟨g16, 0, none⟩) 4 4) (n := 4) (List.mem_append_left _ (by simp)))) (by simp [Value.oneCell']) (by unfold maxLen; omega) (by omega) ?_
            intro L17 c17 y17 hz _
            replace HX := Lib.hid hz
            replace HS := Lib.hid (HX.out.cell (i := 0) (j := 0) rfl rfl)
            clear hz
            refine ⟨fun _ => HS.out, ?_⟩
            simp only [Act.put, List.setIfInBounds_toArray, List.set_cons_zero, List.set_cons_succ]
            refine lt_pure 18 rfl (by kernel_rfl) (by kernel_rfl) (by kernel_rfl) (by kernel_rfl) (fun _ _ _ h => h) (v := ?_) (yi_run rfl (fun w => ?_)) (fun _ => HS.out) ?_
            rotate_left
            · first | (go_simp; done) | (go_simp; with_reducible rfl)
            simp only [Act.put, List.setIfInBounds_toArray, List.set_cons_zero, List.set_cons_succ]
            refine lt_pure 19 rfl (by kernel_rfl) (by kernel_rfl) (by kernel_rfl) (by kernel_rfl) (fun _ _ _ h => h) (v := ?_) (yi_run rfl (fun w => ?_)) (fun _ => HS.out) ?_
            rotate_left
            · first | (go_simp; done) | (go_simp; with_reducible rfl)
            simp only [Act.put, List.setIfInBounds_toArray, List.set_cons_zero, List.set_cons_succ]
            refine lt_end 20 rfl (by kernel_rfl) rfl (by kernel_rfl) ?_
            refine wpo_put1 rfl HX.out 0 rfl 0 rfl (by simp) _ rfl (by kernel_rfl) rfl ?_
            intro y20 hz _
            replace HX := Lib.hid hz
            clear hz
            simp only [Act.put]
            refine lt_done (by kernel_rfl) ?_
            go_wp2_with fail
            go_meet
            exact ⟨rfl, L17, c17, A9, c9, A14, c14, _, Lib.hid (drop3 (f := [boxO g [.slice L17 (q + 4) c17, .slice mA q mc, .int .i64 (N2 : Nat)], rowO 28 1 (.slice L17 (q + 4) c17) (q + 4) (vals ++ [.slice A j cap, .slice A9 (j + 1) c9, .slice A14 (j + 2) c14, .slice A6 (j + 1 + 100) c6]), bytO 5 (mA, mc, ms)] ++ rest) HX.out), HL6, HMB6, HM9, HM14, HM6⟩
          · refine wpo_build rfl #[.int .u8 (mm : Int), .int .u8 (mm : Int)] Try.u8s' (.int .u8 0) (by kernel_rfl) (by decide) (by decide) (by decide) rfl (by kernel_rfl) HX.out ?_
            intro g13 y13 hz _
            rw [e2.out] at hz
            replace HX := Lib.hid (hz.perm (perm3 _ _ _))
            replace HS := Lib.hid (HX.out.cell (i := 0) (j := 0) rfl rfl)
            clear hz
            refine ⟨fun _ => HS.out, ?_⟩
            simp only [Act.put, List.setIfInBounds_toArray, List.set_cons_zero, List.set_cons_succ]
            refine lt_op 9 rfl (by kernel_rfl) rfl ?_
            refine wpo_appM (.tmp 62) (.tmp 64) rfl Try.u8s' HX.out HMB6.out rfl _ 1 1 rfl (HX.out.marks (T := 5) (c := 1) (List.mem_append_left _ (by simp))) (by omega) (by omega) ?_
            intro A9 c9 ks9 y9 h1 h2 h3
            replace HX := Lib.hid h1
            replace HS := Lib.hid (HX.out.cell (i := 0) (j := 0) rfl rfl)
            replace HL6 := Lib.hid (HL6.out.trans h2)
            replace HMB6 := Lib.hid (h2 _ _ _ _ HMB6.out)
            replace HM6 := Lib.hid (h2 _ _ _ _ HM6.out)
            have HM9 := Lib.hid h3
            clear h1 h2 h3
            refine ⟨fun _ => HS.out, ?_⟩
            simp only [Act.put, List.setIfInBounds_toArray, List.set_cons_zero, List.set_cons_succ]
            refine lt_op 14 rfl (by kernel_rfl) rfl ?_
            refine wpo_appM (.tmp 66) (.tmp 69) rfl Try.u8s' HX.out HMB6.out rfl _ 2 2 rfl (HX.out.marks (T := 5) (c := 2) (List.mem_append_left _ (by simp))) (by omega) (by omega) ?_
            intro A14 c14 ks14 y14 h1 h2 h3
            replace HX := Lib.hid h1
            replace HS := Lib.hid (HX.out.cell (i := 0) (j := 0) rfl rfl)
            replace HL6 := Lib.hid (HL6.out.trans h2)
            replace HMB6 := Lib.hid (h2 _ _ _ _ HMB6.out)
            replace HM6 := Lib.hid (h2 _ _ _ _ HM6.out)
            replace HM9 := Lib.hid (h2 _ _ _ _ HM9.out)
            have HM14 := Lib.hid h3
            clear h1 h2 h3
            refine ⟨fun _ => HS.out, ?_⟩
            simp only [Act.put, List.setIfInBounds_toArray, List.set_cons_zero, List.set_cons_succ]
            refine lt_op 16 rfl (by kernel_rfl) rfl ?_
            refine wpo_build rfl #[Value.slice A j cap, .slice A9 (j + 1) c9, .slice A14 (j + 2) c14, .slice A6 (j + 1 + 100) c6] Try.kssF (.slice none 0 0) (by kernel_rfl) (by decide) (by decide) (by decide) rfl (by kernel_rfl) HX.out ?_
            intro g16 y16 hz _
            replace HX := Lib.hid (hz.perm (perm3 _ _ _))
            replace HS := Lib.hid (HX.out.cell (i := 0) (j := 0) rfl rfl)
            clear hz
            refine ⟨fun _ => HS.out, ?_⟩
            simp only [Act.put, List.setIfInBounds_toArray, List.set_cons_zero, List.set_cons_succ]
            refine lt_op 17 rfl (by kernel_rfl) rfl ?_
            refine wpo_append (.tmp 60) (.tmp 72) rfl Try.kssF HX.out 1 rfl rfl _ (some ⟨g16, 0, none⟩) 4 4 [Value.slice A j cap, .slice A9 (j + 1) c9, .slice A14 (j + 2) c14, .slice A6 (j + 1 + 100) c6] rfl (Reads.own (HX.out.rowm (T := 28) (sz := 1) (v := .slice (some ⟨g16, 0, none⟩) 4 4) (n := 4) (List.mem_append_left _ (by simp)))) (by simp [Value.oneCell']) (by unfold maxLen; omega) (by omega) ?_
            intro L17 c17 y17 hz _
            replace HX := Lib.hid hz
            replace HS := Lib.hid (HX.out.cell (i := 0) (j := 0) rfl rfl)
            clear hz
            refine ⟨fun _ => HS.out, ?_⟩
            simp only [Act.put, List.setIfInBounds_toArray, List.set_cons_zero, List.set_cons_succ]
            refine lt_pure 18 rfl (by kernel_rfl) (by kernel_rfl) (by kernel_rfl) (by kernel_rfl) (fun _ _ _ h => h) (v := ?_) (yi_run rfl (fun w => ?_)) (fun _ => HS.out) ?_
            rotate_left
            · first | (go_simp; done) | (go_simp; with_reducible rfl)
            simp only [Act.put, List.setIfInBounds_toArray, List.set_cons_zero, List.set_cons_succ]
            refine lt_pure 19 rfl (by kernel_rfl) (by kernel_rfl) (by kernel_rfl) (by kernel_rfl) (fun _ _ _ h => h) (v := ?_) (yi_run rfl (fun w => ?_)) (fun _ => HS.out) ?_
            rotate_left
            · first | (go_simp; done) | (go_simp; with_reducible rfl)
            simp only [Act.put, List.setIfInBounds_toArray, List.set_cons_zero, List.set_cons_succ]
            refine lt_end 20 rfl (by kernel_rfl) rfl (by kernel_rfl) ?_
            refine wpo_put1 rfl HX.out 0 rfl 0 rfl (by simp) _ rfl (by kernel_rfl) rfl ?_
            intro y20 hz _
            replace HX := Lib.hid hz
            clear hz
            simp only [Act.put]
            refine lt_done (by kernel_rfl) ?_
            go_wp2_with fail
            go_meet
            exact ⟨rfl, L17, c17, A9, c9, A14, c14, _, Lib.hid (drop3 (f := [boxO g [.slice L17 (q + 4) c17, .slice mA q mc, .int .i64 (N2 : Nat)], rowO 28 1 (.slice L17 (q + 4) c17) (q + 4) (vals ++ [.slice A j cap, .slice A9 (j + 1) c9, .slice A14 (j + 2) c14, .slice A6 (j + 1 + 100) c6]), bytO 5 (mA, mc, ms)] ++ rest) HX.out), HL6, HMB6, HM9, HM14, HM6⟩
        · refine wpo_build rfl #[.int .u8 (mm : Int), .int .u8 (mm : Int)] Try.u8s' (.int .u8 0) (by kernel_rfl) (by decide) (by decide) (by decide) rfl (by kernel_rfl) HX.out ?_
          intro g13 y13 hz _
          rw [e2.out] at hz
          replace HX := Lib.hid (hz.perm (perm3 _ _ _))
          replace HS := Lib.hid (HX.out.cell (i := 0) (j := 0) rfl rfl)
          clear hz
          refine ⟨fun _ => HS.out, ?_⟩
          simp only [Act.put, List.setIfInBounds_toArray, List.set_cons_zero, List.set_cons_succ]
          refine lt_op 8 rfl (by kernel_rfl) rfl ?_
          refine wpo_build rfl #[.int .u8 (mm : Int)] Try.u8s' (.int .u8 0) (by kernel_rfl) (by decide) (by decide) (by decide) rfl (by kernel_rfl) HX.out ?_
          intro g8 y8 hz _
          rw [e1.out] at hz
          replace HX := Lib.hid (hz.perm (perm3 _ _ _))
          replace HS := Lib.hid (HX.out.cell (i := 0) (j := 0) rfl rfl)
          clear hz
          refine ⟨fun _ => HS.out, ?_⟩
          simp only [Act.put, List.setIfInBounds_toArray, List.set_cons_zero, List.set_cons_succ]
          refine lt_op 9 rfl (by kernel_rfl) rfl ?_
          refine wpo_appM (.tmp 62) (.tmp 64) rfl Try.u8s' HX.out HMB6.out rfl _ 1 1 rfl (HX.out.marks (T := 5) (c := 1) (List.mem_append_left _ (by simp))) (by omega) (by omega) ?_
          intro A9 c9 ks9 y9 h1 h2 h3
          replace HX := Lib.hid h1
          replace HS := Lib.hid (HX.out.cell (i := 0) (j := 0) rfl rfl)
          replace HL6 := Lib.hid (HL6.out.trans h2)
          replace HMB6 := Lib.hid (h2 _ _ _ _ HMB6.out)
          replace HM6 := Lib.hid (h2 _ _ _ _ HM6.out)
          have HM9 := Lib.hid h3
          clear h1 h2 h3
          refine ⟨fun _ => HS.out, ?_⟩
          simp only [Act.put, List.setIfInBounds_toArray, List.set_cons_zero, List.set_cons_succ]
          refine lt_op 14 rfl (by kernel_rfl) rfl ?_
          refine wpo_appM (.tmp 66) (.tmp 69) rfl Try.u8s' HX.out HMB6.out rfl _ 2 2 rfl (HX.out.marks (T := 5) (c := 2) (List.mem_append_left _ (by simp))) (by omega) (by omega) ?_
          intro A14 c14 ks14 y14 h1 h2 h3
          replace HX := Lib.hid h1
          replace HS := Lib.hid (HX.out.cell (i := 0) (j := 0) rfl rfl)
          replace HL6 := Lib.hid (HL6.out.trans h2)
          replace HMB6 := Lib.hid (h2 _ _ _ _ HMB6.out)
          replace HM6 := Lib.hid (h2 _ _ _ _ HM6.out)
          replace HM9 := Lib.hid (h2 _ _ _ _ HM9.out)
          have HM14 := Lib.hid h3
          clear h1 h2 h3
          refine ⟨fun _ => HS.out, ?_⟩
          simp only [Act.put, List.setIfInBounds_toArray, List.set_cons_zero, List.set_cons_succ]
          refine lt_op 16 rfl (by kernel_rfl) rfl ?_
          refine wpo_build rfl #[Value.slice A j cap, .slice A9 (j + 1) c9, .slice A14 (j + 2) c14, .slice A6 (j + 1 + 100) c6] Try.kssF (.slice none 0 0) (by kernel_rfl) (by decide) (by decide) (by decide) rfl (by kernel_rfl) HX.out ?_
          intro g16 y16 hz _
          replace HX := Lib.hid (hz.perm (perm3 _ _ _))
          replace HS := Lib.hid (HX.out.cell (i := 0) (j := 0) rfl rfl)
          clear hz
          refine ⟨fun _ => HS.out, ?_⟩
          simp only [Act.put, List.setIfInBounds_toArray, List.set_cons_zero, List.set_cons_succ]
          refine lt_op 17 rfl (by kernel_rfl) rfl ?_
          refine wpo_append (.tmp 60) (.tmp 72) rfl Try.kssF HX.out 1 rfl rfl _ (some ⟨g16, 0, none⟩) 4 4 [Value.slice A j cap, .slice A9 (j + 1) c9, .slice A14 (j + 2) c14, .slice A6 (j + 1 + 100) c6] rfl (Reads.own (HX.out.rowm (T := 28) (sz := 1) (v := .slice (some ⟨g16, 0, none⟩) 4 4) (n := 4) (List.mem_append_left _ (by simp)))) (by simp [Value.oneCell']) (by unfold maxLen; omega) (by omega) ?_
          intro L17 c17 y17 hz _
          replace HX := Lib.hid hz
          replace HS := Lib.hid (HX.out.cell (i := 0) (j := 0) rfl rfl)
          clear hz
          refine ⟨fun _ => HS.out, ?_⟩
          simp only [Act.put, List.setIfInBounds_toArray, List.set_cons_zero, List.set_cons_succ]
          refine lt_pure 18 rfl (by kernel_rfl) (by kernel_rfl) (by kernel_rfl) (by kernel_rfl) (fun _ _ _ h => h) (v := ?_) (yi_run rfl (fun w => ?_)) (fun _ => HS.out) ?_
          rotate_left
          · first | (go_simp; done) | (go_simp; with_reducible rfl)
          simp only [Act.put, List.setIfInBounds_toArray, List.set_cons_zero, List.set_cons_succ]
          refine lt_pure 19 rfl (by kernel_rfl) (by kernel_rfl) (by kernel_rfl) (by kernel_rfl) (fun _ _ _ h => h) (v := ?_) (yi_run rfl (fun w => ?_)) (fun _ => HS.out) ?_
          rotate_left
          · first | (go_simp; done) | (go_simp; with_reducible rfl)
          simp only [Act.put, List.setIfInBounds_toArray, List.set_cons_zero, List.set_cons_succ]
          refine lt_end 20 rfl (by kernel_rfl) rfl (by kernel_rfl) ?_
          refine wpo_put1 rfl HX.out 0 rfl 0 rfl (by simp) _ rfl (by kernel_rfl) rfl ?_
          intro y20 hz _
          replace HX := Lib.hid hz
          clear hz
          simp only [Act.put]
          refine lt_done (by kernel_rfl) ?_
          go_wp2_with fail
          go_meet
          exact ⟨rfl, L17, c17, A9, c9, A14, c14, _, Lib.hid (drop3 (f := [boxO g [.slice L17 (q + 4) c17, .slice mA q mc, .int .i64 (N2 : Nat)], rowO 28 1 (.slice L17 (q + 4) c17) (q + 4) (vals ++ [.slice A j cap, .slice A9 (j + 1) c9, .slice A14 (j + 2) c14, .slice A6 (j + 1 + 100) c6]), bytO 5 (mA, mc, ms)] ++ rest) HX.out), HL6, HMB6, HM9, HM14, HM6⟩
      clear HX6 HL6 HM6 HMB6
      obtain ⟨rfl, L17, c17, A9, c9, A14, c14, ks7, HX7, HL7, HMB, HM9, HM14, HM6⟩ := hcut
      have e4 : Hid ((#[Value.int .u8 (mm : Int), .int .u8 (mm : Int), .int .u8 (mm : Int), .int .u8 (mm : Int)] : Array Value).toList = u8s (List.replicate 4 m)) := Lib.hid (by rw [← HMV.out]; rfl)
      go_wp2_with (first
        | (refine wpList_load_cell rfl 28 (.tmp 79) rfl rfl (HX7.out.cell (i := 0) (j := 1) rfl rfl) (fun w => Try.isAgg28 w) ?_)
        | (refine wl_build rfl #[(0, .tmp 81), (1, .tmp 82), (2, .tmp 83), (3, .tmp 84)] rfl #[.int .u8 (mm : Int), .int .u8 (mm : Int), .int .u8 (mm : Int), .int .u8 (mm : Int)] Try.u8s' (.int .u8 0) (by kernel_rfl) (by decide) (by decide) (by decide) rfl (by kernel_rfl) HX7.out ?_; intro g9 x9 hz _; have HX9 := Lib.hid hz.left; have HRB : Hid (RB x9 x9.heap.size (some ⟨g9, 0, none⟩) 4 (List.replicate 4 m)) := Lib.hid (by have h9 := Reads.own (hz.right.row (i := 0) rfl); rw [e4.out] at h9; exact h9); clear hz HX7)
        | (at_builtin; go_must (refine wl_appB rfl (.tmp 80) (.tmp 85) rfl Try.u8s' HX9.out 2 rfl HQM.out rfl _ _ 4 _ (List.replicate 4 m) rfl HRB.out (by omega) ?_); intro M13 d13 y1 hz; have HY := Lib.hid hz; clear hz HX9 HRB)
        | (refine wl_put1 rfl (.tmp 88) (.tmp 86) rfl HY.out 0 rfl 1 rfl (by simp) _ rfl (by kernel_rfl) rfl ?_; intro y2 hz _; have HZ : Hid (OW w (([boxO g [.slice L17 (q + 4) c17, .slice M13 (q + 4) d13, .int .i64 (N2 : Nat)], rowO 28 1 (.slice L17 (q + 4) c17) (q + 4) (vals ++ [.slice A j cap, .slice A9 (j + 1) c9, .slice A14 (j + 2) c14, .slice A6 (j + 1 + 100) c6]), bytO 5 (M13, d13, ms ++ List.replicate 4 m)] ++ rest) ++ ks7) y2) := Lib.hid hz; clear hz HY))
      go_end0
      have hl1 : (vals ++ [Value.slice A j cap, .slice A9 (j + 1) c9, .slice A14 (j + 2) c14, .slice A6 (j + 1 + 100) c6]).length = q + 4 := by rw [List.length_append, HQ.out]; rfl
      have hl2 : (ms ++ List.replicate 4 m).length = q + 4 := by rw [List.length_append, HQM.out, List.length_replicate]
      have hk1 : FlK (vals ++ [Value.slice A j cap, .slice A9 (j + 1) c9, .slice A14 (j + 2) c14, .slice A6 (j + 1 + 100) c6]) (ms ++ List.replicate 4 m) ks7 := FlK.add (HFK.out.le HL7.out) (HQ.out.trans HQM.out.symm) (k := 4) rfl (fun v hv => by
        simp only [List.mem_cons, List.not_mem_nil, or_false] at hv
        rcases hv with rfl | rfl | rfl | rfl
        · exact ⟨_, _, _, rfl, by omega, HMB.out⟩
        · exact ⟨_, _, _, rfl, by omega, HM9.out⟩
        · exact ⟨_, _, _, rfl, by omega, HM14.out⟩
        · exact ⟨_, _, _, rfl, by omega, HM6.out⟩)
      refine ⟨rfl, _, ⟨⟨.slice L17 (q + 4) c17, M13, d13, N2, vals ++ [Value.slice A j cap, .slice A9 (j + 1) c9, .slice A14 (j + 2) c14, .slice A6 (j + 1 + 100) c6], ms ++ List.replicate 4 m, ks7⟩, rfl, ⟨hl1.trans hl2.symm, by show 50 * (vals ++ [Value.slice A j cap, .slice A9 (j + 1) c9, .slice A14 (j + 2) c14, .slice A6 (j + 1 + 100) c6]).length ≤ N2; rw [hl1]; exact HN2.out.2.1, HN2.out.2.2, hk1⟩⟩, ?_⟩
      have h9 := HZ.out.perm (perm_back3 _ _ _)
      unfold flO
      rw [hl1, hl2]
      exact h9
end Go.Proofs.Ytdaoinhkagmbdaa
namespace Go.Proofs.Ytdaoinhkagmbdaa
open Go.RowKit
set_option maxRecDepth 100000 in
set_option maxHeartbeats 4000000 in
theorem fentry_any {w x : World} {g : Nat} {osF rest : List Ob} {oA oB oD : Ob} {A : Option Addr} {n c : Nat} {B : Option Addr} {m d : Nat} {D : Option Addr} {v q : Nat} (e : Ent) (hF : Fl g osF) (sA : SlB oA A n c) (sB : SlB oB B m d) (sD : SlB oD D v q) (h : OW w (osF ++ oA :: oB :: oD :: rest) x) (h1 : n ≤ 1000000000) (h2 : m ≤ 1000000000) (h3 : v ≤ 1000000000) :
    Calls Try.prog 32 #[.pointer (some ⟨g, 0, none⟩), entV A n c B m d D v q e] x fun r z => r = .returned (.tuple #[]) ∧ ∃ osF', Fl g osF' ∧ OW w (osF' ++ rest) z := by
  have HX := Lib.hid h
  have HF := Lib.hid hF
  have SA := Lib.hid sA
  have SB := Lib.hid sB
  have SD := Lib.hid sD
  clear h hF sA sB sD
  go_enter Try.func32, Try.ntmps32
  go_wp2_with (first
    | (refine wl_box rfl (.tmp 1) rfl [.slice A n c, .int .i64 e.fam, .slice B m d, .int .i64 e.ts, .int .i64 e.seq, .int .i64 e.kind, .slice D v q] rfl HX.out ?_; intro gb x1 hz _; rw [List.append_assoc] at hz; have HX1 : Hid (OW w (osF ++ oA :: oB :: oD :: (rest ++ [boxO gb [.slice A n c, .int .i64 e.fam, .slice B m d, .int .i64 e.ts, .int .i64 e.seq, .int .i64 e.kind, .slice D v q]])) x1) := Lib.hid hz; have tk1 : True := trivial; clear hz HX)
    | (refine wpList_load_cell rfl 28 (.tmp 5) rfl rfl (HX1.out.cellm (g := gb) (cs := [.slice A n c, .int .i64 e.fam, .slice B m d, .int .i64 e.ts, .int .i64 e.seq, .int .i64 e.kind, .slice D v q]) (j := 0) (List.mem_append_right _ (by simp)) rfl) (fun w => Try.isAgg28 w) ?_)
    | (go_at_call 59; (have _t := tk1); go_must (refine (take_any HF.out SA.out HX1.out h1).mono ?_); rintro r x2 ⟨rfl, os1, hf, ho⟩; have HF1 := Lib.hid hf; have HX2 := Lib.hid ho; have tk2 : True := trivial; clear hf ho HX1 HF tk1 _t)
    | (refine wpList_load_cell rfl 28 (.tmp 9) rfl rfl (HX2.out.cellm (g := gb) (cs := [.slice A n c, .int .i64 e.fam, .slice B m d, .int .i64 e.ts, .int .i64 e.seq, .int .i64 e.kind, .slice D v q]) (j := 2) (List.mem_append_right _ (by simp)) rfl) (fun w => Try.isAgg28 w) ?_)
    | (go_at_call 59; (have _t := tk2); go_must (refine (take_any HF1.out SB.out HX2.out h2).mono ?_); rintro r x3 ⟨rfl, os2, hf, ho⟩; have HF2 := Lib.hid hf; have HX3 := Lib.hid ho; have tk3 : True := trivial; clear hf ho HX2 HF1 tk2 _t)
    | (refine wpList_load_cell rfl 28 (.tmp 13) rfl rfl (HX3.out.cellm (g := gb) (cs := [.slice A n c, .int .i64 e.fam, .slice B m d, .int .i64 e.ts, .int .i64 e.seq, .int .i64 e.kind, .slice D v q]) (j := 6) (List.mem_append_right _ (by simp)) rfl) (fun w => Try.isAgg28 w) ?_)
    | (go_at_call 59; (have _t := tk3); go_must (refine (take_any HF2.out SD.out HX3.out h3).mono ?_); rintro r x4 ⟨rfl, os3, hf, ho⟩; have HF3 := Lib.hid hf; have HX4 := Lib.hid ho; clear hf ho HX3 HF2 tk3 _t))
  go_end0
  exact ⟨rfl, os3, HF3.out, HX4.out.sub (List.Sublist.append (List.Sublist.refl _) (List.sublist_append_left _ _))⟩
theorem Fl.read {w x : World} {g : Nat} {osF rest : List Ob} (hF : Fl g osF) (h : OW w (osF ++ rest) x) : ∃ (LA MA : Option Addr) (q lc mc : Nat), q ≤ 100000000 ∧ x.cell? ⟨g, 0, none⟩ = some (.slice LA q lc) ∧ x.cell? ⟨g, 1, none⟩ = some (.slice MA q mc) ∧
    ∀ i, i < q → ∃ (lg mg : Nat) (A : Option Addr) (n cap mm : Nat), LA = some ⟨lg, 0, none⟩ ∧ MA = some ⟨mg, 0, none⟩ ∧ n ≤ 1000000101 ∧ x.cell? ⟨lg, i, none⟩ = some (.slice A n cap) ∧ x.cell? ⟨mg, i, none⟩ = some (.int .u8 (mm : Int)) ∧ ∀ k, k < n → ∃ b, A = some ⟨b, 0, none⟩ ∧ x.cell? ⟨b, k, none⟩ = some (.int .u8 (mm : Int)) := by
  obtain ⟨⟨lv, mA, mc, N, vals, ms, ks⟩, rfl, hd⟩ := hF
  obtain ⟨LA, lc, hlv, _⟩ := own_slice (h.row (i := 1) rfl)
  have hlv : lv = .slice LA vals.length lc := hlv
  subst hlv
  have hl : vals.length = ms.length := hd.len
  have hq1 : 50 * vals.length ≤ N := hd.few
  have hq2 : N ≤ 5000000000 := hd.lim
  have hr := h.row (i := 1) rfl
  have hm := h.byt (i := 2) rfl
  refine ⟨LA, mA, vals.length, lc, mc, by omega, h.cell (i := 0) (j := 0) rfl rfl, by have h1 := h.cell (i := 0) (j := 1) rfl rfl; rw [h1, hl], fun i hi => ?_⟩
  obtain ⟨lg, lcap, hv, _⟩ := own_form hr (show 0 < vals.length by omega)
  injection hv with hv _ _
  obtain ⟨mg, mcap, hv2, _⟩ := own_form hm (show 0 < ms.length by omega)
  injection hv2 with hv2 _ _
  obtain ⟨v, hvi⟩ : ∃ v, vals[i]? = some v := ⟨_, List.getElem?_eq_getElem hi⟩
  obtain ⟨m, hmi⟩ : ∃ v, ms[i]? = some v := ⟨_, List.getElem?_eq_getElem (by omega)⟩
  obtain ⟨A, n, cap, rfl, hn, hmk⟩ := hd.keep i v m hvi hmi
  subst hv; subst hv2
  have hS := OW.marked h (A := A) (n := n) (cap := cap) (m := m) (by
    rcases hmk with hk | ⟨g', c', N', k1, k2, k3, k4, k5⟩
    · exact .inl hk
    · exact .inr ⟨g', c', N', k1, k2, k3, k4, List.mem_append_left _ (.tail _ (.tail _ (.tail _ k5)))⟩)
  refine ⟨lg, mg, A, n, cap, m.toNat, rfl, rfl, hn, (World.ownsRow.cellAt hr i (by show i < vals.length * 1; omega)).trans hvi, (World.ownsRow.cellAt hm i (by show i < ms.length * 1; omega)).trans (u8s_at hmi), fun k hk => ?_⟩
  obtain ⟨b, o, rfl, _, hc⟩ := hS.rb.2 (by omega)
  have ho : o = 0 := by
    rcases hmk with ⟨h1, _⟩ | ⟨_, _, _, h1, _⟩
    · cases h1
    · injection h1 with h1; injection h1
  subst ho
  have := hc k _ (u8s_at (show (List.replicate n m)[k]? = some m by simp [hk]))
  rw [Nat.zero_add] at this
  exact ⟨b, rfl, this⟩
set_option maxRecDepth 100000 in
set_option maxHeartbeats 4000000 in
theorem whole_any {w x : World} {g : Nat} {osF rest : List Ob} (hF : Fl g osF) (h : OW w (osF ++ rest) x) :
    Calls Try.prog 37 #[.pointer (some ⟨g, 0, none⟩)] x fun e z => e = .returned (.bool true) ∧ Below x.heap.size x z := by
  obtain ⟨LA, MA, q, lc, mc, hq, h0, h1, hi⟩ := hF.read h
  have L0 := Lib.hid (World.block_lt_of_cell? _ _ h0)
  have HI := Lib.hid hi
  have H0 : Hid (∀ z, Below x.heap.size x z → z.cell? ⟨g, 0, none⟩ = some (.slice LA q lc)) := Lib.hid fun z hz => (hz.cell (p := ⟨g, 0, none⟩) L0.out).trans h0
  have H1 : Hid (∀ z, Below x.heap.size x z → z.cell? ⟨g, 1, none⟩ = some (.slice MA q mc)) := Lib.hid fun z hz => (hz.cell (p := ⟨g, 1, none⟩) L0.out).trans h1
  clear hF h h0 h1 hi
  go_enter Try.func37, Try.ntmps37
  go_wp2_with fail
  go_loopw [3, 4] (fun iv _ wr => ∃ i : Nat, i ≤ q ∧ iv = .int .i64 i ∧ Hid (Below x.heap.size x wr)) (fun iv _ _ => q - (intOf iv).toNat)
  case atStart => exact ⟨0, Nat.zero_le _, rfl, Lib.hid (Below.refl _ _)⟩
  case round =>
    obtain ⟨i, hiq, rfl, HB⟩ := hrel
    have c0 := H0.out _ HB.out
    by_cases hlt : i < q
    case neg =>
      have hd : decide ((i : Int) < (q : Int)) = false := decide_eq_false (by omega)
      go_wp2_with (refine wpList_load_cell rfl 44 (.tmp 8) rfl rfl c0 (fun w => Try.isAgg44 w) ?_)
      go_ret
      exact ⟨rfl, HB.out⟩
    have hd : decide ((i : Int) < (q : Int)) = true := decide_eq_true (by omega)
    obtain ⟨lg, mg, A, n, cap, mm, rfl, rfl, hn, hl, hm, hk⟩ := HI.out i hlt
    have HL : Hid (∀ z, Below x.heap.size x z → z.cell? ⟨lg, i, none⟩ = some (.slice A n cap)) := Lib.hid fun z hz => (hz.cell (p := ⟨lg, i, none⟩) (World.block_lt_of_cell? _ _ hl)).trans hl
    have HM : Hid (∀ z, Below x.heap.size x z → z.cell? ⟨mg, i, none⟩ = some (.int .u8 (mm : Int))) := Lib.hid fun z hz => (hz.cell (p := ⟨mg, i, none⟩) (World.block_lt_of_cell? _ _ hm)).trans hm
    have HK := Lib.hid hk
    have i0 : (0 : Int) ≤ (i : Int) := by omega
    have i1 : (i : Int) < (q : Int) := by omega
    clear hl hm hk
    go_wp2_with (refine wpList_load_cell rfl 44 (.tmp 8) rfl rfl c0 (fun w => Try.isAgg44 w) ?_)
    go_loopw [4] (fun kv wy => ∃ k : Nat, k ≤ n ∧ kv = .int .i64 k ∧ Hid (Below x.heap.size x wy)) (fun kv _ => n - (intOf kv).toNat)
    case atStart => exact ⟨0, Nat.zero_le _, rfl, HB⟩
    case round =>
      clear c0
      obtain ⟨k, hkn, rfl, HB2⟩ := hrel
      have c0 := H0.out _ HB2.out
      have c1 := HL.out _ HB2.out
      by_cases hlk : k < n
      case neg =>
        have hd2 : decide ((k : Int) < (n : Int)) = false := decide_eq_false (by omega)
        go_wp2_with (first
          | (refine wpList_load_cell rfl 44 (.tmp 17) rfl rfl c0 (fun w => Try.isAgg44 w) ?_)
          | (refine wpList_load_cell rfl 28 (.tmp 20) rfl rfl c1 (fun w => Try.isAgg28 w) ?_))
        go_roundw
        case rel => exact ⟨i + 1, by omega, by go_num, HB2⟩
        case measure => simp [intOf]; omega
      have hd2 : decide ((k : Int) < (n : Int)) = true := decide_eq_true (by omega)
      obtain ⟨b, rfl, hcb⟩ := HK.out k hlk
      have c2 : _ = _ := (HB2.out.cell (p := ⟨b, k, none⟩) (World.block_lt_of_cell? _ _ hcb)).trans hcb
      have c3 := H1.out _ HB2.out
      have c4 := HM.out _ HB2.out
      have k0 : (0 : Int) ≤ (k : Int) := by omega
      have k1 : (k : Int) < (n : Int) := by omega
      go_wp2_with (first
        | (refine wpList_load_cell rfl 44 (.tmp 17) rfl rfl c0 (fun w => Try.isAgg44 w) ?_)
        | (refine wpList_load_cell rfl 28 (.tmp 20) rfl rfl c1 (fun w => Try.isAgg28 w) ?_))
      go_quiet (fail)
      have HB3 := Lib.hid (below_drewN (n := nq) HB2.out)
      generalize wr.drewN nq = wz at *
      go_wp2_with fail
      go_roundw
      case rel => exact ⟨k + 1, by omega, by go_num, HB3⟩
      case measure => simp [intOf]; omega
end Go.Proofs.Ytdaoinhkagmbdaa
namespace Go.Proofs.Ytdaoinhkagmbdaa
open Go.RowKit
theorem entsS8 : SliceOf Try.prog 22 30 7 104 := SliceOf.mk' (z := .agg #[.slice none 0 0, .int .i64 0, .slice none 0 0, .int .i64 0, .int .i64 0, .int .i64 0, .slice none 0 0]) Try.underlying22 (by kernel_rfl) rfl (by decide)
def clipE (r : ER) : List Ob := [clipO r.A r.e.row, clipO r.B r.e.qual, clipO r.D r.e.val]
theorem clipE_snoc (rs : List ER) (r : ER) : (rs ++ [r]).flatMap clipE = rs.flatMap clipE ++ clipE r := by rw [List.flatMap_append, List.flatMap_cons, List.flatMap_nil, List.append_nil]
def listO8 (A : Option Addr) (n c : Nat) (rs : List ER) : List Ob := rowO 30 7 (.slice A n c) n (rs.flatMap ER.cells) :: rs.flatMap clipE
structure Col (rs : List ER) (pre : List Ent) : Prop where
  e : rs.map ER.e = pre
  en : ∀ r, r ∈ rs → EClip (rs.flatMap clipE) r
theorem Col.len {rs : List ER} {pre : List Ent} (h : Col rs pre) : rs.length = pre.length := by rw [← h.e, List.length_map]
theorem Col.nil : Col [] [] := ⟨rfl, fun r h => (by cases h)⟩
theorem Col.snoc {rs : List ER} {pre : List Ent} {s : ER} (h : Col rs pre) (hs : EClip (clipE s) s) : Col (rs ++ [s]) (pre ++ [s.e]) := by
  refine ⟨by rw [List.map_append, h.e]; rfl, fun r hr => ?_⟩
  rw [clipE_snoc]
  rcases List.mem_append.1 hr with hr | hr
  · exact (h.en r hr).more fun o ho => List.mem_append_left _ ho
  · rw [List.mem_singleton.1 hr]; exact hs.more fun o ho => List.mem_append_right _ ho
theorem Col.ens {rs : List ER} {pre : List Ent} (h : Col rs pre) {w x : World} {os : List Ob} {A : Option Addr} {n c : Nat} (hx : OW w (os ++ listO8 A n c rs) x) : Ens x A n pre := by
  obtain ⟨i, hi⟩ := List.getElem?_of_mem (show rowO 30 7 (.slice A n c) n (rs.flatMap ER.cells) ∈ os ++ listO8 A n c rs from List.mem_append_right _ (.head _))
  rw [← h.e]
  exact OW.ens hx hi fun r hr => ((h.en r hr).more fun o ho => List.mem_append_right _ (.tail _ ho)).en hx
theorem pre_at8 {α : Type} {L pre : List α} {e : α} (h : pre ++ [e] <+: L) : L[pre.length]? = some e := by
  obtain ⟨t, rfl⟩ := h
  rw [List.append_assoc, List.getElem?_append_right (Nat.le_refl _), Nat.sub_self]; rfl
theorem perm4R {α : Type} (a b c : List α) : ((a ++ b) ++ c).Perm ((c ++ a) ++ b) := by
  rw [List.append_assoc c]
  exact List.perm_append_comm
theorem StT.more {tg b24 b83 : Nat} {av : Value} {t : Tr} {fr : Bool} {os os' : List Ob} (h : StT tg b24 b83 av t fr os) (hs : ∀ o, o ∈ os → o ∈ os') : StT tg b24 b83 av t fr os' := ⟨hs _ h.p, hs _ h.a, hs _ h.t⟩
theorem ItT.more1 {t : Tr} {os os' : List Ob} (h : ItT t (fun _ => True) os) (hs : ∀ o, o ∈ os → o ∈ os') : ItT t (fun _ => True) os' := ⟨h.m.more hs, fun r hr => (h.en r hr).more hs, trivial⟩
theorem Tb.it {ms os : List Ob} {t : Tr} (h : Tb ms t) (hs : ∀ o, o ∈ ms → o ∈ os) : ItT t (fun _ => True) os := ⟨h.m.more hs, fun r hr => (h.en r hr).more hs, trivial⟩
def fromL (L : List Ent) (e : Ent) : List Ent := fl (fun x => decide (cmpE x e < 0)) L
end Go.Proofs.Ytdaoinhkagmbdaa
namespace Go.Proofs.Ytdaoinhkagmbdaa
open Go.RowKit
section
variable {T : TypeId} {base base' : Nat} {w w' : World} {rs : RowL} {mk : Value → Value}
end
end Go.Proofs.Ytdaoinhkagmbdaa
namespace Go.Proofs.Ytdaoinhkagmbdaa
open Go.RowKit
end Go.Proofs.Ytdaoinhkagmbdaa
namespace Go.Proofs.Ytdaoinhkagmbdaa
open Go.RowKit
end Go.Proofs.Ytdaoinhkagmbdaa
namespace Go.Proofs.Ytdaoinhkagmbdaa
open Go.RowKit
end Go.Proofs.Ytdaoinhkagmbdaa
namespace Go.Proofs.Ytdaoinhkagmbdaa
open Go.RowKit
end Go.Proofs.Ytdaoinhkagmbdaa
namespace Go.Proofs.Ytdaoinhkagmbdaa
open Go.RowKit
end Go.Proofs.Ytdaoinhkagmbdaa
namespace Go.Proofs.Ytdaoinhkagmbdaa
open Go.RowKit
end Go.Proofs.Ytdaoinhkagmbdaa
namespace Go.Proofs.Ytdaoinhkagmbdaa
open Go.RowKit
end Go.Proofs.Ytdaoinhkagmbdaa
namespace Go.Proofs.Ytdaoinhkagmbdaa
open Go.RowKit
end Go.Proofs.Ytdaoinhkagmbdaa
namespace Go.Proofs.Ytdaoinhkagmbdaa
open Go.RowKit
end Go.Proofs.Ytdaoinhkagmbdaa
namespace Go.Proofs.Ytdaoinhkagmbdaa
open Go.RowKit
end Go.Proofs.Ytdaoinhkagmbdaa
