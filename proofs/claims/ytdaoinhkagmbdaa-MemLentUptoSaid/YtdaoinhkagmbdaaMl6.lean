/-
  Laid together by merge.py: MemR2, MemE, KeptM, MemL6, Law, Law2.
-/
import Derived.Test.YtdaoinhkagmbdaaMl5
import Derived.Test.YtdaoinhkagmbdaaMl3
import Derived.Test.YtdaoinhkagmbdaaMl2
import Derived.Test.YtdaoinhkagmbdaaMl1
import Derived.ProofKit
import Derived.SizedLaws
import Derived.Lib.SmallJoins
import Derived.Deep.Slices
import Derived.Deep.Fields
namespace Go.Proofs.Ytdaoinhkagmbdaa
open Go.RowKit
theorem fromE_all {L : List Ent} {e : Ent} (h : L.length ≤ insN L e) : fromE L e = [] := List.drop_of_length_le h
theorem RT.drop {os : List Ob} {g n c : Nat} {rs : List ER} {L : List Ent} (h : RT os (some ⟨g, 0, none⟩) n c rs L) {a : Nat} (ha : a < n) : LIn os (some ⟨g, a * 7, none⟩) (n - a) (L.drop a) :=
  ⟨rs.drop a, by rw [List.map_drop, h.e], ⟨_, h.row, fun _ _ k => by rw [← flat7_dropR]; exact reads_dropR (Reads.own (k.rowm (.head _))) ha⟩, fun r hr => h.en r (List.mem_of_mem_drop hr)⟩
theorem RT.lnil {os : List Ob} {A : Option Addr} {n c : Nat} {rs : List ER} {L : List Ent} (h : RT os A n c rs L) : LIn os none 0 [] := ⟨[], rfl, ⟨_, h.row, fun _ _ _ => Reads.nil⟩, fun r hr => by cases hr⟩
set_option maxRecDepth 100000 in
set_option maxHeartbeats 4000000 in
theorem rfrom8_any {w x : World} {os : List Ob} {A : Option Addr} {n c : Nat} {rs : List ER} {L : List Ent} {fr : Bool} (h : OW w os x) (hT : RT os A n c rs L) (hn : n ≤ 1000000) (r : ER) (hr : ∀ z, OW w os z → r.En z) :
    Calls Try.prog 18 #[.agg #[.slice A n c, .bool fr], .agg #[.slice r.A r.e.row.length r.c, .int .i64 r.e.fam, .slice r.B r.e.qual.length r.d, .int .i64 r.e.ts, .int .i64 r.e.seq, .int .i64 r.e.kind, .slice r.D r.e.val.length r.q]] x fun e z => ∃ A' n' c', e = .returned (.slice A' n' c') ∧ OW w os z ∧ LIn os A' n' (fromE L r.e) := by
  have HX := Lib.hid h
  have HT := Lib.hid hT
  have HR := Lib.hid hr
  have HRL : Hid (rs.length = n) := Lib.hid (hT.lens h).1
  have HLL : Hid (L.length = n) := Lib.hid (hT.lens h).2
  have HRE : Hid (∀ q, q ∈ rs → ∀ z, OW w os z → q.En z) := Lib.hid fun q hq z hz => (hT.en q hq).en hz
  obtain ⟨N, hN⟩ : ∃ z, z = insN L r.e := ⟨_, rfl⟩
  have hNn : N ≤ n := by rw [hN, ← HLL.out]; exact twN_le _ _
  have HN := Lib.hid hN
  have hkmc : n ≤ c := by
    rcases (h.rowm hT.row).2 with ⟨h1, h2⟩ | ⟨g, cap, _, h1, _, _, h2, _⟩
    · omega
    · injection h1 with _ _ h4; omega
  clear h hT hr hN
  go_enter Try.func18, Try.ntmps18
  go_wp2_with (first
    | (refine wl_box rfl (.tmp 0) rfl [.slice A n c, .bool fr] rfl HX.out ?_; intro bt x1 hz hb; have HX1 : Hid (OW w (boxO bt [.slice A n c, .bool fr] :: os) x1) := Lib.hid (hz.perm List.perm_append_comm); clear hz hb HX)
    | (refine wl_box rfl (.tmp 1) rfl [.slice r.A r.e.row.length r.c, .int .i64 r.e.fam, .slice r.B r.e.qual.length r.d, .int .i64 r.e.ts, .int .i64 r.e.seq, .int .i64 r.e.kind, .slice r.D r.e.val.length r.q] rfl HX1.out ?_; intro be x2 hz hb; have HX2 : Hid (OW w (boxO be [.slice r.A r.e.row.length r.c, .int .i64 r.e.fam, .slice r.B r.e.qual.length r.d, .int .i64 r.e.ts, .int .i64 r.e.seq, .int .i64 r.e.kind, .slice r.D r.e.val.length r.q] :: boxO bt [.slice A n c, .bool fr] :: os) x2) := Lib.hid (hz.perm List.perm_append_comm); clear hz hb HX1))
  go_loopw [5] (fun av wr => ∃ a : Nat, a ≤ N ∧ av = .int .i64 a ∧ Hid (OW w (boxO be [.slice r.A r.e.row.length r.c, .int .i64 r.e.fam, .slice r.B r.e.qual.length r.d, .int .i64 r.e.ts, .int .i64 r.e.seq, .int .i64 r.e.kind, .slice r.D r.e.val.length r.q] :: boxO bt [.slice A n c, .bool fr] :: os) wr)) (fun av _ => N + 1 - (intOf av).toNat)
  case atStart => exact ⟨0, Nat.zero_le _, rfl, HX2⟩
  case round =>
    clear HX2
    obtain ⟨a, haN, rfl, HX⟩ := hrel
    by_cases hak : a < n
    case neg =>
      have hak2 : a = n := by omega
      have hda : decide ((a : Int) < (n : Int)) = false := decide_eq_false (by omega)
      have HAN : Hid (n ≤ N) := Lib.hid (by omega)
      clear hak2
      go_wp2_with (refine wpList_load_cell rfl 22 (.tmp 7) rfl rfl (HX.out.cell (i := 1) (j := 0) rfl rfl) (fun w => Try.isAgg22 w) ?_)
      go_ret
      exact ⟨none, 0, 0, rfl, (HX.out.erase 0).erase 0, by rw [fromE_all (by rw [HLL.out, ← HN.out]; exact HAN.out)]; exact HT.out.lnil⟩
    have hda : decide ((a : Int) < (n : Int)) = true := decide_eq_true (by omega)
    obtain ⟨mg, mcap, hv, _⟩ := own_form (HX.out.rowm (.tail _ (.tail _ HT.out.row))) (show 0 < n by omega)
    injection hv with hv _ hcp
    subst hv
    subst hcp
    obtain ⟨q, hq⟩ : ∃ q, rs[a]? = some q := ⟨_, List.getElem?_eq_getElem (by have := HRL.out; omega)⟩
    have HQ := Lib.hid hq
    have HQE : Hid (∀ z, OW w os z → q.En z) := Lib.hid (HRE.out q (List.mem_of_getElem? hq))
    have HMA : Hid (L[a]? = some q.e) := Lib.hid (by rw [← HT.out.e, List.getElem?_map, hq]; rfl)
    obtain ⟨cv, hcv⟩ : ∃ z, z = cmpE q.e r.e := ⟨_, rfl⟩
    have HCV := Lib.hid hcv.symm
    have HIF : Hid (cv < 0 ↔ a < N) := Lib.hid (by
      have h := tw_iff (p := fun x => decide (cmpE x r.e < 0)) HMA.out (by have := HN.out; unfold insN at this; omega)
      rw [hcv, HN.out]
      simpa [insN] using h)
    have j1 : (0 : Int) ≤ (a : Int) := by omega
    have j2 : (a : Int) < (n : Int) := by omega
    clear hq hcv
    by_cases haN2 : a < N
    case pos =>
      have hcv0 : cv < 0 := HIF.out.2 haN2
      have hdc : decide (cv ≥ 0) = false := decide_eq_false (by omega)
      have hdc2 : decide ((0 : Int) ≤ cv) = false := decide_eq_false (by omega)
      go_wp2_with (refine wpList_load_cell rfl 22 (.tmp 7) rfl rfl (HX.out.cell (i := 1) (j := 0) rfl rfl) (fun w => Try.isAgg22 w) ?_)
      refine lt_start [] (by kernel_rfl) ?_
      intro xd hd
      refine ⟨fun z => OW w (boxO be [.slice r.A r.e.row.length r.c, .int .i64 r.e.fam, .slice r.B r.e.qual.length r.d, .int .i64 r.e.ts, .int .i64 r.e.seq, .int .i64 r.e.kind, .slice r.D r.e.val.length r.q] :: boxO bt [.slice (some ⟨mg, 0, none⟩) n c, .bool fr] :: os) z, ?_⟩
      have HS := Lib.hid (HX.out.later hd)
      refine lt_pure 0 rfl (by kernel_rfl) (by kernel_rfl) (by kernel_rfl) (by kernel_rfl) (fun _ _ _ h => h) (v := ?_) (yi_run rfl (fun w => ?_)) (fun _ => HS.out) ?_
      rotate_left
      · first | (go_simp; done) | (go_simp; with_reducible rfl)
      simp only [Act.put, List.setIfInBounds_toArray, List.set_cons_zero, List.set_cons_succ]
      refine lt_take 1 [3, 4, 6, 7] rfl (by kernel_rfl) (by kernel_rfl) (by kernel_rfl) (by kernel_rfl) (by kernel_rfl) (fun _ _ _ h => h) (yi_cell rfl rfl rfl (fun w hS => OW.cell hS (i := 1) (j := 0) rfl rfl) (fun w => Try.isAgg22 w)) HS.out ?_
      simp only [Act.put, List.setIfInBounds_toArray, List.set_cons_zero, List.set_cons_succ]
      refine lt_pure 2 rfl (by kernel_rfl) (by kernel_rfl) (by kernel_rfl) (by kernel_rfl) (fun _ _ _ h => h) (v := ?_) (yi_run rfl (fun w => ?_)) (fun _ => HS.out) ?_
      rotate_left
      · first | (go_simp; done) | (go_simp; with_reducible rfl)
      simp only [Act.put, List.setIfInBounds_toArray, List.set_cons_zero, List.set_cons_succ]
      refine lt_pure 3 rfl (by kernel_rfl) (by kernel_rfl) (by kernel_rfl) (by kernel_rfl) (fun _ _ _ h => h) (v := ?_) (yi_run rfl (fun w => ?_)) (fun _ => HS.out) ?_
      rotate_left
      · first | (go_simp; done) | (go_simp; with_reducible rfl)
      simp only [Act.put, List.setIfInBounds_toArray, List.set_cons_zero, List.set_cons_succ]
      refine lt_take 4 [6, 7] rfl (by kernel_rfl) (by kernel_rfl) (by kernel_rfl) (by kernel_rfl) (by kernel_rfl) (fun _ _ _ h => h) (yi_rowO rfl rfl rfl (fun w hS => rowRangeM hS (.tail _ (.tail _ HT.out.row)) HQ.out) ent_row8) HS.out ?_
      simp only [Act.put, List.setIfInBounds_toArray, List.set_cons_zero, List.set_cons_succ]
      refine lt_take 5 [6, 7] rfl (by kernel_rfl) (by kernel_rfl) (by kernel_rfl) (by kernel_rfl) (by kernel_rfl) (fun _ _ _ h => h) (yi_row rfl rfl rfl (fun w hS => OW.range hS (i := 0) rfl) ent_row8) HS.out ?_
      simp only [Act.put, List.setIfInBounds_toArray, List.set_cons_zero, List.set_cons_succ]
      refine lt_call 6 rfl (by kernel_rfl) rfl rfl ⟨_, Try.func24, by decide, by kernel_rfl⟩ [.agg #[.slice q.A q.e.row.length q.c, .int .i64 q.e.fam, .slice q.B q.e.qual.length q.d, .int .i64 q.e.ts, .int .i64 q.e.seq, .int .i64 q.e.kind, .slice q.D q.e.val.length q.q], .agg #[.slice r.A r.e.row.length r.c, .int .i64 r.e.fam, .slice r.B r.e.qual.length r.d, .int .i64 r.e.ts, .int .i64 r.e.seq, .int .i64 r.e.kind, .slice r.D r.e.val.length r.q]] rfl ?_
      refine (rCompareQ q r _ (HQE.out _ ((HS.out.erase 0).erase 0)) (HR.out _ ((HS.out.erase 0).erase 0))).mono ?_
      rw [HCV.out]
      rintro rr z9 ⟨rfl, hb⟩
      replace HS := Lib.hid (HS.out.later hb)
      clear hb
      refine ⟨_, rfl, fun _ => HS.out, ?_⟩
      simp only [Act.put, List.setIfInBounds_toArray, List.set_cons_zero, List.set_cons_succ]
      refine lt_pure 7 rfl (by kernel_rfl) (by kernel_rfl) (by kernel_rfl) (by kernel_rfl) (fun _ _ _ h => h) (v := ?_) (yi_run rfl (fun w => ?_)) (fun _ => HS.out) ?_
      rotate_left
      · first | (go_simp; done) | (go_simp; with_reducible rfl)
      simp only [Act.put, List.setIfInBounds_toArray, List.set_cons_zero, List.set_cons_succ]
      refine lt_done (by kernel_rfl) ?_
      replace HX := Lib.hid HS.out
      clear HS
      go_wp2_with fail
      go_roundw
      case rel => exact ⟨a + 1, by omega, by go_num, HX⟩
      case measure => simp [intOf]; omega
    have hcv0 : ¬ cv < 0 := fun h => haN2 (HIF.out.1 h)
    have hdc : decide (cv ≥ 0) = true := decide_eq_true (by omega)
    have hdc2 : decide ((0 : Int) ≤ cv) = true := decide_eq_true (by omega)
    have HAN : Hid (a = N) := Lib.hid (by omega)
    go_wp2_with (refine wpList_load_cell rfl 22 (.tmp 7) rfl rfl (HX.out.cell (i := 1) (j := 0) rfl rfl) (fun w => Try.isAgg22 w) ?_)
    refine lt_start [] (by kernel_rfl) ?_
    intro xd hd
    refine ⟨fun z => OW w (boxO be [.slice r.A r.e.row.length r.c, .int .i64 r.e.fam, .slice r.B r.e.qual.length r.d, .int .i64 r.e.ts, .int .i64 r.e.seq, .int .i64 r.e.kind, .slice r.D r.e.val.length r.q] :: boxO bt [.slice (some ⟨mg, 0, none⟩) n c, .bool fr] :: os) z, ?_⟩
    have HS := Lib.hid (HX.out.later hd)
    refine lt_pure 0 rfl (by kernel_rfl) (by kernel_rfl) (by kernel_rfl) (by kernel_rfl) (fun _ _ _ h => h) (v := ?_) (yi_run rfl (fun w => ?_)) (fun _ => HS.out) ?_
    rotate_left
    · first | (go_simp; done) | (go_simp; with_reducible rfl)
    simp only [Act.put, List.setIfInBounds_toArray, List.set_cons_zero, List.set_cons_succ]
    refine lt_take 1 [3, 4, 6, 7] rfl (by kernel_rfl) (by kernel_rfl) (by kernel_rfl) (by kernel_rfl) (by kernel_rfl) (fun _ _ _ h => h) (yi_cell rfl rfl rfl (fun w hS => OW.cell hS (i := 1) (j := 0) rfl rfl) (fun w => Try.isAgg22 w)) HS.out ?_
    simp only [Act.put, List.setIfInBounds_toArray, List.set_cons_zero, List.set_cons_succ]
    refine lt_pure 2 rfl (by kernel_rfl) (by kernel_rfl) (by kernel_rfl) (by kernel_rfl) (fun _ _ _ h => h) (v := ?_) (yi_run rfl (fun w => ?_)) (fun _ => HS.out) ?_
    rotate_left
    · first | (go_simp; done) | (go_simp; with_reducible rfl)
    simp only [Act.put, List.setIfInBounds_toArray, List.set_cons_zero, List.set_cons_succ]
    refine lt_pure 3 rfl (by kernel_rfl) (by kernel_rfl) (by kernel_rfl) (by kernel_rfl) (fun _ _ _ h => h) (v := ?_) (yi_run rfl (fun w => ?_)) (fun _ => HS.out) ?_
    rotate_left
    · first | (go_simp; done) | (go_simp; with_reducible rfl)
    simp only [Act.put, List.setIfInBounds_toArray, List.set_cons_zero, List.set_cons_succ]
    refine lt_take 4 [6, 7] rfl (by kernel_rfl) (by kernel_rfl) (by kernel_rfl) (by kernel_rfl) (by kernel_rfl) (fun _ _ _ h => h) (yi_rowO rfl rfl rfl (fun w hS => rowRangeM hS (.tail _ (.tail _ HT.out.row)) HQ.out) ent_row8) HS.out ?_
    simp only [Act.put, List.setIfInBounds_toArray, List.set_cons_zero, List.set_cons_succ]
    refine lt_take 5 [6, 7] rfl (by kernel_rfl) (by kernel_rfl) (by kernel_rfl) (by kernel_rfl) (by kernel_rfl) (fun _ _ _ h => h) (yi_row rfl rfl rfl (fun w hS => OW.range hS (i := 0) rfl) ent_row8) HS.out ?_
    simp only [Act.put, List.setIfInBounds_toArray, List.set_cons_zero, List.set_cons_succ]
    refine lt_call 6 rfl (by kernel_rfl) rfl rfl ⟨_, Try.func24, by decide, by kernel_rfl⟩ [.agg #[.slice q.A q.e.row.length q.c, .int .i64 q.e.fam, .slice q.B q.e.qual.length q.d, .int .i64 q.e.ts, .int .i64 q.e.seq, .int .i64 q.e.kind, .slice q.D q.e.val.length q.q], .agg #[.slice r.A r.e.row.length r.c, .int .i64 r.e.fam, .slice r.B r.e.qual.length r.d, .int .i64 r.e.ts, .int .i64 r.e.seq, .int .i64 r.e.kind, .slice r.D r.e.val.length r.q]] rfl ?_
    refine (rCompareQ q r _ (HQE.out _ ((HS.out.erase 0).erase 0)) (HR.out _ ((HS.out.erase 0).erase 0))).mono ?_
    rw [HCV.out]
    rintro rr z9 ⟨rfl, hb⟩
    replace HS := Lib.hid (HS.out.later hb)
    clear hb
    refine ⟨_, rfl, fun _ => HS.out, ?_⟩
    simp only [Act.put, List.setIfInBounds_toArray, List.set_cons_zero, List.set_cons_succ]
    refine lt_pure 7 rfl (by kernel_rfl) (by kernel_rfl) (by kernel_rfl) (by kernel_rfl) (fun _ _ _ h => h) (v := ?_) (yi_run rfl (fun w => ?_)) (fun _ => HS.out) ?_
    rotate_left
    · first | (go_simp; done) | (go_simp; with_reducible rfl)
    simp only [Act.put, List.setIfInBounds_toArray, List.set_cons_zero, List.set_cons_succ]
    refine lt_done (by kernel_rfl) ?_
    replace HX := Lib.hid HS.out
    clear HS
    go_wp2_with (refine wpList_load_cell rfl 22 (.tmp 21) rfl rfl (HX.out.cell (i := 1) (j := 0) rfl rfl) (fun w => Try.isAgg22 w) ?_)
    go_ret
    refine ⟨_, n - a, c - a, rfl, (HX.out.erase 0).erase 0, ?_⟩
    have h := HT.out.drop hak
    unfold fromE
    rw [← HN.out, ← HAN.out]
    exact h
set_option maxRecDepth 100000 in
set_option maxHeartbeats 4000000 in
theorem sameList_yes {w : World} {A B : Option Addr} {n c d : Nat} {L : List Ent} (ha : Ens w A n L) (hb : Ens w B n L) (hn : n ≤ 1000000) :
    Calls Try.prog 19 #[.slice A n c, .slice B n d] w fun e z => e = .returned (.bool true) ∧ Below w.heap.size w z := by
  have HA : Hid (∀ z, Below w.heap.size w z → Ens z A n L) := Lib.hid fun z hz => ha.later hz
  have HB : Hid (∀ z, Below w.heap.size w z → Ens z B n L) := Lib.hid fun z hz => hb.later hz
  have HX := Lib.hid (OW.nil w)
  clear ha hb
  have d0 : ((n : Int) != (n : Int)) = false := bne_eq_false_iff_eq.2 rfl
  go_enter Try.func19, Try.ntmps19
  go_wp2_with fail
  go_loopw [5] (fun iv wr => ∃ a : Nat, a ≤ n ∧ iv = .int .i64 a ∧ Hid (OW w [] wr)) (fun iv _ => n - (intOf iv).toNat)
  case atStart => exact ⟨0, Nat.zero_le _, rfl, HX⟩
  case round =>
    clear HX
    obtain ⟨a, han, rfl, HX⟩ := hrel
    by_cases hak : a < n
    case neg =>
      have hak2 : a = n := by omega
      have hda : decide ((a : Int) < (n : Int)) = false := decide_eq_false (by omega)
      clear hak2
      go_wp2_with fail
      go_ret
      exact ⟨rfl, HX.out.up⟩
    have hda : decide ((a : Int) < (n : Int)) = true := decide_eq_true (by omega)
    have j1 : (0 : Int) ≤ (a : Int) := by omega
    have j2 : (a : Int) < (n : Int) := by omega
    obtain ⟨b1, o1, p, rfl, hb1, hp, hrp, hep⟩ := (HA.out w (Below.refl _ _)).er hak
    obtain ⟨b2, o2, q, rfl, hb2, hq, hrq, heq⟩ := (HB.out w (Below.refl _ _)).er hak
    have HRP : Hid (∀ z, Below w.heap.size w z → z.rangeAt b1 (o1 + a * 7) [.slice p.A p.e.row.length p.c, .int .i64 p.e.fam, .slice p.B p.e.qual.length p.d, .int .i64 p.e.ts, .int .i64 p.e.seq, .int .i64 p.e.kind, .slice p.D p.e.val.length p.q]) := Lib.hid fun z hz j v hj => (hz.cell (p := ⟨b1, _, none⟩) hb1).trans (hrp j v hj)
    have HRQ : Hid (∀ z, Below w.heap.size w z → z.rangeAt b2 (o2 + a * 7) [.slice q.A q.e.row.length q.c, .int .i64 q.e.fam, .slice q.B q.e.qual.length q.d, .int .i64 q.e.ts, .int .i64 q.e.seq, .int .i64 q.e.kind, .slice q.D q.e.val.length q.q]) := Lib.hid fun z hz j v hj => (hz.cell (p := ⟨b2, _, none⟩) hb2).trans (hrq j v hj)
    have HPN : Hid (∀ z, Below w.heap.size w z → p.En z) := Lib.hid fun z hz => hep.later hz
    have HQN : Hid (∀ z, Below w.heap.size w z → q.En z) := Lib.hid fun z hz => heq.later hz
    have HPQ : Hid (p.e = q.e) := Lib.hid (by rw [hp] at hq; injection hq)
    clear hb1 hp hrp hep hb2 hq hrq heq
    go_wp2_with fail
    refine lt_start [] (by kernel_rfl) ?_
    intro xd hd
    refine ⟨fun z => OW w [] z, ?_⟩
    have HS := Lib.hid (HX.out.later hd)
    refine lt_pure 0 rfl (by kernel_rfl) (by kernel_rfl) (by kernel_rfl) (by kernel_rfl) (fun _ _ _ h => h) (v := ?_) (yi_run rfl (fun w => ?_)) (fun _ => HS.out) ?_
    rotate_left
    · first | (go_simp; done) | (go_simp; with_reducible rfl)
    simp only [Act.put, List.setIfInBounds_toArray, List.set_cons_zero, List.set_cons_succ]
    refine lt_pure 1 rfl (by kernel_rfl) (by kernel_rfl) (by kernel_rfl) (by kernel_rfl) (fun _ _ _ h => h) (v := ?_) (yi_run rfl (fun w => ?_)) (fun _ => HS.out) ?_
    rotate_left
    · first | (go_simp; done) | (go_simp; with_reducible rfl)
    simp only [Act.put, List.setIfInBounds_toArray, List.set_cons_zero, List.set_cons_succ]
    refine lt_pure 2 rfl (by kernel_rfl) (by kernel_rfl) (by kernel_rfl) (by kernel_rfl) (fun _ _ _ h => h) (v := ?_) (yi_run rfl (fun w => ?_)) (fun _ => HS.out) ?_
    rotate_left
    · first | (go_simp; done) | (go_simp; with_reducible rfl)
    simp only [Act.put, List.setIfInBounds_toArray, List.set_cons_zero, List.set_cons_succ]
    refine lt_take 3 [8, 9] rfl (by kernel_rfl) (by kernel_rfl) (by kernel_rfl) (by kernel_rfl) (by kernel_rfl) (fun _ _ _ h => h) (yi_rowO rfl rfl rfl (fun w hS => HRP.out w (OW.up hS)) ent_row8) HS.out ?_
    simp only [Act.put, List.setIfInBounds_toArray, List.set_cons_zero, List.set_cons_succ]
    refine lt_pure 4 rfl (by kernel_rfl) (by kernel_rfl) (by kernel_rfl) (by kernel_rfl) (fun _ _ _ h => h) (v := ?_) (yi_run rfl (fun w => ?_)) (fun _ => HS.out) ?_
    rotate_left
    · first | (go_simp; done) | (go_simp; with_reducible rfl)
    simp only [Act.put, List.setIfInBounds_toArray, List.set_cons_zero, List.set_cons_succ]
    refine lt_pure 5 rfl (by kernel_rfl) (by kernel_rfl) (by kernel_rfl) (by kernel_rfl) (fun _ _ _ h => h) (v := ?_) (yi_run rfl (fun w => ?_)) (fun _ => HS.out) ?_
    rotate_left
    · first | (go_simp; done) | (go_simp; with_reducible rfl)
    simp only [Act.put, List.setIfInBounds_toArray, List.set_cons_zero, List.set_cons_succ]
    refine lt_pure 6 rfl (by kernel_rfl) (by kernel_rfl) (by kernel_rfl) (by kernel_rfl) (fun _ _ _ h => h) (v := ?_) (yi_run rfl (fun w => ?_)) (fun _ => HS.out) ?_
    rotate_left
    · first | (go_simp; done) | (go_simp; with_reducible rfl)
    simp only [Act.put, List.setIfInBounds_toArray, List.set_cons_zero, List.set_cons_succ]
    refine lt_take 7 [8, 9] rfl (by kernel_rfl) (by kernel_rfl) (by kernel_rfl) (by kernel_rfl) (by kernel_rfl) (fun _ _ _ h => h) (yi_rowO rfl rfl rfl (fun w hS => HRQ.out w (OW.up hS)) ent_row8) HS.out ?_
    simp only [Act.put, List.setIfInBounds_toArray, List.set_cons_zero, List.set_cons_succ]
    refine lt_call 8 rfl (by kernel_rfl) rfl rfl ⟨_, Try.func13, by decide, by kernel_rfl⟩ [.agg #[.slice p.A p.e.row.length p.c, .int .i64 p.e.fam, .slice p.B p.e.qual.length p.d, .int .i64 p.e.ts, .int .i64 p.e.seq, .int .i64 p.e.kind, .slice p.D p.e.val.length p.q], .agg #[.slice q.A q.e.row.length q.c, .int .i64 q.e.fam, .slice q.B q.e.qual.length q.d, .int .i64 q.e.ts, .int .i64 q.e.seq, .int .i64 q.e.kind, .slice q.D q.e.val.length q.q]] rfl ?_
    refine (sameEntry_yes p q _ HPQ.out (HPN.out _ HS.out.up) (HQN.out _ HS.out.up)).mono ?_
    rintro e y3 ⟨rfl, hb⟩
    replace HS := Lib.hid (HS.out.later hb)
    clear hb
    refine ⟨_, rfl, fun _ => HS.out, ?_⟩
    simp only [Act.put, List.setIfInBounds_toArray, List.set_cons_zero, List.set_cons_succ]
    refine lt_pure 9 rfl (by kernel_rfl) (by kernel_rfl) (by kernel_rfl) (by kernel_rfl) (fun _ _ _ h => h) (v := ?_) (yi_run rfl (fun w => ?_)) (fun _ => HS.out) ?_
    rotate_left
    · first | (go_simp; done) | (go_simp; with_reducible rfl)
    simp only [Act.put, List.setIfInBounds_toArray, List.set_cons_zero, List.set_cons_succ]
    refine lt_done (by kernel_rfl) ?_
    replace HX := Lib.hid HS.out
    clear HS
    go_wp2_with fail
    go_roundw
    case rel => exact ⟨a + 1, by omega, by go_num, HX⟩
    case measure => simp [intOf]; omega
end Go.Proofs.Ytdaoinhkagmbdaa
namespace Go.Proofs.Ytdaoinhkagmbdaa
open Go.RowKit
theorem wpList_toB (N : Nat) {Q : Exit → Act → World → Prop} {ops : Array Oper} {rest : List Oper} {o : Oper} {a : Act} {w : World} (hgd : Region.wanted o (yielded ops a.tmps) = true) (x : Operand) (ho : o.op = .slice 28 x none (some (.const (.int .i64 (N : Nat)))) none) {A : Option Addr} {n c : Nat} (hx : a.eval x = .slice A n c) (hc : N ≤ c)
    (hK : wpList Try.prog ops Q rest (a.put o.dst (.slice A N c)) w) : wpList Try.prog ops Q (o :: rest) a w :=
  BigFrame.wpList_want hgd fun _ hk => by
    have hrun : (execOp a.eval o).run Try.prog w = .ok (.value (.slice A N c)) w := by
      obtain ⟨dst, op, type, pos, after, guard⟩ := o
      simp only at ho
      subst ho
      have hcI : (N : Int) ≤ (c : Int) := by omega
      have hel : Try.prog.underlying 28 = some (.slice (Try.prog.elem 28)) := by kernel_rfl
      have h1 := run_slice_h (P := Try.prog) (w := w) 28 A n c hel .i64 (N : Nat) (by omega) hcI
      have hz : ((sizeOf (Try.prog.elem 28)).run Try.prog w) = .ok 1 w := by kernel_rfl
      rw [hz] at h1
      have h2 := run_sliceAt_slice (P := Try.prog) (w := w) 28 (.slice A n c) none (some (.int .i64 (N : Nat))) none hel
      rw [h1] at h2
      have h3 : sliced A 0 (Int.toNat (N : Int)) c 1 = .slice A N c := by
        unfold sliced
        simp [Addr.add]
      simp only [Result.andThen, h3] at h2
      show ((Instr.sliceAt 28 (a.eval x) none (some (.int .i64 (N : Nat))) none) >>= fun v => pure (Next.value v)).run Try.prog w = _
      rw [hx]
      simp only [Sem.run_bind, h2, Result.andThen]
      rfl
    unfold Oper.wp
    rw [hrun, Oper.upon_value]
    exact hk _ _ hK
set_option maxRecDepth 100000 in
set_option maxHeartbeats 2000000 in
theorem laid8_any (l : List UInt8) (A : Option Addr) (n0 c0 n : Nat) (w : World) (hs0 : Sl w A n0 c0 l) (hn0 : min n0 5000 = n) :
    Calls Try.prog 45 #[.slice A n0 c0] w fun r z => ∃ A' c', r = .returned (.slice A' n c') ∧ OW w [bytO 5 (A', c', l.take 5000 ++ mkL 70)] z := by
  have hs := sl_cut hs0
  rw [hn0] at hs
  have hcap := hs0.cap
  obtain ⟨l5, hl5⟩ : ∃ z, z = l.take 5000 := ⟨_, rfl⟩
  rw [← hl5] at hs ⊢
  have hn : n ≤ 5000 := by omega
  have HS := Lib.hid hs
  have HL := Lib.hid hs.len
  have HN := Lib.hid ((OW.nil w).nilB 5)
  clear hs0 hs hl5
  go_enter Try.func45, Try.ntmps45
  go_upto_if 7 with fail
  obtain ⟨w4, rfl⟩ : ∃ z : World, z = w := ⟨_, rfl⟩
  go_cut [0] (fun av wx => w4 = wx ∧ av = .slice A n c0)
  case first =>
    by_cases hbig : 5000 < n0
    · have hd : decide ((n0 : Int) > 5000) = true := decide_eq_true (by omega)
      obtain rfl : n = 5000 := by omega
      go_wp2_with (refine wpList_toB 5000 rfl (.tmp 8) rfl rfl (by omega) ?_; simp only [Act.put, List.setIfInBounds_toArray, List.set_cons_zero, List.set_cons_succ])
      go_meet
      exact ⟨rfl, rfl⟩
    · have hd : decide ((n0 : Int) > 5000) = false := decide_eq_false (by omega)
      obtain rfl : n = n0 := by omega
      go_wp2_with fail
      go_meet
      exact ⟨rfl, rfl⟩
  obtain ⟨rfl, rfl⟩ := hcut
  clear hn0
  have tk1 : True := trivial
  go_wp2_with (first
    | (at_builtin; (have _t := tk1); go_must (refine wl_appB rfl (.tmp 10) (.tmp 11) rfl Try.u8s' HN.out 0 (n := 0) rfl rfl rfl _ _ n _ l5 rfl HS.out.rb (by omega) ?_); intro A1 c1 x1 hz; rw [Nat.zero_add]; have HX1 : Hid (OW w4 [bytO 5 (A1, c1, l5)] x1) := Lib.hid hz; clear hz HN tk1 _t)
    | (refine wl_build rfl #[(0, .const (.int .u8 201)), (1, .const (.int .u8 202)), (2, .const (.int .u8 203)), (3, .const (.int .u8 204)), (4, .const (.int .u8 205))] rfl #[.int .u8 201, .int .u8 202, .int .u8 203, .int .u8 204, .int .u8 205] Try.u8s' (.int .u8 0) (by kernel_rfl) (by decide) (by decide) (by decide) rfl (by kernel_rfl) HX1.out ?_; intro g2 x2 hz _; have HX2 := Lib.hid hz.left; have HRB : Hid (RB x2 x2.heap.size (some ⟨g2, 0, none⟩) 5 [201, 202, 203, 204, 205]) := Lib.hid (Reads.own (hz.right.row (i := 0) rfl)); clear hz HX1)
    | (at_builtin; go_must (refine wl_appB rfl (.tmp 13) (.tmp 14) rfl Try.u8s' HX2.out 0 rfl HL.out rfl _ _ 5 _ [201, 202, 203, 204, 205] rfl HRB.out (by omega) ?_); intro A3 c3 x3 hz; have HX3 : Hid (OW w4 [bytO 5 (A3, c3, l5 ++ mkL 0)] x3) := Lib.hid hz; clear hz HX2 HRB))
  go_loopw [3, 4] (fun v i wr => ∃ (j : Nat) (A' : Option Addr) (c' : Nat), j ≤ 70 ∧ i = .int .i64 j ∧ v = .slice A' (n + 5 + j) c' ∧ Hid (OW w4 [bytO 5 (A', c', l5 ++ mkL j)] wr)) (fun _ i _ => 70 - (intOf i).toNat)
  case atStart => exact ⟨0, A3, c3, by omega, rfl, rfl, HX3⟩
  case round =>
    clear HX3
    obtain ⟨j, A4, c4, hj, rfl, rfl, HX⟩ := hrel
    have HLJ : Hid ((l5 ++ mkL j).length = n + 5 + j) := Lib.hid (by rw [List.length_append, HL.out, mkL_len]; omega)
    by_cases hlt : j < 70
    · have hd3 : decide ((j : Int) < 70) = true := decide_eq_true (by omega)
      have HE : Hid (l5 ++ mkL j ++ [206] = l5 ++ mkL (j + 1)) := Lib.hid (by unfold mkL; rw [List.replicate_succ']; simp)
      go_wp2_with (first
        | (refine wl_build rfl #[(0, .const (.int .u8 206))] rfl #[.int .u8 206] Try.u8s' (.int .u8 0) (by kernel_rfl) (by decide) (by decide) (by decide) rfl (by kernel_rfl) HX.out ?_; intro g5 x5 hz _; have HX5 := Lib.hid hz.left; have HRB : Hid (RB x5 x5.heap.size (some ⟨g5, 0, none⟩) 1 [206]) := Lib.hid (Reads.own (hz.right.row (i := 0) rfl)); clear hz HX)
        | (at_builtin; go_must (refine wl_appB rfl (.tmp 20) (.tmp 21) rfl Try.u8s' HX5.out 0 rfl HLJ.out rfl _ _ 1 _ [206] rfl HRB.out (by omega) ?_); intro A6 c6 x6 hz; rw [HE.out] at hz; have HX6 : Hid (OW w4 [bytO 5 (A6, c6, l5 ++ mkL (j + 1))] x6) := Lib.hid hz; clear hz HX5 HRB))
      go_roundw
      case rel => exact ⟨j + 1, A6, c6, by omega, by go_num, rfl, HX6⟩
      case measure => simp [intOf]; omega
    · have hd3 : decide ((j : Int) < 70) = false := decide_eq_false (by omega)
      obtain rfl : j = 70 := by omega
      have h5 : (l5 ++ mkL 70).length ≤ c4 := (HX.out.byt (i := 0) rfl).cap.1
      have h7 : (l5 ++ mkL 70).length = n + 5 + 70 := HLJ.out
      have h5I : (n : Int) ≤ (c4 : Int) := by omega
      have h5N : n ≤ c4 := by omega
      clear hlt h7 h5
      go_wp2_with fail
      go_ret
      exact ⟨A4, c4, rfl, HX.out⟩
set_option maxRecDepth 100000 in
set_option maxHeartbeats 4000000 in
theorem entry5_any (e : Ent) (A : Option Addr) (n c : Nat) (B : Option Addr) (m d : Nat) (D : Option Addr) (v q : Nat) (w : World) (h : En w A n c B m d D v q e) :
    Calls Try.prog 16 #[entV A n c B m d D v q e] w fun r z => ∃ A' B' D' c' d' q', r = .returned (entV A' (cut5 e).row.length c' B' (cut5 e).qual.length d' D' (cut5 e).val.length q' (cut5 e)) ∧ OW w (entO A' B' D' c' d' q' (cut5 e)) z := by
  obtain ⟨e', he'⟩ : ∃ z, z = cut5 e := ⟨_, rfl⟩
  have h1 := cut5_le e
  have HE : Hid (∀ z, Below w.heap.size w z → En z A n c B m d D v q e) := Lib.hid fun z hz => h.later hz
  have HRL : Hid ((min n 5000) = e'.row.length ∧ (min m 5000) = e'.qual.length ∧ (min v 5000) = e'.val.length) := Lib.hid (by
    have e1 := h.row.len
    have e2 := h.qual.len
    have e3 := h.val.len
    subst he'
    unfold cut5
    simp only [List.length_take]
    omega)
  have HF : Hid (e'.fam = e.fam ∧ e'.ts = e.ts ∧ e'.seq = e.seq ∧ e'.kind = e.kind) := Lib.hid (by subst he'; exact ⟨rfl, rfl, rfl, rfl⟩)
  have HC : Hid (e'.row = e.row.take 5000 ∧ e'.qual = e.qual.take 5000 ∧ e'.val = e.val.take 5000) := Lib.hid (by subst he'; exact ⟨rfl, rfl, rfl⟩)
  rw [← he'] at h1 ⊢
  obtain ⟨r1, r2, r3⟩ := h1
  obtain ⟨n1, hn1⟩ : ∃ z, z = min n 5000 := ⟨_, rfl⟩
  obtain ⟨m1, hm1⟩ : ∃ z, z = min m 5000 := ⟨_, rfl⟩
  obtain ⟨v1, hv1⟩ : ∃ z, z = min v 5000 := ⟨_, rfl⟩
  have HN := Lib.hid hn1.symm
  have HM := Lib.hid hm1.symm
  have HV := Lib.hid hv1.symm
  have hn5 : n1 ≤ 5000 := by omega
  have hm5 : m1 ≤ 5000 := by omega
  have hv5 : v1 ≤ 5000 := by omega
  have HX := Lib.hid (OW.nil w)
  clear h he' hn1 hm1 hv1 r1 r2 r3
  unfold entV
  go_enter Try.func16, Try.ntmps16
  go_wp2_with (first
    | (refine wl_box rfl (.tmp 0) rfl [.slice A n c, .int .i64 e.fam, .slice B m d, .int .i64 e.ts, .int .i64 e.seq, .int .i64 e.kind, .slice D v q] rfl HX.out ?_; intro gb x1 hz _; have HX1 := Lib.hid hz; clear hz HX)
    | (refine wl_alloc rfl rfl [.slice none 0 0, .int .i64 0, .slice none 0 0, .int .i64 0, .int .i64 0, .int .i64 0, .slice none 0 0] (.inl (by kernel_rfl)) HX1.out ?_; intro gr x2 hz _; have HX2 : Hid (OW w [boxO gb [.slice A n c, .int .i64 e.fam, .slice B m d, .int .i64 e.ts, .int .i64 e.seq, .int .i64 e.kind, .slice D v q], boxO gr [.slice none 0 0, .int .i64 0, .slice none 0 0, .int .i64 0, .int .i64 0, .int .i64 0, .slice none 0 0]] x2) := Lib.hid hz; have tk1 : True := trivial; clear hz HX1)
    | (refine wpList_load_cell rfl 28 (.tmp 3) rfl rfl (HX2.out.cell (i := 0) (j := 0) rfl rfl) (fun w => Try.isAgg28 w) ?_)
    | (go_at_call 45; (have _t := tk1); go_must (refine (laid8_any e.row A n c _ _ (HE.out _ HX2.out.up).row HN.out).mono ?_); rw [← HC.out.1]; rintro r x3 ⟨A3, c3, rfl, ho⟩; have HX3 := Lib.hid (HX2.out.app ho); clear ho HX2 tk1 _t)
    | (refine wl_put1 rfl (.tmp 6) (.tmp 5) rfl HX3.out 0 rfl 0 rfl (by simp) _ rfl (by kernel_rfl) rfl ?_; intro x4 hz _; have HX4 : Hid (OW w [boxO gb [.slice A3 n1 c3, .int .i64 e.fam, .slice B m d, .int .i64 e.ts, .int .i64 e.seq, .int .i64 e.kind, .slice D v q], boxO gr [.slice none 0 0, .int .i64 0, .slice none 0 0, .int .i64 0, .int .i64 0, .int .i64 0, .slice none 0 0], bytO 5 (A3, c3, e'.row ++ mkL 70)] x4) := Lib.hid hz; have tk2 : True := trivial; clear hz HX3)
    | (refine wpList_load_cell rfl 28 (.tmp 7) rfl rfl (HX4.out.cell (i := 0) (j := 2) rfl rfl) (fun w => Try.isAgg28 w) ?_)
    | (go_at_call 45; (have _t := tk2); go_must (refine (laid8_any e.qual B m d _ _ (HE.out _ HX4.out.up).qual HM.out).mono ?_); rw [← HC.out.2.1]; rintro r x5 ⟨B3, d3, rfl, ho⟩; have HX5 := Lib.hid (HX4.out.app ho); clear ho HX4 tk2 _t)
    | (refine wl_put1 rfl (.tmp 10) (.tmp 9) rfl HX5.out 0 rfl 2 rfl (by simp) _ rfl (by kernel_rfl) rfl ?_; intro x6 hz _; have HX6 : Hid (OW w [boxO gb [.slice A3 n1 c3, .int .i64 e.fam, .slice B3 m1 d3, .int .i64 e.ts, .int .i64 e.seq, .int .i64 e.kind, .slice D v q], boxO gr [.slice none 0 0, .int .i64 0, .slice none 0 0, .int .i64 0, .int .i64 0, .int .i64 0, .slice none 0 0], bytO 5 (A3, c3, e'.row ++ mkL 70), bytO 5 (B3, d3, e'.qual ++ mkL 70)] x6) := Lib.hid hz; have tk3 : True := trivial; clear hz HX5)
    | (refine wpList_load_cell rfl 28 (.tmp 11) rfl rfl (HX6.out.cell (i := 0) (j := 6) rfl rfl) (fun w => Try.isAgg28 w) ?_)
    | (go_at_call 45; (have _t := tk3); go_must (refine (laid8_any e.val D v q _ _ (HE.out _ HX6.out.up).val HV.out).mono ?_); rw [← HC.out.2.2]; rintro r x7 ⟨D3, q3, rfl, ho⟩; have HX7 := Lib.hid (HX6.out.app ho); clear ho HX6 tk3 _t)
    | (refine wl_put1 rfl (.tmp 14) (.tmp 13) rfl HX7.out 0 rfl 6 rfl (by simp) _ rfl (by kernel_rfl) rfl ?_; intro x8 hz _; have HX8 : Hid (OW w [boxO gb [.slice A3 n1 c3, .int .i64 e.fam, .slice B3 m1 d3, .int .i64 e.ts, .int .i64 e.seq, .int .i64 e.kind, .slice D3 v1 q3], boxO gr [.slice none 0 0, .int .i64 0, .slice none 0 0, .int .i64 0, .int .i64 0, .int .i64 0, .slice none 0 0], bytO 5 (A3, c3, e'.row ++ mkL 70), bytO 5 (B3, d3, e'.qual ++ mkL 70), bytO 5 (D3, q3, e'.val ++ mkL 70)] x8) := Lib.hid hz; clear hz HX7)
    | (refine wpList_load_row7 rfl 30 (.tmp 1) rfl rfl (HX8.out.range (i := 0) rfl) ent_rowM ?_)
    | (refine wl_put rfl (.tmp 2) (.tmp 15) rfl HX8.out 1 rfl rfl [.slice A3 n1 c3, .int .i64 e.fam, .slice B3 m1 d3, .int .i64 e.ts, .int .i64 e.seq, .int .i64 e.kind, .slice D3 v1 q3] rfl rfl (by kernel_rfl) (by simp [Value.oneCell']) ?_; intro x9 hz _; have HX9 : Hid (OW w [boxO gb [.slice A3 n1 c3, .int .i64 e.fam, .slice B3 m1 d3, .int .i64 e.ts, .int .i64 e.seq, .int .i64 e.kind, .slice D3 v1 q3], boxO gr [.slice A3 n1 c3, .int .i64 e.fam, .slice B3 m1 d3, .int .i64 e.ts, .int .i64 e.seq, .int .i64 e.kind, .slice D3 v1 q3], bytO 5 (A3, c3, e'.row ++ mkL 70), bytO 5 (B3, d3, e'.qual ++ mkL 70), bytO 5 (D3, q3, e'.val ++ mkL 70)] x9) := Lib.hid hz; clear hz HX8))
  refine bodyPost_ret (results_rowL rfl _ _ gr _ rfl (HX9.out.range (i := 1) rfl) (by kernel_rfl) (by kernel_rfl)) rfl ?_
  refine ⟨A3, B3, D3, c3, d3, q3, ?_, (HX9.out.erase 0).erase 0⟩
  rw [← HRL.out.1, ← HRL.out.2.1, ← HRL.out.2.2, HN.out, HM.out, HV.out, HF.out.1, HF.out.2.1, HF.out.2.2.1, HF.out.2.2.2]
theorem cut5_same {e : Ent} (h : e.row.length ≤ 5000 ∧ e.qual.length ≤ 5000 ∧ e.val.length ≤ 5000) : cut5 e = e := by
  obtain ⟨h1, h2, h3⟩ := h
  unfold cut5
  rw [List.take_of_length_le h1, List.take_of_length_le h2, List.take_of_length_le h3]
def EntP (x : World) (e : Ent) (en : Ending) (z : World) : Prop := ∃ A B D c d q, en = .returned (.agg #[.slice A e.row.length c, .int .i64 e.fam, .slice B e.qual.length d, .int .i64 e.ts, .int .i64 e.seq, .int .i64 e.kind, .slice D e.val.length q]) ∧ OW x (entO A B D c d q e) z
theorem entry8_cut (r : ER) (x : World) (h : r.En x) : Calls Try.prog 16 #[.agg #[.slice r.A r.e.row.length r.c, .int .i64 r.e.fam, .slice r.B r.e.qual.length r.d, .int .i64 r.e.ts, .int .i64 r.e.seq, .int .i64 r.e.kind, .slice r.D r.e.val.length r.q]] x (EntP x (cut5 r.e)) :=
  (entry5_any r.e r.A _ r.c r.B _ r.d r.D _ r.q x h).mono fun _ _ ⟨A, B, D, c, d, q, h1, h2⟩ => ⟨A, B, D, c, d, q, h1, h2⟩
end Go.Proofs.Ytdaoinhkagmbdaa
namespace Go.Proofs.Ytdaoinhkagmbdaa
open Go.RowKit
theorem Try.kssM : SliceOf Try.prog 44 28 1 24 := SliceOf.mk' (z := .slice none 0 0) Try.underlying44 (by kernel_rfl) rfl (by decide)
set_option maxRecDepth 100000 in
set_option maxHeartbeats 1000000 in
theorem same2_any (a b : List UInt8) (A B : Option Addr) (n c m d : Nat) (w : World) (hn : n ≤ 9223372036854775807) (ha : RB w w.heap.size A n a) (hb : RB w w.heap.size B m b) :
    Calls Try.prog 71 #[.slice A n c, .slice B m d] w fun e w' => e = .returned (.bool (a == b)) ∧ Below w.heap.size w w' := by
  have HLA := Lib.hid ha.len
  have HLB := Lib.hid hb.len
  have HA : Hid (∀ w', Below w.heap.size w w' → RB w' w'.heap.size A n a) := Lib.hid fun w' h => ha.later h
  have HB : Hid (∀ w', Below w.heap.size w w' → RB w' w'.heap.size B m b) := Lib.hid fun w' h => hb.later h
  clear ha hb
  by_cases hnm : n = m
  case neg =>
    have HE : Hid ((a == b) = false) := Lib.hid (by rw [beq_eq_false_iff_ne]; intro h; exact hnm (by rw [← HLA.out, ← HLB.out, h]))
    have hd : ((n : Int) != (m : Int)) = true := by rw [bne_iff_ne]; omega
    have hd2 : (n != m) = true := by rw [bne_iff_ne]; omega
    clear hnm
    go_enter Try.func71, Try.ntmps71
    go_wp2
    go_ret
    exact ⟨by rw [HE.out]; rfl, Below.refl _ _⟩
  subst hnm
  go_enter Try.func71, Try.ntmps71
  go_wp2
  go_loopw [5] (fun i wr => ∃ k : Nat, k ≤ n ∧ i = .int .i64 k ∧ Hid (a.take k = b.take k) ∧ Hid (Below w.heap.size w wr)) (fun i _ => n - (intOf i).toNat)
  case atStart => exact ⟨0, Nat.zero_le _, rfl, Lib.hid rfl, Lib.hid (Below.refl _ _)⟩
  case round =>
    obtain ⟨k, hkn, rfl, HT, HW⟩ := hrel
    by_cases hlt : k < n
    case neg =>
      have HE : Hid ((a == b) = true) := Lib.hid (by
        have h := HT.out
        rw [List.take_of_length_le (by have := HLA.out; omega), List.take_of_length_le (by have := HLB.out; omega)] at h
        rw [h]; simp)
      have hd1 : decide ((k : Int) < (n : Int)) = false := decide_eq_false (by omega)
      have hd2 : decide (k < n) = false := decide_eq_false hlt
      go_wp2
      go_ret
      exact ⟨by rw [HE.out]; rfl, HW.out⟩
    have hd1 : decide ((k : Int) < (n : Int)) = true := decide_eq_true (by omega)
    have hd2 : decide (k < n) = true := decide_eq_true hlt
    have hk1 : (k : Int) < (n : Int) := by omega
    obtain ⟨b1, o1, x, rfl, _, hx, _⟩ := (HA.out _ HW.out).at_ hlt
    obtain ⟨b2, o2, y, rfl, _, hy, _⟩ := (HB.out _ HW.out).at_ hlt
    have HX := Lib.hid hx
    have HY := Lib.hid hy
    have c1 := (HA.out _ HW.out).cell HX.out
    have c2 := (HB.out _ HW.out).cell HY.out
    clear hx hy
    by_cases hxy : x = y
    case neg =>
      have HE : Hid ((a == b) = false) := Lib.hid (by
        rw [beq_eq_false_iff_ne]; intro h
        have h1 := HX.out; have h2 := HY.out
        rw [h, h2] at h1; injection h1 with h1; exact hxy h1.symm)
      have e1 : ((x.toNat : Int) != (y.toNat : Int)) = true := by rw [bne_iff_ne]; intro h; exact hxy (UInt8.toNat_inj.1 (by omega))
      have e2 : (x.toNat != y.toNat) = true := by rw [bne_iff_ne]; intro h; exact hxy (UInt8.toNat_inj.1 h)
      have HW2 := Lib.hid (fun k => below_drewN (n := k) HW.out)
      clear hxy
      go_wp2_with fail
      go_quiet (fail)
      have HW3 := Lib.hid (HW2.out nq)
      clear c1 c2
      generalize wr.drewN nq = w3 at *
      go_wp2
      go_ret
      exact ⟨by rw [HE.out]; rfl, HW3.out⟩
    subst hxy
    have HE := Lib.hid (cmp_eq_at HT.out HX.out HY.out)
    have e1 : ((x.toNat : Int) != (x.toNat : Int)) = false := by simp
    have HW2 := Lib.hid (fun k => below_drewN (n := k) HW.out)
    go_wp2_with fail
    go_quiet (fail)
    have HW3 := Lib.hid (HW2.out nq)
    clear c1 c2
    generalize wr.drewN nq = w3 at *
    go_wp2
    go_roundw
    case rel => exact ⟨k + 1, by omega, by go_num, HE, HW3⟩
    case measure => simp [intOf]; omega
set_option maxRecDepth 100000 in
set_option maxHeartbeats 1000000 in
theorem copied2_any (l : List UInt8) (A : Option Addr) (n c : Nat) (w : World) (hn : n ≤ 140737488355000) (hr : RB w w.heap.size A n l) :
    Calls Try.prog 70 #[.slice A n c] w (BytesPost 5 l w) := by
  have HR := Lib.hid hr
  clear hr
  go_enter Try.func70, Try.ntmps70
  go_wp2_with (at_builtin; go_must (refine wpList_append_reads _ rfl (.tmp 4) (.tmp 5) rfl Try.u8s' w.heap.size (.slice none 0 0) 0 [] rfl (own_nil _ _ _ _) _ A n c (u8s l) rfl HR.out (u8s_one _) (by unfold maxLen; omega) (by omega) (Nat.le_refl _) ?_); intro v1 w1 hown1 hg1 hat1; have HB1 := Lib.hid (below_app (Below.refl w.heap.size w) (own_nil _ w.heap.size 5 1) hg1 (Nat.le_refl _) (Nat.le_refl _)); rw [List.nil_append, Nat.zero_add] at hown1; have HO1 := Lib.hid hown1; clear hown1 hg1 hat1)
  go_ret
  exact bytes_post HO1.out HB1.out
set_option maxRecDepth 100000 in
set_option maxHeartbeats 2000000 in
theorem keep_rawM (g : Nat) (lv wv : Value) (n k : Nat) (vs ws : List Value) (os : List Ob) (A : Option Addr) (m c : Nat) (l : List UInt8) (w x : World) (h : OW w (boxO g [lv, wv] :: rowO 28 1 lv n vs :: rowO 28 1 wv k ws :: os) x) (hr : ∀ z, OW w os z → Sl z A m c l) (hl : l.length = m) (hmb : m ≤ 140737488355000) (hn : n ≤ 1000000) (hk : k ≤ 1000000) :
    Calls Try.prog 46 #[.pointer (some ⟨g, 0, none⟩), .slice A m c] x fun e y => e = .returned (.tuple #[]) ∧ ∃ A1 c1 A2 c2 A3 c3, OW w (boxO g [.slice A1 (n + 1) c1, .slice A2 (k + 1) c2] :: rowO 28 1 (.slice A1 (n + 1) c1) (n + 1) (vs ++ [.slice A m c]) :: rowO 28 1 (.slice A2 (k + 1) c2) (k + 1) (ws ++ [.slice A3 m c3]) :: (os ++ [bytO 5 (A3, c3, l)])) y := by
  have HX := Lib.hid h
  have HR0 := Lib.hid hr
  have HL := Lib.hid hl
  obtain ⟨LA, lc, rfl, _⟩ := own_slice (h.row (i := 1) rfl)
  obtain ⟨WA, wc, rfl, _⟩ := own_slice (h.row (i := 2) rfl)
  clear h hr hl
  go_enter Try.func46, Try.ntmps46
  go_wp2_with (first
    | (refine wpList_load_cell rfl 44 (.tmp 7) rfl rfl (HX.out.cell (i := 0) (j := 0) rfl rfl) (fun w => Try.isAgg44 w) ?_)
    | (at_builtin; go_must (refine wl_append rfl (.tmp 8) (.tmp 10) rfl Try.kssM (HX.out.al (.cells #[.slice A m c] 28)) 1 rfl rfl _ (some ⟨x.heap.size, 0, none⟩) 1 1 [.slice A m c] rfl (lit_one8 _ _ _ _ rfl) (by simp [Value.oneCell']) (by unfold maxLen; omega) (by omega) ?_); intro A1 c1 x1 hz _; replace HX := Lib.hid hz; clear hz)
    | (refine wl_put1 rfl (.tmp 13) (.tmp 11) rfl HX.out 0 rfl 0 rfl (by simp) _ rfl (by kernel_rfl) rfl ?_; intro x2 hz _; replace HX := Lib.hid hz; clear hz))
  go_wp2
  refine lt_start [8, 11] (by kernel_rfl) ?_
  intro xd hd
  replace HX := Lib.hid (HX.out.later hd)
  clear hd
  refine ⟨fun z => Below xd.heap.size xd z, ?_⟩
  have HS := Lib.hid (Below.refl xd.heap.size xd)
  refine lt_pure 0 rfl (by kernel_rfl) (by kernel_rfl) (by kernel_rfl) (by kernel_rfl) (fun _ _ _ h => h) (v := ?_) (yi_run rfl (fun w => ?_)) (fun _ => HS.out) ?_
  rotate_left
  · first | (go_simp; done) | (go_simp; with_reducible rfl)
  simp only [Act.put, List.setIfInBounds_toArray, List.set_cons_zero, List.set_cons_succ]
  refine lt_pure 1 rfl (by kernel_rfl) (by kernel_rfl) (by kernel_rfl) (by kernel_rfl) (fun _ _ _ h => h) (v := ?_) (yi_run rfl (fun w => ?_)) (fun _ => HS.out) ?_
  rotate_left
  · first | (go_simp; done) | (go_simp; with_reducible rfl)
  simp only [Act.put, List.setIfInBounds_toArray, List.set_cons_zero, List.set_cons_succ]
  refine lt_pure 2 rfl (by kernel_rfl) (by kernel_rfl) (by kernel_rfl) (by kernel_rfl) (fun _ _ _ h => h) (v := ?_) (yi_run rfl (fun w => ?_)) (fun _ => HS.out) ?_
  rotate_left
  · first | (go_simp; done) | (go_simp; with_reducible rfl)
  simp only [Act.put, List.setIfInBounds_toArray, List.set_cons_zero, List.set_cons_succ]
  refine lt_pure 3 rfl (by kernel_rfl) (by kernel_rfl) (by kernel_rfl) (by kernel_rfl) (fun _ _ _ h => h) (v := ?_) (yi_run rfl (fun w => ?_)) (fun _ => HS.out) ?_
  rotate_left
  · first | (go_simp; done) | (go_simp; with_reducible rfl)
  simp only [Act.put, List.setIfInBounds_toArray, List.set_cons_zero, List.set_cons_succ]
  refine lt_take 4 [8, 9, 10, 11] rfl (by kernel_rfl) (by kernel_rfl) (by kernel_rfl) (by kernel_rfl) (by kernel_rfl) (fun _ _ _ h => h) (yi_cell rfl rfl rfl (fun w hS => (HX.out.later hS).cell (i := 0) (j := 1) rfl rfl) (fun w => Try.isAgg44 w)) HS.out ?_
  simp only [Act.put, List.setIfInBounds_toArray, List.set_cons_zero, List.set_cons_succ]
  refine lt_pure 5 rfl (by kernel_rfl) (by kernel_rfl) (by kernel_rfl) (by kernel_rfl) (fun _ _ _ h => h) (v := ?_) (yi_run rfl (fun w => ?_)) (fun _ => HS.out) ?_
  rotate_left
  · first | (go_simp; done) | (go_simp; with_reducible rfl)
  simp only [Act.put, List.setIfInBounds_toArray, List.set_cons_zero, List.set_cons_succ]
  refine lt_call 6 rfl (by kernel_rfl) rfl rfl ⟨_, Try.func70, by decide, by kernel_rfl⟩ [.slice A m c] rfl ?_
  refine (copied2_any l A m c _ hmb (HR0.out _ (((HX.out.erase 0).erase 0).erase 0)).rb).mono ?_
  rintro e x3 hp
  obtain ⟨A3, c3, rfl, _, ho, hb⟩ := hp.at_ HL.out
  replace HS := Lib.hid hb
  replace HX := Lib.hid (HX.out.app (OW.byt1 hb ho))
  clear hp ho hb
  refine ⟨_, rfl, fun _ => HS.out, ?_⟩
  simp only [Act.put, List.setIfInBounds_toArray, List.set_cons_zero, List.set_cons_succ]
  refine lt_op 7 rfl (by kernel_rfl) rfl ?_
  refine wpo_build rfl #[.slice A3 m c3] Try.kssM (.slice none 0 0) (by kernel_rfl) (by decide) (by decide) (by decide) rfl (by kernel_rfl) HX.out ?_
  intro g4 x4 hz hb
  replace HX := Lib.hid hz.left
  replace HS := Lib.hid (HS.out.trans (hb.mono HS.out.size))
  have HR : Hid (Reads x4 x4.heap.size 1 (some ⟨g4, 0, none⟩) 1 [.slice A3 m c3]) := Lib.hid (Reads.own (hz.right.row (i := 0) rfl))
  clear hz hb
  refine ⟨fun _ => HS.out, ?_⟩
  simp only [Act.put, List.setIfInBounds_toArray, List.set_cons_zero, List.set_cons_succ]
  refine lt_end 8 rfl (by kernel_rfl) rfl (by kernel_rfl) ?_
  refine wpo_append (.tmp 18) (.tmp 21) rfl Try.kssM HX.out 2 rfl rfl _ (some ⟨g4, 0, none⟩) 1 1 [.slice A3 m c3] rfl HR.out (by simp [Value.oneCell']) (by unfold maxLen; omega) (by omega) ?_
  intro A5 c5 x5 hz _
  replace HX := Lib.hid hz
  clear hz HR
  simp only [Act.put, List.setIfInBounds_toArray, List.set_cons_zero, List.set_cons_succ]
  refine lt_pureF 9 rfl (by kernel_rfl) (by kernel_rfl) (by kernel_rfl) (by kernel_rfl) (by kernel_rfl) (fun _ _ _ h => h) (v := ?_) (yi_run rfl (fun w => ?_)) ?_
  rotate_left
  · first | (go_simp; done) | (go_simp; with_reducible rfl)
  simp only [Act.put, List.setIfInBounds_toArray, List.set_cons_zero, List.set_cons_succ]
  refine lt_pureF 10 rfl (by kernel_rfl) (by kernel_rfl) (by kernel_rfl) (by kernel_rfl) (by kernel_rfl) (fun _ _ _ h => h) (v := ?_) (yi_run rfl (fun w => ?_)) ?_
  rotate_left
  · first | (go_simp; done) | (go_simp; with_reducible rfl)
  simp only [Act.put, List.setIfInBounds_toArray, List.set_cons_zero, List.set_cons_succ]
  refine lt_end 11 rfl (by kernel_rfl) rfl (by kernel_rfl) ?_
  refine wpo_put1 rfl HX.out 0 rfl 1 rfl (by simp) _ rfl (by kernel_rfl) rfl ?_
  intro x6 hz _
  replace HX := Lib.hid hz
  clear hz
  simp only [Act.put]
  refine lt_done (by kernel_rfl) ?_
  clear HS
  go_wp2
  go_end0
  exact ⟨rfl, A1, c1, A5, c5, A3, c3, HX.out⟩
def KItem (o : Ob) (v : Value) (l : List UInt8) : Prop := ∃ A n cap, v = .slice A n cap ∧ l.length = n ∧ n ≤ 16777216 ∧ SlB o A n cap ∧ ∀ w x, OW w [o] x → Sl x A n cap l
theorem kitem_clip {A : Option Addr} {l : List UInt8} (hc : CAt A l) (hn : l.length ≤ 16777216) : KItem (clipO A l) (.slice A l.length l.length) l := ⟨A, _, _, rfl, rfl, hn, slB_clip hc (by omega), fun _ _ h => h.clipSlm hc (.head _) rfl (by omega)⟩
structure KMd where
  lv : Value
  wv : Value
  vals : List Value
  ws : List Value
  ks : List Ob
  cs : List Ob
def kmO (g : Nat) (d : KMd) : List Ob := boxO g [d.lv, d.wv] :: rowO 28 1 d.lv d.vals.length d.vals :: rowO 28 1 d.wv d.ws.length d.ws :: (d.ks ++ d.cs)
structure KMok (KS : List (List UInt8)) (d : KMd) : Prop where
  lv : d.vals.length = KS.length
  lw : d.ws.length = KS.length
  lk : d.ks.length = KS.length
  it : ∀ (i : Nat) l, KS[i]? = some l → ∃ o v, d.ks[i]? = some o ∧ d.vals[i]? = some v ∧ KItem o v l
  cp : ∀ (i : Nat) l, KS[i]? = some l → ∃ A c, d.ws[i]? = some (.slice A l.length c) ∧ bytO 5 (A, c, l) ∈ d.cs
def KM (w x : World) (g : Nat) (KS : List (List UInt8)) (os : List Ob) : Prop := ∃ d, KMok KS d ∧ OW w (kmO g d ++ os) x
section
variable {w x y z : World} {g : Nat} {KS : List (List UInt8)} {os us : List Ob} {o : Ob}
theorem KM.up (h : KM w x g KS os) : Below w.heap.size w x := by obtain ⟨d, _, h⟩ := h; exact h.up
theorem KM.later (h : KM w x g KS os) (k : Below x.heap.size x y) : KM w y g KS os := by obtain ⟨d, hd, h⟩ := h; exact ⟨d, hd, h.later k⟩
theorem KM.app (h : KM w x g KS os) (k : OW x us y) : KM w y g KS (os ++ us) := by
  obtain ⟨d, hd, h⟩ := h
  exact ⟨d, hd, by have h2 := h.app k; rw [List.append_assoc] at h2; exact h2⟩
theorem KM.perm (h : KM w x g KS os) (hp : os.Perm us) : KM w x g KS us := by obtain ⟨d, hd, h⟩ := h; exact ⟨d, hd, h.perm (List.Perm.append_left _ hp)⟩
theorem KM.sub (h : KM w x g KS os) (hs : us.Sublist os) : KM w x g KS us := by obtain ⟨d, hd, h⟩ := h; exact ⟨d, hd, h.sub (List.Sublist.append (List.Sublist.refl _) hs)⟩
theorem KM.rest (h : KM w x g KS os) : OW w os x := by obtain ⟨d, _, h⟩ := h; exact h.right
theorem KM.new (h : OW w (os ++ [boxO g [.slice none 0 0, .slice none 0 0]]) y) : KM w y g [] os := by
  refine ⟨⟨.slice none 0 0, .slice none 0 0, [], [], [], []⟩, ⟨rfl, rfl, rfl, fun i l h => (by cases h), fun i l h => (by cases h)⟩, ?_⟩
  have h1 := (h.nilRow 28 1).nilRow 28 1
  exact h1.perm (by
    show ((os ++ [_]) ++ [rowO 28 1 (.slice none 0 0) 0 []] ++ [rowO 28 1 (.slice none 0 0) 0 []]).Perm (_ :: rowO 28 1 (.slice none 0 0) 0 [] :: rowO 28 1 (.slice none 0 0) 0 [] :: os)
    (refine perm_of_cnt fun a => ?_; (first | ((repeat (first | rw [cntO_app] | rw [cntO_cons] | rw [cntO_nil])) <;> omega) | ((simp only [cntO_app, cntO_cons, cntO_nil]) <;> omega))))
theorem KMok.snoc {d : KMd} {v : Value} {l : List UInt8} {lv' wv' : Value} {A : Option Addr} {c : Nat} (h : KMok KS d) (hk : KItem o v l) : KMok (KS ++ [l]) ⟨lv', wv', d.vals ++ [v], d.ws ++ [.slice A l.length c], d.ks ++ [o], d.cs ++ [bytO 5 (A, c, l)]⟩ := by
  have h1 := h.lv
  have h2 := h.lw
  have h3 := h.lk
  refine ⟨by simp [h1], by simp [h2], by simp [h3], fun i l' hi => ?_, fun i l' hi => ?_⟩
  · by_cases hlt : i < KS.length
    · rw [List.getElem?_append_left hlt] at hi
      obtain ⟨o', v', a, b, c⟩ := h.it i l' hi
      exact ⟨o', v', by show (d.ks ++ [o])[i]? = _; rw [List.getElem?_append_left (by omega)]; exact a, by show (d.vals ++ [v])[i]? = _; rw [List.getElem?_append_left (by omega)]; exact b, c⟩
    · have hi' := (List.getElem?_eq_some_iff.1 hi).1
      simp at hi'
      obtain rfl : i = KS.length := by omega
      rw [List.getElem?_append_right (Nat.le_refl _), Nat.sub_self] at hi
      injection hi with hi
      subst hi
      exact ⟨o, v, by show (d.ks ++ [o])[KS.length]? = _; rw [← h3, List.getElem?_append_right (Nat.le_refl _), Nat.sub_self]; rfl, by show (d.vals ++ [v])[KS.length]? = _; rw [← h1, List.getElem?_append_right (Nat.le_refl _), Nat.sub_self]; rfl, hk⟩
  · by_cases hlt : i < KS.length
    · rw [List.getElem?_append_left hlt] at hi
      obtain ⟨A', c', a, b⟩ := h.cp i l' hi
      exact ⟨A', c', by show (d.ws ++ [_])[i]? = _; rw [List.getElem?_append_left (by omega)]; exact a, List.mem_append_left _ b⟩
    · have hi' := (List.getElem?_eq_some_iff.1 hi).1
      simp at hi'
      obtain rfl : i = KS.length := by omega
      rw [List.getElem?_append_right (Nat.le_refl _), Nat.sub_self] at hi
      injection hi with hi
      subst hi
      exact ⟨A, c, by show (d.ws ++ [_])[KS.length]? = _; rw [← h2, List.getElem?_append_right (Nat.le_refl _), Nat.sub_self]; rfl, List.mem_append_right _ (.head _)⟩
theorem permK (ks cs os : List Ob) (o b p q r : Ob) : (p :: q :: r :: (((ks ++ cs) ++ o :: os) ++ [b])).Perm ((p :: q :: r :: ((ks ++ [o]) ++ (cs ++ [b]))) ++ os) := by (refine perm_of_cnt fun a => ?_; (first | ((repeat (first | rw [cntO_app] | rw [cntO_cons] | rw [cntO_nil])) <;> omega) | ((simp only [cntO_app, cntO_cons, cntO_nil]) <;> omega)))
theorem keepM {v : Value} {l : List UInt8} (h : KM w x g KS (o :: os)) (hk : KItem o v l) (hK : KS.length ≤ 1000000) :
    Calls Try.prog 46 #[.pointer (some ⟨g, 0, none⟩), v] x fun e y => e = .returned (.tuple #[]) ∧ KM w y g (KS ++ [l]) os := by
  obtain ⟨⟨lv, wv, vals, ws, ks, cs⟩, hd, ho⟩ := h
  have hk0 := hk
  obtain ⟨A, n, cap, rfl, hl, hn, _, hR⟩ := hk
  have hv : vals.length = KS.length := hd.lv
  have hw : ws.length = KS.length := hd.lw
  have ho : OW w (boxO g [lv, wv] :: rowO 28 1 lv vals.length vals :: rowO 28 1 wv ws.length ws :: ((ks ++ cs) ++ o :: os)) x := ho
  refine (keep_rawM g lv wv vals.length ws.length vals ws ((ks ++ cs) ++ o :: os) A n cap l w x ho (fun z hz => hR w z (hz.sub (List.singleton_sublist.2 (List.mem_append_right _ (.head _))))) hl (by omega) (by omega) (by omega)).mono ?_
  rintro e y ⟨rfl, A1, c1, A2, c2, A3, c3, hy⟩
  subst hl
  refine ⟨rfl, ⟨.slice A1 (vals.length + 1) c1, .slice A2 (ws.length + 1) c2, vals ++ [.slice A l.length cap], ws ++ [.slice A3 l.length c3], ks ++ [o], cs ++ [bytO 5 (A3, c3, l)]⟩, hd.snoc hk0, ?_⟩
  unfold kmO
  show OW w ((boxO g [.slice A1 (vals.length + 1) c1, .slice A2 (ws.length + 1) c2] :: rowO 28 1 (.slice A1 (vals.length + 1) c1) (vals ++ [Value.slice A l.length cap]).length (vals ++ [Value.slice A l.length cap]) :: rowO 28 1 (.slice A2 (ws.length + 1) c2) (ws ++ [Value.slice A3 l.length c3]).length (ws ++ [Value.slice A3 l.length c3]) :: ((ks ++ [o]) ++ (cs ++ [bytO 5 (A3, c3, l)]))) ++ os) y
  rw [show (vals ++ [Value.slice A l.length cap]).length = vals.length + 1 from by simp, show (ws ++ [Value.slice A3 l.length c3]).length = ws.length + 1 from by simp]
  exact hy.perm (permK _ _ _ _ _ _ _ _)
theorem KM.cellm {b j : Nat} {cs : List Value} {v : Value} (h : KM w x g KS os) (hm : boxO b cs ∈ os) (hv : cs[j]? = some v) : x.cell? ⟨b, j, none⟩ = some v := h.rest.cellm hm hv
theorem KM.box {b : Nat} {cs : List Value} (h : KM w x g KS os) (k : ∀ d, KMok KS d → OW w (kmO g d ++ os) x → OW w ((kmO g d ++ os) ++ [boxO b cs]) y) : KM w y g KS (os ++ [boxO b cs]) := by
  obtain ⟨d, hd, h⟩ := h
  exact ⟨d, hd, by have h2 := k d hd h; rw [List.append_assoc] at h2; exact h2⟩
set_option maxRecDepth 100000 in
set_option maxHeartbeats 2000000 in
theorem kentryM {o1 o2 o3 : Ob} (r : ER) (h : KM w x g KS (o1 :: o2 :: o3 :: os)) (h1 : KItem o1 (.slice r.A r.e.row.length r.c) r.e.row) (h2 : KItem o2 (.slice r.B r.e.qual.length r.d) r.e.qual) (h3 : KItem o3 (.slice r.D r.e.val.length r.q) r.e.val) (hK : KS.length ≤ 900000) :
    Calls Try.prog 20 #[.pointer (some ⟨g, 0, none⟩), .agg #[.slice r.A r.e.row.length r.c, .int .i64 r.e.fam, .slice r.B r.e.qual.length r.d, .int .i64 r.e.ts, .int .i64 r.e.seq, .int .i64 r.e.kind, .slice r.D r.e.val.length r.q]] x fun e y => e = .returned (.tuple #[]) ∧ KM w y g (KS ++ [r.e.row, r.e.qual, r.e.val]) os := by
  obtain ⟨d, hd, ho⟩ := h
  have HD := Lib.hid hd
  have HX := Lib.hid ho
  have H1 := Lib.hid h1
  have H2 := Lib.hid h2
  have H3 := Lib.hid h3
  clear h1 h2 h3 hd ho
  have tk1 : True := trivial
  have tk2 : True := trivial
  have tk3 : True := trivial
  go_enter Try.func20, Try.ntmps20
  go_wp2_with (first
    | (refine wl_box rfl (.tmp 1) rfl [.slice r.A r.e.row.length r.c, .int .i64 r.e.fam, .slice r.B r.e.qual.length r.d, .int .i64 r.e.ts, .int .i64 r.e.seq, .int .i64 r.e.kind, .slice r.D r.e.val.length r.q] rfl HX.out ?_; intro gb x1 hz _; have HK1 : Hid (KM w x1 g KS (o1 :: o2 :: o3 :: (os ++ [boxO gb [.slice r.A r.e.row.length r.c, .int .i64 r.e.fam, .slice r.B r.e.qual.length r.d, .int .i64 r.e.ts, .int .i64 r.e.seq, .int .i64 r.e.kind, .slice r.D r.e.val.length r.q]]))) := Lib.hid ⟨d, HD.out, by rw [List.append_assoc] at hz; exact hz⟩; clear hz HX HD)
    | (refine wpList_load_cell rfl 28 (.tmp 5) rfl rfl (HK1.out.cellm (j := 0) (.tail _ (.tail _ (.tail _ (List.mem_append_right _ (.head _))))) rfl) (fun w => Try.isAgg28 w) ?_)
    | (go_at_call 46; (have _t := tk1); go_must (refine (keepM HK1.out H1.out (by omega)).mono ?_); rintro e x2 ⟨rfl, hz⟩; have HK2 := Lib.hid hz; clear hz HK1 tk1 _t)
    | (refine wpList_load_cell rfl 28 (.tmp 9) rfl rfl (HK2.out.cellm (j := 2) (.tail _ (.tail _ (List.mem_append_right _ (.head _)))) rfl) (fun w => Try.isAgg28 w) ?_)
    | (go_at_call 46; (have _t := tk2); go_must (refine (keepM HK2.out H2.out (by simp; omega)).mono ?_); rintro e x3 ⟨rfl, hz⟩; have HK3 := Lib.hid hz; clear hz HK2 tk2 _t)
    | (refine wpList_load_cell rfl 28 (.tmp 13) rfl rfl (HK3.out.cellm (j := 6) (.tail _ (List.mem_append_right _ (.head _))) rfl) (fun w => Try.isAgg28 w) ?_)
    | (go_at_call 46; (have _t := tk3); go_must (refine (keepM HK3.out H3.out (by simp; omega)).mono ?_); rintro e x4 ⟨rfl, hz⟩; have HK4 := Lib.hid hz; clear hz HK3 tk3 _t))
  go_end0
  refine ⟨rfl, ?_⟩
  have h := HK4.out.sub (List.sublist_append_left os _)
  rw [show ((KS ++ [r.e.row]) ++ [r.e.qual]) ++ [r.e.val] = KS ++ [r.e.row, r.e.qual, r.e.val] from by simp] at h
  exact h
theorem KM.read (h : KM w x g KS os) : ∃ (LA WA : Option Addr) (lc wc : Nat), x.cell? ⟨g, 0, none⟩ = some (.slice LA KS.length lc) ∧ x.cell? ⟨g, 1, none⟩ = some (.slice WA KS.length wc) ∧
    ∀ i, i < KS.length → ∃ (lg wg : Nat) (A : Option Addr) (n cap : Nat) (A3 : Option Addr) (c3 : Nat) (l : List UInt8), LA = some ⟨lg, 0, none⟩ ∧ WA = some ⟨wg, 0, none⟩ ∧ n ≤ 16777216 ∧ x.cell? ⟨lg, i, none⟩ = some (.slice A n cap) ∧ x.cell? ⟨wg, i, none⟩ = some (.slice A3 n c3) ∧ Sl x A n cap l ∧ Sl x A3 n c3 l := by
  obtain ⟨⟨lv, wv, vals, ws, ks, cs⟩, hd, ho⟩ := h
  have hv : vals.length = KS.length := hd.lv
  have hw : ws.length = KS.length := hd.lw
  have ho : OW w (boxO g [lv, wv] :: rowO 28 1 lv vals.length vals :: rowO 28 1 wv ws.length ws :: ((ks ++ cs) ++ os)) x := ho
  obtain ⟨LA, lc, rfl, _⟩ := own_slice (ho.row (i := 1) rfl)
  obtain ⟨WA, wc, rfl, _⟩ := own_slice (ho.row (i := 2) rfl)
  refine ⟨LA, WA, lc, wc, by rw [← hv]; exact ho.cell (i := 0) (j := 0) rfl rfl, by rw [← hw]; exact ho.cell (i := 0) (j := 1) rfl rfl, fun i hi => ?_⟩
  obtain ⟨lg, lcap, h1, _⟩ := own_form (ho.row (i := 1) rfl) (show 0 < vals.length by omega)
  obtain ⟨wg, wcap, h2, _⟩ := own_form (ho.row (i := 2) rfl) (show 0 < ws.length by omega)
  injection h1 with h1 _ _
  injection h2 with h2 _ _
  subst h1; subst h2
  obtain ⟨l, hl⟩ : ∃ l, KS[i]? = some l := ⟨_, List.getElem?_eq_getElem hi⟩
  obtain ⟨o, v, k1, k2, A, n, cap, rfl, k3, k4, _, k5⟩ := hd.it i l hl
  obtain ⟨A3, c3, q1, q2⟩ := hd.cp i l hl
  have k1 : ks[i]? = some o := k1
  have k2 : vals[i]? = some (.slice A n cap) := k2
  have q1 : ws[i]? = some (.slice A3 l.length c3) := q1
  have q2 : bytO 5 (A3, c3, l) ∈ cs := q2
  subst k3
  exact ⟨lg, wg, A, l.length, cap, A3, c3, l, rfl, rfl, k4, (World.ownsRow.cellAt (ho.row (i := 1) rfl) i (by omega)).trans k2, (World.ownsRow.cellAt (ho.row (i := 2) rfl) i (by omega)).trans q1,
    k5 w x (ho.sub (List.singleton_sublist.2 (.tail _ (.tail _ (.tail _ (List.mem_append_left _ (List.mem_append_left _ (List.mem_of_getElem? k1)))))))), ho.slm (.tail _ (.tail _ (.tail _ (List.mem_append_left _ (List.mem_append_right _ q2))))) rfl⟩
set_option maxRecDepth 100000 in
set_option maxHeartbeats 4000000 in
theorem untouchedM (h : KM w x g KS os) (hK : KS.length ≤ 1000000) :
    Calls Try.prog 47 #[.pointer (some ⟨g, 0, none⟩)] x fun e y => e = .returned (.bool true) ∧ Below x.heap.size x y := by
  obtain ⟨LA, WA, lc, wc, h0, h1, hi⟩ := h.read
  obtain ⟨n, hn⟩ : ∃ z, z = KS.length := ⟨_, rfl⟩
  rw [← hn] at h0 h1 hi hK
  have L0 := Lib.hid (World.block_lt_of_cell? _ _ h0)
  have HI := Lib.hid hi
  have H0 : Hid (∀ z, Below x.heap.size x z → z.cell? ⟨g, 0, none⟩ = some (.slice LA n lc)) := Lib.hid fun z hz => (hz.cell (p := ⟨g, 0, none⟩) L0.out).trans h0
  have H1 : Hid (∀ z, Below x.heap.size x z → z.cell? ⟨g, 1, none⟩ = some (.slice WA n wc)) := Lib.hid fun z hz => (hz.cell (p := ⟨g, 1, none⟩) L0.out).trans h1
  clear h h0 h1 hi hn
  go_enter Try.func47, Try.ntmps47
  go_wp2_with fail
  go_loopw [3] (fun iv wr => ∃ i : Nat, i ≤ n ∧ iv = .int .i64 i ∧ Hid (Below x.heap.size x wr)) (fun iv _ => n - (intOf iv).toNat)
  case atStart => exact ⟨0, Nat.zero_le _, rfl, Lib.hid (Below.refl _ _)⟩
  case round =>
    obtain ⟨i, hin, rfl, HB⟩ := hrel
    have c0 := H0.out _ HB.out
    by_cases hlt : i < n
    case neg =>
      have hd : decide ((i : Int) < (n : Int)) = false := decide_eq_false (by omega)
      go_wp2_with (refine wpList_load_cell rfl 44 (.tmp 7) rfl rfl c0 (fun w => Try.isAgg44 w) ?_)
      go_ret
      exact ⟨rfl, HB.out⟩
    have hd : decide ((i : Int) < (n : Int)) = true := decide_eq_true (by omega)
    obtain ⟨lg, wg, A, m, cap, A3, c3, l, rfl, rfl, hm, hl, hw, s1, s2⟩ := HI.out i hlt
    have HL : Hid (∀ z, Below x.heap.size x z → z.cell? ⟨lg, i, none⟩ = some (.slice A m cap)) := Lib.hid fun z hz => (hz.cell (p := ⟨lg, i, none⟩) (World.block_lt_of_cell? _ _ hl)).trans hl
    have HW : Hid (∀ z, Below x.heap.size x z → z.cell? ⟨wg, i, none⟩ = some (.slice A3 m c3)) := Lib.hid fun z hz => (hz.cell (p := ⟨wg, i, none⟩) (World.block_lt_of_cell? _ _ hw)).trans hw
    have HS1 : Hid (∀ z, Below x.heap.size x z → Sl z A m cap l) := Lib.hid fun z hz => s1.later hz
    have HS2 : Hid (∀ z, Below x.heap.size x z → Sl z A3 m c3 l) := Lib.hid fun z hz => s2.later hz
    have i0 : (0 : Int) ≤ (i : Int) := by omega
    have i1 : (i : Int) < (n : Int) := by omega
    clear hl hw s1 s2
    go_wp2_with (refine wpList_load_cell rfl 44 (.tmp 7) rfl rfl c0 (fun w => Try.isAgg44 w) ?_)
    clear c0
    refine lt_start [] (by kernel_rfl) ?_
    intro xd hd
    refine ⟨fun z => Below x.heap.size x z, ?_⟩
    have HS := Lib.hid (HB.out.trans (hd.mono HB.out.size))
    refine lt_pure 0 rfl (by kernel_rfl) (by kernel_rfl) (by kernel_rfl) (by kernel_rfl) (fun _ _ _ h => h) (v := ?_) (yi_run rfl (fun w => ?_)) (fun _ => HS.out) ?_
    rotate_left
    · first | (go_simp; done) | (go_simp; with_reducible rfl)
    simp only [Act.put, List.setIfInBounds_toArray, List.set_cons_zero, List.set_cons_succ]
    refine lt_pure 1 rfl (by kernel_rfl) (by kernel_rfl) (by kernel_rfl) (by kernel_rfl) (fun _ _ _ h => h) (v := ?_) (yi_run rfl (fun w => ?_)) (fun _ => HS.out) ?_
    rotate_left
    · first | (go_simp; done) | (go_simp; with_reducible rfl)
    simp only [Act.put, List.setIfInBounds_toArray, List.set_cons_zero, List.set_cons_succ]
    refine lt_pure 2 rfl (by kernel_rfl) (by kernel_rfl) (by kernel_rfl) (by kernel_rfl) (fun _ _ _ h => h) (v := ?_) (yi_run rfl (fun w => ?_)) (fun _ => HS.out) ?_
    rotate_left
    · first | (go_simp; done) | (go_simp; with_reducible rfl)
    simp only [Act.put, List.setIfInBounds_toArray, List.set_cons_zero, List.set_cons_succ]
    refine lt_take 3 [5, 6, 14, 15] rfl (by kernel_rfl) (by kernel_rfl) (by kernel_rfl) (by kernel_rfl) (by kernel_rfl) (fun _ _ _ h => h) (yi_cell rfl rfl rfl (fun w hS => H0.out w hS) (fun w => Try.isAgg44 w)) HS.out ?_
    simp only [Act.put, List.setIfInBounds_toArray, List.set_cons_zero, List.set_cons_succ]
    refine lt_pure 4 rfl (by kernel_rfl) (by kernel_rfl) (by kernel_rfl) (by kernel_rfl) (fun _ _ _ h => h) (v := ?_) (yi_run rfl (fun w => ?_)) (fun _ => HS.out) ?_
    rotate_left
    · first | (go_simp; done) | (go_simp; with_reducible rfl)
    simp only [Act.put, List.setIfInBounds_toArray, List.set_cons_zero, List.set_cons_succ]
    refine lt_pure 5 rfl (by kernel_rfl) (by kernel_rfl) (by kernel_rfl) (by kernel_rfl) (fun _ _ _ h => h) (v := ?_) (yi_run rfl (fun w => ?_)) (fun _ => HS.out) ?_
    rotate_left
    · first | (go_simp; done) | (go_simp; with_reducible rfl)
    simp only [Act.put, List.setIfInBounds_toArray, List.set_cons_zero, List.set_cons_succ]
    refine lt_take 6 [14, 15] rfl (by kernel_rfl) (by kernel_rfl) (by kernel_rfl) (by kernel_rfl) (by kernel_rfl) (fun _ _ _ h => h) (yi_cell rfl rfl rfl (fun w hS => HL.out w hS) (fun w => Try.isAgg28 w)) HS.out ?_
    simp only [Act.put, List.setIfInBounds_toArray, List.set_cons_zero, List.set_cons_succ]
    refine lt_pure 7 rfl (by kernel_rfl) (by kernel_rfl) (by kernel_rfl) (by kernel_rfl) (fun _ _ _ h => h) (v := ?_) (yi_run rfl (fun w => ?_)) (fun _ => HS.out) ?_
    rotate_left
    · first | (go_simp; done) | (go_simp; with_reducible rfl)
    simp only [Act.put, List.setIfInBounds_toArray, List.set_cons_zero, List.set_cons_succ]
    refine lt_pure 8 rfl (by kernel_rfl) (by kernel_rfl) (by kernel_rfl) (by kernel_rfl) (fun _ _ _ h => h) (v := ?_) (yi_run rfl (fun w => ?_)) (fun _ => HS.out) ?_
    rotate_left
    · first | (go_simp; done) | (go_simp; with_reducible rfl)
    simp only [Act.put, List.setIfInBounds_toArray, List.set_cons_zero, List.set_cons_succ]
    refine lt_pure 9 rfl (by kernel_rfl) (by kernel_rfl) (by kernel_rfl) (by kernel_rfl) (fun _ _ _ h => h) (v := ?_) (yi_run rfl (fun w => ?_)) (fun _ => HS.out) ?_
    rotate_left
    · first | (go_simp; done) | (go_simp; with_reducible rfl)
    simp only [Act.put, List.setIfInBounds_toArray, List.set_cons_zero, List.set_cons_succ]
    refine lt_take 10 [12, 13, 14, 15] rfl (by kernel_rfl) (by kernel_rfl) (by kernel_rfl) (by kernel_rfl) (by kernel_rfl) (fun _ _ _ h => h) (yi_cell rfl rfl rfl (fun w hS => H1.out w hS) (fun w => Try.isAgg44 w)) HS.out ?_
    simp only [Act.put, List.setIfInBounds_toArray, List.set_cons_zero, List.set_cons_succ]
    refine lt_pure 11 rfl (by kernel_rfl) (by kernel_rfl) (by kernel_rfl) (by kernel_rfl) (fun _ _ _ h => h) (v := ?_) (yi_run rfl (fun w => ?_)) (fun _ => HS.out) ?_
    rotate_left
    · first | (go_simp; done) | (go_simp; with_reducible rfl)
    simp only [Act.put, List.setIfInBounds_toArray, List.set_cons_zero, List.set_cons_succ]
    refine lt_pure 12 rfl (by kernel_rfl) (by kernel_rfl) (by kernel_rfl) (by kernel_rfl) (fun _ _ _ h => h) (v := ?_) (yi_run rfl (fun w => ?_)) (fun _ => HS.out) ?_
    rotate_left
    · first | (go_simp; done) | (go_simp; with_reducible rfl)
    simp only [Act.put, List.setIfInBounds_toArray, List.set_cons_zero, List.set_cons_succ]
    refine lt_take 13 [14, 15] rfl (by kernel_rfl) (by kernel_rfl) (by kernel_rfl) (by kernel_rfl) (by kernel_rfl) (fun _ _ _ h => h) (yi_cell rfl rfl rfl (fun w hS => HW.out w hS) (fun w => Try.isAgg28 w)) HS.out ?_
    simp only [Act.put, List.setIfInBounds_toArray, List.set_cons_zero, List.set_cons_succ]
    refine lt_call 14 rfl (by kernel_rfl) rfl rfl ⟨_, Try.func71, by decide, by kernel_rfl⟩ [.slice A m cap, .slice A3 m c3] rfl ?_
    refine (same2_any l l _ _ _ _ _ _ _ (by omega) (HS1.out _ HS.out).rb (HS2.out _ HS.out).rb).mono ?_
    rw [beq_self_eq_true]
    rintro e y2 ⟨rfl, hb⟩
    replace HS := Lib.hid (HS.out.trans (hb.mono HS.out.size))
    clear hb
    refine ⟨_, rfl, fun _ => HS.out, ?_⟩
    simp only [Act.put, List.setIfInBounds_toArray, List.set_cons_zero, List.set_cons_succ]
    refine lt_pure 15 rfl (by kernel_rfl) (by kernel_rfl) (by kernel_rfl) (by kernel_rfl) (fun _ _ _ h => h) (v := ?_) (yi_run rfl (fun w => ?_)) (fun _ => HS.out) ?_
    rotate_left
    · first | (go_simp; done) | (go_simp; with_reducible rfl)
    simp only [Act.put, List.setIfInBounds_toArray, List.set_cons_zero, List.set_cons_succ]
    refine lt_done (by kernel_rfl) ?_
    replace HB := Lib.hid HS.out
    clear HS
    go_wp2_with fail
    go_roundw
    case rel => exact ⟨i + 1, by omega, by go_num, HB⟩
    case measure => simp [intOf]; omega
def mkM (i : Nat) : UInt8 := UInt8.ofNat (1 + i % 250)
theorem mkM_v (i : Nat) : u8v (mkM i) = .int .u8 (1 + (i : Int) % 250) := by
  unfold u8v mkM
  rw [UInt8.toNat_ofNat', Nat.mod_eq_of_lt (by omega)]
  rw [show ((1 + i % 250 : Nat) : Int) = 1 + (i : Int) % 250 from by omega]
theorem mkM_n (i : Nat) : ((mkM i).toNat : Int) = 1 + (i : Int) % 250 := by
  have h := mkM_v i
  unfold u8v at h
  injection h with _ h
def MKv (vals : List Value) (ks : List Ob) : Prop := ∀ (i : Nat) v, vals[i]? = some v → ∃ A n cap, v = .slice A n cap ∧ n ≤ 16777300 ∧ Marked ks A n cap (mkM i)
theorem MKv.le {vals : List Value} {ks ks' : List Ob} (h : MKv vals ks) (hk : LeM ks ks') : MKv vals ks' := fun i v hv => by
  obtain ⟨A, n, cap, h1, h2, h3⟩ := h i v hv
  exact ⟨A, n, cap, h1, h2, hk _ _ _ _ h3⟩
theorem MKv.snoc {vals : List Value} {ks : List Ob} {A : Option Addr} {n cap : Nat} (h : MKv vals ks) (hn : n ≤ 16777300) (hm : Marked ks A n cap (mkM vals.length)) : MKv (vals ++ [.slice A n cap]) ks := fun i v hv => by
  by_cases hlt : i < vals.length
  · rw [List.getElem?_append_left hlt] at hv; exact h i v hv
  · have hi' := (List.getElem?_eq_some_iff.1 hv).1
    simp at hi'
    obtain rfl : i = vals.length := by omega
    rw [List.getElem?_append_right (Nat.le_refl _), Nat.sub_self] at hv
    injection hv with hv
    exact ⟨A, n, cap, hv.symm, hn, hm⟩
def KD (w y : World) (g : Nat) (N : Nat) (os : List Ob) : Prop := ∃ lv wv vals ws ks, OW w ((boxO g [lv, wv] :: rowO 28 1 lv N vals :: rowO 28 1 wv N ws :: os) ++ ks) y ∧ vals.length = N ∧ MKv vals ks
theorem KD.later {N : Nat} (h : KD w x g N os) (k : Below x.heap.size x y) : KD w y g N os := by obtain ⟨lv, wv, vals, ws, ks, h1, h2⟩ := h; exact ⟨lv, wv, vals, ws, ks, h1.later k, h2⟩
theorem KD.rest {N : Nat} (h : KD w x g N os) : OW w os x := by
  obtain ⟨lv, wv, vals, ws, ks, h1, h2⟩ := h
  exact ((h1.left.erase 0).erase 0).erase 0
theorem KD.app {N : Nat} (h : KD w x g N os) (k : OW x us y) : KD w y g N (os ++ us) := by
  obtain ⟨lv, wv, vals, ws, ks, h1, h2⟩ := h
  refine ⟨lv, wv, vals, ws, ks, (h1.app k).perm ?_, h2⟩
  rw [List.append_assoc]
  have h3 : (ks ++ us).Perm (us ++ ks) := List.perm_append_comm
  exact (List.Perm.append_left _ h3).trans (by rw [← List.append_assoc]; exact List.Perm.refl _)
def FA (vals : List Value) (pre : List Ob) : Prop := ∀ (j : Nat) v, j < pre.length → vals[j]? = some v → ∃ A n cap, v = .slice A n cap ∧ n ≤ 16777300 ∧ ((A = none ∧ n = 0 ∧ cap = 0) ∨ ∃ gb c, A = some ⟨gb, 0, none⟩ ∧ n ≤ cap ∧ cap ≤ c ∧ pre[j]? = some (fillO gb c n (mkM j)))
theorem FA.nil (vals : List Value) : FA vals [] := fun j _ h => absurd h (Nat.not_lt_zero j)
theorem FA.snoc {vals : List Value} {pre : List Ob} {A : Option Addr} {n cap : Nat} (h : FA vals pre) (hv : vals[pre.length]? = some (.slice A n cap)) (hn : n ≤ 16777300) (ho : (A = none ∧ n = 0 ∧ cap = 0) ∨ ∃ gb c, A = some ⟨gb, 0, none⟩ ∧ n ≤ cap ∧ cap ≤ c ∧ o = fillO gb c n (mkM pre.length)) : FA vals (pre ++ [o]) := fun j v hj hv2 => by
  by_cases hlt : j < pre.length
  · obtain ⟨A', n', cap', h1, h2, h3⟩ := h j v hlt hv2
    refine ⟨A', n', cap', h1, h2, h3.imp id fun ⟨gb, c, a, b, d, e⟩ => ⟨gb, c, a, b, d, by rw [List.getElem?_append_left hlt]; exact e⟩⟩
  · simp at hj
    obtain rfl : j = pre.length := by omega
    rw [hv] at hv2
    injection hv2 with hv2
    refine ⟨A, n, cap, hv2.symm, hn, ho.imp id fun ⟨gb, c, a, b, d, e⟩ => ⟨gb, c, a, b, d, by rw [List.getElem?_append_right (Nat.le_refl _), Nat.sub_self, e]; rfl⟩⟩
theorem FA.mk {vals : List Value} {pre : List Ob} (h : FA vals pre) (hl : vals.length ≤ pre.length) : MKv vals pre := fun i v hv => by
  obtain ⟨A, n, cap, h1, h2, h3⟩ := h i v (Nat.lt_of_lt_of_le (List.getElem?_eq_some_iff.1 hv).1 hl) hv
  refine ⟨A, n, cap, h1, h2, h3.imp id fun ⟨gb, c, a, b, d, e⟩ => ⟨gb, c, n, a, Nat.le_refl _, b, d, List.mem_of_getElem? e⟩⟩
theorem drop_atM {α : Type} {l : List α} {i : Nat} {a : α} (h : l[i]? = some a) : l.drop i = a :: l.drop (i + 1) := by
  obtain ⟨hi, e⟩ := List.getElem?_eq_some_iff.1 h
  rw [List.drop_eq_getElem_cons hi, e]
theorem permS (h : List Ob) (ks cs os : List Ob) : ((h ++ ks) ++ (([] : List Ob) ++ (cs ++ os))).Perm ((h ++ (cs ++ os)) ++ ks) := by (refine perm_of_cnt fun a => ?_; (first | ((repeat (first | rw [cntO_app] | rw [cntO_cons] | rw [cntO_nil])) <;> omega) | ((simp only [cntO_app, cntO_cons, cntO_nil]) <;> omega)))
set_option maxRecDepth 1000000 in
set_option maxHeartbeats 8000000 in
theorem settleM (h : KM w x g KS os) (hK : KS.length ≤ 100000) {N : Nat} (hN : KS.length = N) :
    Calls Try.prog 21 #[.pointer (some ⟨g, 0, none⟩)] x fun e y => e = .returned (.bool true) ∧ KD w y g N os := by
  subst hN
  obtain ⟨n, hn⟩ : ∃ z, z = KS.length := ⟨_, rfl⟩
  have HK0 := Lib.hid h
  have HKL : Hid (KS.length ≤ 1000000) := Lib.hid (by omega)
  rw [← hn] at hK ⊢
  obtain ⟨⟨lv, wv, vals, ws, ks, cs⟩, hd, ho⟩ := h
  have hv : vals.length = KS.length := hd.lv
  have hw : ws.length = KS.length := hd.lw
  have hkl : ks.length = KS.length := hd.lk
  have ho : OW w (boxO g [lv, wv] :: rowO 28 1 lv vals.length vals :: rowO 28 1 wv ws.length ws :: ((ks ++ cs) ++ os)) x := ho
  rw [hv, hw, ← hn] at ho
  obtain ⟨LA, lc, rfl, _⟩ := own_slice (ho.row (i := 1) rfl)
  have HO : Hid (OW w (([boxO g [.slice LA n lc, wv], rowO 28 1 (.slice LA n lc) n vals, rowO 28 1 wv n ws] ++ []) ++ (ks.drop 0 ++ (cs ++ os))) x) := Lib.hid (by
    rw [List.drop_zero]
    show OW w (_ :: _ :: _ :: (ks ++ (cs ++ os))) x
    rw [← List.append_assoc ks]
    exact ho)
  have HIT : Hid (∀ i, i < n → ∃ (A : Option Addr) (m cap : Nat) (o : Ob), vals[i]? = some (.slice A m cap) ∧ ks[i]? = some o ∧ m ≤ 16777216 ∧ SlB o A m cap) := Lib.hid fun i hi => by
    obtain ⟨l, hl⟩ : ∃ l, KS[i]? = some l := ⟨_, List.getElem?_eq_getElem (by omega)⟩
    obtain ⟨o, v, k1, k2, A, m, cap, rfl, k3, k4, k5, _⟩ := hd.it i l hl
    exact ⟨A, m, cap, o, k2, k1, k4, k5⟩
  have HVN : Hid (vals.length = n ∧ ks.length = n) := Lib.hid ⟨by omega, by omega⟩
  have HCL : Hid (∀ (pre X : List Ob) z, OW w (([boxO g [.slice LA n lc, wv], rowO 28 1 (.slice LA n lc) n vals, rowO 28 1 wv n ws] ++ pre) ++ X) z → z.cell? ⟨g, 0, none⟩ = some (.slice LA n lc) ∧ ∀ i v, vals[i]? = some v → ∃ lg, LA = some ⟨lg, 0, none⟩ ∧ z.cell? ⟨lg, i, none⟩ = some v) := Lib.hid fun pre X z hz => by
    have hz : OW w (boxO g [.slice LA n lc, wv] :: rowO 28 1 (.slice LA n lc) n vals :: rowO 28 1 wv n ws :: (pre ++ X)) z := hz
    refine ⟨hz.cell (i := 0) (j := 0) rfl rfl, fun i v hi => ?_⟩
    have hlt := (List.getElem?_eq_some_iff.1 hi).1
    obtain ⟨lg, lcap, h1, _⟩ := own_form (hz.row (i := 1) rfl) (show 0 < n by omega)
    injection h1 with h1 _ _
    subst h1
    exact ⟨lg, rfl, (World.ownsRow.cellAt (hz.row (i := 1) rfl) i (by omega)).trans hi⟩
  clear hd ho hv hw hkl hn
  go_enter Try.func21, Try.ntmps21
  go_wp2_with (go_at_call 47; go_must (refine (untouchedM HK0.out HKL.out).mono ?_); rintro e w1 ⟨rfl, hb⟩; have HO1 := Lib.hid (HO.out.later hb); clear hb HO HK0 HKL)
  go_loopw [3, 4] (fun iv _ wr => ∃ (i : Nat) (pre : List Ob), i ≤ n ∧ iv = .int .i64 i ∧ Hid (pre.length = i) ∧ Hid (FA vals pre) ∧ Hid (OW w (([boxO g [.slice LA n lc, wv], rowO 28 1 (.slice LA n lc) n vals, rowO 28 1 wv n ws] ++ pre) ++ (ks.drop i ++ (cs ++ os))) wr)) (fun iv _ _ => n - (intOf iv).toNat)
  case atStart => exact ⟨0, [], Nat.zero_le _, rfl, Lib.hid rfl, Lib.hid (FA.nil _), HO1⟩
  case round =>
    clear HO1
    obtain ⟨i, pre, hin, rfl, HPL, HFA, HX⟩ := hrel
    have c0 := (HCL.out _ _ _ HX.out).1
    by_cases hlt : i < n
    case neg =>
      have hd : decide ((i : Int) < (n : Int)) = false := decide_eq_false (by omega)
      have HMK : Hid (MKv vals pre) := Lib.hid (HFA.out.mk (by have := HVN.out; have := HPL.out; omega))
      have HY : Hid (OW w ((boxO g [.slice LA n lc, wv] :: rowO 28 1 (.slice LA n lc) n vals :: rowO 28 1 wv n ws :: cs ++ os) ++ pre) wr) := Lib.hid (by
        have h9 := HX.out
        rw [List.drop_of_length_le (by have := HVN.out; omega)] at h9
        exact h9.perm (permS _ _ _ _))
      have HCL2 : Hid (∀ X z, OW w (boxO g [.slice LA n lc, wv] :: rowO 28 1 (.slice LA n lc) n vals :: rowO 28 1 wv n ws :: X) z → z.cell? ⟨g, 0, none⟩ = some (.slice LA n lc) ∧ ∀ i v, vals[i]? = some v → ∃ lg, LA = some ⟨lg, 0, none⟩ ∧ z.cell? ⟨lg, i, none⟩ = some v) := Lib.hid fun X z hz => HCL.out [] X z hz
      clear HFA HX HPL HCL
      go_wp2_with (refine wpList_load_cell rfl 44 (.tmp 18) rfl rfl c0 (fun w => Try.isAgg44 w) ?_)
      have HM0 : Hid (OW w ((rowO 28 1 (.slice none 0 0) 0 [] :: boxO g [.slice LA n lc, wv] :: rowO 28 1 (.slice LA n lc) n vals :: rowO 28 1 wv n ws :: cs ++ os) ++ pre) wr) := Lib.hid ((HY.out.nilRow 28 1).perm (List.perm_append_comm.trans (List.Perm.refl _)))
      clear HY c0 hd
      go_loopw [5, 6, 7, 8] (fun mv_ iv _ _ wr => ∃ (q : Nat) (MA : Option Addr) (mc : Nat) (mv : List Value) (ks5 : List Ob), q ≤ n ∧ iv = .int .i64 q ∧ mv_ = .slice MA q mc ∧ Hid (mv.length = q) ∧ Hid (MKv vals ks5) ∧ Hid (MKv mv ks5) ∧ Hid (OW w ((rowO 28 1 (.slice MA q mc) q mv :: boxO g [.slice LA n lc, wv] :: rowO 28 1 (.slice LA n lc) n vals :: rowO 28 1 wv n ws :: cs ++ os) ++ ks5) wr)) (fun _ iv _ _ _ => n - (intOf iv).toNat)
      case atStart => exact ⟨0, none, 0, [], pre, Nat.zero_le _, rfl, rfl, Lib.hid rfl, HMK, Lib.hid (fun i v h => by cases h), HM0⟩
      case round =>
        clear HM0 HMK
        obtain ⟨q, MA, mc, mv, ks5, hqn, rfl, rfl, HML, HMK, HMM, HX⟩ := hrel
        have c0 := (HCL2.out _ _ (HX.out.erase 0)).1
        by_cases hlt2 : q < n
        case neg =>
          obtain rfl : q = n := by omega
          have hd : decide ((q : Int) < (q : Int)) = false := decide_eq_false (by omega)
          have HC : Hid (∀ i, i < q → ∃ (mg lg : Nat) (A : Option Addr) (L ca : Nat) (A2 : Option Addr) (L2 c2 : Nat), MA = some ⟨mg, 0, none⟩ ∧ LA = some ⟨lg, 0, none⟩ ∧ L ≤ 16777300 ∧ L2 ≤ 16777300 ∧ wr.cell? ⟨lg, i, none⟩ = some (.slice A L ca) ∧ wr.cell? ⟨mg, i, none⟩ = some (.slice A2 L2 c2) ∧ Sl wr A L ca (List.replicate L (mkM i)) ∧ Sl wr A2 L2 c2 (List.replicate L2 (mkM i))) := Lib.hid fun i hi => by
            obtain ⟨v, hv⟩ : ∃ v, vals[i]? = some v := ⟨_, List.getElem?_eq_getElem (by have := HVN.out; omega)⟩
            obtain ⟨v2, hv2⟩ : ∃ v, mv[i]? = some v := ⟨_, List.getElem?_eq_getElem (by have := HML.out; omega)⟩
            obtain ⟨A, L, ca, rfl, h1, h2⟩ := HMK.out i v hv
            obtain ⟨A2, L2, c2, rfl, h3, h4⟩ := HMM.out i v2 hv2
            obtain ⟨lg, e1, k1⟩ := (HCL2.out _ _ (HX.out.erase 0)).2 i _ hv
            have hrow := HX.out.row (i := 0) rfl
            obtain ⟨mg, mcap, e2, _⟩ := own_form hrow (show 0 < q by omega)
            injection e2 with e2 _ _
            subst e2
            exact ⟨mg, lg, A, L, ca, A2, L2, c2, rfl, e1, h1, h3, k1, (World.ownsRow.cellAt hrow i (by omega)).trans hv2, HX.out.marked ((LeM.sub fun _ ho => List.mem_append_right _ ho) _ _ _ _ h2), HX.out.marked ((LeM.sub fun _ ho => List.mem_append_right _ ho) _ _ _ _ h4)⟩
          have HEND : Hid (KD w wr g q os) := Lib.hid ⟨.slice LA q lc, wv, vals, ws, ks5, (HX.out.erase 0).sub (List.Sublist.append (List.Sublist.cons_cons _ (List.Sublist.cons_cons _ (List.Sublist.cons_cons _ (List.sublist_append_right cs os)))) (List.Sublist.refl _)), HVN.out.1, HMK.out⟩
          clear HML HMK HMM HX hqn hlt2 HCL2
          go_wp2_with (refine wpList_load_cell rfl 44 (.tmp 52) rfl rfl c0 (fun w => Try.isAgg44 w) ?_)
          clear hd
          go_loop [9, 10] (fun i _ => ∃ k : Nat, k ≤ q ∧ i = .int .i64 k) (fun i _ => q - (intOf i).toNat)
          case atStart => exact ⟨0, by omega, rfl⟩
          case round =>
            obtain ⟨k, hk, rfl⟩ := hrel
            by_cases hlt : k < q
            case neg =>
              have hd : decide ((k : Int) < (q : Int)) = false := decide_eq_false (by omega)
              go_wp2_with fail
              go_ret
              exact ⟨rfl, HEND.out⟩
            have hd : decide ((k : Int) < (q : Int)) = true := decide_eq_true (by omega)
            obtain ⟨mg, lg, a, L, ca, a2, L2, c2, rfl, rfl, hL, hL2, m1, m2, s1, s2⟩ := HC.out k hlt
            have P1 := Lib.hid s1
            have P2 := Lib.hid s2
            have MS := Lib.hid (mkM_n k)
            have j1 : (0 : Int) ≤ (k : Int) := by omega
            have j2 : (k : Int) < (q : Int) := by omega
            clear s1 s2
            go_wp2_with fail
            go_loop [10] (fun i => ∃ t : Nat, t ≤ L2 ∧ i = .int .i64 t) (fun i => L2 - (intOf i).toNat)
            case atStart => exact ⟨0, by omega, rfl⟩
            case round =>
              obtain ⟨t, ht, rfl⟩ := hrel
              by_cases htl : t < L2
              case neg =>
                have hd2 : decide ((t : Int) < (L2 : Int)) = false := decide_eq_false (by omega)
                go_wp2_with fail
                go_round
                case rel => exact ⟨k + 1, by omega, by go_num⟩
                case measure => simp [intOf]; omega
              have hd2 : decide ((t : Int) < (L2 : Int)) = true := decide_eq_true (by omega)
              obtain ⟨b2, o2, u2, rfl, _, hu2, hc2⟩ := P2.out.rb.at_ htl
              rw [List.getElem?_replicate, if_pos htl] at hu2
              injection hu2 with hu2
              rw [← hu2, MS.out] at hc2
              have i1 : (0 : Int) ≤ (t : Int) := by omega
              have i2 : (t : Int) < (L2 : Int) := by omega
              clear hu2
              by_cases htL : t < L
              case pos =>
                have hd3 : decide ((t : Int) < (L : Int)) = true := decide_eq_true (by omega)
                obtain ⟨b1, o1, u1, rfl, _, hu1, hc1⟩ := P1.out.rb.at_ htL
                rw [List.getElem?_replicate, if_pos htL] at hu1
                injection hu1 with hu1
                rw [← hu1, MS.out] at hc1
                have i3 : (t : Int) < (L : Int) := by omega
                clear hu1
                go_wp2_with fail
                go_round
                case rel => exact ⟨t + 1, by omega, by go_num⟩
                case measure => simp [intOf]; omega
              have hd3 : decide ((t : Int) < (L : Int)) = false := decide_eq_false (by omega)
              go_wp2_with fail
              go_round
              case rel => exact ⟨t + 1, by omega, by go_num⟩
              case measure => simp [intOf]; omega
        have hd : decide ((q : Int) < (n : Int)) = true := decide_eq_true (by omega)
        obtain ⟨v, hv⟩ : ∃ v, vals[q]? = some v := ⟨_, List.getElem?_eq_getElem (by have := HVN.out; omega)⟩
        obtain ⟨A, L, ca, rfl, hL, hmk⟩ := HMK.out q v hv
        obtain ⟨lg, rfl, c1⟩ := (HCL2.out _ _ (HX.out.erase 0)).2 q _ hv
        have hL2 : L ≤ 16777216 := by
          obtain ⟨A', m', cap', o', q1, _, q3, _⟩ := HIT.out q hlt2
          rw [hv] at q1
          injection q1 with q1
          injection q1 with _ q1 _
          omega
        obtain ⟨mk, hmk2⟩ : ∃ z, z = mkM q := ⟨_, rfl⟩
        rw [← hmk2] at hmk
        have HM := Lib.hid hmk
        have HMV : Hid (u8v mk = .int .u8 (1 + (q : Int) % 250)) := Lib.hid (by rw [hmk2]; exact mkM_v q)
        have HME := Lib.hid hmk2
        have j1 : (0 : Int) ≤ (q : Int) := by omega
        have j2 : (q : Int) < (n : Int) := by omega
        clear hv hmk hmk2
        go_wp2_with (first
          | (refine wpList_load_cell rfl 44 (.tmp 52) rfl rfl c0 (fun w => Try.isAgg44 w) ?_)
          | (refine wpList_load_cell rfl 44 (.tmp 60) rfl rfl c0 (fun w => Try.isAgg44 w) ?_)
          | (refine wpList_load_cell rfl 28 (.tmp 63) rfl rfl c1 (fun w => Try.isAgg28 w) ?_)
          | (refine wpList_load_cell rfl 28 (.tmp 62) rfl rfl c1 (fun w => Try.isAgg28 w) ?_))
        clear c0 c1 hd
        go_loopw [7, 8] (fun gv iv wy => ∃ (j : Nat) (A6 : Option Addr) (c6 : Nat) (ks6 : List Ob), j ≤ 70 ∧ gv = .slice A6 (L + j) c6 ∧ iv = .int .i64 j ∧ Hid (OW w ((rowO 28 1 (.slice MA q mc) q mv :: boxO g [.slice (some ⟨lg, 0, none⟩) n lc, wv] :: rowO 28 1 (.slice (some ⟨lg, 0, none⟩) n lc) n vals :: rowO 28 1 wv n ws :: cs ++ os) ++ ks6) wy) ∧ Hid (LeM ks5 ks6) ∧ Hid (Marked ks6 A6 (L + j) c6 mk)) (fun _ iv _ => 70 - (intOf iv).toNat)
        case atStart => exact ⟨0, A, ca, ks5, by omega, rfl, rfl, HX, Lib.hid (LeM.refl _), HM⟩
        case round =>
          clear HX HM
          obtain ⟨j, A6, c6, ks6, hj, rfl, rfl, HX6, HL6, HM6⟩ := hrel
          by_cases hj70 : j < 70
          case pos =>
            have hdk : decide ((j : Int) < 70) = true := decide_eq_true (by omega)
            go_wp2_with (first
              | (refine wl_build rfl #[(0, .tmp 72)] rfl #[.int .u8 (1 + (q : Int) % 250)] Try.u8s' (.int .u8 0) (by kernel_rfl) (by decide) (by decide) (by decide) rfl (by kernel_rfl) HX6.out ?_; intro g7 x6 hz _; have HX7 := Lib.hid hz.left; have HRB : Hid (RB x6 x6.heap.size (some ⟨g7, 0, none⟩) 1 (List.replicate 1 mk)) := Lib.hid (by have h9 := Reads.own (hz.right.row (i := 0) rfl); rw [← HMV.out] at h9; exact h9); clear hz HX6)
              | (at_builtin; go_must (refine wl_appM rfl (.tmp 68) (.tmp 73) rfl Try.u8s' HX7.out HM6.out rfl _ 1 1 rfl HRB.out (by omega) (by omega) ?_); intro A7 c7 ks7 x7 h1 h2 h3; have HX8 := Lib.hid h1; have HL7 := Lib.hid (HL6.out.trans h2); have HM7 := Lib.hid h3; clear h1 h2 h3 HX7 HRB))
            go_roundw
            case rel => exact ⟨j + 1, A7, c7, ks7, by omega, rfl, by go_num, HX8, HL7, HM7⟩
            case measure => simp [intOf]; omega
          obtain rfl : j = 70 := by omega
          have hdk : decide (((70 : Nat) : Int) < 70) = false := by decide
          clear hj70 hj
          go_wp2_with (first
            | (refine wl_build rfl #[(0, .tmp 76)] rfl #[.slice A6 (L + 70) c6] Try.kssM (.slice none 0 0) (by kernel_rfl) (by decide) (by decide) (by decide) rfl (by kernel_rfl) HX6.out ?_; intro g7 x6 hz _; have HX7 := Lib.hid hz.left; have HRB : Hid (Reads x6 x6.heap.size 1 (some ⟨g7, 0, none⟩) 1 [.slice A6 (L + 70) c6]) := Lib.hid (Reads.own (hz.right.row (i := 0) rfl)); clear hz HX6)
            | (at_builtin; go_must (refine wl_append rfl (.tmp 75) (.tmp 77) rfl Try.kssM HX7.out 0 rfl rfl _ (some ⟨g7, 0, none⟩) 1 1 [.slice A6 (L + 70) c6] rfl HRB.out (by simp [Value.oneCell']) (by unfold maxLen; omega) (by omega) ?_); intro A8 c8 x8 hz _; have HX8 : Hid (OW w ((rowO 28 1 (.slice A8 (q + 1) c8) (q + 1) (mv ++ [.slice A6 (L + 70) c6]) :: boxO g [.slice (some ⟨lg, 0, none⟩) n lc, wv] :: rowO 28 1 (.slice (some ⟨lg, 0, none⟩) n lc) n vals :: rowO 28 1 wv n ws :: cs ++ os) ++ ks6) x8) := Lib.hid hz; clear hz HX7 HRB))
          go_roundw
          case rel => exact ⟨q + 1, A8, c8, mv ++ [.slice A6 (L + 70) c6], ks6, by omega, by go_num, rfl, Lib.hid (by rw [List.length_append, HML.out]; rfl), Lib.hid (HMK.out.le HL6.out), Lib.hid ((HMM.out.le HL6.out).snoc (by omega) (by rw [HML.out, ← HME.out]; exact HM6.out)), HX8⟩
          case measure => simp [intOf]; omega
    have hd : decide ((i : Int) < (n : Int)) = true := decide_eq_true (by omega)
    obtain ⟨A, m, cap, o, hvi, hki, hm, hS⟩ := HIT.out i hlt
    obtain ⟨lg, rfl, c1⟩ := (HCL.out _ _ _ HX.out).2 i _ hvi
    have i0 : (0 : Int) ≤ (i : Int) := by omega
    have i1 : (i : Int) < (n : Int) := by omega
    have HX1 : Hid (OW w (([boxO g [.slice (some ⟨lg, 0, none⟩) n lc, wv], rowO 28 1 (.slice (some ⟨lg, 0, none⟩) n lc) n vals, rowO 28 1 wv n ws] ++ pre) ++ o :: (ks.drop (i + 1) ++ (cs ++ os))) wr) := Lib.hid (by have h9 := HX.out; rw [drop_atM hki] at h9; exact h9)
    obtain ⟨mk, hmk⟩ : ∃ z, z = mkM i := ⟨_, rfl⟩
    obtain ⟨o', hset, hcase⟩ := hS w wr _ _ HX1.out (getE_app _ o _) mk
    rw [setE_app] at hset
    have HX2 := Lib.hid hset
    have HC2 : Hid ((A = none ∧ m = 0 ∧ cap = 0) ∨ ∃ gb c, A = some ⟨gb, 0, none⟩ ∧ m ≤ cap ∧ cap ≤ c ∧ o' = fillO gb c 0 mk) := Lib.hid hcase
    have HMV : Hid (u8v mk = .int .u8 (1 + (i : Int) % 250)) := Lib.hid (by rw [hmk]; exact mkM_v i)
    have HMK := Lib.hid hmk
    have HVI : Hid (vals[i]? = some (.slice A m cap)) := Lib.hid hvi
    clear hvi hki hS hset hcase hmk HX HX1
    go_wp2_with (refine wpList_load_cell rfl 44 (.tmp 18) rfl rfl c0 (fun w => Try.isAgg44 w) ?_)
    clear c0 c1
    go_loopw [4] (fun cv wy => ∃ (j : Nat) (k0 : Ob), j ≤ m ∧ cv = .int .i64 j ∧ Hid (OW w (([boxO g [.slice (some ⟨lg, 0, none⟩) n lc, wv], rowO 28 1 (.slice (some ⟨lg, 0, none⟩) n lc) n vals, rowO 28 1 wv n ws] ++ pre) ++ k0 :: (ks.drop (i + 1) ++ (cs ++ os))) wy) ∧ Hid ((A = none ∧ m = 0 ∧ cap = 0) ∨ ∃ gb c, A = some ⟨gb, 0, none⟩ ∧ m ≤ cap ∧ cap ≤ c ∧ k0 = fillO gb c j mk)) (fun cv _ => m - (intOf cv).toNat)
    case atStart => exact ⟨0, o', Nat.zero_le _, rfl, HX2, HC2⟩
    case round =>
      clear HX2 HC2
      obtain ⟨j, k0, hj, rfl, HX2, HC2⟩ := hrel
      have c0 := (HCL.out _ _ _ HX2.out).1
      obtain ⟨lg2, hlg, c1⟩ := (HCL.out _ _ _ HX2.out).2 i _ HVI.out
      injection hlg with hlg; injection hlg with hlg; subst hlg
      by_cases hjl : j < m
      case neg =>
        obtain rfl : j = m := by omega
        have hdj : decide ((j : Int) < (j : Int)) = false := decide_eq_false (by omega)
        go_wp2_with (first
          | (refine wpList_load_cell rfl 44 (.tmp 26) rfl rfl c0 (fun w => Try.isAgg44 w) ?_)
          | (refine wpList_load_cell rfl 28 (.tmp 29) rfl rfl c1 (fun w => Try.isAgg28 w) ?_))
        go_roundw
        case rel =>
          refine ⟨i + 1, pre ++ [k0], by omega, by go_num, Lib.hid (by rw [List.length_append, HPL.out]; rfl), Lib.hid (HFA.out.snoc (by rw [HPL.out]; exact HVI.out) (by omega) (by rw [HPL.out, ← HMK.out]; exact HC2.out)), Lib.hid ?_⟩
          have h9 := HX2.out
          rw [show ([boxO g [.slice (some ⟨lg, 0, none⟩) n lc, wv], rowO 28 1 (.slice (some ⟨lg, 0, none⟩) n lc) n vals, rowO 28 1 wv n ws] ++ (pre ++ [k0])) ++ (ks.drop (i + 1) ++ (cs ++ os)) = ([boxO g [.slice (some ⟨lg, 0, none⟩) n lc, wv], rowO 28 1 (.slice (some ⟨lg, 0, none⟩) n lc) n vals, rowO 28 1 wv n ws] ++ pre) ++ k0 :: (ks.drop (i + 1) ++ (cs ++ os)) from by simp]
          exact h9
        case measure => simp [intOf]; omega
      have hdj : decide ((j : Int) < (m : Int)) = true := decide_eq_true (by omega)
      have j0 : (0 : Int) ≤ (j : Int) := by omega
      have j1 : (j : Int) < (m : Int) := by omega
      rcases HC2.out with ⟨_, h1, _⟩ | ⟨gb, c, rfl, h1, h2, rfl⟩
      · omega
      go_wp2_with (first
        | (refine wpList_load_cell rfl 44 (.tmp 26) rfl rfl c0 (fun w => Try.isAgg44 w) ?_)
        | (refine wpList_load_cell rfl 28 (.tmp 29) rfl rfl c1 (fun w => Try.isAgg28 w) ?_)
        | (refine wpList_load_cell rfl 44 (.tmp 37) rfl rfl c0 (fun w => Try.isAgg44 w) ?_)
        | (refine wpList_load_cell rfl 28 (.tmp 40) rfl rfl c1 (fun w => Try.isAgg28 w) ?_)
        | (refine wl_storeM rfl (.tmp 47) (.tmp 46) rfl HX2.out (by omega) rfl HMV.out.symm (by kernel_rfl) ?_; intro x3 hz; have HX3 := Lib.hid hz; clear hz HX2))
      clear c0 c1
      go_roundw
      case rel => exact ⟨j + 1, _, by omega, by go_num, HX3, Lib.hid (.inr ⟨gb, c, rfl, h1, h2, rfl⟩)⟩
      case measure => simp [intOf]; omega
set_option maxRecDepth 100000 in
set_option maxHeartbeats 4000000 in
theorem settledM {n : Nat} (h : KD w x g n os) (hm : n ≤ 1000000) :
    Calls Try.prog 22 #[.pointer (some ⟨g, 0, none⟩)] x fun e y => e = .returned (.bool true) ∧ x = y := by
  obtain ⟨lv, wv, vals, ws, ks, ho, hv, hK⟩ := h
  have ho : OW w (boxO g [lv, wv] :: rowO 28 1 lv n vals :: rowO 28 1 wv n ws :: (os ++ ks)) x := ho
  have hbx := ho.cell (i := 0) (j := 0) rfl rfl
  obtain ⟨LA, lc, rfl, _, _, _, hrl⟩ := own_slice (ho.row (i := 1) rfl)
  have HEX : Hid (∀ k, k < n → ∃ (L : Nat) (a : Option Addr) (ca b o : Nat), L ≤ 16777300 ∧ LA = some ⟨b, o, none⟩ ∧ x.cell? ⟨b, o + k, none⟩ = some (.slice a L ca) ∧ Sl x a L ca (List.replicate L (mkM k))) := Lib.hid fun k hk => by
    obtain ⟨v, hvk⟩ : ∃ v, vals[k]? = some v := ⟨_, List.getElem?_eq_getElem (by omega)⟩
    obtain ⟨A, L, ca, rfl, h1, h2⟩ := hK k v hvk
    obtain ⟨b, o, rfl, hb', hc⟩ := hrl.2 (by omega)
    exact ⟨L, A, ca, b, o, h1, rfl, hc k _ hvk, ho.marked ((LeM.sub fun _ h => .tail _ (.tail _ (.tail _ (List.mem_append_right _ h)))) _ _ _ _ h2)⟩
  clear ho hrl hv hK
  go_enter Try.func22, Try.ntmps22
  go_wp2_with fail
  go_loop [3] (fun i => ∃ k : Nat, k ≤ n ∧ i = .int .i64 k) (fun i => n - (intOf i).toNat)
  case atStart => exact ⟨0, by omega, rfl⟩
  case round =>
    obtain ⟨k, hk, rfl⟩ := hrel
    by_cases hlt : k < n
    case neg =>
      have hd : decide ((k : Int) < (n : Int)) = false := decide_eq_false (by omega)
      go_wp2_with fail
      go_ret
      exact ⟨rfl, rfl⟩
    have hd : decide ((k : Int) < (n : Int)) = true := decide_eq_true (by omega)
    obtain ⟨L, a, ca, b, o, hL, rfl, hc, hsl⟩ := HEX.out k hlt
    have P1 := Lib.hid hsl
    have MS := Lib.hid (mkM_n k)
    have j1 : (0 : Int) ≤ (k : Int) := by omega
    have j2 : (k : Int) < (n : Int) := by omega
    clear hsl
    go_wp2_with fail
    go_loop [4] (fun i => ∃ t : Nat, t ≤ L ∧ i = .int .i64 t) (fun i => L - (intOf i).toNat)
    case atStart => exact ⟨0, by omega, rfl⟩
    case round =>
      obtain ⟨t, ht, rfl⟩ := hrel
      by_cases htl : t < L
      case neg =>
        have hd2 : decide ((t : Int) < (L : Int)) = false := decide_eq_false (by omega)
        go_wp2_with fail
        go_round
        case rel => exact ⟨k + 1, by omega, by go_num⟩
        case measure => simp [intOf]; omega
      have hd2 : decide ((t : Int) < (L : Int)) = true := decide_eq_true (by omega)
      obtain ⟨b1, o1, u1, rfl, _, hu1, hc1⟩ := P1.out.rb.at_ htl
      rw [List.getElem?_replicate, if_pos htl] at hu1
      injection hu1 with hu1
      rw [← hu1, MS.out] at hc1
      have i1 : (0 : Int) ≤ (t : Int) := by omega
      have i2 : (t : Int) < (L : Int) := by omega
      clear hu1
      go_wp2_with fail
      go_round
      case rel => exact ⟨t + 1, by omega, by go_num⟩
      case measure => simp [intOf]; omega
end
end Go.Proofs.Ytdaoinhkagmbdaa
namespace Go.Proofs.Ytdaoinhkagmbdaa
open Go.RowKit
theorem check_cut (e : Ent) : checkE (cut5 e) = checkE e := by
  have h1 : (e.row.take 5000).length = min 5000 e.row.length := List.length_take
  have h2 : (e.qual.take 5000).length = min 5000 e.qual.length := List.length_take
  have h3 : (e.val.take 5000).length = min 5000 e.val.length := List.length_take
  unfold checkE cut5 checkN
  simp only [h1, h2, h3]
  (repeat' split) <;> first | rfl | omega
theorem addE_cut (L : List Ent) (fr : Bool) (e : Ent) : addE L fr (cut5 e) = addE L fr e := by
  by_cases h : checkE e = 0
  · rw [cut5_same]
    have h1 := ok_of h
    exact ⟨by have := h1.row; omega, by have := h1.qual; omega, by have := h1.val; omega⟩
  · rw [addE_bad (by rw [check_cut]; exact h), addE_bad h, check_cut]
theorem flM_drop {A : Ent → Bool} : ∀ {L : List Ent}, L.Pairwise (fun a b => A b = true → A a = true) → fl A L = L.drop (twN A L)
  | [], _ => rfl
  | a :: L, h => by
    obtain ⟨h1, h2⟩ := List.pairwise_cons.1 h
    cases ha : A a
    · have h3 : ∀ b, b ∈ a :: L → A b = false := fun b hb => by
        rcases List.mem_cons.1 hb with rfl | hb
        · exact ha
        · cases hA : A b
          · rfl
          · have := h1 b hb hA; rw [ha] at this; cases this
      have h4 : twN A (a :: L) = 0 := by unfold twN; rw [List.takeWhile_cons, if_neg (by rw [ha]; exact Bool.noConfusion)]; rfl
      rw [h4]
      exact List.filter_eq_self.2 fun b hb => by rw [h3 b hb]; rfl
    · have h4 : twN A (a :: L) = twN A L + 1 := by unfold twN; rw [List.takeWhile_cons, if_pos ha]; rfl
      rw [h4, List.drop_succ_cons, ← flM_drop h2]
      unfold fl
      rw [List.filter_cons_of_neg (by rw [ha]; exact Bool.noConfusion)]
theorem fromM_same {L : List Ent} (h : AscE L) (e : Ent) : fromL L e = fromE L e := flM_drop (from_pw h e)
theorem sameListM {w : World} {A B : Option Addr} {n m c d : Nat} {L : List Ent} (ha : Ens w A n L) (hb : Ens w B m L) (hn : n ≤ 1000000) :
    Calls Try.prog 19 #[.slice A n c, .slice B m d] w fun e z => e = .returned (.bool true) ∧ Below w.heap.size w z := by
  obtain rfl : n = m := by rw [← ha.len, ← hb.len]
  exact sameList_yes ha hb hn
theorem entss8 : SliceOf Try.prog 48 22 1 24 := SliceOf.mk' (z := .slice none 0 0) Try.underlying48 (by kernel_rfl) rfl (by decide)
structure LL where
  A : Option Addr
  n : Nat
  c : Nat
  rs : List ER
def LL.obs (l : LL) : List Ob := listO8 l.A l.n l.c l.rs
def LL.v (l : LL) : Value := .slice l.A l.n l.c
def wantE (L : List Ent) (e : Ent) (c : Nat) : List Ent := if c < 2 then fromE L e else L
theorem fromE_le (L : List Ent) (e : Ent) : (fromE L e).length ≤ L.length := by unfold fromE; rw [List.length_drop]; omega
theorem wantE_le (L : List Ent) (e : Ent) (c : Nat) : (wantE L e c).length ≤ L.length := by unfold wantE; split; exact fromE_le L e; exact Nat.le_refl _
theorem wantE_chk {L : List Ent} (h : ∀ e, e ∈ L → checkE e = 0) (e : Ent) (c : Nat) : ∀ x, x ∈ wantE L e c → checkE x = 0 := fun x hx => by
  unfold wantE at hx
  split at hx
  · exact h x (List.mem_of_mem_drop hx)
  · exact h x hx
theorem kitem_of {os : List Ob} {r : ER} (h : EClip os r) (hc : checkE r.e = 0) : KItem (clipO r.A r.e.row) (.slice r.A r.e.row.length r.c) r.e.row ∧ KItem (clipO r.B r.e.qual) (.slice r.B r.e.qual.length r.d) r.e.qual ∧ KItem (clipO r.D r.e.val) (.slice r.D r.e.val.length r.q) r.e.val := by
  have h1 := ok_of hc
  rw [h.c, h.d, h.q]
  exact ⟨kitem_clip h.a (by have := h1.row; omega), kitem_clip h.b (by have := h1.qual; omega), kitem_clip h.v (by have := h1.val; omega)⟩
theorem swp {w x : World} {a b : Ob} {os : List Ob} (h : OW w (a :: b :: os) x) : OW w (b :: a :: os) x := h.perm (List.Perm.swap _ _ _)
theorem lent_perm (K B l1 l2 l3 l4 : List Ob) (r : Ob) : ((((((K ++ B) ++ l1) ++ l2) ++ l3) ++ l4) ++ [r]).Perm (K ++ ((r :: B) ++ (l1 ++ (l2 ++ (l3 ++ (l4 ++ [])))))) := by (refine perm_of_cnt fun a => ?_; (first | ((repeat (first | rw [cntO_app] | rw [cntO_cons] | rw [cntO_nil])) <;> omega) | ((simp only [cntO_app, cntO_cons, cntO_nil]) <;> omega)))
theorem lent_perm3 (a b c d e : Ob) (X : List Ob) : (a :: b :: c :: d :: e :: X).Perm (a :: b :: d :: e :: c :: X) := by (refine perm_of_cnt fun a => ?_; (first | ((repeat (first | rw [cntO_app] | rw [cntO_cons] | rw [cntO_nil])) <;> omega) | ((simp only [cntO_app, cntO_cons, cntO_nil]) <;> omega)))
theorem lent_perm4 (a g b : Ob) (X : List Ob) : (a :: g :: b :: X).Perm (b :: a :: g :: X) := by (refine perm_of_cnt fun a => ?_; (first | ((repeat (first | rw [cntO_app] | rw [cntO_cons] | rw [cntO_nil])) <;> omega) | ((simp only [cntO_app, cntO_cons, cntO_nil]) <;> omega)))
theorem lent_perm2 (a b c r : Ob) (B X Y : List Ob) : (B ++ (r :: ((([a, b, c] : List Ob) ++ X) ++ Y))).Perm (a :: b :: c :: (B ++ (r :: (X ++ Y)))) := by (refine perm_of_cnt fun a => ?_; (first | ((repeat (first | rw [cntO_app] | rw [cntO_cons] | rw [cntO_nil])) <;> omega) | ((simp only [cntO_app, cntO_cons, cntO_nil]) <;> omega)))
set_option maxRecDepth 10000000 in
set_option maxHeartbeats 16000000 in
theorem lent8_any (la : List Ent) (A0 : Option Addr) (n0 c0 : Nat) (e0 : ER) (w : World) (hA : Ens w A0 n0 la) (_hn0 : n0 ≤ 9223372036854775807) (he : e0.En w) (hsz : e0.e.row.length ≤ 140737488355000 ∧ e0.e.qual.length ≤ 140737488355000 ∧ e0.e.val.length ≤ 140737488355000) :
    Calls Try.prog 4 #[.slice A0 n0 c0, .agg #[.slice e0.A e0.e.row.length e0.c, .int .i64 e0.e.fam, .slice e0.B e0.e.qual.length e0.d, .int .i64 e0.e.ts, .int .i64 e0.e.seq, .int .i64 e0.e.kind, .slice e0.D e0.e.val.length e0.q]] w fun e z => e = .returned (.bool true) ∧ Below w.heap.size w z := by
  have HEA : Hid (∀ z, Below w.heap.size w z → Ens z A0 n0 la) := Lib.hid fun z hz => hA.later hz
  have HE0 : Hid (∀ z, Below w.heap.size w z → e0.En z) := Lib.hid fun z hz => he.later hz
  have HSZ := Lib.hid hsz
  have HX := Lib.hid (OW.nil w)
  clear hA he hsz
  go_enter Try.func4, Try.ntmps4
  have tk1 : True := trivial
  go_wp2_with (first
    | (refine wl_box rfl (.tmp 1) rfl [.slice e0.A e0.e.row.length e0.c, .int .i64 e0.e.fam, .slice e0.B e0.e.qual.length e0.d, .int .i64 e0.e.ts, .int .i64 e0.e.seq, .int .i64 e0.e.kind, .slice e0.D e0.e.val.length e0.q] rfl HX.out ?_; intro g3 x1 hz hb; have HB1 : Hid (OW w (boxO g3 [.slice e0.A e0.e.row.length e0.c, .int .i64 e0.e.fam, .slice e0.B e0.e.qual.length e0.d, .int .i64 e0.e.ts, .int .i64 e0.e.seq, .int .i64 e0.e.kind, .slice e0.D e0.e.val.length e0.q] :: []) x1) := Lib.hid hz; clear hz hb HX)
    | (go_at_call 8; go_must (refine (told_any8 _).mono ?_); rintro e x2 ⟨rfl, hb⟩; have HB2 := Lib.hid (HB1.out.later hb); clear hb HB1)
    | (go_at_call 9; (have _t := tk1); go_must (refine (tnew_any _).mono ?_); rintro e x3 ⟨ta, rfl, hz⟩; have HB3 : Hid (OW w (boxO ta (tabC .nil false) :: boxO g3 [.slice e0.A e0.e.row.length e0.c, .int .i64 e0.e.fam, .slice e0.B e0.e.qual.length e0.d, .int .i64 e0.e.ts, .int .i64 e0.e.seq, .int .i64 e0.e.kind, .slice e0.D e0.e.val.length e0.q] :: []) x3) := Lib.hid (swp (HB2.out.app hz)); clear hz HB2 tk1 _t)
    | (go_at_call 9; go_must (refine (tnew_any _).mono ?_); rintro e x4 ⟨tb, rfl, hz⟩; have HB4 : Hid (OW w (boxO ta (tabC .nil false) :: boxO tb (tabC .nil false) :: boxO g3 [.slice e0.A e0.e.row.length e0.c, .int .i64 e0.e.fam, .slice e0.B e0.e.qual.length e0.d, .int .i64 e0.e.ts, .int .i64 e0.e.seq, .int .i64 e0.e.kind, .slice e0.D e0.e.val.length e0.q] :: []) x4) := Lib.hid ((HB3.out.app hz).perm (List.perm_append_comm.trans (List.Perm.swap _ _ _))); clear hz HB3)
    | (refine wl_alloc rfl rfl [.slice none 0 0, .bool false] (.inl (by kernel_rfl)) HB4.out ?_; intro g7 x5 hz _; have HB5 : Hid (OW w (boxO g7 [.slice none 0 0, .bool false] :: boxO ta (tabC .nil false) :: boxO tb (tabC .nil false) :: boxO g3 [.slice e0.A e0.e.row.length e0.c, .int .i64 e0.e.fam, .slice e0.B e0.e.qual.length e0.d, .int .i64 e0.e.ts, .int .i64 e0.e.seq, .int .i64 e0.e.kind, .slice e0.D e0.e.val.length e0.q] :: []) x5) := Lib.hid (hz.perm List.perm_append_comm); clear hz HB4)
    | (refine wl_put rfl (.tmp 7) (.tmp 27) rfl HB5.out 0 rfl rfl [.slice none 0 0, .bool false] rfl rfl (by kernel_rfl) (by simp [Value.oneCell']) ?_; intro x6 hz _; have HB6 : Hid (OW w (boxO ta (tabC .nil false) :: boxO tb (tabC .nil false) :: boxO g7 [.slice none 0 0, .bool false] :: boxO g3 [.slice e0.A e0.e.row.length e0.c, .int .i64 e0.e.fam, .slice e0.B e0.e.qual.length e0.d, .int .i64 e0.e.ts, .int .i64 e0.e.seq, .int .i64 e0.e.kind, .slice e0.D e0.e.val.length e0.q] :: [rowO 30 7 (.slice none 0 0) 0 (([] : List ER).flatMap ER.cells)]) x6) := Lib.hid ((swp hz |>.perm (List.Perm.cons _ (List.Perm.swap _ _ _))).nilRow 30 7); clear hz HB5))
  go_loopw [8] (fun iv wr => ∃ (i : Nat) (tra trb : Tr) (A : Option Addr) (n c : Nat) (rs : List ER) (RR : List Ob), i ≤ 30 ∧ i ≤ n0 ∧ iv = .int .i64 i ∧ tra.list.length ≤ i ∧ n ≤ i ∧ Hid (trb.ents = tra.ents) ∧ Hid (Tb RR tra) ∧ Hid (Tb RR trb) ∧ Hid (RT RR A n c rs tra.ents) ∧ Hid (OW w (boxO ta (tabC tra false) :: boxO tb (tabC trb false) :: boxO g7 [.slice A n c, .bool false] :: boxO g3 [.slice e0.A e0.e.row.length e0.c, .int .i64 e0.e.fam, .slice e0.B e0.e.qual.length e0.d, .int .i64 e0.e.ts, .int .i64 e0.e.seq, .int .i64 e0.e.kind, .slice e0.D e0.e.val.length e0.q] :: RR) wr)) (fun iv _ => 30 - (intOf iv).toNat)
  case atStart => exact ⟨0, .nil, .nil, none, 0, 0, [], _, by decide, Nat.zero_le _, rfl, Nat.le_refl _, Nat.le_refl _, Lib.hid rfl, Lib.hid (Tb.nil _), Lib.hid (Tb.nil _), Lib.hid ⟨.head _, rfl, fun r h => by cases h⟩, HB6⟩
  case round =>
    clear HB6
    obtain ⟨i, tra, trb, A, n, c, rs, RR, hi30, hin, rfl, htl, hnl, HEQ, HTA, HTB, HRT, HX⟩ := hrel
    obtain ⟨bb, hbb⟩ : ∃ b : Bool, b = decide (i < n0 ∧ i < 30) := ⟨_, rfl⟩
    go_upto_region 8 with fail
    obtain ⟨wl, rfl⟩ : ∃ z : World, z = wr := ⟨_, rfl⟩
    go_cut [35] (fun bv wx => wl = wx ∧ bv = .bool bb)
    case first =>
      by_cases h1 : i < n0
      · have d1 : decide ((i : Int) < (n0 : Int)) = true := decide_eq_true (by omega)
        by_cases h2 : i < 30
        · have d2 : decide ((i : Int) < 30) = true := decide_eq_true (by omega)
          have d3 : bb = true := by rw [hbb]; exact decide_eq_true ⟨h1, h2⟩
          go_wp2_with fail
          go_meet
          exact ⟨rfl, by rw [d3]⟩
        · have d2 : decide ((i : Int) < 30) = false := decide_eq_false (by omega)
          have d3 : bb = false := by rw [hbb]; exact decide_eq_false fun h => h2 h.2
          go_wp2_with fail
          go_meet
          exact ⟨rfl, by rw [d3]⟩
      · have d1 : decide ((i : Int) < (n0 : Int)) = false := decide_eq_false (by omega)
        have d3 : bb = false := by rw [hbb]; exact decide_eq_false fun h => h1 h.1
        go_wp2_with fail
        go_meet
        exact ⟨rfl, by rw [d3]⟩
    obtain ⟨rfl, rfl⟩ := hcut
    cases bb
    case «false» =>
      clear hbb
      obtain ⟨L, hL⟩ : ∃ z, z = tra.ents := ⟨_, rfl⟩
      have HLA := Lib.hid hL.symm
      have HLB : Hid (trb.ents = L) := Lib.hid (by rw [HEQ.out, hL])
      have HLL : Hid (L.length ≤ 30) := Lib.hid (by rw [hL, Tr.ents_len]; omega)
      have HTLA : Hid (tra.list.length ≤ 90000 ∧ trb.list.length ≤ 90000) := Lib.hid ⟨by omega, by rw [← Tr.ents_len, HEQ.out, Tr.ents_len]; omega⟩
      have HCK : Hid (∀ e, e ∈ L → checkE e = 0) := Lib.hid (by rw [hL]; exact HTA.out.chk)
      have HASC : Hid (AscE tra.ents ∧ AscE trb.ents) := Lib.hid ⟨HTA.out.asc, HTB.out.asc⟩
      have HRTL : Hid (RT RR A n c rs L) := Lib.hid (by rw [hL]; exact HRT.out)
      have hn90 : n ≤ 90000 := by omega
      have hn30 : n ≤ 30 := by omega
      clear hL HEQ HRT htl hnl hi30 hin
      go_wp2_with (refine wl_box rfl (.tmp 67) rfl [.slice none 0 0, .slice none 0 0] rfl HX.out ?_; intro gk x9 hz _; have HK0 : Hid (KM w x9 gk [] (boxO ta (tabC tra false) :: boxO tb (tabC trb false) :: boxO g7 [.slice A n c, .bool false] :: boxO g3 [.slice e0.A e0.e.row.length e0.c, .int .i64 e0.e.fam, .slice e0.B e0.e.qual.length e0.d, .int .i64 e0.e.ts, .int .i64 e0.e.seq, .int .i64 e0.e.kind, .slice e0.D e0.e.val.length e0.q] :: RR)) := Lib.hid (KM.new hz); clear hz HX)
      go_loopw [12] (fun iv wr => ∃ (i2 : Nat) (KS : List (List UInt8)), i2 ≤ 2 ∧ iv = .int .i64 i2 ∧ KS.length ≤ 360 * i2 ∧ Hid (KM w wr gk KS (boxO ta (tabC tra false) :: boxO tb (tabC trb false) :: boxO g7 [.slice A n c, .bool false] :: boxO g3 [.slice e0.A e0.e.row.length e0.c, .int .i64 e0.e.fam, .slice e0.B e0.e.qual.length e0.d, .int .i64 e0.e.ts, .int .i64 e0.e.seq, .int .i64 e0.e.kind, .slice e0.D e0.e.val.length e0.q] :: RR))) (fun iv _ => 2 - (intOf iv).toNat)
      case atStart => exact ⟨0, [], Nat.zero_le _, rfl, Nat.le_refl _, HK0⟩
      case round =>
        clear HK0
        obtain ⟨i2, KS, hi2, rfl, hKS, HK⟩ := hrel
        by_cases hlt2 : i2 < 2
        case neg =>
          obtain rfl : i2 = 2 := by omega
          have d2 : decide (((2 : Nat) : Int) < 2) = false := by decide
          have hKS2 : KS.length ≤ 720 := by omega
          go_wp2_with fail
          refine lt_start [] (by kernel_rfl) ?_
          intro xd hd
          refine ⟨fun z => OW w (boxO ta (tabC tra false) :: boxO tb (tabC trb false) :: boxO g7 [.slice A n c, .bool false] :: boxO g3 [.slice e0.A e0.e.row.length e0.c, .int .i64 e0.e.fam, .slice e0.B e0.e.qual.length e0.d, .int .i64 e0.e.ts, .int .i64 e0.e.seq, .int .i64 e0.e.kind, .slice e0.D e0.e.val.length e0.q] :: RR) z, ?_⟩
          have HS := Lib.hid (HK.out.rest.later hd)
          refine lt_pure 0 rfl (by kernel_rfl) (by kernel_rfl) (by kernel_rfl) (by kernel_rfl) (fun _ _ _ h => h) (v := ?_) (yi_run rfl (fun w => ?_)) (fun _ => HS.out) ?_
          rotate_left
          · first | (go_simp; done) | (go_simp; with_reducible rfl)
          simp only [Act.put, List.setIfInBounds_toArray, List.set_cons_zero, List.set_cons_succ]
          refine lt_call 1 rfl (by kernel_rfl) rfl rfl ⟨_, Try.func21, by decide, by kernel_rfl⟩ [.pointer (some ⟨gk, 0, none⟩)] rfl ?_
          refine (settleM (HK.out.later hd) (by omega) rfl).mono ?_
          rintro e q1 ⟨rfl, hkd⟩
          obtain ⟨lv, wv, vals, ws, ks, hz, hvl, hmk⟩ := hkd
          have HVL := Lib.hid hvl
          have HMK := Lib.hid hmk
          have HY : Hid (OW w ((boxO gk [lv, wv] :: rowO 28 1 lv KS.length vals :: rowO 28 1 wv KS.length ws :: boxO ta (tabC tra false) :: boxO tb (tabC trb false) :: boxO g7 [.slice A n c, .bool false] :: boxO g3 [.slice e0.A e0.e.row.length e0.c, .int .i64 e0.e.fam, .slice e0.B e0.e.qual.length e0.d, .int .i64 e0.e.ts, .int .i64 e0.e.seq, .int .i64 e0.e.kind, .slice e0.D e0.e.val.length e0.q] :: RR) ++ ks) q1) := Lib.hid hz
          replace HS : Hid (OW w (boxO ta (tabC tra false) :: boxO tb (tabC trb false) :: boxO g7 [.slice A n c, .bool false] :: boxO g3 [.slice e0.A e0.e.row.length e0.c, .int .i64 e0.e.fam, .slice e0.B e0.e.qual.length e0.d, .int .i64 e0.e.ts, .int .i64 e0.e.seq, .int .i64 e0.e.kind, .slice e0.D e0.e.val.length e0.q] :: RR) q1) := Lib.hid (((HY.out.left.erase 0).erase 0).erase 0)
          clear hz hvl hmk
          refine ⟨_, rfl, fun _ => HS.out, ?_⟩
          simp only [Act.put, List.setIfInBounds_toArray, List.set_cons_zero, List.set_cons_succ]
          refine lt_pure 2 rfl (by kernel_rfl) (by kernel_rfl) (by kernel_rfl) (by kernel_rfl) (fun _ _ _ h => h) (v := ?_) (yi_run rfl (fun w => ?_)) (fun _ => HS.out) ?_
          rotate_left
          · first | (go_simp; done) | (go_simp; with_reducible rfl)
          simp only [Act.put, List.setIfInBounds_toArray, List.set_cons_zero, List.set_cons_succ]
          refine lt_pure 3 rfl (by kernel_rfl) (by kernel_rfl) (by kernel_rfl) (by kernel_rfl) (fun _ _ _ h => h) (v := ?_) (yi_run rfl (fun w => ?_)) (fun _ => HS.out) ?_
          rotate_left
          · first | (go_simp; done) | (go_simp; with_reducible rfl)
          simp only [Act.put, List.setIfInBounds_toArray, List.set_cons_zero, List.set_cons_succ]
          refine lt_pure 5 rfl (by kernel_rfl) (by kernel_rfl) (by kernel_rfl) (by kernel_rfl) (fun _ _ _ h => h) (v := ?_) (yi_run rfl (fun w => ?_)) (fun _ => HS.out) ?_
          rotate_left
          · first | (go_simp; done) | (go_simp; with_reducible rfl)
          simp only [Act.put, List.setIfInBounds_toArray, List.set_cons_zero, List.set_cons_succ]
          refine lt_take 6 [7, 8, 9, 10, 11, 12, 13, 14, 15, 16, 17, 18, 19, 20, 21, 22, 23, 24, 25, 26, 27, 28, 29] rfl (by kernel_rfl) (by kernel_rfl) (by kernel_rfl) (by kernel_rfl) (by kernel_rfl) (fun _ _ _ h => h) (yi_cell rfl rfl rfl (fun w hS => OW.cell hS (i := 2) (j := 0) rfl rfl) (fun w => Try.isAgg22 w)) HS.out ?_
          simp only [Act.put, List.setIfInBounds_toArray, List.set_cons_zero, List.set_cons_succ]
          refine lt_call 4 rfl (by kernel_rfl) rfl rfl ⟨_, Try.func11, by decide, by kernel_rfl⟩ [.pointer (some ⟨ta, 0, none⟩)] rfl ?_
          refine (rows_any8 HY.out (List.mem_append_left _ (.tail _ (.tail _ (.tail _ (.head _))))) (fun o ho => List.mem_append_left _ (.tail _ (.tail _ (.tail _ (.tail _ (.tail _ (.tail _ (.tail _ ho)))))))) HTA.out HTLA.out.1).mono ?_
          rintro e q4 ⟨Ae, me, ce, re, rfl, hlen, hcol, hz⟩
          have HL4 : Hid (Col re (L) ∧ me ≤ 1000000) := Lib.hid ⟨by rw [← HLA.out]; exact hcol, by have := HTLA.out; have h9 := hlen; rw [Tr.ents_len] at h9; omega⟩
          replace HY : Hid (OW w (((boxO gk [lv, wv] :: rowO 28 1 lv KS.length vals :: rowO 28 1 wv KS.length ws :: boxO ta (tabC tra false) :: boxO tb (tabC trb false) :: boxO g7 [.slice A n c, .bool false] :: boxO g3 [.slice e0.A e0.e.row.length e0.c, .int .i64 e0.e.fam, .slice e0.B e0.e.qual.length e0.d, .int .i64 e0.e.ts, .int .i64 e0.e.seq, .int .i64 e0.e.kind, .slice e0.D e0.e.val.length e0.q] :: RR) ++ ks) ++ listO8 Ae me ce re) q4) := Lib.hid hz
          replace HS : Hid (OW w (boxO ta (tabC tra false) :: boxO tb (tabC trb false) :: boxO g7 [.slice A n c, .bool false] :: boxO g3 [.slice e0.A e0.e.row.length e0.c, .int .i64 e0.e.fam, .slice e0.B e0.e.qual.length e0.d, .int .i64 e0.e.ts, .int .i64 e0.e.seq, .int .i64 e0.e.kind, .slice e0.D e0.e.val.length e0.q] :: RR) q4) := Lib.hid (((HY.out.left.left.erase 0).erase 0).erase 0)
          clear hlen hcol hz
          refine ⟨_, rfl, fun _ => HS.out, ?_⟩
          simp only [Act.put, List.setIfInBounds_toArray, List.set_cons_zero, List.set_cons_succ]
          refine lt_call 7 rfl (by kernel_rfl) rfl rfl ⟨_, Try.func19, by decide, by kernel_rfl⟩ [.slice Ae me ce, .slice A n c] rfl ?_
          have hle1 : Ens _ Ae me (L) := HL4.out.1.ensm (c := ce) HY.out fun o ho => List.mem_append_right _ ho
          have hle2 : Ens _ A n (L) := (HRTL.out.more fun o ho => List.mem_append_left _ (List.mem_append_left _ (.tail _ (.tail _ (.tail _ (.tail _ (.tail _ (.tail _ (.tail _ ho))))))))).lin.ens HY.out
          refine (sameListM hle1 hle2 HL4.out.2).mono ?_
          rintro e q7 ⟨rfl, hb⟩
          replace HY := Lib.hid (HY.out.later hb)
          replace HS : Hid (OW w (boxO ta (tabC tra false) :: boxO tb (tabC trb false) :: boxO g7 [.slice A n c, .bool false] :: boxO g3 [.slice e0.A e0.e.row.length e0.c, .int .i64 e0.e.fam, .slice e0.B e0.e.qual.length e0.d, .int .i64 e0.e.ts, .int .i64 e0.e.seq, .int .i64 e0.e.kind, .slice e0.D e0.e.val.length e0.q] :: RR) q7) := Lib.hid (((HY.out.left.left.erase 0).erase 0).erase 0)
          clear hb hle1 hle2
          refine ⟨_, rfl, fun _ => HS.out, ?_⟩
          simp only [Act.put, List.setIfInBounds_toArray, List.set_cons_zero, List.set_cons_succ]
          refine lt_pure 8 rfl (by kernel_rfl) (by kernel_rfl) (by kernel_rfl) (by kernel_rfl) (fun _ _ _ h => h) (v := ?_) (yi_run rfl (fun w => ?_)) (fun _ => HS.out) ?_
          rotate_left
          · first | (go_simp; done) | (go_simp; with_reducible rfl)
          simp only [Act.put, List.setIfInBounds_toArray, List.set_cons_zero, List.set_cons_succ]
          refine lt_pure 9 rfl (by kernel_rfl) (by kernel_rfl) (by kernel_rfl) (by kernel_rfl) (fun _ _ _ h => h) (v := ?_) (yi_run rfl (fun w => ?_)) (fun _ => HS.out) ?_
          rotate_left
          · first | (go_simp; done) | (go_simp; with_reducible rfl)
          simp only [Act.put, List.setIfInBounds_toArray, List.set_cons_zero, List.set_cons_succ]
          refine lt_pure 10 rfl (by kernel_rfl) (by kernel_rfl) (by kernel_rfl) (by kernel_rfl) (fun _ _ _ h => h) (v := ?_) (yi_run rfl (fun w => ?_)) (fun _ => HS.out) ?_
          rotate_left
          · first | (go_simp; done) | (go_simp; with_reducible rfl)
          simp only [Act.put, List.setIfInBounds_toArray, List.set_cons_zero, List.set_cons_succ]
          refine lt_pure 12 rfl (by kernel_rfl) (by kernel_rfl) (by kernel_rfl) (by kernel_rfl) (fun _ _ _ h => h) (v := ?_) (yi_run rfl (fun w => ?_)) (fun _ => HS.out) ?_
          rotate_left
          · first | (go_simp; done) | (go_simp; with_reducible rfl)
          simp only [Act.put, List.setIfInBounds_toArray, List.set_cons_zero, List.set_cons_succ]
          refine lt_take 13 [14, 15, 16, 17, 18, 19, 20, 21, 22, 23, 24, 25, 26, 27, 28, 29] rfl (by kernel_rfl) (by kernel_rfl) (by kernel_rfl) (by kernel_rfl) (by kernel_rfl) (fun _ _ _ h => h) (yi_cell rfl rfl rfl (fun w hS => OW.cell hS (i := 2) (j := 0) rfl rfl) (fun w => Try.isAgg22 w)) HS.out ?_
          simp only [Act.put, List.setIfInBounds_toArray, List.set_cons_zero, List.set_cons_succ]
          refine lt_call 11 rfl (by kernel_rfl) rfl rfl ⟨_, Try.func11, by decide, by kernel_rfl⟩ [.pointer (some ⟨tb, 0, none⟩)] rfl ?_
          refine (rows_any8 HY.out (List.mem_append_left _ (List.mem_append_left _ (.tail _ (.tail _ (.tail _ (.tail _ (.head _))))))) (fun o ho => List.mem_append_left _ (List.mem_append_left _ (.tail _ (.tail _ (.tail _ (.tail _ (.tail _ (.tail _ (.tail _ ho))))))))) HTB.out HTLA.out.2).mono ?_
          rintro e q11 ⟨Af, mf, cf, rf, rfl, hlen, hcol, hz⟩
          have HL11 : Hid (Col rf (L) ∧ mf ≤ 1000000) := Lib.hid ⟨by rw [← HLB.out]; exact hcol, by have := HTLA.out; have h9 := hlen; rw [Tr.ents_len] at h9; omega⟩
          replace HY : Hid (OW w ((((boxO gk [lv, wv] :: rowO 28 1 lv KS.length vals :: rowO 28 1 wv KS.length ws :: boxO ta (tabC tra false) :: boxO tb (tabC trb false) :: boxO g7 [.slice A n c, .bool false] :: boxO g3 [.slice e0.A e0.e.row.length e0.c, .int .i64 e0.e.fam, .slice e0.B e0.e.qual.length e0.d, .int .i64 e0.e.ts, .int .i64 e0.e.seq, .int .i64 e0.e.kind, .slice e0.D e0.e.val.length e0.q] :: RR) ++ ks) ++ listO8 Ae me ce re) ++ listO8 Af mf cf rf) q11) := Lib.hid hz
          replace HS : Hid (OW w (boxO ta (tabC tra false) :: boxO tb (tabC trb false) :: boxO g7 [.slice A n c, .bool false] :: boxO g3 [.slice e0.A e0.e.row.length e0.c, .int .i64 e0.e.fam, .slice e0.B e0.e.qual.length e0.d, .int .i64 e0.e.ts, .int .i64 e0.e.seq, .int .i64 e0.e.kind, .slice e0.D e0.e.val.length e0.q] :: RR) q11) := Lib.hid (((HY.out.left.left.left.erase 0).erase 0).erase 0)
          clear hlen hcol hz
          refine ⟨_, rfl, fun _ => HS.out, ?_⟩
          simp only [Act.put, List.setIfInBounds_toArray, List.set_cons_zero, List.set_cons_succ]
          refine lt_call 14 rfl (by kernel_rfl) rfl rfl ⟨_, Try.func19, by decide, by kernel_rfl⟩ [.slice Af mf cf, .slice A n c] rfl ?_
          have hle1 : Ens _ Af mf (L) := HL11.out.1.ensm (c := cf) HY.out fun o ho => List.mem_append_right _ ho
          have hle2 : Ens _ A n (L) := (HRTL.out.more fun o ho => List.mem_append_left _ (List.mem_append_left _ (List.mem_append_left _ (.tail _ (.tail _ (.tail _ (.tail _ (.tail _ (.tail _ (.tail _ ho)))))))))).lin.ens HY.out
          refine (sameListM hle1 hle2 HL11.out.2).mono ?_
          rintro e q14 ⟨rfl, hb⟩
          replace HY := Lib.hid (HY.out.later hb)
          replace HS : Hid (OW w (boxO ta (tabC tra false) :: boxO tb (tabC trb false) :: boxO g7 [.slice A n c, .bool false] :: boxO g3 [.slice e0.A e0.e.row.length e0.c, .int .i64 e0.e.fam, .slice e0.B e0.e.qual.length e0.d, .int .i64 e0.e.ts, .int .i64 e0.e.seq, .int .i64 e0.e.kind, .slice e0.D e0.e.val.length e0.q] :: RR) q14) := Lib.hid (((HY.out.left.left.left.erase 0).erase 0).erase 0)
          clear hb hle1 hle2
          refine ⟨_, rfl, fun _ => HS.out, ?_⟩
          simp only [Act.put, List.setIfInBounds_toArray, List.set_cons_zero, List.set_cons_succ]
          refine lt_pure 15 rfl (by kernel_rfl) (by kernel_rfl) (by kernel_rfl) (by kernel_rfl) (fun _ _ _ h => h) (v := ?_) (yi_run rfl (fun w => ?_)) (fun _ => HS.out) ?_
          rotate_left
          · first | (go_simp; done) | (go_simp; with_reducible rfl)
          simp only [Act.put, List.setIfInBounds_toArray, List.set_cons_zero, List.set_cons_succ]
          refine lt_pure 16 rfl (by kernel_rfl) (by kernel_rfl) (by kernel_rfl) (by kernel_rfl) (fun _ _ _ h => h) (v := ?_) (yi_run rfl (fun w => ?_)) (fun _ => HS.out) ?_
          rotate_left
          · first | (go_simp; done) | (go_simp; with_reducible rfl)
          simp only [Act.put, List.setIfInBounds_toArray, List.set_cons_zero, List.set_cons_succ]
          refine lt_pure 17 rfl (by kernel_rfl) (by kernel_rfl) (by kernel_rfl) (by kernel_rfl) (fun _ _ _ h => h) (v := ?_) (yi_run rfl (fun w => ?_)) (fun _ => HS.out) ?_
          rotate_left
          · first | (go_simp; done) | (go_simp; with_reducible rfl)
          simp only [Act.put, List.setIfInBounds_toArray, List.set_cons_zero, List.set_cons_succ]
          refine lt_take 18 [19, 22, 23, 24, 25, 26, 27, 28, 29] rfl (by kernel_rfl) (by kernel_rfl) (by kernel_rfl) (by kernel_rfl) (by kernel_rfl) (fun _ _ _ h => h) (yi_row rfl rfl rfl (fun w hS => OW.range hS (i := 3) rfl) ent_row8) HS.out ?_
          simp only [Act.put, List.setIfInBounds_toArray, List.set_cons_zero, List.set_cons_succ]
          refine lt_take 20 [22, 23, 24, 25, 26, 27, 28, 29] rfl (by kernel_rfl) (by kernel_rfl) (by kernel_rfl) (by kernel_rfl) (by kernel_rfl) (fun _ _ _ h => h) (yi_row rfl rfl rfl (fun w hS => OW.range hS (i := 2) rfl) tabR_row) HS.out ?_
          simp only [Act.put, List.setIfInBounds_toArray, List.set_cons_zero, List.set_cons_succ]
          refine lt_take 21 [22, 23, 24, 25, 26, 27, 28, 29] rfl (by kernel_rfl) (by kernel_rfl) (by kernel_rfl) (by kernel_rfl) (by kernel_rfl) (fun _ _ _ h => h) (yi_row rfl rfl rfl (fun w hS => OW.range hS (i := 3) rfl) ent_row8) HS.out ?_
          simp only [Act.put, List.setIfInBounds_toArray, List.set_cons_zero, List.set_cons_succ]
          refine lt_call 19 rfl (by kernel_rfl) rfl rfl ⟨_, Try.func17, by decide, by kernel_rfl⟩ [.pointer (some ⟨ta, 0, none⟩), .agg #[.slice e0.A e0.e.row.length e0.c, .int .i64 e0.e.fam, .slice e0.B e0.e.qual.length e0.d, .int .i64 e0.e.ts, .int .i64 e0.e.seq, .int .i64 e0.e.kind, .slice e0.D e0.e.val.length e0.q]] rfl ?_
          refine (from_any8 e0 HY.out (List.mem_append_left _ (List.mem_append_left _ (List.mem_append_left _ (.tail _ (.tail _ (.tail _ (.head _))))))) (fun o ho => List.mem_append_left _ (List.mem_append_left _ (List.mem_append_left _ (.tail _ (.tail _ (.tail _ (.tail _ (.tail _ (.tail _ (.tail _ ho)))))))))) HTA.out HTLA.out.1 (HE0.out _ HY.out.up) HSZ.out).mono ?_
          rintro e q19 ⟨Ag, mg_, cg, rg, rfl, hlen, hcol, hz⟩
          have HL19 : Hid (Col rg (fromE L e0.e) ∧ mg_ ≤ 1000000) := Lib.hid ⟨by rw [← HLA.out, ← fromM_same HASC.out.1]; exact hcol, by have := HTLA.out; have h9 := hlen; rw [fromM_same HASC.out.1] at h9; have h8 := fromE_le tra.ents e0.e; rw [Tr.ents_len] at h8; omega⟩
          replace HY : Hid (OW w (((((boxO gk [lv, wv] :: rowO 28 1 lv KS.length vals :: rowO 28 1 wv KS.length ws :: boxO ta (tabC tra false) :: boxO tb (tabC trb false) :: boxO g7 [.slice A n c, .bool false] :: boxO g3 [.slice e0.A e0.e.row.length e0.c, .int .i64 e0.e.fam, .slice e0.B e0.e.qual.length e0.d, .int .i64 e0.e.ts, .int .i64 e0.e.seq, .int .i64 e0.e.kind, .slice e0.D e0.e.val.length e0.q] :: RR) ++ ks) ++ listO8 Ae me ce re) ++ listO8 Af mf cf rf) ++ listO8 Ag mg_ cg rg) q19) := Lib.hid hz
          replace HS : Hid (OW w (boxO ta (tabC tra false) :: boxO tb (tabC trb false) :: boxO g7 [.slice A n c, .bool false] :: boxO g3 [.slice e0.A e0.e.row.length e0.c, .int .i64 e0.e.fam, .slice e0.B e0.e.qual.length e0.d, .int .i64 e0.e.ts, .int .i64 e0.e.seq, .int .i64 e0.e.kind, .slice e0.D e0.e.val.length e0.q] :: RR) q19) := Lib.hid (((HY.out.left.left.left.left.erase 0).erase 0).erase 0)
          clear hlen hcol hz
          refine ⟨_, rfl, fun _ => HS.out, ?_⟩
          simp only [Act.put, List.setIfInBounds_toArray, List.set_cons_zero, List.set_cons_succ]
          refine lt_call 22 rfl (by kernel_rfl) rfl rfl ⟨_, Try.func18, by decide, by kernel_rfl⟩ [.agg #[.slice A n c, .bool false], .agg #[.slice e0.A e0.e.row.length e0.c, .int .i64 e0.e.fam, .slice e0.B e0.e.qual.length e0.d, .int .i64 e0.e.ts, .int .i64 e0.e.seq, .int .i64 e0.e.kind, .slice e0.D e0.e.val.length e0.q]] rfl ?_
          refine (rfrom8_any HY.out (HRTL.out.more fun o ho => List.mem_append_left _ (List.mem_append_left _ (List.mem_append_left _ (List.mem_append_left _ (.tail _ (.tail _ (.tail _ (.tail _ (.tail _ (.tail _ (.tail _ ho))))))))))) (by omega) e0 (fun z hz => HE0.out z hz.up)).mono ?_
          rintro e q22 ⟨Ax, nx, cx, rfl, hz, hlin⟩
          have HLX : Hid (Ens q22 Ax nx (fromE L e0.e)) := Lib.hid (hlin.ens hz)
          replace HY : Hid (OW w (((((boxO gk [lv, wv] :: rowO 28 1 lv KS.length vals :: rowO 28 1 wv KS.length ws :: boxO ta (tabC tra false) :: boxO tb (tabC trb false) :: boxO g7 [.slice A n c, .bool false] :: boxO g3 [.slice e0.A e0.e.row.length e0.c, .int .i64 e0.e.fam, .slice e0.B e0.e.qual.length e0.d, .int .i64 e0.e.ts, .int .i64 e0.e.seq, .int .i64 e0.e.kind, .slice e0.D e0.e.val.length e0.q] :: RR) ++ ks) ++ listO8 Ae me ce re) ++ listO8 Af mf cf rf) ++ listO8 Ag mg_ cg rg) q22) := Lib.hid hz
          replace HS : Hid (OW w (boxO ta (tabC tra false) :: boxO tb (tabC trb false) :: boxO g7 [.slice A n c, .bool false] :: boxO g3 [.slice e0.A e0.e.row.length e0.c, .int .i64 e0.e.fam, .slice e0.B e0.e.qual.length e0.d, .int .i64 e0.e.ts, .int .i64 e0.e.seq, .int .i64 e0.e.kind, .slice e0.D e0.e.val.length e0.q] :: RR) q22) := Lib.hid (((HY.out.left.left.left.left.erase 0).erase 0).erase 0)
          clear hz hlin
          refine ⟨_, rfl, fun _ => HS.out, ?_⟩
          simp only [Act.put, List.setIfInBounds_toArray, List.set_cons_zero, List.set_cons_succ]
          refine lt_call 23 rfl (by kernel_rfl) rfl rfl ⟨_, Try.func19, by decide, by kernel_rfl⟩ [.slice Ag mg_ cg, .slice Ax nx cx] rfl ?_
          have hle1 : Ens _ Ag mg_ (fromE L e0.e) := HL19.out.1.ensm (c := cg) HY.out fun o ho => List.mem_append_right _ ho
          have hle2 : Ens _ Ax nx (fromE L e0.e) := HLX.out
          refine (sameListM hle1 hle2 HL19.out.2).mono ?_
          rintro e q23 ⟨rfl, hb⟩
          replace HY := Lib.hid (HY.out.later hb)
          replace HS : Hid (OW w (boxO ta (tabC tra false) :: boxO tb (tabC trb false) :: boxO g7 [.slice A n c, .bool false] :: boxO g3 [.slice e0.A e0.e.row.length e0.c, .int .i64 e0.e.fam, .slice e0.B e0.e.qual.length e0.d, .int .i64 e0.e.ts, .int .i64 e0.e.seq, .int .i64 e0.e.kind, .slice e0.D e0.e.val.length e0.q] :: RR) q23) := Lib.hid (((HY.out.left.left.left.left.erase 0).erase 0).erase 0)
          clear hb hle1 hle2
          refine ⟨_, rfl, fun _ => HS.out, ?_⟩
          simp only [Act.put, List.setIfInBounds_toArray, List.set_cons_zero, List.set_cons_succ]
          refine lt_pure 24 rfl (by kernel_rfl) (by kernel_rfl) (by kernel_rfl) (by kernel_rfl) (fun _ _ _ h => h) (v := ?_) (yi_run rfl (fun w => ?_)) (fun _ => HS.out) ?_
          rotate_left
          · first | (go_simp; done) | (go_simp; with_reducible rfl)
          simp only [Act.put, List.setIfInBounds_toArray, List.set_cons_zero, List.set_cons_succ]
          refine lt_pure 25 rfl (by kernel_rfl) (by kernel_rfl) (by kernel_rfl) (by kernel_rfl) (fun _ _ _ h => h) (v := ?_) (yi_run rfl (fun w => ?_)) (fun _ => HS.out) ?_
          rotate_left
          · first | (go_simp; done) | (go_simp; with_reducible rfl)
          simp only [Act.put, List.setIfInBounds_toArray, List.set_cons_zero, List.set_cons_succ]
          refine lt_pure 26 rfl (by kernel_rfl) (by kernel_rfl) (by kernel_rfl) (by kernel_rfl) (fun _ _ _ h => h) (v := ?_) (yi_run rfl (fun w => ?_)) (fun _ => HS.out) ?_
          rotate_left
          · first | (go_simp; done) | (go_simp; with_reducible rfl)
          simp only [Act.put, List.setIfInBounds_toArray, List.set_cons_zero, List.set_cons_succ]
          refine lt_call 27 rfl (by kernel_rfl) rfl rfl ⟨_, Try.func22, by decide, by kernel_rfl⟩ [.pointer (some ⟨gk, 0, none⟩)] rfl ?_
          refine (settledM (w := w) (os := boxO ta (tabC tra false) :: boxO tb (tabC trb false) :: boxO g7 [.slice A n c, .bool false] :: boxO g3 [.slice e0.A e0.e.row.length e0.c, .int .i64 e0.e.fam, .slice e0.B e0.e.qual.length e0.d, .int .i64 e0.e.ts, .int .i64 e0.e.seq, .int .i64 e0.e.kind, .slice e0.D e0.e.val.length e0.q] :: RR) ⟨lv, wv, vals, ws, ks, HY.out.left.left.left, HVL.out, HMK.out⟩ (by omega)).mono ?_
          rintro e q27 ⟨rfl, hz⟩
          rw [← hz]
          clear hz
          refine ⟨_, rfl, fun _ => HS.out, ?_⟩
          simp only [Act.put, List.setIfInBounds_toArray, List.set_cons_zero, List.set_cons_succ]
          refine lt_pure 28 rfl (by kernel_rfl) (by kernel_rfl) (by kernel_rfl) (by kernel_rfl) (fun _ _ _ h => h) (v := ?_) (yi_run rfl (fun w => ?_)) (fun _ => HS.out) ?_
          rotate_left
          · first | (go_simp; done) | (go_simp; with_reducible rfl)
          simp only [Act.put, List.setIfInBounds_toArray, List.set_cons_zero, List.set_cons_succ]
          refine lt_pure 29 rfl (by kernel_rfl) (by kernel_rfl) (by kernel_rfl) (by kernel_rfl) (fun _ _ _ h => h) (v := ?_) (yi_run rfl (fun w => ?_)) (fun _ => HS.out) ?_
          rotate_left
          · first | (go_simp; done) | (go_simp; with_reducible rfl)
          simp only [Act.put, List.setIfInBounds_toArray, List.set_cons_zero, List.set_cons_succ]
          refine lt_done (by kernel_rfl) ?_
          have HFIN := Lib.hid HS.out.up
          clear HS HY
          go_wp2_with fail
          go_ret
          exact ⟨rfl, HFIN.out⟩
        have d2 : decide ((i2 : Int) < 2) = true := decide_eq_true (by omega)
        go_wp2_with fail
        clear d2
        obtain ⟨d, hd, ho⟩ := HK.out
        have HD := Lib.hid hd
        have HO := Lib.hid ho
        clear hd ho HK
        refine lt_start [] (by kernel_rfl) ?_
        intro xd hd
        refine ⟨fun z => OW w (kmO gk d ++ (boxO ta (tabC tra false) :: boxO tb (tabC trb false) :: boxO g7 [.slice A n c, .bool false] :: boxO g3 [.slice e0.A e0.e.row.length e0.c, .int .i64 e0.e.fam, .slice e0.B e0.e.qual.length e0.d, .int .i64 e0.e.ts, .int .i64 e0.e.seq, .int .i64 e0.e.kind, .slice e0.D e0.e.val.length e0.q] :: RR)) z, ?_⟩
        have HS := Lib.hid (HO.out.later hd)
        refine lt_pure 0 rfl (by kernel_rfl) (by kernel_rfl) (by kernel_rfl) (by kernel_rfl) (fun _ _ _ h => h) (v := ?_) (yi_run rfl (fun w => ?_)) (fun _ => HS.out) ?_
        rotate_left
        · first | (go_simp; done) | (go_simp; with_reducible rfl)
        simp only [Act.put, List.setIfInBounds_toArray, List.set_cons_zero, List.set_cons_succ]
        refine lt_take 1 [2, 5, 7, 9, 10, 11] rfl (by kernel_rfl) (by kernel_rfl) (by kernel_rfl) (by kernel_rfl) (by kernel_rfl) (fun _ _ _ h => h) (yi_row rfl rfl rfl (fun w hS => OW.rangem hS (List.mem_append_right _ (.tail _ (.tail _ (.tail _ (.head _)))))) ent_row8) HS.out ?_
        simp only [Act.put, List.setIfInBounds_toArray, List.set_cons_zero, List.set_cons_succ]
        refine lt_pure 3 rfl (by kernel_rfl) (by kernel_rfl) (by kernel_rfl) (by kernel_rfl) (fun _ _ _ h => h) (v := ?_) (yi_run rfl (fun w => ?_)) (fun _ => HS.out) ?_
        rotate_left
        · first | (go_simp; done) | (go_simp; with_reducible rfl)
        simp only [Act.put, List.setIfInBounds_toArray, List.set_cons_zero, List.set_cons_succ]
        refine lt_take 4 [5, 7, 9, 10, 11] rfl (by kernel_rfl) (by kernel_rfl) (by kernel_rfl) (by kernel_rfl) (by kernel_rfl) (fun _ _ _ h => h) (yi_row rfl rfl rfl (fun w hS => OW.rangem hS (List.mem_append_right _ (.tail _ (.tail _ (.tail _ (.head _)))))) ent_row8) HS.out ?_
        simp only [Act.put, List.setIfInBounds_toArray, List.set_cons_zero, List.set_cons_succ]
        refine lt_pure 6 rfl (by kernel_rfl) (by kernel_rfl) (by kernel_rfl) (by kernel_rfl) (fun _ _ _ h => h) (v := ?_) (yi_run rfl (fun w => ?_)) (fun _ => HS.out) ?_
        rotate_left
        · first | (go_simp; done) | (go_simp; with_reducible rfl)
        simp only [Act.put, List.setIfInBounds_toArray, List.set_cons_zero, List.set_cons_succ]
        refine lt_pure 8 rfl (by kernel_rfl) (by kernel_rfl) (by kernel_rfl) (by kernel_rfl) (fun _ _ _ h => h) (v := ?_) (yi_run rfl (fun w => ?_)) (fun _ => HS.out) ?_
        rotate_left
        · first | (go_simp; done) | (go_simp; with_reducible rfl)
        simp only [Act.put, List.setIfInBounds_toArray, List.set_cons_zero, List.set_cons_succ]
        refine lt_call 2 rfl (by kernel_rfl) rfl rfl ⟨_, Try.func17, by decide, by kernel_rfl⟩ [.pointer (some ⟨ta, 0, none⟩), .agg #[.slice e0.A e0.e.row.length e0.c, .int .i64 e0.e.fam, .slice e0.B e0.e.qual.length e0.d, .int .i64 e0.e.ts, .int .i64 e0.e.seq, .int .i64 e0.e.kind, .slice e0.D e0.e.val.length e0.q]] rfl ?_
        refine (from_any8 e0 HS.out (List.mem_append_right _ (.head _)) (fun o ho => List.mem_append_right _ (.tail _ (.tail _ (.tail _ (.tail _ ho))))) HTA.out HTLA.out.1 (HE0.out _ HS.out.up) HSZ.out).mono ?_
        rintro e v0 ⟨Aa, ma, ca, ra, rfl, hlen, hcol, hz⟩
        have HNA : Hid ((wantE L e0.e 0).length = ma) := Lib.hid (by show (fromE L e0.e).length = _; rw [← HLA.out, ← fromM_same HASC.out.1]; exact hlen)
        have HCA : Hid (Col ra (wantE L e0.e 0)) := Lib.hid (by show Col _ (fromE L e0.e); rw [← HLA.out, ← fromM_same HASC.out.1]; exact hcol)
        have HRA : Hid (ra.length = ma) := Lib.hid (by rw [hcol.len]; exact hlen)
        have HY : Hid (OW w (((kmO gk d ++ (boxO ta (tabC tra false) :: boxO tb (tabC trb false) :: boxO g7 [.slice A n c, .bool false] :: boxO g3 [.slice e0.A e0.e.row.length e0.c, .int .i64 e0.e.fam, .slice e0.B e0.e.qual.length e0.d, .int .i64 e0.e.ts, .int .i64 e0.e.seq, .int .i64 e0.e.kind, .slice e0.D e0.e.val.length e0.q] :: RR)) ++ listO8 Aa ma ca ra)) v0) := Lib.hid hz
        replace HS : Hid (OW w (kmO gk d ++ (boxO ta (tabC tra false) :: boxO tb (tabC trb false) :: boxO g7 [.slice A n c, .bool false] :: boxO g3 [.slice e0.A e0.e.row.length e0.c, .int .i64 e0.e.fam, .slice e0.B e0.e.qual.length e0.d, .int .i64 e0.e.ts, .int .i64 e0.e.seq, .int .i64 e0.e.kind, .slice e0.D e0.e.val.length e0.q] :: RR)) v0) := Lib.hid hz.left
        clear hlen hcol hz
        refine ⟨_, rfl, fun _ => HS.out, ?_⟩
        simp only [Act.put, List.setIfInBounds_toArray, List.set_cons_zero, List.set_cons_succ]
        refine lt_call 5 rfl (by kernel_rfl) rfl rfl ⟨_, Try.func17, by decide, by kernel_rfl⟩ [.pointer (some ⟨tb, 0, none⟩), .agg #[.slice e0.A e0.e.row.length e0.c, .int .i64 e0.e.fam, .slice e0.B e0.e.qual.length e0.d, .int .i64 e0.e.ts, .int .i64 e0.e.seq, .int .i64 e0.e.kind, .slice e0.D e0.e.val.length e0.q]] rfl ?_
        refine (from_any8 e0 HY.out (List.mem_append_left _ (List.mem_append_right _ (.tail _ (.head _)))) (fun o ho => List.mem_append_left _ (List.mem_append_right _ (.tail _ (.tail _ (.tail _ (.tail _ ho)))))) HTB.out HTLA.out.2 (HE0.out _ HY.out.up) HSZ.out).mono ?_
        rintro e v1 ⟨Ab, mb, cb, rb, rfl, hlen, hcol, hz⟩
        have HNB : Hid ((wantE L e0.e 1).length = mb) := Lib.hid (by show (fromE L e0.e).length = _; rw [← HLB.out, ← fromM_same HASC.out.2]; exact hlen)
        have HCB : Hid (Col rb (wantE L e0.e 1)) := Lib.hid (by show Col _ (fromE L e0.e); rw [← HLB.out, ← fromM_same HASC.out.2]; exact hcol)
        have HRB : Hid (rb.length = mb) := Lib.hid (by rw [hcol.len]; exact hlen)
        replace HY : Hid (OW w ((((kmO gk d ++ (boxO ta (tabC tra false) :: boxO tb (tabC trb false) :: boxO g7 [.slice A n c, .bool false] :: boxO g3 [.slice e0.A e0.e.row.length e0.c, .int .i64 e0.e.fam, .slice e0.B e0.e.qual.length e0.d, .int .i64 e0.e.ts, .int .i64 e0.e.seq, .int .i64 e0.e.kind, .slice e0.D e0.e.val.length e0.q] :: RR)) ++ listO8 Aa ma ca ra) ++ listO8 Ab mb cb rb)) v1) := Lib.hid hz
        replace HS : Hid (OW w (kmO gk d ++ (boxO ta (tabC tra false) :: boxO tb (tabC trb false) :: boxO g7 [.slice A n c, .bool false] :: boxO g3 [.slice e0.A e0.e.row.length e0.c, .int .i64 e0.e.fam, .slice e0.B e0.e.qual.length e0.d, .int .i64 e0.e.ts, .int .i64 e0.e.seq, .int .i64 e0.e.kind, .slice e0.D e0.e.val.length e0.q] :: RR)) v1) := Lib.hid hz.left.left
        clear hlen hcol hz
        refine ⟨_, rfl, fun _ => HS.out, ?_⟩
        simp only [Act.put, List.setIfInBounds_toArray, List.set_cons_zero, List.set_cons_succ]
        refine lt_call 7 rfl (by kernel_rfl) rfl rfl ⟨_, Try.func11, by decide, by kernel_rfl⟩ [.pointer (some ⟨ta, 0, none⟩)] rfl ?_
        refine (rows_any8 HY.out (List.mem_append_left _ (List.mem_append_left _ (List.mem_append_right _ (.head _)))) (fun o ho => List.mem_append_left _ (List.mem_append_left _ (List.mem_append_right _ (.tail _ (.tail _ (.tail _ (.tail _ ho))))))) HTA.out HTLA.out.1).mono ?_
        rintro e v2 ⟨Ac, mc, cc, rc, rfl, hlen, hcol, hz⟩
        have HNC : Hid ((wantE L e0.e 2).length = mc) := Lib.hid (by show L.length = _; rw [← HLA.out]; exact hlen)
        have HCC : Hid (Col rc (wantE L e0.e 2)) := Lib.hid (by show Col _ L; rw [← HLA.out]; exact hcol)
        have HRC : Hid (rc.length = mc) := Lib.hid (by rw [hcol.len]; exact hlen)
        replace HY : Hid (OW w (((((kmO gk d ++ (boxO ta (tabC tra false) :: boxO tb (tabC trb false) :: boxO g7 [.slice A n c, .bool false] :: boxO g3 [.slice e0.A e0.e.row.length e0.c, .int .i64 e0.e.fam, .slice e0.B e0.e.qual.length e0.d, .int .i64 e0.e.ts, .int .i64 e0.e.seq, .int .i64 e0.e.kind, .slice e0.D e0.e.val.length e0.q] :: RR)) ++ listO8 Aa ma ca ra) ++ listO8 Ab mb cb rb) ++ listO8 Ac mc cc rc)) v2) := Lib.hid hz
        replace HS : Hid (OW w (kmO gk d ++ (boxO ta (tabC tra false) :: boxO tb (tabC trb false) :: boxO g7 [.slice A n c, .bool false] :: boxO g3 [.slice e0.A e0.e.row.length e0.c, .int .i64 e0.e.fam, .slice e0.B e0.e.qual.length e0.d, .int .i64 e0.e.ts, .int .i64 e0.e.seq, .int .i64 e0.e.kind, .slice e0.D e0.e.val.length e0.q] :: RR)) v2) := Lib.hid hz.left.left.left
        clear hlen hcol hz
        refine ⟨_, rfl, fun _ => HS.out, ?_⟩
        simp only [Act.put, List.setIfInBounds_toArray, List.set_cons_zero, List.set_cons_succ]
        refine lt_call 9 rfl (by kernel_rfl) rfl rfl ⟨_, Try.func11, by decide, by kernel_rfl⟩ [.pointer (some ⟨tb, 0, none⟩)] rfl ?_
        refine (rows_any8 HY.out (List.mem_append_left _ (List.mem_append_left _ (List.mem_append_left _ (List.mem_append_right _ (.tail _ (.head _)))))) (fun o ho => List.mem_append_left _ (List.mem_append_left _ (List.mem_append_left _ (List.mem_append_right _ (.tail _ (.tail _ (.tail _ (.tail _ ho)))))))) HTB.out HTLA.out.2).mono ?_
        rintro e v3 ⟨Ad, md, cd, rd, rfl, hlen, hcol, hz⟩
        have HND : Hid ((wantE L e0.e 3).length = md) := Lib.hid (by show L.length = _; rw [← HLB.out]; exact hlen)
        have HCD : Hid (Col rd (wantE L e0.e 3)) := Lib.hid (by show Col _ L; rw [← HLB.out]; exact hcol)
        have HRD : Hid (rd.length = md) := Lib.hid (by rw [hcol.len]; exact hlen)
        replace HY : Hid (OW w ((((((kmO gk d ++ (boxO ta (tabC tra false) :: boxO tb (tabC trb false) :: boxO g7 [.slice A n c, .bool false] :: boxO g3 [.slice e0.A e0.e.row.length e0.c, .int .i64 e0.e.fam, .slice e0.B e0.e.qual.length e0.d, .int .i64 e0.e.ts, .int .i64 e0.e.seq, .int .i64 e0.e.kind, .slice e0.D e0.e.val.length e0.q] :: RR)) ++ listO8 Aa ma ca ra) ++ listO8 Ab mb cb rb) ++ listO8 Ac mc cc rc) ++ listO8 Ad md cd rd)) v3) := Lib.hid hz
        replace HS : Hid (OW w (kmO gk d ++ (boxO ta (tabC tra false) :: boxO tb (tabC trb false) :: boxO g7 [.slice A n c, .bool false] :: boxO g3 [.slice e0.A e0.e.row.length e0.c, .int .i64 e0.e.fam, .slice e0.B e0.e.qual.length e0.d, .int .i64 e0.e.ts, .int .i64 e0.e.seq, .int .i64 e0.e.kind, .slice e0.D e0.e.val.length e0.q] :: RR)) v3) := Lib.hid hz.left.left.left.left
        clear hlen hcol hz
        refine ⟨_, rfl, fun _ => HS.out, ?_⟩
        simp only [Act.put, List.setIfInBounds_toArray, List.set_cons_zero, List.set_cons_succ]
        refine lt_op 10 rfl (by kernel_rfl) rfl ?_
        refine wpo_build rfl #[.slice Aa ma ca, .slice Ab mb cb, .slice Ac mc cc, .slice Ad md cd] entss8 (.slice none 0 0) (by kernel_rfl) (by decide) (by decide) (by decide) rfl (by kernel_rfl) HY.out ?_
        intro g13 zl hz hb
        replace HY : Hid (OW w ((((((kmO gk d ++ (boxO ta (tabC tra false) :: boxO tb (tabC trb false) :: boxO g7 [.slice A n c, .bool false] :: boxO g3 [.slice e0.A e0.e.row.length e0.c, .int .i64 e0.e.fam, .slice e0.B e0.e.qual.length e0.d, .int .i64 e0.e.ts, .int .i64 e0.e.seq, .int .i64 e0.e.kind, .slice e0.D e0.e.val.length e0.q] :: RR)) ++ listO8 Aa ma ca ra) ++ listO8 Ab mb cb rb) ++ listO8 Ac mc cc rc) ++ listO8 Ad md cd rd) ++ [rowO 22 1 (.slice (some ⟨g13, 0, none⟩) 4 4) 4 [.slice Aa ma ca, .slice Ab mb cb, .slice Ac mc cc, .slice Ad md cd]]) zl) := Lib.hid hz
        replace HS := Lib.hid (HS.out.later hb)
        clear hz hb
        refine ⟨fun _ => HS.out, ?_⟩
        simp only [Act.put, List.setIfInBounds_toArray, List.set_cons_zero, List.set_cons_succ]
        refine lt_pure 11 rfl (by kernel_rfl) (by kernel_rfl) (by kernel_rfl) (by kernel_rfl) (fun _ _ _ h => h) (v := ?_) (yi_run rfl (fun w => ?_)) (fun _ => HS.out) ?_
        rotate_left
        · first | (go_simp; done) | (go_simp; with_reducible rfl)
        simp only [Act.put, List.setIfInBounds_toArray, List.set_cons_zero, List.set_cons_succ]
        refine lt_done (by kernel_rfl) ?_
        clear HS
        obtain ⟨ls, hls⟩ : ∃ z, z = [(⟨Aa, ma, ca, ra⟩ : LL), ⟨Ab, mb, cb, rb⟩, ⟨Ac, mc, cc, rc⟩, ⟨Ad, md, cd, rd⟩] := ⟨_, rfl⟩
        have HK1 : Hid (KM w zl gk KS ((rowO 22 1 (.slice (some ⟨g13, 0, none⟩) 4 4) 4 [.slice Aa ma ca, .slice Ab mb cb, .slice Ac mc cc, .slice Ad md cd] :: boxO ta (tabC tra false) :: boxO tb (tabC trb false) :: boxO g7 [.slice A n c, .bool false] :: boxO g3 [.slice e0.A e0.e.row.length e0.c, .int .i64 e0.e.fam, .slice e0.B e0.e.qual.length e0.d, .int .i64 e0.e.ts, .int .i64 e0.e.seq, .int .i64 e0.e.kind, .slice e0.D e0.e.val.length e0.q] :: RR) ++ (ls.drop 0).flatMap LL.obs)) := Lib.hid ⟨d, HD.out, by
          rw [hls]
          exact HY.out.perm (lent_perm _ _ _ _ _ _ _)⟩
        have HLS : Hid (∀ c, c < 4 → ∃ l, ls[c]? = some l ∧ Col l.rs (wantE L e0.e c) ∧ l.n ≤ 30 ∧ l.rs.length = l.n) := Lib.hid fun c hc => by
          have hw : ∀ k, (wantE L e0.e k).length ≤ 30 := fun k => Nat.le_trans (wantE_le L e0.e k) HLL.out
          rw [hls]
          match c, hc with
          | 0, _ => exact ⟨_, rfl, HCA.out, by show ma ≤ 30; have h2 := hw 0; have h3 := HNA.out; omega, HRA.out⟩
          | 1, _ => exact ⟨_, rfl, HCB.out, by show mb ≤ 30; have h2 := hw 1; have h3 := HNB.out; omega, HRB.out⟩
          | 2, _ => exact ⟨_, rfl, HCC.out, by show mc ≤ 30; have h2 := hw 2; have h3 := HNC.out; omega, HRC.out⟩
          | 3, _ => exact ⟨_, rfl, HCD.out, by show md ≤ 30; have h2 := hw 3; have h3 := HND.out; omega, HRD.out⟩
        have HLV : Hid ([Value.slice Aa ma ca, .slice Ab mb cb, .slice Ac mc cc, .slice Ad md cd] = ls.map LL.v) := Lib.hid (by rw [hls]; rfl)
        clear hls HY HD HO HCA HCB HCC HCD HNA HNB HNC HND HRA HRB HRC HRD
        go_wp2_with fail
        go_loopw [14] (fun iv wr => ∃ (k : Nat) (KS2 : List (List UInt8)), k ≤ 4 ∧ iv = .int .i64 k ∧ KS2.length ≤ 360 * i2 + 90 * k ∧ Hid (KM w wr gk KS2 ((rowO 22 1 (.slice (some ⟨g13, 0, none⟩) 4 4) 4 [.slice Aa ma ca, .slice Ab mb cb, .slice Ac mc cc, .slice Ad md cd] :: boxO ta (tabC tra false) :: boxO tb (tabC trb false) :: boxO g7 [.slice A n c, .bool false] :: boxO g3 [.slice e0.A e0.e.row.length e0.c, .int .i64 e0.e.fam, .slice e0.B e0.e.qual.length e0.d, .int .i64 e0.e.ts, .int .i64 e0.e.seq, .int .i64 e0.e.kind, .slice e0.D e0.e.val.length e0.q] :: RR) ++ (ls.drop k).flatMap LL.obs))) (fun iv _ => 4 - (intOf iv).toNat)
        case atStart => exact ⟨0, KS, Nat.zero_le _, rfl, by omega, HK1⟩
        case round =>
          clear HK1
          obtain ⟨k, KS2, hk4, rfl, hKS2, HK⟩ := hrel
          by_cases hk : k < 4
          case neg =>
            obtain rfl : k = 4 := by omega
            have d3 : decide (((4 : Nat) : Int) < 4) = false := by decide
            go_wp2_with fail
            go_roundw
            case rel => exact ⟨i2 + 1, KS2, by omega, by go_num, by omega, Lib.hid (HK.out.sub ((List.Sublist.refl _).cons _ |>.trans (List.sublist_append_left _ _)))⟩
            case measure => simp [intOf]; omega
          have d3 : decide ((k : Int) < 4) = true := decide_eq_true (by omega)
          obtain ⟨l, hl, hcol, hl30, hrn⟩ := HLS.out k hk
          have HLK := Lib.hid hl
          have HCOL := Lib.hid hcol
          have HRN := Lib.hid hrn
          have HDR : Hid ((ls.drop k).flatMap LL.obs = listO8 l.A l.n l.c l.rs ++ (ls.drop (k + 1)).flatMap LL.obs) := Lib.hid (by rw [drop_atM hl, List.flatMap_cons]; rfl)
          have HK5 : Hid (KM w wr gk KS2 ((rowO 22 1 (.slice (some ⟨g13, 0, none⟩) 4 4) 4 [.slice Aa ma ca, .slice Ab mb cb, .slice Ac mc cc, .slice Ad md cd] :: boxO ta (tabC tra false) :: boxO tb (tabC trb false) :: boxO g7 [.slice A n c, .bool false] :: boxO g3 [.slice e0.A e0.e.row.length e0.c, .int .i64 e0.e.fam, .slice e0.B e0.e.qual.length e0.d, .int .i64 e0.e.ts, .int .i64 e0.e.seq, .int .i64 e0.e.kind, .slice e0.D e0.e.val.length e0.q] :: RR) ++ (listO8 l.A l.n l.c l.rs ++ (ls.drop (k + 1)).flatMap LL.obs))) := Lib.hid (by rw [← HDR.out]; exact HK.out)
          have HRW : Hid (∀ z X, OW w ((rowO 22 1 (.slice (some ⟨g13, 0, none⟩) 4 4) 4 [.slice Aa ma ca, .slice Ab mb cb, .slice Ac mc cc, .slice Ad md cd] :: boxO ta (tabC tra false) :: boxO tb (tabC trb false) :: boxO g7 [.slice A n c, .bool false] :: boxO g3 [.slice e0.A e0.e.row.length e0.c, .int .i64 e0.e.fam, .slice e0.B e0.e.qual.length e0.d, .int .i64 e0.e.ts, .int .i64 e0.e.seq, .int .i64 e0.e.kind, .slice e0.D e0.e.val.length e0.q] :: RR) ++ X) z → z.cell? ⟨g13, k, none⟩ = some (.slice l.A l.n l.c)) := Lib.hid fun z X hz => by
            have h1 := hz.row (i := 0) rfl
            exact (World.ownsRow.cellAt h1 k (by omega)).trans (by rw [HLV.out, List.getElem?_map, HLK.out]; rfl)
          have k0 : (0 : Int) ≤ (k : Int) := by omega
          have k1 : (k : Int) < 4 := by omega
          clear hl hcol hrn HK
          go_upto_if 91 with (first
            | (refine wpList_load_cell rfl 22 (.tmp 88) rfl rfl (HK5.out.rest.cell (i := 3) (j := 0) rfl rfl) (fun w => Try.isAgg22 w) ?_))
          go_cut [15] (fun v wx => ∃ (B : Option Addr) (m cw : Nat), v = .slice B m cw ∧ Hid (Ens wx B m (wantE L e0.e k)) ∧ Hid (KM w wx gk KS2 ((rowO 22 1 (.slice (some ⟨g13, 0, none⟩) 4 4) 4 [.slice Aa ma ca, .slice Ab mb cb, .slice Ac mc cc, .slice Ad md cd] :: boxO ta (tabC tra false) :: boxO tb (tabC trb false) :: boxO g7 [.slice A n c, .bool false] :: boxO g3 [.slice e0.A e0.e.row.length e0.c, .int .i64 e0.e.fam, .slice e0.B e0.e.qual.length e0.d, .int .i64 e0.e.ts, .int .i64 e0.e.seq, .int .i64 e0.e.kind, .slice e0.D e0.e.val.length e0.q] :: RR) ++ (listO8 l.A l.n l.c l.rs ++ (ls.drop (k + 1)).flatMap LL.obs))))
          case first =>
            by_cases hk2 : k < 2
            · have d5 : decide ((k : Int) < 2) = true := decide_eq_true (by omega)
              obtain ⟨d, hd, ho⟩ := HK5.out
              have HD := Lib.hid hd
              have HO := Lib.hid ho
              clear hd ho
              go_wp2_with (first
                | (refine wpList_load_row7 rfl 39 (.tmp 7) rfl rfl (HO.out.rangem (List.mem_append_right _ (.tail _ (.tail _ (.tail _ (.head _)))))) tabR_row ?_)
                | (refine wpList_load_row7 rfl 30 (.tmp 3) rfl rfl (HO.out.rangem (List.mem_append_right _ (.tail _ (.tail _ (.tail _ (.tail _ (.head _))))))) ent_row8 ?_)
                | (go_at_call 18; go_must (refine (rfrom8_any HO.out (HRTL.out.more fun o ho => List.mem_append_right _ (List.mem_append_left _ (.tail _ (.tail _ (.tail _ (.tail _ (.tail _ ho))))))) (by omega) e0 (fun z hz => HE0.out z hz.up)).mono ?_); rintro e y5 ⟨B5, m5, c5, rfl, hz, hlin⟩; have HEN5 : Hid (Ens y5 B5 m5 (wantE L e0.e k)) := Lib.hid (by unfold wantE; rw [if_pos hk2]; exact hlin.ens hz); have HK6 : Hid (KM w y5 gk KS2 ((rowO 22 1 (.slice (some ⟨g13, 0, none⟩) 4 4) 4 [.slice Aa ma ca, .slice Ab mb cb, .slice Ac mc cc, .slice Ad md cd] :: boxO ta (tabC tra false) :: boxO tb (tabC trb false) :: boxO g7 [.slice A n c, .bool false] :: boxO g3 [.slice e0.A e0.e.row.length e0.c, .int .i64 e0.e.fam, .slice e0.B e0.e.qual.length e0.d, .int .i64 e0.e.ts, .int .i64 e0.e.seq, .int .i64 e0.e.kind, .slice e0.D e0.e.val.length e0.q] :: RR) ++ (listO8 l.A l.n l.c l.rs ++ (ls.drop (k + 1)).flatMap LL.obs))) := Lib.hid ⟨d, HD.out, hz⟩; clear hz hlin HO HD HK5))
              go_meet
              exact ⟨B5, m5, c5, rfl, HEN5, HK6⟩
            · have d5 : decide ((k : Int) < 2) = false := decide_eq_false (by omega)
              have HEN5 : Hid (Ens wr A n (wantE L e0.e k)) := Lib.hid (by
                unfold wantE
                rw [if_neg hk2]
                exact (HRTL.out.more fun o ho => List.mem_append_left _ (.tail _ (.tail _ (.tail _ (.tail _ (.tail _ ho)))))).lin.ens HK5.out.rest)
              go_wp2_with fail
              go_meet
              exact ⟨A, n, c, rfl, HEN5, HK5⟩
          clear HK5 d3
          obtain ⟨B, m, cw, rfl, HENB, HK6⟩ := hcut
          have HENL : Hid (∀ z, KM w z gk KS2 ((rowO 22 1 (.slice (some ⟨g13, 0, none⟩) 4 4) 4 [.slice Aa ma ca, .slice Ab mb cb, .slice Ac mc cc, .slice Ad md cd] :: boxO ta (tabC tra false) :: boxO tb (tabC trb false) :: boxO g7 [.slice A n c, .bool false] :: boxO g3 [.slice e0.A e0.e.row.length e0.c, .int .i64 e0.e.fam, .slice e0.B e0.e.qual.length e0.d, .int .i64 e0.e.ts, .int .i64 e0.e.seq, .int .i64 e0.e.kind, .slice e0.D e0.e.val.length e0.q] :: RR) ++ (listO8 l.A l.n l.c l.rs ++ (ls.drop (k + 1)).flatMap LL.obs)) → Ens z l.A l.n (wantE L e0.e k)) := Lib.hid fun z hz => HCOL.out.ensm (c := l.c) hz.rest fun o ho => List.mem_append_right _ (List.mem_append_left _ ho)
          go_wp2_with (first
            | (refine wpList_load_cell rfl 22 (.tmp 97) rfl rfl (HRW.out _ _ HK6.out.rest) (fun w => Try.isAgg22 w) ?_)
            | (go_at_call 19; go_must (refine (sameListM (HENL.out _ HK6.out) HENB.out (by omega)).mono ?_); rintro e y6 ⟨rfl, hb⟩; have HK7 := Lib.hid (HK6.out.later hb); clear hb HK6))
          go_loopw [16] (fun iv wr => ∃ (j : Nat) (KS3 : List (List UInt8)), j ≤ l.n ∧ iv = .int .i64 j ∧ KS3.length ≤ 360 * i2 + 90 * k + 3 * j ∧ Hid (KM w wr gk KS3 ((rowO 22 1 (.slice (some ⟨g13, 0, none⟩) 4 4) 4 [.slice Aa ma ca, .slice Ab mb cb, .slice Ac mc cc, .slice Ad md cd] :: boxO ta (tabC tra false) :: boxO tb (tabC trb false) :: boxO g7 [.slice A n c, .bool false] :: boxO g3 [.slice e0.A e0.e.row.length e0.c, .int .i64 e0.e.fam, .slice e0.B e0.e.qual.length e0.d, .int .i64 e0.e.ts, .int .i64 e0.e.seq, .int .i64 e0.e.kind, .slice e0.D e0.e.val.length e0.q] :: RR) ++ (rowO 30 7 (.slice l.A l.n l.c) l.n (l.rs.flatMap ER.cells) :: ((l.rs.drop j).flatMap clipE ++ (ls.drop (k + 1)).flatMap LL.obs))))) (fun iv _ => l.n - (intOf iv).toNat)
          case atStart => exact ⟨0, KS2, Nat.zero_le _, rfl, by omega, HK7⟩
          case round =>
            clear HK7 HENB HENL
            obtain ⟨j, KS3, hj, rfl, hKS3, HK8⟩ := hrel
            by_cases hjl : j < l.n
            case neg =>
              have d6 : decide ((j : Int) < (l.n : Int)) = false := decide_eq_false (by omega)
              go_wp2_with (refine wpList_load_cell rfl 22 (.tmp 105) rfl rfl (HRW.out _ _ HK8.out.rest) (fun w => Try.isAgg22 w) ?_)
              go_roundw
              case rel =>
                refine ⟨k + 1, KS3, by omega, by go_num, by omega, Lib.hid ?_⟩
                have h9 := HK8.out
                rw [List.drop_of_length_le (by have := HRN.out; omega), List.flatMap_nil, List.nil_append] at h9
                exact h9.sub (List.Sublist.append (List.Sublist.refl _) ((List.Sublist.refl _).cons _))
              case measure => simp [intOf]; omega
            have d6 : decide ((j : Int) < (l.n : Int)) = true := decide_eq_true (by omega)
            obtain ⟨s, hs⟩ : ∃ s, l.rs[j]? = some s := ⟨_, List.getElem?_eq_getElem (by have := HRN.out; omega)⟩
            obtain ⟨lg, lcap, hv, _⟩ := own_form (HK8.out.rest.rowm (List.mem_append_right _ (.head _))) (show 0 < l.n by omega)
            injection hv with hv _ hcp
            subst hcp
            have HLG := Lib.hid hv
            have HSM : Hid (wr.rangeAt lg (j * 7) [.slice s.A s.e.row.length s.c, .int .i64 s.e.fam, .slice s.B s.e.qual.length s.d, .int .i64 s.e.ts, .int .i64 s.e.seq, .int .i64 s.e.kind, .slice s.D s.e.val.length s.q]) := Lib.hid (rowRangeM HK8.out.rest (T := 30) (g := lg) (c := l.c) (k := l.n) (List.mem_append_right _ (by rw [← hv]; exact .head _)) hs)
            have hchk : checkE s.e = 0 := wantE_chk HCK.out e0.e k s.e (by rw [← HCOL.out.e]; exact List.mem_map_of_mem (List.mem_of_getElem? hs))
            have HKI := Lib.hid (kitem_of (HCOL.out.en s (List.mem_of_getElem? hs)) hchk)
            have HKP : Hid (KM w wr gk KS3 (clipO s.A s.e.row :: clipO s.B s.e.qual :: clipO s.D s.e.val :: ((rowO 22 1 (.slice (some ⟨g13, 0, none⟩) 4 4) 4 [.slice Aa ma ca, .slice Ab mb cb, .slice Ac mc cc, .slice Ad md cd] :: boxO ta (tabC tra false) :: boxO tb (tabC trb false) :: boxO g7 [.slice A n c, .bool false] :: boxO g3 [.slice e0.A e0.e.row.length e0.c, .int .i64 e0.e.fam, .slice e0.B e0.e.qual.length e0.d, .int .i64 e0.e.ts, .int .i64 e0.e.seq, .int .i64 e0.e.kind, .slice e0.D e0.e.val.length e0.q] :: RR) ++ (rowO 30 7 (.slice l.A l.n l.c) l.n (l.rs.flatMap ER.cells) :: ((l.rs.drop (j + 1)).flatMap clipE ++ (ls.drop (k + 1)).flatMap LL.obs))))) := Lib.hid (by
              have h9 := HK8.out
              rw [drop_atM hs, List.flatMap_cons] at h9
              exact h9.perm (lent_perm2 _ _ _ _ _ _ _))
            have c105 : wr.cell? ⟨g13, k, none⟩ = some (.slice (some ⟨lg, 0, none⟩) l.n l.c) := by rw [← HLG.out]; exact HRW.out _ _ HK8.out.rest
            have j0 : (0 : Int) ≤ (j : Int) := by omega
            have j1 : (j : Int) < (l.n : Int) := by omega
            clear hs hv hchk HK8
            go_wp2_with (first
              | (refine wpList_load_cell rfl 22 (.tmp 105) rfl rfl c105 (fun w => Try.isAgg22 w) ?_)
              | (refine wpList_load_cell rfl 22 (.tmp 114) rfl rfl c105 (fun w => Try.isAgg22 w) ?_)
              | (refine wpList_load_at rfl 30 (.tmp 117) rfl rfl HSM.out ent_row8 ?_)
              | (go_at_call 20; go_must (refine (kentryM s HKP.out HKI.out.1 HKI.out.2.1 HKI.out.2.2 (by omega)).mono ?_); rintro e y7 ⟨rfl, hz⟩; have HK9 := Lib.hid hz; clear hz HKP))
            clear c105
            go_roundw
            case rel => exact ⟨j + 1, KS3 ++ [s.e.row, s.e.qual, s.e.val], by omega, by go_num, by rw [List.length_append]; show KS3.length + 3 ≤ _; omega, HK9⟩
            case measure => simp [intOf]; omega
    obtain ⟨hlt, hlt30⟩ : i < n0 ∧ i < 30 := of_decide_eq_true hbb.symm
    have i0 : (0 : Int) ≤ (i : Int) := by omega
    have i1 : (i : Int) < (n0 : Int) := by omega
    obtain ⟨b, o_, r, rfl, hbl, hek, hrg, hen⟩ := (HEA.out w (Below.refl _ _)).er hlt
    have HRG : Hid (∀ z, Below w.heap.size w z → z.rangeAt b (o_ + i * 7) [.slice r.A r.e.row.length r.c, .int .i64 r.e.fam, .slice r.B r.e.qual.length r.d, .int .i64 r.e.ts, .int .i64 r.e.seq, .int .i64 r.e.kind, .slice r.D r.e.val.length r.q]) := Lib.hid fun z hz j v hj => (hz.cell (p := ⟨b, _, none⟩) hbl).trans (hrg j v hj)
    have HEN : Hid (∀ z, Below w.heap.size w z → r.En z) := Lib.hid fun z hz => hen.later hz
    obtain ⟨ec, hec⟩ : ∃ z, z = cut5 r.e := ⟨_, rfl⟩
    have HEC := Lib.hid hec.symm
    obtain ⟨L2, k2, hadd⟩ : ∃ L k, addE tra.ents false r.e = (L, k) := ⟨_, _, rfl⟩
    have HADD := Lib.hid hadd
    have HADC : Hid (addE tra.ents false ec = (L2, k2)) := Lib.hid (by rw [hec, addE_cut]; exact hadd)
    have HADB : Hid (addE trb.ents false r.e = (L2, k2)) := Lib.hid (by rw [HEQ.out]; exact hadd)
    have HLN : Hid (L2.length ≤ i + 1) := Lib.hid (Nat.le_trans (by have h := (addE_sub tra.ents false r.e).2; rw [hadd, Tr.ents_len] at h; exact h) (Nat.add_le_add_right htl 1))
    have HTBL : Hid (trb.list.length ≤ i) := Lib.hid (by rw [← Tr.ents_len, HEQ.out, Tr.ents_len]; exact htl)
    have e1 : (k2 != k2) = false := by simp
    have tk2 : True := trivial
    clear hbl hek hrg hen hec hadd hbb
    go_upto_region 10 with fail
    go_cut [9, 10] (fun pv kv wx => ∃ (g9 : Nat) (Aw Bw Dw : Option Addr) (cw dw qw : Nat) (A2 : Option Addr) (n2 c2 : Nat) (rs2 : List ER) (ns1 : List Ob), pv = .pointer (some ⟨g9, 0, none⟩) ∧ kv = .int .i64 k2 ∧ Hid (RT (RR ++ ns1) A2 n2 c2 rs2 L2) ∧ Hid (OW w (boxO ta (tabC tra false) :: boxO g9 [.slice A2 n2 c2, .bool false] :: boxO tb (tabC trb false) :: boxO g7 [.slice A n c, .bool false] :: boxO g3 [.slice e0.A e0.e.row.length e0.c, .int .i64 e0.e.fam, .slice e0.B e0.e.qual.length e0.d, .int .i64 e0.e.ts, .int .i64 e0.e.seq, .int .i64 e0.e.kind, .slice e0.D e0.e.val.length e0.q] :: ((RR ++ entO Aw Bw Dw cw dw qw ec) ++ ns1)) wx))
    case first =>
      refine lt_start [11] (by kernel_rfl) ?_
      intro xd hd
      refine ⟨fun z => OW w (boxO ta (tabC tra false) :: boxO tb (tabC trb false) :: boxO g7 [.slice A n c, .bool false] :: boxO g3 [.slice e0.A e0.e.row.length e0.c, .int .i64 e0.e.fam, .slice e0.B e0.e.qual.length e0.d, .int .i64 e0.e.ts, .int .i64 e0.e.seq, .int .i64 e0.e.kind, .slice e0.D e0.e.val.length e0.q] :: RR) z, ?_⟩
      have HS := Lib.hid (HX.out.later hd)
      have HY := HS
      refine lt_take 0 [6, 7, 8, 9, 11, 12] rfl (by kernel_rfl) (by kernel_rfl) (by kernel_rfl) (by kernel_rfl) (by kernel_rfl) (fun _ _ _ h => h) (yi_row rfl rfl rfl (fun w hS => OW.range hS (i := 2) rfl) tabR_row) HS.out ?_
      simp only [Act.put, List.setIfInBounds_toArray, List.set_cons_zero, List.set_cons_succ]
      refine lt_pure 1 rfl (by kernel_rfl) (by kernel_rfl) (by kernel_rfl) (by kernel_rfl) (fun _ _ _ h => h) (v := ?_) (yi_run rfl (fun w => ?_)) (fun _ => HS.out) ?_
      rotate_left
      · first | (go_simp; done) | (go_simp; with_reducible rfl)
      simp only [Act.put, List.setIfInBounds_toArray, List.set_cons_zero, List.set_cons_succ]
      refine lt_pure 2 rfl (by kernel_rfl) (by kernel_rfl) (by kernel_rfl) (by kernel_rfl) (fun _ _ _ h => h) (v := ?_) (yi_run rfl (fun w => ?_)) (fun _ => HS.out) ?_
      rotate_left
      · first | (go_simp; done) | (go_simp; with_reducible rfl)
      simp only [Act.put, List.setIfInBounds_toArray, List.set_cons_zero, List.set_cons_succ]
      refine lt_pure 3 rfl (by kernel_rfl) (by kernel_rfl) (by kernel_rfl) (by kernel_rfl) (fun _ _ _ h => h) (v := ?_) (yi_run rfl (fun w => ?_)) (fun _ => HS.out) ?_
      rotate_left
      · first | (go_simp; done) | (go_simp; with_reducible rfl)
      simp only [Act.put, List.setIfInBounds_toArray, List.set_cons_zero, List.set_cons_succ]
      refine lt_take 4 [5, 6, 7, 8, 9, 11, 12] rfl (by kernel_rfl) (by kernel_rfl) (by kernel_rfl) (by kernel_rfl) (by kernel_rfl) (fun _ _ _ h => h) (yi_rowO rfl rfl rfl (fun w hS => HRG.out w (OW.up hS)) ent_row8) HS.out ?_
      simp only [Act.put, List.setIfInBounds_toArray, List.set_cons_zero, List.set_cons_succ]
      refine lt_two 5 10 rfl rfl (by kernel_rfl) rfl rfl ?_ ?_
      · refine wp_callL rfl ⟨_, Try.func16, by decide, by kernel_rfl⟩ [.agg #[.slice r.A r.e.row.length r.c, .int .i64 r.e.fam, .slice r.B r.e.qual.length r.d, .int .i64 r.e.ts, .int .i64 r.e.seq, .int .i64 r.e.kind, .slice r.D r.e.val.length r.q]] rfl ?_
        refine (entry8_cut r _ (HEN.out _ HS.out.up)).mono ?_
        rw [HEC.out]
        rintro e y1 ⟨Aw, Bw, Dw, cw, dw, qw, rfl, hz⟩
        replace HY : Hid (OW w (boxO ta (tabC tra false) :: boxO tb (tabC trb false) :: boxO g7 [.slice A n c, .bool false] :: boxO g3 [.slice e0.A e0.e.row.length e0.c, .int .i64 e0.e.fam, .slice e0.B e0.e.qual.length e0.d, .int .i64 e0.e.ts, .int .i64 e0.e.seq, .int .i64 e0.e.kind, .slice e0.D e0.e.val.length e0.q] :: (RR ++ entO Aw Bw Dw cw dw qw ec)) y1) := Lib.hid (HY.out.app hz)
        replace HS := Lib.hid (HS.out.later hz.up)
        clear hz
        refine ⟨_, rfl, ?_⟩
        refine ⟨fun _ => HS.out, ?_⟩
        simp only [Act.put, List.setIfInBounds_toArray, List.set_cons_zero, List.set_cons_succ]
        refine lt_two 6 10 rfl rfl (by kernel_rfl) rfl rfl ?_ ?_
        · refine wp_callL rfl ⟨_, Try.func15, by decide, by kernel_rfl⟩ [.agg #[.slice A n c, .bool false], .agg #[.slice Aw ec.row.length cw, .int .i64 ec.fam, .slice Bw ec.qual.length dw, .int .i64 ec.ts, .int .i64 ec.seq, .int .i64 ec.kind, .slice Dw ec.val.length qw]] rfl ?_
          refine (radd8_is (ms := RR) HY.out (fun o ho => .tail _ (.tail _ (.tail _ (.tail _ (List.mem_append_left _ ho))))) HRT.out (by omega) (⟨Aw, cw, Bw, dw, Dw, qw, ec⟩ : ER) (fun z hz => (entO_ein fun o ho => .tail _ (.tail _ (.tail _ (.tail _ (List.mem_append_right _ ho))))).en hz) HADC.out).mono ?_
          rintro e y2 ⟨A2, n2, c2, rs2, ns1, rfl, hz, hT⟩
          have HRT2 := Lib.hid hT
          replace HY : Hid (OW w (boxO ta (tabC tra false) :: boxO tb (tabC trb false) :: boxO g7 [.slice A n c, .bool false] :: boxO g3 [.slice e0.A e0.e.row.length e0.c, .int .i64 e0.e.fam, .slice e0.B e0.e.qual.length e0.d, .int .i64 e0.e.ts, .int .i64 e0.e.seq, .int .i64 e0.e.kind, .slice e0.D e0.e.val.length e0.q] :: ((RR ++ entO Aw Bw Dw cw dw qw ec) ++ ns1)) y2) := Lib.hid hz
          replace HS : Hid (OW w (boxO ta (tabC tra false) :: boxO tb (tabC trb false) :: boxO g7 [.slice A n c, .bool false] :: boxO g3 [.slice e0.A e0.e.row.length e0.c, .int .i64 e0.e.fam, .slice e0.B e0.e.qual.length e0.d, .int .i64 e0.e.ts, .int .i64 e0.e.seq, .int .i64 e0.e.kind, .slice e0.D e0.e.val.length e0.q] :: RR) y2) := Lib.hid (hz.sub (List.Sublist.cons_cons _ ((List.Sublist.cons_cons _ (List.Sublist.cons_cons _ (List.Sublist.cons_cons _ ((List.sublist_append_left _ _).trans (List.sublist_append_left _ _))))))))
          clear hz hT
          refine ⟨_, rfl, ?_⟩
          refine ⟨fun _ => HS.out, ?_⟩
          simp only [Act.put, List.setIfInBounds_toArray, List.set_cons_zero, List.set_cons_succ]
          refine lt_pure 7 rfl (by kernel_rfl) (by kernel_rfl) (by kernel_rfl) (by kernel_rfl) (fun _ _ _ h => h) (v := ?_) (yi_run rfl (fun w => ?_)) (fun _ => HS.out) ?_
          rotate_left
          · first | (go_simp; done) | (go_simp; with_reducible rfl)
          simp only [Act.put, List.setIfInBounds_toArray, List.set_cons_zero, List.set_cons_succ]
          refine lt_pure 8 rfl (by kernel_rfl) (by kernel_rfl) (by kernel_rfl) (by kernel_rfl) (fun _ _ _ h => h) (v := ?_) (yi_run rfl (fun w => ?_)) (fun _ => HS.out) ?_
          rotate_left
          · first | (go_simp; done) | (go_simp; with_reducible rfl)
          simp only [Act.put, List.setIfInBounds_toArray, List.set_cons_zero, List.set_cons_succ]
          refine lt_pure 9 rfl (by kernel_rfl) (by kernel_rfl) (by kernel_rfl) (by kernel_rfl) (fun _ _ _ h => h) (v := ?_) (yi_run rfl (fun w => ?_)) (fun _ => HS.out) ?_
          rotate_left
          · first | (go_simp; done) | (go_simp; with_reducible rfl)
          simp only [Act.put, List.setIfInBounds_toArray, List.set_cons_zero, List.set_cons_succ]
          refine lt_op 10 rfl (by kernel_rfl) rfl ?_
          refine wpo_alloc rfl [.slice none 0 0, .bool false] (.inl (by kernel_rfl)) HY.out ?_
          intro g9 y3 hz hb
          replace HY : Hid (OW w (boxO ta (tabC tra false) :: boxO g9 [.slice none 0 0, .bool false] :: boxO tb (tabC trb false) :: boxO g7 [.slice A n c, .bool false] :: boxO g3 [.slice e0.A e0.e.row.length e0.c, .int .i64 e0.e.fam, .slice e0.B e0.e.qual.length e0.d, .int .i64 e0.e.ts, .int .i64 e0.e.seq, .int .i64 e0.e.kind, .slice e0.D e0.e.val.length e0.q] :: ((RR ++ entO Aw Bw Dw cw dw qw ec) ++ ns1)) y3) := Lib.hid (hz.perm (List.perm_append_comm.trans (List.Perm.swap _ _ _)))
          replace HS := Lib.hid (HS.out.later hb)
          clear hz hb
          refine ⟨fun _ => HS.out, ?_⟩
          simp only [Act.put, List.setIfInBounds_toArray, List.set_cons_zero, List.set_cons_succ]
          refine lt_end 11 rfl (by kernel_rfl) rfl (by kernel_rfl) ?_
          refine wpo_put rfl HY.out 1 rfl rfl [.slice A2 n2 c2, .bool false] rfl rfl (by kernel_rfl) (by simp [Value.oneCell']) ?_
          intro y4 hz hb
          replace HY : Hid (OW w (boxO ta (tabC tra false) :: boxO g9 [.slice A2 n2 c2, .bool false] :: boxO tb (tabC trb false) :: boxO g7 [.slice A n c, .bool false] :: boxO g3 [.slice e0.A e0.e.row.length e0.c, .int .i64 e0.e.fam, .slice e0.B e0.e.qual.length e0.d, .int .i64 e0.e.ts, .int .i64 e0.e.seq, .int .i64 e0.e.kind, .slice e0.D e0.e.val.length e0.q] :: ((RR ++ entO Aw Bw Dw cw dw qw ec) ++ ns1)) y4) := Lib.hid hz
          clear hz
          simp only [Act.put]
          refine lt_pureF 12 rfl (by kernel_rfl) (by kernel_rfl) (by kernel_rfl) (by kernel_rfl) (by kernel_rfl) (fun _ _ _ h => h) (v := ?_) (yi_run rfl (fun w => ?_)) ?_
          rotate_left
          · first | (go_simp; done) | (go_simp; with_reducible rfl)
          simp only [Act.put, List.setIfInBounds_toArray, List.set_cons_zero, List.set_cons_succ]
          refine lt_done (by kernel_rfl) ?_
          go_wp2_with fail
          go_meet
          exact ⟨g9, Aw, Bw, Dw, cw, dw, qw, A2, n2, c2, rs2, ns1, rfl, rfl, HRT2, HY⟩
        · refine wpo_alloc rfl [.slice none 0 0, .bool false] (.inl (by kernel_rfl)) HY.out ?_
          intro g9 y3 hz hb
          replace HY : Hid (OW w (boxO ta (tabC tra false) :: boxO g9 [.slice none 0 0, .bool false] :: boxO tb (tabC trb false) :: boxO g7 [.slice A n c, .bool false] :: boxO g3 [.slice e0.A e0.e.row.length e0.c, .int .i64 e0.e.fam, .slice e0.B e0.e.qual.length e0.d, .int .i64 e0.e.ts, .int .i64 e0.e.seq, .int .i64 e0.e.kind, .slice e0.D e0.e.val.length e0.q] :: (RR ++ entO Aw Bw Dw cw dw qw ec)) y3) := Lib.hid (hz.perm (List.perm_append_comm.trans (List.Perm.swap _ _ _)))
          replace HS := Lib.hid (HS.out.later hb)
          clear hz hb
          refine ⟨fun _ => HS.out, ?_⟩
          simp only [Act.put, List.setIfInBounds_toArray, List.set_cons_zero, List.set_cons_succ]
          refine lt_op 6 rfl (by kernel_rfl) rfl ?_
          refine wp_callL rfl ⟨_, Try.func15, by decide, by kernel_rfl⟩ [.agg #[.slice A n c, .bool false], .agg #[.slice Aw ec.row.length cw, .int .i64 ec.fam, .slice Bw ec.qual.length dw, .int .i64 ec.ts, .int .i64 ec.seq, .int .i64 ec.kind, .slice Dw ec.val.length qw]] rfl ?_
          refine (radd8_is (ms := RR) HY.out (fun o ho => .tail _ (.tail _ (.tail _ (.tail _ (.tail _ (List.mem_append_left _ ho)))))) HRT.out (by omega) (⟨Aw, cw, Bw, dw, Dw, qw, ec⟩ : ER) (fun z hz => (entO_ein fun o ho => .tail _ (.tail _ (.tail _ (.tail _ (.tail _ (List.mem_append_right _ ho)))))).en hz) HADC.out).mono ?_
          rintro e y2 ⟨A2, n2, c2, rs2, ns1, rfl, hz, hT⟩
          have HRT2 := Lib.hid hT
          replace HY : Hid (OW w (boxO ta (tabC tra false) :: boxO g9 [.slice none 0 0, .bool false] :: boxO tb (tabC trb false) :: boxO g7 [.slice A n c, .bool false] :: boxO g3 [.slice e0.A e0.e.row.length e0.c, .int .i64 e0.e.fam, .slice e0.B e0.e.qual.length e0.d, .int .i64 e0.e.ts, .int .i64 e0.e.seq, .int .i64 e0.e.kind, .slice e0.D e0.e.val.length e0.q] :: ((RR ++ entO Aw Bw Dw cw dw qw ec) ++ ns1)) y2) := Lib.hid hz
          replace HS : Hid (OW w (boxO ta (tabC tra false) :: boxO tb (tabC trb false) :: boxO g7 [.slice A n c, .bool false] :: boxO g3 [.slice e0.A e0.e.row.length e0.c, .int .i64 e0.e.fam, .slice e0.B e0.e.qual.length e0.d, .int .i64 e0.e.ts, .int .i64 e0.e.seq, .int .i64 e0.e.kind, .slice e0.D e0.e.val.length e0.q] :: RR) y2) := Lib.hid (hz.sub (List.Sublist.cons_cons _ (List.Sublist.cons _ (List.Sublist.cons_cons _ (List.Sublist.cons_cons _ (List.Sublist.cons_cons _ ((List.sublist_append_left _ _).trans (List.sublist_append_left _ _))))))))
          clear hz hT
          refine ⟨_, rfl, ?_⟩
          refine ⟨fun _ => HS.out, ?_⟩
          simp only [Act.put, List.setIfInBounds_toArray, List.set_cons_zero, List.set_cons_succ]
          refine lt_pure 7 rfl (by kernel_rfl) (by kernel_rfl) (by kernel_rfl) (by kernel_rfl) (fun _ _ _ h => h) (v := ?_) (yi_run rfl (fun w => ?_)) (fun _ => HS.out) ?_
          rotate_left
          · first | (go_simp; done) | (go_simp; with_reducible rfl)
          simp only [Act.put, List.setIfInBounds_toArray, List.set_cons_zero, List.set_cons_succ]
          refine lt_pure 8 rfl (by kernel_rfl) (by kernel_rfl) (by kernel_rfl) (by kernel_rfl) (fun _ _ _ h => h) (v := ?_) (yi_run rfl (fun w => ?_)) (fun _ => HS.out) ?_
          rotate_left
          · first | (go_simp; done) | (go_simp; with_reducible rfl)
          simp only [Act.put, List.setIfInBounds_toArray, List.set_cons_zero, List.set_cons_succ]
          refine lt_pure 9 rfl (by kernel_rfl) (by kernel_rfl) (by kernel_rfl) (by kernel_rfl) (fun _ _ _ h => h) (v := ?_) (yi_run rfl (fun w => ?_)) (fun _ => HS.out) ?_
          rotate_left
          · first | (go_simp; done) | (go_simp; with_reducible rfl)
          simp only [Act.put, List.setIfInBounds_toArray, List.set_cons_zero, List.set_cons_succ]
          refine lt_end 11 rfl (by kernel_rfl) rfl (by kernel_rfl) ?_
          refine wpo_put rfl HY.out 1 rfl rfl [.slice A2 n2 c2, .bool false] rfl rfl (by kernel_rfl) (by simp [Value.oneCell']) ?_
          intro y4 hz hb
          replace HY : Hid (OW w (boxO ta (tabC tra false) :: boxO g9 [.slice A2 n2 c2, .bool false] :: boxO tb (tabC trb false) :: boxO g7 [.slice A n c, .bool false] :: boxO g3 [.slice e0.A e0.e.row.length e0.c, .int .i64 e0.e.fam, .slice e0.B e0.e.qual.length e0.d, .int .i64 e0.e.ts, .int .i64 e0.e.seq, .int .i64 e0.e.kind, .slice e0.D e0.e.val.length e0.q] :: ((RR ++ entO Aw Bw Dw cw dw qw ec) ++ ns1)) y4) := Lib.hid hz
          clear hz
          simp only [Act.put]
          refine lt_pureF 12 rfl (by kernel_rfl) (by kernel_rfl) (by kernel_rfl) (by kernel_rfl) (by kernel_rfl) (fun _ _ _ h => h) (v := ?_) (yi_run rfl (fun w => ?_)) ?_
          rotate_left
          · first | (go_simp; done) | (go_simp; with_reducible rfl)
          simp only [Act.put, List.setIfInBounds_toArray, List.set_cons_zero, List.set_cons_succ]
          refine lt_done (by kernel_rfl) ?_
          go_wp2_with fail
          go_meet
          exact ⟨g9, Aw, Bw, Dw, cw, dw, qw, A2, n2, c2, rs2, ns1, rfl, rfl, HRT2, HY⟩
      · refine wpo_alloc rfl [.slice none 0 0, .bool false] (.inl (by kernel_rfl)) HY.out ?_
        intro g9 y3 hz hb
        replace HY : Hid (OW w (boxO ta (tabC tra false) :: boxO g9 [.slice none 0 0, .bool false] :: boxO tb (tabC trb false) :: boxO g7 [.slice A n c, .bool false] :: boxO g3 [.slice e0.A e0.e.row.length e0.c, .int .i64 e0.e.fam, .slice e0.B e0.e.qual.length e0.d, .int .i64 e0.e.ts, .int .i64 e0.e.seq, .int .i64 e0.e.kind, .slice e0.D e0.e.val.length e0.q] :: RR) y3) := Lib.hid (hz.perm (List.perm_append_comm.trans (List.Perm.swap _ _ _)))
        replace HS := Lib.hid (HS.out.later hb)
        clear hz hb
        refine ⟨fun _ => HS.out, ?_⟩
        simp only [Act.put, List.setIfInBounds_toArray, List.set_cons_zero, List.set_cons_succ]
        refine lt_op 5 rfl (by kernel_rfl) rfl ?_
        refine wp_callL rfl ⟨_, Try.func16, by decide, by kernel_rfl⟩ [.agg #[.slice r.A r.e.row.length r.c, .int .i64 r.e.fam, .slice r.B r.e.qual.length r.d, .int .i64 r.e.ts, .int .i64 r.e.seq, .int .i64 r.e.kind, .slice r.D r.e.val.length r.q]] rfl ?_
        refine (entry8_cut r _ (HEN.out _ HS.out.up)).mono ?_
        rw [HEC.out]
        rintro e y1 ⟨Aw, Bw, Dw, cw, dw, qw, rfl, hz⟩
        replace HY : Hid (OW w (boxO ta (tabC tra false) :: boxO g9 [.slice none 0 0, .bool false] :: boxO tb (tabC trb false) :: boxO g7 [.slice A n c, .bool false] :: boxO g3 [.slice e0.A e0.e.row.length e0.c, .int .i64 e0.e.fam, .slice e0.B e0.e.qual.length e0.d, .int .i64 e0.e.ts, .int .i64 e0.e.seq, .int .i64 e0.e.kind, .slice e0.D e0.e.val.length e0.q] :: (RR ++ entO Aw Bw Dw cw dw qw ec)) y1) := Lib.hid (HY.out.app hz)
        replace HS := Lib.hid (HS.out.later hz.up)
        clear hz
        refine ⟨_, rfl, ?_⟩
        refine ⟨fun _ => HS.out, ?_⟩
        simp only [Act.put, List.setIfInBounds_toArray, List.set_cons_zero, List.set_cons_succ]
        refine lt_op 6 rfl (by kernel_rfl) rfl ?_
        refine wp_callL rfl ⟨_, Try.func15, by decide, by kernel_rfl⟩ [.agg #[.slice A n c, .bool false], .agg #[.slice Aw ec.row.length cw, .int .i64 ec.fam, .slice Bw ec.qual.length dw, .int .i64 ec.ts, .int .i64 ec.seq, .int .i64 ec.kind, .slice Dw ec.val.length qw]] rfl ?_
        refine (radd8_is (ms := RR) HY.out (fun o ho => .tail _ (.tail _ (.tail _ (.tail _ (.tail _ (List.mem_append_left _ ho)))))) HRT.out (by omega) (⟨Aw, cw, Bw, dw, Dw, qw, ec⟩ : ER) (fun z hz => (entO_ein fun o ho => .tail _ (.tail _ (.tail _ (.tail _ (.tail _ (List.mem_append_right _ ho)))))).en hz) HADC.out).mono ?_
        rintro e y2 ⟨A2, n2, c2, rs2, ns1, rfl, hz, hT⟩
        have HRT2 := Lib.hid hT
        replace HY : Hid (OW w (boxO ta (tabC tra false) :: boxO g9 [.slice none 0 0, .bool false] :: boxO tb (tabC trb false) :: boxO g7 [.slice A n c, .bool false] :: boxO g3 [.slice e0.A e0.e.row.length e0.c, .int .i64 e0.e.fam, .slice e0.B e0.e.qual.length e0.d, .int .i64 e0.e.ts, .int .i64 e0.e.seq, .int .i64 e0.e.kind, .slice e0.D e0.e.val.length e0.q] :: ((RR ++ entO Aw Bw Dw cw dw qw ec) ++ ns1)) y2) := Lib.hid hz
        replace HS : Hid (OW w (boxO ta (tabC tra false) :: boxO tb (tabC trb false) :: boxO g7 [.slice A n c, .bool false] :: boxO g3 [.slice e0.A e0.e.row.length e0.c, .int .i64 e0.e.fam, .slice e0.B e0.e.qual.length e0.d, .int .i64 e0.e.ts, .int .i64 e0.e.seq, .int .i64 e0.e.kind, .slice e0.D e0.e.val.length e0.q] :: RR) y2) := Lib.hid (hz.sub (List.Sublist.cons_cons _ (List.Sublist.cons _ (List.Sublist.cons_cons _ (List.Sublist.cons_cons _ (List.Sublist.cons_cons _ ((List.sublist_append_left _ _).trans (List.sublist_append_left _ _))))))))
        clear hz hT
        refine ⟨_, rfl, ?_⟩
        refine ⟨fun _ => HS.out, ?_⟩
        simp only [Act.put, List.setIfInBounds_toArray, List.set_cons_zero, List.set_cons_succ]
        refine lt_pure 7 rfl (by kernel_rfl) (by kernel_rfl) (by kernel_rfl) (by kernel_rfl) (fun _ _ _ h => h) (v := ?_) (yi_run rfl (fun w => ?_)) (fun _ => HS.out) ?_
        rotate_left
        · first | (go_simp; done) | (go_simp; with_reducible rfl)
        simp only [Act.put, List.setIfInBounds_toArray, List.set_cons_zero, List.set_cons_succ]
        refine lt_pure 8 rfl (by kernel_rfl) (by kernel_rfl) (by kernel_rfl) (by kernel_rfl) (fun _ _ _ h => h) (v := ?_) (yi_run rfl (fun w => ?_)) (fun _ => HS.out) ?_
        rotate_left
        · first | (go_simp; done) | (go_simp; with_reducible rfl)
        simp only [Act.put, List.setIfInBounds_toArray, List.set_cons_zero, List.set_cons_succ]
        refine lt_pure 9 rfl (by kernel_rfl) (by kernel_rfl) (by kernel_rfl) (by kernel_rfl) (fun _ _ _ h => h) (v := ?_) (yi_run rfl (fun w => ?_)) (fun _ => HS.out) ?_
        rotate_left
        · first | (go_simp; done) | (go_simp; with_reducible rfl)
        simp only [Act.put, List.setIfInBounds_toArray, List.set_cons_zero, List.set_cons_succ]
        refine lt_end 11 rfl (by kernel_rfl) rfl (by kernel_rfl) ?_
        refine wpo_put rfl HY.out 1 rfl rfl [.slice A2 n2 c2, .bool false] rfl rfl (by kernel_rfl) (by simp [Value.oneCell']) ?_
        intro y4 hz hb
        replace HY : Hid (OW w (boxO ta (tabC tra false) :: boxO g9 [.slice A2 n2 c2, .bool false] :: boxO tb (tabC trb false) :: boxO g7 [.slice A n c, .bool false] :: boxO g3 [.slice e0.A e0.e.row.length e0.c, .int .i64 e0.e.fam, .slice e0.B e0.e.qual.length e0.d, .int .i64 e0.e.ts, .int .i64 e0.e.seq, .int .i64 e0.e.kind, .slice e0.D e0.e.val.length e0.q] :: ((RR ++ entO Aw Bw Dw cw dw qw ec) ++ ns1)) y4) := Lib.hid hz
        clear hz
        simp only [Act.put]
        refine lt_pureF 12 rfl (by kernel_rfl) (by kernel_rfl) (by kernel_rfl) (by kernel_rfl) (by kernel_rfl) (fun _ _ _ h => h) (v := ?_) (yi_run rfl (fun w => ?_)) ?_
        rotate_left
        · first | (go_simp; done) | (go_simp; with_reducible rfl)
        simp only [Act.put, List.setIfInBounds_toArray, List.set_cons_zero, List.set_cons_succ]
        refine lt_done (by kernel_rfl) ?_
        go_wp2_with fail
        go_meet
        exact ⟨g9, Aw, Bw, Dw, cw, dw, qw, A2, n2, c2, rs2, ns1, rfl, rfl, HRT2, HY⟩
    clear HX
    obtain ⟨g9, Aw, Bw, Dw, cw, dw, qw, A2, n2, c2, rs2, ns1, rfl, rfl, HRT2, HY⟩ := hcut
    go_wp2_with (first
      | (refine wpList_load_at rfl 30 (.tmp 51) rfl rfl (HRG.out _ HY.out.up) ent_row8 ?_)
      | (go_at_call 10; (have _t := tk2); go_must (refine (tadd_is (os := boxO g9 [.slice A2 n2 c2, .bool false] :: boxO tb (tabC trb false) :: boxO g7 [.slice A n c, .bool false] :: boxO g3 [.slice e0.A e0.e.row.length e0.c, .int .i64 e0.e.fam, .slice e0.B e0.e.qual.length e0.d, .int .i64 e0.e.ts, .int .i64 e0.e.seq, .int .i64 e0.e.kind, .slice e0.D e0.e.val.length e0.q] :: ((RR ++ entO Aw Bw Dw cw dw qw ec) ++ ns1)) (ms := RR) r HY.out (fun o ho => .tail _ (.tail _ (.tail _ (.tail _ (List.mem_append_left _ (List.mem_append_left _ ho)))))) HTA.out (HEN.out _ HY.out.up) (by omega) HADD.out).mono ?_); rintro e y1 ⟨ta2, na, rfl, hz, hT, he⟩; have HTA2 := Lib.hid hT; have HEA2 := Lib.hid he; have HY1 : Hid (OW w (boxO tb (tabC trb false) :: boxO ta (tabC ta2 false) :: boxO g9 [.slice A2 n2 c2, .bool false] :: boxO g7 [.slice A n c, .bool false] :: boxO g3 [.slice e0.A e0.e.row.length e0.c, .int .i64 e0.e.fam, .slice e0.B e0.e.qual.length e0.d, .int .i64 e0.e.ts, .int .i64 e0.e.seq, .int .i64 e0.e.kind, .slice e0.D e0.e.val.length e0.q] :: (((RR ++ entO Aw Bw Dw cw dw qw ec) ++ ns1) ++ na)) y1) := Lib.hid (hz.perm (lent_perm4 _ _ _ _)); clear hz hT he HY tk2 _t)
      | (refine wpList_load_at rfl 30 (.tmp 60) rfl rfl (HRG.out _ HY1.out.up) ent_row8 ?_)
      | (go_at_call 10; go_must (refine (tadd_is (os := boxO ta (tabC ta2 false) :: boxO g9 [.slice A2 n2 c2, .bool false] :: boxO g7 [.slice A n c, .bool false] :: boxO g3 [.slice e0.A e0.e.row.length e0.c, .int .i64 e0.e.fam, .slice e0.B e0.e.qual.length e0.d, .int .i64 e0.e.ts, .int .i64 e0.e.seq, .int .i64 e0.e.kind, .slice e0.D e0.e.val.length e0.q] :: (((RR ++ entO Aw Bw Dw cw dw qw ec) ++ ns1) ++ na)) (ms := RR) r HY1.out (fun o ho => .tail _ (.tail _ (.tail _ (.tail _ (List.mem_append_left _ (List.mem_append_left _ (List.mem_append_left _ ho))))))) HTB.out (HEN.out _ HY1.out.up) (by have := HTBL.out; omega) HADB.out).mono ?_); rintro e y2 ⟨tb2, nb, rfl, hz, hT, he⟩; have HTB2 := Lib.hid hT; have HEB2 := Lib.hid he; have HY2 : Hid (OW w (boxO ta (tabC ta2 false) :: boxO tb (tabC tb2 false) :: boxO g9 [.slice A2 n2 c2, .bool false] :: boxO g7 [.slice A n c, .bool false] :: boxO g3 [.slice e0.A e0.e.row.length e0.c, .int .i64 e0.e.fam, .slice e0.B e0.e.qual.length e0.d, .int .i64 e0.e.ts, .int .i64 e0.e.seq, .int .i64 e0.e.kind, .slice e0.D e0.e.val.length e0.q] :: ((((RR ++ entO Aw Bw Dw cw dw qw ec) ++ ns1) ++ na) ++ nb)) y2) := Lib.hid (swp hz); clear hz hT he HY1)
      | (refine wpList_load_row7 rfl 39 (.tmp 9) rfl rfl (HY2.out.range (i := 2) rfl) tabR_row ?_)
      | (refine wl_put rfl (.tmp 7) (.tmp 66) rfl HY2.out 3 rfl rfl [.slice A2 n2 c2, .bool false] rfl rfl (by kernel_rfl) (by simp [Value.oneCell']) ?_; intro y3 hz _; have HY3 : Hid (OW w (boxO ta (tabC ta2 false) :: boxO tb (tabC tb2 false) :: boxO g9 [.slice A2 n2 c2, .bool false] :: boxO g7 [.slice A2 n2 c2, .bool false] :: boxO g3 [.slice e0.A e0.e.row.length e0.c, .int .i64 e0.e.fam, .slice e0.B e0.e.qual.length e0.d, .int .i64 e0.e.ts, .int .i64 e0.e.seq, .int .i64 e0.e.kind, .slice e0.D e0.e.val.length e0.q] :: ((((RR ++ entO Aw Bw Dw cw dw qw ec) ++ ns1) ++ na) ++ nb)) y3) := Lib.hid hz; clear hz HY2))
    have hn2 : n2 ≤ i + 1 := by
      have h : rs2.length = n2 ∧ L2.length = n2 := RT.lens (HRT2.out.more fun o ho => .tail _ (.tail _ (.tail _ (.tail _ (.tail _ (List.mem_append_left _ (List.mem_append_left _ ((List.mem_append.1 ho).elim (fun ho => List.mem_append_left _ (List.mem_append_left _ ho)) (fun ho => List.mem_append_right _ ho))))))))) HY3.out
      have := HLN.out
      omega
    go_roundw
    case rel =>
      refine ⟨i + 1, ta2, tb2, A2, n2, c2, rs2, boxO g9 [.slice A2 n2 c2, .bool false] :: ((((RR ++ entO Aw Bw Dw cw dw qw ec) ++ ns1) ++ na) ++ nb), by omega, by omega, by go_num, by have := HLN.out; rw [← HEA2.out, Tr.ents_len] at this; exact this, hn2, Lib.hid (by rw [HEA2.out, HEB2.out]), Lib.hid (HTA2.out.more fun o ho => .tail _ (List.mem_append_left _ ((List.mem_append.1 ho).elim (fun ho => List.mem_append_left _ (List.mem_append_left _ (List.mem_append_left _ ho))) (fun ho => List.mem_append_right _ ho)))), Lib.hid (HTB2.out.more fun o ho => .tail _ ((List.mem_append.1 ho).elim (fun ho => List.mem_append_left _ (List.mem_append_left _ (List.mem_append_left _ (List.mem_append_left _ ho)))) (fun ho => List.mem_append_right _ ho))), Lib.hid (by rw [HEA2.out]; exact HRT2.out.more fun o ho => .tail _ (List.mem_append_left _ (List.mem_append_left _ ((List.mem_append.1 ho).elim (fun ho => List.mem_append_left _ (List.mem_append_left _ ho)) (fun ho => List.mem_append_right _ ho))))), Lib.hid (HY3.out.perm (lent_perm3 _ _ _ _ _ _))⟩
    case measure => simp [intOf]; omega
theorem lent8_top (la : List Ent) (A0 : Option Addr) (n0 c0 : Nat) (e : Ent) (A : Option Addr) (n c : Nat) (B : Option Addr) (m d : Nat) (D : Option Addr) (v q : Nat) (w : World) (hA : Ens w A0 n0 la) (hn0 : n0 ≤ 9223372036854775807) (h : En w A n c B m d D v q e) (h1 : n ≤ 1048576) (h2 : m ≤ 1048576) (h3 : v ≤ 1048576) :
    Calls Try.prog 4 #[.slice A0 n0 c0, entV A n c B m d D v q e] w fun e z => e = .returned (.bool true) ∧ Below w.heap.size w z := by
  obtain rfl := h.row.len
  obtain rfl := h.qual.len
  obtain rfl := h.val.len
  exact lent8_any la A0 n0 c0 ⟨A, c, B, d, D, q, e⟩ w hA hn0 h ⟨by show e.row.length ≤ _; omega, by show e.qual.length ≤ _; omega, by show e.val.length ≤ _; omega⟩
end Go.Proofs.Ytdaoinhkagmbdaa
namespace Go.Proofs.Ytdaoinhkagmbdaa
open Go.RowKit Go.WideShapes Go.ChangeShapes Go.Joins Go.Deep
section
variable {H : Type} {enc : TypeId × Value → H} {P : Program}
theorem trodAll_below (hl : laidOutB P = true) {W W' : World} {sp : Nat → Bool} : ∀ (ts : List TypeId) (vs : List Value) (ds : List (DataW H)) (ps : List MemPlace),
    (∀ t ∈ ts, P.readableRec t = true ∧ t < P.types.size) → DataW.TrodAll enc P W 0 (fun _ => true) true ts vs ds ps → (∀ p ∈ ps, W.sameAt W' p) → (∀ p ∈ ps, sp p.block = true) →
    DataW.TrodAll enc P W' 0 sp true ts vs ds ps
  | [], [], [], ps, _, h, _, _ => h
  | t :: ts, v :: vs, d :: ds, ps, hr, h, hs, hp => by
    obtain ⟨p, q, h1, h2, rfl⟩ := h
    refine ⟨p, q, WideElems.Trod_stays hl (hr t (by simp)).1 (hr t (by simp)).2 h1 (fun x hx => hs x (by simp [hx])) (fun x hx => hp x (by simp [hx])), ?_, rfl⟩
    exact trodAll_below hl ts vs ds q (fun t ht => hr t (by simp [ht])) h2 (fun x hx => hs x (by simp [hx])) (fun x hx => hp x (by simp [hx]))
  | [], _ :: _, _, _, _, h, _, _ => h.elim
  | [], [], _ :: _, _, _, h, _, _ => h.elim
  | _ :: _, [], _, _, _, h, _, _ => h.elim
  | _ :: _, _ :: _, [], _, _, h, _, _ => h.elim
theorem law_post {f : Func} {s : ChangeSpec} {apart fresh handsOn again : Bool} {W W' : World} {args : Array Value} {ds gs : List (DataW H)} {before : List MemPlace} {tb : TypeId}
    (hl : laidOutB P = true) (hr : ∀ t ∈ f.params.toList, P.readableRec t = true ∧ t < P.types.size) (hv : s.vars = [])
    (hW : DataW.Whole enc P f.params.toList s.vars apart W args.toList ds gs before) (hres : f.resultTypes = #[tb]) (htb : P.underlying tb = some .bool)
    (hfn : s.fn H (ds ++ gs) = { results := [.lit (.bool true)], args := ds }) (hb : Below W.heap.size W W') :
    s.post enc P f apart fresh handsOn again W args (.bool true) W' := by
  have hlt : ∀ p ∈ before, p.block < W.heap.size := fun p hp => hW.lt p hp
  obtain ⟨p, q, hA, hV, hpq, hz, hn⟩ := hW
  have hq : gs = [] ∧ q = [] := by rw [hv] at hV; exact trodVars_none hV
  obtain ⟨rfl, rfl⟩ := hq
  rw [List.append_nil] at hpq
  subst hpq
  have hold : ∀ x ∈ before, (fun b => decide (b < W.heap.size)) x.block = true := fun x hx => by simpa using hlt x hx
  have hargs : ∀ sp : Nat → Bool, (∀ x ∈ before, sp x.block = true) → DataW.TrodAll enc P W' 0 sp true f.params.toList args.toList ds before := fun sp hsp =>
    trodAll_below hl _ _ _ _ hr hA (fun x hx => hb.same (hlt x hx)) hsp
  have hvars : ∀ sp : Nat → Bool, DataW.TrodVars enc P W' sp s.vars (s.fn H (ds ++ [])).vars [] := fun sp => by rw [hv, hfn]; rfl
  have hresv : ∀ (b : Nat) (sp : Nat → Bool) (hd : Bool), DataW.TrodAll enc P W' b sp hd f.resultTypes.toList ((Value.bool true).resultList f.resultTypes.size) (s.fn H (ds ++ [])).results [] := by
    intro b sp hd
    rw [hfn, hres]
    exact trodAll_mk1 (shut_bool htb true)
  have hargs' : ∀ sp : Nat → Bool, (∀ x ∈ before, sp x.block = true) → DataW.TrodAll enc P W' 0 sp true f.params.toList args.toList (s.fn H (ds ++ [])).args before := fun sp hsp => by rw [hfn]; exact hargs sp hsp
  refine ⟨ds, [], before, [], before, [], ⟨before, [], hA, hV, by simp, hz, hn⟩, hresv _ _ _, hargs' _ hold, hvars _, World.keptBut_mono (fun x hx => ⟨hx, Or.inr (Or.inl hx)⟩) (hb.frame (· ∈ before)), fun _ => ?_⟩
  refine ⟨?_, _, _, ([] ++ before) ++ [], ⟨[] ++ before, [], trodAll_append (hargs' _ (fun _ _ => rfl)) (hresv _ _ _), hvars _, rfl, ?_, ?_⟩, ?_⟩
  · exact ok_one hres rfl (okWide_bool_mk htb true)
  · intro b off hp
    have hin : MemPlace.cell b off ∈ before := by simpa using hp
    rw [hb.frozen (hlt _ hin)]
    exact hz b off hin
  · intro ha
    have := hn ha
    simpa using this
  · intro x hx _
    simpa using hx
end
theorem list_of {α : Type} {Q : Nat → α → Prop} : ∀ (n : Nat), (∀ i, i < n → ∃ x, Q i x) → ∃ l : List α, l.length = n ∧ ∀ i x, l[i]? = some x → Q i x
  | 0, _ => ⟨[], rfl, fun i x h => by simp at h⟩
  | n + 1, h => by
    obtain ⟨l, hl, hq⟩ := list_of n (fun i hi => h i (by omega))
    obtain ⟨x, hx⟩ := h n (by omega)
    refine ⟨l ++ [x], by simp [hl], fun i y hy => ?_⟩
    rcases Nat.lt_or_ge i n with hi | hi
    · rw [List.getElem?_append_left (by omega)] at hy
      exact hq i y hy
    · have : i = n := by
        have := (List.getElem?_eq_some_iff.1 hy).1
        simp [hl] at this; omega
      subst this
      rw [List.getElem?_append_right (by omega)] at hy
      simp [hl] at hy
      subst hy; exact hx
theorem addr_add (a : Addr) (j : Nat) (ha : a.spot = none) : a.add j = ⟨a.block, a.off + j, none⟩ := by
  obtain ⟨b, o, sp⟩ := a
  simp at ha; subst ha
  unfold Addr.add
  split
  · rename_i h; subst h; rfl
  · rfl
theorem spot_none {w : World} {a : Addr} {v : Value} (h : w.cell? a = some v) : a.spot = none := by
  unfold World.cell? at h
  split at h
  · split at h
    · cases h
    · rename_i h'; simpa using h'
  · cases h
theorem reads_of {w : World} {size n : Nat} {a : Addr} {xs : List Value} (hl : xs.length = n * size) (hs : 0 < size) (h : ∀ j u, xs[j]? = some u → w.cell? (a.add j) = some u) : Reads w w.heap.size size (some a) n xs := by
  refine ⟨hl, fun hn => ?_⟩
  have h0 : 0 < xs.length := by rw [hl]; exact Nat.mul_pos hn hs
  have hc := h 0 _ (List.getElem?_eq_getElem h0)
  have e0 : a.add 0 = a := by simp [Addr.add]
  rw [e0] at hc
  have hsp := spot_none hc
  refine ⟨a.block, a.off, by obtain ⟨b, o, sp⟩ := a; simp at hsp; subst hsp; rfl, World.block_lt_of_cell? w a hc, fun j u hu => ?_⟩
  rw [← addr_add a j hsp]
  exact h j u hu
section
variable {H : Type} {enc : TypeId × Value → H} {P : Program} {w : World} {base : Nat} {spare : Nat → Bool} {held : Bool}
end
section
variable {H : Type} {enc : TypeId × Value → H} {P : Program} {w : World} {base : Nat} {spare : Nat → Bool} {held : Bool}
theorem open_slice_fields {t e : TypeId} {fs : Array Field} {fuel : Nat} {cs : List Value} {x : DataW H × List MemPlace} (ht : P.underlying t = some (.slice e)) (he : P.underlying e = some (.struct fs))
    (hone : oneCellFields P fs = true) (hC : P.cellsOf e = fs.size) (h : DataW.trod enc P w base spare held fuel t cs = some x) :
    (cs = [.slice none 0 0] ∧ x = (.nil, [])) ∨
    ∃ (a : Addr) (len cap m : Nat) (D : Nat → DataW H) (Pl : Nat → List MemPlace), cs = [.slice (some a) len cap] ∧ base ≤ a.block ∧ len ≤ cap ∧ cap ≤ maxLen ∧ m = (if spare a.block then cap else len) ∧
      x = (.slice ((List.range len).map D) ((List.range (m - len)).map fun j => D (len + j)), MemPlace.row a (m * fs.size) ++ (List.range m).flatMap Pl) ∧
      ∀ i, i < m → ∃ (ys : List (DataW H × List MemPlace)) (n : Nat), D i = .agg (ys.map (·.1)) ∧ Pl i = ys.flatMap (·.2) ∧ ys.length = fs.size ∧
        ∀ (j : Nat) (f : Field), fs[j]? = some f → ∃ (v : Value) (y : DataW H × List MemPlace), w.cell? (a.add (i * fs.size + j)) = some v ∧ ys[j]? = some y ∧ DataW.trod enc P w base spare held n f.type [v] = some y := by
  rcases open_slice ht h with h0 | ⟨a, len, cap, m, n, D, Pl, hcs, hb, hl, hm, hmm, hx, hi⟩
  · exact .inl h0
  · refine .inr ⟨a, len, cap, m, D, Pl, hcs, hb, hl, hm, hmm, by rw [hC] at hx; exact hx, fun i him => ?_⟩
    obtain ⟨cs', hc, ht'⟩ := hi i him
    rw [hC] at hc
    obtain ⟨ys, n', hn', hy, hlen, hyl, hf⟩ := DataW.trod_struct he ht'
    obtain ⟨_, hcl, hat⟩ := World.cells?_some hc
    simp only [Prod.mk.injEq] at hy
    refine ⟨ys, n', hy.1, hy.2, hyl, fun j f hj => ?_⟩
    obtain ⟨ho, hk⟩ := hone_of hone j f hj
    have hjl : j < fs.size := (Array.getElem?_eq_some_iff.1 hj).1
    have hcell := hat j hjl
    have hv : cs'[j]? = some (cs'[j]'(by omega)) := List.getElem?_eq_getElem (by omega)
    have h1 := hf j f hj
    rw [ho, hk] at h1
    have hone' : (cs'.drop j).take 1 = [cs'[j]'(by omega)] := by
      rw [List.drop_eq_getElem_cons (by omega)]
      rfl
    rw [hone'] at h1
    have hys : ys[j]? = some (ys[j]'(by omega)) := List.getElem?_eq_getElem (by omega)
    refine ⟨_, _, ?_, hys, h1.trans hys⟩
    rw [← Go.Deep.add_add, hcell, hv]
end
end Go.Proofs.Ytdaoinhkagmbdaa
namespace Go.Proofs.Ytdaoinhkagmbdaa
open Go.RowKit Go.WideShapes Go.ChangeShapes Go.Joins Go.Deep
section
variable {H : Type} {enc : TypeId × Value → H} {P : Program} {w : World} {base : Nat} {spare : Nat → Bool} {held : Bool}
theorem open_bytes {t e : TypeId} {fuel : Nat} {cs : List Value} {x : DataW H × List MemPlace} (ht : P.underlying t = some (.slice e)) (he : P.underlying e = some (.int .u8)) (hC : P.cellsOf e = 1)
    (h : DataW.trod enc P w base spare held fuel t cs = some x) :
    ∃ (A : Option Addr) (c : Nat) (l : List UInt8), cs = [.slice A l.length c] ∧ l.length ≤ c ∧ c ≤ 9223372036854775807 ∧ (A = none → c = 0) ∧ RB w w.heap.size A l.length l := by
  rcases open_slice1 ht hC h with ⟨rfl, _⟩ | ⟨a, len, cap, m, n, V, D, Pl, rfl, _, hl, hm, hmm, _, hi⟩
  · exact ⟨none, 0, [], rfl, by simp, by omega, fun _ => rfl, RB.nil⟩
  · have hlm : len ≤ m := by rw [hmm]; split <;> omega
    obtain ⟨l, hll, hq⟩ := list_of (Q := fun i (b : UInt8) => w.cell? (a.add i) = some (.int .u8 (b.toNat : Int))) len (fun i hi' => by
      obtain ⟨h1, h2⟩ := hi i (by omega)
      obtain ⟨v, e0, _, hw⟩ := DataW.trod_int he h2
      injection e0 with e0 _
      have hw : 0 ≤ v ∧ v ≤ 255 := by
        simp [Lit.wf, IntKind.min, IntKind.max, IntKind.signed, IntKind.bits] at hw
        omega
      refine ⟨UInt8.ofNat v.toNat, ?_⟩
      rw [h1, e0, UInt8.toNat_ofNat', Nat.mod_eq_of_lt (by omega), Int.toNat_of_nonneg hw.1])
    subst hll
    exact ⟨some a, cap, l, rfl, hl, hm, (fun e => nomatch e), reads_of (by simp [u8s_length]) (by decide) fun j u hu => by
      simp only [u8s, List.getElem?_map, Option.map_eq_some_iff] at hu
      obtain ⟨b, hb, rfl⟩ := hu
      exact hq j b hb⟩
theorem open_slice_top {r : Reach} {b0 : Nat} {t e : TypeId} {v : Value} {d : DataW H} {ps : List MemPlace} (ht : P.underlying t = some (.slice e)) (hval : Value.okWide P w r b0 t v) (h : DataW.Trod enc P w base spare held t v d ps) :
    ∃ fuel, DataW.trod enc P w base spare held fuel t [v] = some (d, ps) := by
  obtain ⟨a, n, c, rfl⟩ := okWide_slice ht hval
  obtain ⟨fuel, hf⟩ := h
  exact ⟨fuel, hf⟩
end
end Go.Proofs.Ytdaoinhkagmbdaa
