/-
  Laid together by merge.py: MemR2, MemE, Law, Law2, Law3, CellLaw, Law4, MemLaw, MemLaw2, MemL5.
-/
import Derived.Test.YtdaoinhkagmbdaaMg5
import Derived.Test.YtdaoinhkagmbdaaMg1
import Derived.ProofKit
import Derived.SizedLaws
import Derived.Lib.SmallJoins
import Derived.Deep.Slices
import Derived.Deep.Fields
import Derived.Test.YtdaoinhkagmbdaaRows
import Derived.Test.YtdaoinhkagmbdaaMg2
import Derived.OpenShut
namespace Go.Proofs.Ytdaoinhkagmbdaa
open Go.RowKit
theorem fromE_all {L : List Ent} {e : Ent} (h : L.length ≤ insN L e) : fromE L e = [] := List.drop_of_length_le h
theorem RT.drop {os : List Ob} {g n c : Nat} {rs : List ER} {L : List Ent} (h : RT os (some ⟨g, 0, none⟩) n c rs L) {a : Nat} (ha : a < n) : LIn os (some ⟨g, a * 7, none⟩) (n - a) (L.drop a) :=
  ⟨rs.drop a, by rw [List.map_drop, h.e], ⟨_, h.row, fun _ _ k => by rw [← flat7_dropR]; exact reads_dropR (Reads.own (k.rowm (.head _))) ha⟩, fun r hr => h.en r (List.mem_of_mem_drop hr)⟩
theorem RT.lnil {os : List Ob} {A : Option Addr} {n c : Nat} {rs : List ER} {L : List Ent} (h : RT os A n c rs L) : LIn os none 0 [] := ⟨[], rfl, ⟨_, h.row, fun _ _ _ => Reads.nil⟩, fun r hr => by cases hr⟩
set_option maxRecDepth 100000 in
set_option maxHeartbeats 4000000 in
theorem rfrom8_any {w x : World} {os : List Ob} {A : Option Addr} {n c : Nat} {rs : List ER} {L : List Ent} {fr : Bool} (h : OW w os x) (hT : RT os A n c rs L) (hn : n ≤ 1000000) (r : ER) (hr : ∀ z, OW w os z → r.En z) :
    Calls Try.prog 18 #[.agg #[.slice A n c, .bool fr], .agg #[.slice r.A r.e.row.length r.c, .int .i64 r.e.fam, .slice r.B r.e.qual.length r.d, .int .i64 r.e.ts, .int .i64 r.e.seq, .int .i64 r.e.kind, .slice r.D r.e.val.length r.q]] x fun e z => ∃ A' n' c', e = .returned (.slice A' n' c') ∧ OW w os z ∧ LIn os A' n' (fromE L r.e) := by
  have HX := Lib.hid h
  have HT := Lib.hid hT
  have HR := Lib.hid hr
  have HRL : Hid (rs.length = n) := Lib.hid (hT.lens h).1
  have HLL : Hid (L.length = n) := Lib.hid (hT.lens h).2
  have HRE : Hid (∀ q, q ∈ rs → ∀ z, OW w os z → q.En z) := Lib.hid fun q hq z hz => (hT.en q hq).en hz
  obtain ⟨N, hN⟩ : ∃ z, z = insN L r.e := ⟨_, rfl⟩
  have hNn : N ≤ n := by rw [hN, ← HLL.out]; exact twN_le _ _
  have HN := Lib.hid hN
  have hkmc : n ≤ c := by
    rcases (h.rowm hT.row).2 with ⟨h1, h2⟩ | ⟨g, cap, _, h1, _, _, h2, _⟩
    · omega
    · injection h1 with _ _ h4; omega
  clear h hT hr hN
  go_enter Try.func18, Try.ntmps18
  go_wp2_with (first
    | (refine wl_box rfl (.tmp 0) rfl [.slice A n c, .bool fr] rfl HX.out ?_; intro bt x1 hz hb; have HX1 : Hid (OW w (boxO bt [.slice A n c, .bool fr] :: os) x1) := Lib.hid (hz.perm List.perm_append_comm); clear hz hb HX)
    | (refine wl_box rfl (.tmp 1) rfl [.slice r.A r.e.row.length r.c, .int .i64 r.e.fam, .slice r.B r.e.qual.length r.d, .int .i64 r.e.ts, .int .i64 r.e.seq, .int .i64 r.e.kind, .slice r.D r.e.val.length r.q] rfl HX1.out ?_; intro be x2 hz hb; have HX2 : Hid (OW w (boxO be [.slice r.A r.e.row.length r.c, .int .i64 r.e.fam, .slice r.B r.e.qual.length r.d, .int .i64 r.e.ts, .int .i64 r.e.seq, .int .i64 r.e.kind, .slice r.D r.e.val.length r.q] :: boxO bt [.slice A n c, .bool fr] :: os) x2) := Lib.hid (hz.perm List.perm_append_comm); clear hz hb HX1))
  go_loopw [5] (fun av wr => ∃ a : Nat, a ≤ N ∧ av = .int .i64 a ∧ Hid (OW w (boxO be [.slice r.A r.e.row.length r.c, .int .i64 r.e.fam, .slice r.B r.e.qual.length r.d, .int .i64 r.e.ts, .int .i64 r.e.seq, .int .i64 r.e.kind, .slice r.D r.e.val.length r.q] :: boxO bt [.slice A n c, .bool fr] :: os) wr)) (fun av _ => N + 1 - (intOf av).toNat)
  case atStart => exact ⟨0, Nat.zero_le _, rfl, HX2⟩
  case round =>
    clear HX2
    obtain ⟨a, haN, rfl, HX⟩ := hrel
    by_cases hak : a < n
    case neg =>
      have hak2 : a = n := by omega
      have hda : decide ((a : Int) < (n : Int)) = false := decide_eq_false (by omega)
      have HAN : Hid (n ≤ N) := Lib.hid (by omega)
      clear hak2
      go_wp2_with (refine wpList_load_cell rfl 22 (.tmp 7) rfl rfl (HX.out.cell (i := 1) (j := 0) rfl rfl) (fun w => Try.isAgg22 w) ?_)
      go_ret
      exact ⟨none, 0, 0, rfl, (HX.out.erase 0).erase 0, by rw [fromE_all (by rw [HLL.out, ← HN.out]; exact HAN.out)]; exact HT.out.lnil⟩
    have hda : decide ((a : Int) < (n : Int)) = true := decide_eq_true (by omega)
    obtain ⟨mg, mcap, hv, _⟩ := own_form (HX.out.rowm (.tail _ (.tail _ HT.out.row))) (show 0 < n by omega)
    injection hv with hv _ hcp
    subst hv
    subst hcp
    obtain ⟨q, hq⟩ : ∃ q, rs[a]? = some q := ⟨_, List.getElem?_eq_getElem (by have := HRL.out; omega)⟩
    have HQ := Lib.hid hq
    have HQE : Hid (∀ z, OW w os z → q.En z) := Lib.hid (HRE.out q (List.mem_of_getElem? hq))
    have HMA : Hid (L[a]? = some q.e) := Lib.hid (by rw [← HT.out.e, List.getElem?_map, hq]; rfl)
    obtain ⟨cv, hcv⟩ : ∃ z, z = cmpE q.e r.e := ⟨_, rfl⟩
    have HCV := Lib.hid hcv.symm
    have HIF : Hid (cv < 0 ↔ a < N) := Lib.hid (by
      have h := tw_iff (p := fun x => decide (cmpE x r.e < 0)) HMA.out (by have := HN.out; unfold insN at this; omega)
      rw [hcv, HN.out]
      simpa [insN] using h)
    have j1 : (0 : Int) ≤ (a : Int) := by omega
    have j2 : (a : Int) < (n : Int) := by omega
    clear hq hcv
    by_cases haN2 : a < N
    case pos =>
      have hcv0 : cv < 0 := HIF.out.2 haN2
      have hdc : decide (cv ≥ 0) = false := decide_eq_false (by omega)
      have hdc2 : decide ((0 : Int) ≤ cv) = false := decide_eq_false (by omega)
      go_wp2_with (refine wpList_load_cell rfl 22 (.tmp 7) rfl rfl (HX.out.cell (i := 1) (j := 0) rfl rfl) (fun w => Try.isAgg22 w) ?_)
      refine lt_start [] (by kernel_rfl) ?_
      intro xd hd
      refine ⟨fun z => OW w (boxO be [.slice r.A r.e.row.length r.c, .int .i64 r.e.fam, .slice r.B r.e.qual.length r.d, .int .i64 r.e.ts, .int .i64 r.e.seq, .int .i64 r.e.kind, .slice r.D r.e.val.length r.q] :: boxO bt [.slice (some ⟨mg, 0, none⟩) n c, .bool fr] :: os) z, ?_⟩
      have HS := Lib.hid (HX.out.later hd)
      refine lt_pure 0 rfl (by kernel_rfl) (by kernel_rfl) (by kernel_rfl) (by kernel_rfl) (fun _ _ _ h => h) (v := ?_) (yi_run rfl (fun w => ?_)) (fun _ => HS.out) ?_
      rotate_left
      · first | (go_simp; done) | (go_simp; with_reducible rfl)
      simp only [Act.put, List.setIfInBounds_toArray, List.set_cons_zero, List.set_cons_succ]
      refine lt_take 1 [3, 4, 6, 7] rfl (by kernel_rfl) (by kernel_rfl) (by kernel_rfl) (by kernel_rfl) (by kernel_rfl) (fun _ _ _ h => h) (yi_cell rfl rfl rfl (fun w hS => OW.cell hS (i := 1) (j := 0) rfl rfl) (fun w => Try.isAgg22 w)) HS.out ?_
      simp only [Act.put, List.setIfInBounds_toArray, List.set_cons_zero, List.set_cons_succ]
      refine lt_pure 2 rfl (by kernel_rfl) (by kernel_rfl) (by kernel_rfl) (by kernel_rfl) (fun _ _ _ h => h) (v := ?_) (yi_run rfl (fun w => ?_)) (fun _ => HS.out) ?_
      rotate_left
      · first | (go_simp; done) | (go_simp; with_reducible rfl)
      simp only [Act.put, List.setIfInBounds_toArray, List.set_cons_zero, List.set_cons_succ]
      refine lt_pure 3 rfl (by kernel_rfl) (by kernel_rfl) (by kernel_rfl) (by kernel_rfl) (fun _ _ _ h => h) (v := ?_) (yi_run rfl (fun w => ?_)) (fun _ => HS.out) ?_
      rotate_left
      · first | (go_simp; done) | (go_simp; with_reducible rfl)
      simp only [Act.put, List.setIfInBounds_toArray, List.set_cons_zero, List.set_cons_succ]
      refine lt_take 4 [6, 7] rfl (by kernel_rfl) (by kernel_rfl) (by kernel_rfl) (by kernel_rfl) (by kernel_rfl) (fun _ _ _ h => h) (yi_rowO rfl rfl rfl (fun w hS => rowRangeM hS (.tail _ (.tail _ HT.out.row)) HQ.out) ent_row8) HS.out ?_
      simp only [Act.put, List.setIfInBounds_toArray, List.set_cons_zero, List.set_cons_succ]
      refine lt_take 5 [6, 7] rfl (by kernel_rfl) (by kernel_rfl) (by kernel_rfl) (by kernel_rfl) (by kernel_rfl) (fun _ _ _ h => h) (yi_row rfl rfl rfl (fun w hS => OW.range hS (i := 0) rfl) ent_row8) HS.out ?_
      simp only [Act.put, List.setIfInBounds_toArray, List.set_cons_zero, List.set_cons_succ]
      refine lt_call 6 rfl (by kernel_rfl) rfl rfl ⟨_, Try.func24, by decide, by kernel_rfl⟩ [.agg #[.slice q.A q.e.row.length q.c, .int .i64 q.e.fam, .slice q.B q.e.qual.length q.d, .int .i64 q.e.ts, .int .i64 q.e.seq, .int .i64 q.e.kind, .slice q.D q.e.val.length q.q], .agg #[.slice r.A r.e.row.length r.c, .int .i64 r.e.fam, .slice r.B r.e.qual.length r.d, .int .i64 r.e.ts, .int .i64 r.e.seq, .int .i64 r.e.kind, .slice r.D r.e.val.length r.q]] rfl ?_
      refine (rCompareQ q r _ (HQE.out _ ((HS.out.erase 0).erase 0)) (HR.out _ ((HS.out.erase 0).erase 0))).mono ?_
      rw [HCV.out]
      rintro rr z9 ⟨rfl, hb⟩
      replace HS := Lib.hid (HS.out.later hb)
      clear hb
      refine ⟨_, rfl, fun _ => HS.out, ?_⟩
      simp only [Act.put, List.setIfInBounds_toArray, List.set_cons_zero, List.set_cons_succ]
      refine lt_pure 7 rfl (by kernel_rfl) (by kernel_rfl) (by kernel_rfl) (by kernel_rfl) (fun _ _ _ h => h) (v := ?_) (yi_run rfl (fun w => ?_)) (fun _ => HS.out) ?_
      rotate_left
      · first | (go_simp; done) | (go_simp; with_reducible rfl)
      simp only [Act.put, List.setIfInBounds_toArray, List.set_cons_zero, List.set_cons_succ]
      refine lt_done (by kernel_rfl) ?_
      replace HX := Lib.hid HS.out
      clear HS
      go_wp2_with fail
      go_roundw
      case rel => exact ⟨a + 1, by omega, by go_num, HX⟩
      case measure => simp [intOf]; omega
    have hcv0 : ¬ cv < 0 := fun h => haN2 (HIF.out.1 h)
    have hdc : decide (cv ≥ 0) = true := decide_eq_true (by omega)
    have hdc2 : decide ((0 : Int) ≤ cv) = true := decide_eq_true (by omega)
    have HAN : Hid (a = N) := Lib.hid (by omega)
    go_wp2_with (refine wpList_load_cell rfl 22 (.tmp 7) rfl rfl (HX.out.cell (i := 1) (j := 0) rfl rfl) (fun w => Try.isAgg22 w) ?_)
    refine lt_start [] (by kernel_rfl) ?_
    intro xd hd
    refine ⟨fun z => OW w (boxO be [.slice r.A r.e.row.length r.c, .int .i64 r.e.fam, .slice r.B r.e.qual.length r.d, .int .i64 r.e.ts, .int .i64 r.e.seq, .int .i64 r.e.kind, .slice r.D r.e.val.length r.q] :: boxO bt [.slice (some ⟨mg, 0, none⟩) n c, .bool fr] :: os) z, ?_⟩
    have HS := Lib.hid (HX.out.later hd)
    refine lt_pure 0 rfl (by kernel_rfl) (by kernel_rfl) (by kernel_rfl) (by kernel_rfl) (fun _ _ _ h => h) (v := ?_) (yi_run rfl (fun w => ?_)) (fun _ => HS.out) ?_
    rotate_left
    · first | (go_simp; done) | (go_simp; with_reducible rfl)
    simp only [Act.put, List.setIfInBounds_toArray, List.set_cons_zero, List.set_cons_succ]
    refine lt_take 1 [3, 4, 6, 7] rfl (by kernel_rfl) (by kernel_rfl) (by kernel_rfl) (by kernel_rfl) (by kernel_rfl) (fun _ _ _ h => h) (yi_cell rfl rfl rfl (fun w hS => OW.cell hS (i := 1) (j := 0) rfl rfl) (fun w => Try.isAgg22 w)) HS.out ?_
    simp only [Act.put, List.setIfInBounds_toArray, List.set_cons_zero, List.set_cons_succ]
    refine lt_pure 2 rfl (by kernel_rfl) (by kernel_rfl) (by kernel_rfl) (by kernel_rfl) (fun _ _ _ h => h) (v := ?_) (yi_run rfl (fun w => ?_)) (fun _ => HS.out) ?_
    rotate_left
    · first | (go_simp; done) | (go_simp; with_reducible rfl)
    simp only [Act.put, List.setIfInBounds_toArray, List.set_cons_zero, List.set_cons_succ]
    refine lt_pure 3 rfl (by kernel_rfl) (by kernel_rfl) (by kernel_rfl) (by kernel_rfl) (fun _ _ _ h => h) (v := ?_) (yi_run rfl (fun w => ?_)) (fun _ => HS.out) ?_
    rotate_left
    · first | (go_simp; done) | (go_simp; with_reducible rfl)
    simp only [Act.put, List.setIfInBounds_toArray, List.set_cons_zero, List.set_cons_succ]
    refine lt_take 4 [6, 7] rfl (by kernel_rfl) (by kernel_rfl) (by kernel_rfl) (by kernel_rfl) (by kernel_rfl) (fun _ _ _ h => h) (yi_rowO rfl rfl rfl (fun w hS => rowRangeM hS (.tail _ (.tail _ HT.out.row)) HQ.out) ent_row8) HS.out ?_
    simp only [Act.put, List.setIfInBounds_toArray, List.set_cons_zero, List.set_cons_succ]
    refine lt_take 5 [6, 7] rfl (by kernel_rfl) (by kernel_rfl) (by kernel_rfl) (by kernel_rfl) (by kernel_rfl) (fun _ _ _ h => h) (yi_row rfl rfl rfl (fun w hS => OW.range hS (i := 0) rfl) ent_row8) HS.out ?_
    simp only [Act.put, List.setIfInBounds_toArray, List.set_cons_zero, List.set_cons_succ]
    refine lt_call 6 rfl (by kernel_rfl) rfl rfl ⟨_, Try.func24, by decide, by kernel_rfl⟩ [.agg #[.slice q.A q.e.row.length q.c, .int .i64 q.e.fam, .slice q.B q.e.qual.length q.d, .int .i64 q.e.ts, .int .i64 q.e.seq, .int .i64 q.e.kind, .slice q.D q.e.val.length q.q], .agg #[.slice r.A r.e.row.length r.c, .int .i64 r.e.fam, .slice r.B r.e.qual.length r.d, .int .i64 r.e.ts, .int .i64 r.e.seq, .int .i64 r.e.kind, .slice r.D r.e.val.length r.q]] rfl ?_
    refine (rCompareQ q r _ (HQE.out _ ((HS.out.erase 0).erase 0)) (HR.out _ ((HS.out.erase 0).erase 0))).mono ?_
    rw [HCV.out]
    rintro rr z9 ⟨rfl, hb⟩
    replace HS := Lib.hid (HS.out.later hb)
    clear hb
    refine ⟨_, rfl, fun _ => HS.out, ?_⟩
    simp only [Act.put, List.setIfInBounds_toArray, List.set_cons_zero, List.set_cons_succ]
    refine lt_pure 7 rfl (by kernel_rfl) (by kernel_rfl) (by kernel_rfl) (by kernel_rfl) (fun _ _ _ h => h) (v := ?_) (yi_run rfl (fun w => ?_)) (fun _ => HS.out) ?_
    rotate_left
    · first | (go_simp; done) | (go_simp; with_reducible rfl)
    simp only [Act.put, List.setIfInBounds_toArray, List.set_cons_zero, List.set_cons_succ]
    refine lt_done (by kernel_rfl) ?_
    replace HX := Lib.hid HS.out
    clear HS
    go_wp2_with (refine wpList_load_cell rfl 22 (.tmp 21) rfl rfl (HX.out.cell (i := 1) (j := 0) rfl rfl) (fun w => Try.isAgg22 w) ?_)
    go_ret
    refine ⟨_, n - a, c - a, rfl, (HX.out.erase 0).erase 0, ?_⟩
    have h := HT.out.drop hak
    unfold fromE
    rw [← HN.out, ← HAN.out]
    exact h
theorem rpackQ (r : ER) (w : World) (h : r.En w) (hc : checkE r.e = 0) {n : Nat} (hn : (packB r.e).length = n) : Calls Try.prog 57 #[.agg #[.slice r.A r.e.row.length r.c, .int .i64 r.e.fam, .slice r.B r.e.qual.length r.d, .int .i64 r.e.ts, .int .i64 r.e.seq, .int .i64 r.e.kind, .slice r.D r.e.val.length r.q]] w fun e y => ∃ A c, e = .returned (.tuple #[.slice A n c, .int .i64 0]) ∧ Below w.heap.size w y :=
  (rpack_any r.e r.A _ r.c r.B _ r.d r.D _ r.q w h).mono fun e y hp => by
    have h1 : PackE r.e = (packB r.e, 0) := by unfold PackE; rw [if_pos hc]
    rw [h1] at hp
    obtain ⟨A, c, h2, _, h3⟩ := hp
    exact ⟨A, c, by rw [h2, hn], h3⟩
theorem sumP_take {L : List Ent} {i : Nat} {e : Ent} (h : L[i]? = some e) : sumP (L.take (i + 1)) = sumP (L.take i) + (packB e).length := by
  unfold sumP
  rw [List.take_add_one, h]
  simp
theorem sumP_takele {L : List Ent} (h : ∀ e, e ∈ L → checkE e = 0) (i : Nat) : sumP (L.take i) ≤ 5200 * L.length :=
  Nat.le_trans (sumP_le fun e he => h e (List.mem_of_mem_take he)) (Nat.mul_le_mul_left _ (by rw [List.length_take]; omega))
set_option maxRecDepth 100000 in
set_option maxHeartbeats 4000000 in
theorem rbytes8_any {w x : World} {os : List Ob} {A : Option Addr} {n c : Nat} {rs : List ER} {L : List Ent} {fr : Bool} (h : OW w os x) (hT : RT os A n c rs L) (hn : n ≤ 90000) (hC : ∀ e, e ∈ L → checkE e = 0) {s : Nat} (hs : sumP L = s) :
    Calls Try.prog 30 #[.agg #[.slice A n c, .bool fr]] x fun e z => e = .returned (.int .i64 (s : Nat)) ∧ OW w os z := by
  have HX := Lib.hid h
  have HT := Lib.hid hT
  have HC := Lib.hid hC
  have HS0 := Lib.hid hs
  have HRL : Hid (rs.length = n) := Lib.hid (hT.lens h).1
  have HLL : Hid (L.length = n) := Lib.hid (hT.lens h).2
  have HRE : Hid (∀ q, q ∈ rs → ∀ z, OW w os z → q.En z) := Lib.hid fun q hq z hz => (hT.en q hq).en hz
  clear h hT hC hs
  go_enter Try.func30, Try.ntmps30
  go_wp2_with (refine wl_box rfl (.tmp 0) rfl [.slice A n c, .bool fr] rfl HX.out ?_; intro bt x1 hz hb; have HX1 : Hid (OW w (boxO bt [.slice A n c, .bool fr] :: os) x1) := Lib.hid (hz.perm List.perm_append_comm); clear hz hb HX)
  go_loopw [3, 4, 5, 6, 14] (fun nv iv _ _ _ wr => ∃ (a sv : Nat), a ≤ n ∧ iv = .int .i64 a ∧ nv = .int .i64 (sv : Nat) ∧ Hid (sumP (L.take a) = sv) ∧ Hid (OW w (boxO bt [.slice A n c, .bool fr] :: os) wr)) (fun _ iv _ _ _ _ => n - (intOf iv).toNat)
  case atStart => exact ⟨0, 0, Nat.zero_le _, rfl, rfl, Lib.hid rfl, HX1⟩
  case round =>
    clear HX1
    obtain ⟨a, sv, han, rfl, rfl, HSV, HX⟩ := hrel
    by_cases hak : a < n
    case neg =>
      have hak2 : a = n := by omega
      have hda : decide ((a : Int) < (n : Int)) = false := decide_eq_false (by omega)
      have HE : Hid (sv = s) := Lib.hid (by
        have h := HSV.out
        rw [List.take_of_length_le (by rw [HLL.out]; omega)] at h
        rw [← h]; exact HS0.out)
      clear hak2
      go_wp2_with (refine wpList_load_cell rfl 22 (.tmp 8) rfl rfl (HX.out.cell (i := 0) (j := 0) rfl rfl) (fun w => Try.isAgg22 w) ?_)
      go_ret
      exact ⟨by rw [HE.out]; rfl, HX.out.erase 0⟩
    have hda : decide ((a : Int) < (n : Int)) = true := decide_eq_true (by omega)
    obtain ⟨mg, mcap, hv, _⟩ := own_form (HX.out.rowm (.tail _ HT.out.row)) (show 0 < n by omega)
    injection hv with hv _ hcp
    subst hv
    subst hcp
    obtain ⟨q, hq⟩ : ∃ q, rs[a]? = some q := ⟨_, List.getElem?_eq_getElem (by have := HRL.out; omega)⟩
    have HQ := Lib.hid hq
    have HQE : Hid (∀ z, OW w os z → q.En z) := Lib.hid (HRE.out q (List.mem_of_getElem? hq))
    have hma : L[a]? = some q.e := by rw [← HT.out.e, List.getElem?_map, hq]; rfl
    have hck := HC.out _ (List.mem_of_getElem? hma)
    have HCK := Lib.hid hck
    obtain ⟨pl, hpl⟩ : ∃ z, z = (packB q.e).length := ⟨_, rfl⟩
    have hpl2 := pack_le hck
    rw [← hpl] at hpl2
    have HPL := Lib.hid hpl.symm
    have HSV2 : Hid (sumP (L.take (a + 1)) = sv + pl) := Lib.hid (by rw [sumP_take hma, HSV.out, hpl])
    have hsv : sv ≤ 5200 * 90000 := by
      have h1 := sumP_takele HC.out a
      rw [HSV.out, HLL.out] at h1; omega
    have j1 : (0 : Int) ≤ (a : Int) := by omega
    have j2 : (a : Int) < (n : Int) := by omega
    clear hq hma hck hpl
    go_wp2_with (first
      | (refine wpList_load_cell rfl 22 (.tmp 8) rfl rfl (HX.out.cell (i := 0) (j := 0) rfl rfl) (fun w => Try.isAgg22 w) ?_)
      | (refine wpList_load_cell rfl 22 (.tmp 15) rfl rfl (HX.out.cell (i := 0) (j := 0) rfl rfl) (fun w => Try.isAgg22 w) ?_)
      | (refine wpList_load_at rfl 30 (.tmp 18) rfl rfl (rowRangeM HX.out (.tail _ HT.out.row) HQ.out) ent_row8 ?_)
      | (go_at_call 57; go_must (refine (rpackQ q _ (HQE.out _ (HX.out.erase 0)) HCK.out HPL.out).mono ?_); rintro e y1 ⟨A9, c9, rfl, hb⟩; have HX2 := Lib.hid (HX.out.later hb); clear hb HX))
    go_roundw
    case rel => exact ⟨a + 1, sv + pl, by omega, by go_num, by go_num, HSV2, HX2⟩
    case measure => simp [intOf]; omega
set_option maxRecDepth 100000 in
set_option maxHeartbeats 4000000 in
theorem sameList_yes {w : World} {A B : Option Addr} {n c d : Nat} {L : List Ent} (ha : Ens w A n L) (hb : Ens w B n L) (hn : n ≤ 1000000) :
    Calls Try.prog 19 #[.slice A n c, .slice B n d] w fun e z => e = .returned (.bool true) ∧ Below w.heap.size w z := by
  have HA : Hid (∀ z, Below w.heap.size w z → Ens z A n L) := Lib.hid fun z hz => ha.later hz
  have HB : Hid (∀ z, Below w.heap.size w z → Ens z B n L) := Lib.hid fun z hz => hb.later hz
  have HX := Lib.hid (OW.nil w)
  clear ha hb
  have d0 : ((n : Int) != (n : Int)) = false := bne_eq_false_iff_eq.2 rfl
  go_enter Try.func19, Try.ntmps19
  go_wp2_with fail
  go_loopw [5] (fun iv wr => ∃ a : Nat, a ≤ n ∧ iv = .int .i64 a ∧ Hid (OW w [] wr)) (fun iv _ => n - (intOf iv).toNat)
  case atStart => exact ⟨0, Nat.zero_le _, rfl, HX⟩
  case round =>
    clear HX
    obtain ⟨a, han, rfl, HX⟩ := hrel
    by_cases hak : a < n
    case neg =>
      have hak2 : a = n := by omega
      have hda : decide ((a : Int) < (n : Int)) = false := decide_eq_false (by omega)
      clear hak2
      go_wp2_with fail
      go_ret
      exact ⟨rfl, HX.out.up⟩
    have hda : decide ((a : Int) < (n : Int)) = true := decide_eq_true (by omega)
    have j1 : (0 : Int) ≤ (a : Int) := by omega
    have j2 : (a : Int) < (n : Int) := by omega
    obtain ⟨b1, o1, p, rfl, hb1, hp, hrp, hep⟩ := (HA.out w (Below.refl _ _)).er hak
    obtain ⟨b2, o2, q, rfl, hb2, hq, hrq, heq⟩ := (HB.out w (Below.refl _ _)).er hak
    have HRP : Hid (∀ z, Below w.heap.size w z → z.rangeAt b1 (o1 + a * 7) [.slice p.A p.e.row.length p.c, .int .i64 p.e.fam, .slice p.B p.e.qual.length p.d, .int .i64 p.e.ts, .int .i64 p.e.seq, .int .i64 p.e.kind, .slice p.D p.e.val.length p.q]) := Lib.hid fun z hz j v hj => (hz.cell (p := ⟨b1, _, none⟩) hb1).trans (hrp j v hj)
    have HRQ : Hid (∀ z, Below w.heap.size w z → z.rangeAt b2 (o2 + a * 7) [.slice q.A q.e.row.length q.c, .int .i64 q.e.fam, .slice q.B q.e.qual.length q.d, .int .i64 q.e.ts, .int .i64 q.e.seq, .int .i64 q.e.kind, .slice q.D q.e.val.length q.q]) := Lib.hid fun z hz j v hj => (hz.cell (p := ⟨b2, _, none⟩) hb2).trans (hrq j v hj)
    have HPN : Hid (∀ z, Below w.heap.size w z → p.En z) := Lib.hid fun z hz => hep.later hz
    have HQN : Hid (∀ z, Below w.heap.size w z → q.En z) := Lib.hid fun z hz => heq.later hz
    have HPQ : Hid (p.e = q.e) := Lib.hid (by rw [hp] at hq; injection hq)
    clear hb1 hp hrp hep hb2 hq hrq heq
    go_wp2_with fail
    refine lt_start [] (by kernel_rfl) ?_
    intro xd hd
    refine ⟨fun z => OW w [] z, ?_⟩
    have HS := Lib.hid (HX.out.later hd)
    refine lt_pure 0 rfl (by kernel_rfl) (by kernel_rfl) (by kernel_rfl) (by kernel_rfl) (fun _ _ _ h => h) (v := ?_) (yi_run rfl (fun w => ?_)) (fun _ => HS.out) ?_
    rotate_left
    · first | (go_simp; done) | (go_simp; with_reducible rfl)
    simp only [Act.put, List.setIfInBounds_toArray, List.set_cons_zero, List.set_cons_succ]
    refine lt_pure 1 rfl (by kernel_rfl) (by kernel_rfl) (by kernel_rfl) (by kernel_rfl) (fun _ _ _ h => h) (v := ?_) (yi_run rfl (fun w => ?_)) (fun _ => HS.out) ?_
    rotate_left
    · first | (go_simp; done) | (go_simp; with_reducible rfl)
    simp only [Act.put, List.setIfInBounds_toArray, List.set_cons_zero, List.set_cons_succ]
    refine lt_pure 2 rfl (by kernel_rfl) (by kernel_rfl) (by kernel_rfl) (by kernel_rfl) (fun _ _ _ h => h) (v := ?_) (yi_run rfl (fun w => ?_)) (fun _ => HS.out) ?_
    rotate_left
    · first | (go_simp; done) | (go_simp; with_reducible rfl)
    simp only [Act.put, List.setIfInBounds_toArray, List.set_cons_zero, List.set_cons_succ]
    refine lt_take 3 [8, 9] rfl (by kernel_rfl) (by kernel_rfl) (by kernel_rfl) (by kernel_rfl) (by kernel_rfl) (fun _ _ _ h => h) (yi_rowO rfl rfl rfl (fun w hS => HRP.out w (OW.up hS)) ent_row8) HS.out ?_
    simp only [Act.put, List.setIfInBounds_toArray, List.set_cons_zero, List.set_cons_succ]
    refine lt_pure 4 rfl (by kernel_rfl) (by kernel_rfl) (by kernel_rfl) (by kernel_rfl) (fun _ _ _ h => h) (v := ?_) (yi_run rfl (fun w => ?_)) (fun _ => HS.out) ?_
    rotate_left
    · first | (go_simp; done) | (go_simp; with_reducible rfl)
    simp only [Act.put, List.setIfInBounds_toArray, List.set_cons_zero, List.set_cons_succ]
    refine lt_pure 5 rfl (by kernel_rfl) (by kernel_rfl) (by kernel_rfl) (by kernel_rfl) (fun _ _ _ h => h) (v := ?_) (yi_run rfl (fun w => ?_)) (fun _ => HS.out) ?_
    rotate_left
    · first | (go_simp; done) | (go_simp; with_reducible rfl)
    simp only [Act.put, List.setIfInBounds_toArray, List.set_cons_zero, List.set_cons_succ]
    refine lt_pure 6 rfl (by kernel_rfl) (by kernel_rfl) (by kernel_rfl) (by kernel_rfl) (fun _ _ _ h => h) (v := ?_) (yi_run rfl (fun w => ?_)) (fun _ => HS.out) ?_
    rotate_left
    · first | (go_simp; done) | (go_simp; with_reducible rfl)
    simp only [Act.put, List.setIfInBounds_toArray, List.set_cons_zero, List.set_cons_succ]
    refine lt_take 7 [8, 9] rfl (by kernel_rfl) (by kernel_rfl) (by kernel_rfl) (by kernel_rfl) (by kernel_rfl) (fun _ _ _ h => h) (yi_rowO rfl rfl rfl (fun w hS => HRQ.out w (OW.up hS)) ent_row8) HS.out ?_
    simp only [Act.put, List.setIfInBounds_toArray, List.set_cons_zero, List.set_cons_succ]
    refine lt_call 8 rfl (by kernel_rfl) rfl rfl ⟨_, Try.func13, by decide, by kernel_rfl⟩ [.agg #[.slice p.A p.e.row.length p.c, .int .i64 p.e.fam, .slice p.B p.e.qual.length p.d, .int .i64 p.e.ts, .int .i64 p.e.seq, .int .i64 p.e.kind, .slice p.D p.e.val.length p.q], .agg #[.slice q.A q.e.row.length q.c, .int .i64 q.e.fam, .slice q.B q.e.qual.length q.d, .int .i64 q.e.ts, .int .i64 q.e.seq, .int .i64 q.e.kind, .slice q.D q.e.val.length q.q]] rfl ?_
    refine (sameEntry_yes p q _ HPQ.out (HPN.out _ HS.out.up) (HQN.out _ HS.out.up)).mono ?_
    rintro e y3 ⟨rfl, hb⟩
    replace HS := Lib.hid (HS.out.later hb)
    clear hb
    refine ⟨_, rfl, fun _ => HS.out, ?_⟩
    simp only [Act.put, List.setIfInBounds_toArray, List.set_cons_zero, List.set_cons_succ]
    refine lt_pure 9 rfl (by kernel_rfl) (by kernel_rfl) (by kernel_rfl) (by kernel_rfl) (fun _ _ _ h => h) (v := ?_) (yi_run rfl (fun w => ?_)) (fun _ => HS.out) ?_
    rotate_left
    · first | (go_simp; done) | (go_simp; with_reducible rfl)
    simp only [Act.put, List.setIfInBounds_toArray, List.set_cons_zero, List.set_cons_succ]
    refine lt_done (by kernel_rfl) ?_
    replace HX := Lib.hid HS.out
    clear HS
    go_wp2_with fail
    go_roundw
    case rel => exact ⟨a + 1, by omega, by go_num, HX⟩
    case measure => simp [intOf]; omega
theorem OW.putB {w x y : World} {os : List Ob} {i c : Nat} {T : TypeId} {A : Option Addr} {l l' : List UInt8} (h : OW w os x) (hi : os[i]? = some (bytO T (A, c, l))) (ho : OwnB T w.heap.size y A c l') (hc : Chg (fun b => A.map (·.block) = some b) x y) : OW w (os.set i (bytO T (A, c, l'))) y :=
  h.upd hi hc (fun b _ e => by rw [byt_blk]; exact e) ⟨(fun e => nomatch e), fun _ => ho⟩ fun b hb => .inl (by rw [byt_blk] at hb ⊢; exact hb)
theorem turn_row8 : RowTy Try.prog 62 3 := ⟨⟨_, Try.underlying62, rfl⟩, by kernel_rfl⟩
def TurnedP (w : World) (os : List Ob) (r : ER) (en : Ending) (z : World) : Prop :=
  ∃ e' : Ent, en = .returned (.agg #[.slice r.A e'.row.length r.c, .int .i64 e'.fam, .slice r.B e'.qual.length r.d, .int .i64 e'.ts, .int .i64 e'.seq, .int .i64 e'.kind, .slice r.D e'.val.length r.q]) ∧ e'.row.length = r.e.row.length ∧ e'.qual.length = r.e.qual.length ∧ e'.val.length = r.e.val.length ∧ OW w (entO r.A r.B r.D r.c r.d r.q e' ++ os) z
set_option maxRecDepth 100000 in
set_option maxHeartbeats 2000000 in
theorem turned8_0 {w x : World} {os : List Ob} (r : ER) (ta tb : Int) (h : OW w (entO r.A r.B r.D r.c r.d r.q r.e ++ os) x) (hl : r.e.row.length ≤ 5000 ∧ r.e.qual.length ≤ 5000 ∧ r.e.val.length ≤ 5000) :
    Calls Try.prog 31 #[.agg #[.slice r.A r.e.row.length r.c, .int .i64 r.e.fam, .slice r.B r.e.qual.length r.d, .int .i64 r.e.ts, .int .i64 r.e.seq, .int .i64 r.e.kind, .slice r.D r.e.val.length r.q], .slice none 0 0, .agg #[.int .i64 0, .int .i64 ta, .int .i64 tb]] x (TurnedP w os r) := by
  have HL := Lib.hid hl
  have HX : Hid (OW w (bytO 5 (r.A, r.c, r.e.row ++ mkL 70) :: bytO 5 (r.B, r.d, r.e.qual ++ mkL 70) :: bytO 5 (r.D, r.q, r.e.val ++ mkL 70) :: os) x) := Lib.hid h
  clear h hl
  go_enter Try.func31, Try.ntmps31
  go_wp2_with (first
    | (refine wl_box rfl (.tmp 0) rfl [.slice r.A r.e.row.length r.c, .int .i64 r.e.fam, .slice r.B r.e.qual.length r.d, .int .i64 r.e.ts, .int .i64 r.e.seq, .int .i64 r.e.kind, .slice r.D r.e.val.length r.q] rfl HX.out ?_; intro g3 x1 hz hb; have HX1 : Hid (OW w (boxO g3 [.slice r.A r.e.row.length r.c, .int .i64 r.e.fam, .slice r.B r.e.qual.length r.d, .int .i64 r.e.ts, .int .i64 r.e.seq, .int .i64 r.e.kind, .slice r.D r.e.val.length r.q] :: bytO 5 (r.A, r.c, r.e.row ++ mkL 70) :: bytO 5 (r.B, r.d, r.e.qual ++ mkL 70) :: bytO 5 (r.D, r.q, r.e.val ++ mkL 70) :: os) x1) := Lib.hid (hz.perm List.perm_append_comm); clear hz hb HX)
    | (refine wl_box rfl (.tmp 2) rfl [.int .i64 0, .int .i64 ta, .int .i64 tb] rfl HX1.out ?_; intro g5 x2 hz hb; have HX2 : Hid (OW w (boxO g5 [.int .i64 0, .int .i64 ta, .int .i64 tb] :: boxO g3 [.slice r.A r.e.row.length r.c, .int .i64 r.e.fam, .slice r.B r.e.qual.length r.d, .int .i64 r.e.ts, .int .i64 r.e.seq, .int .i64 r.e.kind, .slice r.D r.e.val.length r.q] :: bytO 5 (r.A, r.c, r.e.row ++ mkL 70) :: bytO 5 (r.B, r.d, r.e.qual ++ mkL 70) :: bytO 5 (r.D, r.q, r.e.val ++ mkL 70) :: os) x2) := Lib.hid (hz.perm List.perm_append_comm); clear hz hb HX1)
    | (refine wl_alloc rfl rfl [.slice none 0 0, .int .i64 0, .slice none 0 0, .int .i64 0, .int .i64 0, .int .i64 0, .slice none 0 0] (.inl (by kernel_rfl)) HX2.out ?_; intro g6 x3 hz hb; have HX3 : Hid (OW w (boxO g6 [.slice none 0 0, .int .i64 0, .slice none 0 0, .int .i64 0, .int .i64 0, .int .i64 0, .slice none 0 0] :: boxO g5 [.int .i64 0, .int .i64 ta, .int .i64 tb] :: boxO g3 [.slice r.A r.e.row.length r.c, .int .i64 r.e.fam, .slice r.B r.e.qual.length r.d, .int .i64 r.e.ts, .int .i64 r.e.seq, .int .i64 r.e.kind, .slice r.D r.e.val.length r.q] :: bytO 5 (r.A, r.c, r.e.row ++ mkL 70) :: bytO 5 (r.B, r.d, r.e.qual ++ mkL 70) :: bytO 5 (r.D, r.q, r.e.val ++ mkL 70) :: os) x3) := Lib.hid (hz.perm List.perm_append_comm); clear hz hb HX2)
    | (refine wpList_load_cell rfl 3 (.tmp 7) rfl rfl (HX3.out.cell (i := 1) (j := 0) rfl rfl) (fun w => Try.isAgg3 w) ?_)
    | (refine wpList_load_cell rfl 28 (.tmp 17) rfl rfl (HX3.out.cell (i := 2) (j := 0) rfl rfl) (fun w => Try.isAgg28 w) ?_)
    | (refine wpList_load_cell rfl 3 (.tmp 19) rfl rfl (HX3.out.cell (i := 1) (j := 1) rfl rfl) (fun w => Try.isAgg3 w) ?_)
    | (refine wpList_load_cell rfl 3 (.tmp 21) rfl rfl (HX3.out.cell (i := 1) (j := 2) rfl rfl) (fun w => Try.isAgg3 w) ?_)
    | (go_at_call 58; go_must (refine (put_any w.heap.size r.e.row (mkL 70) r.A _ r.c ta tb _ (HX3.out.byt (i := 3) rfl) rfl (by have := HL.out; omega)).mono ?_); rintro e y1 ⟨rfl, l', hl', ho, hc⟩; have HY : Hid (OW w (boxO g6 [.slice none 0 0, .int .i64 0, .slice none 0 0, .int .i64 0, .int .i64 0, .int .i64 0, .slice none 0 0] :: boxO g5 [.int .i64 0, .int .i64 ta, .int .i64 tb] :: boxO g3 [.slice r.A r.e.row.length r.c, .int .i64 r.e.fam, .slice r.B r.e.qual.length r.d, .int .i64 r.e.ts, .int .i64 r.e.seq, .int .i64 r.e.kind, .slice r.D r.e.val.length r.q] :: bytO 5 (r.A, r.c, l' ++ mkL 70) :: bytO 5 (r.B, r.d, r.e.qual ++ mkL 70) :: bytO 5 (r.D, r.q, r.e.val ++ mkL 70) :: os) y1) := Lib.hid (HX3.out.putB (i := 3) rfl ho hc); have HLL := Lib.hid hl'; clear hl' ho hc HX3)
    | (refine wpList_load_row7 rfl 30 (.tmp 3) rfl rfl (HY.out.range (i := 2) rfl) ent_row8 ?_)
    | (refine wl_put rfl (.tmp 6) (.tmp 62) rfl HY.out 0 rfl rfl [.slice r.A r.e.row.length r.c, .int .i64 r.e.fam, .slice r.B r.e.qual.length r.d, .int .i64 r.e.ts, .int .i64 r.e.seq, .int .i64 r.e.kind, .slice r.D r.e.val.length r.q] rfl rfl (by kernel_rfl) (by simp [Value.oneCell']) ?_; intro y2 hz _; have HZ : Hid (OW w (boxO g6 [.slice r.A r.e.row.length r.c, .int .i64 r.e.fam, .slice r.B r.e.qual.length r.d, .int .i64 r.e.ts, .int .i64 r.e.seq, .int .i64 r.e.kind, .slice r.D r.e.val.length r.q] :: boxO g5 [.int .i64 0, .int .i64 ta, .int .i64 tb] :: boxO g3 [.slice r.A r.e.row.length r.c, .int .i64 r.e.fam, .slice r.B r.e.qual.length r.d, .int .i64 r.e.ts, .int .i64 r.e.seq, .int .i64 r.e.kind, .slice r.D r.e.val.length r.q] :: bytO 5 (r.A, r.c, l' ++ mkL 70) :: bytO 5 (r.B, r.d, r.e.qual ++ mkL 70) :: bytO 5 (r.D, r.q, r.e.val ++ mkL 70) :: os) y2) := Lib.hid hz; clear hz HY))
  (try simp only [Exit.inBlock, Exit.then])
  refine bodyPost_ret (results_rowL rfl _ _ g6 [.slice r.A r.e.row.length r.c, .int .i64 r.e.fam, .slice r.B r.e.qual.length r.d, .int .i64 r.e.ts, .int .i64 r.e.seq, .int .i64 r.e.kind, .slice r.D r.e.val.length r.q] rfl (HZ.out.range (i := 0) rfl) (by kernel_rfl) (by kernel_rfl)) rfl ?_
  exact ⟨{ r.e with row := l' }, by show _ = Ending.returned (.agg #[.slice r.A l'.length r.c, .int .i64 r.e.fam, .slice r.B r.e.qual.length r.d, .int .i64 r.e.ts, .int .i64 r.e.seq, .int .i64 r.e.kind, .slice r.D r.e.val.length r.q]); rw [HLL.out], HLL.out, rfl, rfl, ((HZ.out.erase 0).erase 0).erase 0⟩
set_option maxRecDepth 100000 in
set_option maxHeartbeats 2000000 in
theorem turned8_1 {w x : World} {os : List Ob} (r : ER) (ta tb : Int) (h : OW w (entO r.A r.B r.D r.c r.d r.q r.e ++ os) x) (hl : r.e.row.length ≤ 5000 ∧ r.e.qual.length ≤ 5000 ∧ r.e.val.length ≤ 5000) :
    Calls Try.prog 31 #[.agg #[.slice r.A r.e.row.length r.c, .int .i64 r.e.fam, .slice r.B r.e.qual.length r.d, .int .i64 r.e.ts, .int .i64 r.e.seq, .int .i64 r.e.kind, .slice r.D r.e.val.length r.q], .slice none 0 0, .agg #[.int .i64 1, .int .i64 ta, .int .i64 tb]] x (TurnedP w os r) := by
  have HL := Lib.hid hl
  have HX : Hid (OW w (bytO 5 (r.A, r.c, r.e.row ++ mkL 70) :: bytO 5 (r.B, r.d, r.e.qual ++ mkL 70) :: bytO 5 (r.D, r.q, r.e.val ++ mkL 70) :: os) x) := Lib.hid h
  clear h hl
  go_enter Try.func31, Try.ntmps31
  go_wp2_with (first
    | (refine wl_box rfl (.tmp 0) rfl [.slice r.A r.e.row.length r.c, .int .i64 r.e.fam, .slice r.B r.e.qual.length r.d, .int .i64 r.e.ts, .int .i64 r.e.seq, .int .i64 r.e.kind, .slice r.D r.e.val.length r.q] rfl HX.out ?_; intro g3 x1 hz hb; have HX1 : Hid (OW w (boxO g3 [.slice r.A r.e.row.length r.c, .int .i64 r.e.fam, .slice r.B r.e.qual.length r.d, .int .i64 r.e.ts, .int .i64 r.e.seq, .int .i64 r.e.kind, .slice r.D r.e.val.length r.q] :: bytO 5 (r.A, r.c, r.e.row ++ mkL 70) :: bytO 5 (r.B, r.d, r.e.qual ++ mkL 70) :: bytO 5 (r.D, r.q, r.e.val ++ mkL 70) :: os) x1) := Lib.hid (hz.perm List.perm_append_comm); clear hz hb HX)
    | (refine wl_box rfl (.tmp 2) rfl [.int .i64 1, .int .i64 ta, .int .i64 tb] rfl HX1.out ?_; intro g5 x2 hz hb; have HX2 : Hid (OW w (boxO g5 [.int .i64 1, .int .i64 ta, .int .i64 tb] :: boxO g3 [.slice r.A r.e.row.length r.c, .int .i64 r.e.fam, .slice r.B r.e.qual.length r.d, .int .i64 r.e.ts, .int .i64 r.e.seq, .int .i64 r.e.kind, .slice r.D r.e.val.length r.q] :: bytO 5 (r.A, r.c, r.e.row ++ mkL 70) :: bytO 5 (r.B, r.d, r.e.qual ++ mkL 70) :: bytO 5 (r.D, r.q, r.e.val ++ mkL 70) :: os) x2) := Lib.hid (hz.perm List.perm_append_comm); clear hz hb HX1)
    | (refine wl_alloc rfl rfl [.slice none 0 0, .int .i64 0, .slice none 0 0, .int .i64 0, .int .i64 0, .int .i64 0, .slice none 0 0] (.inl (by kernel_rfl)) HX2.out ?_; intro g6 x3 hz hb; have HX3 : Hid (OW w (boxO g6 [.slice none 0 0, .int .i64 0, .slice none 0 0, .int .i64 0, .int .i64 0, .int .i64 0, .slice none 0 0] :: boxO g5 [.int .i64 1, .int .i64 ta, .int .i64 tb] :: boxO g3 [.slice r.A r.e.row.length r.c, .int .i64 r.e.fam, .slice r.B r.e.qual.length r.d, .int .i64 r.e.ts, .int .i64 r.e.seq, .int .i64 r.e.kind, .slice r.D r.e.val.length r.q] :: bytO 5 (r.A, r.c, r.e.row ++ mkL 70) :: bytO 5 (r.B, r.d, r.e.qual ++ mkL 70) :: bytO 5 (r.D, r.q, r.e.val ++ mkL 70) :: os) x3) := Lib.hid (hz.perm List.perm_append_comm); clear hz hb HX2)
    | (refine wpList_load_cell rfl 3 (.tmp 7) rfl rfl (HX3.out.cell (i := 1) (j := 0) rfl rfl) (fun w => Try.isAgg3 w) ?_)
    | (refine wpList_load_cell rfl 28 (.tmp 26) rfl rfl (HX3.out.cell (i := 2) (j := 2) rfl rfl) (fun w => Try.isAgg28 w) ?_)
    | (refine wpList_load_cell rfl 3 (.tmp 28) rfl rfl (HX3.out.cell (i := 1) (j := 1) rfl rfl) (fun w => Try.isAgg3 w) ?_)
    | (refine wpList_load_cell rfl 3 (.tmp 30) rfl rfl (HX3.out.cell (i := 1) (j := 2) rfl rfl) (fun w => Try.isAgg3 w) ?_)
    | (go_at_call 58; go_must (refine (put_any w.heap.size r.e.qual (mkL 70) r.B _ r.d ta tb _ (HX3.out.byt (i := 4) rfl) rfl (by have := HL.out; omega)).mono ?_); rintro e y1 ⟨rfl, l', hl', ho, hc⟩; have HY : Hid (OW w (boxO g6 [.slice none 0 0, .int .i64 0, .slice none 0 0, .int .i64 0, .int .i64 0, .int .i64 0, .slice none 0 0] :: boxO g5 [.int .i64 1, .int .i64 ta, .int .i64 tb] :: boxO g3 [.slice r.A r.e.row.length r.c, .int .i64 r.e.fam, .slice r.B r.e.qual.length r.d, .int .i64 r.e.ts, .int .i64 r.e.seq, .int .i64 r.e.kind, .slice r.D r.e.val.length r.q] :: bytO 5 (r.A, r.c, r.e.row ++ mkL 70) :: bytO 5 (r.B, r.d, l' ++ mkL 70) :: bytO 5 (r.D, r.q, r.e.val ++ mkL 70) :: os) y1) := Lib.hid (HX3.out.putB (i := 4) rfl ho hc); have HLL := Lib.hid hl'; clear hl' ho hc HX3)
    | (refine wpList_load_row7 rfl 30 (.tmp 3) rfl rfl (HY.out.range (i := 2) rfl) ent_row8 ?_)
    | (refine wl_put rfl (.tmp 6) (.tmp 62) rfl HY.out 0 rfl rfl [.slice r.A r.e.row.length r.c, .int .i64 r.e.fam, .slice r.B r.e.qual.length r.d, .int .i64 r.e.ts, .int .i64 r.e.seq, .int .i64 r.e.kind, .slice r.D r.e.val.length r.q] rfl rfl (by kernel_rfl) (by simp [Value.oneCell']) ?_; intro y2 hz _; have HZ : Hid (OW w (boxO g6 [.slice r.A r.e.row.length r.c, .int .i64 r.e.fam, .slice r.B r.e.qual.length r.d, .int .i64 r.e.ts, .int .i64 r.e.seq, .int .i64 r.e.kind, .slice r.D r.e.val.length r.q] :: boxO g5 [.int .i64 1, .int .i64 ta, .int .i64 tb] :: boxO g3 [.slice r.A r.e.row.length r.c, .int .i64 r.e.fam, .slice r.B r.e.qual.length r.d, .int .i64 r.e.ts, .int .i64 r.e.seq, .int .i64 r.e.kind, .slice r.D r.e.val.length r.q] :: bytO 5 (r.A, r.c, r.e.row ++ mkL 70) :: bytO 5 (r.B, r.d, l' ++ mkL 70) :: bytO 5 (r.D, r.q, r.e.val ++ mkL 70) :: os) y2) := Lib.hid hz; clear hz HY))
  (try simp only [Exit.inBlock, Exit.then])
  refine bodyPost_ret (results_rowL rfl _ _ g6 [.slice r.A r.e.row.length r.c, .int .i64 r.e.fam, .slice r.B r.e.qual.length r.d, .int .i64 r.e.ts, .int .i64 r.e.seq, .int .i64 r.e.kind, .slice r.D r.e.val.length r.q] rfl (HZ.out.range (i := 0) rfl) (by kernel_rfl) (by kernel_rfl)) rfl ?_
  exact ⟨{ r.e with qual := l' }, by show _ = Ending.returned (.agg #[.slice r.A r.e.row.length r.c, .int .i64 r.e.fam, .slice r.B l'.length r.d, .int .i64 r.e.ts, .int .i64 r.e.seq, .int .i64 r.e.kind, .slice r.D r.e.val.length r.q]); rw [HLL.out], rfl, HLL.out, rfl, ((HZ.out.erase 0).erase 0).erase 0⟩
set_option maxRecDepth 100000 in
set_option maxHeartbeats 2000000 in
theorem turned8_2 {w x : World} {os : List Ob} (r : ER) (ta tb : Int) (h : OW w (entO r.A r.B r.D r.c r.d r.q r.e ++ os) x) (hl : r.e.row.length ≤ 5000 ∧ r.e.qual.length ≤ 5000 ∧ r.e.val.length ≤ 5000) :
    Calls Try.prog 31 #[.agg #[.slice r.A r.e.row.length r.c, .int .i64 r.e.fam, .slice r.B r.e.qual.length r.d, .int .i64 r.e.ts, .int .i64 r.e.seq, .int .i64 r.e.kind, .slice r.D r.e.val.length r.q], .slice none 0 0, .agg #[.int .i64 2, .int .i64 ta, .int .i64 tb]] x (TurnedP w os r) := by
  have HL := Lib.hid hl
  have HX : Hid (OW w (bytO 5 (r.A, r.c, r.e.row ++ mkL 70) :: bytO 5 (r.B, r.d, r.e.qual ++ mkL 70) :: bytO 5 (r.D, r.q, r.e.val ++ mkL 70) :: os) x) := Lib.hid h
  clear h hl
  go_enter Try.func31, Try.ntmps31
  go_wp2_with (first
    | (refine wl_box rfl (.tmp 0) rfl [.slice r.A r.e.row.length r.c, .int .i64 r.e.fam, .slice r.B r.e.qual.length r.d, .int .i64 r.e.ts, .int .i64 r.e.seq, .int .i64 r.e.kind, .slice r.D r.e.val.length r.q] rfl HX.out ?_; intro g3 x1 hz hb; have HX1 : Hid (OW w (boxO g3 [.slice r.A r.e.row.length r.c, .int .i64 r.e.fam, .slice r.B r.e.qual.length r.d, .int .i64 r.e.ts, .int .i64 r.e.seq, .int .i64 r.e.kind, .slice r.D r.e.val.length r.q] :: bytO 5 (r.A, r.c, r.e.row ++ mkL 70) :: bytO 5 (r.B, r.d, r.e.qual ++ mkL 70) :: bytO 5 (r.D, r.q, r.e.val ++ mkL 70) :: os) x1) := Lib.hid (hz.perm List.perm_append_comm); clear hz hb HX)
    | (refine wl_box rfl (.tmp 2) rfl [.int .i64 2, .int .i64 ta, .int .i64 tb] rfl HX1.out ?_; intro g5 x2 hz hb; have HX2 : Hid (OW w (boxO g5 [.int .i64 2, .int .i64 ta, .int .i64 tb] :: boxO g3 [.slice r.A r.e.row.length r.c, .int .i64 r.e.fam, .slice r.B r.e.qual.length r.d, .int .i64 r.e.ts, .int .i64 r.e.seq, .int .i64 r.e.kind, .slice r.D r.e.val.length r.q] :: bytO 5 (r.A, r.c, r.e.row ++ mkL 70) :: bytO 5 (r.B, r.d, r.e.qual ++ mkL 70) :: bytO 5 (r.D, r.q, r.e.val ++ mkL 70) :: os) x2) := Lib.hid (hz.perm List.perm_append_comm); clear hz hb HX1)
    | (refine wl_alloc rfl rfl [.slice none 0 0, .int .i64 0, .slice none 0 0, .int .i64 0, .int .i64 0, .int .i64 0, .slice none 0 0] (.inl (by kernel_rfl)) HX2.out ?_; intro g6 x3 hz hb; have HX3 : Hid (OW w (boxO g6 [.slice none 0 0, .int .i64 0, .slice none 0 0, .int .i64 0, .int .i64 0, .int .i64 0, .slice none 0 0] :: boxO g5 [.int .i64 2, .int .i64 ta, .int .i64 tb] :: boxO g3 [.slice r.A r.e.row.length r.c, .int .i64 r.e.fam, .slice r.B r.e.qual.length r.d, .int .i64 r.e.ts, .int .i64 r.e.seq, .int .i64 r.e.kind, .slice r.D r.e.val.length r.q] :: bytO 5 (r.A, r.c, r.e.row ++ mkL 70) :: bytO 5 (r.B, r.d, r.e.qual ++ mkL 70) :: bytO 5 (r.D, r.q, r.e.val ++ mkL 70) :: os) x3) := Lib.hid (hz.perm List.perm_append_comm); clear hz hb HX2)
    | (refine wpList_load_cell rfl 3 (.tmp 7) rfl rfl (HX3.out.cell (i := 1) (j := 0) rfl rfl) (fun w => Try.isAgg3 w) ?_)
    | (refine wpList_load_cell rfl 28 (.tmp 35) rfl rfl (HX3.out.cell (i := 2) (j := 6) rfl rfl) (fun w => Try.isAgg28 w) ?_)
    | (refine wpList_load_cell rfl 3 (.tmp 37) rfl rfl (HX3.out.cell (i := 1) (j := 1) rfl rfl) (fun w => Try.isAgg3 w) ?_)
    | (refine wpList_load_cell rfl 3 (.tmp 39) rfl rfl (HX3.out.cell (i := 1) (j := 2) rfl rfl) (fun w => Try.isAgg3 w) ?_)
    | (go_at_call 58; go_must (refine (put_any w.heap.size r.e.val (mkL 70) r.D _ r.q ta tb _ (HX3.out.byt (i := 5) rfl) rfl (by have := HL.out; omega)).mono ?_); rintro e y1 ⟨rfl, l', hl', ho, hc⟩; have HY : Hid (OW w (boxO g6 [.slice none 0 0, .int .i64 0, .slice none 0 0, .int .i64 0, .int .i64 0, .int .i64 0, .slice none 0 0] :: boxO g5 [.int .i64 2, .int .i64 ta, .int .i64 tb] :: boxO g3 [.slice r.A r.e.row.length r.c, .int .i64 r.e.fam, .slice r.B r.e.qual.length r.d, .int .i64 r.e.ts, .int .i64 r.e.seq, .int .i64 r.e.kind, .slice r.D r.e.val.length r.q] :: bytO 5 (r.A, r.c, r.e.row ++ mkL 70) :: bytO 5 (r.B, r.d, r.e.qual ++ mkL 70) :: bytO 5 (r.D, r.q, l' ++ mkL 70) :: os) y1) := Lib.hid (HX3.out.putB (i := 5) rfl ho hc); have HLL := Lib.hid hl'; clear hl' ho hc HX3)
    | (refine wpList_load_row7 rfl 30 (.tmp 3) rfl rfl (HY.out.range (i := 2) rfl) ent_row8 ?_)
    | (refine wl_put rfl (.tmp 6) (.tmp 62) rfl HY.out 0 rfl rfl [.slice r.A r.e.row.length r.c, .int .i64 r.e.fam, .slice r.B r.e.qual.length r.d, .int .i64 r.e.ts, .int .i64 r.e.seq, .int .i64 r.e.kind, .slice r.D r.e.val.length r.q] rfl rfl (by kernel_rfl) (by simp [Value.oneCell']) ?_; intro y2 hz _; have HZ : Hid (OW w (boxO g6 [.slice r.A r.e.row.length r.c, .int .i64 r.e.fam, .slice r.B r.e.qual.length r.d, .int .i64 r.e.ts, .int .i64 r.e.seq, .int .i64 r.e.kind, .slice r.D r.e.val.length r.q] :: boxO g5 [.int .i64 2, .int .i64 ta, .int .i64 tb] :: boxO g3 [.slice r.A r.e.row.length r.c, .int .i64 r.e.fam, .slice r.B r.e.qual.length r.d, .int .i64 r.e.ts, .int .i64 r.e.seq, .int .i64 r.e.kind, .slice r.D r.e.val.length r.q] :: bytO 5 (r.A, r.c, r.e.row ++ mkL 70) :: bytO 5 (r.B, r.d, r.e.qual ++ mkL 70) :: bytO 5 (r.D, r.q, l' ++ mkL 70) :: os) y2) := Lib.hid hz; clear hz HY))
  (try simp only [Exit.inBlock, Exit.then])
  refine bodyPost_ret (results_rowL rfl _ _ g6 [.slice r.A r.e.row.length r.c, .int .i64 r.e.fam, .slice r.B r.e.qual.length r.d, .int .i64 r.e.ts, .int .i64 r.e.seq, .int .i64 r.e.kind, .slice r.D r.e.val.length r.q] rfl (HZ.out.range (i := 0) rfl) (by kernel_rfl) (by kernel_rfl)) rfl ?_
  exact ⟨{ r.e with val := l' }, by show _ = Ending.returned (.agg #[.slice r.A r.e.row.length r.c, .int .i64 r.e.fam, .slice r.B r.e.qual.length r.d, .int .i64 r.e.ts, .int .i64 r.e.seq, .int .i64 r.e.kind, .slice r.D l'.length r.q]); rw [HLL.out], rfl, rfl, HLL.out, ((HZ.out.erase 0).erase 0).erase 0⟩
set_option maxRecDepth 100000 in
set_option maxHeartbeats 2000000 in
theorem turned8_3 {w x : World} {os : List Ob} (r : ER) (ta tb : Int) (h : OW w (entO r.A r.B r.D r.c r.d r.q r.e ++ os) x) (hl : r.e.row.length ≤ 5000 ∧ r.e.qual.length ≤ 5000 ∧ r.e.val.length ≤ 5000) :
    Calls Try.prog 31 #[.agg #[.slice r.A r.e.row.length r.c, .int .i64 r.e.fam, .slice r.B r.e.qual.length r.d, .int .i64 r.e.ts, .int .i64 r.e.seq, .int .i64 r.e.kind, .slice r.D r.e.val.length r.q], .slice none 0 0, .agg #[.int .i64 3, .int .i64 ta, .int .i64 tb]] x (TurnedP w os r) := by
  have HL := Lib.hid hl
  have HX : Hid (OW w (bytO 5 (r.A, r.c, r.e.row ++ mkL 70) :: bytO 5 (r.B, r.d, r.e.qual ++ mkL 70) :: bytO 5 (r.D, r.q, r.e.val ++ mkL 70) :: os) x) := Lib.hid h
  clear h hl
  go_enter Try.func31, Try.ntmps31
  go_wp2_with (first
    | (refine wl_box rfl (.tmp 0) rfl [.slice r.A r.e.row.length r.c, .int .i64 r.e.fam, .slice r.B r.e.qual.length r.d, .int .i64 r.e.ts, .int .i64 r.e.seq, .int .i64 r.e.kind, .slice r.D r.e.val.length r.q] rfl HX.out ?_; intro g3 x1 hz hb; have HX1 : Hid (OW w (boxO g3 [.slice r.A r.e.row.length r.c, .int .i64 r.e.fam, .slice r.B r.e.qual.length r.d, .int .i64 r.e.ts, .int .i64 r.e.seq, .int .i64 r.e.kind, .slice r.D r.e.val.length r.q] :: bytO 5 (r.A, r.c, r.e.row ++ mkL 70) :: bytO 5 (r.B, r.d, r.e.qual ++ mkL 70) :: bytO 5 (r.D, r.q, r.e.val ++ mkL 70) :: os) x1) := Lib.hid (hz.perm List.perm_append_comm); clear hz hb HX)
    | (refine wl_box rfl (.tmp 2) rfl [.int .i64 3, .int .i64 ta, .int .i64 tb] rfl HX1.out ?_; intro g5 x2 hz hb; have HX2 : Hid (OW w (boxO g5 [.int .i64 3, .int .i64 ta, .int .i64 tb] :: boxO g3 [.slice r.A r.e.row.length r.c, .int .i64 r.e.fam, .slice r.B r.e.qual.length r.d, .int .i64 r.e.ts, .int .i64 r.e.seq, .int .i64 r.e.kind, .slice r.D r.e.val.length r.q] :: bytO 5 (r.A, r.c, r.e.row ++ mkL 70) :: bytO 5 (r.B, r.d, r.e.qual ++ mkL 70) :: bytO 5 (r.D, r.q, r.e.val ++ mkL 70) :: os) x2) := Lib.hid (hz.perm List.perm_append_comm); clear hz hb HX1)
    | (refine wl_alloc rfl rfl [.slice none 0 0, .int .i64 0, .slice none 0 0, .int .i64 0, .int .i64 0, .int .i64 0, .slice none 0 0] (.inl (by kernel_rfl)) HX2.out ?_; intro g6 x3 hz hb; have HX3 : Hid (OW w (boxO g6 [.slice none 0 0, .int .i64 0, .slice none 0 0, .int .i64 0, .int .i64 0, .int .i64 0, .slice none 0 0] :: boxO g5 [.int .i64 3, .int .i64 ta, .int .i64 tb] :: boxO g3 [.slice r.A r.e.row.length r.c, .int .i64 r.e.fam, .slice r.B r.e.qual.length r.d, .int .i64 r.e.ts, .int .i64 r.e.seq, .int .i64 r.e.kind, .slice r.D r.e.val.length r.q] :: bytO 5 (r.A, r.c, r.e.row ++ mkL 70) :: bytO 5 (r.B, r.d, r.e.qual ++ mkL 70) :: bytO 5 (r.D, r.q, r.e.val ++ mkL 70) :: os) x3) := Lib.hid (hz.perm List.perm_append_comm); clear hz hb HX2)
    | (refine wpList_load_cell rfl 3 (.tmp 7) rfl rfl (HX3.out.cell (i := 1) (j := 0) rfl rfl) (fun w => Try.isAgg3 w) ?_)
    | (refine wpList_load_cell rfl 3 (.tmp 44) rfl rfl (HX3.out.cell (i := 1) (j := 2) rfl rfl) (fun w => Try.isAgg3 w) ?_)
    | (refine wl_put1 rfl (.tmp 46) (.tmp 45) rfl HX3.out 2 rfl 1 rfl (by show 1 < 7; decide) (.int .i64 tb) rfl (by kernel_rfl) rfl ?_; intro y1 hz _; have HY : Hid (OW w (boxO g6 [.slice none 0 0, .int .i64 0, .slice none 0 0, .int .i64 0, .int .i64 0, .int .i64 0, .slice none 0 0] :: boxO g5 [.int .i64 3, .int .i64 ta, .int .i64 tb] :: boxO g3 [.slice r.A r.e.row.length r.c, .int .i64 tb, .slice r.B r.e.qual.length r.d, .int .i64 r.e.ts, .int .i64 r.e.seq, .int .i64 r.e.kind, .slice r.D r.e.val.length r.q] :: bytO 5 (r.A, r.c, r.e.row ++ mkL 70) :: bytO 5 (r.B, r.d, r.e.qual ++ mkL 70) :: bytO 5 (r.D, r.q, r.e.val ++ mkL 70) :: os) y1) := Lib.hid hz; clear hz HX3)
    | (refine wpList_load_row7 rfl 30 (.tmp 3) rfl rfl (HY.out.range (i := 2) rfl) ent_row8 ?_)
    | (refine wl_put rfl (.tmp 6) (.tmp 62) rfl HY.out 0 rfl rfl [.slice r.A r.e.row.length r.c, .int .i64 tb, .slice r.B r.e.qual.length r.d, .int .i64 r.e.ts, .int .i64 r.e.seq, .int .i64 r.e.kind, .slice r.D r.e.val.length r.q] rfl rfl (by kernel_rfl) (by simp [Value.oneCell']) ?_; intro y2 hz _; have HZ : Hid (OW w (boxO g6 [.slice r.A r.e.row.length r.c, .int .i64 tb, .slice r.B r.e.qual.length r.d, .int .i64 r.e.ts, .int .i64 r.e.seq, .int .i64 r.e.kind, .slice r.D r.e.val.length r.q] :: boxO g5 [.int .i64 3, .int .i64 ta, .int .i64 tb] :: boxO g3 [.slice r.A r.e.row.length r.c, .int .i64 tb, .slice r.B r.e.qual.length r.d, .int .i64 r.e.ts, .int .i64 r.e.seq, .int .i64 r.e.kind, .slice r.D r.e.val.length r.q] :: bytO 5 (r.A, r.c, r.e.row ++ mkL 70) :: bytO 5 (r.B, r.d, r.e.qual ++ mkL 70) :: bytO 5 (r.D, r.q, r.e.val ++ mkL 70) :: os) y2) := Lib.hid hz; clear hz HY))
  (try simp only [Exit.inBlock, Exit.then])
  refine bodyPost_ret (results_rowL rfl _ _ g6 [.slice r.A r.e.row.length r.c, .int .i64 tb, .slice r.B r.e.qual.length r.d, .int .i64 r.e.ts, .int .i64 r.e.seq, .int .i64 r.e.kind, .slice r.D r.e.val.length r.q] rfl (HZ.out.range (i := 0) rfl) (by kernel_rfl) (by kernel_rfl)) rfl ?_
  exact ⟨{ r.e with fam := tb }, rfl, rfl, rfl, rfl, ((HZ.out.erase 0).erase 0).erase 0⟩
set_option maxRecDepth 100000 in
set_option maxHeartbeats 2000000 in
theorem turned8_4 {w x : World} {os : List Ob} (r : ER) (ta tb : Int) (h : OW w (entO r.A r.B r.D r.c r.d r.q r.e ++ os) x) (hl : r.e.row.length ≤ 5000 ∧ r.e.qual.length ≤ 5000 ∧ r.e.val.length ≤ 5000) :
    Calls Try.prog 31 #[.agg #[.slice r.A r.e.row.length r.c, .int .i64 r.e.fam, .slice r.B r.e.qual.length r.d, .int .i64 r.e.ts, .int .i64 r.e.seq, .int .i64 r.e.kind, .slice r.D r.e.val.length r.q], .slice none 0 0, .agg #[.int .i64 4, .int .i64 ta, .int .i64 tb]] x (TurnedP w os r) := by
  have HL := Lib.hid hl
  have HX : Hid (OW w (bytO 5 (r.A, r.c, r.e.row ++ mkL 70) :: bytO 5 (r.B, r.d, r.e.qual ++ mkL 70) :: bytO 5 (r.D, r.q, r.e.val ++ mkL 70) :: os) x) := Lib.hid h
  clear h hl
  go_enter Try.func31, Try.ntmps31
  go_wp2_with (first
    | (refine wl_box rfl (.tmp 0) rfl [.slice r.A r.e.row.length r.c, .int .i64 r.e.fam, .slice r.B r.e.qual.length r.d, .int .i64 r.e.ts, .int .i64 r.e.seq, .int .i64 r.e.kind, .slice r.D r.e.val.length r.q] rfl HX.out ?_; intro g3 x1 hz hb; have HX1 : Hid (OW w (boxO g3 [.slice r.A r.e.row.length r.c, .int .i64 r.e.fam, .slice r.B r.e.qual.length r.d, .int .i64 r.e.ts, .int .i64 r.e.seq, .int .i64 r.e.kind, .slice r.D r.e.val.length r.q] :: bytO 5 (r.A, r.c, r.e.row ++ mkL 70) :: bytO 5 (r.B, r.d, r.e.qual ++ mkL 70) :: bytO 5 (r.D, r.q, r.e.val ++ mkL 70) :: os) x1) := Lib.hid (hz.perm List.perm_append_comm); clear hz hb HX)
    | (refine wl_box rfl (.tmp 2) rfl [.int .i64 4, .int .i64 ta, .int .i64 tb] rfl HX1.out ?_; intro g5 x2 hz hb; have HX2 : Hid (OW w (boxO g5 [.int .i64 4, .int .i64 ta, .int .i64 tb] :: boxO g3 [.slice r.A r.e.row.length r.c, .int .i64 r.e.fam, .slice r.B r.e.qual.length r.d, .int .i64 r.e.ts, .int .i64 r.e.seq, .int .i64 r.e.kind, .slice r.D r.e.val.length r.q] :: bytO 5 (r.A, r.c, r.e.row ++ mkL 70) :: bytO 5 (r.B, r.d, r.e.qual ++ mkL 70) :: bytO 5 (r.D, r.q, r.e.val ++ mkL 70) :: os) x2) := Lib.hid (hz.perm List.perm_append_comm); clear hz hb HX1)
    | (refine wl_alloc rfl rfl [.slice none 0 0, .int .i64 0, .slice none 0 0, .int .i64 0, .int .i64 0, .int .i64 0, .slice none 0 0] (.inl (by kernel_rfl)) HX2.out ?_; intro g6 x3 hz hb; have HX3 : Hid (OW w (boxO g6 [.slice none 0 0, .int .i64 0, .slice none 0 0, .int .i64 0, .int .i64 0, .int .i64 0, .slice none 0 0] :: boxO g5 [.int .i64 4, .int .i64 ta, .int .i64 tb] :: boxO g3 [.slice r.A r.e.row.length r.c, .int .i64 r.e.fam, .slice r.B r.e.qual.length r.d, .int .i64 r.e.ts, .int .i64 r.e.seq, .int .i64 r.e.kind, .slice r.D r.e.val.length r.q] :: bytO 5 (r.A, r.c, r.e.row ++ mkL 70) :: bytO 5 (r.B, r.d, r.e.qual ++ mkL 70) :: bytO 5 (r.D, r.q, r.e.val ++ mkL 70) :: os) x3) := Lib.hid (hz.perm List.perm_append_comm); clear hz hb HX2)
    | (refine wpList_load_cell rfl 3 (.tmp 7) rfl rfl (HX3.out.cell (i := 1) (j := 0) rfl rfl) (fun w => Try.isAgg3 w) ?_)
    | (refine wpList_load_cell rfl 3 (.tmp 49) rfl rfl (HX3.out.cell (i := 1) (j := 2) rfl rfl) (fun w => Try.isAgg3 w) ?_)
    | (refine wl_put1 rfl (.tmp 51) (.tmp 50) rfl HX3.out 2 rfl 3 rfl (by show 3 < 7; decide) (.int .i64 tb) rfl (by kernel_rfl) rfl ?_; intro y1 hz _; have HY : Hid (OW w (boxO g6 [.slice none 0 0, .int .i64 0, .slice none 0 0, .int .i64 0, .int .i64 0, .int .i64 0, .slice none 0 0] :: boxO g5 [.int .i64 4, .int .i64 ta, .int .i64 tb] :: boxO g3 [.slice r.A r.e.row.length r.c, .int .i64 r.e.fam, .slice r.B r.e.qual.length r.d, .int .i64 tb, .int .i64 r.e.seq, .int .i64 r.e.kind, .slice r.D r.e.val.length r.q] :: bytO 5 (r.A, r.c, r.e.row ++ mkL 70) :: bytO 5 (r.B, r.d, r.e.qual ++ mkL 70) :: bytO 5 (r.D, r.q, r.e.val ++ mkL 70) :: os) y1) := Lib.hid hz; clear hz HX3)
    | (refine wpList_load_row7 rfl 30 (.tmp 3) rfl rfl (HY.out.range (i := 2) rfl) ent_row8 ?_)
    | (refine wl_put rfl (.tmp 6) (.tmp 62) rfl HY.out 0 rfl rfl [.slice r.A r.e.row.length r.c, .int .i64 r.e.fam, .slice r.B r.e.qual.length r.d, .int .i64 tb, .int .i64 r.e.seq, .int .i64 r.e.kind, .slice r.D r.e.val.length r.q] rfl rfl (by kernel_rfl) (by simp [Value.oneCell']) ?_; intro y2 hz _; have HZ : Hid (OW w (boxO g6 [.slice r.A r.e.row.length r.c, .int .i64 r.e.fam, .slice r.B r.e.qual.length r.d, .int .i64 tb, .int .i64 r.e.seq, .int .i64 r.e.kind, .slice r.D r.e.val.length r.q] :: boxO g5 [.int .i64 4, .int .i64 ta, .int .i64 tb] :: boxO g3 [.slice r.A r.e.row.length r.c, .int .i64 r.e.fam, .slice r.B r.e.qual.length r.d, .int .i64 tb, .int .i64 r.e.seq, .int .i64 r.e.kind, .slice r.D r.e.val.length r.q] :: bytO 5 (r.A, r.c, r.e.row ++ mkL 70) :: bytO 5 (r.B, r.d, r.e.qual ++ mkL 70) :: bytO 5 (r.D, r.q, r.e.val ++ mkL 70) :: os) y2) := Lib.hid hz; clear hz HY))
  (try simp only [Exit.inBlock, Exit.then])
  refine bodyPost_ret (results_rowL rfl _ _ g6 [.slice r.A r.e.row.length r.c, .int .i64 r.e.fam, .slice r.B r.e.qual.length r.d, .int .i64 tb, .int .i64 r.e.seq, .int .i64 r.e.kind, .slice r.D r.e.val.length r.q] rfl (HZ.out.range (i := 0) rfl) (by kernel_rfl) (by kernel_rfl)) rfl ?_
  exact ⟨{ r.e with ts := tb }, rfl, rfl, rfl, rfl, ((HZ.out.erase 0).erase 0).erase 0⟩
set_option maxRecDepth 100000 in
set_option maxHeartbeats 2000000 in
theorem turned8_5 {w x : World} {os : List Ob} (r : ER) (ta tb : Int) (h : OW w (entO r.A r.B r.D r.c r.d r.q r.e ++ os) x) (hl : r.e.row.length ≤ 5000 ∧ r.e.qual.length ≤ 5000 ∧ r.e.val.length ≤ 5000) :
    Calls Try.prog 31 #[.agg #[.slice r.A r.e.row.length r.c, .int .i64 r.e.fam, .slice r.B r.e.qual.length r.d, .int .i64 r.e.ts, .int .i64 r.e.seq, .int .i64 r.e.kind, .slice r.D r.e.val.length r.q], .slice none 0 0, .agg #[.int .i64 5, .int .i64 ta, .int .i64 tb]] x (TurnedP w os r) := by
  have HL := Lib.hid hl
  have HX : Hid (OW w (bytO 5 (r.A, r.c, r.e.row ++ mkL 70) :: bytO 5 (r.B, r.d, r.e.qual ++ mkL 70) :: bytO 5 (r.D, r.q, r.e.val ++ mkL 70) :: os) x) := Lib.hid h
  clear h hl
  go_enter Try.func31, Try.ntmps31
  go_wp2_with (first
    | (refine wl_box rfl (.tmp 0) rfl [.slice r.A r.e.row.length r.c, .int .i64 r.e.fam, .slice r.B r.e.qual.length r.d, .int .i64 r.e.ts, .int .i64 r.e.seq, .int .i64 r.e.kind, .slice r.D r.e.val.length r.q] rfl HX.out ?_; intro g3 x1 hz hb; have HX1 : Hid (OW w (boxO g3 [.slice r.A r.e.row.length r.c, .int .i64 r.e.fam, .slice r.B r.e.qual.length r.d, .int .i64 r.e.ts, .int .i64 r.e.seq, .int .i64 r.e.kind, .slice r.D r.e.val.length r.q] :: bytO 5 (r.A, r.c, r.e.row ++ mkL 70) :: bytO 5 (r.B, r.d, r.e.qual ++ mkL 70) :: bytO 5 (r.D, r.q, r.e.val ++ mkL 70) :: os) x1) := Lib.hid (hz.perm List.perm_append_comm); clear hz hb HX)
    | (refine wl_box rfl (.tmp 2) rfl [.int .i64 5, .int .i64 ta, .int .i64 tb] rfl HX1.out ?_; intro g5 x2 hz hb; have HX2 : Hid (OW w (boxO g5 [.int .i64 5, .int .i64 ta, .int .i64 tb] :: boxO g3 [.slice r.A r.e.row.length r.c, .int .i64 r.e.fam, .slice r.B r.e.qual.length r.d, .int .i64 r.e.ts, .int .i64 r.e.seq, .int .i64 r.e.kind, .slice r.D r.e.val.length r.q] :: bytO 5 (r.A, r.c, r.e.row ++ mkL 70) :: bytO 5 (r.B, r.d, r.e.qual ++ mkL 70) :: bytO 5 (r.D, r.q, r.e.val ++ mkL 70) :: os) x2) := Lib.hid (hz.perm List.perm_append_comm); clear hz hb HX1)
    | (refine wl_alloc rfl rfl [.slice none 0 0, .int .i64 0, .slice none 0 0, .int .i64 0, .int .i64 0, .int .i64 0, .slice none 0 0] (.inl (by kernel_rfl)) HX2.out ?_; intro g6 x3 hz hb; have HX3 : Hid (OW w (boxO g6 [.slice none 0 0, .int .i64 0, .slice none 0 0, .int .i64 0, .int .i64 0, .int .i64 0, .slice none 0 0] :: boxO g5 [.int .i64 5, .int .i64 ta, .int .i64 tb] :: boxO g3 [.slice r.A r.e.row.length r.c, .int .i64 r.e.fam, .slice r.B r.e.qual.length r.d, .int .i64 r.e.ts, .int .i64 r.e.seq, .int .i64 r.e.kind, .slice r.D r.e.val.length r.q] :: bytO 5 (r.A, r.c, r.e.row ++ mkL 70) :: bytO 5 (r.B, r.d, r.e.qual ++ mkL 70) :: bytO 5 (r.D, r.q, r.e.val ++ mkL 70) :: os) x3) := Lib.hid (hz.perm List.perm_append_comm); clear hz hb HX2)
    | (refine wpList_load_cell rfl 3 (.tmp 7) rfl rfl (HX3.out.cell (i := 1) (j := 0) rfl rfl) (fun w => Try.isAgg3 w) ?_)
    | (refine wpList_load_cell rfl 3 (.tmp 54) rfl rfl (HX3.out.cell (i := 1) (j := 2) rfl rfl) (fun w => Try.isAgg3 w) ?_)
    | (refine wl_put1 rfl (.tmp 56) (.tmp 55) rfl HX3.out 2 rfl 4 rfl (by show 4 < 7; decide) (.int .i64 tb) rfl (by kernel_rfl) rfl ?_; intro y1 hz _; have HY : Hid (OW w (boxO g6 [.slice none 0 0, .int .i64 0, .slice none 0 0, .int .i64 0, .int .i64 0, .int .i64 0, .slice none 0 0] :: boxO g5 [.int .i64 5, .int .i64 ta, .int .i64 tb] :: boxO g3 [.slice r.A r.e.row.length r.c, .int .i64 r.e.fam, .slice r.B r.e.qual.length r.d, .int .i64 r.e.ts, .int .i64 tb, .int .i64 r.e.kind, .slice r.D r.e.val.length r.q] :: bytO 5 (r.A, r.c, r.e.row ++ mkL 70) :: bytO 5 (r.B, r.d, r.e.qual ++ mkL 70) :: bytO 5 (r.D, r.q, r.e.val ++ mkL 70) :: os) y1) := Lib.hid hz; clear hz HX3)
    | (refine wpList_load_row7 rfl 30 (.tmp 3) rfl rfl (HY.out.range (i := 2) rfl) ent_row8 ?_)
    | (refine wl_put rfl (.tmp 6) (.tmp 62) rfl HY.out 0 rfl rfl [.slice r.A r.e.row.length r.c, .int .i64 r.e.fam, .slice r.B r.e.qual.length r.d, .int .i64 r.e.ts, .int .i64 tb, .int .i64 r.e.kind, .slice r.D r.e.val.length r.q] rfl rfl (by kernel_rfl) (by simp [Value.oneCell']) ?_; intro y2 hz _; have HZ : Hid (OW w (boxO g6 [.slice r.A r.e.row.length r.c, .int .i64 r.e.fam, .slice r.B r.e.qual.length r.d, .int .i64 r.e.ts, .int .i64 tb, .int .i64 r.e.kind, .slice r.D r.e.val.length r.q] :: boxO g5 [.int .i64 5, .int .i64 ta, .int .i64 tb] :: boxO g3 [.slice r.A r.e.row.length r.c, .int .i64 r.e.fam, .slice r.B r.e.qual.length r.d, .int .i64 r.e.ts, .int .i64 tb, .int .i64 r.e.kind, .slice r.D r.e.val.length r.q] :: bytO 5 (r.A, r.c, r.e.row ++ mkL 70) :: bytO 5 (r.B, r.d, r.e.qual ++ mkL 70) :: bytO 5 (r.D, r.q, r.e.val ++ mkL 70) :: os) y2) := Lib.hid hz; clear hz HY))
  (try simp only [Exit.inBlock, Exit.then])
  refine bodyPost_ret (results_rowL rfl _ _ g6 [.slice r.A r.e.row.length r.c, .int .i64 r.e.fam, .slice r.B r.e.qual.length r.d, .int .i64 r.e.ts, .int .i64 tb, .int .i64 r.e.kind, .slice r.D r.e.val.length r.q] rfl (HZ.out.range (i := 0) rfl) (by kernel_rfl) (by kernel_rfl)) rfl ?_
  exact ⟨{ r.e with seq := tb }, rfl, rfl, rfl, rfl, ((HZ.out.erase 0).erase 0).erase 0⟩
set_option maxRecDepth 100000 in
set_option maxHeartbeats 2000000 in
theorem turned8_6 {w x : World} {os : List Ob} (r : ER) (ta tb : Int) (h : OW w (entO r.A r.B r.D r.c r.d r.q r.e ++ os) x) (hl : r.e.row.length ≤ 5000 ∧ r.e.qual.length ≤ 5000 ∧ r.e.val.length ≤ 5000) :
    Calls Try.prog 31 #[.agg #[.slice r.A r.e.row.length r.c, .int .i64 r.e.fam, .slice r.B r.e.qual.length r.d, .int .i64 r.e.ts, .int .i64 r.e.seq, .int .i64 r.e.kind, .slice r.D r.e.val.length r.q], .slice none 0 0, .agg #[.int .i64 6, .int .i64 ta, .int .i64 tb]] x (TurnedP w os r) := by
  have HL := Lib.hid hl
  have HX : Hid (OW w (bytO 5 (r.A, r.c, r.e.row ++ mkL 70) :: bytO 5 (r.B, r.d, r.e.qual ++ mkL 70) :: bytO 5 (r.D, r.q, r.e.val ++ mkL 70) :: os) x) := Lib.hid h
  clear h hl
  go_enter Try.func31, Try.ntmps31
  go_wp2_with (first
    | (refine wl_box rfl (.tmp 0) rfl [.slice r.A r.e.row.length r.c, .int .i64 r.e.fam, .slice r.B r.e.qual.length r.d, .int .i64 r.e.ts, .int .i64 r.e.seq, .int .i64 r.e.kind, .slice r.D r.e.val.length r.q] rfl HX.out ?_; intro g3 x1 hz hb; have HX1 : Hid (OW w (boxO g3 [.slice r.A r.e.row.length r.c, .int .i64 r.e.fam, .slice r.B r.e.qual.length r.d, .int .i64 r.e.ts, .int .i64 r.e.seq, .int .i64 r.e.kind, .slice r.D r.e.val.length r.q] :: bytO 5 (r.A, r.c, r.e.row ++ mkL 70) :: bytO 5 (r.B, r.d, r.e.qual ++ mkL 70) :: bytO 5 (r.D, r.q, r.e.val ++ mkL 70) :: os) x1) := Lib.hid (hz.perm List.perm_append_comm); clear hz hb HX)
    | (refine wl_box rfl (.tmp 2) rfl [.int .i64 6, .int .i64 ta, .int .i64 tb] rfl HX1.out ?_; intro g5 x2 hz hb; have HX2 : Hid (OW w (boxO g5 [.int .i64 6, .int .i64 ta, .int .i64 tb] :: boxO g3 [.slice r.A r.e.row.length r.c, .int .i64 r.e.fam, .slice r.B r.e.qual.length r.d, .int .i64 r.e.ts, .int .i64 r.e.seq, .int .i64 r.e.kind, .slice r.D r.e.val.length r.q] :: bytO 5 (r.A, r.c, r.e.row ++ mkL 70) :: bytO 5 (r.B, r.d, r.e.qual ++ mkL 70) :: bytO 5 (r.D, r.q, r.e.val ++ mkL 70) :: os) x2) := Lib.hid (hz.perm List.perm_append_comm); clear hz hb HX1)
    | (refine wl_alloc rfl rfl [.slice none 0 0, .int .i64 0, .slice none 0 0, .int .i64 0, .int .i64 0, .int .i64 0, .slice none 0 0] (.inl (by kernel_rfl)) HX2.out ?_; intro g6 x3 hz hb; have HX3 : Hid (OW w (boxO g6 [.slice none 0 0, .int .i64 0, .slice none 0 0, .int .i64 0, .int .i64 0, .int .i64 0, .slice none 0 0] :: boxO g5 [.int .i64 6, .int .i64 ta, .int .i64 tb] :: boxO g3 [.slice r.A r.e.row.length r.c, .int .i64 r.e.fam, .slice r.B r.e.qual.length r.d, .int .i64 r.e.ts, .int .i64 r.e.seq, .int .i64 r.e.kind, .slice r.D r.e.val.length r.q] :: bytO 5 (r.A, r.c, r.e.row ++ mkL 70) :: bytO 5 (r.B, r.d, r.e.qual ++ mkL 70) :: bytO 5 (r.D, r.q, r.e.val ++ mkL 70) :: os) x3) := Lib.hid (hz.perm List.perm_append_comm); clear hz hb HX2)
    | (refine wpList_load_cell rfl 3 (.tmp 7) rfl rfl (HX3.out.cell (i := 1) (j := 0) rfl rfl) (fun w => Try.isAgg3 w) ?_)
    | (refine wpList_load_cell rfl 3 (.tmp 59) rfl rfl (HX3.out.cell (i := 1) (j := 2) rfl rfl) (fun w => Try.isAgg3 w) ?_)
    | (refine wl_put1 rfl (.tmp 61) (.tmp 60) rfl HX3.out 2 rfl 5 rfl (by show 5 < 7; decide) (.int .i64 tb) rfl (by kernel_rfl) rfl ?_; intro y1 hz _; have HY : Hid (OW w (boxO g6 [.slice none 0 0, .int .i64 0, .slice none 0 0, .int .i64 0, .int .i64 0, .int .i64 0, .slice none 0 0] :: boxO g5 [.int .i64 6, .int .i64 ta, .int .i64 tb] :: boxO g3 [.slice r.A r.e.row.length r.c, .int .i64 r.e.fam, .slice r.B r.e.qual.length r.d, .int .i64 r.e.ts, .int .i64 r.e.seq, .int .i64 tb, .slice r.D r.e.val.length r.q] :: bytO 5 (r.A, r.c, r.e.row ++ mkL 70) :: bytO 5 (r.B, r.d, r.e.qual ++ mkL 70) :: bytO 5 (r.D, r.q, r.e.val ++ mkL 70) :: os) y1) := Lib.hid hz; clear hz HX3)
    | (refine wpList_load_row7 rfl 30 (.tmp 3) rfl rfl (HY.out.range (i := 2) rfl) ent_row8 ?_)
    | (refine wl_put rfl (.tmp 6) (.tmp 62) rfl HY.out 0 rfl rfl [.slice r.A r.e.row.length r.c, .int .i64 r.e.fam, .slice r.B r.e.qual.length r.d, .int .i64 r.e.ts, .int .i64 r.e.seq, .int .i64 tb, .slice r.D r.e.val.length r.q] rfl rfl (by kernel_rfl) (by simp [Value.oneCell']) ?_; intro y2 hz _; have HZ : Hid (OW w (boxO g6 [.slice r.A r.e.row.length r.c, .int .i64 r.e.fam, .slice r.B r.e.qual.length r.d, .int .i64 r.e.ts, .int .i64 r.e.seq, .int .i64 tb, .slice r.D r.e.val.length r.q] :: boxO g5 [.int .i64 6, .int .i64 ta, .int .i64 tb] :: boxO g3 [.slice r.A r.e.row.length r.c, .int .i64 r.e.fam, .slice r.B r.e.qual.length r.d, .int .i64 r.e.ts, .int .i64 r.e.seq, .int .i64 tb, .slice r.D r.e.val.length r.q] :: bytO 5 (r.A, r.c, r.e.row ++ mkL 70) :: bytO 5 (r.B, r.d, r.e.qual ++ mkL 70) :: bytO 5 (r.D, r.q, r.e.val ++ mkL 70) :: os) y2) := Lib.hid hz; clear hz HY))
  (try simp only [Exit.inBlock, Exit.then])
  refine bodyPost_ret (results_rowL rfl _ _ g6 [.slice r.A r.e.row.length r.c, .int .i64 r.e.fam, .slice r.B r.e.qual.length r.d, .int .i64 r.e.ts, .int .i64 r.e.seq, .int .i64 tb, .slice r.D r.e.val.length r.q] rfl (HZ.out.range (i := 0) rfl) (by kernel_rfl) (by kernel_rfl)) rfl ?_
  exact ⟨{ r.e with kind := tb }, rfl, rfl, rfl, rfl, ((HZ.out.erase 0).erase 0).erase 0⟩
set_option maxRecDepth 100000 in
set_option maxHeartbeats 2000000 in
theorem turned8_7 {w x : World} {os : List Ob} (r : ER) (kd : Int) (ta tb : Int) (h0 : kd ≠ 0) (h1 : kd ≠ 1) (h2 : kd ≠ 2) (h3 : kd ≠ 3) (h4 : kd ≠ 4) (h5 : kd ≠ 5) (h6 : kd ≠ 6) (h : OW w (entO r.A r.B r.D r.c r.d r.q r.e ++ os) x) (hl : r.e.row.length ≤ 5000 ∧ r.e.qual.length ≤ 5000 ∧ r.e.val.length ≤ 5000) :
    Calls Try.prog 31 #[.agg #[.slice r.A r.e.row.length r.c, .int .i64 r.e.fam, .slice r.B r.e.qual.length r.d, .int .i64 r.e.ts, .int .i64 r.e.seq, .int .i64 r.e.kind, .slice r.D r.e.val.length r.q], .slice none 0 0, .agg #[.int .i64 kd, .int .i64 ta, .int .i64 tb]] x (TurnedP w os r) := by
  have HL := Lib.hid hl
  have HX : Hid (OW w (bytO 5 (r.A, r.c, r.e.row ++ mkL 70) :: bytO 5 (r.B, r.d, r.e.qual ++ mkL 70) :: bytO 5 (r.D, r.q, r.e.val ++ mkL 70) :: os) x) := Lib.hid h
  clear h hl
  have d0 : (kd == 0) = false := beq_eq_false_iff_ne.2 h0
  have d1 : (kd == 1) = false := beq_eq_false_iff_ne.2 h1
  have d2 : (kd == 2) = false := beq_eq_false_iff_ne.2 h2
  have d3 : (kd == 3) = false := beq_eq_false_iff_ne.2 h3
  have d4 : (kd == 4) = false := beq_eq_false_iff_ne.2 h4
  have d5 : (kd == 5) = false := beq_eq_false_iff_ne.2 h5
  have d6 : (kd == 6) = false := beq_eq_false_iff_ne.2 h6
  go_enter Try.func31, Try.ntmps31
  go_wp2_with (first
    | (refine wl_box rfl (.tmp 0) rfl [.slice r.A r.e.row.length r.c, .int .i64 r.e.fam, .slice r.B r.e.qual.length r.d, .int .i64 r.e.ts, .int .i64 r.e.seq, .int .i64 r.e.kind, .slice r.D r.e.val.length r.q] rfl HX.out ?_; intro g3 x1 hz hb; have HX1 : Hid (OW w (boxO g3 [.slice r.A r.e.row.length r.c, .int .i64 r.e.fam, .slice r.B r.e.qual.length r.d, .int .i64 r.e.ts, .int .i64 r.e.seq, .int .i64 r.e.kind, .slice r.D r.e.val.length r.q] :: bytO 5 (r.A, r.c, r.e.row ++ mkL 70) :: bytO 5 (r.B, r.d, r.e.qual ++ mkL 70) :: bytO 5 (r.D, r.q, r.e.val ++ mkL 70) :: os) x1) := Lib.hid (hz.perm List.perm_append_comm); clear hz hb HX)
    | (refine wl_box rfl (.tmp 2) rfl [.int .i64 kd, .int .i64 ta, .int .i64 tb] rfl HX1.out ?_; intro g5 x2 hz hb; have HX2 : Hid (OW w (boxO g5 [.int .i64 kd, .int .i64 ta, .int .i64 tb] :: boxO g3 [.slice r.A r.e.row.length r.c, .int .i64 r.e.fam, .slice r.B r.e.qual.length r.d, .int .i64 r.e.ts, .int .i64 r.e.seq, .int .i64 r.e.kind, .slice r.D r.e.val.length r.q] :: bytO 5 (r.A, r.c, r.e.row ++ mkL 70) :: bytO 5 (r.B, r.d, r.e.qual ++ mkL 70) :: bytO 5 (r.D, r.q, r.e.val ++ mkL 70) :: os) x2) := Lib.hid (hz.perm List.perm_append_comm); clear hz hb HX1)
    | (refine wl_alloc rfl rfl [.slice none 0 0, .int .i64 0, .slice none 0 0, .int .i64 0, .int .i64 0, .int .i64 0, .slice none 0 0] (.inl (by kernel_rfl)) HX2.out ?_; intro g6 x3 hz hb; have HX3 : Hid (OW w (boxO g6 [.slice none 0 0, .int .i64 0, .slice none 0 0, .int .i64 0, .int .i64 0, .int .i64 0, .slice none 0 0] :: boxO g5 [.int .i64 kd, .int .i64 ta, .int .i64 tb] :: boxO g3 [.slice r.A r.e.row.length r.c, .int .i64 r.e.fam, .slice r.B r.e.qual.length r.d, .int .i64 r.e.ts, .int .i64 r.e.seq, .int .i64 r.e.kind, .slice r.D r.e.val.length r.q] :: bytO 5 (r.A, r.c, r.e.row ++ mkL 70) :: bytO 5 (r.B, r.d, r.e.qual ++ mkL 70) :: bytO 5 (r.D, r.q, r.e.val ++ mkL 70) :: os) x3) := Lib.hid (hz.perm List.perm_append_comm); clear hz hb HX2)
    | (refine wpList_load_cell rfl 3 (.tmp 7) rfl rfl (HX3.out.cell (i := 1) (j := 0) rfl rfl) (fun w => Try.isAgg3 w) ?_)
    | (refine wpList_load_cell rfl 3 (.tmp 10) rfl rfl (HX3.out.cell (i := 1) (j := 1) rfl rfl) (fun w => Try.isAgg3 w) ?_)
    | (refine wpList_load_cell rfl 3 (.tmp 12) rfl rfl (HX3.out.cell (i := 1) (j := 2) rfl rfl) (fun w => Try.isAgg3 w) ?_)
    | (go_at_call 58; go_must (refine (put_any w.heap.size [] [] none 0 0 ta tb _ (own_nil _ _ _ _) rfl (by decide)).mono ?_); rintro e y1 ⟨rfl, l', hl', ho, hc⟩; have HY : Hid (OW w (boxO g6 [.slice none 0 0, .int .i64 0, .slice none 0 0, .int .i64 0, .int .i64 0, .int .i64 0, .slice none 0 0] :: boxO g5 [.int .i64 kd, .int .i64 ta, .int .i64 tb] :: boxO g3 [.slice r.A r.e.row.length r.c, .int .i64 r.e.fam, .slice r.B r.e.qual.length r.d, .int .i64 r.e.ts, .int .i64 r.e.seq, .int .i64 r.e.kind, .slice r.D r.e.val.length r.q] :: bytO 5 (r.A, r.c, r.e.row ++ mkL 70) :: bytO 5 (r.B, r.d, r.e.qual ++ mkL 70) :: bytO 5 (r.D, r.q, r.e.val ++ mkL 70) :: os) y1) := Lib.hid ((((HX3.out.nilB 5).perm List.perm_append_comm).putB (i := 0) rfl ho hc).erase 0); clear hl' ho hc HX3)
    | (refine wpList_load_row7 rfl 30 (.tmp 3) rfl rfl (HY.out.range (i := 2) rfl) ent_row8 ?_)
    | (refine wl_put rfl (.tmp 6) (.tmp 62) rfl HY.out 0 rfl rfl [.slice r.A r.e.row.length r.c, .int .i64 r.e.fam, .slice r.B r.e.qual.length r.d, .int .i64 r.e.ts, .int .i64 r.e.seq, .int .i64 r.e.kind, .slice r.D r.e.val.length r.q] rfl rfl (by kernel_rfl) (by simp [Value.oneCell']) ?_; intro y2 hz _; have HZ : Hid (OW w (boxO g6 [.slice r.A r.e.row.length r.c, .int .i64 r.e.fam, .slice r.B r.e.qual.length r.d, .int .i64 r.e.ts, .int .i64 r.e.seq, .int .i64 r.e.kind, .slice r.D r.e.val.length r.q] :: boxO g5 [.int .i64 kd, .int .i64 ta, .int .i64 tb] :: boxO g3 [.slice r.A r.e.row.length r.c, .int .i64 r.e.fam, .slice r.B r.e.qual.length r.d, .int .i64 r.e.ts, .int .i64 r.e.seq, .int .i64 r.e.kind, .slice r.D r.e.val.length r.q] :: bytO 5 (r.A, r.c, r.e.row ++ mkL 70) :: bytO 5 (r.B, r.d, r.e.qual ++ mkL 70) :: bytO 5 (r.D, r.q, r.e.val ++ mkL 70) :: os) y2) := Lib.hid hz; clear hz HY))
  (try simp only [Exit.inBlock, Exit.then])
  refine bodyPost_ret (results_rowL rfl _ _ g6 [.slice r.A r.e.row.length r.c, .int .i64 r.e.fam, .slice r.B r.e.qual.length r.d, .int .i64 r.e.ts, .int .i64 r.e.seq, .int .i64 r.e.kind, .slice r.D r.e.val.length r.q] rfl (HZ.out.range (i := 0) rfl) (by kernel_rfl) (by kernel_rfl)) rfl ?_
  exact ⟨r.e, rfl, rfl, rfl, rfl, ((HZ.out.erase 0).erase 0).erase 0⟩
theorem turned8_any {w x : World} {os : List Ob} (r : ER) (kd ta tb : Int) (h : OW w (entO r.A r.B r.D r.c r.d r.q r.e ++ os) x) (hl : r.e.row.length ≤ 5000 ∧ r.e.qual.length ≤ 5000 ∧ r.e.val.length ≤ 5000) :
    Calls Try.prog 31 #[.agg #[.slice r.A r.e.row.length r.c, .int .i64 r.e.fam, .slice r.B r.e.qual.length r.d, .int .i64 r.e.ts, .int .i64 r.e.seq, .int .i64 r.e.kind, .slice r.D r.e.val.length r.q], .slice none 0 0, .agg #[.int .i64 kd, .int .i64 ta, .int .i64 tb]] x (TurnedP w os r) := by
  by_cases h0 : kd = 0
  · subst h0; exact turned8_0 r ta tb h hl
  by_cases h1 : kd = 1
  · subst h1; exact turned8_1 r ta tb h hl
  by_cases h2 : kd = 2
  · subst h2; exact turned8_2 r ta tb h hl
  by_cases h3 : kd = 3
  · subst h3; exact turned8_3 r ta tb h hl
  by_cases h4 : kd = 4
  · subst h4; exact turned8_4 r ta tb h hl
  by_cases h5 : kd = 5
  · subst h5; exact turned8_5 r ta tb h hl
  by_cases h6 : kd = 6
  · subst h6; exact turned8_6 r ta tb h hl
  exact turned8_7 r kd ta tb h0 h1 h2 h3 h4 h5 h6 h hl
end Go.Proofs.Ytdaoinhkagmbdaa
namespace Go.Proofs.Ytdaoinhkagmbdaa
open Go.RowKit
theorem wpList_toB (N : Nat) {Q : Exit → Act → World → Prop} {ops : Array Oper} {rest : List Oper} {o : Oper} {a : Act} {w : World} (hgd : Region.wanted o (yielded ops a.tmps) = true) (x : Operand) (ho : o.op = .slice 28 x none (some (.const (.int .i64 (N : Nat)))) none) {A : Option Addr} {n c : Nat} (hx : a.eval x = .slice A n c) (hc : N ≤ c)
    (hK : wpList Try.prog ops Q rest (a.put o.dst (.slice A N c)) w) : wpList Try.prog ops Q (o :: rest) a w :=
  BigFrame.wpList_want hgd fun _ hk => by
    have hrun : (execOp a.eval o).run Try.prog w = .ok (.value (.slice A N c)) w := by
      obtain ⟨dst, op, type, pos, after, guard⟩ := o
      simp only at ho
      subst ho
      have hcI : (N : Int) ≤ (c : Int) := by omega
      have hel : Try.prog.underlying 28 = some (.slice (Try.prog.elem 28)) := by kernel_rfl
      have h1 := run_slice_h (P := Try.prog) (w := w) 28 A n c hel .i64 (N : Nat) (by omega) hcI
      have hz : ((sizeOf (Try.prog.elem 28)).run Try.prog w) = .ok 1 w := by kernel_rfl
      rw [hz] at h1
      have h2 := run_sliceAt_slice (P := Try.prog) (w := w) 28 (.slice A n c) none (some (.int .i64 (N : Nat))) none hel
      rw [h1] at h2
      have h3 : sliced A 0 (Int.toNat (N : Int)) c 1 = .slice A N c := by
        unfold sliced
        simp [Addr.add]
      simp only [Result.andThen, h3] at h2
      show ((Instr.sliceAt 28 (a.eval x) none (some (.int .i64 (N : Nat))) none) >>= fun v => pure (Next.value v)).run Try.prog w = _
      rw [hx]
      simp only [Sem.run_bind, h2, Result.andThen]
      rfl
    unfold Oper.wp
    rw [hrun, Oper.upon_value]
    exact hk _ _ hK
set_option maxRecDepth 100000 in
set_option maxHeartbeats 2000000 in
theorem laid8_any (l : List UInt8) (A : Option Addr) (n0 c0 n : Nat) (w : World) (hs0 : Sl w A n0 c0 l) (hn0 : min n0 5000 = n) :
    Calls Try.prog 45 #[.slice A n0 c0] w fun r z => ∃ A' c', r = .returned (.slice A' n c') ∧ OW w [bytO 5 (A', c', l.take 5000 ++ mkL 70)] z := by
  have hs := sl_cut hs0
  rw [hn0] at hs
  have hcap := hs0.cap
  obtain ⟨l5, hl5⟩ : ∃ z, z = l.take 5000 := ⟨_, rfl⟩
  rw [← hl5] at hs ⊢
  have hn : n ≤ 5000 := by omega
  have HS := Lib.hid hs
  have HL := Lib.hid hs.len
  have HN := Lib.hid ((OW.nil w).nilB 5)
  clear hs0 hs hl5
  go_enter Try.func45, Try.ntmps45
  go_upto_if 7 with fail
  obtain ⟨w4, rfl⟩ : ∃ z : World, z = w := ⟨_, rfl⟩
  go_cut [0] (fun av wx => w4 = wx ∧ av = .slice A n c0)
  case first =>
    by_cases hbig : 5000 < n0
    · have hd : decide ((n0 : Int) > 5000) = true := decide_eq_true (by omega)
      obtain rfl : n = 5000 := by omega
      go_wp2_with (refine wpList_toB 5000 rfl (.tmp 8) rfl rfl (by omega) ?_; simp only [Act.put, List.setIfInBounds_toArray, List.set_cons_zero, List.set_cons_succ])
      go_meet
      exact ⟨rfl, rfl⟩
    · have hd : decide ((n0 : Int) > 5000) = false := decide_eq_false (by omega)
      obtain rfl : n = n0 := by omega
      go_wp2_with fail
      go_meet
      exact ⟨rfl, rfl⟩
  obtain ⟨rfl, rfl⟩ := hcut
  clear hn0
  have tk1 : True := trivial
  go_wp2_with (first
    | (at_builtin; (have _t := tk1); go_must (refine wl_appB rfl (.tmp 10) (.tmp 11) rfl Try.u8s' HN.out 0 (n := 0) rfl rfl rfl _ _ n _ l5 rfl HS.out.rb (by omega) ?_); intro A1 c1 x1 hz; rw [Nat.zero_add]; have HX1 : Hid (OW w4 [bytO 5 (A1, c1, l5)] x1) := Lib.hid hz; clear hz HN tk1 _t)
    | (refine wl_build rfl #[(0, .const (.int .u8 201)), (1, .const (.int .u8 202)), (2, .const (.int .u8 203)), (3, .const (.int .u8 204)), (4, .const (.int .u8 205))] rfl #[.int .u8 201, .int .u8 202, .int .u8 203, .int .u8 204, .int .u8 205] Try.u8s' (.int .u8 0) (by kernel_rfl) (by decide) (by decide) (by decide) rfl (by kernel_rfl) HX1.out ?_; intro g2 x2 hz _; have HX2 := Lib.hid hz.left; have HRB : Hid (RB x2 x2.heap.size (some ⟨g2, 0, none⟩) 5 [201, 202, 203, 204, 205]) := Lib.hid (Reads.own (hz.right.row (i := 0) rfl)); clear hz HX1)
    | (at_builtin; go_must (refine wl_appB rfl (.tmp 13) (.tmp 14) rfl Try.u8s' HX2.out 0 rfl HL.out rfl _ _ 5 _ [201, 202, 203, 204, 205] rfl HRB.out (by omega) ?_); intro A3 c3 x3 hz; have HX3 : Hid (OW w4 [bytO 5 (A3, c3, l5 ++ mkL 0)] x3) := Lib.hid hz; clear hz HX2 HRB))
  go_loopw [3, 4] (fun v i wr => ∃ (j : Nat) (A' : Option Addr) (c' : Nat), j ≤ 70 ∧ i = .int .i64 j ∧ v = .slice A' (n + 5 + j) c' ∧ Hid (OW w4 [bytO 5 (A', c', l5 ++ mkL j)] wr)) (fun _ i _ => 70 - (intOf i).toNat)
  case atStart => exact ⟨0, A3, c3, by omega, rfl, rfl, HX3⟩
  case round =>
    clear HX3
    obtain ⟨j, A4, c4, hj, rfl, rfl, HX⟩ := hrel
    have HLJ : Hid ((l5 ++ mkL j).length = n + 5 + j) := Lib.hid (by rw [List.length_append, HL.out, mkL_len]; omega)
    by_cases hlt : j < 70
    · have hd3 : decide ((j : Int) < 70) = true := decide_eq_true (by omega)
      have HE : Hid (l5 ++ mkL j ++ [206] = l5 ++ mkL (j + 1)) := Lib.hid (by unfold mkL; rw [List.replicate_succ']; simp)
      go_wp2_with (first
        | (refine wl_build rfl #[(0, .const (.int .u8 206))] rfl #[.int .u8 206] Try.u8s' (.int .u8 0) (by kernel_rfl) (by decide) (by decide) (by decide) rfl (by kernel_rfl) HX.out ?_; intro g5 x5 hz _; have HX5 := Lib.hid hz.left; have HRB : Hid (RB x5 x5.heap.size (some ⟨g5, 0, none⟩) 1 [206]) := Lib.hid (Reads.own (hz.right.row (i := 0) rfl)); clear hz HX)
        | (at_builtin; go_must (refine wl_appB rfl (.tmp 20) (.tmp 21) rfl Try.u8s' HX5.out 0 rfl HLJ.out rfl _ _ 1 _ [206] rfl HRB.out (by omega) ?_); intro A6 c6 x6 hz; rw [HE.out] at hz; have HX6 : Hid (OW w4 [bytO 5 (A6, c6, l5 ++ mkL (j + 1))] x6) := Lib.hid hz; clear hz HX5 HRB))
      go_roundw
      case rel => exact ⟨j + 1, A6, c6, by omega, by go_num, rfl, HX6⟩
      case measure => simp [intOf]; omega
    · have hd3 : decide ((j : Int) < 70) = false := decide_eq_false (by omega)
      obtain rfl : j = 70 := by omega
      have h5 : (l5 ++ mkL 70).length ≤ c4 := (HX.out.byt (i := 0) rfl).cap.1
      have h7 : (l5 ++ mkL 70).length = n + 5 + 70 := HLJ.out
      have h5I : (n : Int) ≤ (c4 : Int) := by omega
      have h5N : n ≤ c4 := by omega
      clear hlt h7 h5
      go_wp2_with fail
      go_ret
      exact ⟨A4, c4, rfl, HX.out⟩
set_option maxRecDepth 100000 in
set_option maxHeartbeats 4000000 in
theorem entry5_any (e : Ent) (A : Option Addr) (n c : Nat) (B : Option Addr) (m d : Nat) (D : Option Addr) (v q : Nat) (w : World) (h : En w A n c B m d D v q e) :
    Calls Try.prog 16 #[entV A n c B m d D v q e] w fun r z => ∃ A' B' D' c' d' q', r = .returned (entV A' (cut5 e).row.length c' B' (cut5 e).qual.length d' D' (cut5 e).val.length q' (cut5 e)) ∧ OW w (entO A' B' D' c' d' q' (cut5 e)) z := by
  obtain ⟨e', he'⟩ : ∃ z, z = cut5 e := ⟨_, rfl⟩
  have h1 := cut5_le e
  have HE : Hid (∀ z, Below w.heap.size w z → En z A n c B m d D v q e) := Lib.hid fun z hz => h.later hz
  have HRL : Hid ((min n 5000) = e'.row.length ∧ (min m 5000) = e'.qual.length ∧ (min v 5000) = e'.val.length) := Lib.hid (by
    have e1 := h.row.len
    have e2 := h.qual.len
    have e3 := h.val.len
    subst he'
    unfold cut5
    simp only [List.length_take]
    omega)
  have HF : Hid (e'.fam = e.fam ∧ e'.ts = e.ts ∧ e'.seq = e.seq ∧ e'.kind = e.kind) := Lib.hid (by subst he'; exact ⟨rfl, rfl, rfl, rfl⟩)
  have HC : Hid (e'.row = e.row.take 5000 ∧ e'.qual = e.qual.take 5000 ∧ e'.val = e.val.take 5000) := Lib.hid (by subst he'; exact ⟨rfl, rfl, rfl⟩)
  rw [← he'] at h1 ⊢
  obtain ⟨r1, r2, r3⟩ := h1
  obtain ⟨n1, hn1⟩ : ∃ z, z = min n 5000 := ⟨_, rfl⟩
  obtain ⟨m1, hm1⟩ : ∃ z, z = min m 5000 := ⟨_, rfl⟩
  obtain ⟨v1, hv1⟩ : ∃ z, z = min v 5000 := ⟨_, rfl⟩
  have HN := Lib.hid hn1.symm
  have HM := Lib.hid hm1.symm
  have HV := Lib.hid hv1.symm
  have hn5 : n1 ≤ 5000 := by omega
  have hm5 : m1 ≤ 5000 := by omega
  have hv5 : v1 ≤ 5000 := by omega
  have HX := Lib.hid (OW.nil w)
  clear h he' hn1 hm1 hv1 r1 r2 r3
  unfold entV
  go_enter Try.func16, Try.ntmps16
  go_wp2_with (first
    | (refine wl_box rfl (.tmp 0) rfl [.slice A n c, .int .i64 e.fam, .slice B m d, .int .i64 e.ts, .int .i64 e.seq, .int .i64 e.kind, .slice D v q] rfl HX.out ?_; intro gb x1 hz _; have HX1 := Lib.hid hz; clear hz HX)
    | (refine wl_alloc rfl rfl [.slice none 0 0, .int .i64 0, .slice none 0 0, .int .i64 0, .int .i64 0, .int .i64 0, .slice none 0 0] (.inl (by kernel_rfl)) HX1.out ?_; intro gr x2 hz _; have HX2 : Hid (OW w [boxO gb [.slice A n c, .int .i64 e.fam, .slice B m d, .int .i64 e.ts, .int .i64 e.seq, .int .i64 e.kind, .slice D v q], boxO gr [.slice none 0 0, .int .i64 0, .slice none 0 0, .int .i64 0, .int .i64 0, .int .i64 0, .slice none 0 0]] x2) := Lib.hid hz; have tk1 : True := trivial; clear hz HX1)
    | (refine wpList_load_cell rfl 28 (.tmp 3) rfl rfl (HX2.out.cell (i := 0) (j := 0) rfl rfl) (fun w => Try.isAgg28 w) ?_)
    | (go_at_call 45; (have _t := tk1); go_must (refine (laid8_any e.row A n c _ _ (HE.out _ HX2.out.up).row HN.out).mono ?_); rw [← HC.out.1]; rintro r x3 ⟨A3, c3, rfl, ho⟩; have HX3 := Lib.hid (HX2.out.app ho); clear ho HX2 tk1 _t)
    | (refine wl_put1 rfl (.tmp 6) (.tmp 5) rfl HX3.out 0 rfl 0 rfl (by simp) _ rfl (by kernel_rfl) rfl ?_; intro x4 hz _; have HX4 : Hid (OW w [boxO gb [.slice A3 n1 c3, .int .i64 e.fam, .slice B m d, .int .i64 e.ts, .int .i64 e.seq, .int .i64 e.kind, .slice D v q], boxO gr [.slice none 0 0, .int .i64 0, .slice none 0 0, .int .i64 0, .int .i64 0, .int .i64 0, .slice none 0 0], bytO 5 (A3, c3, e'.row ++ mkL 70)] x4) := Lib.hid hz; have tk2 : True := trivial; clear hz HX3)
    | (refine wpList_load_cell rfl 28 (.tmp 7) rfl rfl (HX4.out.cell (i := 0) (j := 2) rfl rfl) (fun w => Try.isAgg28 w) ?_)
    | (go_at_call 45; (have _t := tk2); go_must (refine (laid8_any e.qual B m d _ _ (HE.out _ HX4.out.up).qual HM.out).mono ?_); rw [← HC.out.2.1]; rintro r x5 ⟨B3, d3, rfl, ho⟩; have HX5 := Lib.hid (HX4.out.app ho); clear ho HX4 tk2 _t)
    | (refine wl_put1 rfl (.tmp 10) (.tmp 9) rfl HX5.out 0 rfl 2 rfl (by simp) _ rfl (by kernel_rfl) rfl ?_; intro x6 hz _; have HX6 : Hid (OW w [boxO gb [.slice A3 n1 c3, .int .i64 e.fam, .slice B3 m1 d3, .int .i64 e.ts, .int .i64 e.seq, .int .i64 e.kind, .slice D v q], boxO gr [.slice none 0 0, .int .i64 0, .slice none 0 0, .int .i64 0, .int .i64 0, .int .i64 0, .slice none 0 0], bytO 5 (A3, c3, e'.row ++ mkL 70), bytO 5 (B3, d3, e'.qual ++ mkL 70)] x6) := Lib.hid hz; have tk3 : True := trivial; clear hz HX5)
    | (refine wpList_load_cell rfl 28 (.tmp 11) rfl rfl (HX6.out.cell (i := 0) (j := 6) rfl rfl) (fun w => Try.isAgg28 w) ?_)
    | (go_at_call 45; (have _t := tk3); go_must (refine (laid8_any e.val D v q _ _ (HE.out _ HX6.out.up).val HV.out).mono ?_); rw [← HC.out.2.2]; rintro r x7 ⟨D3, q3, rfl, ho⟩; have HX7 := Lib.hid (HX6.out.app ho); clear ho HX6 tk3 _t)
    | (refine wl_put1 rfl (.tmp 14) (.tmp 13) rfl HX7.out 0 rfl 6 rfl (by simp) _ rfl (by kernel_rfl) rfl ?_; intro x8 hz _; have HX8 : Hid (OW w [boxO gb [.slice A3 n1 c3, .int .i64 e.fam, .slice B3 m1 d3, .int .i64 e.ts, .int .i64 e.seq, .int .i64 e.kind, .slice D3 v1 q3], boxO gr [.slice none 0 0, .int .i64 0, .slice none 0 0, .int .i64 0, .int .i64 0, .int .i64 0, .slice none 0 0], bytO 5 (A3, c3, e'.row ++ mkL 70), bytO 5 (B3, d3, e'.qual ++ mkL 70), bytO 5 (D3, q3, e'.val ++ mkL 70)] x8) := Lib.hid hz; clear hz HX7)
    | (refine wpList_load_row7 rfl 30 (.tmp 1) rfl rfl (HX8.out.range (i := 0) rfl) ent_rowM ?_)
    | (refine wl_put rfl (.tmp 2) (.tmp 15) rfl HX8.out 1 rfl rfl [.slice A3 n1 c3, .int .i64 e.fam, .slice B3 m1 d3, .int .i64 e.ts, .int .i64 e.seq, .int .i64 e.kind, .slice D3 v1 q3] rfl rfl (by kernel_rfl) (by simp [Value.oneCell']) ?_; intro x9 hz _; have HX9 : Hid (OW w [boxO gb [.slice A3 n1 c3, .int .i64 e.fam, .slice B3 m1 d3, .int .i64 e.ts, .int .i64 e.seq, .int .i64 e.kind, .slice D3 v1 q3], boxO gr [.slice A3 n1 c3, .int .i64 e.fam, .slice B3 m1 d3, .int .i64 e.ts, .int .i64 e.seq, .int .i64 e.kind, .slice D3 v1 q3], bytO 5 (A3, c3, e'.row ++ mkL 70), bytO 5 (B3, d3, e'.qual ++ mkL 70), bytO 5 (D3, q3, e'.val ++ mkL 70)] x9) := Lib.hid hz; clear hz HX8))
  refine bodyPost_ret (results_rowL rfl _ _ gr _ rfl (HX9.out.range (i := 1) rfl) (by kernel_rfl) (by kernel_rfl)) rfl ?_
  refine ⟨A3, B3, D3, c3, d3, q3, ?_, (HX9.out.erase 0).erase 0⟩
  rw [← HRL.out.1, ← HRL.out.2.1, ← HRL.out.2.2, HN.out, HM.out, HV.out, HF.out.1, HF.out.2.1, HF.out.2.2.1, HF.out.2.2.2]
theorem cut5_same {e : Ent} (h : e.row.length ≤ 5000 ∧ e.qual.length ≤ 5000 ∧ e.val.length ≤ 5000) : cut5 e = e := by
  obtain ⟨h1, h2, h3⟩ := h
  unfold cut5
  rw [List.take_of_length_le h1, List.take_of_length_le h2, List.take_of_length_le h3]
def EntP (x : World) (e : Ent) (en : Ending) (z : World) : Prop := ∃ A B D c d q, en = .returned (.agg #[.slice A e.row.length c, .int .i64 e.fam, .slice B e.qual.length d, .int .i64 e.ts, .int .i64 e.seq, .int .i64 e.kind, .slice D e.val.length q]) ∧ OW x (entO A B D c d q e) z
theorem entry8_cut (r : ER) (x : World) (h : r.En x) : Calls Try.prog 16 #[.agg #[.slice r.A r.e.row.length r.c, .int .i64 r.e.fam, .slice r.B r.e.qual.length r.d, .int .i64 r.e.ts, .int .i64 r.e.seq, .int .i64 r.e.kind, .slice r.D r.e.val.length r.q]] x (EntP x (cut5 r.e)) :=
  (entry5_any r.e r.A _ r.c r.B _ r.d r.D _ r.q x h).mono fun _ _ ⟨A, B, D, c, d, q, h1, h2⟩ => ⟨A, B, D, c, d, q, h1, h2⟩
theorem entry8_same (r : ER) (x : World) (h : r.En x) (hl : r.e.row.length ≤ 5000 ∧ r.e.qual.length ≤ 5000 ∧ r.e.val.length ≤ 5000) : Calls Try.prog 16 #[.agg #[.slice r.A r.e.row.length r.c, .int .i64 r.e.fam, .slice r.B r.e.qual.length r.d, .int .i64 r.e.ts, .int .i64 r.e.seq, .int .i64 r.e.kind, .slice r.D r.e.val.length r.q]] x (EntP x r.e) := by
  have h1 := entry8_cut r x h
  rw [cut5_same hl] at h1
  exact h1
theorem stands8 {w x : World} {os : List Ob} {A B D A' B' D' : Option Addr} {c d q c' d' q' : Nat} {e : Ent} (h : OW w os x) (h1 : ∀ o, o ∈ entO A B D c d q e → o ∈ os) (h2 : ∀ o, o ∈ entO A' B' D' c' d' q' e → o ∈ os) (hl : e.row.length ≤ 5000 ∧ e.qual.length ≤ 5000 ∧ e.val.length ≤ 5000) :
    Calls Try.prog 29 #[.agg #[.slice A e.row.length c, .int .i64 e.fam, .slice B e.qual.length d, .int .i64 e.ts, .int .i64 e.seq, .int .i64 e.kind, .slice D e.val.length q], .agg #[.slice A' e.row.length c', .int .i64 e.fam, .slice B' e.qual.length d', .int .i64 e.ts, .int .i64 e.seq, .int .i64 e.kind, .slice D' e.val.length q']] x fun e z => e = .returned (.bool true) ∧ Below x.heap.size x z :=
  stands_any e A _ c B _ d D _ q A' c' B' d' D' q' x (entO_enM h h1 hl.1 hl.2.1 hl.2.2) (entO_en h h2)
end Go.Proofs.Ytdaoinhkagmbdaa
namespace Go.Proofs.Ytdaoinhkagmbdaa
open Go.RowKit Go.WideShapes Go.ChangeShapes Go.Joins Go.Deep
section
variable {H : Type} {enc : TypeId × Value → H} {P : Program}
theorem trodAll_below (hl : laidOutB P = true) {W W' : World} {sp : Nat → Bool} : ∀ (ts : List TypeId) (vs : List Value) (ds : List (DataW H)) (ps : List MemPlace),
    (∀ t ∈ ts, P.readableRec t = true ∧ t < P.types.size) → DataW.TrodAll enc P W 0 (fun _ => true) true ts vs ds ps → (∀ p ∈ ps, W.sameAt W' p) → (∀ p ∈ ps, sp p.block = true) →
    DataW.TrodAll enc P W' 0 sp true ts vs ds ps
  | [], [], [], ps, _, h, _, _ => h
  | t :: ts, v :: vs, d :: ds, ps, hr, h, hs, hp => by
    obtain ⟨p, q, h1, h2, rfl⟩ := h
    refine ⟨p, q, WideElems.Trod_stays hl (hr t (by simp)).1 (hr t (by simp)).2 h1 (fun x hx => hs x (by simp [hx])) (fun x hx => hp x (by simp [hx])), ?_, rfl⟩
    exact trodAll_below hl ts vs ds q (fun t ht => hr t (by simp [ht])) h2 (fun x hx => hs x (by simp [hx])) (fun x hx => hp x (by simp [hx]))
  | [], _ :: _, _, _, _, h, _, _ => h.elim
  | [], [], _ :: _, _, _, h, _, _ => h.elim
  | _ :: _, [], _, _, _, h, _, _ => h.elim
  | _ :: _, _ :: _, [], _, _, h, _, _ => h.elim
theorem law_post {f : Func} {s : ChangeSpec} {apart fresh handsOn again : Bool} {W W' : World} {args : Array Value} {ds gs : List (DataW H)} {before : List MemPlace} {tb : TypeId}
    (hl : laidOutB P = true) (hr : ∀ t ∈ f.params.toList, P.readableRec t = true ∧ t < P.types.size) (hv : s.vars = [])
    (hW : DataW.Whole enc P f.params.toList s.vars apart W args.toList ds gs before) (hres : f.resultTypes = #[tb]) (htb : P.underlying tb = some .bool)
    (hfn : s.fn H (ds ++ gs) = { results := [.lit (.bool true)], args := ds }) (hb : Below W.heap.size W W') :
    s.post enc P f apart fresh handsOn again W args (.bool true) W' := by
  have hlt : ∀ p ∈ before, p.block < W.heap.size := fun p hp => hW.lt p hp
  obtain ⟨p, q, hA, hV, hpq, hz, hn⟩ := hW
  have hq : gs = [] ∧ q = [] := by rw [hv] at hV; exact trodVars_none hV
  obtain ⟨rfl, rfl⟩ := hq
  rw [List.append_nil] at hpq
  subst hpq
  have hold : ∀ x ∈ before, (fun b => decide (b < W.heap.size)) x.block = true := fun x hx => by simpa using hlt x hx
  have hargs : ∀ sp : Nat → Bool, (∀ x ∈ before, sp x.block = true) → DataW.TrodAll enc P W' 0 sp true f.params.toList args.toList ds before := fun sp hsp =>
    trodAll_below hl _ _ _ _ hr hA (fun x hx => hb.same (hlt x hx)) hsp
  have hvars : ∀ sp : Nat → Bool, DataW.TrodVars enc P W' sp s.vars (s.fn H (ds ++ [])).vars [] := fun sp => by rw [hv, hfn]; rfl
  have hresv : ∀ (b : Nat) (sp : Nat → Bool) (hd : Bool), DataW.TrodAll enc P W' b sp hd f.resultTypes.toList ((Value.bool true).resultList f.resultTypes.size) (s.fn H (ds ++ [])).results [] := by
    intro b sp hd
    rw [hfn, hres]
    exact trodAll_mk1 (shut_bool htb true)
  have hargs' : ∀ sp : Nat → Bool, (∀ x ∈ before, sp x.block = true) → DataW.TrodAll enc P W' 0 sp true f.params.toList args.toList (s.fn H (ds ++ [])).args before := fun sp hsp => by rw [hfn]; exact hargs sp hsp
  refine ⟨ds, [], before, [], before, [], ⟨before, [], hA, hV, by simp, hz, hn⟩, hresv _ _ _, hargs' _ hold, hvars _, World.keptBut_mono (fun x hx => ⟨hx, Or.inr (Or.inl hx)⟩) (hb.frame (· ∈ before)), fun _ => ?_⟩
  refine ⟨?_, _, _, ([] ++ before) ++ [], ⟨[] ++ before, [], trodAll_append (hargs' _ (fun _ _ => rfl)) (hresv _ _ _), hvars _, rfl, ?_, ?_⟩, ?_⟩
  · exact ok_one hres rfl (okWide_bool_mk htb true)
  · intro b off hp
    have hin : MemPlace.cell b off ∈ before := by simpa using hp
    rw [hb.frozen (hlt _ hin)]
    exact hz b off hin
  · intro ha
    have := hn ha
    simpa using this
  · intro x hx _
    simpa using hx
end
theorem list_of {α : Type} {Q : Nat → α → Prop} : ∀ (n : Nat), (∀ i, i < n → ∃ x, Q i x) → ∃ l : List α, l.length = n ∧ ∀ i x, l[i]? = some x → Q i x
  | 0, _ => ⟨[], rfl, fun i x h => by simp at h⟩
  | n + 1, h => by
    obtain ⟨l, hl, hq⟩ := list_of n (fun i hi => h i (by omega))
    obtain ⟨x, hx⟩ := h n (by omega)
    refine ⟨l ++ [x], by simp [hl], fun i y hy => ?_⟩
    rcases Nat.lt_or_ge i n with hi | hi
    · rw [List.getElem?_append_left (by omega)] at hy
      exact hq i y hy
    · have : i = n := by
        have := (List.getElem?_eq_some_iff.1 hy).1
        simp [hl] at this; omega
      subst this
      rw [List.getElem?_append_right (by omega)] at hy
      simp [hl] at hy
      subst hy; exact hx
theorem addr_add (a : Addr) (j : Nat) (ha : a.spot = none) : a.add j = ⟨a.block, a.off + j, none⟩ := by
  obtain ⟨b, o, sp⟩ := a
  simp at ha; subst ha
  unfold Addr.add
  split
  · rename_i h; subst h; rfl
  · rfl
theorem spot_none {w : World} {a : Addr} {v : Value} (h : w.cell? a = some v) : a.spot = none := by
  unfold World.cell? at h
  split at h
  · split at h
    · cases h
    · rename_i h'; simpa using h'
  · cases h
theorem reads_of {w : World} {size n : Nat} {a : Addr} {xs : List Value} (hl : xs.length = n * size) (hs : 0 < size) (h : ∀ j u, xs[j]? = some u → w.cell? (a.add j) = some u) : Reads w w.heap.size size (some a) n xs := by
  refine ⟨hl, fun hn => ?_⟩
  have h0 : 0 < xs.length := by rw [hl]; exact Nat.mul_pos hn hs
  have hc := h 0 _ (List.getElem?_eq_getElem h0)
  have e0 : a.add 0 = a := by simp [Addr.add]
  rw [e0] at hc
  have hsp := spot_none hc
  refine ⟨a.block, a.off, by obtain ⟨b, o, sp⟩ := a; simp at hsp; subst hsp; rfl, World.block_lt_of_cell? w a hc, fun j u hu => ?_⟩
  rw [← addr_add a j hsp]
  exact h j u hu
section
variable {H : Type} {enc : TypeId × Value → H} {P : Program} {w : World} {base : Nat} {spare : Nat → Bool} {held : Bool}
end
section
variable {H : Type} {enc : TypeId × Value → H} {P : Program} {w : World} {base : Nat} {spare : Nat → Bool} {held : Bool}
theorem open_slice_fields {t e : TypeId} {fs : Array Field} {fuel : Nat} {cs : List Value} {x : DataW H × List MemPlace} (ht : P.underlying t = some (.slice e)) (he : P.underlying e = some (.struct fs))
    (hone : oneCellFields P fs = true) (hC : P.cellsOf e = fs.size) (h : DataW.trod enc P w base spare held fuel t cs = some x) :
    (cs = [.slice none 0 0] ∧ x = (.nil, [])) ∨
    ∃ (a : Addr) (len cap m : Nat) (D : Nat → DataW H) (Pl : Nat → List MemPlace), cs = [.slice (some a) len cap] ∧ base ≤ a.block ∧ len ≤ cap ∧ cap ≤ maxLen ∧ m = (if spare a.block then cap else len) ∧
      x = (.slice ((List.range len).map D) ((List.range (m - len)).map fun j => D (len + j)), MemPlace.row a (m * fs.size) ++ (List.range m).flatMap Pl) ∧
      ∀ i, i < m → ∃ (ys : List (DataW H × List MemPlace)) (n : Nat), D i = .agg (ys.map (·.1)) ∧ Pl i = ys.flatMap (·.2) ∧ ys.length = fs.size ∧
        ∀ (j : Nat) (f : Field), fs[j]? = some f → ∃ (v : Value) (y : DataW H × List MemPlace), w.cell? (a.add (i * fs.size + j)) = some v ∧ ys[j]? = some y ∧ DataW.trod enc P w base spare held n f.type [v] = some y := by
  rcases open_slice ht h with h0 | ⟨a, len, cap, m, n, D, Pl, hcs, hb, hl, hm, hmm, hx, hi⟩
  · exact .inl h0
  · refine .inr ⟨a, len, cap, m, D, Pl, hcs, hb, hl, hm, hmm, by rw [hC] at hx; exact hx, fun i him => ?_⟩
    obtain ⟨cs', hc, ht'⟩ := hi i him
    rw [hC] at hc
    obtain ⟨ys, n', hn', hy, hlen, hyl, hf⟩ := DataW.trod_struct he ht'
    obtain ⟨_, hcl, hat⟩ := World.cells?_some hc
    simp only [Prod.mk.injEq] at hy
    refine ⟨ys, n', hy.1, hy.2, hyl, fun j f hj => ?_⟩
    obtain ⟨ho, hk⟩ := hone_of hone j f hj
    have hjl : j < fs.size := (Array.getElem?_eq_some_iff.1 hj).1
    have hcell := hat j hjl
    have hv : cs'[j]? = some (cs'[j]'(by omega)) := List.getElem?_eq_getElem (by omega)
    have h1 := hf j f hj
    rw [ho, hk] at h1
    have hone' : (cs'.drop j).take 1 = [cs'[j]'(by omega)] := by
      rw [List.drop_eq_getElem_cons (by omega)]
      rfl
    rw [hone'] at h1
    have hys : ys[j]? = some (ys[j]'(by omega)) := List.getElem?_eq_getElem (by omega)
    refine ⟨_, _, ?_, hys, h1.trans hys⟩
    rw [← Go.Deep.add_add, hcell, hv]
end
end Go.Proofs.Ytdaoinhkagmbdaa
namespace Go.Proofs.Ytdaoinhkagmbdaa
open Go.RowKit Go.WideShapes Go.ChangeShapes Go.Joins Go.Deep
section
variable {H : Type} {enc : TypeId × Value → H} {P : Program} {w : World} {base : Nat} {spare : Nat → Bool} {held : Bool}
theorem open_bytes {t e : TypeId} {fuel : Nat} {cs : List Value} {x : DataW H × List MemPlace} (ht : P.underlying t = some (.slice e)) (he : P.underlying e = some (.int .u8)) (hC : P.cellsOf e = 1)
    (h : DataW.trod enc P w base spare held fuel t cs = some x) :
    ∃ (A : Option Addr) (c : Nat) (l : List UInt8), cs = [.slice A l.length c] ∧ l.length ≤ c ∧ c ≤ 9223372036854775807 ∧ (A = none → c = 0) ∧ RB w w.heap.size A l.length l := by
  rcases open_slice1 ht hC h with ⟨rfl, _⟩ | ⟨a, len, cap, m, n, V, D, Pl, rfl, _, hl, hm, hmm, _, hi⟩
  · exact ⟨none, 0, [], rfl, by simp, by omega, fun _ => rfl, RB.nil⟩
  · have hlm : len ≤ m := by rw [hmm]; split <;> omega
    obtain ⟨l, hll, hq⟩ := list_of (Q := fun i (b : UInt8) => w.cell? (a.add i) = some (.int .u8 (b.toNat : Int))) len (fun i hi' => by
      obtain ⟨h1, h2⟩ := hi i (by omega)
      obtain ⟨v, e0, _, hw⟩ := DataW.trod_int he h2
      injection e0 with e0 _
      have hw : 0 ≤ v ∧ v ≤ 255 := by
        simp [Lit.wf, IntKind.min, IntKind.max, IntKind.signed, IntKind.bits] at hw
        omega
      refine ⟨UInt8.ofNat v.toNat, ?_⟩
      rw [h1, e0, UInt8.toNat_ofNat', Nat.mod_eq_of_lt (by omega), Int.toNat_of_nonneg hw.1])
    subst hll
    exact ⟨some a, cap, l, rfl, hl, hm, (fun e => nomatch e), reads_of (by simp [u8s_length]) (by decide) fun j u hu => by
      simp only [u8s, List.getElem?_map, Option.map_eq_some_iff] at hu
      obtain ⟨b, hb, rfl⟩ := hu
      exact hq j b hb⟩
theorem open_slice_top {r : Reach} {b0 : Nat} {t e : TypeId} {v : Value} {d : DataW H} {ps : List MemPlace} (ht : P.underlying t = some (.slice e)) (hval : Value.okWide P w r b0 t v) (h : DataW.Trod enc P w base spare held t v d ps) :
    ∃ fuel, DataW.trod enc P w base spare held fuel t [v] = some (d, ps) := by
  obtain ⟨a, n, c, rfl⟩ := okWide_slice ht hval
  obtain ⟨fuel, hf⟩ := h
  exact ⟨fuel, hf⟩
end
end Go.Proofs.Ytdaoinhkagmbdaa
namespace Go.Proofs.Ytdaoinhkagmbdaa
open Go.RowKit Go.WideShapes Go.ChangeShapes Go.Joins Go.Deep
theorem bulk_one {H : Type} (d : DataW H) : 1 ≤ Rows.uptoBulk d := by
  cases d with
  | lit l => cases l <;> simp [Rows.uptoBulk]
  | nil => simp [Rows.uptoBulk]
  | ptr d => simp [Rows.uptoBulk]
  | slice elems spare => simp [Rows.uptoBulk]
  | agg parts => simp [Rows.uptoBulk]
  | iface t d => simp [Rows.uptoBulk]
  | map entries => simp [Rows.uptoBulk]
  | held h => simp [Rows.uptoBulk]
theorem bulk_len {H : Type} (l : List (DataW H)) : l.length ≤ Rows.uptoBulkAll l := by
  induction l with
  | nil => simp [Rows.uptoBulkAll]
  | cons x r ih => have := bulk_one x; simp only [Rows.uptoBulkAll, List.length_cons]; omega
section
variable {H : Type} {enc : TypeId × Value → H} {P : Program} {w : World} {base : Nat} {held : Bool}
end
end Go.Proofs.Ytdaoinhkagmbdaa
namespace Go.Proofs.Ytdaoinhkagmbdaa
open Go.RowKit Go.WideShapes Go.ChangeShapes Go.Joins Go.Deep
section
variable {H : Type} {enc : TypeId × Value → H} {w : World} {base : Nat} {spare : Nat → Bool} {held : Bool}
theorem sl_of {A : Option Addr} {c : Nat} {l : List UInt8} (h1 : l.length ≤ c) (h2 : c ≤ 9223372036854775807) (h3 : A = none → c = 0) (h4 : RB w w.heap.size A l.length l) : Sl w A l.length c l := ⟨h4, h1, h2, h3⟩
set_option maxRecDepth 100000 in
theorem open_entry {r : Reach} {b0 : Nat} {v : Value} {d : DataW H} {ps : List MemPlace} (hval : Value.okWide Try.prog w r b0 30 v) (h : DataW.Trod enc Try.prog w base spare held 30 v d ps) :
    ∃ (A : Option Addr) (n c : Nat) (B : Option Addr) (m z : Nat) (D : Option Addr) (y q : Nat) (e : Ent), v = entV A n c B m z D y q e ∧ En w A n c B m z D y q e := by
  obtain ⟨cs, rfl, hsz⟩ := okWide_struct Try.underlying30 hval
  obtain ⟨fuel, hf⟩ := h
  have hC : Try.prog.cellsOf 30 = 7 := by kernel_rfl
  have hB : Try.prog.cellsOf 28 = 1 := by kernel_rfl
  have hI : Try.prog.cellsOf 3 = 1 := by kernel_rfl
  have hU : Try.prog.cellsOf 5 = 1 := by kernel_rfl
  rw [hC] at hsz
  obtain ⟨l⟩ := cs
  match l, hsz with
  | [v0, v1, v2, v3, v4, v5, v6], _ =>
    obtain ⟨xs, k, rfl, _, _, hlen, hi⟩ := DataW.trod_struct Try.underlying30 hf
    match xs, hlen with
    | [x0, x1, x2, x3, x4, x5, x6], _ =>
      have t0 : DataW.trod enc Try.prog w base spare held k 28 (([v0, v1, v2, v3, v4, v5, v6].drop 0).take (Try.prog.cellsOf 28)) = some x0 := hi 0 _ rfl
      have t1 : DataW.trod enc Try.prog w base spare held k 3 (([v0, v1, v2, v3, v4, v5, v6].drop 1).take (Try.prog.cellsOf 3)) = some x1 := hi 1 _ rfl
      have t2 : DataW.trod enc Try.prog w base spare held k 28 (([v0, v1, v2, v3, v4, v5, v6].drop 2).take (Try.prog.cellsOf 28)) = some x2 := hi 2 _ rfl
      have t3 : DataW.trod enc Try.prog w base spare held k 3 (([v0, v1, v2, v3, v4, v5, v6].drop 3).take (Try.prog.cellsOf 3)) = some x3 := hi 3 _ rfl
      have t4 : DataW.trod enc Try.prog w base spare held k 3 (([v0, v1, v2, v3, v4, v5, v6].drop 4).take (Try.prog.cellsOf 3)) = some x4 := hi 4 _ rfl
      have t5 : DataW.trod enc Try.prog w base spare held k 3 (([v0, v1, v2, v3, v4, v5, v6].drop 5).take (Try.prog.cellsOf 3)) = some x5 := hi 5 _ rfl
      have t6 : DataW.trod enc Try.prog w base spare held k 28 (([v0, v1, v2, v3, v4, v5, v6].drop 6).take (Try.prog.cellsOf 28)) = some x6 := hi 6 _ rfl
      rw [hB] at t0 t2 t6
      rw [hI] at t1 t3 t4 t5
      obtain ⟨A, c, l0, e0, p1, p2, p3, p4⟩ := open_bytes Try.underlying28 Try.underlying5 hU t0
      obtain ⟨B, z, l2, e2, q1, q2, q3, q4⟩ := open_bytes Try.underlying28 Try.underlying5 hU t2
      obtain ⟨D, q, l6, e6, s1, s2, s3, s4⟩ := open_bytes Try.underlying28 Try.underlying5 hU t6
      obtain ⟨i1, e1, _, _⟩ := DataW.trod_int Try.underlying3 t1
      obtain ⟨i3, e3, _, _⟩ := DataW.trod_int Try.underlying3 t3
      obtain ⟨i4, e4, _, _⟩ := DataW.trod_int Try.underlying3 t4
      obtain ⟨i5, e5, _, _⟩ := DataW.trod_int Try.underlying3 t5
      injection e0 with e0 _; injection e1 with e1 _; injection e2 with e2 _; injection e3 with e3 _; injection e4 with e4 _; injection e5 with e5 _; injection e6 with e6 _
      have e0 : v0 = _ := e0
      have e1 : v1 = _ := e1
      have e2 : v2 = _ := e2
      have e3 : v3 = _ := e3
      have e4 : v4 = _ := e4
      have e5 : v5 = _ := e5
      have e6 : v6 = _ := e6
      subst e0 e1 e2 e3 e4 e5 e6
      exact ⟨A, l0.length, c, B, l2.length, z, D, l6.length, q, ⟨l0, i1, l2, i3, i4, i5, l6⟩, rfl, ⟨sl_of p1 p2 p3 p4, sl_of q1 q2 q3 q4, sl_of s1 s2 s3 s4⟩⟩
end
end Go.Proofs.Ytdaoinhkagmbdaa
namespace Go.Proofs.Ytdaoinhkagmbdaa
open Go.RowKit Go.WideShapes Go.ChangeShapes Go.Joins Go.Deep
theorem bulk_mem {H : Type} {d : DataW H} {l : List (DataW H)} (h : d ∈ l) : Rows.uptoBulk d ≤ Rows.uptoBulkAll l := by
  induction l with
  | nil => cases h
  | cons x l ih =>
    simp only [Rows.uptoBulkAll]
    rcases List.mem_cons.1 h with rfl | h
    · omega
    · have := ih h; omega
section
variable {H : Type} {enc : TypeId × Value → H} {P : Program} {w : World} {base : Nat} {held : Bool}
theorem upto_structs {t e : TypeId} {fs : Array Field} {fuel : Nat} {cs : List Value} {x : DataW H × List MemPlace} (ht : P.underlying t = some (.slice e)) (he : P.underlying e = some (.struct fs))
    (hone : oneCellFields P fs = true) (hC : P.cellsOf e = fs.size) (h : DataW.trod enc P w base (fun _ => true) held fuel t cs = some x) :
    cs = [.slice none 0 0] ∨
    ∃ (a : Addr) (len cap : Nat), cs = [.slice (some a) len cap] ∧ len ≤ cap ∧ cap ≤ maxLen ∧ cap + 1 ≤ Rows.uptoBulk x.1 ∧
      ∀ i, i < len → ∀ (j : Nat) (f : Field), fs[j]? = some f → ∃ (v : Value) (y : DataW H × List MemPlace) (n : Nat), w.cell? (a.add (i * fs.size + j)) = some v ∧ DataW.trod enc P w base (fun _ => true) held n f.type [v] = some y ∧ Rows.uptoBulk y.1 + 1 ≤ Rows.uptoBulk x.1 := by
  rcases open_slice_fields ht he hone hC h with ⟨h0, _⟩ | ⟨a, len, cap, m, D, Pl, hcs, hb, hl, hm, hmm, hx, hi⟩
  · exact .inl h0
  · rw [if_pos rfl] at hmm
    subst hmm
    refine .inr ⟨a, len, m, hcs, hl, hm, ?_, fun i him j f hf => ?_⟩
    · rw [hx]
      simp only [Rows.uptoBulk]
      have e1 := bulk_len (H := H) ((List.range len).map D)
      have e2 := bulk_len (H := H) ((List.range (m - len)).map fun j => D (len + j))
      simp only [List.length_map, List.length_range] at e1 e2
      omega
    · obtain ⟨ys, n, hD, _, hyl, hq⟩ := hi i (by omega)
      obtain ⟨v, y, hc, hy, ht'⟩ := hq j f hf
      refine ⟨v, y, n, hc, ht', ?_⟩
      have h1 : Rows.uptoBulk y.1 ≤ Rows.uptoBulkAll (ys.map (·.1)) := bulk_mem (List.mem_map.2 ⟨y, List.mem_of_getElem? hy, rfl⟩)
      have h2 : Rows.uptoBulk (D i) ≤ Rows.uptoBulkAll ((List.range len).map D) := bulk_mem (List.mem_map.2 ⟨i, List.mem_range.2 him, rfl⟩)
      rw [hD] at h2
      rw [hx]
      simp only [Rows.uptoBulk] at h2 ⊢
      omega
theorem field_int {k : IntKind} {t : TypeId} {v : Value} {y : DataW H × List MemPlace} {n : Nat} {sp : Nat → Bool} (ht : P.underlying t = some (.int k)) (h : DataW.trod enc P w base sp held n t [v] = some y) : ∃ z : Int, v = .int k z ∧ (Lit.int k z).wf = true := by
  obtain ⟨z, e0, _, hw⟩ := DataW.trod_int ht h
  injection e0 with e0 _
  exact ⟨z, e0, hw⟩
end
end Go.Proofs.Ytdaoinhkagmbdaa
namespace Go.Proofs.Ytdaoinhkagmbdaa
open Go.RowKit Go.WideShapes Go.ChangeShapes Go.Joins Go.Deep
section
variable {H : Type} {enc : TypeId × Value → H} {w : World} {base : Nat} {held : Bool}
end
end Go.Proofs.Ytdaoinhkagmbdaa
namespace Go.Proofs.Ytdaoinhkagmbdaa
open Go.RowKit Go.WideShapes Go.ChangeShapes Go.Joins Go.Deep
def Trn (w : World) (A : Option Addr) (n : Nat) : Prop := 0 < n → ∃ b o, A = some ⟨b, o, none⟩ ∧ b < w.heap.size ∧ ∀ i, i < n → ∃ k t y : Int, w.rangeAt b (o + i * 3) [.int .i64 k, .int .i64 t, .int .i64 y]
theorem Trn.later {w x : World} {A : Option Addr} {n : Nat} (h : Trn w A n) (hb : Below w.heap.size w x) : Trn x A n := fun hn => by
  obtain ⟨b, o, h1, h2, h3⟩ := h hn
  refine ⟨b, o, h1, Nat.lt_of_lt_of_le h2 hb.size, fun i hi => ?_⟩
  obtain ⟨k, t, y, h4⟩ := h3 i hi
  exact ⟨k, t, y, fun j v hv => cell_below hb (h4 j v hv)⟩
section
variable {H : Type} {enc : TypeId × Value → H} {w : World} {base : Nat} {held : Bool}
set_option maxRecDepth 100000 in
theorem open_turns_top {r : Reach} {b0 : Nat} {v : Value} {d : DataW H} {ps : List MemPlace} (hval : Value.okWide Try.prog w r b0 57 v) (h : DataW.Trod enc Try.prog w base (fun _ => true) held 57 v d ps) :
    ∃ (A : Option Addr) (n c : Nat), v = .slice A n c ∧ (n ≤ c ∧ c ≤ 9223372036854775807) ∧ Trn w A n := by
  obtain ⟨fuel, hf⟩ := open_slice_top Try.underlying57 hval h
  rcases upto_structs Try.underlying57 Try.underlying62 (by kernel_rfl) (by kernel_rfl) hf with h1 | ⟨a, len, cap, h1, hl, hm, _, hi⟩
  · injection h1 with h1
    exact ⟨none, 0, 0, h1, ⟨Nat.le_refl 0, Nat.zero_le _⟩, fun h => absurd h (by omega)⟩
  · injection h1 with h1
    refine ⟨some a, len, cap, h1, ⟨hl, by unfold maxLen at hm; exact hm⟩, fun hn => ?_⟩
    obtain ⟨v, y, n, c0, _⟩ := hi 0 hn 0 _ rfl
    have c0' : w.cell? (a.add 0) = some v := c0
    rw [show a.add 0 = a from by simp [Addr.add]] at c0'
    have hsp := spot_none6 c0'
    have hb0 := World.block_lt_of_cell? w a c0'
    obtain ⟨b, o, sp⟩ := a
    simp at hsp
    subst hsp
    refine ⟨b, o, rfl, hb0, fun i him => ?_⟩
    obtain ⟨v0, y0, n0, c0, t0, _⟩ := hi i him 0 _ rfl
    obtain ⟨v1, y1, n1, c1, t1, _⟩ := hi i him 1 _ rfl
    obtain ⟨v2, y2, n2, c2, t2, _⟩ := hi i him 2 _ rfl
    obtain ⟨k, rfl, _⟩ := field_int Try.underlying3 t0
    obtain ⟨t, rfl, _⟩ := field_int Try.underlying3 t1
    obtain ⟨z, rfl, _⟩ := field_int Try.underlying3 t2
    rw [Addr.add_mid] at c0 c1 c2
    refine ⟨k, t, z, fun j u hj => ?_⟩
    match j, hj with
    | 0, hj => injection hj with hj; subst hj; exact c0
    | 1, hj => injection hj with hj; subst hj; exact (congrArg (fun x => w.cell? ⟨b, x, none⟩) (by show o + i * 3 + 1 = o + (i * 3 + 1); omega)).trans c1
    | 2, hj => injection hj with hj; subst hj; exact (congrArg (fun x => w.cell? ⟨b, x, none⟩) (by show o + i * 3 + 2 = o + (i * 3 + 2); omega)).trans c2
end
end Go.Proofs.Ytdaoinhkagmbdaa
namespace Go.Proofs.Ytdaoinhkagmbdaa
open Go.RowKit
theorem fl_drop {A : Ent → Bool} : ∀ {L : List Ent}, L.Pairwise (fun a b => A b = true → A a = true) → fl A L = L.drop (twN A L)
  | [], _ => rfl
  | a :: L, h => by
    obtain ⟨h1, h2⟩ := List.pairwise_cons.1 h
    cases ha : A a
    · have h3 : ∀ b, b ∈ a :: L → A b = false := fun b hb => by
        rcases List.mem_cons.1 hb with rfl | hb
        · exact ha
        · cases hA : A b
          · rfl
          · have := h1 b hb hA; rw [ha] at this; cases this
      have h4 : twN A (a :: L) = 0 := by unfold twN; rw [List.takeWhile_cons, if_neg (by rw [ha]; exact Bool.noConfusion)]; rfl
      rw [h4]
      exact List.filter_eq_self.2 fun b hb => by rw [h3 b hb]; rfl
    · have h4 : twN A (a :: L) = twN A L + 1 := by unfold twN; rw [List.takeWhile_cons, if_pos ha]; rfl
      rw [h4, List.drop_succ_cons, ← fl_drop h2]
      unfold fl
      rw [List.filter_cons_of_neg (by rw [ha]; exact Bool.noConfusion)]
theorem from_same {L : List Ent} (h : AscE L) (e : Ent) : fromL L e = fromE L e := fl_drop (from_pw h e)
structure Erl (os : List Ob) (tg b24 b83 b5 g8 : Nat) (s sf : ER) : Prop where
  p : boxO b24 [.pointer (some ⟨tg, 0, none⟩)] ∈ os
  a : boxO b83 [.func (.func 55) #[] #[.pointer (some ⟨b5, 0, none⟩)]] ∈ os
  f : AoF b5 s os
  b : boxO g8 [.slice sf.A sf.e.row.length sf.c, .int .i64 sf.e.fam, .slice sf.B sf.e.qual.length sf.d, .int .i64 sf.e.ts, .int .i64 sf.e.seq, .int .i64 sf.e.kind, .slice sf.D sf.e.val.length sf.q] ∈ os
  e : EIn os sf
theorem Erl.more {os os' : List Ob} {tg b24 b83 b5 g8 : Nat} {s sf : ER} (h : Erl os tg b24 b83 b5 g8 s sf) (hs : ∀ o, o ∈ os → o ∈ os') : Erl os' tg b24 b83 b5 g8 s sf :=
  ⟨hs _ h.p, hs _ h.a, ⟨hs _ h.f.1, h.f.2.more hs⟩, hs _ h.b, h.e.more hs⟩
theorem tbytes_is5 {w x : World} {tg : Nat} {fr : Bool} {os : List Ob} {t : Tr} (h : OW w os x) (hm : boxO tg (tabC t fr) ∈ os) {n : Nat} (hn : sumP t.ents = n) : Calls Try.prog 25 #[.pointer (some ⟨tg, 0, none⟩)] x fun e z => e = .returned (.int .i64 (n : Nat)) ∧ z = x := by
  subst hn; exact tbytes_any h hm
theorem ins2_perm (a b c : Ob) (os : List Ob) : ((a :: b :: os) ++ [c]).Perm (a :: b :: c :: os) := by (refine perm_of_cnt fun a => ?_; (simp only [cntO_app, cntO_cons, cntO_nil]) <;> omega)
theorem ins3_perm (a b d c : Ob) (os : List Ob) : ((a :: b :: d :: os) ++ [c]).Perm (a :: b :: d :: c :: os) := by (refine perm_of_cnt fun a => ?_; (simp only [cntO_app, cntO_cons, cntO_nil]) <;> omega)
theorem beg_perm (t g6 g7 g8 g2 r : Ob) (X Y Z : List Ob) : (((t :: g6 :: g7 :: g8 :: g2 :: (X ++ Y)) ++ Z) ++ [r]).Perm (t :: g6 :: g7 :: (X ++ ((g8 :: g2 :: (Y ++ Z)) ++ [r]))) := by (refine perm_of_cnt fun a => ?_; (simp only [cntO_app, cntO_cons, cntO_nil]) <;> omega)
theorem sameList_is {w : World} {A B : Option Addr} {n m c d : Nat} {L : List Ent} (ha : Ens w A n L) (hb : Ens w B m L) (hn : n ≤ 1000000) :
    Calls Try.prog 19 #[.slice A n c, .slice B m d] w fun e z => e = .returned (.bool true) ∧ Below w.heap.size w z := by
  obtain rfl : n = m := by rw [← ha.len, ← hb.len]
  exact sameList_yes ha hb hn
theorem ag_perm (a r : Ob) (os : List Ob) : ((os ++ [a]) ++ [r]).Perm (a :: r :: ([] ++ os)) := by (refine perm_of_cnt fun a => ?_; (simp only [cntO_app, cntO_cons, cntO_nil]) <;> omega)
theorem leaves_marks {P : Program} {fn : Func} {tmps : Array Value} {R : Ending → World → Prop} {w : World} : ∀ {Ds : List Nat} {os : List Ob} {z : World}, OW w (os ++ Ds.map dfrO) z → (∀ z', OW w os z' → LeavesInM Fence.wide 0 P fn tmps R [] .returning z') → LeavesInM Fence.wide 0 P fn tmps R (Ds.map markD) .returning z
  | [], os, z, h, k => k z (by rw [List.map_nil, List.append_nil] at h; exact h)
  | D :: Ds, os, z, h, k => leaves_mark (D := D) (es := Ds.map dfrO) h fun z' h' => leaves_marks h' k
set_option maxRecDepth 10000000 in
set_option maxHeartbeats 16000000 in
theorem again8_any (e0 : ER) (TA : Option Addr) (nt tc : Nat) (w : World) (he : e0.En w) (hT : Trn w TA nt) (hnt : nt ≤ tc ∧ tc ≤ 9223372036854775807) :
    Calls Try.prog 6 #[.agg #[.slice e0.A e0.e.row.length e0.c, .int .i64 e0.e.fam, .slice e0.B e0.e.qual.length e0.d, .int .i64 e0.e.ts, .int .i64 e0.e.seq, .int .i64 e0.e.kind, .slice e0.D e0.e.val.length e0.q], .slice TA nt tc] w fun e z => e = .returned (.bool true) ∧ Below w.heap.size w z := by
  have HE0 : Hid (∀ z, Below w.heap.size w z → e0.En z) := Lib.hid fun z hz => he.later hz
  have HTN : Hid (∀ z, Below w.heap.size w z → Trn z TA nt) := Lib.hid fun z hz => hT.later hz
  obtain ⟨ef, hef⟩ : ∃ z, z = cut5 e0.e := ⟨_, rfl⟩
  have HEF := Lib.hid hef.symm
  have HLF : Hid (ef.row.length ≤ 5000 ∧ ef.qual.length ≤ 5000 ∧ ef.val.length ≤ 5000) := Lib.hid (by rw [hef]; exact cut5_le _)
  have HX := Lib.hid (OW.nil w)
  obtain ⟨hnt1, hnt2⟩ := hnt
  clear he hT hef
  refine calls_marks Try.func6 rfl ?_
  simp only [Try.ntmps6, List.size_toArray, List.length_cons, List.length_nil, Nat.reduceAdd, Nat.reduceSub, Array.replicate_succ, Array.replicate_zero, List.push_toArray, List.append_toArray, List.nil_append, List.cons_append]
  have tk1 : True := trivial
  have tk2 : True := trivial
  go_wp2_with (first
    | (refine wl_box rfl (.tmp 0) rfl [.slice e0.A e0.e.row.length e0.c, .int .i64 e0.e.fam, .slice e0.B e0.e.qual.length e0.d, .int .i64 e0.e.ts, .int .i64 e0.e.seq, .int .i64 e0.e.kind, .slice e0.D e0.e.val.length e0.q] rfl HX.out ?_; intro g2 x1 hz hb; have HB1 : Hid (OW w (boxO g2 [.slice e0.A e0.e.row.length e0.c, .int .i64 e0.e.fam, .slice e0.B e0.e.qual.length e0.d, .int .i64 e0.e.ts, .int .i64 e0.e.seq, .int .i64 e0.e.kind, .slice e0.D e0.e.val.length e0.q] :: []) x1) := Lib.hid hz; clear hz hb HX)
    | (go_at_call 9; go_must (refine (tnew_any _).mono ?_); rintro e x2 ⟨tg, rfl, hz⟩; have HB2 : Hid (OW w (boxO tg (tabC .nil false) :: boxO g2 [.slice e0.A e0.e.row.length e0.c, .int .i64 e0.e.fam, .slice e0.B e0.e.qual.length e0.d, .int .i64 e0.e.ts, .int .i64 e0.e.seq, .int .i64 e0.e.kind, .slice e0.D e0.e.val.length e0.q] :: []) x2) := Lib.hid ((HB1.out.app hz).perm (List.Perm.swap _ _ _)); clear hz HB1)
    | (go_at_call 8; go_must (refine (told_any8 _).mono ?_); rintro e x3 ⟨rfl, hb⟩; have HB3 := Lib.hid (HB2.out.later hb); clear hb HB2)
    | (refine wl_alloc rfl rfl [.slice none 0 0, .bool false] (.inl (by kernel_rfl)) HB3.out ?_; intro g6 x4 hz _; have HB4 : Hid (OW w (boxO tg (tabC .nil false) :: boxO g6 [.slice none 0 0, .bool false] :: boxO g2 [.slice e0.A e0.e.row.length e0.c, .int .i64 e0.e.fam, .slice e0.B e0.e.qual.length e0.d, .int .i64 e0.e.ts, .int .i64 e0.e.seq, .int .i64 e0.e.kind, .slice e0.D e0.e.val.length e0.q] :: []) x4) := Lib.hid (hz.perm (List.perm_append_comm.trans (List.Perm.swap _ _ _))); clear hz HB3)
    | (refine wl_put rfl (.tmp 6) (.tmp 23) rfl HB4.out 1 rfl rfl [.slice none 0 0, .bool false] rfl rfl (by kernel_rfl) (by simp [Value.oneCell']) ?_; intro x5 hz _; have HB5 : Hid (OW w (boxO tg (tabC .nil false) :: boxO g6 [.slice none 0 0, .bool false] :: boxO g2 [.slice e0.A e0.e.row.length e0.c, .int .i64 e0.e.fam, .slice e0.B e0.e.qual.length e0.d, .int .i64 e0.e.ts, .int .i64 e0.e.seq, .int .i64 e0.e.kind, .slice e0.D e0.e.val.length e0.q] :: []) x5) := Lib.hid hz; clear hz HB4)
    | (refine wpList_load_row7 rfl 30 (.tmp 2) rfl rfl (HB5.out.range (i := 2) rfl) ent_row8 ?_)
    | (go_at_call 16; (have _t := tk1); go_must (refine (entry8_cut e0 _ (HE0.out _ HB5.out.up)).mono ?_); rw [HEF.out]; rintro e x6 ⟨A7, B7, D7, c7, d7, q7, rfl, hz⟩; have HB6 : Hid (OW w (boxO tg (tabC .nil false) :: boxO g6 [.slice none 0 0, .bool false] :: boxO g2 [.slice e0.A e0.e.row.length e0.c, .int .i64 e0.e.fam, .slice e0.B e0.e.qual.length e0.d, .int .i64 e0.e.ts, .int .i64 e0.e.seq, .int .i64 e0.e.kind, .slice e0.D e0.e.val.length e0.q] :: entO A7 B7 D7 c7 d7 q7 ef) x6) := Lib.hid (HB5.out.app hz); clear hz HB5 tk1 _t)
    | (refine wl_alloc rfl rfl [.slice none 0 0, .int .i64 0, .slice none 0 0, .int .i64 0, .int .i64 0, .int .i64 0, .slice none 0 0] (.inl (by kernel_rfl)) HB6.out ?_; intro g7 x7 hz _; have HB7 : Hid (OW w (boxO tg (tabC .nil false) :: boxO g6 [.slice none 0 0, .bool false] :: boxO g7 [.slice none 0 0, .int .i64 0, .slice none 0 0, .int .i64 0, .int .i64 0, .int .i64 0, .slice none 0 0] :: boxO g2 [.slice e0.A e0.e.row.length e0.c, .int .i64 e0.e.fam, .slice e0.B e0.e.qual.length e0.d, .int .i64 e0.e.ts, .int .i64 e0.e.seq, .int .i64 e0.e.kind, .slice e0.D e0.e.val.length e0.q] :: entO A7 B7 D7 c7 d7 q7 ef) x7) := Lib.hid (hz.perm (ins2_perm _ _ _ _)); clear hz HB6)
    | (refine wl_put rfl (.tmp 7) (.tmp 25) rfl HB7.out 2 rfl rfl [.slice A7 ef.row.length c7, .int .i64 ef.fam, .slice B7 ef.qual.length d7, .int .i64 ef.ts, .int .i64 ef.seq, .int .i64 ef.kind, .slice D7 ef.val.length q7] rfl rfl (by kernel_rfl) (by simp [Value.oneCell']) ?_; intro x8 hz _; have HB8 : Hid (OW w (boxO tg (tabC .nil false) :: boxO g6 [.slice none 0 0, .bool false] :: boxO g7 [.slice A7 ef.row.length c7, .int .i64 ef.fam, .slice B7 ef.qual.length d7, .int .i64 ef.ts, .int .i64 ef.seq, .int .i64 ef.kind, .slice D7 ef.val.length q7] :: boxO g2 [.slice e0.A e0.e.row.length e0.c, .int .i64 e0.e.fam, .slice e0.B e0.e.qual.length e0.d, .int .i64 e0.e.ts, .int .i64 e0.e.seq, .int .i64 e0.e.kind, .slice e0.D e0.e.val.length e0.q] :: entO A7 B7 D7 c7 d7 q7 ef) x8) := Lib.hid hz; clear hz HB7)
    | (refine wpList_load_row7 rfl 30 (.tmp 2) rfl rfl (HB8.out.range (i := 3) rfl) ent_row8 ?_)
    | (go_at_call 16; (have _t := tk2); go_must (refine (entry8_cut e0 _ (HE0.out _ HB8.out.up)).mono ?_); rw [HEF.out]; rintro e x9 ⟨Af, Bf, Df, cf, df, qf, rfl, hz⟩; have HB9 : Hid (OW w (boxO tg (tabC .nil false) :: boxO g6 [.slice none 0 0, .bool false] :: boxO g7 [.slice A7 ef.row.length c7, .int .i64 ef.fam, .slice B7 ef.qual.length d7, .int .i64 ef.ts, .int .i64 ef.seq, .int .i64 ef.kind, .slice D7 ef.val.length q7] :: boxO g2 [.slice e0.A e0.e.row.length e0.c, .int .i64 e0.e.fam, .slice e0.B e0.e.qual.length e0.d, .int .i64 e0.e.ts, .int .i64 e0.e.seq, .int .i64 e0.e.kind, .slice e0.D e0.e.val.length e0.q] :: (entO A7 B7 D7 c7 d7 q7 ef ++ entO Af Bf Df cf df qf ef)) x9) := Lib.hid (HB8.out.app hz); clear hz HB8 tk2 _t)
    | (refine wl_alloc rfl rfl [.slice none 0 0, .int .i64 0, .slice none 0 0, .int .i64 0, .int .i64 0, .int .i64 0, .slice none 0 0] (.inl (by kernel_rfl)) HB9.out ?_; intro g8 x10 hz _; have HB10 : Hid (OW w (boxO tg (tabC .nil false) :: boxO g6 [.slice none 0 0, .bool false] :: boxO g7 [.slice A7 ef.row.length c7, .int .i64 ef.fam, .slice B7 ef.qual.length d7, .int .i64 ef.ts, .int .i64 ef.seq, .int .i64 ef.kind, .slice D7 ef.val.length q7] :: boxO g8 [.slice none 0 0, .int .i64 0, .slice none 0 0, .int .i64 0, .int .i64 0, .int .i64 0, .slice none 0 0] :: boxO g2 [.slice e0.A e0.e.row.length e0.c, .int .i64 e0.e.fam, .slice e0.B e0.e.qual.length e0.d, .int .i64 e0.e.ts, .int .i64 e0.e.seq, .int .i64 e0.e.kind, .slice e0.D e0.e.val.length e0.q] :: (entO A7 B7 D7 c7 d7 q7 ef ++ entO Af Bf Df cf df qf ef)) x10) := Lib.hid (hz.perm (ins3_perm _ _ _ _ _)); clear hz HB9)
    | (refine wl_put rfl (.tmp 8) (.tmp 27) rfl HB10.out 3 rfl rfl [.slice Af ef.row.length cf, .int .i64 ef.fam, .slice Bf ef.qual.length df, .int .i64 ef.ts, .int .i64 ef.seq, .int .i64 ef.kind, .slice Df ef.val.length qf] rfl rfl (by kernel_rfl) (by simp [Value.oneCell']) ?_; intro x11 hz _; have HB11 : Hid (OW w (boxO tg (tabC .nil false) :: boxO g6 [.slice none 0 0, .bool false] :: boxO g7 [.slice A7 ef.row.length c7, .int .i64 ef.fam, .slice B7 ef.qual.length d7, .int .i64 ef.ts, .int .i64 ef.seq, .int .i64 ef.kind, .slice D7 ef.val.length q7] :: boxO g8 [.slice Af ef.row.length cf, .int .i64 ef.fam, .slice Bf ef.qual.length df, .int .i64 ef.ts, .int .i64 ef.seq, .int .i64 ef.kind, .slice Df ef.val.length qf] :: boxO g2 [.slice e0.A e0.e.row.length e0.c, .int .i64 e0.e.fam, .slice e0.B e0.e.qual.length e0.d, .int .i64 e0.e.ts, .int .i64 e0.e.seq, .int .i64 e0.e.kind, .slice e0.D e0.e.val.length e0.q] :: (entO A7 B7 D7 c7 d7 q7 ef ++ entO Af Bf Df cf df qf ef)) x11) := Lib.hid hz; clear hz HB10)
    | (refine wpList_load_row7 rfl 30 (.tmp 7) rfl rfl (HB11.out.range (i := 2) rfl) ent_row8 ?_)
    | (go_at_call 28; go_must (refine (from_any tg ⟨A7, c7, B7, d7, D7, q7, ef⟩ _ (entO_en HB11.out fun o ho => .tail _ (.tail _ (.tail _ (.tail _ (.tail _ (List.mem_append_left _ ho)))))) (by have := HLF.out; exact ⟨by show ef.row.length ≤ _; omega, by show ef.qual.length ≤ _; omega, by show ef.val.length ≤ _; omega⟩)).mono ?_); rintro e x12 ⟨b24, b83, b5, s0, rfl, hse, hec, hz⟩; have HS0 : Hid (s0.e = ef) := Lib.hid hse; have HEC := Lib.hid hec; have HB12 := Lib.hid (HB11.out.app hz); clear hse hec hz HB11))
  obtain ⟨RR0, hrr⟩ : ∃ z, z = (boxO g8 [.slice Af ef.row.length cf, .int .i64 ef.fam, .slice Bf ef.qual.length df, .int .i64 ef.ts, .int .i64 ef.seq, .int .i64 ef.kind, .slice Df ef.val.length qf] :: boxO g2 [.slice e0.A e0.e.row.length e0.c, .int .i64 e0.e.fam, .slice e0.B e0.e.qual.length e0.d, .int .i64 e0.e.ts, .int .i64 e0.e.seq, .int .i64 e0.e.kind, .slice e0.D e0.e.val.length e0.q] :: (entO Af Bf Df cf df qf ef ++ ([boxO b24 [.pointer (some ⟨tg, 0, none⟩)], boxO b83 [.func (.func 55) #[] #[.pointer (some ⟨b5, 0, none⟩)]], boxO b5 [.slice s0.A s0.e.row.length s0.c, .int .i64 s0.e.fam, .slice s0.B s0.e.qual.length s0.d, .int .i64 s0.e.ts, .int .i64 s0.e.seq, .int .i64 s0.e.kind, .slice s0.D s0.e.val.length s0.q]] ++ [clipO s0.A s0.e.row, clipO s0.B s0.e.qual, clipO s0.D s0.e.val])) ++ [rowO 30 7 (.slice none 0 0) 0 (([] : List ER).flatMap ER.cells)]) := ⟨_, rfl⟩
  have HC0 : Hid (OW w (boxO tg (tabC .nil false) :: boxO g6 [.slice none 0 0, .bool false] :: boxO g7 [.slice A7 ef.row.length c7, .int .i64 ef.fam, .slice B7 ef.qual.length d7, .int .i64 ef.ts, .int .i64 ef.seq, .int .i64 ef.kind, .slice D7 ef.val.length q7] :: (entO A7 B7 D7 c7 d7 q7 ef ++ (RR0 ++ ([] : List Nat).map dfrO))) x12) := Lib.hid (by rw [hrr, List.map_nil, List.flatMap_nil, List.append_nil]; exact (HB12.out.nilRow 30 7).perm (beg_perm _ _ _ _ _ _ _ _ _))
  have HER0 : Hid (Erl RR0 tg b24 b83 b5 g8 s0 (⟨Af, cf, Bf, df, Df, qf, ef⟩ : ER)) := Lib.hid (by
    rw [hrr]
    refine ⟨List.mem_append_left _ (.tail _ (.tail _ (List.mem_append_right _ (.head _)))), List.mem_append_left _ (.tail _ (.tail _ (List.mem_append_right _ (.tail _ (.head _))))), ⟨List.mem_append_left _ (.tail _ (.tail _ (List.mem_append_right _ (.tail _ (.tail _ (.head _)))))), HEC.out.more fun o ho => List.mem_append_left _ (.tail _ (.tail _ (List.mem_append_right _ (List.mem_append_right _ ho))))⟩, List.mem_append_left _ (.head _), entO_ein fun o ho => List.mem_append_left _ (.tail _ (.tail _ (List.mem_append_left _ ho)))⟩)
  have HRT0 : Hid (RT RR0 none 0 0 [] []) := Lib.hid ⟨by rw [hrr]; exact List.mem_append_right _ (.head _), rfl, fun r hr => by cases hr⟩
  clear hrr HB12 HEC
  refine wp_loop (fun a' w' => ∃ (u3 u10 u11 u12 u13 u14 u15 u16 u17 u18 u19 u20 u21 u22 u23 u24 u25 u26 u27 u28 u29 u30 u31 u32 u33 u34 u35 u36 u37 u38 u39 u40 u41 u42 u43 u44 u45 u46 u47 u48 u49 u50 u51 u52 u53 u54 u55 u56 u57 u58 u59 u60 u61 u62 u63 u64 u65 u66 u67 u68 u69 u70 u71 u72 u73 u74 u75 u76 u77 u78 u79 u80 u81 u82 u83 u84 u85 u86 u87 u88 u89 u90 u91 u92 u93 u94 u95 u96 u97 u98 u99 u100 u101 u102 u103 u104 u105 : Value) (ds : List Deferred), (∃ (i : Nat) (tr : Tr) (A : Option Addr) (n c : Nat) (rs : List ER) (e7 : Ent) (RR : List Ob) (Ds : List Nat), i ≤ 31 ∧ i ≤ nt + 1 ∧ u10 = .int .i64 i ∧ tr.list.length ≤ i ∧ n ≤ i ∧ (e7.row.length ≤ 5000 ∧ e7.qual.length ≤ 5000 ∧ e7.val.length ≤ 5000) ∧ ds = Ds.map markD ∧ Hid (Tb RR tr) ∧ Hid (RT RR A n c rs tr.ents) ∧ Hid (Erl RR tg b24 b83 b5 g8 s0 (⟨Af, cf, Bf, df, Df, qf, ef⟩ : ER)) ∧ Hid (OW w (boxO tg (tabC tr false) :: boxO g6 [.slice A n c, .bool false] :: boxO g7 [.slice A7 e7.row.length c7, .int .i64 e7.fam, .slice B7 e7.qual.length d7, .int .i64 e7.ts, .int .i64 e7.seq, .int .i64 e7.kind, .slice D7 e7.val.length q7] :: (entO A7 B7 D7 c7 d7 q7 e7 ++ (RR ++ Ds.map dfrO))) w')) ∧ a' = ⟨([.agg #[.slice e0.A e0.e.row.length e0.c, .int .i64 e0.e.fam, .slice e0.B e0.e.qual.length e0.d, .int .i64 e0.e.ts, .int .i64 e0.e.seq, .int .i64 e0.e.kind, .slice e0.D e0.e.val.length e0.q], .slice TA nt tc, .pointer (some ⟨g2, 0, none⟩), u3, .bool false, .pointer (some ⟨tg, 0, none⟩), .pointer (some ⟨g6, 0, none⟩), .pointer (some ⟨g7, 0, none⟩), .pointer (some ⟨g8, 0, none⟩), .func (.func 67) #[] #[.pointer (some ⟨b24, 0, none⟩), .pointer (some ⟨b83, 0, none⟩)], u10, u11, u12, u13, u14, u15, u16, u17, u18, u19, u20, u21, u22, u23, u24, u25, u26, u27, u28, u29, u30, u31, u32, u33, u34, u35, u36, u37, u38, u39, u40, u41, u42, u43, u44, u45, u46, u47, u48, u49, u50, u51, u52, u53, u54, u55, u56, u57, u58, u59, u60, u61, u62, u63, u64, u65, u66, u67, u68, u69, u70, u71, u72, u73, u74, u75, u76, u77, u78, u79, u80, u81, u82, u83, u84, u85, u86, u87, u88, u89, u90, u91, u92, u93, u94, u95, u96, u97, u98, u99, u100, u101, u102, u103, u104, u105] : List Value).toArray, ds⟩) (fun a' _ => 31 - (intOf (a'.tmps.getD 10 undef)).toNat) ?_ ?_
  · repeat apply Exists.intro
    refine ⟨?_, rfl⟩
    exact ⟨0, .nil, none, 0, 0, [], ef, RR0, [], by decide, Nat.zero_le _, rfl, Nat.le_refl _, Nat.le_refl _, HLF.out, rfl, Lib.hid (Tb.nil _), HRT0, HER0, HC0⟩
  intro _ wr hinv
  obtain ⟨u3, hinv⟩ := hinv
  obtain ⟨u10, hinv⟩ := hinv
  obtain ⟨u11, hinv⟩ := hinv
  obtain ⟨u12, hinv⟩ := hinv
  obtain ⟨u13, hinv⟩ := hinv
  obtain ⟨u14, hinv⟩ := hinv
  obtain ⟨u15, hinv⟩ := hinv
  obtain ⟨u16, hinv⟩ := hinv
  obtain ⟨u17, hinv⟩ := hinv
  obtain ⟨u18, hinv⟩ := hinv
  obtain ⟨u19, hinv⟩ := hinv
  obtain ⟨u20, hinv⟩ := hinv
  obtain ⟨u21, hinv⟩ := hinv
  obtain ⟨u22, hinv⟩ := hinv
  obtain ⟨u23, hinv⟩ := hinv
  obtain ⟨u24, hinv⟩ := hinv
  obtain ⟨u25, hinv⟩ := hinv
  obtain ⟨u26, hinv⟩ := hinv
  obtain ⟨u27, hinv⟩ := hinv
  obtain ⟨u28, hinv⟩ := hinv
  obtain ⟨u29, hinv⟩ := hinv
  obtain ⟨u30, hinv⟩ := hinv
  obtain ⟨u31, hinv⟩ := hinv
  obtain ⟨u32, hinv⟩ := hinv
  obtain ⟨u33, hinv⟩ := hinv
  obtain ⟨u34, hinv⟩ := hinv
  obtain ⟨u35, hinv⟩ := hinv
  obtain ⟨u36, hinv⟩ := hinv
  obtain ⟨u37, hinv⟩ := hinv
  obtain ⟨u38, hinv⟩ := hinv
  obtain ⟨u39, hinv⟩ := hinv
  obtain ⟨u40, hinv⟩ := hinv
  obtain ⟨u41, hinv⟩ := hinv
  obtain ⟨u42, hinv⟩ := hinv
  obtain ⟨u43, hinv⟩ := hinv
  obtain ⟨u44, hinv⟩ := hinv
  obtain ⟨u45, hinv⟩ := hinv
  obtain ⟨u46, hinv⟩ := hinv
  obtain ⟨u47, hinv⟩ := hinv
  obtain ⟨u48, hinv⟩ := hinv
  obtain ⟨u49, hinv⟩ := hinv
  obtain ⟨u50, hinv⟩ := hinv
  obtain ⟨u51, hinv⟩ := hinv
  obtain ⟨u52, hinv⟩ := hinv
  obtain ⟨u53, hinv⟩ := hinv
  obtain ⟨u54, hinv⟩ := hinv
  obtain ⟨u55, hinv⟩ := hinv
  obtain ⟨u56, hinv⟩ := hinv
  obtain ⟨u57, hinv⟩ := hinv
  obtain ⟨u58, hinv⟩ := hinv
  obtain ⟨u59, hinv⟩ := hinv
  obtain ⟨u60, hinv⟩ := hinv
  obtain ⟨u61, hinv⟩ := hinv
  obtain ⟨u62, hinv⟩ := hinv
  obtain ⟨u63, hinv⟩ := hinv
  obtain ⟨u64, hinv⟩ := hinv
  obtain ⟨u65, hinv⟩ := hinv
  obtain ⟨u66, hinv⟩ := hinv
  obtain ⟨u67, hinv⟩ := hinv
  obtain ⟨u68, hinv⟩ := hinv
  obtain ⟨u69, hinv⟩ := hinv
  obtain ⟨u70, hinv⟩ := hinv
  obtain ⟨u71, hinv⟩ := hinv
  obtain ⟨u72, hinv⟩ := hinv
  obtain ⟨u73, hinv⟩ := hinv
  obtain ⟨u74, hinv⟩ := hinv
  obtain ⟨u75, hinv⟩ := hinv
  obtain ⟨u76, hinv⟩ := hinv
  obtain ⟨u77, hinv⟩ := hinv
  obtain ⟨u78, hinv⟩ := hinv
  obtain ⟨u79, hinv⟩ := hinv
  obtain ⟨u80, hinv⟩ := hinv
  obtain ⟨u81, hinv⟩ := hinv
  obtain ⟨u82, hinv⟩ := hinv
  obtain ⟨u83, hinv⟩ := hinv
  obtain ⟨u84, hinv⟩ := hinv
  obtain ⟨u85, hinv⟩ := hinv
  obtain ⟨u86, hinv⟩ := hinv
  obtain ⟨u87, hinv⟩ := hinv
  obtain ⟨u88, hinv⟩ := hinv
  obtain ⟨u89, hinv⟩ := hinv
  obtain ⟨u90, hinv⟩ := hinv
  obtain ⟨u91, hinv⟩ := hinv
  obtain ⟨u92, hinv⟩ := hinv
  obtain ⟨u93, hinv⟩ := hinv
  obtain ⟨u94, hinv⟩ := hinv
  obtain ⟨u95, hinv⟩ := hinv
  obtain ⟨u96, hinv⟩ := hinv
  obtain ⟨u97, hinv⟩ := hinv
  obtain ⟨u98, hinv⟩ := hinv
  obtain ⟨u99, hinv⟩ := hinv
  obtain ⟨u100, hinv⟩ := hinv
  obtain ⟨u101, hinv⟩ := hinv
  obtain ⟨u102, hinv⟩ := hinv
  obtain ⟨u103, hinv⟩ := hinv
  obtain ⟨u104, hinv⟩ := hinv
  obtain ⟨u105, hinv⟩ := hinv
  obtain ⟨ds, hinv⟩ := hinv
  obtain ⟨⟨i, tr, A, n, c, rs, e7, RR, Ds, hi31, hint, hu10, htl, hnl, hl7, hds, HTB, HRT, HER, HZ⟩, ha⟩ := hinv
  subst ha hu10
  dsimp only
  clear HC0 HRT0 HER0
  have HZE : OW w ((boxO tg (tabC tr false) :: boxO g6 [.slice A n c, .bool false] :: boxO g7 [.slice A7 e7.row.length c7, .int .i64 e7.fam, .slice B7 e7.qual.length d7, .int .i64 e7.ts, .int .i64 e7.seq, .int .i64 e7.kind, .slice D7 e7.val.length q7] :: (entO A7 B7 D7 c7 d7 q7 e7 ++ RR)) ++ Ds.map dfrO) wr := HZ.out.perm (by (refine perm_of_cnt fun a => ?_; (simp only [cntO_app, cntO_cons, cntO_nil]) <;> omega))
  by_cases hgo : i ≤ nt ∧ i ≤ 30
  case neg =>
    by_cases hle : i ≤ nt
    · have d1 : decide ((i : Int) ≤ (nt : Int)) = true := decide_eq_true (by omega)
      have d2 : decide ((i : Int) ≤ 30) = false := decide_eq_false (by omega)
      have d3 : ¬ i ≤ 30 := by omega
      go_wp2_with fail
      subst hds
      exact leaves_marks HZE fun z' hz' => leaves0 (results_tmp rfl _ _ _) ⟨rfl, hz'.up⟩
    · have d1 : decide ((i : Int) ≤ (nt : Int)) = false := decide_eq_false (by omega)
      go_wp2_with fail
      subst hds
      exact leaves_marks HZE fun z' hz' => leaves0 (results_tmp rfl _ _ _) ⟨rfl, hz'.up⟩
  obtain ⟨hle, hle30⟩ := hgo
  have d1 : decide ((i : Int) ≤ (nt : Int)) = true := decide_eq_true (by omega)
  have d2 : decide ((i : Int) ≤ 30) = true := decide_eq_true (by omega)
  have i0 : (0 : Int) ≤ (i : Int) := by omega
  have HL7 := Lib.hid hl7
  obtain ⟨L2, k2, hadd⟩ : ∃ L k, addE tr.ents false e7 = (L, k) := ⟨_, _, rfl⟩
  have HADD := Lib.hid hadd
  have HLN : Hid (L2.length ≤ i + 1) := Lib.hid (by exact Nat.le_trans (by have h := (addE_sub tr.ents false e7).2; rw [hadd, Tr.ents_len] at h; exact h) (Nat.add_le_add_right htl 1))
  have e1 : (k2 != k2) = false := by simp
  have tk3 : True := trivial
  clear hadd hl7 HZE
  go_wp2_with (first
    | (refine wpList_load_row7 rfl 30 (.tmp 7) rfl rfl (HZ.out.range (i := 2) rfl) ent_row8 ?_)
    | (go_at_call 16; go_must (refine (entry8_same (⟨A7, c7, B7, d7, D7, q7, e7⟩ : ER) _ (entO_en HZ.out fun o ho => .tail _ (.tail _ (.tail _ (List.mem_append_left _ (ho))))) HL7.out).mono ?_); rintro e y1 ⟨Aw, Bw, Dw, cw, dw, qw, rfl, hz⟩; have HA1 : Hid (OW w (boxO tg (tabC tr false) :: boxO g6 [.slice A n c, .bool false] :: boxO g7 [.slice A7 e7.row.length c7, .int .i64 e7.fam, .slice B7 e7.qual.length d7, .int .i64 e7.ts, .int .i64 e7.seq, .int .i64 e7.kind, .slice D7 e7.val.length q7] :: ((entO A7 B7 D7 c7 d7 q7 e7 ++ (RR ++ Ds.map dfrO)) ++ entO Aw Bw Dw cw dw qw e7)) y1) := Lib.hid (HZ.out.app hz); clear hz HZ)
    | (refine wl_alloc rfl rfl [.slice none 0 0, .int .i64 0, .slice none 0 0, .int .i64 0, .int .i64 0, .int .i64 0, .slice none 0 0] (.inl (by kernel_rfl)) HA1.out ?_; intro g11 y2 hz _; have HA2 : Hid (OW w (boxO tg (tabC tr false) :: boxO g11 [.slice none 0 0, .int .i64 0, .slice none 0 0, .int .i64 0, .int .i64 0, .int .i64 0, .slice none 0 0] :: boxO g6 [.slice A n c, .bool false] :: boxO g7 [.slice A7 e7.row.length c7, .int .i64 e7.fam, .slice B7 e7.qual.length d7, .int .i64 e7.ts, .int .i64 e7.seq, .int .i64 e7.kind, .slice D7 e7.val.length q7] :: ((entO A7 B7 D7 c7 d7 q7 e7 ++ (RR ++ Ds.map dfrO)) ++ entO Aw Bw Dw cw dw qw e7)) y2) := Lib.hid (hz.perm (List.perm_append_comm.trans (List.Perm.swap _ _ _))); clear hz HA1)
    | (refine wl_put rfl (.tmp 11) (.tmp 42) rfl HA2.out 1 rfl rfl [.slice Aw e7.row.length cw, .int .i64 e7.fam, .slice Bw e7.qual.length dw, .int .i64 e7.ts, .int .i64 e7.seq, .int .i64 e7.kind, .slice Dw e7.val.length qw] rfl rfl (by kernel_rfl) (by simp [Value.oneCell']) ?_; intro y3 hz _; have HA3 : Hid (OW w (boxO tg (tabC tr false) :: boxO g11 [.slice Aw e7.row.length cw, .int .i64 e7.fam, .slice Bw e7.qual.length dw, .int .i64 e7.ts, .int .i64 e7.seq, .int .i64 e7.kind, .slice Dw e7.val.length qw] :: boxO g6 [.slice A n c, .bool false] :: boxO g7 [.slice A7 e7.row.length c7, .int .i64 e7.fam, .slice B7 e7.qual.length d7, .int .i64 e7.ts, .int .i64 e7.seq, .int .i64 e7.kind, .slice D7 e7.val.length q7] :: ((entO A7 B7 D7 c7 d7 q7 e7 ++ (RR ++ Ds.map dfrO)) ++ entO Aw Bw Dw cw dw qw e7)) y3) := Lib.hid (hz); clear hz HA2)
    | (refine wpList_load_row7 rfl 39 (.tmp 6) rfl rfl (HA3.out.range (i := 2) rfl) tabR_row ?_)
    | (refine wpList_load_row7 rfl 30 (.tmp 11) rfl rfl (HA3.out.range (i := 1) rfl) ent_row8 ?_)
    | (go_at_call 15; go_must (refine (radd8_is HA3.out (fun o ho => .tail _ (.tail _ (.tail _ (.tail _ (List.mem_append_left _ (List.mem_append_right _ (List.mem_append_left _ (ho)))))))) HRT.out (by omega) (⟨Aw, cw, Bw, dw, Dw, qw, e7⟩ : ER) (fun z hz => entO_en hz fun o ho => .tail _ (.tail _ (.tail _ (.tail _ (List.mem_append_right _ (ho)))))) HADD.out).mono ?_); rintro e y4 ⟨A2, n2, c2, rs2, ns1, rfl, hz, hT⟩; have HA4 : Hid (OW w (boxO tg (tabC tr false) :: boxO g11 [.slice Aw e7.row.length cw, .int .i64 e7.fam, .slice Bw e7.qual.length dw, .int .i64 e7.ts, .int .i64 e7.seq, .int .i64 e7.kind, .slice Dw e7.val.length qw] :: boxO g6 [.slice A n c, .bool false] :: boxO g7 [.slice A7 e7.row.length c7, .int .i64 e7.fam, .slice B7 e7.qual.length d7, .int .i64 e7.ts, .int .i64 e7.seq, .int .i64 e7.kind, .slice D7 e7.val.length q7] :: (((entO A7 B7 D7 c7 d7 q7 e7 ++ (RR ++ Ds.map dfrO)) ++ entO Aw Bw Dw cw dw qw e7) ++ ns1)) y4) := Lib.hid (hz); clear hz HA3; have HRT2 := Lib.hid hT; clear hT)
    | (refine wl_alloc rfl rfl [.slice none 0 0, .bool false] (.inl (by kernel_rfl)) HA4.out ?_; intro g12 y5 hz _; have HA5 : Hid (OW w (boxO tg (tabC tr false) :: boxO g12 [.slice none 0 0, .bool false] :: boxO g11 [.slice Aw e7.row.length cw, .int .i64 e7.fam, .slice Bw e7.qual.length dw, .int .i64 e7.ts, .int .i64 e7.seq, .int .i64 e7.kind, .slice Dw e7.val.length qw] :: boxO g6 [.slice A n c, .bool false] :: boxO g7 [.slice A7 e7.row.length c7, .int .i64 e7.fam, .slice B7 e7.qual.length d7, .int .i64 e7.ts, .int .i64 e7.seq, .int .i64 e7.kind, .slice D7 e7.val.length q7] :: (((entO A7 B7 D7 c7 d7 q7 e7 ++ (RR ++ Ds.map dfrO)) ++ entO Aw Bw Dw cw dw qw e7) ++ ns1)) y5) := Lib.hid (hz.perm (List.perm_append_comm.trans (List.Perm.swap _ _ _))); clear hz HA4)
    | (refine wl_put rfl (.tmp 12) (.tmp 47) rfl HA5.out 1 rfl rfl [.slice A2 n2 c2, .bool false] rfl rfl (by kernel_rfl) (by simp [Value.oneCell']) ?_; intro y6 hz _; have HA6 : Hid (OW w (boxO tg (tabC tr false) :: boxO g12 [.slice A2 n2 c2, .bool false] :: boxO g11 [.slice Aw e7.row.length cw, .int .i64 e7.fam, .slice Bw e7.qual.length dw, .int .i64 e7.ts, .int .i64 e7.seq, .int .i64 e7.kind, .slice Dw e7.val.length qw] :: boxO g6 [.slice A n c, .bool false] :: boxO g7 [.slice A7 e7.row.length c7, .int .i64 e7.fam, .slice B7 e7.qual.length d7, .int .i64 e7.ts, .int .i64 e7.seq, .int .i64 e7.kind, .slice D7 e7.val.length q7] :: (((entO A7 B7 D7 c7 d7 q7 e7 ++ (RR ++ Ds.map dfrO)) ++ entO Aw Bw Dw cw dw qw e7) ++ ns1)) y6) := Lib.hid (hz); clear hz HA5)
    | (refine wpList_load_row7 rfl 30 (.tmp 7) rfl rfl (HA6.out.range (i := 4) rfl) ent_row8 ?_)
    | (go_at_call 10; go_must (refine (tadd_is (os := boxO g12 [.slice A2 n2 c2, .bool false] :: boxO g11 [.slice Aw e7.row.length cw, .int .i64 e7.fam, .slice Bw e7.qual.length dw, .int .i64 e7.ts, .int .i64 e7.seq, .int .i64 e7.kind, .slice Dw e7.val.length qw] :: boxO g6 [.slice A n c, .bool false] :: boxO g7 [.slice A7 e7.row.length c7, .int .i64 e7.fam, .slice B7 e7.qual.length d7, .int .i64 e7.ts, .int .i64 e7.seq, .int .i64 e7.kind, .slice D7 e7.val.length q7] :: (((entO A7 B7 D7 c7 d7 q7 e7 ++ (RR ++ Ds.map dfrO)) ++ entO Aw Bw Dw cw dw qw e7) ++ ns1)) (ms := RR) (⟨A7, c7, B7, d7, D7, q7, e7⟩ : ER) HA6.out (fun o ho => .tail _ (.tail _ (.tail _ (.tail _ (List.mem_append_left _ (List.mem_append_left _ (List.mem_append_right _ (List.mem_append_left _ (ho))))))))) HTB.out (entO_en HA6.out fun o ho => .tail _ (.tail _ (.tail _ (.tail _ (.tail _ (List.mem_append_left _ (List.mem_append_left _ (List.mem_append_left _ (ho))))))))) (by omega) HADD.out).mono ?_); rintro e y7 ⟨t2, ns2, rfl, hz, hT, he⟩; have HA7 : Hid (OW w (boxO tg (tabC t2 false) :: boxO g12 [.slice A2 n2 c2, .bool false] :: boxO g11 [.slice Aw e7.row.length cw, .int .i64 e7.fam, .slice Bw e7.qual.length dw, .int .i64 e7.ts, .int .i64 e7.seq, .int .i64 e7.kind, .slice Dw e7.val.length qw] :: boxO g6 [.slice A n c, .bool false] :: boxO g7 [.slice A7 e7.row.length c7, .int .i64 e7.fam, .slice B7 e7.qual.length d7, .int .i64 e7.ts, .int .i64 e7.seq, .int .i64 e7.kind, .slice D7 e7.val.length q7] :: ((((entO A7 B7 D7 c7 d7 q7 e7 ++ (RR ++ Ds.map dfrO)) ++ entO Aw Bw Dw cw dw qw e7) ++ ns1) ++ ns2)) y7) := Lib.hid (hz); clear hz HA6; have HTB2 := Lib.hid hT; have HE2 := Lib.hid he; clear hT he)
    | (refine wpList_load_row7 rfl 30 (.tmp 7) rfl rfl (HA7.out.range (i := 4) rfl) ent_row8 ?_)
    | (refine wpList_load_row7 rfl 30 (.tmp 11) rfl rfl (HA7.out.range (i := 2) rfl) ent_row8 ?_)
    | (go_at_call 29; go_must (refine (stands8 HA7.out (fun o ho => .tail _ (.tail _ (.tail _ (.tail _ (.tail _ (List.mem_append_left _ (List.mem_append_left _ (List.mem_append_left _ (List.mem_append_left _ (ho)))))))))) (fun o ho => .tail _ (.tail _ (.tail _ (.tail _ (.tail _ (List.mem_append_left _ (List.mem_append_left _ (List.mem_append_right _ (ho))))))))) HL7.out).mono ?_); rintro e z1 ⟨rfl, hb⟩; have HA8 := Lib.hid (HA7.out.later hb); clear hb HA7)
    | (refine wpList_load_row7 rfl 39 (.tmp 12) rfl rfl (HA8.out.range (i := 1) rfl) tabR_row ?_)
    | (refine wl_put rfl (.tmp 6) (.tmp 60) rfl HA8.out 3 rfl rfl [.slice A2 n2 c2, .bool false] rfl rfl (by kernel_rfl) (by simp [Value.oneCell']) ?_; intro y9 hz _; have HA9 : Hid (OW w (boxO tg (tabC t2 false) :: boxO g12 [.slice A2 n2 c2, .bool false] :: boxO g11 [.slice Aw e7.row.length cw, .int .i64 e7.fam, .slice Bw e7.qual.length dw, .int .i64 e7.ts, .int .i64 e7.seq, .int .i64 e7.kind, .slice Dw e7.val.length qw] :: boxO g6 [.slice A2 n2 c2, .bool false] :: boxO g7 [.slice A7 e7.row.length c7, .int .i64 e7.fam, .slice B7 e7.qual.length d7, .int .i64 e7.ts, .int .i64 e7.seq, .int .i64 e7.kind, .slice D7 e7.val.length q7] :: ((((entO A7 B7 D7 c7 d7 q7 e7 ++ (RR ++ Ds.map dfrO)) ++ entO Aw Bw Dw cw dw qw e7) ++ ns1) ++ ns2)) y9) := Lib.hid (hz); clear hz HA8))
  have hn2 : n2 ≤ i + 1 := by
    have h : rs2.length = n2 ∧ L2.length = n2 := RT.lens (os := boxO tg (tabC t2 false) :: boxO g12 [.slice A2 n2 c2, .bool false] :: boxO g11 [.slice Aw e7.row.length cw, .int .i64 e7.fam, .slice Bw e7.qual.length dw, .int .i64 e7.ts, .int .i64 e7.seq, .int .i64 e7.kind, .slice Dw e7.val.length qw] :: boxO g6 [.slice A2 n2 c2, .bool false] :: boxO g7 [.slice A7 e7.row.length c7, .int .i64 e7.fam, .slice B7 e7.qual.length d7, .int .i64 e7.ts, .int .i64 e7.seq, .int .i64 e7.kind, .slice D7 e7.val.length q7] :: ((((entO A7 B7 D7 c7 d7 q7 e7 ++ (RR ++ Ds.map dfrO)) ++ entO Aw Bw Dw cw dw qw e7) ++ ns1) ++ ns2)) (HRT2.out.more fun o ho => (List.mem_append.1 ho).elim (fun ho => .tail _ (.tail _ (.tail _ (.tail _ (.tail _ (List.mem_append_left _ (List.mem_append_left _ (List.mem_append_left _ (List.mem_append_right _ (List.mem_append_left _ (ho))))))))))) (fun ho => .tail _ (.tail _ (.tail _ (.tail _ (.tail _ (List.mem_append_left _ (List.mem_append_right _ (ho))))))))) HA9.out
    have := HLN.out
    omega
  obtain ⟨sp, hsp⟩ : ∃ z, z = sumP t2.ents := ⟨_, rfl⟩
  have HSP := Lib.hid hsp.symm
  have HSR : Hid (sumP L2 = sp) := Lib.hid (by rw [← HE2.out, ← hsp])
  have e2 : (sp != sp) = false := by simp
  have e3 : ((sp : Int) != (sp : Int)) = false := by simp
  clear hsp
  refine lt_start [] (by kernel_rfl) ?_
  intro xd hd
  refine ⟨fun z => OW w (boxO tg (tabC t2 false) :: boxO g12 [.slice A2 n2 c2, .bool false] :: boxO g11 [.slice Aw e7.row.length cw, .int .i64 e7.fam, .slice Bw e7.qual.length dw, .int .i64 e7.ts, .int .i64 e7.seq, .int .i64 e7.kind, .slice Dw e7.val.length qw] :: boxO g6 [.slice A2 n2 c2, .bool false] :: boxO g7 [.slice A7 e7.row.length c7, .int .i64 e7.fam, .slice B7 e7.qual.length d7, .int .i64 e7.ts, .int .i64 e7.seq, .int .i64 e7.kind, .slice D7 e7.val.length q7] :: ((((entO A7 B7 D7 c7 d7 q7 e7 ++ (RR ++ Ds.map dfrO)) ++ entO Aw Bw Dw cw dw qw e7) ++ ns1) ++ ns2)) z, ?_⟩
  have HS := Lib.hid (HA9.out.later hd)
  refine lt_pure 0 rfl (by kernel_rfl) (by kernel_rfl) (by kernel_rfl) (by kernel_rfl) (fun _ _ _ h => h) (v := ?_) (yi_run rfl (fun w => ?_)) (fun _ => HS.out) ?_
  rotate_left
  · first | (go_simp; done) | (go_simp; with_reducible rfl)
  simp only [Act.put, List.setIfInBounds_toArray, List.set_cons_zero, List.set_cons_succ]
  refine lt_take 1 [2, 5, 6, 7, 8, 9, 10, 11, 12, 13, 14, 15, 16, 17, 18, 19, 20, 21, 22] rfl (by kernel_rfl) (by kernel_rfl) (by kernel_rfl) (by kernel_rfl) (by kernel_rfl) (fun _ _ _ h => h) (yi_row rfl rfl rfl (fun w hS => OW.range hS (i := 4) rfl) ent_row8) HS.out ?_
  simp only [Act.put, List.setIfInBounds_toArray, List.set_cons_zero, List.set_cons_succ]
  refine lt_take 3 [5, 6, 7, 8, 9, 10, 11, 12, 13, 14, 15, 16, 17, 18, 19, 20, 21, 22] rfl (by kernel_rfl) (by kernel_rfl) (by kernel_rfl) (by kernel_rfl) (by kernel_rfl) (fun _ _ _ h => h) (yi_row rfl rfl rfl (fun w hS => OW.range hS (i := 3) rfl) tabR_row) HS.out ?_
  simp only [Act.put, List.setIfInBounds_toArray, List.set_cons_zero, List.set_cons_succ]
  refine lt_take 4 [5, 6, 7, 8, 9, 10, 11, 12, 13, 14, 15, 16, 17, 18, 19, 20, 21, 22] rfl (by kernel_rfl) (by kernel_rfl) (by kernel_rfl) (by kernel_rfl) (by kernel_rfl) (fun _ _ _ h => h) (yi_row rfl rfl rfl (fun w hS => OW.range hS (i := 2) rfl) ent_row8) HS.out ?_
  simp only [Act.put, List.setIfInBounds_toArray, List.set_cons_zero, List.set_cons_succ]
  refine lt_call 2 rfl (by kernel_rfl) rfl rfl ⟨_, Try.func17, by decide, by kernel_rfl⟩ [.pointer (some ⟨tg, 0, none⟩), .agg #[.slice A7 e7.row.length c7, .int .i64 e7.fam, .slice B7 e7.qual.length d7, .int .i64 e7.ts, .int .i64 e7.seq, .int .i64 e7.kind, .slice D7 e7.val.length q7]] rfl ?_
  refine (from_any8 (⟨A7, c7, B7, d7, D7, q7, e7⟩ : ER) HS.out (.head _) (fun o ho => (List.mem_append.1 ho).elim (fun ho => .tail _ (.tail _ (.tail _ (.tail _ (.tail _ (List.mem_append_left _ (List.mem_append_left _ (List.mem_append_left _ (List.mem_append_right _ (List.mem_append_left _ (ho))))))))))) (fun ho => .tail _ (.tail _ (.tail _ (.tail _ (.tail _ (List.mem_append_right _ (ho)))))))) HTB2.out (by have := HLN.out; rw [← HE2.out, Tr.ents_len] at this; omega) (entO_en HS.out fun o ho => .tail _ (.tail _ (.tail _ (.tail _ (.tail _ (List.mem_append_left _ (List.mem_append_left _ (List.mem_append_left _ (List.mem_append_left _ (ho)))))))))) (by have := HL7.out; exact ⟨by show e7.row.length ≤ _; omega, by show e7.qual.length ≤ _; omega, by show e7.val.length ≤ _; omega⟩)).mono ?_
  rintro e z2 ⟨Aa, ma, ca, ra, rfl, hla, hcol, hz⟩
  have HCA : Hid (Col ra (fromE L2 e7)) := Lib.hid (by rw [← HE2.out, ← from_same HTB2.out.asc]; exact hcol)
  have hma : ma ≤ i + 1 := by have h := HCA.out.len; have h2 := hcol.len; have := HLN.out; unfold fromE at h; rw [List.length_drop] at h; omega
  have HY : Hid (OW w (boxO tg (tabC t2 false) :: boxO g12 [.slice A2 n2 c2, .bool false] :: boxO g11 [.slice Aw e7.row.length cw, .int .i64 e7.fam, .slice Bw e7.qual.length dw, .int .i64 e7.ts, .int .i64 e7.seq, .int .i64 e7.kind, .slice Dw e7.val.length qw] :: boxO g6 [.slice A2 n2 c2, .bool false] :: boxO g7 [.slice A7 e7.row.length c7, .int .i64 e7.fam, .slice B7 e7.qual.length d7, .int .i64 e7.ts, .int .i64 e7.seq, .int .i64 e7.kind, .slice D7 e7.val.length q7] :: (((((entO A7 B7 D7 c7 d7 q7 e7 ++ (RR ++ Ds.map dfrO)) ++ entO Aw Bw Dw cw dw qw e7) ++ ns1) ++ ns2) ++ listO8 Aa ma ca ra)) z2) := Lib.hid hz
  replace HS : Hid (OW w (boxO tg (tabC t2 false) :: boxO g12 [.slice A2 n2 c2, .bool false] :: boxO g11 [.slice Aw e7.row.length cw, .int .i64 e7.fam, .slice Bw e7.qual.length dw, .int .i64 e7.ts, .int .i64 e7.seq, .int .i64 e7.kind, .slice Dw e7.val.length qw] :: boxO g6 [.slice A2 n2 c2, .bool false] :: boxO g7 [.slice A7 e7.row.length c7, .int .i64 e7.fam, .slice B7 e7.qual.length d7, .int .i64 e7.ts, .int .i64 e7.seq, .int .i64 e7.kind, .slice D7 e7.val.length q7] :: ((((entO A7 B7 D7 c7 d7 q7 e7 ++ (RR ++ Ds.map dfrO)) ++ entO Aw Bw Dw cw dw qw e7) ++ ns1) ++ ns2)) z2) := Lib.hid hz.left
  clear hla hcol hz
  refine ⟨_, rfl, fun _ => HS.out, ?_⟩
  simp only [Act.put, List.setIfInBounds_toArray, List.set_cons_zero, List.set_cons_succ]
  refine lt_call 5 rfl (by kernel_rfl) rfl rfl ⟨_, Try.func18, by decide, by kernel_rfl⟩ [.agg #[.slice A2 n2 c2, .bool false], .agg #[.slice Aw e7.row.length cw, .int .i64 e7.fam, .slice Bw e7.qual.length dw, .int .i64 e7.ts, .int .i64 e7.seq, .int .i64 e7.kind, .slice Dw e7.val.length qw]] rfl ?_
  refine (rfrom8_any HY.out (HRT2.out.more fun o ho => (List.mem_append.1 ho).elim (fun ho => .tail _ (.tail _ (.tail _ (.tail _ (.tail _ (List.mem_append_left _ (List.mem_append_left _ (List.mem_append_left _ (List.mem_append_left _ (List.mem_append_right _ (List.mem_append_left _ (ho)))))))))))) (fun ho => .tail _ (.tail _ (.tail _ (.tail _ (.tail _ (List.mem_append_left _ (List.mem_append_left _ (List.mem_append_right _ (ho)))))))))) (by omega) (⟨Aw, cw, Bw, dw, Dw, qw, e7⟩ : ER) (fun z hz => entO_en hz fun o ho => .tail _ (.tail _ (.tail _ (.tail _ (.tail _ (List.mem_append_left _ (List.mem_append_left _ (List.mem_append_left _ (List.mem_append_right _ (ho))))))))))).mono ?_
  rintro e z3 ⟨Ax, nx, cx, rfl, hz, hlin⟩
  have HLX : Hid (LIn (boxO tg (tabC t2 false) :: boxO g12 [.slice A2 n2 c2, .bool false] :: boxO g11 [.slice Aw e7.row.length cw, .int .i64 e7.fam, .slice Bw e7.qual.length dw, .int .i64 e7.ts, .int .i64 e7.seq, .int .i64 e7.kind, .slice Dw e7.val.length qw] :: boxO g6 [.slice A2 n2 c2, .bool false] :: boxO g7 [.slice A7 e7.row.length c7, .int .i64 e7.fam, .slice B7 e7.qual.length d7, .int .i64 e7.ts, .int .i64 e7.seq, .int .i64 e7.kind, .slice D7 e7.val.length q7] :: (((((entO A7 B7 D7 c7 d7 q7 e7 ++ (RR ++ Ds.map dfrO)) ++ entO Aw Bw Dw cw dw qw e7) ++ ns1) ++ ns2) ++ listO8 Aa ma ca ra)) Ax nx (fromE L2 e7)) := Lib.hid hlin
  replace HY : Hid (OW w (boxO tg (tabC t2 false) :: boxO g12 [.slice A2 n2 c2, .bool false] :: boxO g11 [.slice Aw e7.row.length cw, .int .i64 e7.fam, .slice Bw e7.qual.length dw, .int .i64 e7.ts, .int .i64 e7.seq, .int .i64 e7.kind, .slice Dw e7.val.length qw] :: boxO g6 [.slice A2 n2 c2, .bool false] :: boxO g7 [.slice A7 e7.row.length c7, .int .i64 e7.fam, .slice B7 e7.qual.length d7, .int .i64 e7.ts, .int .i64 e7.seq, .int .i64 e7.kind, .slice D7 e7.val.length q7] :: (((((entO A7 B7 D7 c7 d7 q7 e7 ++ (RR ++ Ds.map dfrO)) ++ entO Aw Bw Dw cw dw qw e7) ++ ns1) ++ ns2) ++ listO8 Aa ma ca ra)) z3) := Lib.hid hz
  replace HS : Hid (OW w (boxO tg (tabC t2 false) :: boxO g12 [.slice A2 n2 c2, .bool false] :: boxO g11 [.slice Aw e7.row.length cw, .int .i64 e7.fam, .slice Bw e7.qual.length dw, .int .i64 e7.ts, .int .i64 e7.seq, .int .i64 e7.kind, .slice Dw e7.val.length qw] :: boxO g6 [.slice A2 n2 c2, .bool false] :: boxO g7 [.slice A7 e7.row.length c7, .int .i64 e7.fam, .slice B7 e7.qual.length d7, .int .i64 e7.ts, .int .i64 e7.seq, .int .i64 e7.kind, .slice D7 e7.val.length q7] :: ((((entO A7 B7 D7 c7 d7 q7 e7 ++ (RR ++ Ds.map dfrO)) ++ entO Aw Bw Dw cw dw qw e7) ++ ns1) ++ ns2)) z3) := Lib.hid hz.left
  clear hlin hz
  refine ⟨_, rfl, fun _ => HS.out, ?_⟩
  simp only [Act.put, List.setIfInBounds_toArray, List.set_cons_zero, List.set_cons_succ]
  refine lt_call 6 rfl (by kernel_rfl) rfl rfl ⟨_, Try.func19, by decide, by kernel_rfl⟩ [.slice Aa ma ca, .slice Ax nx cx] rfl ?_
  have hle1 : Ens z3 Aa ma (fromE L2 e7) := HCA.out.lin (os := boxO tg (tabC t2 false) :: boxO g12 [.slice A2 n2 c2, .bool false] :: boxO g11 [.slice Aw e7.row.length cw, .int .i64 e7.fam, .slice Bw e7.qual.length dw, .int .i64 e7.ts, .int .i64 e7.seq, .int .i64 e7.kind, .slice Dw e7.val.length qw] :: boxO g6 [.slice A2 n2 c2, .bool false] :: boxO g7 [.slice A7 e7.row.length c7, .int .i64 e7.fam, .slice B7 e7.qual.length d7, .int .i64 e7.ts, .int .i64 e7.seq, .int .i64 e7.kind, .slice D7 e7.val.length q7] :: (((((entO A7 B7 D7 c7 d7 q7 e7 ++ (RR ++ Ds.map dfrO)) ++ entO Aw Bw Dw cw dw qw e7) ++ ns1) ++ ns2) ++ listO8 Aa ma ca ra)) (c := ca) (fun o ho => .tail _ (.tail _ (.tail _ (.tail _ (.tail _ (List.mem_append_right _ (ho))))))) |>.ens HY.out
  have hle2 : Ens z3 Ax nx (fromE L2 e7) := HLX.out.ens HY.out
  refine (sameList_is hle1 hle2 (by omega)).mono ?_
  rintro e z4 ⟨rfl, hb⟩
  replace HY := Lib.hid (HY.out.later hb)
  replace HS := Lib.hid (HS.out.later hb)
  clear hb hle1 hle2
  refine ⟨_, rfl, fun _ => HS.out, ?_⟩
  simp only [Act.put, List.setIfInBounds_toArray, List.set_cons_zero, List.set_cons_succ]
  refine lt_pure 7 rfl (by kernel_rfl) (by kernel_rfl) (by kernel_rfl) (by kernel_rfl) (fun _ _ _ h => h) (v := ?_) (yi_run rfl (fun w => ?_)) (fun _ => HS.out) ?_
  rotate_left
  · first | (go_simp; done) | (go_simp; with_reducible rfl)
  simp only [Act.put, List.setIfInBounds_toArray, List.set_cons_zero, List.set_cons_succ]
  refine lt_pure 8 rfl (by kernel_rfl) (by kernel_rfl) (by kernel_rfl) (by kernel_rfl) (fun _ _ _ h => h) (v := ?_) (yi_run rfl (fun w => ?_)) (fun _ => HS.out) ?_
  rotate_left
  · first | (go_simp; done) | (go_simp; with_reducible rfl)
  simp only [Act.put, List.setIfInBounds_toArray, List.set_cons_zero, List.set_cons_succ]
  refine lt_pure 9 rfl (by kernel_rfl) (by kernel_rfl) (by kernel_rfl) (by kernel_rfl) (fun _ _ _ h => h) (v := ?_) (yi_run rfl (fun w => ?_)) (fun _ => HS.out) ?_
  rotate_left
  · first | (go_simp; done) | (go_simp; with_reducible rfl)
  simp only [Act.put, List.setIfInBounds_toArray, List.set_cons_zero, List.set_cons_succ]
  refine lt_pure 11 rfl (by kernel_rfl) (by kernel_rfl) (by kernel_rfl) (by kernel_rfl) (fun _ _ _ h => h) (v := ?_) (yi_run rfl (fun w => ?_)) (fun _ => HS.out) ?_
  rotate_left
  · first | (go_simp; done) | (go_simp; with_reducible rfl)
  simp only [Act.put, List.setIfInBounds_toArray, List.set_cons_zero, List.set_cons_succ]
  refine lt_take 12 [13, 14, 15, 16, 17, 18, 19, 20, 21, 22] rfl (by kernel_rfl) (by kernel_rfl) (by kernel_rfl) (by kernel_rfl) (by kernel_rfl) (fun _ _ _ h => h) (yi_cell rfl rfl rfl (fun w hS => OW.cell hS (i := 3) (j := 0) rfl rfl) (fun w => Try.isAgg22 w)) HS.out ?_
  simp only [Act.put, List.setIfInBounds_toArray, List.set_cons_zero, List.set_cons_succ]
  refine lt_call 10 rfl (by kernel_rfl) rfl rfl ⟨_, Try.func11, by decide, by kernel_rfl⟩ [.pointer (some ⟨tg, 0, none⟩)] rfl ?_
  refine (rows_any8 HY.out (.head _) (fun o ho => (List.mem_append.1 ho).elim (fun ho => .tail _ (.tail _ (.tail _ (.tail _ (.tail _ (List.mem_append_left _ (List.mem_append_left _ (List.mem_append_left _ (List.mem_append_left _ (List.mem_append_right _ (List.mem_append_left _ (ho)))))))))))) (fun ho => .tail _ (.tail _ (.tail _ (.tail _ (.tail _ (List.mem_append_left _ (List.mem_append_right _ (ho))))))))) HTB2.out (by have := HLN.out; rw [← HE2.out, Tr.ents_len] at this; omega)).mono ?_
  rintro e z5 ⟨Ab, mb, cb, rb, rfl, hlb, hcol, hz⟩
  have HCB : Hid (Col rb L2) := Lib.hid (by rw [← HE2.out]; exact hcol)
  have HLB : Hid (L2.length = mb) := Lib.hid (by rw [← HE2.out]; exact hlb)
  replace HY : Hid (OW w (boxO tg (tabC t2 false) :: boxO g12 [.slice A2 n2 c2, .bool false] :: boxO g11 [.slice Aw e7.row.length cw, .int .i64 e7.fam, .slice Bw e7.qual.length dw, .int .i64 e7.ts, .int .i64 e7.seq, .int .i64 e7.kind, .slice Dw e7.val.length qw] :: boxO g6 [.slice A2 n2 c2, .bool false] :: boxO g7 [.slice A7 e7.row.length c7, .int .i64 e7.fam, .slice B7 e7.qual.length d7, .int .i64 e7.ts, .int .i64 e7.seq, .int .i64 e7.kind, .slice D7 e7.val.length q7] :: ((((((entO A7 B7 D7 c7 d7 q7 e7 ++ (RR ++ Ds.map dfrO)) ++ entO Aw Bw Dw cw dw qw e7) ++ ns1) ++ ns2) ++ listO8 Aa ma ca ra) ++ listO8 Ab mb cb rb)) z5) := Lib.hid hz
  replace HS : Hid (OW w (boxO tg (tabC t2 false) :: boxO g12 [.slice A2 n2 c2, .bool false] :: boxO g11 [.slice Aw e7.row.length cw, .int .i64 e7.fam, .slice Bw e7.qual.length dw, .int .i64 e7.ts, .int .i64 e7.seq, .int .i64 e7.kind, .slice Dw e7.val.length qw] :: boxO g6 [.slice A2 n2 c2, .bool false] :: boxO g7 [.slice A7 e7.row.length c7, .int .i64 e7.fam, .slice B7 e7.qual.length d7, .int .i64 e7.ts, .int .i64 e7.seq, .int .i64 e7.kind, .slice D7 e7.val.length q7] :: ((((entO A7 B7 D7 c7 d7 q7 e7 ++ (RR ++ Ds.map dfrO)) ++ entO Aw Bw Dw cw dw qw e7) ++ ns1) ++ ns2)) z5) := Lib.hid hz.left.left
  clear hlb hcol hz
  refine ⟨_, rfl, fun _ => HS.out, ?_⟩
  simp only [Act.put, List.setIfInBounds_toArray, List.set_cons_zero, List.set_cons_succ]
  refine lt_call 13 rfl (by kernel_rfl) rfl rfl ⟨_, Try.func19, by decide, by kernel_rfl⟩ [.slice Ab mb cb, .slice A2 n2 c2] rfl ?_
  have hle1 : Ens z5 Ab mb L2 := HCB.out.lin (os := boxO tg (tabC t2 false) :: boxO g12 [.slice A2 n2 c2, .bool false] :: boxO g11 [.slice Aw e7.row.length cw, .int .i64 e7.fam, .slice Bw e7.qual.length dw, .int .i64 e7.ts, .int .i64 e7.seq, .int .i64 e7.kind, .slice Dw e7.val.length qw] :: boxO g6 [.slice A2 n2 c2, .bool false] :: boxO g7 [.slice A7 e7.row.length c7, .int .i64 e7.fam, .slice B7 e7.qual.length d7, .int .i64 e7.ts, .int .i64 e7.seq, .int .i64 e7.kind, .slice D7 e7.val.length q7] :: ((((((entO A7 B7 D7 c7 d7 q7 e7 ++ (RR ++ Ds.map dfrO)) ++ entO Aw Bw Dw cw dw qw e7) ++ ns1) ++ ns2) ++ listO8 Aa ma ca ra) ++ listO8 Ab mb cb rb)) (c := cb) (fun o ho => .tail _ (.tail _ (.tail _ (.tail _ (.tail _ (List.mem_append_right _ (ho))))))) |>.ens HY.out
  have hle2 : Ens z5 A2 n2 L2 := (RT.more HRT2.out fun o ho => (List.mem_append.1 ho).elim (fun ho => .tail _ (.tail _ (.tail _ (.tail _ (.tail _ (List.mem_append_left _ (List.mem_append_left _ (List.mem_append_left _ (List.mem_append_left _ (List.mem_append_left _ (List.mem_append_right _ (List.mem_append_left _ (ho))))))))))))) (fun ho => .tail _ (.tail _ (.tail _ (.tail _ (.tail _ (List.mem_append_left _ (List.mem_append_left _ (List.mem_append_left _ (List.mem_append_right _ (ho))))))))))).lin.ens HY.out
  refine (sameList_is hle1 hle2 (by have := HLB.out; have := HLN.out; omega)).mono ?_
  rintro e z6 ⟨rfl, hb⟩
  replace HY := Lib.hid (HY.out.later hb)
  replace HS := Lib.hid (HS.out.later hb)
  clear hb hle1 hle2
  refine ⟨_, rfl, fun _ => HS.out, ?_⟩
  simp only [Act.put, List.setIfInBounds_toArray, List.set_cons_zero, List.set_cons_succ]
  refine lt_pure 14 rfl (by kernel_rfl) (by kernel_rfl) (by kernel_rfl) (by kernel_rfl) (fun _ _ _ h => h) (v := ?_) (yi_run rfl (fun w => ?_)) (fun _ => HS.out) ?_
  rotate_left
  · first | (go_simp; done) | (go_simp; with_reducible rfl)
  simp only [Act.put, List.setIfInBounds_toArray, List.set_cons_zero, List.set_cons_succ]
  refine lt_pure 15 rfl (by kernel_rfl) (by kernel_rfl) (by kernel_rfl) (by kernel_rfl) (fun _ _ _ h => h) (v := ?_) (yi_run rfl (fun w => ?_)) (fun _ => HS.out) ?_
  rotate_left
  · first | (go_simp; done) | (go_simp; with_reducible rfl)
  simp only [Act.put, List.setIfInBounds_toArray, List.set_cons_zero, List.set_cons_succ]
  refine lt_pure 16 rfl (by kernel_rfl) (by kernel_rfl) (by kernel_rfl) (by kernel_rfl) (fun _ _ _ h => h) (v := ?_) (yi_run rfl (fun w => ?_)) (fun _ => HS.out) ?_
  rotate_left
  · first | (go_simp; done) | (go_simp; with_reducible rfl)
  simp only [Act.put, List.setIfInBounds_toArray, List.set_cons_zero, List.set_cons_succ]
  refine lt_pure 17 rfl (by kernel_rfl) (by kernel_rfl) (by kernel_rfl) (by kernel_rfl) (fun _ _ _ h => h) (v := ?_) (yi_run rfl (fun w => ?_)) (fun _ => HS.out) ?_
  rotate_left
  · first | (go_simp; done) | (go_simp; with_reducible rfl)
  simp only [Act.put, List.setIfInBounds_toArray, List.set_cons_zero, List.set_cons_succ]
  refine lt_take 19 [20, 21, 22] rfl (by kernel_rfl) (by kernel_rfl) (by kernel_rfl) (by kernel_rfl) (by kernel_rfl) (fun _ _ _ h => h) (yi_row rfl rfl rfl (fun w hS => OW.range hS (i := 3) rfl) tabR_row) HS.out ?_
  simp only [Act.put, List.setIfInBounds_toArray, List.set_cons_zero, List.set_cons_succ]
  refine lt_call 18 rfl (by kernel_rfl) rfl rfl ⟨_, Try.func25, by decide, by kernel_rfl⟩ [.pointer (some ⟨tg, 0, none⟩)] rfl ?_
  refine (tbytes_is5 HS.out (.head _) HSP.out).mono ?_
  rintro e z7 ⟨rfl, hz⟩
  rw [hz]
  clear hz
  refine ⟨_, rfl, fun _ => HS.out, ?_⟩
  simp only [Act.put, List.setIfInBounds_toArray, List.set_cons_zero, List.set_cons_succ]
  refine lt_call 20 rfl (by kernel_rfl) rfl rfl ⟨_, Try.func30, by decide, by kernel_rfl⟩ [.agg #[.slice A2 n2 c2, .bool false]] rfl ?_
  refine (rbytes8_any HY.out (HRT2.out.more fun o ho => (List.mem_append.1 ho).elim (fun ho => .tail _ (.tail _ (.tail _ (.tail _ (.tail _ (List.mem_append_left _ (List.mem_append_left _ (List.mem_append_left _ (List.mem_append_left _ (List.mem_append_left _ (List.mem_append_right _ (List.mem_append_left _ (ho))))))))))))) (fun ho => .tail _ (.tail _ (.tail _ (.tail _ (.tail _ (List.mem_append_left _ (List.mem_append_left _ (List.mem_append_left _ (List.mem_append_right _ (ho))))))))))) (by omega) (fun e he => HTB2.out.chk e (by rw [HE2.out]; exact he)) HSR.out).mono ?_
  rintro e z8 ⟨rfl, hz⟩
  replace HY : Hid (OW w (boxO tg (tabC t2 false) :: boxO g12 [.slice A2 n2 c2, .bool false] :: boxO g11 [.slice Aw e7.row.length cw, .int .i64 e7.fam, .slice Bw e7.qual.length dw, .int .i64 e7.ts, .int .i64 e7.seq, .int .i64 e7.kind, .slice Dw e7.val.length qw] :: boxO g6 [.slice A2 n2 c2, .bool false] :: boxO g7 [.slice A7 e7.row.length c7, .int .i64 e7.fam, .slice B7 e7.qual.length d7, .int .i64 e7.ts, .int .i64 e7.seq, .int .i64 e7.kind, .slice D7 e7.val.length q7] :: ((((((entO A7 B7 D7 c7 d7 q7 e7 ++ (RR ++ Ds.map dfrO)) ++ entO Aw Bw Dw cw dw qw e7) ++ ns1) ++ ns2) ++ listO8 Aa ma ca ra) ++ listO8 Ab mb cb rb)) z8) := Lib.hid hz
  replace HS : Hid (OW w (boxO tg (tabC t2 false) :: boxO g12 [.slice A2 n2 c2, .bool false] :: boxO g11 [.slice Aw e7.row.length cw, .int .i64 e7.fam, .slice Bw e7.qual.length dw, .int .i64 e7.ts, .int .i64 e7.seq, .int .i64 e7.kind, .slice Dw e7.val.length qw] :: boxO g6 [.slice A2 n2 c2, .bool false] :: boxO g7 [.slice A7 e7.row.length c7, .int .i64 e7.fam, .slice B7 e7.qual.length d7, .int .i64 e7.ts, .int .i64 e7.seq, .int .i64 e7.kind, .slice D7 e7.val.length q7] :: ((((entO A7 B7 D7 c7 d7 q7 e7 ++ (RR ++ Ds.map dfrO)) ++ entO Aw Bw Dw cw dw qw e7) ++ ns1) ++ ns2)) z8) := Lib.hid hz.left.left
  clear hz
  refine ⟨_, rfl, fun _ => HS.out, ?_⟩
  simp only [Act.put, List.setIfInBounds_toArray, List.set_cons_zero, List.set_cons_succ]
  refine lt_pure 21 rfl (by kernel_rfl) (by kernel_rfl) (by kernel_rfl) (by kernel_rfl) (fun _ _ _ h => h) (v := ?_) (yi_run rfl (fun w => ?_)) (fun _ => HS.out) ?_
  rotate_left
  · first | (go_simp; done) | (go_simp; with_reducible rfl)
  simp only [Act.put, List.setIfInBounds_toArray, List.set_cons_zero, List.set_cons_succ]
  refine lt_pure 22 rfl (by kernel_rfl) (by kernel_rfl) (by kernel_rfl) (by kernel_rfl) (fun _ _ _ h => h) (v := ?_) (yi_run rfl (fun w => ?_)) (fun _ => HS.out) ?_
  rotate_left
  · first | (go_simp; done) | (go_simp; with_reducible rfl)
  simp only [Act.put, List.setIfInBounds_toArray, List.set_cons_zero, List.set_cons_succ]
  refine lt_done (by kernel_rfl) ?_
  have HZ2 := HY
  clear HS HY HA9
  go_wp2_with (refine wl_alloc rfl rfl [.slice none 0 0] (.inr ⟨.slice none 0 0, by kernel_rfl, rfl⟩) HZ2.out ?_; intro gl x20 hz _; have HY : Hid (OW w (boxO gl [.slice none 0 0] :: rowO 30 7 (.slice none 0 0) 0 [] :: ([] ++ (boxO tg (tabC t2 false) :: boxO g12 [.slice A2 n2 c2, .bool false] :: boxO g11 [.slice Aw e7.row.length cw, .int .i64 e7.fam, .slice Bw e7.qual.length dw, .int .i64 e7.ts, .int .i64 e7.seq, .int .i64 e7.kind, .slice Dw e7.val.length qw] :: boxO g6 [.slice A2 n2 c2, .bool false] :: boxO g7 [.slice A7 e7.row.length c7, .int .i64 e7.fam, .slice B7 e7.qual.length d7, .int .i64 e7.ts, .int .i64 e7.seq, .int .i64 e7.kind, .slice D7 e7.val.length q7] :: ((((((entO A7 B7 D7 c7 d7 q7 e7 ++ (RR ++ Ds.map dfrO)) ++ entO Aw Bw Dw cw dw qw e7) ++ ns1) ++ ns2) ++ listO8 Aa ma ca ra) ++ listO8 Ab mb cb rb)))) x20) := Lib.hid ((hz.nilRow 30 7).perm (ag_perm _ _ _)); clear hz HZ2)
  have HIT : Hid (ItT t2 (AoF b5 s0) (boxO tg (tabC t2 false) :: boxO g12 [.slice A2 n2 c2, .bool false] :: boxO g11 [.slice Aw e7.row.length cw, .int .i64 e7.fam, .slice Bw e7.qual.length dw, .int .i64 e7.ts, .int .i64 e7.seq, .int .i64 e7.kind, .slice Dw e7.val.length qw] :: boxO g6 [.slice A2 n2 c2, .bool false] :: boxO g7 [.slice A7 e7.row.length c7, .int .i64 e7.fam, .slice B7 e7.qual.length d7, .int .i64 e7.ts, .int .i64 e7.seq, .int .i64 e7.kind, .slice D7 e7.val.length q7] :: ((((((entO A7 B7 D7 c7 d7 q7 e7 ++ (RR ++ Ds.map dfrO)) ++ entO Aw Bw Dw cw dw qw e7) ++ ns1) ++ ns2) ++ listO8 Aa ma ca ra) ++ listO8 Ab mb cb rb))) := Lib.hid ⟨HTB2.out.m.more (fun o ho => (List.mem_append.1 ho).elim (fun ho => .tail _ (.tail _ (.tail _ (.tail _ (.tail _ (List.mem_append_left _ (List.mem_append_left _ (List.mem_append_left _ (List.mem_append_left _ (List.mem_append_left _ (List.mem_append_right _ (List.mem_append_left _ (ho))))))))))))) (fun ho => .tail _ (.tail _ (.tail _ (.tail _ (.tail _ (List.mem_append_left _ (List.mem_append_left _ (List.mem_append_right _ (ho)))))))))), fun r hr => (HTB2.out.en r hr).more (fun o ho => (List.mem_append.1 ho).elim (fun ho => .tail _ (.tail _ (.tail _ (.tail _ (.tail _ (List.mem_append_left _ (List.mem_append_left _ (List.mem_append_left _ (List.mem_append_left _ (List.mem_append_left _ (List.mem_append_right _ (List.mem_append_left _ (ho))))))))))))) (fun ho => .tail _ (.tail _ (.tail _ (.tail _ (.tail _ (List.mem_append_left _ (List.mem_append_left _ (List.mem_append_right _ (ho)))))))))), HER.out.f.1 |> (fun h => .tail _ (.tail _ (.tail _ (.tail _ (.tail _ (List.mem_append_left _ (List.mem_append_left _ (List.mem_append_left _ (List.mem_append_left _ (List.mem_append_left _ (List.mem_append_right _ (List.mem_append_left _ (h))))))))))))), HER.out.f.2.more (fun o ho => .tail _ (.tail _ (.tail _ (.tail _ (.tail _ (List.mem_append_left _ (List.mem_append_left _ (List.mem_append_left _ (List.mem_append_left _ (List.mem_append_left _ (List.mem_append_right _ (List.mem_append_left _ (ho)))))))))))))⟩
  have HSTT : Hid (StT tg b24 b83 (.func (.func 55) #[] #[.pointer (some ⟨b5, 0, none⟩)]) t2 false (boxO tg (tabC t2 false) :: boxO g12 [.slice A2 n2 c2, .bool false] :: boxO g11 [.slice Aw e7.row.length cw, .int .i64 e7.fam, .slice Bw e7.qual.length dw, .int .i64 e7.ts, .int .i64 e7.seq, .int .i64 e7.kind, .slice Dw e7.val.length qw] :: boxO g6 [.slice A2 n2 c2, .bool false] :: boxO g7 [.slice A7 e7.row.length c7, .int .i64 e7.fam, .slice B7 e7.qual.length d7, .int .i64 e7.ts, .int .i64 e7.seq, .int .i64 e7.kind, .slice D7 e7.val.length q7] :: ((((((entO A7 B7 D7 c7 d7 q7 e7 ++ (RR ++ Ds.map dfrO)) ++ entO Aw Bw Dw cw dw qw e7) ++ ns1) ++ ns2) ++ listO8 Aa ma ca ra) ++ listO8 Ab mb cb rb))) := Lib.hid ⟨(fun h => .tail _ (.tail _ (.tail _ (.tail _ (.tail _ (List.mem_append_left _ (List.mem_append_left _ (List.mem_append_left _ (List.mem_append_left _ (List.mem_append_left _ (List.mem_append_right _ (List.mem_append_left _ (h))))))))))))) HER.out.p, (fun h => .tail _ (.tail _ (.tail _ (.tail _ (.tail _ (List.mem_append_left _ (List.mem_append_left _ (List.mem_append_left _ (List.mem_append_left _ (List.mem_append_left _ (List.mem_append_right _ (List.mem_append_left _ (h))))))))))))) HER.out.a, .head _⟩
  obtain ⟨LF, hLF⟩ : ∃ z, z = fromL t2.ents s0.e := ⟨_, rfl⟩
  have HLF2 : Hid (LF = fromE L2 ef) := Lib.hid (by rw [hLF, from_same HTB2.out.asc, HE2.out, HS0.out])
  have HLFI := Lib.hid (fromIter tg b24 b83 b5 s0 t2 false HTB2.out.asc)
  obtain ⟨nf, hnf⟩ : ∃ z, z = LF.length := ⟨_, rfl⟩
  have HNF := Lib.hid hnf.symm
  have hnf2 : nf ≤ i + 1 := by have h := HLF2.out; have h2 := HLN.out; rw [hnf, h]; unfold fromE; rw [List.length_drop]; omega
  have hIter : IterQ Try.prog 67 #[.pointer (some ⟨b24, 0, none⟩), .pointer (some ⟨b83, 0, none⟩)] LF (StT tg b24 b83 (.func (.func 55) #[] #[.pointer (some ⟨b5, 0, none⟩)]) t2 false) (ItT t2 (AoF b5 s0)) HandM := by rw [hLF]; exact HLFI.out
  clear hLF hnf HLFI
  refine wp_rangeQ (w := w) (L := LF) (Hand := HandM) rfl (enters_of Try.func67 (by kernel_rfl) rfl) hIter (fun _ _ _ _ h => h.ok)
    (fun pre os' => ∃ A9 c9 rs9, Col rs9 pre ∧ os' = boxO gl [.slice A9 pre.length c9] :: rowO 30 7 (.slice A9 pre.length c9) pre.length (rs9.flatMap ER.cells) :: (rs9.flatMap clipE ++ (boxO tg (tabC t2 false) :: boxO g12 [.slice A2 n2 c2, .bool false] :: boxO g11 [.slice Aw e7.row.length cw, .int .i64 e7.fam, .slice Bw e7.qual.length dw, .int .i64 e7.ts, .int .i64 e7.seq, .int .i64 e7.kind, .slice Dw e7.val.length qw] :: boxO g6 [.slice A2 n2 c2, .bool false] :: boxO g7 [.slice A7 e7.row.length c7, .int .i64 e7.fam, .slice B7 e7.qual.length d7, .int .i64 e7.ts, .int .i64 e7.seq, .int .i64 e7.kind, .slice D7 e7.val.length q7] :: ((((((entO A7 B7 D7 c7 d7 q7 e7 ++ (RR ++ Ds.map dfrO)) ++ entO Aw Bw Dw cw dw qw e7) ++ ns1) ++ ns2) ++ listO8 Aa ma ca ra) ++ listO8 Ab mb cb rb)))) (fun _ _ _ => False) ?itr (os0 := boxO gl [.slice none 0 0] :: rowO 30 7 (.slice none 0 0) 0 [] :: ([] ++ (boxO tg (tabC t2 false) :: boxO g12 [.slice A2 n2 c2, .bool false] :: boxO g11 [.slice Aw e7.row.length cw, .int .i64 e7.fam, .slice Bw e7.qual.length dw, .int .i64 e7.ts, .int .i64 e7.seq, .int .i64 e7.kind, .slice Dw e7.val.length qw] :: boxO g6 [.slice A2 n2 c2, .bool false] :: boxO g7 [.slice A7 e7.row.length c7, .int .i64 e7.fam, .slice B7 e7.qual.length d7, .int .i64 e7.ts, .int .i64 e7.seq, .int .i64 e7.kind, .slice D7 e7.val.length q7] :: ((((((entO A7 B7 D7 c7 d7 q7 e7 ++ (RR ++ Ds.map dfrO)) ++ entO Aw Bw Dw cw dw qw e7) ++ ns1) ++ ns2) ++ listO8 Aa ma ca ra) ++ listO8 Ab mb cb rb)))) ⟨none, 0, [], Col.nil, rfl⟩ (HSTT.out.more fun o ho => .tail _ (.tail _ ho)) (HIT.out.more2 fun o ho => .tail _ (.tail _ ho)) HY.out ?round ?done ?stop
  case itr =>
    rintro pre os' es ⟨A9, c9, rs9, hc, rfl⟩
    exact HIT.out.more2 fun o ho => List.mem_append_left _ (.tail _ (.tail _ (List.mem_append_right _ ho)))
  case stop => exact fun D c' pre os' z _ h => h.elim
  case round =>
    rintro l p1 p2 pre e vs W0 W1 os' _ hpre ⟨A9, c9, rs9, hcol, rfl⟩ h0 ⟨s, rfl, rfl, hec, hh⟩
    have hlt := (pre_at8 hpre)
    obtain ⟨m, hm⟩ : ∃ z, z = pre.length := ⟨_, rfl⟩
    have hm9 : m ≤ 90000 := by have h1 := (List.getElem?_eq_some_iff.1 hlt).1; have h2 := HNF.out; omega
    rw [← hm] at h0
    have HM := Lib.hid hm
    have HCOL := Lib.hid hcol
    have HEC := Lib.hid hec
    have HV : Hid (OW w ((clipO s.A s.e.row :: clipO s.B s.e.qual :: clipO s.D s.e.val :: boxO gl [.slice A9 m c9] :: rowO 30 7 (.slice A9 m c9) m (rs9.flatMap ER.cells) :: (rs9.flatMap clipE ++ (boxO tg (tabC t2 false) :: boxO g12 [.slice A2 n2 c2, .bool false] :: boxO g11 [.slice Aw e7.row.length cw, .int .i64 e7.fam, .slice Bw e7.qual.length dw, .int .i64 e7.ts, .int .i64 e7.seq, .int .i64 e7.kind, .slice Dw e7.val.length qw] :: boxO g6 [.slice A2 n2 c2, .bool false] :: boxO g7 [.slice A7 e7.row.length c7, .int .i64 e7.fam, .slice B7 e7.qual.length d7, .int .i64 e7.ts, .int .i64 e7.seq, .int .i64 e7.kind, .slice D7 e7.val.length q7] :: ((((((entO A7 B7 D7 c7 d7 q7 e7 ++ (RR ++ Ds.map dfrO)) ++ entO Aw Bw Dw cw dw qw e7) ++ ns1) ++ ns2) ++ listO8 Aa ma ca ra) ++ listO8 Ab mb cb rb)))) ++ p1) W1) := Lib.hid ((h0.app hh).perm (perm4R _ _ _))
    clear hlt hpre h0 hh hcol hec hm HY
    have hsem : ∀ (ρ : Operand → Value) (o : Oper), (∀ c, o.op ≠ .defer c) → Oper.semAt (some l) ρ o = execOp ρ o := fun ρ o h => Oper.semAt_some l ρ o h
    unfold RoundOK
    rw [setP1]
    simp only [List.setIfInBounds_toArray, List.set_cons_zero, List.set_cons_succ]
    gi_wp2_with (first
      | (refine wlIn_one rfl ?_; refine wl_alloc rfl rfl [.slice none 0 0, .int .i64 0, .slice none 0 0, .int .i64 0, .int .i64 0, .int .i64 0, .slice none 0 0] (.inl (by kernel_rfl)) HV.out ?_; intro gy z1 hz _; have HV1 := Lib.hid (hz.perm (perm4R _ _ _)); clear hz HV; refine wlIn_back ?_)
      | (refine wlIn_one rfl ?_; refine wl_put rfl (.tmp 15) (.tmp 85) rfl HV1.out 0 rfl rfl [.slice s.A s.e.row.length s.c, .int .i64 s.e.fam, .slice s.B s.e.qual.length s.d, .int .i64 s.e.ts, .int .i64 s.e.seq, .int .i64 s.e.kind, .slice s.D s.e.val.length s.q] rfl rfl (by kernel_rfl) (by simp [Value.oneCell']) ?_; intro z2 hz _; have HV2 : Hid (OW w ((boxO gy [.slice s.A s.e.row.length s.c, .int .i64 s.e.fam, .slice s.B s.e.qual.length s.d, .int .i64 s.e.ts, .int .i64 s.e.seq, .int .i64 s.e.kind, .slice s.D s.e.val.length s.q] :: clipO s.A s.e.row :: clipO s.B s.e.qual :: clipO s.D s.e.val :: boxO gl [.slice A9 m c9] :: rowO 30 7 (.slice A9 m c9) m (rs9.flatMap ER.cells) :: (rs9.flatMap clipE ++ (boxO tg (tabC t2 false) :: boxO g12 [.slice A2 n2 c2, .bool false] :: boxO g11 [.slice Aw e7.row.length cw, .int .i64 e7.fam, .slice Bw e7.qual.length dw, .int .i64 e7.ts, .int .i64 e7.seq, .int .i64 e7.kind, .slice Dw e7.val.length qw] :: boxO g6 [.slice A2 n2 c2, .bool false] :: boxO g7 [.slice A7 e7.row.length c7, .int .i64 e7.fam, .slice B7 e7.qual.length d7, .int .i64 e7.ts, .int .i64 e7.seq, .int .i64 e7.kind, .slice D7 e7.val.length q7] :: ((((((entO A7 B7 D7 c7 d7 q7 e7 ++ (RR ++ Ds.map dfrO)) ++ entO Aw Bw Dw cw dw qw e7) ++ ns1) ++ ns2) ++ listO8 Aa ma ca ra) ++ listO8 Ab mb cb rb)))) ++ p1) z2) := Lib.hid hz; clear hz HV1; refine wlIn_back ?_))
    refine ⟨_, HV2.out, fun z3 hz3 => ?_⟩
    have HW3 : Hid (OW w ((boxO gy [.slice s.A s.e.row.length s.c, .int .i64 s.e.fam, .slice s.B s.e.qual.length s.d, .int .i64 s.e.ts, .int .i64 s.e.seq, .int .i64 s.e.kind, .slice s.D s.e.val.length s.q] :: clipO s.A s.e.row :: clipO s.B s.e.qual :: clipO s.D s.e.val :: boxO gl [.slice A9 m c9] :: rowO 30 7 (.slice A9 m c9) m (rs9.flatMap ER.cells) :: (rs9.flatMap clipE ++ (boxO tg (tabC t2 false) :: boxO g12 [.slice A2 n2 c2, .bool false] :: boxO g11 [.slice Aw e7.row.length cw, .int .i64 e7.fam, .slice Bw e7.qual.length dw, .int .i64 e7.ts, .int .i64 e7.seq, .int .i64 e7.kind, .slice Dw e7.val.length qw] :: boxO g6 [.slice A2 n2 c2, .bool false] :: boxO g7 [.slice A7 e7.row.length c7, .int .i64 e7.fam, .slice B7 e7.qual.length d7, .int .i64 e7.ts, .int .i64 e7.seq, .int .i64 e7.kind, .slice D7 e7.val.length q7] :: ((((((entO A7 B7 D7 c7 d7 q7 e7 ++ (RR ++ Ds.map dfrO)) ++ entO Aw Bw Dw cw dw qw e7) ++ ns1) ++ ns2) ++ listO8 Aa ma ca ra) ++ listO8 Ab mb cb rb)))) ++ p2) z3) := Lib.hid hz3
    clear hz3 HV2
    gi_wp2_with (first
      | (refine wlIn_one rfl ?_; refine wpList_load_cell rfl 22 (.tmp 14) rfl rfl (HW3.out.cell (i := 4) (j := 0) rfl rfl) (fun w => Try.isAgg22 w) ?_; refine wlIn_back ?_)
      | (refine wlIn_one rfl ?_; refine wpList_load_row7 rfl 30 (.tmp 15) rfl rfl (HW3.out.range (i := 0) rfl) ent_row8 ?_; refine wlIn_back ?_)
      | (refine wlIn_one rfl ?_; refine wl_build rfl #[(0, .tmp 87)] rfl #[.slice s.A s.e.row.length s.c, .int .i64 s.e.fam, .slice s.B s.e.qual.length s.d, .int .i64 s.e.ts, .int .i64 s.e.seq, .int .i64 s.e.kind, .slice s.D s.e.val.length s.q] entsS8 (.agg #[.slice none 0 0, .int .i64 0, .slice none 0 0, .int .i64 0, .int .i64 0, .int .i64 0, .slice none 0 0]) (by kernel_rfl) (by decide) (by decide) (by decide) rfl (by kernel_rfl) HW3.out ?_; intro g9 z4 hz _; have HW4 := Lib.hid (hz.perm (perm4R _ _ _)); clear hz HW3; refine wlIn_back ?_)
      | (refine wlIn_one rfl ?_; at_builtin; go_must (refine wl_append rfl (.tmp 86) (.tmp 88) rfl entsS8 HW4.out 6 rfl rfl _ (some ⟨g9, 0, none⟩) 1 1 [.slice s.A s.e.row.length s.c, .int .i64 s.e.fam, .slice s.B s.e.qual.length s.d, .int .i64 s.e.ts, .int .i64 s.e.seq, .int .i64 s.e.kind, .slice s.D s.e.val.length s.q] rfl (Reads.own (HW4.out.row (i := 0) rfl)) (by simp [Value.oneCell']) (by unfold maxLen; omega) (by omega) ?_); intro A10 c10 z5 hz _; have HW5 : Hid (OW w ((rowO 30 7 (.slice (some ⟨g9, 0, none⟩) 1 1) 1 [.slice s.A s.e.row.length s.c, .int .i64 s.e.fam, .slice s.B s.e.qual.length s.d, .int .i64 s.e.ts, .int .i64 s.e.seq, .int .i64 s.e.kind, .slice s.D s.e.val.length s.q] :: boxO gy [.slice s.A s.e.row.length s.c, .int .i64 s.e.fam, .slice s.B s.e.qual.length s.d, .int .i64 s.e.ts, .int .i64 s.e.seq, .int .i64 s.e.kind, .slice s.D s.e.val.length s.q] :: clipO s.A s.e.row :: clipO s.B s.e.qual :: clipO s.D s.e.val :: boxO gl [.slice A9 m c9] :: rowO 30 7 (.slice A10 (m + 1) c10) (m + 1) (rs9.flatMap ER.cells ++ [.slice s.A s.e.row.length s.c, .int .i64 s.e.fam, .slice s.B s.e.qual.length s.d, .int .i64 s.e.ts, .int .i64 s.e.seq, .int .i64 s.e.kind, .slice s.D s.e.val.length s.q]) :: (rs9.flatMap clipE ++ (boxO tg (tabC t2 false) :: boxO g12 [.slice A2 n2 c2, .bool false] :: boxO g11 [.slice Aw e7.row.length cw, .int .i64 e7.fam, .slice Bw e7.qual.length dw, .int .i64 e7.ts, .int .i64 e7.seq, .int .i64 e7.kind, .slice Dw e7.val.length qw] :: boxO g6 [.slice A2 n2 c2, .bool false] :: boxO g7 [.slice A7 e7.row.length c7, .int .i64 e7.fam, .slice B7 e7.qual.length d7, .int .i64 e7.ts, .int .i64 e7.seq, .int .i64 e7.kind, .slice D7 e7.val.length q7] :: ((((((entO A7 B7 D7 c7 d7 q7 e7 ++ (RR ++ Ds.map dfrO)) ++ entO Aw Bw Dw cw dw qw e7) ++ ns1) ++ ns2) ++ listO8 Aa ma ca ra) ++ listO8 Ab mb cb rb)))) ++ p2) z5) := Lib.hid hz; clear hz HW4; refine wlIn_back ?_)
      | (refine wlIn_one rfl ?_; refine wl_put1 rfl (.tmp 14) (.tmp 89) rfl HW5.out 5 rfl 0 rfl (by simp) (.slice A10 (m + 1) c10) rfl (by kernel_rfl) rfl ?_; intro z6 hz _; have HZ9 : Hid (OW w ((rowO 30 7 (.slice (some ⟨g9, 0, none⟩) 1 1) 1 [.slice s.A s.e.row.length s.c, .int .i64 s.e.fam, .slice s.B s.e.qual.length s.d, .int .i64 s.e.ts, .int .i64 s.e.seq, .int .i64 s.e.kind, .slice s.D s.e.val.length s.q] :: boxO gy [.slice s.A s.e.row.length s.c, .int .i64 s.e.fam, .slice s.B s.e.qual.length s.d, .int .i64 s.e.ts, .int .i64 s.e.seq, .int .i64 s.e.kind, .slice s.D s.e.val.length s.q] :: clipO s.A s.e.row :: clipO s.B s.e.qual :: clipO s.D s.e.val :: boxO gl [.slice A10 (m + 1) c10] :: rowO 30 7 (.slice A10 (m + 1) c10) (m + 1) (rs9.flatMap ER.cells ++ [.slice s.A s.e.row.length s.c, .int .i64 s.e.fam, .slice s.B s.e.qual.length s.d, .int .i64 s.e.ts, .int .i64 s.e.seq, .int .i64 s.e.kind, .slice s.D s.e.val.length s.q]) :: (rs9.flatMap clipE ++ (boxO tg (tabC t2 false) :: boxO g12 [.slice A2 n2 c2, .bool false] :: boxO g11 [.slice Aw e7.row.length cw, .int .i64 e7.fam, .slice Bw e7.qual.length dw, .int .i64 e7.ts, .int .i64 e7.seq, .int .i64 e7.kind, .slice Dw e7.val.length qw] :: boxO g6 [.slice A2 n2 c2, .bool false] :: boxO g7 [.slice A7 e7.row.length c7, .int .i64 e7.fam, .slice B7 e7.qual.length d7, .int .i64 e7.ts, .int .i64 e7.seq, .int .i64 e7.kind, .slice D7 e7.val.length q7] :: ((((((entO A7 B7 D7 c7 d7 q7 e7 ++ (RR ++ Ds.map dfrO)) ++ entO Aw Bw Dw cw dw qw e7) ++ ns1) ++ ns2) ++ listO8 Aa ma ca ra) ++ listO8 Ab mb cb rb)))) ++ p2) z6) := Lib.hid hz; clear hz HW5; refine wlIn_back ?_))
    refine ⟨_, ⟨A10, c10, rs9 ++ [s], HCOL.out.snoc HEC.out, rfl⟩, ?_⟩
    rw [List.length_append, ← HM.out, cells_snoc, clipE_snoc]
    refine ((HZ9.out.erase 0).erase 0).perm (List.Perm.append_right _ ?_)
    exact col_perm
  case done =>
    rintro D os' z ⟨A9, c9, rs9, hcol, rfl⟩ h
    rw [HNF.out] at h
    have HC9 : Hid (Col rs9 (fromE L2 ef)) := Lib.hid (by rw [← HLF2.out]; exact hcol)
    have HZ3 : Hid (OW w (boxO tg (tabC t2 false) :: boxO gl [.slice A9 nf c9] :: rowO 30 7 (.slice A9 nf c9) nf (rs9.flatMap ER.cells) :: boxO g12 [.slice A2 n2 c2, .bool false] :: boxO g11 [.slice Aw e7.row.length cw, .int .i64 e7.fam, .slice Bw e7.qual.length dw, .int .i64 e7.ts, .int .i64 e7.seq, .int .i64 e7.kind, .slice Dw e7.val.length qw] :: boxO g6 [.slice A2 n2 c2, .bool false] :: boxO g7 [.slice A7 e7.row.length c7, .int .i64 e7.fam, .slice B7 e7.qual.length d7, .int .i64 e7.ts, .int .i64 e7.seq, .int .i64 e7.kind, .slice D7 e7.val.length q7] :: (((((((entO A7 B7 D7 c7 d7 q7 e7 ++ (RR ++ Ds.map dfrO)) ++ entO Aw Bw Dw cw dw qw e7) ++ ns1) ++ ns2) ++ listO8 Aa ma ca ra) ++ listO8 Ab mb cb rb) ++ (rs9.flatMap clipE ++ [dfrO D]))) z) := Lib.hid (h.perm (by (refine perm_of_cnt fun a => ?_; (simp only [cntO_app, cntO_cons, cntO_nil]) <;> omega)))
    clear h hcol HY hIter
    go_wp2_with fail
    refine lt_start [] (by kernel_rfl) ?_
    intro xd hd
    refine ⟨fun z => OW w (boxO tg (tabC t2 false) :: boxO gl [.slice A9 nf c9] :: rowO 30 7 (.slice A9 nf c9) nf (rs9.flatMap ER.cells) :: boxO g12 [.slice A2 n2 c2, .bool false] :: boxO g11 [.slice Aw e7.row.length cw, .int .i64 e7.fam, .slice Bw e7.qual.length dw, .int .i64 e7.ts, .int .i64 e7.seq, .int .i64 e7.kind, .slice Dw e7.val.length qw] :: boxO g6 [.slice A2 n2 c2, .bool false] :: boxO g7 [.slice A7 e7.row.length c7, .int .i64 e7.fam, .slice B7 e7.qual.length d7, .int .i64 e7.ts, .int .i64 e7.seq, .int .i64 e7.kind, .slice D7 e7.val.length q7] :: (((((((entO A7 B7 D7 c7 d7 q7 e7 ++ (RR ++ Ds.map dfrO)) ++ entO Aw Bw Dw cw dw qw e7) ++ ns1) ++ ns2) ++ listO8 Aa ma ca ra) ++ listO8 Ab mb cb rb) ++ (rs9.flatMap clipE ++ [dfrO D]))) z, ?_⟩
    have HS := Lib.hid (HZ3.out.later hd)
    refine lt_take 0 [4, 5] rfl (by kernel_rfl) (by kernel_rfl) (by kernel_rfl) (by kernel_rfl) (by kernel_rfl) (fun _ _ _ h => h) (yi_cell rfl rfl rfl (fun w hS => OW.cell hS (i := 1) (j := 0) rfl rfl) (fun w => Try.isAgg22 w)) HS.out ?_
    simp only [Act.put, List.setIfInBounds_toArray, List.set_cons_zero, List.set_cons_succ]
    refine lt_take 1 [3, 4, 5] rfl (by kernel_rfl) (by kernel_rfl) (by kernel_rfl) (by kernel_rfl) (by kernel_rfl) (fun _ _ _ h => h) (yi_row rfl rfl rfl (fun w hS => OW.range hS (i := 5) rfl) tabR_row) HS.out ?_
    simp only [Act.put, List.setIfInBounds_toArray, List.set_cons_zero, List.set_cons_succ]
    refine lt_take 2 [3, 4, 5] rfl (by kernel_rfl) (by kernel_rfl) (by kernel_rfl) (by kernel_rfl) (by kernel_rfl) (fun _ _ _ h => h) (yi_row rfl rfl rfl (fun w hS => OW.rangem hS (.tail _ (.tail _ (.tail _ (.tail _ (.tail _ (.tail _ (.tail _ (List.mem_append_left _ (List.mem_append_left _ (List.mem_append_left _ (List.mem_append_left _ (List.mem_append_left _ (List.mem_append_left _ (List.mem_append_right _ (List.mem_append_left _ (HER.out.b))))))))))))))))) ent_row8) HS.out ?_
    simp only [Act.put, List.setIfInBounds_toArray, List.set_cons_zero, List.set_cons_succ]
    refine lt_call 3 rfl (by kernel_rfl) rfl rfl ⟨_, Try.func18, by decide, by kernel_rfl⟩ [.agg #[.slice A2 n2 c2, .bool false], .agg #[.slice Af ef.row.length cf, .int .i64 ef.fam, .slice Bf ef.qual.length df, .int .i64 ef.ts, .int .i64 ef.seq, .int .i64 ef.kind, .slice Df ef.val.length qf]] rfl ?_
    refine (rfrom8_any HS.out (HRT2.out.more fun o ho => (List.mem_append.1 ho).elim (fun ho => .tail _ (.tail _ (.tail _ (.tail _ (.tail _ (.tail _ (.tail _ (List.mem_append_left _ (List.mem_append_left _ (List.mem_append_left _ (List.mem_append_left _ (List.mem_append_left _ (List.mem_append_left _ (List.mem_append_right _ (List.mem_append_left _ (ho)))))))))))))))) (fun ho => .tail _ (.tail _ (.tail _ (.tail _ (.tail _ (.tail _ (.tail _ (List.mem_append_left _ (List.mem_append_left _ (List.mem_append_left _ (List.mem_append_left _ (List.mem_append_right _ (ho)))))))))))))) (by omega) (⟨Af, cf, Bf, df, Df, qf, ef⟩ : ER) (fun z hz => (HER.out.e.more fun o ho => .tail _ (.tail _ (.tail _ (.tail _ (.tail _ (.tail _ (.tail _ (List.mem_append_left _ (List.mem_append_left _ (List.mem_append_left _ (List.mem_append_left _ (List.mem_append_left _ (List.mem_append_left _ (List.mem_append_right _ (List.mem_append_left _ (ho)))))))))))))))).en hz)).mono ?_
    rintro e z3 ⟨Ax, nx, cx, rfl, hz, hlin⟩
    have HLX : Hid (LIn (boxO tg (tabC t2 false) :: boxO gl [.slice A9 nf c9] :: rowO 30 7 (.slice A9 nf c9) nf (rs9.flatMap ER.cells) :: boxO g12 [.slice A2 n2 c2, .bool false] :: boxO g11 [.slice Aw e7.row.length cw, .int .i64 e7.fam, .slice Bw e7.qual.length dw, .int .i64 e7.ts, .int .i64 e7.seq, .int .i64 e7.kind, .slice Dw e7.val.length qw] :: boxO g6 [.slice A2 n2 c2, .bool false] :: boxO g7 [.slice A7 e7.row.length c7, .int .i64 e7.fam, .slice B7 e7.qual.length d7, .int .i64 e7.ts, .int .i64 e7.seq, .int .i64 e7.kind, .slice D7 e7.val.length q7] :: (((((((entO A7 B7 D7 c7 d7 q7 e7 ++ (RR ++ Ds.map dfrO)) ++ entO Aw Bw Dw cw dw qw e7) ++ ns1) ++ ns2) ++ listO8 Aa ma ca ra) ++ listO8 Ab mb cb rb) ++ (rs9.flatMap clipE ++ [dfrO D]))) Ax nx (fromE L2 ef)) := Lib.hid hlin
    replace HS : Hid (OW w (boxO tg (tabC t2 false) :: boxO gl [.slice A9 nf c9] :: rowO 30 7 (.slice A9 nf c9) nf (rs9.flatMap ER.cells) :: boxO g12 [.slice A2 n2 c2, .bool false] :: boxO g11 [.slice Aw e7.row.length cw, .int .i64 e7.fam, .slice Bw e7.qual.length dw, .int .i64 e7.ts, .int .i64 e7.seq, .int .i64 e7.kind, .slice Dw e7.val.length qw] :: boxO g6 [.slice A2 n2 c2, .bool false] :: boxO g7 [.slice A7 e7.row.length c7, .int .i64 e7.fam, .slice B7 e7.qual.length d7, .int .i64 e7.ts, .int .i64 e7.seq, .int .i64 e7.kind, .slice D7 e7.val.length q7] :: (((((((entO A7 B7 D7 c7 d7 q7 e7 ++ (RR ++ Ds.map dfrO)) ++ entO Aw Bw Dw cw dw qw e7) ++ ns1) ++ ns2) ++ listO8 Aa ma ca ra) ++ listO8 Ab mb cb rb) ++ (rs9.flatMap clipE ++ [dfrO D]))) z3) := Lib.hid hz
    clear hlin hz
    refine ⟨_, rfl, fun _ => HS.out, ?_⟩
    simp only [Act.put, List.setIfInBounds_toArray, List.set_cons_zero, List.set_cons_succ]
    refine lt_call 4 rfl (by kernel_rfl) rfl rfl ⟨_, Try.func19, by decide, by kernel_rfl⟩ [.slice A9 nf c9, .slice Ax nx cx] rfl ?_
    have hle1 : Ens z3 A9 nf (fromE L2 ef) := HC9.out.lin (os := boxO tg (tabC t2 false) :: boxO gl [.slice A9 nf c9] :: rowO 30 7 (.slice A9 nf c9) nf (rs9.flatMap ER.cells) :: boxO g12 [.slice A2 n2 c2, .bool false] :: boxO g11 [.slice Aw e7.row.length cw, .int .i64 e7.fam, .slice Bw e7.qual.length dw, .int .i64 e7.ts, .int .i64 e7.seq, .int .i64 e7.kind, .slice Dw e7.val.length qw] :: boxO g6 [.slice A2 n2 c2, .bool false] :: boxO g7 [.slice A7 e7.row.length c7, .int .i64 e7.fam, .slice B7 e7.qual.length d7, .int .i64 e7.ts, .int .i64 e7.seq, .int .i64 e7.kind, .slice D7 e7.val.length q7] :: (((((((entO A7 B7 D7 c7 d7 q7 e7 ++ (RR ++ Ds.map dfrO)) ++ entO Aw Bw Dw cw dw qw e7) ++ ns1) ++ ns2) ++ listO8 Aa ma ca ra) ++ listO8 Ab mb cb rb) ++ (rs9.flatMap clipE ++ [dfrO D]))) (c := c9) (fun o ho => by
        rcases List.mem_cons.1 ho with rfl | ho
        · exact .tail _ (.tail _ (.head _))
        · exact .tail _ (.tail _ (.tail _ (.tail _ (.tail _ (.tail _ (.tail _ (List.mem_append_right _ (List.mem_append_left _ ho))))))))) |>.ens HS.out
    have hle2 : Ens z3 Ax nx (fromE L2 ef) := HLX.out.ens HS.out
    refine (sameList_is hle1 hle2 (by omega)).mono ?_
    rintro e z4 ⟨rfl, hb⟩
    replace HS := Lib.hid (HS.out.later hb)
    clear hb hle1 hle2
    refine ⟨_, rfl, fun _ => HS.out, ?_⟩
    simp only [Act.put, List.setIfInBounds_toArray, List.set_cons_zero, List.set_cons_succ]
    refine lt_pure 5 rfl (by kernel_rfl) (by kernel_rfl) (by kernel_rfl) (by kernel_rfl) (fun _ _ _ h => h) (v := ?_) (yi_run rfl (fun w => ?_)) (fun _ => HS.out) ?_
    rotate_left
    · first | (go_simp; done) | (go_simp; with_reducible rfl)
    simp only [Act.put, List.setIfInBounds_toArray, List.set_cons_zero, List.set_cons_succ]
    refine lt_done (by kernel_rfl) ?_
    replace HZ3 := Lib.hid HS.out
    clear HS
    by_cases hlt : i < nt
    case neg =>
      have d4 : decide ((i : Int) < (nt : Int)) = false := decide_eq_false (by omega)
      go_wp2_with fail
      refine ⟨?rel, ?measure⟩
      case rel =>
        try dsimp only
        repeat apply Exists.intro
        refine ⟨?_, rfl⟩
        exact ⟨i + 1, t2, A2, n2, c2, rs2, e7, (boxO gl [.slice A9 nf c9] :: rowO 30 7 (.slice A9 nf c9) nf (rs9.flatMap ER.cells) :: boxO g12 [.slice A2 n2 c2, .bool false] :: boxO g11 [.slice Aw e7.row.length cw, .int .i64 e7.fam, .slice Bw e7.qual.length dw, .int .i64 e7.ts, .int .i64 e7.seq, .int .i64 e7.kind, .slice Dw e7.val.length qw] :: (RR ++ (entO Aw Bw Dw cw dw qw e7 ++ ns1 ++ ns2 ++ listO8 Aa ma ca ra ++ listO8 Ab mb cb rb ++ (rs9.flatMap clipE)))), D :: Ds, by omega, by omega, by go_num, by have := HLN.out; rw [← HE2.out, Tr.ents_len] at this; omega, by omega, HL7.out, by first | rfl | (rw [hds]; rfl), Lib.hid (HTB2.out.more fun o ho => (List.mem_append.1 ho).elim (fun ho => .tail _ (.tail _ (.tail _ (.tail _ (List.mem_append_left _ (ho)))))) (fun ho => .tail _ (.tail _ (.tail _ (.tail _ (List.mem_append_right _ (List.mem_append_left _ (List.mem_append_left _ (List.mem_append_left _ (List.mem_append_right _ (ho))))))))))), Lib.hid (by rw [HE2.out]; exact HRT2.out.more fun o ho => (List.mem_append.1 ho).elim (fun ho => .tail _ (.tail _ (.tail _ (.tail _ (List.mem_append_left _ (ho)))))) (fun ho => .tail _ (.tail _ (.tail _ (.tail _ (List.mem_append_right _ (List.mem_append_left _ (List.mem_append_left _ (List.mem_append_left _ (List.mem_append_left _ (List.mem_append_right _ (ho)))))))))))), Lib.hid (HER.out.more fun o ho => .tail _ (.tail _ (.tail _ (.tail _ (List.mem_append_left _ (ho)))))), Lib.hid (HZ3.out.perm (by rw [List.map_cons]; (refine perm_of_cnt fun a => ?_; (simp only [cntO_app, cntO_cons, cntO_nil]) <;> omega)))⟩
      case measure => simp [intOf]; omega
    have d4 : decide ((i : Int) < (nt : Int)) = true := decide_eq_true (by omega)
    have i1 : (i : Int) < (nt : Int) := by omega
    obtain ⟨tb, to_, rfl, htb, hti⟩ := HTN.out w (Below.refl _ _) (show 0 < nt by omega)
    obtain ⟨kd, ta, ty, hrg⟩ := hti i hlt
    have HTR : Hid (∀ z, Below w.heap.size w z → z.rangeAt tb (to_ + i * 3) [.int .i64 kd, .int .i64 ta, .int .i64 ty]) := Lib.hid fun z hz j v hj => (hz.cell (p := ⟨tb, _, none⟩) htb).trans (hrg j v hj)
    clear htb hti hrg
    go_wp2_with fail
    refine lt_start [5, 6] (by kernel_rfl) ?_
    intro xd hd
    refine ⟨fun z => OW w (boxO tg (tabC t2 false) :: boxO gl [.slice A9 nf c9] :: rowO 30 7 (.slice A9 nf c9) nf (rs9.flatMap ER.cells) :: boxO g12 [.slice A2 n2 c2, .bool false] :: boxO g11 [.slice Aw e7.row.length cw, .int .i64 e7.fam, .slice Bw e7.qual.length dw, .int .i64 e7.ts, .int .i64 e7.seq, .int .i64 e7.kind, .slice Dw e7.val.length qw] :: boxO g6 [.slice A2 n2 c2, .bool false] :: boxO g7 [.slice A7 e7.row.length c7, .int .i64 e7.fam, .slice B7 e7.qual.length d7, .int .i64 e7.ts, .int .i64 e7.seq, .int .i64 e7.kind, .slice D7 e7.val.length q7] :: (((((((entO A7 B7 D7 c7 d7 q7 e7 ++ (RR ++ Ds.map dfrO)) ++ entO Aw Bw Dw cw dw qw e7) ++ ns1) ++ ns2) ++ listO8 Aa ma ca ra) ++ listO8 Ab mb cb rb) ++ (rs9.flatMap clipE ++ [dfrO D]))) z, ?_⟩
    have HS := Lib.hid (HZ3.out.later hd)
    refine lt_take 0 [5, 6] rfl (by kernel_rfl) (by kernel_rfl) (by kernel_rfl) (by kernel_rfl) (by kernel_rfl) (fun _ _ _ h => h) (yi_row rfl rfl rfl (fun w hS => OW.range hS (i := 6) rfl) ent_row8) HS.out ?_
    simp only [Act.put, List.setIfInBounds_toArray, List.set_cons_zero, List.set_cons_succ]
    refine lt_pure 1 rfl (by kernel_rfl) (by kernel_rfl) (by kernel_rfl) (by kernel_rfl) (fun _ _ _ h => h) (v := ?_) (yi_run rfl (fun w => ?_)) (fun _ => HS.out) ?_
    rotate_left
    · first | (go_simp; done) | (go_simp; with_reducible rfl)
    simp only [Act.put, List.setIfInBounds_toArray, List.set_cons_zero, List.set_cons_succ]
    refine lt_pure 2 rfl (by kernel_rfl) (by kernel_rfl) (by kernel_rfl) (by kernel_rfl) (fun _ _ _ h => h) (v := ?_) (yi_run rfl (fun w => ?_)) (fun _ => HS.out) ?_
    rotate_left
    · first | (go_simp; done) | (go_simp; with_reducible rfl)
    simp only [Act.put, List.setIfInBounds_toArray, List.set_cons_zero, List.set_cons_succ]
    refine lt_pure 3 rfl (by kernel_rfl) (by kernel_rfl) (by kernel_rfl) (by kernel_rfl) (fun _ _ _ h => h) (v := ?_) (yi_run rfl (fun w => ?_)) (fun _ => HS.out) ?_
    rotate_left
    · first | (go_simp; done) | (go_simp; with_reducible rfl)
    simp only [Act.put, List.setIfInBounds_toArray, List.set_cons_zero, List.set_cons_succ]
    refine lt_take 4 [5, 6] rfl (by kernel_rfl) (by kernel_rfl) (by kernel_rfl) (by kernel_rfl) (by kernel_rfl) (fun _ _ _ h => h) (yi_rowO rfl rfl rfl (fun w hS => HTR.out w (OW.up hS)) turn_row8) HS.out ?_
    simp only [Act.put, List.setIfInBounds_toArray, List.set_cons_zero, List.set_cons_succ]
    refine lt_call 5 rfl (by kernel_rfl) rfl rfl ⟨_, Try.func31, by decide, by kernel_rfl⟩ [.agg #[.slice A7 e7.row.length c7, .int .i64 e7.fam, .slice B7 e7.qual.length d7, .int .i64 e7.ts, .int .i64 e7.seq, .int .i64 e7.kind, .slice D7 e7.val.length q7], .slice none 0 0, .agg #[.int .i64 kd, .int .i64 ta, .int .i64 ty]] rfl ?_
    refine (turned8_any (os := (boxO tg (tabC t2 false) :: boxO gl [.slice A9 nf c9] :: rowO 30 7 (.slice A9 nf c9) nf (rs9.flatMap ER.cells) :: boxO g12 [.slice A2 n2 c2, .bool false] :: boxO g11 [.slice Aw e7.row.length cw, .int .i64 e7.fam, .slice Bw e7.qual.length dw, .int .i64 e7.ts, .int .i64 e7.seq, .int .i64 e7.kind, .slice Dw e7.val.length qw] :: boxO g6 [.slice A2 n2 c2, .bool false] :: boxO g7 [.slice A7 e7.row.length c7, .int .i64 e7.fam, .slice B7 e7.qual.length d7, .int .i64 e7.ts, .int .i64 e7.seq, .int .i64 e7.kind, .slice D7 e7.val.length q7] :: (((((((RR ++ Ds.map dfrO) ++ entO Aw Bw Dw cw dw qw e7) ++ ns1) ++ ns2) ++ listO8 Aa ma ca ra) ++ listO8 Ab mb cb rb) ++ (rs9.flatMap clipE ++ [dfrO D])))) (⟨A7, c7, B7, d7, D7, q7, e7⟩ : ER) kd ta ty (HS.out.perm (by (refine perm_of_cnt fun a => ?_; (simp only [cntO_app, cntO_cons, cntO_nil]) <;> omega))) HL7.out).mono ?_
    rintro e z3 ⟨e8, rfl, hla, hlb, hlc, hz⟩
    have HL8 : Hid (e8.row.length ≤ 5000 ∧ e8.qual.length ≤ 5000 ∧ e8.val.length ≤ 5000) := Lib.hid (by have := HL7.out; rw [hla, hlb, hlc]; exact this)
    have HY : Hid (OW w (boxO tg (tabC t2 false) :: boxO gl [.slice A9 nf c9] :: rowO 30 7 (.slice A9 nf c9) nf (rs9.flatMap ER.cells) :: boxO g12 [.slice A2 n2 c2, .bool false] :: boxO g11 [.slice Aw e7.row.length cw, .int .i64 e7.fam, .slice Bw e7.qual.length dw, .int .i64 e7.ts, .int .i64 e7.seq, .int .i64 e7.kind, .slice Dw e7.val.length qw] :: boxO g6 [.slice A2 n2 c2, .bool false] :: boxO g7 [.slice A7 e7.row.length c7, .int .i64 e7.fam, .slice B7 e7.qual.length d7, .int .i64 e7.ts, .int .i64 e7.seq, .int .i64 e7.kind, .slice D7 e7.val.length q7] :: (((((((entO A7 B7 D7 c7 d7 q7 e8 ++ (RR ++ Ds.map dfrO)) ++ entO Aw Bw Dw cw dw qw e7) ++ ns1) ++ ns2) ++ listO8 Aa ma ca ra) ++ listO8 Ab mb cb rb) ++ (rs9.flatMap clipE ++ [dfrO D]))) z3) := Lib.hid (hz.perm (by (refine perm_of_cnt fun a => ?_; (simp only [cntO_app, cntO_cons, cntO_nil]) <;> omega)))
    clear hla hlb hlc hz
    refine ⟨_, rfl, (fun e => nomatch e), ?_⟩
    simp only [Act.put, List.setIfInBounds_toArray, List.set_cons_zero, List.set_cons_succ]
    refine lt_end 6 rfl (by kernel_rfl) rfl (by kernel_rfl) ?_
    refine wpo_put rfl HY.out 6 rfl rfl [.slice A7 e8.row.length c7, .int .i64 e8.fam, .slice B7 e8.qual.length d7, .int .i64 e8.ts, .int .i64 e8.seq, .int .i64 e8.kind, .slice D7 e8.val.length q7] rfl rfl (by kernel_rfl) (by simp [Value.oneCell']) ?_
    intro z5 hz _
    have HZ4 : Hid (OW w (boxO tg (tabC t2 false) :: boxO gl [.slice A9 nf c9] :: rowO 30 7 (.slice A9 nf c9) nf (rs9.flatMap ER.cells) :: boxO g12 [.slice A2 n2 c2, .bool false] :: boxO g11 [.slice Aw e7.row.length cw, .int .i64 e7.fam, .slice Bw e7.qual.length dw, .int .i64 e7.ts, .int .i64 e7.seq, .int .i64 e7.kind, .slice Dw e7.val.length qw] :: boxO g6 [.slice A2 n2 c2, .bool false] :: boxO g7 [.slice A7 e8.row.length c7, .int .i64 e8.fam, .slice B7 e8.qual.length d7, .int .i64 e8.ts, .int .i64 e8.seq, .int .i64 e8.kind, .slice D7 e8.val.length q7] :: (((((((entO A7 B7 D7 c7 d7 q7 e8 ++ (RR ++ Ds.map dfrO)) ++ entO Aw Bw Dw cw dw qw e7) ++ ns1) ++ ns2) ++ listO8 Aa ma ca ra) ++ listO8 Ab mb cb rb) ++ (rs9.flatMap clipE ++ [dfrO D]))) z5) := Lib.hid hz
    clear hz HY
    simp only [Act.put]
    refine lt_done (by kernel_rfl) ?_
    clear HS
    go_wp2_with fail
    refine ⟨?rel, ?measure⟩
    case rel =>
      try dsimp only
      repeat apply Exists.intro
      refine ⟨?_, rfl⟩
      exact ⟨i + 1, t2, A2, n2, c2, rs2, e8, (boxO gl [.slice A9 nf c9] :: rowO 30 7 (.slice A9 nf c9) nf (rs9.flatMap ER.cells) :: boxO g12 [.slice A2 n2 c2, .bool false] :: boxO g11 [.slice Aw e7.row.length cw, .int .i64 e7.fam, .slice Bw e7.qual.length dw, .int .i64 e7.ts, .int .i64 e7.seq, .int .i64 e7.kind, .slice Dw e7.val.length qw] :: (RR ++ (entO Aw Bw Dw cw dw qw e7 ++ ns1 ++ ns2 ++ listO8 Aa ma ca ra ++ listO8 Ab mb cb rb ++ (rs9.flatMap clipE)))), D :: Ds, by omega, by omega, by go_num, by have := HLN.out; rw [← HE2.out, Tr.ents_len] at this; omega, by omega, HL8.out, by first | rfl | (rw [hds]; rfl), Lib.hid (HTB2.out.more fun o ho => (List.mem_append.1 ho).elim (fun ho => .tail _ (.tail _ (.tail _ (.tail _ (List.mem_append_left _ (ho)))))) (fun ho => .tail _ (.tail _ (.tail _ (.tail _ (List.mem_append_right _ (List.mem_append_left _ (List.mem_append_left _ (List.mem_append_left _ (List.mem_append_right _ (ho))))))))))), Lib.hid (by rw [HE2.out]; exact HRT2.out.more fun o ho => (List.mem_append.1 ho).elim (fun ho => .tail _ (.tail _ (.tail _ (.tail _ (List.mem_append_left _ (ho)))))) (fun ho => .tail _ (.tail _ (.tail _ (.tail _ (List.mem_append_right _ (List.mem_append_left _ (List.mem_append_left _ (List.mem_append_left _ (List.mem_append_left _ (List.mem_append_right _ (ho)))))))))))), Lib.hid (HER.out.more fun o ho => .tail _ (.tail _ (.tail _ (.tail _ (List.mem_append_left _ (ho)))))), Lib.hid (HZ4.out.perm (by rw [List.map_cons]; (refine perm_of_cnt fun a => ?_; (simp only [cntO_app, cntO_cons, cntO_nil]) <;> omega)))⟩
    case measure => simp [intOf]; omega
theorem again8_top (e : Ent) (A : Option Addr) (n c : Nat) (B : Option Addr) (m d : Nat) (D : Option Addr) (v q : Nat) (TA : Option Addr) (nt tc : Nat) (w : World) (h : En w A n c B m d D v q e) (hT : Trn w TA nt) (hnt : nt ≤ tc ∧ tc ≤ 9223372036854775807) :
    Calls Try.prog 6 #[entV A n c B m d D v q e, .slice TA nt tc] w fun e z => e = .returned (.bool true) ∧ Below w.heap.size w z := by
  obtain rfl := h.row.len
  obtain rfl := h.qual.len
  obtain rfl := h.val.len
  exact again8_any ⟨A, c, B, d, D, q, e⟩ TA nt tc w h hT hnt
end Go.Proofs.Ytdaoinhkagmbdaa
