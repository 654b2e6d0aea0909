/-
  Laid together by merge.py: RunL1, RunL3, RunL2, RunL4, RunL5, RunS1, Law, Law2, Law3, WireLaw, Law4, BlockLaw, RunLaw.
-/
import Derived.Test.YtfdbcfaeiglbeaaGreatDoorRQ7
import Derived.Test.YtfdbcfaeiglbeaaGreatDoorRQ9
import Derived.Test.YtfdbcfaeiglbeaaGreatDoorRQ8
import Derived.Test.YtfdbcfaeiglbeaaGreatDoorRQ4
import Derived.Test.YtfdbcfaeiglbeaaGreatDoorRQ6
import Derived.Test.YtfdbcfaeiglbeaaGreatDoorRQ1
import Derived.ProofKit
import Derived.SizedLaws
import Derived.Lib.SmallJoins
import Derived.Deep.Slices
import Derived.Deep.Fields
import Derived.Test.YtfdbcfaeiglbeaaGreatDoorRQ2
import Derived.Test.YtfdbcfaeiglbeaaGreatDoorRows
import Derived.Test.YtfdbcfaeiglbeaaGreatDoorRQ3
import Derived.Test.YtfdbcfaeiglbeaaGreatDoorCards
import Derived.Test.YtfdbcfaeiglbeaaGreatDoorTie
import Derived.OpenShut
import Derived.Deep.DeepHandedRow
import Derived.Lib.LaidTab
import Derived.Test.YtfdbcfaeiglbeaaGreatDoorRQ5
namespace Go.Proofs.YtfdbcfaeiglbeaaGreatDoor
open Go.RowKit
theorem num7_any (k : Int) (w : World) : Calls Tryz.prog 20 #[.int .i64 k] w fun e z => e = .returned (.int .i64 k) ∧ z = w := by
  go_enter Tryz.func20, Tryz.ntmps20
  go_wp2_with fail
  go_ret
  exact ⟨rfl, rfl⟩
theorem whole_any (n lo hi : Int) (h0 : 0 ≤ lo) (h1 : lo ≤ hi) (h2 : hi ≤ 2199023255552) (w : World) : Calls Tryz.prog 33 #[.int .i64 n, .int .i64 lo, .int .i64 hi] w fun e z => e = .returned (.int .i64 (wholeI n lo hi)) ∧ z = w := by
  obtain ⟨d, hd⟩ : ∃ d, d = hi - lo + 1 := ⟨_, rfl⟩
  have s1 : IntKind.i64.wrap (hi - lo) = hi - lo := i64_sum (by omega) (by omega)
  have s2 : IntKind.i64.wrap (hi - lo + 1) = d := by rw [← hd]; exact i64_sum (by omega) (by omega)
  have hd0 : ¬ d = 0 := by omega
  have r1 := Int.tmod_lt_of_pos n (show 0 < d by omega)
  have r2 := Int.lt_tmod_of_pos n (show 0 < d by omega)
  obtain ⟨m, hm⟩ : ∃ m, m = n.tmod d := ⟨_, rfl⟩
  have HW : Hid (wholeI n lo hi = if m < 0 then lo + (m + hi - lo + 1) else lo + m) := Lib.hid (by unfold wholeI; rw [← hd, ← hm])
  rw [← hm] at r1 r2
  have hm2 : n.tmod d = m := hm.symm
  obtain ⟨W, hW⟩ : ∃ W, W = wholeI n lo hi := ⟨_, rfl⟩
  rw [← hW] at HW ⊢
  clear hW
  by_cases g : m < 0
  case pos =>
    have m1 : decide (m < 0) = true := decide_eq_true g
    have t1 : IntKind.i64.wrap (m + hi) = m + hi := i64_sum (by omega) (by omega)
    have t2 : IntKind.i64.wrap (m + hi - lo) = m + hi - lo := i64_sum (by omega) (by omega)
    have t3 : IntKind.i64.wrap (m + hi - lo + 1) = m + hi - lo + 1 := i64_sum (by omega) (by omega)
    have t4 : IntKind.i64.wrap (lo + (m + hi - lo + 1)) = W := by rw [HW.out, if_pos g]; exact i64_sum (by omega) (by omega)
    clear hm hd HW
    go_enter Tryz.func33, Tryz.ntmps33
    go_wp2_with fail
    go_ret
    exact ⟨rfl, rfl⟩
  have m1 : decide (m < 0) = false := decide_eq_false g
  have t4 : IntKind.i64.wrap (lo + m) = W := by rw [HW.out, if_neg g]; exact i64_sum (by omega) (by omega)
  clear hm hd HW
  go_enter Tryz.func33, Tryz.ntmps33
  go_wp2_with fail
  go_ret
  exact ⟨rfl, rfl⟩
def optV (o : OptR) : Value := .agg #[.int .i64 o.block, .int .i64 o.bits, .int .i64 o.index, .int .i64 o.low, .int .i64 o.clock]
set_option maxRecDepth 1000000 in
set_option maxHeartbeats 4000000 in
theorem options_any (o : OptR) (w : World) : Calls Tryz.prog 25 #[optV o] w fun e z => e = .returned (optV (optF o)) ∧ Below w.heap.size w z := by
 obtain ⟨b, bi, ix, lw, ck⟩ := o
 unfold optF optV
 dsimp only
 obtain ⟨c, hc⟩ : ∃ c, c = wholeI ck 1 1099511627776 := ⟨_, rfl⟩
 have hcb := wholeI_in ck 1 1099511627776 (by decide)
 rw [← hc] at hcb ⊢
 have HC := Lib.hid hc.symm
 obtain ⟨v0, hv0⟩ : ∃ c, c = wholeI b 64 65536 := ⟨_, rfl⟩
 obtain ⟨v1, hv1⟩ : ∃ c, c = wholeI bi 0 20 := ⟨_, rfl⟩
 obtain ⟨v2, hv2⟩ : ∃ c, c = wholeI ix 0 1099511627776 := ⟨_, rfl⟩
 obtain ⟨v3, hv3⟩ : ∃ d, d = wholeI lw 0 (c - 1) := ⟨_, rfl⟩
 rw [← hv0, ← hv1, ← hv2, ← hv3]
 have HV0 := Lib.hid hv0.symm
 have HV1 := Lib.hid hv1.symm
 have HV2 := Lib.hid hv2.symm
 have HV3 := Lib.hid hv3.symm
 clear hc hv0 hv1 hv2 hv3
 have s1 : IntKind.i64.wrap (c - 1) = c - 1 := i64_sum (by omega) (by omega)
 have HX := Lib.hid (OW.nil w)
 go_enter Tryz.func25, Tryz.ntmps25
 go_upto_region 2 with (first
  | (refine wl_box rfl (.tmp 0) rfl [.int .i64 b, .int .i64 bi, .int .i64 ix, .int .i64 lw, .int .i64 ck] rfl HX.out ?_; intro g1 x1 hz _; have HX1 : Hid (OW w [boxO g1 [.int .i64 b, .int .i64 bi, .int .i64 ix, .int .i64 lw, .int .i64 ck]] x1) := Lib.hid hz; clear hz HX)
  | (refine wl_alloc rfl rfl [.int .i64 0, .int .i64 0, .int .i64 0, .int .i64 0, .int .i64 0] (.inl (by kernel_rfl)) HX1.out ?_; intro g2 x2 hz _; have HX2 : Hid (OW w [boxO g1 [.int .i64 b, .int .i64 bi, .int .i64 ix, .int .i64 lw, .int .i64 ck], boxO g2 [.int .i64 0, .int .i64 0, .int .i64 0, .int .i64 0, .int .i64 0]] x2) := Lib.hid hz; clear hz HX1)
  | (refine wpList_load_cell rfl 3 (.tmp 4) rfl rfl (HX2.out.cell (i := 0) (j := 4) rfl rfl) (fun w => Tryz.isAgg3 w) ?_)
  | (go_at_call 33; go_must (refine (whole_any ck 1 1099511627776 (by decide) (by decide) (by decide) _).mono ?_); rw [HC.out]; rintro e x3 ⟨rfl, rfl⟩))
 refine lt_start [16] (by kernel_rfl) ?_
 intro xd hd
 refine ⟨fun z => OW w [boxO g1 [.int .i64 b, .int .i64 bi, .int .i64 ix, .int .i64 lw, .int .i64 ck], boxO g2 [.int .i64 0, .int .i64 0, .int .i64 0, .int .i64 0, .int .i64 0]] z, ?_⟩
 have HS := Lib.hid (HX2.out.later hd)
 refine lp 0 rfl (v := ?_) (fun w => ?_) (fun _ => HS.out) ?_
 rotate_left
 ·first | (go_simp; done) | (go_simp; with_reducible rfl)
 simp only [Act.put, ls1, ls2, ls3]
 refine lq 1 [2, 5, 8, 13, 15, 16] rfl (yi_cell rfl rfl rfl (fun w hS => OW.cell hS (i := 0) (j := 0) rfl rfl) (fun w => Tryz.isAgg3 w)) HS.out ?_
 simp only [Act.put, ls1, ls2, ls3]
 refine lp 3 rfl (v := ?_) (fun w => ?_) (fun _ => HS.out) ?_
 rotate_left
 ·first | (go_simp; done) | (go_simp; with_reducible rfl)
 simp only [Act.put, ls1, ls2, ls3]
 refine lq 4 [5, 8, 13, 15, 16] rfl (yi_cell rfl rfl rfl (fun w hS => OW.cell hS (i := 0) (j := 1) rfl rfl) (fun w => Tryz.isAgg3 w)) HS.out ?_
 simp only [Act.put, ls1, ls2, ls3]
 refine lp 6 rfl (v := ?_) (fun w => ?_) (fun _ => HS.out) ?_
 rotate_left
 ·first | (go_simp; done) | (go_simp; with_reducible rfl)
 simp only [Act.put, ls1, ls2, ls3]
 refine lq 7 [8, 13, 15, 16] rfl (yi_cell rfl rfl rfl (fun w hS => OW.cell hS (i := 0) (j := 2) rfl rfl) (fun w => Tryz.isAgg3 w)) HS.out ?_
 simp only [Act.put, ls1, ls2, ls3]
 refine lp 9 rfl (v := ?_) (fun w => ?_) (fun _ => HS.out) ?_
 rotate_left
 ·first | (go_simp; done) | (go_simp; with_reducible rfl)
 simp only [Act.put, ls1, ls2, ls3]
 refine lq 10 [13, 15, 16] rfl (yi_cell rfl rfl rfl (fun w hS => OW.cell hS (i := 0) (j := 3) rfl rfl) (fun w => Tryz.isAgg3 w)) HS.out ?_
 simp only [Act.put, ls1, ls2, ls3]
 refine lp 11 rfl (v := ?_) (fun w => ?_) (fun _ => HS.out) ?_
 rotate_left
 ·first | (go_simp; done) | (go_simp; with_reducible rfl)
 simp only [Act.put, ls1, ls2, ls3]
 refine lp 12 rfl (v := ?_) (fun w => ?_) (fun _ => HS.out) ?_
 rotate_left
 ·first | (go_simp; done) | (go_simp; with_reducible rfl)
 simp only [Act.put, ls1, ls2, ls3]
 refine lp 14 rfl (v := ?_) (fun w => ?_) (fun _ => HS.out) ?_
 rotate_left
 ·first | (go_simp; done) | (go_simp; with_reducible rfl)
 simp only [Act.put, ls1, ls2, ls3]
 refine lt_call 2 rfl (by kernel_rfl) rfl rfl ⟨_, Tryz.func33, by decide, by kernel_rfl⟩ [.int .i64 b, .int .i64 64, .int .i64 65536] rfl ?_
 refine (whole_any b 64 65536 (by omega) (by omega) (by omega) _).mono ?_
 rw [HV0.out]
 rintro e x3 ⟨rfl, rfl⟩
 refine ⟨_, rfl, fun _ => HS.out, ?_⟩
 simp only [Act.put, ls1, ls2, ls3]
 refine lt_call 5 rfl (by kernel_rfl) rfl rfl ⟨_, Tryz.func33, by decide, by kernel_rfl⟩ [.int .i64 bi, .int .i64 0, .int .i64 20] rfl ?_
 refine (whole_any bi 0 20 (by omega) (by omega) (by omega) _).mono ?_
 rw [HV1.out]
 rintro e x3 ⟨rfl, rfl⟩
 refine ⟨_, rfl, fun _ => HS.out, ?_⟩
 simp only [Act.put, ls1, ls2, ls3]
 refine lt_call 8 rfl (by kernel_rfl) rfl rfl ⟨_, Tryz.func33, by decide, by kernel_rfl⟩ [.int .i64 ix, .int .i64 0, .int .i64 1099511627776] rfl ?_
 refine (whole_any ix 0 1099511627776 (by omega) (by omega) (by omega) _).mono ?_
 rw [HV2.out]
 rintro e x3 ⟨rfl, rfl⟩
 refine ⟨_, rfl, fun _ => HS.out, ?_⟩
 simp only [Act.put, ls1, ls2, ls3]
 refine lt_call 13 rfl (by kernel_rfl) rfl rfl ⟨_, Tryz.func33, by decide, by kernel_rfl⟩ [.int .i64 lw, .int .i64 0, .int .i64 (c - 1)] rfl ?_
 refine (whole_any lw 0 (c - 1) (by omega) (by omega) (by omega) _).mono ?_
 rw [HV3.out]
 rintro e x3 ⟨rfl, rfl⟩
 refine ⟨_, rfl, fun _ => HS.out, ?_⟩
 simp only [Act.put, ls1, ls2, ls3]
 refine lp 15 rfl (v := ?_) (fun w => ?_) (fun _ => HS.out) ?_
 rotate_left
 ·first | (go_simp; done) | (go_simp; with_reducible rfl)
 simp only [Act.put, ls1, ls2, ls3]
 have HX3 := HS
 refine lt_end 16 rfl (by kernel_rfl) rfl (by kernel_rfl) ?_
 refine wpo_put rfl HX3.out 1 rfl rfl [.int .i64 v0, .int .i64 v1, .int .i64 v2, .int .i64 v3, .int .i64 c] rfl rfl (by kernel_rfl) (by simp [Value.oneCell']) ?_
 intro x9 hz _
 replace HX3 := Lib.hid hz
 clear hz
 simp only [Act.put]
 refine lt_done (by kernel_rfl) ?_
 clear HS
 go_wp2_with fail
 refine bodyPost_ret (results_rowL rfl _ _ g2 [.int .i64 v0, .int .i64 v1, .int .i64 v2, .int .i64 v3, .int .i64 c] rfl (HX3.out.range (i := 1) rfl) (by kernel_rfl) (by kernel_rfl)) rfl ?_
 exact ⟨rfl, HX3.out.up⟩
set_option maxRecDepth 1000000 in
set_option maxHeartbeats 4000000 in
theorem copied7_any (e : Ent) (A : Option Addr) (n c : Nat) (B : Option Addr) (m d : Nat) (D : Option Addr) (v q : Nat) (w : World) (h : En w A n c B m d D v q e) (hn : n ≤ 140737488355000 ∧ m ≤ 140737488355000 ∧ v ≤ 140737488355000) :
    Calls Tryz.prog 62 #[entV A n c B m d D v q e] w fun r z => ∃ y : ER, y.e = e ∧ r = .returned y.v ∧ OW w (rowE y) z := by
  obtain ⟨hn1, hn2, hn3⟩ := hn
  have HE : Hid (∀ z, Below w.heap.size w z → En z A n c B m d D v q e) := Lib.hid fun z hz => h.later hz
  have HLR := Lib.hid h.row.rb.len
  have HLQ := Lib.hid h.qual.rb.len
  have HLV := Lib.hid h.val.rb.len
  have HC1 : Hid (cutS e.row 0 (n - 0) = e.row) := Lib.hid (by unfold cutS; rw [List.drop_zero, List.take_of_length_le (by rw [h.row.rb.len]; omega)])
  have HC2 : Hid (cutS e.qual 0 (m - 0) = e.qual) := Lib.hid (by unfold cutS; rw [List.drop_zero, List.take_of_length_le (by rw [h.qual.rb.len]; omega)])
  have HC3 : Hid (cutS e.val 0 (v - 0) = e.val) := Lib.hid (by unfold cutS; rw [List.drop_zero, List.take_of_length_le (by rw [h.val.rb.len]; omega)])
  clear h
  have tok1 : True := trivial
  have tok2 : True := trivial
  have HX := Lib.hid (OW.nil w)
  go_enter Tryz.func62, Tryz.ntmps62
  go_upto_region 2 with (first
    | (refine wl_box rfl (.tmp 0) rfl [.slice A n c, .int .i64 e.fam, .slice B m d, .int .i64 e.ts, .int .i64 e.seq, .int .i64 e.kind, .slice D v q] rfl HX.out ?_; intro g1 x1 hz _; have HX1 : Hid (OW w [boxO g1 [.slice A n c, .int .i64 e.fam, .slice B m d, .int .i64 e.ts, .int .i64 e.seq, .int .i64 e.kind, .slice D v q]] x1) := Lib.hid hz; clear hz HX)
    | (refine wl_alloc rfl rfl [.slice none 0 0, .int .i64 0, .slice none 0 0, .int .i64 0, .int .i64 0, .int .i64 0, .slice none 0 0] (.inl (by kernel_rfl)) HX1.out ?_; intro g2 x2 hz _; have HX2 : Hid (OW w [boxO g1 [.slice A n c, .int .i64 e.fam, .slice B m d, .int .i64 e.ts, .int .i64 e.seq, .int .i64 e.kind, .slice D v q], boxO g2 [.slice none 0 0, .int .i64 0, .slice none 0 0, .int .i64 0, .int .i64 0, .int .i64 0, .slice none 0 0]] x2) := Lib.hid hz; clear hz HX1)
    | (refine wpList_load_cell rfl 34 (.tmp 3) rfl rfl (HX2.out.cell (i := 0) (j := 0) rfl rfl) (fun w => Tryz.isAgg34 w) ?_)
    | (refine wpList_load_cell rfl 34 (.tmp 5) rfl rfl (HX2.out.cell (i := 0) (j := 0) rfl rfl) (fun w => Tryz.isAgg34 w) ?_)
    | (go_at_call 51; go_must (refine (part_any e.row A n c 0 n _ _ rfl rfl _ (HE.out _ HX2.out.up).row (Nat.zero_le _) (Nat.le_refl _) (by omega)).mono ?_); rw [HC1.out]; rintro r x3 hp; obtain ⟨A1, c1, rfl, _, ho, hb⟩ := hp.at_ HLR.out; have HX3 := Lib.hid (HX2.out.app (OW.byt1 hb ho)); clear hp ho hb HX2)
    | (refine wl_put1 rfl (.tmp 9) (.tmp 8) rfl HX3.out 0 rfl 0 rfl (by simp) (.slice A1 n c1) rfl (by kernel_rfl) rfl ?_; intro x4 hz _; have HX4 : Hid (OW w [boxO g1 [.slice A1 n c1, .int .i64 e.fam, .slice B m d, .int .i64 e.ts, .int .i64 e.seq, .int .i64 e.kind, .slice D v q], boxO g2 [.slice none 0 0, .int .i64 0, .slice none 0 0, .int .i64 0, .int .i64 0, .int .i64 0, .slice none 0 0], bytO 5 (A1, c1, e.row)] x4) := Lib.hid hz; clear hz HX3))
  go_upto_region 3 with (first
    | (refine wpList_load_cell rfl 34 (.tmp 10) rfl rfl (HX4.out.cell (i := 0) (j := 2) rfl rfl) (fun w => Tryz.isAgg34 w) ?_)
    | (refine wpList_load_cell rfl 34 (.tmp 12) rfl rfl (HX4.out.cell (i := 0) (j := 2) rfl rfl) (fun w => Tryz.isAgg34 w) ?_)
    | (go_at_call 51; go_must (refine (part_any e.qual B m d 0 m _ _ rfl rfl _ (HE.out _ HX4.out.up).qual (Nat.zero_le _) (Nat.le_refl _) (by omega)).mono ?_); rw [HC2.out]; rintro r x5 hp; obtain ⟨B1, d1, rfl, _, ho, hb⟩ := hp.at_ HLQ.out; have HX5 := Lib.hid (HX4.out.app (OW.byt1 hb ho)); clear hp ho hb HX4)
    | (refine wl_put1 rfl (.tmp 16) (.tmp 15) rfl HX5.out 0 rfl 2 rfl (by simp) (.slice B1 m d1) rfl (by kernel_rfl) rfl ?_; intro x6 hz _; have HX6 : Hid (OW w [boxO g1 [.slice A1 n c1, .int .i64 e.fam, .slice B1 m d1, .int .i64 e.ts, .int .i64 e.seq, .int .i64 e.kind, .slice D v q], boxO g2 [.slice none 0 0, .int .i64 0, .slice none 0 0, .int .i64 0, .int .i64 0, .int .i64 0, .slice none 0 0], bytO 5 (A1, c1, e.row), bytO 5 (B1, d1, e.qual)] x6) := Lib.hid hz; clear hz HX5))
  go_upto_region 4 with (first
    | (refine wpList_load_cell rfl 34 (.tmp 17) rfl rfl (HX6.out.cell (i := 0) (j := 6) rfl rfl) (fun w => Tryz.isAgg34 w) ?_)
    | (refine wpList_load_cell rfl 34 (.tmp 19) rfl rfl (HX6.out.cell (i := 0) (j := 6) rfl rfl) (fun w => Tryz.isAgg34 w) ?_)
    | (go_at_call 51; go_must (refine (part_any e.val D v q 0 v _ _ rfl rfl _ (HE.out _ HX6.out.up).val (Nat.zero_le _) (Nat.le_refl _) (by omega)).mono ?_); rw [HC3.out]; rintro r x7 hp; obtain ⟨D1, q1, rfl, _, ho, hb⟩ := hp.at_ HLV.out; have HX7 := Lib.hid (HX6.out.app (OW.byt1 hb ho)); clear hp ho hb HX6)
    | (refine wl_put1 rfl (.tmp 23) (.tmp 22) rfl HX7.out 0 rfl 6 rfl (by simp) (.slice D1 v q1) rfl (by kernel_rfl) rfl ?_; intro x8 hz _; have HX8 : Hid (OW w [boxO g1 [.slice A1 n c1, .int .i64 e.fam, .slice B1 m d1, .int .i64 e.ts, .int .i64 e.seq, .int .i64 e.kind, .slice D1 v q1], boxO g2 [.slice none 0 0, .int .i64 0, .slice none 0 0, .int .i64 0, .int .i64 0, .int .i64 0, .slice none 0 0], bytO 5 (A1, c1, e.row), bytO 5 (B1, d1, e.qual), bytO 5 (D1, q1, e.val)] x8) := Lib.hid hz; clear hz HX7))
  go_wp2_with (first
    | (refine wpList_load_row7 rfl 60 (.tmp 1) rfl rfl (HX8.out.range (i := 0) rfl) ent_row5 ?_)
    | (refine wl_put rfl (.tmp 2) (.tmp 24) rfl HX8.out 1 rfl rfl [.slice A1 n c1, .int .i64 e.fam, .slice B1 m d1, .int .i64 e.ts, .int .i64 e.seq, .int .i64 e.kind, .slice D1 v q1] rfl rfl (by kernel_rfl) (by simp [Value.oneCell']) ?_; intro x9 hz _; have HX9 := Lib.hid hz; clear hz))
  refine bodyPost_ret (results_rowL rfl _ _ g2 [.slice A1 n c1, .int .i64 e.fam, .slice B1 m d1, .int .i64 e.ts, .int .i64 e.seq, .int .i64 e.kind, .slice D1 v q1] rfl (HX9.out.range (i := 1) rfl) (by kernel_rfl) (by kernel_rfl)) rfl ?_
  refine ⟨⟨A1, c1, B1, d1, D1, q1, e⟩, rfl, ?_, (HX9.out.erase 0).erase 0⟩
  show Ending.returned _ = .returned (entV A1 e.row.length c1 B1 e.qual.length d1 D1 e.val.length q1 e)
  rw [HLR.out, HLQ.out, HLV.out]
theorem open_yes7 {b : List UInt8} {r : RunR} (ho : openR7 b = (some r, 0)) {A : Option Addr} {n c : Nat} {w : World} (hs : Sl w A n c b) (ht : TabAt 0 w) :
    Calls Tryz.prog 17 #[.slice A n c] w fun e z => ∃ q : RunRec, q.r = r ∧ RunF q ∧ e = .returned (.tuple #[.pointer (some ⟨q.g, 0, none⟩), .int .i64 0]) ∧ OW w q.obs z :=
  (open_any7 b A n c w hs ht).mono fun e z h => by
    rcases h with ⟨q, h1, h2, h3, h4, h5⟩ | ⟨k, _, h1, _⟩
    · have h6 := h1
      rw [ho] at h1
      injection h1 with h1 _
      injection h1 with h1
      exact ⟨q, h1.symm, .of h3 h6, h4, h5⟩
    · rw [ho] at h1; cases h1
set_option maxRecDepth 1000000 in
set_option maxHeartbeats 4000000 in
theorem made_yes (o : OptR) (L : List Ent) (A : Option Addr) (n c : Nat) (w : World) (hes : Ens w A n L) (hn : n ≤ 100000) (hr : refuseR o L = 0) (hl : (runBy o L).length ≤ 16777216) (ht : TabAt 0 w) :
    Calls Tryz.prog 27 #[optV o, .slice A n c] w fun e z => ∃ (q : RunRec) (B : Option Addr) (m d : Nat), q.r = runW o L ∧ RunF q ∧ (runBy o L).length = m ∧ e = .returned (.tuple #[.slice B m d, .pointer (some ⟨q.g, 0, none⟩)]) ∧ OW w (bytO 5 (B, d, runBy o L) :: q.obs) z := by
  have hL := hes.len
  obtain ⟨h1, h2⟩ := write_open hr (by omega) hl
  have HW : Hid ((writeR o L).1 = runBy o L ∧ (writeR o L).2 = 0) := Lib.hid ⟨by rw [h1], by rw [h1]⟩
  have HO := Lib.hid h2
  have HES : Hid (∀ z, Below w.heap.size w z → Ens z A n L) := Lib.hid fun z hz => hes.later hz
  have HTB : Hid (∀ z, Below w.heap.size w z → TabAt 0 z) := Lib.hid fun z hz => ht.later hz
  obtain ⟨m, hm⟩ : ∃ m, m = (runBy o L).length := ⟨_, rfl⟩
  have HM := Lib.hid hm.symm
  obtain ⟨ob, oi, ox, olw, oc⟩ := o
  unfold optV
  dsimp only
  have HX := Lib.hid (OW.nil w)
  clear hes hr hl ht hL h1 h2 hm
  go_enter Tryz.func27, Tryz.ntmps27
  go_upto_region 2 with (first
    | (refine wl_box rfl (.tmp 0) rfl [.int .i64 ob, .int .i64 oi, .int .i64 ox, .int .i64 olw, .int .i64 oc] rfl HX.out ?_; intro g1 x1 hz _; have HX1 : Hid (OW w [boxO g1 [.int .i64 ob, .int .i64 oi, .int .i64 ox, .int .i64 olw, .int .i64 oc]] x1) := Lib.hid hz; clear hz HX)
    | (refine wl_rowR rfl 23 (.tmp 2) rfl rfl (HX1.out.range (i := 0) rfl) opts_row ?_)
    | (go_at_call 57; go_must (refine (write_any ⟨ob, oi, ox, olw, oc⟩ L A n c _ (HES.out _ HX1.out.up) hn (HTB.out _ HX1.out.up)).mono ?_); rw [HW.out.1, HW.out.2]; rintro e x2 hp; obtain ⟨B, d, rfl, hs2, ho, hb⟩ := hp.at_ HM.out rfl; have HX2 := Lib.hid (HX1.out.app (OW.byt1 hb ho)); have HS2 := Lib.hid hs2; clear hp ho hb hs2 HX1))
  go_upto_region 4 with (go_at_call 20; go_must (refine (num7_any 0 _).mono ?_); rintro e x3 ⟨rfl, rfl⟩)
  go_upto_region 5 with (go_at_call 17; go_must (refine (open_yes7 HO.out HS2.out (HTB.out _ HX2.out.up)).mono ?_); rintro e x4 ⟨q, hq1, hq2, rfl, hz⟩; have HX4 := Lib.hid (HX2.out.app hz); have HQ := Lib.hid (And.intro hq1 hq2); clear hq1 hq2 hz HX2)
  go_wp2_with (go_at_call 20; go_must (refine (num7_any 0 _).mono ?_); rintro e x5 ⟨rfl, rfl⟩)
  go_ret2
  exact ⟨q, B, m, d, HQ.out.1, HQ.out.2, HM.out, rfl, HX4.out.erase 0⟩
theorem next_some {q : RunRec} (hf : RunF q) {c : CurR} {cg : Nat} (hcg : c.g = cg) (hc : c.Ok q.r) {w x : World} {os : List Ob} (hs : q.obs.Sublist os) (h : OW w (c.obs q ++ os) x) (ht : TabAt 0 w) {y : Ent} {L : List Ent} {b : Bool} (hr : c.rest q.r = (y :: L, b)) :
    Calls Tryz.prog 89 #[.pointer (some ⟨cg, 0, none⟩)] x fun e z => ∃ (c' : CurR) (A B D : Option Addr), c'.g = c.g ∧ c'.Ok q.r ∧ c'.rest q.r = (L, b) ∧ e = .returned (.tuple #[entV A y.row.length y.row.length B y.qual.length y.qual.length D y.val.length y.val.length y, .bool true, .int .i64 0]) ∧ CAt A y.row ∧ CAt B y.qual ∧ CAt D y.val ∧ checkE y = 0 ∧ OW w (clipO A y.row :: clipO B y.qual :: clipO D y.val :: (c'.obs q ++ os)) z := by
  subst hcg
  exact (next_any q hf c hc w x os hs h ht).mono fun e z hp => by
    obtain ⟨c', h1, h2, ⟨y', L', b', A, B, D, h3, h4, h5, h6, h7, h8, h9, h10⟩ | ⟨b', h3, _⟩⟩ := hp
    · rw [hr] at h3
      injection h3 with h3 h3b
      injection h3 with h3 h3a
      subst h3 h3a h3b
      exact ⟨c', A, B, D, h1, h2, h4, h5, h6, h7, h8, h9, h10⟩
    · rw [hr] at h3; injection h3 with h3; cases h3
theorem next_none {q : RunRec} (hf : RunF q) {c : CurR} {cg : Nat} (hcg : c.g = cg) (hc : c.Ok q.r) {w x : World} {os : List Ob} (hs : q.obs.Sublist os) (h : OW w (c.obs q ++ os) x) (ht : TabAt 0 w) {b : Bool} (hr : c.rest q.r = ([], b)) {kb : Int} (hkb : (if b = true then 0 else 73) = kb) :
    Calls Tryz.prog 89 #[.pointer (some ⟨cg, 0, none⟩)] x fun e z => ∃ c' : CurR, c'.g = c.g ∧ c'.Ok q.r ∧ c'.rest q.r = ([], b) ∧ e = .returned (.tuple #[entV none 0 0 none 0 0 none 0 0 noEnt, .bool false, .int .i64 kb]) ∧ OW w (c'.obs q ++ os) z := by
  subst hcg
  exact (next_any q hf c hc w x os hs h ht).mono fun e z hp => by
    obtain ⟨c', h1, h2, ⟨y', L', b', A, B, D, h3, _⟩ | ⟨b', h3, h4, h5, h6⟩⟩ := hp
    · rw [hr] at h3; injection h3 with h3; cases h3
    · rw [hr] at h3
      injection h3 with _ h3
      subst h3
      rw [hkb] at h5
      exact ⟨c', h1, h2, h4, h5, h6⟩
def lenV : Value → Nat
  | .slice _ n _ => n
  | _ => 0
def endK (b : Bool) : Int := if b = true then 0 else 73
def GoneP (q : RunRec) (cg : Nat) (L : List Ent) (b : Bool) (w : World) (os : List Ob) (e : Ending) (z : World) : Prop :=
  ∃ (c' : CurR) (LA : Option Addr) (lc : Nat) (rs : List ER), c'.g = cg ∧ c'.Ok q.r ∧ c'.rest q.r = ([], b) ∧ rs.map ER.e = L ∧ e = .returned (.tuple #[.slice LA rs.length lc, .int .i64 (endK b)]) ∧ OW w (entsO LA rs.length lc rs ++ (c'.obs q ++ os)) z
theorem gone_perm1 (r : Ob) (C F O : List Ob) : (r :: (C ++ (F ++ O))).Perm (C ++ (r :: (F ++ O))) := perm_mid9 [r] C (F ++ O)
theorem gone_perm2 (a b d r : Ob) (C F O : List Ob) : (a :: b :: d :: (C ++ (r :: (F ++ O)))).Perm (r :: a :: b :: d :: (C ++ (F ++ O))) := by (refine perm_of_cnt fun a => ?_; (simp only [cntO_app, cntO_cons, cntO_nil]) <;> omega)
theorem gone_perm3 (g r a b d n : Ob) (C F O N : List Ob) : (((g :: r :: a :: b :: d :: (C ++ (F ++ O))) ++ N) ++ [n]).Perm ((r :: (C ++ ((F ++ N) ++ O))) ++ [g, a, b, d, n]) := by (refine perm_of_cnt fun a => ?_; (simp only [cntO_app, cntO_cons, cntO_nil]) <;> omega)
theorem gone_perm4 (r : Ob) (C F O : List Ob) : (r :: (C ++ (F ++ O))).Perm ((r :: F) ++ (C ++ O)) := by (refine perm_of_cnt fun a => ?_; (simp only [cntO_app, cntO_cons, cntO_nil]) <;> omega)
set_option maxRecDepth 1000000 in
set_option maxHeartbeats 8000000 in
theorem gone_any (q : RunRec) (hf : RunF q) (c : CurR) (hc : c.Ok q.r) (w x : World) (os : List Ob) (hs : q.obs.Sublist os) (h : OW w (c.obs q ++ os) x) (ht : TabAt 0 w) (L : List Ent) (b : Bool) (hr : c.rest q.r = (L, b)) (most : Int) (hm : (L.length : Int) ≤ most) (hl : L.length ≤ 1000000000) :
    Calls Tryz.prog 34 #[.pointer (some ⟨c.g, 0, none⟩), .int .i64 most] x (GoneP q c.g L b w os) := by
  obtain ⟨cg, hcg⟩ : ∃ g, g = c.g := ⟨_, rfl⟩
  rw [← hcg]
  have HF := Lib.hid hf
  have HS := Lib.hid hs
  have HT := Lib.hid ht
  have HC := Lib.hid hc
  have HR := Lib.hid hr
  have HCG := Lib.hid hcg.symm
  have HX0 : Hid (OW w (rowO 60 7 (.slice none 0 0) 0 [] :: (c.obs q ++ ([] ++ os))) x) := Lib.hid ((h.nilRow 60 7).perm (List.perm_append_singleton _ _))
  obtain ⟨PP, hPP⟩ : ∃ p, p = GoneP q cg L b w os := ⟨_, rfl⟩
  rw [← hPP]
  have HPP : Hid (∀ e z, GoneP q cg L b w os e z → PP e z) := Lib.hid fun e z h => by rw [hPP]; exact h
  clear hf hs ht hc hr h hcg hPP
  obtain ⟨kb, hkb⟩ : ∃ k : Int, endK b = k := ⟨_, rfl⟩
  have HKB := Lib.hid hkb
  clear hkb
  go_enter Tryz.func34, Tryz.ntmps34
  go_upto_region 4 with fail
  go_loopw [6] (fun lv wr => ∃ (c : CurR) (LA : Option Addr) (n lc : Nat) (rs : List ER) (L' : List Ent), lv = .slice LA n lc ∧ rs.length = n ∧ Hid (c.g = cg) ∧ Hid (c.Ok q.r) ∧ Hid (c.rest q.r = (L', b)) ∧ n + L'.length = L.length ∧ Hid (rs.map ER.e ++ L' = L) ∧ Hid (OW w (rowO 60 7 (.slice LA n lc) n (rs.flatMap ER.cells) :: (c.obs q ++ (rs.flatMap rowE ++ os))) wr)) (fun lv _ => L.length + 1 - lenV lv)
  case atStart => exact ⟨c, none, 0, 0, [], L, rfl, rfl, HCG, HC, HR, Nat.zero_add _, Lib.hid rfl, HX0⟩
  case round =>
    clear HX0 HC HR HCG c
    obtain ⟨c, LA, n, lc, rs, L', rfl, hrl, HCG, HC, HR, hnl, HLL, HX⟩ := hrel
    have HRL := Lib.hid hrl
    have d1 : decide ((n : Int) ≤ most) = true := decide_eq_true (by omega)
    have d2 : (n : Int) ≤ most := by omega
    clear hrl
    cases L' with
    | nil =>
      go_upto_region 6 with (first
        | (go_at_call 89; go_must (refine (next_none HF.out HCG.out HC.out (os := _ :: (rs.flatMap rowE ++ os)) ((HS.out.trans (List.sublist_append_right _ _)).cons _) (HX.out.perm (gone_perm1 _ _ _ _)) HT.out HR.out HKB.out).mono ?_); rintro e x1 ⟨c', k1, k2, k3, rfl, hz⟩; have HX1 := Lib.hid hz; have HK := Lib.hid (And.intro k1 (And.intro k2 k3)); clear hz k1 k2 k3 HX)
        | (refine wl_alloc rfl rfl [.slice none 0 0, .int .i64 0, .slice none 0 0, .int .i64 0, .int .i64 0, .int .i64 0, .slice none 0 0] (.inl (by kernel_rfl)) HX1.out ?_; intro g7 x2 hz _; have HX2 : Hid (OW w (boxO g7 [.slice none 0 0, .int .i64 0, .slice none 0 0, .int .i64 0, .int .i64 0, .int .i64 0, .slice none 0 0] :: (c'.obs q ++ (rowO 60 7 (.slice LA n lc) n (rs.flatMap ER.cells) :: (rs.flatMap rowE ++ os)))) x2) := Lib.hid (OW.perm hz (List.perm_append_singleton _ _)); clear hz HX1)
        | (refine wl_put rfl (.tmp 7) (.tmp 20) rfl HX2.out 0 rfl rfl [.slice none 0 0, .int .i64 0, .slice none 0 0, .int .i64 0, .int .i64 0, .int .i64 0, .slice none 0 0] rfl rfl (by kernel_rfl) (by simp [Value.oneCell']) ?_; intro x3 hz _; have HX3 : Hid (OW w (boxO g7 [.slice none 0 0, .int .i64 0, .slice none 0 0, .int .i64 0, .int .i64 0, .int .i64 0, .slice none 0 0] :: (c'.obs q ++ (rowO 60 7 (.slice LA n lc) n (rs.flatMap ER.cells) :: (rs.flatMap rowE ++ os)))) x3) := Lib.hid hz; clear hz HX2))
      go_wp2_with (go_at_call 20; go_must (refine (num7_any _ _).mono ?_); rintro e x4 ⟨rfl, rfl⟩)
      refine HPP.out _ _ ⟨c', LA, lc, rs, HK.out.1.trans HCG.out, HK.out.2.1, HK.out.2.2, ?_, ?_, ?_⟩
      · have h1 := HLL.out
        rwa [List.append_nil] at h1
      · rw [HRL.out, HKB.out]; rfl
      · rw [HRL.out]
        have hz := OW.erase HX3.out 0
        exact OW.perm hz ((gone_perm1 _ _ _ _).symm.trans (gone_perm4 _ _ _ _))
    | cons y L' =>
      go_upto_region 6 with (first
        | (go_at_call 89; go_must (refine (next_some HF.out HCG.out HC.out (os := _ :: (rs.flatMap rowE ++ os)) ((HS.out.trans (List.sublist_append_right _ _)).cons _) (HX.out.perm (gone_perm1 _ _ _ _)) HT.out HR.out).mono ?_); rintro e x1 ⟨c', A1, B1, D1, k1, k2, k3, rfl, ca, cb, cd, ck, hz⟩; have HX1 : Hid (OW w (rowO 60 7 (.slice LA n lc) n (rs.flatMap ER.cells) :: clipO A1 y.row :: clipO B1 y.qual :: clipO D1 y.val :: (c'.obs q ++ (rs.flatMap rowE ++ os))) x1) := Lib.hid (OW.perm hz (gone_perm2 _ _ _ _ _ _ _)); have HK := Lib.hid (And.intro k1 (And.intro k2 k3)); have HCA := Lib.hid (And.intro ca (And.intro cb cd)); have HCK := Lib.hid ck; clear hz k1 k2 k3 ca cb cd ck HX)
        | (refine wl_alloc rfl rfl [.slice none 0 0, .int .i64 0, .slice none 0 0, .int .i64 0, .int .i64 0, .int .i64 0, .slice none 0 0] (.inl (by kernel_rfl)) HX1.out ?_; intro g7 x2 hz _; have HX2 : Hid (OW w (boxO g7 [.slice none 0 0, .int .i64 0, .slice none 0 0, .int .i64 0, .int .i64 0, .int .i64 0, .slice none 0 0] :: rowO 60 7 (.slice LA n lc) n (rs.flatMap ER.cells) :: clipO A1 y.row :: clipO B1 y.qual :: clipO D1 y.val :: (c'.obs q ++ (rs.flatMap rowE ++ os))) x2) := Lib.hid (OW.perm hz (List.perm_append_singleton _ _)); clear hz HX1)
        | (refine wl_put rfl (.tmp 7) (.tmp 20) rfl HX2.out 0 rfl rfl [.slice A1 y.row.length y.row.length, .int .i64 y.fam, .slice B1 y.qual.length y.qual.length, .int .i64 y.ts, .int .i64 y.seq, .int .i64 y.kind, .slice D1 y.val.length y.val.length] rfl rfl (by kernel_rfl) (by simp [Value.oneCell']) ?_; intro x3 hz _; have HX3 : Hid (OW w (boxO g7 [.slice A1 y.row.length y.row.length, .int .i64 y.fam, .slice B1 y.qual.length y.qual.length, .int .i64 y.ts, .int .i64 y.seq, .int .i64 y.kind, .slice D1 y.val.length y.val.length] :: rowO 60 7 (.slice LA n lc) n (rs.flatMap ER.cells) :: clipO A1 y.row :: clipO B1 y.qual :: clipO D1 y.val :: (c'.obs q ++ (rs.flatMap rowE ++ os))) x3) := Lib.hid hz; clear hz HX2))
      have HYL := Lib.hid (ok_lens HCK.out)
      have HEN : Hid (En x3 A1 y.row.length y.row.length B1 y.qual.length y.qual.length D1 y.val.length y.val.length y) := Lib.hid ⟨HX3.out.clipSl HCA.out.1 (i := 2) rfl rfl (by have := HYL.out; omega), HX3.out.clipSl HCA.out.2.1 (i := 3) rfl rfl (by have := HYL.out; omega), HX3.out.clipSl HCA.out.2.2 (i := 4) rfl rfl (by have := HYL.out; omega)⟩
      go_wp2_with (first
        | (refine wpList_load_row7 rfl 60 (.tmp 7) rfl rfl (HX3.out.range (i := 0) rfl) ent_row5 ?_)
        | (go_at_call 62; go_must (refine (copied7_any y A1 _ _ B1 _ _ D1 _ _ _ HEN.out HYL.out).mono ?_); rintro e x4 ⟨s, hse, rfl, hz⟩; have HX4 := Lib.hid (HX3.out.app hz); have HSE := Lib.hid hse; clear hz hse HX3)
        | (refine wl_build rfl #[(0, .tmp 30)] rfl #[.slice s.A s.e.row.length s.c, .int .i64 s.e.fam, .slice s.B s.e.qual.length s.d, .int .i64 s.e.ts, .int .i64 s.e.seq, .int .i64 s.e.kind, .slice s.D s.e.val.length s.q] Tryz.entsS (.agg #[.slice none 0 0, .int .i64 0, .slice none 0 0, .int .i64 0, .int .i64 0, .int .i64 0, .slice none 0 0]) (by kernel_rfl) (by decide) (by decide) (by decide) rfl (by first | rfl | kernel_rfl) HX4.out ?_; intro g5 x5 hz _; have HX5 : Hid (OW w (((boxO g7 [.slice A1 y.row.length y.row.length, .int .i64 y.fam, .slice B1 y.qual.length y.qual.length, .int .i64 y.ts, .int .i64 y.seq, .int .i64 y.kind, .slice D1 y.val.length y.val.length] :: rowO 60 7 (.slice LA n lc) n (rs.flatMap ER.cells) :: clipO A1 y.row :: clipO B1 y.qual :: clipO D1 y.val :: (c'.obs q ++ (rs.flatMap rowE ++ os))) ++ rowE s) ++ [rowO 60 7 (.slice (some ⟨g5, 0, none⟩) 1 1) 1 [.slice s.A s.e.row.length s.c, .int .i64 s.e.fam, .slice s.B s.e.qual.length s.d, .int .i64 s.e.ts, .int .i64 s.e.seq, .int .i64 s.e.kind, .slice s.D s.e.val.length s.q]]) x5) := Lib.hid hz; clear hz HX4)
        | (at_builtin; go_must (refine wl_append rfl (.tmp 28) (.tmp 31) rfl Tryz.entsS HX5.out 1 rfl rfl _ (some ⟨g5, 0, none⟩) 1 1 [.slice s.A s.e.row.length s.c, .int .i64 s.e.fam, .slice s.B s.e.qual.length s.d, .int .i64 s.e.ts, .int .i64 s.e.seq, .int .i64 s.e.kind, .slice s.D s.e.val.length s.q] rfl (Reads.own (HX5.out.rowm (List.mem_append_right _ (List.mem_singleton.2 rfl)))) (by simp [Value.oneCell']) (by unfold maxLen; omega) (by omega) ?_); intro A6 c6 x6 hz _; have HX6 : Hid (OW w (((boxO g7 [.slice A1 y.row.length y.row.length, .int .i64 y.fam, .slice B1 y.qual.length y.qual.length, .int .i64 y.ts, .int .i64 y.seq, .int .i64 y.kind, .slice D1 y.val.length y.val.length] :: rowO 60 7 (.slice A6 (n + 1) c6) (n + 1) (rs.flatMap ER.cells ++ [.slice s.A s.e.row.length s.c, .int .i64 s.e.fam, .slice s.B s.e.qual.length s.d, .int .i64 s.e.ts, .int .i64 s.e.seq, .int .i64 s.e.kind, .slice s.D s.e.val.length s.q]) :: clipO A1 y.row :: clipO B1 y.qual :: clipO D1 y.val :: (c'.obs q ++ (rs.flatMap rowE ++ os))) ++ rowE s) ++ [rowO 60 7 (.slice (some ⟨g5, 0, none⟩) 1 1) 1 [.slice s.A s.e.row.length s.c, .int .i64 s.e.fam, .slice s.B s.e.qual.length s.d, .int .i64 s.e.ts, .int .i64 s.e.seq, .int .i64 s.e.kind, .slice s.D s.e.val.length s.q]]) x6) := Lib.hid hz; clear hz HX5))
      have HX7 : Hid (OW w (rowO 60 7 (.slice A6 (n + 1) c6) (n + 1) ((rs ++ [s]).flatMap ER.cells) :: (c'.obs q ++ ((rs ++ [s]).flatMap rowE ++ os))) x6) := Lib.hid (by
        rw [cellE_snoc, rowE_snoc]
        exact OW.left (OW.perm HX6.out (gone_perm3 _ _ _ _ _ _ _ _ _ _)))
      clear HX6
      have hlc : (y :: L').length = L'.length + 1 := rfl
      go_roundw
      case rel => exact ⟨c', A6, n + 1, c6, rs ++ [s], L', by go_num, by rw [List.length_append, HRL.out]; rfl, Lib.hid (HK.out.1.trans HCG.out), Lib.hid HK.out.2.1, Lib.hid HK.out.2.2, by omega, Lib.hid (by rw [← HLL.out, List.map_append, List.append_assoc, ← HSE.out]; rfl), HX7⟩
      case measure => simp [lenV]; omega
theorem meta_count (a k b c d e : Int) (A B : Option Addr) (n m u v : Nat) (w : World) : (Instr.field 47 (.agg #[.int .i64 a, .int .i64 k, .int .i64 b, .int .i64 c, .int .i64 d, .int .i64 e, .slice A n u, .slice B m v]) 1).run Tryz.prog w = .ok (.int .i64 k) w := by kernel_rfl
set_option maxRecDepth 1000000 in
set_option maxHeartbeats 8000000 in
theorem all_goes (q : RunRec) (hf : RunF q) (w x : World) (os : List Ob) (hs : q.obs.Sublist os) (h : OW w os x) (ht : TabAt 0 w) (L : List Ent) (b : Bool) (hr : allR q.r = (L, b)) (hm : L.length ≤ q.r.count) (hl : L.length ≤ 1000000000) :
    Calls Tryz.prog 31 #[.pointer (some ⟨q.g, 0, none⟩)] x fun e z => ∃ cg, GoneP q cg L b w os e z := by
  have hq : RunAt q x := .of hf.ok h hs
  have HRA : Hid (∀ z, Below x.heap.size x z → RunAt q z) := Lib.hid fun z hz => hq.later hz
  have HF := Lib.hid hf
  have HS := Lib.hid hs
  have HT := Lib.hid ht
  have HR := Lib.hid hr
  have HX := Lib.hid h
  have HK : Hid (q.f1.p.a.length ≤ 100000000 ∧ q.fn.p.b.length ≤ 100000000) := Lib.hid (by
    have h1 := (pcin_len (hf.pin hf.ok.first)).1
    have h2 := (pcin_len (hf.pin hf.ok.last)).2
    omega)
  have HM : Hid ((L.length : Int) ≤ (q.r.count : Int)) := Lib.hid (by omega)
  obtain ⟨PP, hPP⟩ : ∃ p, p = fun e z => ∃ cg, GoneP q cg L b w os e z := ⟨_, rfl⟩
  show Calls Tryz.prog 31 #[.pointer (some ⟨q.g, 0, none⟩)] x (fun e z => ∃ cg, GoneP q cg L b w os e z)
  rw [← hPP]
  have HPP : Hid (∀ cg e z, GoneP q cg L b w os e z → PP e z) := Lib.hid fun cg e z h => by rw [hPP]; exact ⟨cg, h⟩
  clear hf hs ht hr h hq hm hPP
  have kf := meta_count
  go_enter Tryz.func31, Tryz.ntmps31
  go_wp2_with (first
    | (go_at_call 47; go_must (refine (rall_any q _).mono ?_); rintro e x1 ⟨c, k1, k2, rfl, hz⟩; have HX1 : Hid (OW w (c.obs q ++ os) x1) := Lib.hid ((HX.out.app hz).perm List.perm_append_comm); have HB1 := Lib.hid hz.up; have HK1 := Lib.hid (And.intro k1 k2); clear hz k1 k2 HX)
    | (go_at_call 28; go_must (refine (meta_any q _ (HRA.out _ HB1.out) HK.out).mono ?_); rintro e x2 ⟨MA, mc, MB, md, rfl, hz⟩; have HX2 : Hid (OW w (c.obs q ++ os) x2) := Lib.hid (HX1.out.later hz.up); clear hz HX1)
    | (go_at_call 34; go_must (refine (gone_any q HF.out c HK1.out.1 w _ os HS.out HX2.out HT.out L b (HK1.out.2.trans HR.out) _ HM.out hl).mono ?_); intro e x3 hp; obtain ⟨c', LA, lc, rs, j1, j2, j3, j4, rfl, hz⟩ := hp; have HZ := Lib.hid (And.intro j1 (And.intro j2 (And.intro j3 (And.intro j4 hz)))); clear hz j1 j2 j3 j4 HX2))
  exact HPP.out c.g _ _ ⟨c', LA, lc, rs, HZ.out.1, HZ.out.2.1, HZ.out.2.2.1, HZ.out.2.2.2.1, rfl, HZ.out.2.2.2.2⟩
theorem ent_ext {a b : Ent} (h1 : a.fam = b.fam) (h2 : a.ts = b.ts) (h3 : a.seq = b.seq) (h4 : a.kind = b.kind) (h5 : a.row = b.row) (h6 : a.qual = b.qual) (h7 : a.val = b.val) : a = b := by
  cases a; cases b; simp only at h1 h2 h3 h4 h5 h6 h7; subst h1; subst h2; subst h3; subst h4; subst h5; subst h6; subst h7; rfl
def firstE : Ent := ⟨[97], 0, [113], 7, 33, 1, [118]⟩
theorem Ens.er3 {w : World} {A : Option Addr} {n : Nat} {L : List Ent} (h : ∀ z, Below w.heap.size w z → Ens z A n L) {k : Nat} (hk : k < n) : ∃ (b o : Nat) (r : ER), A = some ⟨b, o, none⟩ ∧ b < w.heap.size ∧ L[k]? = some r.e ∧ (∀ z, Below w.heap.size w z → z.rangeAt b (o + k * 7) r.cells) ∧ ∀ z, Below w.heap.size w z → r.En z := by
  obtain ⟨b, o, r, h1, h2, h3, h4, h5⟩ := (h w (Below.refl _ _)).er hk
  exact ⟨b, o, r, h1, h2, h3, fun z hz j v hj => (hz.cell (p := ⟨b, _, none⟩) h2).trans (h4 j v hj), fun z hz => h5.later hz⟩
def SamP (a b : Ent) (w : World) (r : Ending) (z : World) : Prop := ∃ bo : Bool, r = .returned (.bool bo) ∧ (bo = true ↔ a = b) ∧ Below w.heap.size w z
set_option maxRecDepth 1000000 in
set_option maxHeartbeats 8000000 in
theorem same7_any (a b : ER) (w : World) (ha : a.En w) (hb : b.En w) : Calls Tryz.prog 36 #[.agg #[.slice a.A a.e.row.length a.c, .int .i64 a.e.fam, .slice a.B a.e.qual.length a.d, .int .i64 a.e.ts, .int .i64 a.e.seq, .int .i64 a.e.kind, .slice a.D a.e.val.length a.q], .agg #[.slice b.A b.e.row.length b.c, .int .i64 b.e.fam, .slice b.B b.e.qual.length b.d, .int .i64 b.e.ts, .int .i64 b.e.seq, .int .i64 b.e.kind, .slice b.D b.e.val.length b.q]] w (SamP a.e b.e w) := by
  have HX := Lib.hid (OW.nil w)
  have HA : Hid (∀ z, Below w.heap.size w z → a.En z) := Lib.hid fun z hz => ha.later hz
  have HB : Hid (∀ z, Below w.heap.size w z → b.En z) := Lib.hid fun z hz => hb.later hz
  clear ha hb
  have tok1 : True := trivial
  have tok2 : True := trivial
  go_enter Tryz.func36, Tryz.ntmps36
  go_upto_region 1 with (first
    | (refine wl_box rfl (.tmp 0) rfl [.slice a.A a.e.row.length a.c, .int .i64 a.e.fam, .slice a.B a.e.qual.length a.d, .int .i64 a.e.ts, .int .i64 a.e.seq, .int .i64 a.e.kind, .slice a.D a.e.val.length a.q] rfl HX.out ?_; intro g1 x1 hz _; have HX1 : Hid (OW w [boxO g1 [.slice a.A a.e.row.length a.c, .int .i64 a.e.fam, .slice a.B a.e.qual.length a.d, .int .i64 a.e.ts, .int .i64 a.e.seq, .int .i64 a.e.kind, .slice a.D a.e.val.length a.q]] x1) := Lib.hid hz; clear hz HX)
    | (refine wl_box rfl (.tmp 1) rfl [.slice b.A b.e.row.length b.c, .int .i64 b.e.fam, .slice b.B b.e.qual.length b.d, .int .i64 b.e.ts, .int .i64 b.e.seq, .int .i64 b.e.kind, .slice b.D b.e.val.length b.q] rfl HX1.out ?_; intro g2 x2 hz _; have HX2 : Hid (OW w [boxO g1 [.slice a.A a.e.row.length a.c, .int .i64 a.e.fam, .slice a.B a.e.qual.length a.d, .int .i64 a.e.ts, .int .i64 a.e.seq, .int .i64 a.e.kind, .slice a.D a.e.val.length a.q], boxO g2 [.slice b.A b.e.row.length b.c, .int .i64 b.e.fam, .slice b.B b.e.qual.length b.d, .int .i64 b.e.ts, .int .i64 b.e.seq, .int .i64 b.e.kind, .slice b.D b.e.val.length b.q]] x2) := Lib.hid hz; clear hz HX1))
  have ca0 := HX2.out.cell (i := 0) (j := 0) rfl rfl
  have ca1 := HX2.out.cell (i := 0) (j := 1) rfl rfl
  have ca2 := HX2.out.cell (i := 0) (j := 2) rfl rfl
  have ca3 := HX2.out.cell (i := 0) (j := 3) rfl rfl
  have ca4 := HX2.out.cell (i := 0) (j := 4) rfl rfl
  have ca5 := HX2.out.cell (i := 0) (j := 5) rfl rfl
  have ca6 := HX2.out.cell (i := 0) (j := 6) rfl rfl
  have cb0 := HX2.out.cell (i := 1) (j := 0) rfl rfl
  have cb1 := HX2.out.cell (i := 1) (j := 1) rfl rfl
  have cb2 := HX2.out.cell (i := 1) (j := 2) rfl rfl
  have cb3 := HX2.out.cell (i := 1) (j := 3) rfl rfl
  have cb4 := HX2.out.cell (i := 1) (j := 4) rfl rfl
  have cb5 := HX2.out.cell (i := 1) (j := 5) rfl rfl
  have cb6 := HX2.out.cell (i := 1) (j := 6) rfl rfl
  by_cases q_fam : a.e.fam = b.e.fam
  case neg =>
    have d_fam : (a.e.fam == b.e.fam) = false := beq_eq_false_iff_ne.2 q_fam
    have HN : Hid (a.e ≠ b.e) := Lib.hid fun h => q_fam (by rw [h])
    clear q_fam
    go_wp2_with fail
    go_ret
    exact ⟨false, rfl, ⟨(fun h => nomatch h), fun h => absurd h HN.out⟩, HX2.out.up⟩
  have d_fam : (a.e.fam == b.e.fam) = true := beq_iff_eq.2 q_fam
  have Q_fam := Lib.hid q_fam
  clear q_fam
  by_cases q_ts : a.e.ts = b.e.ts
  case neg =>
    have d_ts : (a.e.ts == b.e.ts) = false := beq_eq_false_iff_ne.2 q_ts
    have HN : Hid (a.e ≠ b.e) := Lib.hid fun h => q_ts (by rw [h])
    clear q_ts
    go_wp2_with fail
    go_ret
    exact ⟨false, rfl, ⟨(fun h => nomatch h), fun h => absurd h HN.out⟩, HX2.out.up⟩
  have d_ts : (a.e.ts == b.e.ts) = true := beq_iff_eq.2 q_ts
  have Q_ts := Lib.hid q_ts
  clear q_ts
  by_cases q_seq : a.e.seq = b.e.seq
  case neg =>
    have d_seq : (a.e.seq == b.e.seq) = false := beq_eq_false_iff_ne.2 q_seq
    have HN : Hid (a.e ≠ b.e) := Lib.hid fun h => q_seq (by rw [h])
    clear q_seq
    go_wp2_with fail
    go_ret
    exact ⟨false, rfl, ⟨(fun h => nomatch h), fun h => absurd h HN.out⟩, HX2.out.up⟩
  have d_seq : (a.e.seq == b.e.seq) = true := beq_iff_eq.2 q_seq
  have Q_seq := Lib.hid q_seq
  clear q_seq
  by_cases q_kind : a.e.kind = b.e.kind
  case neg =>
    have d_kind : (a.e.kind == b.e.kind) = false := beq_eq_false_iff_ne.2 q_kind
    have HN : Hid (a.e ≠ b.e) := Lib.hid fun h => q_kind (by rw [h])
    clear q_kind
    go_wp2_with fail
    go_ret
    exact ⟨false, rfl, ⟨(fun h => nomatch h), fun h => absurd h HN.out⟩, HX2.out.up⟩
  have d_kind : (a.e.kind == b.e.kind) = true := beq_iff_eq.2 q_kind
  have Q_kind := Lib.hid q_kind
  clear q_kind
  by_cases q_row : a.e.row = b.e.row
  case neg =>
    have HS0 : Hid ((a.e.row == b.e.row) = false) := Lib.hid (beq_eq_false_iff_ne.2 q_row)
    have HN : Hid (a.e ≠ b.e) := Lib.hid fun h => q_row (by rw [h])
    clear q_row
    go_wp2_with (first
      | (go_at_call 43; have _t := tok1; clear tok1; go_must (refine (rSame_any a.e.row b.e.row _ _ _ _ _ _ _ (HA.out _ HX2.out.up).row.rb (HB.out _ HX2.out.up).row.rb).mono ?_); rw [HS0.out]; rintro e y0 ⟨rfl, rfl⟩))
    go_ret
    exact ⟨false, rfl, ⟨(fun h => nomatch h), fun h => absurd h HN.out⟩, HX2.out.up⟩
  have HS0 : Hid ((a.e.row == b.e.row) = true) := Lib.hid (beq_iff_eq.2 q_row)
  have Q_row := Lib.hid q_row
  clear q_row
  by_cases q_qual : a.e.qual = b.e.qual
  case neg =>
    have HS1 : Hid ((a.e.qual == b.e.qual) = false) := Lib.hid (beq_eq_false_iff_ne.2 q_qual)
    have HN : Hid (a.e ≠ b.e) := Lib.hid fun h => q_qual (by rw [h])
    clear q_qual
    go_wp2_with (first
      | (go_at_call 43; have _t := tok1; clear tok1; go_must (refine (rSame_any a.e.row b.e.row _ _ _ _ _ _ _ (HA.out _ HX2.out.up).row.rb (HB.out _ HX2.out.up).row.rb).mono ?_); rw [HS0.out]; rintro e y0 ⟨rfl, rfl⟩)
      | (go_at_call 43; have _t := tok2; clear tok2; go_must (refine (rSame_any a.e.qual b.e.qual _ _ _ _ _ _ _ (HA.out _ HX2.out.up).qual.rb (HB.out _ HX2.out.up).qual.rb).mono ?_); rw [HS1.out]; rintro e y1 ⟨rfl, rfl⟩))
    go_ret
    exact ⟨false, rfl, ⟨(fun h => nomatch h), fun h => absurd h HN.out⟩, HX2.out.up⟩
  have HS1 : Hid ((a.e.qual == b.e.qual) = true) := Lib.hid (beq_iff_eq.2 q_qual)
  have Q_qual := Lib.hid q_qual
  clear q_qual
  by_cases q_val : a.e.val = b.e.val
  case neg =>
    have HS2 : Hid ((a.e.val == b.e.val) = false) := Lib.hid (beq_eq_false_iff_ne.2 q_val)
    have HN : Hid (a.e ≠ b.e) := Lib.hid fun h => q_val (by rw [h])
    clear q_val
    go_wp2_with (first
      | (go_at_call 43; have _t := tok1; clear tok1; go_must (refine (rSame_any a.e.row b.e.row _ _ _ _ _ _ _ (HA.out _ HX2.out.up).row.rb (HB.out _ HX2.out.up).row.rb).mono ?_); rw [HS0.out]; rintro e y0 ⟨rfl, rfl⟩)
      | (go_at_call 43; have _t := tok2; clear tok2; go_must (refine (rSame_any a.e.qual b.e.qual _ _ _ _ _ _ _ (HA.out _ HX2.out.up).qual.rb (HB.out _ HX2.out.up).qual.rb).mono ?_); rw [HS1.out]; rintro e y1 ⟨rfl, rfl⟩)
      | (go_at_call 43; go_must (refine (rSame_any a.e.val b.e.val _ _ _ _ _ _ _ (HA.out _ HX2.out.up).val.rb (HB.out _ HX2.out.up).val.rb).mono ?_); rw [HS2.out]; rintro e y2 ⟨rfl, rfl⟩))
    go_ret
    exact ⟨false, rfl, ⟨(fun h => nomatch h), fun h => absurd h HN.out⟩, HX2.out.up⟩
  have HS2 : Hid ((a.e.val == b.e.val) = true) := Lib.hid (beq_iff_eq.2 q_val)
  have Q_val := Lib.hid q_val
  clear q_val
  go_wp2_with (first
    | (go_at_call 43; have _t := tok1; clear tok1; go_must (refine (rSame_any a.e.row b.e.row _ _ _ _ _ _ _ (HA.out _ HX2.out.up).row.rb (HB.out _ HX2.out.up).row.rb).mono ?_); rw [HS0.out]; rintro e y0 ⟨rfl, rfl⟩)
    | (go_at_call 43; have _t := tok2; clear tok2; go_must (refine (rSame_any a.e.qual b.e.qual _ _ _ _ _ _ _ (HA.out _ HX2.out.up).qual.rb (HB.out _ HX2.out.up).qual.rb).mono ?_); rw [HS1.out]; rintro e y1 ⟨rfl, rfl⟩)
    | (go_at_call 43; go_must (refine (rSame_any a.e.val b.e.val _ _ _ _ _ _ _ (HA.out _ HX2.out.up).val.rb (HB.out _ HX2.out.up).val.rb).mono ?_); rw [HS2.out]; rintro e y2 ⟨rfl, rfl⟩))
  go_ret
  exact ⟨true, rfl, ⟨fun _ => ent_ext Q_fam.out Q_ts.out Q_seq.out Q_kind.out Q_row.out Q_qual.out Q_val.out, fun _ => rfl⟩, HX2.out.up⟩
set_option maxRecDepth 1000000 in
set_option maxHeartbeats 8000000 in
theorem sameAll_any (L M : List Ent) (A : Option Addr) (n c : Nat) (B : Option Addr) (m d : Nat) (w : World) (hl : Ens w A n L) (hm : Ens w B m M) (hn : n ≤ 1000000000) :
  Calls Tryz.prog 32 #[.slice A n c, .slice B m d] w fun e z => ∃ bo : Bool, e = .returned (.bool bo) ∧ (bo = true ↔ L = M) ∧ Below w.heap.size w z := by
 have HL : Hid (∀ z, Below w.heap.size w z → Ens z A n L) := Lib.hid fun z hz => hl.later hz
 have HM : Hid (∀ z, Below w.heap.size w z → Ens z B m M) := Lib.hid fun z hz => hm.later hz
 have HLL := Lib.hid hl.len
 have HML := Lib.hid hm.len
 have HX := Lib.hid (Below.refl w.heap.size w)
 clear hl hm
 by_cases h : n = m
 case neg =>
  have d1 : ((n : Int) != (m : Int)) = true := bne_iff_ne.2 (by omega)
  have d2 : (n != m) = true := bne_iff_ne.2 h
  have HN : Hid (L ≠ M) := Lib.hid fun hh => h (by rw [← HLL.out, ← HML.out, hh])
  clear h
  go_enter Tryz.func32, Tryz.ntmps32
  go_wp2_with fail
  go_ret
  exact ⟨false, rfl, ⟨(fun h => nomatch h), fun h => absurd h HN.out⟩, HX.out⟩
 subst h
 have d1 : ((n : Int) != (n : Int)) = false := by simp
 have d2 : (n != n) = false := by simp
 go_enter Tryz.func32, Tryz.ntmps32
 go_wp2_with fail
 go_loopw [5] (fun iv wr => ∃ k : Nat, k ≤ n ∧ iv = .int .i64 k ∧ Hid (L.take k = M.take k) ∧ Hid (Below w.heap.size w wr)) (fun iv _ => n - (intOf iv).toNat)
 case atStart => exact ⟨0, Nat.zero_le _, rfl, Lib.hid rfl, HX⟩
 case round =>
  clear HX
  obtain ⟨k, hkn, rfl, HTK, HX⟩ := hrel
  by_cases hlt : k < n
  case neg =>
   have hd : decide ((k : Int) < (n : Int)) = false := decide_eq_false (by omega)
   have HEQ : Hid (L = M) := Lib.hid (by
    have h1 := HTK.out
    rwa [take_all (by rw [HLL.out]; omega), take_all (by rw [HML.out]; omega)] at h1)
   go_wp2_with fail
   go_ret
   exact ⟨true, rfl, ⟨fun _ => HEQ.out, fun _ => rfl⟩, HX.out⟩
  have hd : decide ((k : Int) < (n : Int)) = true := decide_eq_true (by omega)
  have i1 : (0 : Int) ≤ (k : Int) := by omega
  have i2 : (k : Int) < (n : Int) := by omega
  obtain ⟨b1, o1, ra, rfl, hb1, he1, hr1, hA1⟩ := Ens.er3 HL.out hlt
  obtain ⟨b2, o2, rb, rfl, hb2, he2, hr2, hA2⟩ := Ens.er3 HM.out hlt
  have HR1 := Lib.hid hr1
  have HR2 := Lib.hid hr2
  have HA1 := Lib.hid hA1
  have HA2 := Lib.hid hA2
  have HE1 := Lib.hid he1
  have HE2 := Lib.hid he2
  clear hr1 hr2 hA1 hA2 he1 he2 hb1 hb2
  by_cases hq : ra.e = rb.e
  case neg =>
   have HNQ : Hid (L ≠ M) := Lib.hid fun hh => by
    have h1 := HE1.out
    rw [hh, HE2.out] at h1
    injection h1 with h1
    exact hq h1.symm
   have HQ : Hid (∀ bo : Bool, (bo = true ↔ ra.e = rb.e) → bo = false) := Lib.hid fun bo hb => by
    cases bo with
    | false => rfl
    | true => exact absurd (hb.1 rfl) hq
   clear hq
   go_upto_region 6 with fail
   refine lt_start [] (by kernel_rfl) ?_
   intro xd hd9
   refine ⟨fun z => Below w.heap.size w z, ?_⟩
   have HS := Lib.hid (HX.out.trans (hd9.mono HX.out.size))
   refine lp 0 rfl (v := ?_) (fun w => ?_) (fun _ => HS.out) ?_
   rotate_left
   ·first | (go_simp; done) | (go_simp; with_reducible rfl)
   simp only [Act.put, ls1, ls2, ls3]
   refine lp 1 rfl (v := ?_) (fun w => ?_) (fun _ => HS.out) ?_
   rotate_left
   ·first | (go_simp; done) | (go_simp; with_reducible rfl)
   simp only [Act.put, ls1, ls2, ls3]
   refine lp 2 rfl (v := ?_) (fun w => ?_) (fun _ => HS.out) ?_
   rotate_left
   ·first | (go_simp; done) | (go_simp; with_reducible rfl)
   simp only [Act.put, ls1, ls2, ls3]
   refine lq 3 [8, 9] rfl (yi_rowO rfl rfl rfl (fun w hS => HR1.out _ hS) ent_row5) HS.out ?_
   simp only [Act.put, ls1, ls2, ls3]
   refine lp 4 rfl (v := ?_) (fun w => ?_) (fun _ => HS.out) ?_
   rotate_left
   ·first | (go_simp; done) | (go_simp; with_reducible rfl)
   simp only [Act.put, ls1, ls2, ls3]
   refine lp 5 rfl (v := ?_) (fun w => ?_) (fun _ => HS.out) ?_
   rotate_left
   ·first | (go_simp; done) | (go_simp; with_reducible rfl)
   simp only [Act.put, ls1, ls2, ls3]
   refine lp 6 rfl (v := ?_) (fun w => ?_) (fun _ => HS.out) ?_
   rotate_left
   ·first | (go_simp; done) | (go_simp; with_reducible rfl)
   simp only [Act.put, ls1, ls2, ls3]
   refine lq 7 [8, 9] rfl (yi_rowO rfl rfl rfl (fun w hS => HR2.out _ hS) ent_row5) HS.out ?_
   simp only [Act.put, ls1, ls2, ls3]
   refine lt_call 8 rfl (by kernel_rfl) rfl rfl ⟨_, Tryz.func36, by decide, by kernel_rfl⟩ [.agg #[.slice ra.A ra.e.row.length ra.c, .int .i64 ra.e.fam, .slice ra.B ra.e.qual.length ra.d, .int .i64 ra.e.ts, .int .i64 ra.e.seq, .int .i64 ra.e.kind, .slice ra.D ra.e.val.length ra.q], .agg #[.slice rb.A rb.e.row.length rb.c, .int .i64 rb.e.fam, .slice rb.B rb.e.qual.length rb.d, .int .i64 rb.e.ts, .int .i64 rb.e.seq, .int .i64 rb.e.kind, .slice rb.D rb.e.val.length rb.q]] rfl ?_
   refine (same7_any ra rb _ (HA1.out _ HS.out) (HA2.out _ HS.out)).mono ?_
   rintro e z8 ⟨bo, rfl, hbo, hb⟩
   obtain rfl := HQ.out bo hbo
   replace HS : Hid (Below w.heap.size w z8) := Lib.hid (HS.out.trans (hb.mono HS.out.size))
   clear hb hbo
   refine ⟨_, rfl, fun _ => HS.out, ?_⟩
   simp only [Act.put, ls1, ls2, ls3]
   refine lp 9 rfl (v := ?_) (fun w => ?_) (fun _ => HS.out) ?_
   rotate_left
   ·first | (go_simp; done) | (go_simp; with_reducible rfl)
   simp only [Act.put, ls1, ls2, ls3]
   refine lt_done (by kernel_rfl) ?_
   have HX9 := HS
   clear HS
   go_wp2_with fail
   go_ret
   exact ⟨false, rfl, ⟨(fun h => nomatch h), fun h => absurd h HNQ.out⟩, HX9.out⟩
  have HQ : Hid (∀ bo : Bool, (bo = true ↔ ra.e = rb.e) → bo = true) := Lib.hid fun bo hb => hb.2 hq
  have HTK2 : Hid (L.take (k + 1) = M.take (k + 1)) := Lib.hid (by rw [take_snoc HE1.out, take_snoc HE2.out, HTK.out, hq])
  clear hq
  go_upto_region 6 with fail
  refine lt_start [] (by kernel_rfl) ?_
  intro xd hd9
  refine ⟨fun z => Below w.heap.size w z, ?_⟩
  have HS := Lib.hid (HX.out.trans (hd9.mono HX.out.size))
  refine lp 0 rfl (v := ?_) (fun w => ?_) (fun _ => HS.out) ?_
  rotate_left
  ·first | (go_simp; done) | (go_simp; with_reducible rfl)
  simp only [Act.put, ls1, ls2, ls3]
  refine lp 1 rfl (v := ?_) (fun w => ?_) (fun _ => HS.out) ?_
  rotate_left
  ·first | (go_simp; done) | (go_simp; with_reducible rfl)
  simp only [Act.put, ls1, ls2, ls3]
  refine lp 2 rfl (v := ?_) (fun w => ?_) (fun _ => HS.out) ?_
  rotate_left
  ·first | (go_simp; done) | (go_simp; with_reducible rfl)
  simp only [Act.put, ls1, ls2, ls3]
  refine lq 3 [8, 9] rfl (yi_rowO rfl rfl rfl (fun w hS => HR1.out _ hS) ent_row5) HS.out ?_
  simp only [Act.put, ls1, ls2, ls3]
  refine lp 4 rfl (v := ?_) (fun w => ?_) (fun _ => HS.out) ?_
  rotate_left
  ·first | (go_simp; done) | (go_simp; with_reducible rfl)
  simp only [Act.put, ls1, ls2, ls3]
  refine lp 5 rfl (v := ?_) (fun w => ?_) (fun _ => HS.out) ?_
  rotate_left
  ·first | (go_simp; done) | (go_simp; with_reducible rfl)
  simp only [Act.put, ls1, ls2, ls3]
  refine lp 6 rfl (v := ?_) (fun w => ?_) (fun _ => HS.out) ?_
  rotate_left
  ·first | (go_simp; done) | (go_simp; with_reducible rfl)
  simp only [Act.put, ls1, ls2, ls3]
  refine lq 7 [8, 9] rfl (yi_rowO rfl rfl rfl (fun w hS => HR2.out _ hS) ent_row5) HS.out ?_
  simp only [Act.put, ls1, ls2, ls3]
  refine lt_call 8 rfl (by kernel_rfl) rfl rfl ⟨_, Tryz.func36, by decide, by kernel_rfl⟩ [.agg #[.slice ra.A ra.e.row.length ra.c, .int .i64 ra.e.fam, .slice ra.B ra.e.qual.length ra.d, .int .i64 ra.e.ts, .int .i64 ra.e.seq, .int .i64 ra.e.kind, .slice ra.D ra.e.val.length ra.q], .agg #[.slice rb.A rb.e.row.length rb.c, .int .i64 rb.e.fam, .slice rb.B rb.e.qual.length rb.d, .int .i64 rb.e.ts, .int .i64 rb.e.seq, .int .i64 rb.e.kind, .slice rb.D rb.e.val.length rb.q]] rfl ?_
  refine (same7_any ra rb _ (HA1.out _ HS.out) (HA2.out _ HS.out)).mono ?_
  rintro e z8 ⟨bo, rfl, hbo, hb⟩
  obtain rfl := HQ.out bo hbo
  replace HS : Hid (Below w.heap.size w z8) := Lib.hid (HS.out.trans (hb.mono HS.out.size))
  clear hb hbo
  refine ⟨_, rfl, fun _ => HS.out, ?_⟩
  simp only [Act.put, ls1, ls2, ls3]
  refine lp 9 rfl (v := ?_) (fun w => ?_) (fun _ => HS.out) ?_
  rotate_left
  ·first | (go_simp; done) | (go_simp; with_reducible rfl)
  simp only [Act.put, ls1, ls2, ls3]
  refine lt_done (by kernel_rfl) ?_
  have HX9 := HS
  clear HS
  go_wp2_with fail
  go_roundw
  case rel => exact ⟨k + 1, by omega, by go_num, HTK2, HX9⟩
  case measure => simp [intOf]; omega
def FirstP (w : World) (r : Ending) (z : World) : Prop := ∃ A B D, r = .returned (entV A 1 1 B 1 1 D 1 1 firstE) ∧ En z A 1 1 B 1 1 D 1 1 firstE ∧ Below w.heap.size w z
set_option maxRecDepth 100000 in
set_option maxHeartbeats 2000000 in
theorem first_any (w : World) : Calls Tryz.prog 39 #[] w (FirstP w) := by
  have kc := conv_const
  go_enter Tryz.func39, Tryz.ntmps39
  go_wp2
  (try simp only [Exit.inBlock, Exit.then])
  obtain ⟨h1, h2, h3, hb⟩ := three_lits w (.cells #[.slice (some ⟨w.heap.size + 1, 0, none⟩) 1 1, .int .i64 0, .slice (some ⟨w.heap.size + 1 + 1, 0, none⟩) 1 1, .int .i64 7, .int .i64 33, .int .i64 1, .slice (some ⟨w.heap.size + 1 + 1 + 1, 0, none⟩) 1 1] 60) 97 113 118 5 (1, 2) _ rfl
  have HB := (Bxs.one w 60 #[.slice (some ⟨w.heap.size + 1, 0, none⟩) 1 1, .int .i64 0, .slice (some ⟨w.heap.size + 1 + 1, 0, none⟩) 1 1, .int .i64 7, .int .i64 33, .int .i64 1, .slice (some ⟨w.heap.size + 1 + 1 + 1, 0, none⟩) 1 1]).later hb
  refine bodyPost_ret (results_box0 rfl _ _ w.heap.size _ rfl (HB.cells0 rfl) (by kernel_rfl) (by kernel_rfl)) rfl ?_
  exact ⟨_, _, _, rfl, ⟨h1, h2, h3⟩, HB.up⟩
def plainO : OptR := ⟨64, 10, 9, 3, 5⟩
set_option maxRecDepth 1000000 in
theorem plain_any (w : World) : Calls Tryz.prog 84 #[] w fun e z => e = .returned (.agg #[.int .i64 64, .int .i64 10, .int .i64 9, .int .i64 3, .int .i64 5]) ∧ Below w.heap.size w z := by
  have HX := Lib.hid (OW.nil w)
  go_enter Tryz.func84, Tryz.ntmps84
  go_wp2_with (first
    | (refine wl_alloc rfl rfl [.int .i64 0, .int .i64 0, .int .i64 0, .int .i64 0, .int .i64 0] (.inl (by kernel_rfl)) HX.out ?_; intro g0 x0 hz _; have HX0 : Hid (OW w [boxO g0 [.int .i64 0, .int .i64 0, .int .i64 0, .int .i64 0, .int .i64 0]] x0) := Lib.hid hz; clear hz HX)
    | (refine wl_put rfl (.tmp 0) (.tmp 1) rfl HX0.out 0 rfl rfl [.int .i64 64, .int .i64 10, .int .i64 9, .int .i64 3, .int .i64 5] rfl rfl (by kernel_rfl) (by simp [Value.oneCell']) ?_; intro x4 hz _; have HX4 := Lib.hid hz; clear hz HX0))
  refine bodyPost_ret (results_rowL rfl _ _ g0 [.int .i64 64, .int .i64 10, .int .i64 9, .int .i64 3, .int .i64 5] rfl (HX4.out.range (i := 0) rfl) (by kernel_rfl) (by kernel_rfl)) rfl ?_
  exact ⟨rfl, HX4.out.up⟩
structure SrtN (w : World) (rs : List ER) (L : List Ent) : Prop where
  ents : rs.map ER.e = L
  en : ∀ r, r ∈ rs → r.En w
theorem SrtN.len {w : World} {rs : List ER} {L : List Ent} (h : SrtN w rs L) : rs.length = L.length := by rw [← h.ents, List.length_map]
theorem SrtN.at_ {w : World} {rs : List ER} {L : List Ent} (h : SrtN w rs L) {j : Nat} {r : ER} (hr : rs[j]? = some r) : L[j]? = some r.e := by rw [← h.ents, List.getElem?_map, hr]; rfl
theorem SrtN.later {w x : World} {rs : List ER} {L : List Ent} (h : SrtN w rs L) (hb : Below w.heap.size w x) : SrtN x rs L := ⟨h.ents, fun r hr => (h.en r hr).later hb⟩
theorem OW.base {w y z : World} {os : List Ob} (hb : Below w.heap.size w y) (h : OW y os z) : OW w os z := by
  have h0 : OW w [] y := ⟨hb, fun _ h => (by cases h), List.Pairwise.nil⟩
  exact h0.app h
set_option maxRecDepth 1000000 in
set_option maxHeartbeats 8000000 in
theorem ordered7_any (index : Int) (hix : 0 ≤ index ∧ index ≤ 1099511627776) (es : List Ent) (A : Option Addr) (n c : Nat) (w : World) (hes : Ens w A n es) (hel : ∀ e, e ∈ es → e.row.length ≤ 140737488355000 ∧ e.qual.length ≤ 140737488355000 ∧ e.val.length ≤ 140737488355000) :
  Calls Tryz.prog 38 #[.slice A n c, .int .i64 index] w fun e z => ∃ (MA : Option Addr) (mc k : Nat), e = .returned (.slice MA k mc) ∧ k ≤ 120 ∧ Ens z MA k (ordL index (es.take 120)) ∧ Below w.heap.size w z := by
 obtain ⟨hix1, hix2⟩ := hix
 have HEL := Lib.hid hel
 have HLE := Lib.hid hes.len
 have HES : Hid (∀ z, Below w.heap.size w z → Ens z A n es) := Lib.hid fun z hz => hes.later hz
 have HX0 : Hid (OW w [rowO 60 7 (.slice none 0 0) 0 []] w) := Lib.hid ((OW.nil w).nilRow 60 7)
 have w1 : IntKind.i64.wrap (16 * index) = 16 * index := i64_sum (by omega) (by omega)
 have w2 : IntKind.i64.wrap (16 * index + 15) = 16 * index + 15 := i64_sum (by omega) (by omega)
 clear hes hel hix1 hix2
 go_enter Tryz.func38, Tryz.ntmps38
 go_wp2_with fail
 go_loopw [5, 6] (fun mv iv wr => ∃ (i k : Nat) (MA : Option Addr) (mc : Nat) (rs : List ER), i ≤ n ∧ i ≤ 120 ∧ k ≤ i ∧ iv = .int .i64 i ∧ mv = .slice MA k mc ∧ Hid (rs.length = k) ∧ Hid (SrtN wr rs (ordL index (es.take i))) ∧ Hid (OW w [rowO 60 7 (.slice MA k mc) k (rs.flatMap ER.cells)] wr)) (fun _ iv _ => 120 - (intOf iv).toNat)
 case atStart => exact ⟨0, 0, none, 0, [], Nat.zero_le _, by omega, Nat.le_refl _, rfl, rfl, Lib.hid rfl, Lib.hid ⟨rfl, fun r h => by cases h⟩, HX0⟩
 case round =>
  clear HX0
  obtain ⟨i, k, MA, mc, rs, hin, hi120, hki, rfl, rfl, HRL, HSR, HX⟩ := hrel
  by_cases hgo : i < n ∧ i < 120
  case neg =>
   have HTK : Hid (es.take i = es.take 120) := Lib.hid (by
    rcases Nat.lt_or_ge i n with h | h
    ·rw [show i = 120 from by omega]
    ·rw [take_all (by have := HLE.out; omega), take_all (by have := HLE.out; omega)])
   have hk120 : k ≤ 120 := by omega
   by_cases hlt : i < n
   ·have hd : decide ((i : Int) < (n : Int)) = true := decide_eq_true (by omega)
    have hd2 : decide ((i : Int) < 120) = false := decide_eq_false (by omega)
    have hd3 : ¬ i < 120 := by omega
    clear hgo
    go_wp2_with fail
    go_ret
    exact ⟨MA, mc, k, rfl, hk120, by rw [← HTK.out, ← HSR.out.ents]; exact HX.out.ens (i := 0) rfl HSR.out.en, HX.out.up⟩
   ·have hd : decide ((i : Int) < (n : Int)) = false := decide_eq_false (by omega)
    clear hgo
    go_wp2_with fail
    go_ret
    exact ⟨MA, mc, k, rfl, hk120, by rw [← HTK.out, ← HSR.out.ents]; exact HX.out.ens (i := 0) rfl HSR.out.en, HX.out.up⟩
  obtain ⟨hlt, hlt120⟩ := hgo
  have hd : decide ((i : Int) < (n : Int)) = true := decide_eq_true (by omega)
  have hd2 : decide ((i : Int) < 120) = true := decide_eq_true (by omega)
  obtain ⟨b, oo, Ar, ec, B, d, D, q, e, rfl, hbl2, hek, hrg, hen⟩ := (HES.out w (Below.refl _ _)).at_ hlt
  have HRG : Hid (∀ z, Below w.heap.size w z → z.rangeAt b (oo + i * 7) [.slice Ar e.row.length ec, .int .i64 e.fam, .slice B e.qual.length d, .int .i64 e.ts, .int .i64 e.seq, .int .i64 e.kind, .slice D e.val.length q]) := Lib.hid fun z hz j v hj => (hz.cell (p := ⟨b, _, none⟩) hbl2).trans (hrg j v hj)
  have HEN : Hid (∀ z, Below w.heap.size w z → En z Ar e.row.length ec B e.qual.length d D e.val.length q e) := Lib.hid fun z hz => hen.later hz
  have HTK : Hid (ordL index (es.take (i + 1)) = ordStep index (ordL index (es.take i)) e) := Lib.hid (by rw [take_snoc hek, ordL_snoc])
  have HLN := Lib.hid (HEL.out e (List.mem_of_getElem? hek))
  obtain ⟨m, hm⟩ : ∃ z, z = ordL index (es.take i) := ⟨_, rfl⟩
  rw [← hm] at HSR HTK
  have i1 : (0 : Int) ≤ (i : Int) := by omega
  have i2 : (i : Int) < (n : Int) := by omega
  clear hek hrg hen hm
  obtain ⟨wp, rfl⟩ : ∃ z : World, z = wr := ⟨_, rfl⟩
  go_upto_region 6 with (first
   | (refine wpList_load_at rfl 60 (.tmp 22) rfl rfl (HRG.out _ HX.out.up) ent_row5 ?_)
   | (go_at_call 62; go_must (refine (copied7_any e Ar _ ec B _ d D _ q _ (HEN.out _ HX.out.up) HLN.out).mono ?_); rintro r y1 ⟨s, hse, rfl, hz⟩; have HRW : Hid (∀ z, Below y1.heap.size y1 z → OW w [rowO 60 7 (.slice MA k mc) k (rs.flatMap ER.cells)] z) := Lib.hid fun z hb => (HX.out.later hz.up).later hb; have HSE := Lib.hid hse; have HSN : Hid (∀ z, Below y1.heap.size y1 z → s.En z) := Lib.hid fun z hb => ER.En.later ⟨hz.sl (i := 0) rfl rfl, hz.sl (i := 1) rfl rfl, hz.sl (i := 2) rfl rfl⟩ hb; have HSR1 : Hid (∀ z, Below y1.heap.size y1 z → SrtN z rs m) := Lib.hid fun z hb => (HSR.out.later hz.up).later hb; have HX1 := Lib.hid (OW.nil y1); clear hz hse HX HSR)
   | (refine wl_alloc rfl rfl [.slice none 0 0, .int .i64 0, .slice none 0 0, .int .i64 0, .int .i64 0, .int .i64 0, .slice none 0 0] (.inl (by kernel_rfl)) HX1.out ?_; intro g7 y2 hz _; have HX2 : Hid (OW y1 [boxO g7 [.slice none 0 0, .int .i64 0, .slice none 0 0, .int .i64 0, .int .i64 0, .int .i64 0, .slice none 0 0]] y2) := Lib.hid hz; clear hz HX1)
   | (refine wl_put rfl (.tmp 7) (.tmp 24) rfl HX2.out 0 rfl rfl [.slice s.A s.e.row.length s.c, .int .i64 s.e.fam, .slice s.B s.e.qual.length s.d, .int .i64 s.e.ts, .int .i64 s.e.seq, .int .i64 s.e.kind, .slice s.D s.e.val.length s.q] rfl rfl (by kernel_rfl) (by simp [Value.oneCell']) ?_; intro y3 hz _; have HX : Hid (OW y1 [boxO g7 [.slice s.A s.e.row.length s.c, .int .i64 s.e.fam, .slice s.B s.e.qual.length s.d, .int .i64 s.e.ts, .int .i64 s.e.seq, .int .i64 s.e.kind, .slice s.D s.e.val.length s.q]] y3) := Lib.hid hz; clear hz HX2))
  have HML : Hid (m.length = k) := Lib.hid (by rw [← (HSR1.out _ (Below.refl _ _)).len]; exact HRL.out)
  obtain ⟨ce, hce⟩ : ∃ z, z = checkE s.e := ⟨_, rfl⟩
  have HCE := Lib.hid hce.symm
  rw [← HSE.out] at HTK
  clear hce hd hd2
  by_cases hc : ce = 0
  case neg =>
   have hd3 : (ce != 0) = true := bne_iff_ne.2 hc
   have HST : Hid (ordStep index m s.e = m) := Lib.hid (by unfold ordStep; rw [if_pos (.inl (by rw [HCE.out]; exact hc))])
   clear hc
   go_wp2_with (first
    | (refine wpList_load_row7 rfl 60 (.tmp 7) rfl rfl (HX.out.range (i := 0) rfl) ent_row5 ?_)
    | (go_at_call 96; go_must (refine (rCheckE_any s.e s.A _ s.c s.B _ s.d s.D _ s.q _ (HSN.out _ HX.out.up)).mono ?_); rw [HCE.out]; rintro r y4 ⟨rfl, hb⟩; have HX1 := Lib.hid (HX.out.later hb); clear hb HX))
   go_roundw
   case rel => exact ⟨i + 1, k, MA, mc, rs, by omega, by omega, by omega, by go_num, rfl, HRL, Lib.hid (by rw [HTK.out, HST.out]; exact HSR1.out _ HX1.out.up), Lib.hid (HRW.out _ HX1.out.up)⟩
   case measure => simp [intOf]; omega
  have hd3 : (ce != 0) = false := by rw [hc]; rfl
  have c4 := HX.out.cell (i := 0) (j := 4) rfl rfl
  by_cases hsq : 16 * index + 15 < s.e.seq
  case pos =>
   have hd4 : decide (s.e.seq > 16 * index + 15) = true := decide_eq_true hsq
   have hd5 : decide (16 * index + 15 < s.e.seq) = true := decide_eq_true hsq
   have HST : Hid (ordStep index m s.e = m) := Lib.hid (by unfold ordStep; rw [if_pos (.inr hsq)])
   clear hc c4
   go_wp2_with (first
    | (refine wpList_load_row7 rfl 60 (.tmp 7) rfl rfl (HX.out.range (i := 0) rfl) ent_row5 ?_)
    | (go_at_call 96; go_must (refine (rCheckE_any s.e s.A _ s.c s.B _ s.d s.D _ s.q _ (HSN.out _ HX.out.up)).mono ?_); rw [HCE.out]; rintro r y4 ⟨rfl, hb⟩; have HX1 := Lib.hid (HX.out.later hb); clear hb HX)
    | (refine wpList_load_cell rfl 3 (.tmp 29) rfl rfl (HX1.out.cell (i := 0) (j := 4) rfl rfl) (fun w => Tryz.isAgg3 w) ?_))
   go_roundw
   case rel => exact ⟨i + 1, k, MA, mc, rs, by omega, by omega, by omega, by go_num, rfl, HRL, Lib.hid (by rw [HTK.out, HST.out]; exact HSR1.out _ HX1.out.up), Lib.hid (HRW.out _ HX1.out.up)⟩
   case measure => simp [intOf]; omega
  have hd4 : decide (s.e.seq > 16 * index + 15) = false := decide_eq_false hsq
  have hd5 : decide (16 * index + 15 < s.e.seq) = false := decide_eq_false hsq
  have HST : Hid (ordStep index m s.e = insE m s.e) := Lib.hid (by
   unfold ordStep
   rw [if_neg]
   rintro (h | h)
   ·exact h (by rw [HCE.out]; exact hc)
   ·exact hsq h)
  obtain ⟨N, hN⟩ : ∃ z, z = insN m s.e := ⟨_, rfl⟩
  have hNk : N ≤ k := by rw [hN, ← HML.out]; exact twN_le _ _
  have HN := Lib.hid hN
  clear hc hN c4
  go_upto_region 8 with (first
    | (refine wpList_load_row7 rfl 60 (.tmp 7) rfl rfl (HX.out.range (i := 0) rfl) ent_row5 ?_)
    | (go_at_call 96; go_must (refine (rCheckE_any s.e s.A _ s.c s.B _ s.d s.D _ s.q _ (HSN.out _ HX.out.up)).mono ?_); rw [HCE.out]; rintro r y4 ⟨rfl, hb⟩; have HX1 : Hid (OW y1 [boxO g7 [.slice s.A s.e.row.length s.c, .int .i64 s.e.fam, .slice s.B s.e.qual.length s.d, .int .i64 s.e.ts, .int .i64 s.e.seq, .int .i64 s.e.kind, .slice s.D s.e.val.length s.q]] y4) := Lib.hid (HX.out.later hb); clear hb HX)
    | (refine wpList_load_cell rfl 3 (.tmp 29) rfl rfl (HX1.out.cell (i := 0) (j := 4) rfl rfl) (fun w => Tryz.isAgg3 w) ?_))
  clear hd3 hd4 hd5 hsq
  have hk120 : k ≤ 120 := by omega
  go_loopw [8] (fun av wr => ∃ a : Nat, a ≤ N ∧ av = .int .i64 a ∧ Hid (OW y1 [boxO g7 [.slice s.A s.e.row.length s.c, .int .i64 s.e.fam, .slice s.B s.e.qual.length s.d, .int .i64 s.e.ts, .int .i64 s.e.seq, .int .i64 s.e.kind, .slice s.D s.e.val.length s.q]] wr)) (fun av _ => 120 - (intOf av).toNat)
  case atStart => exact ⟨0, Nat.zero_le _, rfl, HX1⟩
  case round =>
   clear HX1
   obtain ⟨a, haN, rfl, HX⟩ := hrel
   by_cases hak : a < k
   case pos =>
    have hda : decide ((a : Int) < (k : Int)) = true := decide_eq_true (by omega)
    have hda2 : a < k := hak
    obtain ⟨mg, mcap, hv, _⟩ := own_form ((HRW.out _ HX.out.up).row (i := 0) rfl) (show 0 < k by omega)
    injection hv with hv _ hcp
    subst hv
    subst hcp
    obtain ⟨r, hr⟩ : ∃ r, rs[a]? = some r := ⟨_, List.getElem?_eq_getElem (by have := HRL.out; omega)⟩
    have HR := Lib.hid hr
    have HRE : Hid (∀ z, Below y1.heap.size y1 z → r.En z) := Lib.hid fun z hz => (HSR1.out z hz).en r (List.mem_of_getElem? hr)
    have HMA : Hid (m[a]? = some r.e) := Lib.hid ((HSR1.out _ (Below.refl _ _)).at_ hr)
    obtain ⟨cv, hcv⟩ : ∃ z, z = cmpE r.e s.e := ⟨_, rfl⟩
    have HCV := Lib.hid hcv.symm
    have HIF : Hid (cv < 0 ↔ a < N) := Lib.hid (by
     have h := tw_iff (p := fun x => decide (cmpE x s.e < 0)) HMA.out (by have := HN.out; unfold insN at this; omega)
     rw [hcv, HN.out]
     simpa [insN] using h)
    have j1 : (0 : Int) ≤ (a : Int) := by omega
    have j2 : (a : Int) < (k : Int) := by omega
    clear hr hcv
    by_cases haN2 : a < N
    case pos =>
     have hcv0 : cv < 0 := HIF.out.2 haN2
     have hdc : decide (cv < 0) = true := decide_eq_true hcv0
     go_wp2_with fail
     refine lt_start [] (by kernel_rfl) ?_
     intro xd hd
     refine ⟨fun z => OW y1 [boxO g7 [.slice s.A s.e.row.length s.c, .int .i64 s.e.fam, .slice s.B s.e.qual.length s.d, .int .i64 s.e.ts, .int .i64 s.e.seq, .int .i64 s.e.kind, .slice s.D s.e.val.length s.q]] z, ?_⟩
     have HS := Lib.hid (HX.out.later hd)
     refine lp 0 rfl (v := ?_) (fun w => ?_) (fun _ => HS.out) ?_
     rotate_left
     ·first | (go_simp; done) | (go_simp; with_reducible rfl)
     simp only [Act.put, ls1, ls2, ls3]
     refine lp 1 rfl (v := ?_) (fun w => ?_) (fun _ => HS.out) ?_
     rotate_left
     ·first | (go_simp; done) | (go_simp; with_reducible rfl)
     simp only [Act.put, ls1, ls2, ls3]
     refine lp 2 rfl (v := ?_) (fun w => ?_) (fun _ => HS.out) ?_
     rotate_left
     ·first | (go_simp; done) | (go_simp; with_reducible rfl)
     simp only [Act.put, ls1, ls2, ls3]
     refine lp 3 rfl (v := ?_) (fun w => ?_) (fun _ => HS.out) ?_
     rotate_left
     ·first | (go_simp; done) | (go_simp; with_reducible rfl)
     simp only [Act.put, ls1, ls2, ls3]
     refine lp 4 rfl (v := ?_) (fun w => ?_) (fun _ => HS.out) ?_
     rotate_left
     ·first | (go_simp; done) | (go_simp; with_reducible rfl)
     simp only [Act.put, ls1, ls2, ls3]
     refine lp 5 rfl (v := ?_) (fun w => ?_) (fun _ => HS.out) ?_
     rotate_left
     ·first | (go_simp; done) | (go_simp; with_reducible rfl)
     simp only [Act.put, ls1, ls2, ls3]
     refine lp 6 rfl (v := ?_) (fun w => ?_) (fun _ => HS.out) ?_
     rotate_left
     ·first | (go_simp; done) | (go_simp; with_reducible rfl)
     simp only [Act.put, ls1, ls2, ls3]
     refine lp 7 rfl (v := ?_) (fun w => ?_) (fun _ => HS.out) ?_
     rotate_left
     ·first | (go_simp; done) | (go_simp; with_reducible rfl)
     simp only [Act.put, ls1, ls2, ls3]
     refine lq 8 [10, 11, 12] rfl (yi_rowO rfl rfl rfl (fun w hS => OW.rowRange (HRW.out _ (OW.up hS)) (i := 0) rfl HR.out) ent_row5) HS.out ?_
     simp only [Act.put, ls1, ls2, ls3]
     refine lq 9 [10, 11, 12] rfl (yi_rowO rfl rfl rfl (fun w hS => OW.range hS (i := 0) rfl) ent_row5) HS.out ?_
     simp only [Act.put, ls1, ls2, ls3]
     refine lt_call 10 rfl (by kernel_rfl) rfl rfl ⟨_, Tryz.func40, by decide, by kernel_rfl⟩ [entV r.A r.e.row.length r.c r.B r.e.qual.length r.d r.D r.e.val.length r.q r.e, entV s.A s.e.row.length s.c s.B s.e.qual.length s.d s.D s.e.val.length s.q s.e] rfl ?_
     refine (rcompare_any r.e s.e r.A _ r.c r.B _ r.d r.D _ r.q s.A _ s.c s.B _ s.d s.D _ s.q _ (HRE.out _ HS.out.up) (HSN.out _ HS.out.up)).mono ?_
     rw [HCV.out]
     rintro rr z9 ⟨rfl, hb⟩
     replace HS := Lib.hid (HS.out.later hb)
     clear hb
     refine ⟨_, rfl, fun _ => HS.out, ?_⟩
     simp only [Act.put, ls1, ls2, ls3]
     refine lp 11 rfl (v := ?_) (fun w => ?_) (fun _ => HS.out) ?_
     rotate_left
     ·first | (go_simp; done) | (go_simp; with_reducible rfl)
     simp only [Act.put, ls1, ls2, ls3]
     refine lp 12 rfl (v := ?_) (fun w => ?_) (fun _ => HS.out) ?_
     rotate_left
     ·first | (go_simp; done) | (go_simp; with_reducible rfl)
     simp only [Act.put, ls1, ls2, ls3]
     refine lt_done (by kernel_rfl) ?_
     have HS9 := HS
     clear HS
     have HX2 := Lib.hid HS9.out
     clear HS9 HX
     go_wp2_with fail
     go_roundw
     case rel => exact ⟨a + 1, by omega, by go_num, HX2⟩
     case measure => simp [intOf]; omega
    have hcv0 : ¬ cv < 0 := fun h => haN2 (HIF.out.1 h)
    have hdc : decide (cv < 0) = false := decide_eq_false hcv0
    have HAN : Hid (a = N) := Lib.hid (by omega)
    go_wp2_with fail
    refine lt_start [] (by kernel_rfl) ?_
    intro xd hd
    refine ⟨fun z => OW y1 [boxO g7 [.slice s.A s.e.row.length s.c, .int .i64 s.e.fam, .slice s.B s.e.qual.length s.d, .int .i64 s.e.ts, .int .i64 s.e.seq, .int .i64 s.e.kind, .slice s.D s.e.val.length s.q]] z, ?_⟩
    have HS := Lib.hid (HX.out.later hd)
    refine lp 0 rfl (v := ?_) (fun w => ?_) (fun _ => HS.out) ?_
    rotate_left
    ·first | (go_simp; done) | (go_simp; with_reducible rfl)
    simp only [Act.put, ls1, ls2, ls3]
    refine lp 1 rfl (v := ?_) (fun w => ?_) (fun _ => HS.out) ?_
    rotate_left
    ·first | (go_simp; done) | (go_simp; with_reducible rfl)
    simp only [Act.put, ls1, ls2, ls3]
    refine lp 2 rfl (v := ?_) (fun w => ?_) (fun _ => HS.out) ?_
    rotate_left
    ·first | (go_simp; done) | (go_simp; with_reducible rfl)
    simp only [Act.put, ls1, ls2, ls3]
    refine lp 3 rfl (v := ?_) (fun w => ?_) (fun _ => HS.out) ?_
    rotate_left
    ·first | (go_simp; done) | (go_simp; with_reducible rfl)
    simp only [Act.put, ls1, ls2, ls3]
    refine lp 4 rfl (v := ?_) (fun w => ?_) (fun _ => HS.out) ?_
    rotate_left
    ·first | (go_simp; done) | (go_simp; with_reducible rfl)
    simp only [Act.put, ls1, ls2, ls3]
    refine lp 5 rfl (v := ?_) (fun w => ?_) (fun _ => HS.out) ?_
    rotate_left
    ·first | (go_simp; done) | (go_simp; with_reducible rfl)
    simp only [Act.put, ls1, ls2, ls3]
    refine lp 6 rfl (v := ?_) (fun w => ?_) (fun _ => HS.out) ?_
    rotate_left
    ·first | (go_simp; done) | (go_simp; with_reducible rfl)
    simp only [Act.put, ls1, ls2, ls3]
    refine lp 7 rfl (v := ?_) (fun w => ?_) (fun _ => HS.out) ?_
    rotate_left
    ·first | (go_simp; done) | (go_simp; with_reducible rfl)
    simp only [Act.put, ls1, ls2, ls3]
    refine lq 8 [10, 11, 12] rfl (yi_rowO rfl rfl rfl (fun w hS => OW.rowRange (HRW.out _ (OW.up hS)) (i := 0) rfl HR.out) ent_row5) HS.out ?_
    simp only [Act.put, ls1, ls2, ls3]
    refine lq 9 [10, 11, 12] rfl (yi_rowO rfl rfl rfl (fun w hS => OW.range hS (i := 0) rfl) ent_row5) HS.out ?_
    simp only [Act.put, ls1, ls2, ls3]
    refine lt_call 10 rfl (by kernel_rfl) rfl rfl ⟨_, Tryz.func40, by decide, by kernel_rfl⟩ [entV r.A r.e.row.length r.c r.B r.e.qual.length r.d r.D r.e.val.length r.q r.e, entV s.A s.e.row.length s.c s.B s.e.qual.length s.d s.D s.e.val.length s.q s.e] rfl ?_
    refine (rcompare_any r.e s.e r.A _ r.c r.B _ r.d r.D _ r.q s.A _ s.c s.B _ s.d s.D _ s.q _ (HRE.out _ HS.out.up) (HSN.out _ HS.out.up)).mono ?_
    rw [HCV.out]
    rintro rr z9 ⟨rfl, hb⟩
    replace HS := Lib.hid (HS.out.later hb)
    clear hb
    refine ⟨_, rfl, fun _ => HS.out, ?_⟩
    simp only [Act.put, ls1, ls2, ls3]
    refine lp 11 rfl (v := ?_) (fun w => ?_) (fun _ => HS.out) ?_
    rotate_left
    ·first | (go_simp; done) | (go_simp; with_reducible rfl)
    simp only [Act.put, ls1, ls2, ls3]
    refine lp 12 rfl (v := ?_) (fun w => ?_) (fun _ => HS.out) ?_
    rotate_left
    ·first | (go_simp; done) | (go_simp; with_reducible rfl)
    simp only [Act.put, ls1, ls2, ls3]
    refine lt_done (by kernel_rfl) ?_
    have HS9 := HS
    clear HS
    have HX2 := Lib.hid HS9.out
    clear HS9 HX
    go_wp2_with fail
    by_cases hc0 : cv = 0
    case pos =>
     have hde : (cv == 0) = true := by rw [hc0]; rfl
     have HIN : Hid (insE m s.e = m) := Lib.hid (by
      unfold insE
      rw [if_pos]
      unfold hitB
      rw [← HN.out, ← HAN.out, HMA.out]
      show (cmpE r.e s.e == 0) = true
      rw [HCV.out]; exact hde)
     clear hc0 hcv0
     refine lt_start [] (by kernel_rfl) ?_
     intro xd hd
     refine ⟨fun z => OW y1 [boxO g7 [.slice s.A s.e.row.length s.c, .int .i64 s.e.fam, .slice s.B s.e.qual.length s.d, .int .i64 s.e.ts, .int .i64 s.e.seq, .int .i64 s.e.kind, .slice s.D s.e.val.length s.q]] z, ?_⟩
     have HS := Lib.hid (HX2.out.later hd)
     refine lp 0 rfl (v := ?_) (fun w => ?_) (fun _ => HS.out) ?_
     rotate_left
     ·first | (go_simp; done) | (go_simp; with_reducible rfl)
     simp only [Act.put, ls1, ls2, ls3]
     refine lp 1 rfl (v := ?_) (fun w => ?_) (fun _ => HS.out) ?_
     rotate_left
     ·first | (go_simp; done) | (go_simp; with_reducible rfl)
     simp only [Act.put, ls1, ls2, ls3]
     refine lp 2 rfl (v := ?_) (fun w => ?_) (fun _ => HS.out) ?_
     rotate_left
     ·first | (go_simp; done) | (go_simp; with_reducible rfl)
     simp only [Act.put, ls1, ls2, ls3]
     refine lp 3 rfl (v := ?_) (fun w => ?_) (fun _ => HS.out) ?_
     rotate_left
     ·first | (go_simp; done) | (go_simp; with_reducible rfl)
     simp only [Act.put, ls1, ls2, ls3]
     refine lp 4 rfl (v := ?_) (fun w => ?_) (fun _ => HS.out) ?_
     rotate_left
     ·first | (go_simp; done) | (go_simp; with_reducible rfl)
     simp only [Act.put, ls1, ls2, ls3]
     refine lp 5 rfl (v := ?_) (fun w => ?_) (fun _ => HS.out) ?_
     rotate_left
     ·first | (go_simp; done) | (go_simp; with_reducible rfl)
     simp only [Act.put, ls1, ls2, ls3]
     refine lp 6 rfl (v := ?_) (fun w => ?_) (fun _ => HS.out) ?_
     rotate_left
     ·first | (go_simp; done) | (go_simp; with_reducible rfl)
     simp only [Act.put, ls1, ls2, ls3]
     refine lp 7 rfl (v := ?_) (fun w => ?_) (fun _ => HS.out) ?_
     rotate_left
     ·first | (go_simp; done) | (go_simp; with_reducible rfl)
     simp only [Act.put, ls1, ls2, ls3]
     refine lq 8 [10, 11, 12] rfl (yi_rowO rfl rfl rfl (fun w hS => OW.rowRange (HRW.out _ (OW.up hS)) (i := 0) rfl HR.out) ent_row5) HS.out ?_
     simp only [Act.put, ls1, ls2, ls3]
     refine lq 9 [10, 11, 12] rfl (yi_rowO rfl rfl rfl (fun w hS => OW.range hS (i := 0) rfl) ent_row5) HS.out ?_
     simp only [Act.put, ls1, ls2, ls3]
     refine lt_call 10 rfl (by kernel_rfl) rfl rfl ⟨_, Tryz.func40, by decide, by kernel_rfl⟩ [entV r.A r.e.row.length r.c r.B r.e.qual.length r.d r.D r.e.val.length r.q r.e, entV s.A s.e.row.length s.c s.B s.e.qual.length s.d s.D s.e.val.length s.q s.e] rfl ?_
     refine (rcompare_any r.e s.e r.A _ r.c r.B _ r.d r.D _ r.q s.A _ s.c s.B _ s.d s.D _ s.q _ (HRE.out _ HS.out.up) (HSN.out _ HS.out.up)).mono ?_
     rw [HCV.out]
     rintro rr z9 ⟨rfl, hb⟩
     replace HS := Lib.hid (HS.out.later hb)
     clear hb
     refine ⟨_, rfl, fun _ => HS.out, ?_⟩
     simp only [Act.put, ls1, ls2, ls3]
     refine lp 11 rfl (v := ?_) (fun w => ?_) (fun _ => HS.out) ?_
     rotate_left
     ·first | (go_simp; done) | (go_simp; with_reducible rfl)
     simp only [Act.put, ls1, ls2, ls3]
     refine lp 12 rfl (v := ?_) (fun w => ?_) (fun _ => HS.out) ?_
     rotate_left
     ·first | (go_simp; done) | (go_simp; with_reducible rfl)
     simp only [Act.put, ls1, ls2, ls3]
     refine lt_done (by kernel_rfl) ?_
     have HS9 := HS
     clear HS
     have HX3 := Lib.hid HS9.out
     clear HS9 HX2
     go_wp2_with fail
     go_roundw
     case rel => exact ⟨i + 1, k, some ⟨mg, 0, none⟩, mc, rs, by omega, by omega, by omega, by go_num, rfl, HRL, Lib.hid (by rw [HTK.out, HST.out, HIN.out]; exact HSR1.out _ HX3.out.up), Lib.hid (HRW.out _ HX3.out.up)⟩
     case measure => simp [intOf]; omega
    have hde : (cv == 0) = false := beq_eq_false_iff_ne.2 hc0
    have HIN : Hid (insE m s.e = m.take N ++ s.e :: m.drop N) := Lib.hid (by
     unfold insE
     rw [if_neg, ← HN.out]
     intro h
     unfold hitB at h
     rw [← HN.out, ← HAN.out, HMA.out] at h
     have h : (cmpE r.e s.e == 0) = true := h
     rw [HCV.out, hde] at h; cases h)
    clear hc0 hcv0
    refine lt_start [] (by kernel_rfl) ?_
    intro xd hd
    refine ⟨fun z => OW y1 [boxO g7 [.slice s.A s.e.row.length s.c, .int .i64 s.e.fam, .slice s.B s.e.qual.length s.d, .int .i64 s.e.ts, .int .i64 s.e.seq, .int .i64 s.e.kind, .slice s.D s.e.val.length s.q]] z, ?_⟩
    have HS := Lib.hid (HX2.out.later hd)
    refine lp 0 rfl (v := ?_) (fun w => ?_) (fun _ => HS.out) ?_
    rotate_left
    ·first | (go_simp; done) | (go_simp; with_reducible rfl)
    simp only [Act.put, ls1, ls2, ls3]
    refine lp 1 rfl (v := ?_) (fun w => ?_) (fun _ => HS.out) ?_
    rotate_left
    ·first | (go_simp; done) | (go_simp; with_reducible rfl)
    simp only [Act.put, ls1, ls2, ls3]
    refine lp 2 rfl (v := ?_) (fun w => ?_) (fun _ => HS.out) ?_
    rotate_left
    ·first | (go_simp; done) | (go_simp; with_reducible rfl)
    simp only [Act.put, ls1, ls2, ls3]
    refine lp 3 rfl (v := ?_) (fun w => ?_) (fun _ => HS.out) ?_
    rotate_left
    ·first | (go_simp; done) | (go_simp; with_reducible rfl)
    simp only [Act.put, ls1, ls2, ls3]
    refine lp 4 rfl (v := ?_) (fun w => ?_) (fun _ => HS.out) ?_
    rotate_left
    ·first | (go_simp; done) | (go_simp; with_reducible rfl)
    simp only [Act.put, ls1, ls2, ls3]
    refine lp 5 rfl (v := ?_) (fun w => ?_) (fun _ => HS.out) ?_
    rotate_left
    ·first | (go_simp; done) | (go_simp; with_reducible rfl)
    simp only [Act.put, ls1, ls2, ls3]
    refine lp 6 rfl (v := ?_) (fun w => ?_) (fun _ => HS.out) ?_
    rotate_left
    ·first | (go_simp; done) | (go_simp; with_reducible rfl)
    simp only [Act.put, ls1, ls2, ls3]
    refine lp 7 rfl (v := ?_) (fun w => ?_) (fun _ => HS.out) ?_
    rotate_left
    ·first | (go_simp; done) | (go_simp; with_reducible rfl)
    simp only [Act.put, ls1, ls2, ls3]
    refine lq 8 [10, 11, 12] rfl (yi_rowO rfl rfl rfl (fun w hS => OW.rowRange (HRW.out _ (OW.up hS)) (i := 0) rfl HR.out) ent_row5) HS.out ?_
    simp only [Act.put, ls1, ls2, ls3]
    refine lq 9 [10, 11, 12] rfl (yi_rowO rfl rfl rfl (fun w hS => OW.range hS (i := 0) rfl) ent_row5) HS.out ?_
    simp only [Act.put, ls1, ls2, ls3]
    refine lt_call 10 rfl (by kernel_rfl) rfl rfl ⟨_, Tryz.func40, by decide, by kernel_rfl⟩ [entV r.A r.e.row.length r.c r.B r.e.qual.length r.d r.D r.e.val.length r.q r.e, entV s.A s.e.row.length s.c s.B s.e.qual.length s.d s.D s.e.val.length s.q s.e] rfl ?_
    refine (rcompare_any r.e s.e r.A _ r.c r.B _ r.d r.D _ r.q s.A _ s.c s.B _ s.d s.D _ s.q _ (HRE.out _ HS.out.up) (HSN.out _ HS.out.up)).mono ?_
    rw [HCV.out]
    rintro rr z9 ⟨rfl, hb⟩
    replace HS := Lib.hid (HS.out.later hb)
    clear hb
    refine ⟨_, rfl, fun _ => HS.out, ?_⟩
    simp only [Act.put, ls1, ls2, ls3]
    refine lp 11 rfl (v := ?_) (fun w => ?_) (fun _ => HS.out) ?_
    rotate_left
    ·first | (go_simp; done) | (go_simp; with_reducible rfl)
    simp only [Act.put, ls1, ls2, ls3]
    refine lp 12 rfl (v := ?_) (fun w => ?_) (fun _ => HS.out) ?_
    rotate_left
    ·first | (go_simp; done) | (go_simp; with_reducible rfl)
    simp only [Act.put, ls1, ls2, ls3]
    refine lt_done (by kernel_rfl) ?_
    have HS9 := HS
    clear HS
    have HX3 := Lib.hid HS9.out
    clear HS9 HX2
    have HIA : Hid (insE m s.e = m.take a ++ s.e :: m.drop a) := Lib.hid (by rw [HIN.out, HAN.out])
    have hkmc : k ≤ mc := by
     rcases ((HRW.out _ HX3.out.up).row (i := 0) rfl).2 with ⟨h1, h2⟩ | ⟨g, cap, _, h1, _, _, h2, _⟩
     ·injection h1 with h1; cases h1
     ·injection h1 with _ _ h4; omega
    have k6 : mc ≠ a := by omega
    have k7 : ¬ a = mc := by omega
    have HN0 := Lib.hid (HX3.out.nilRow 60 7)
    have tk1 : True := trivial
    have tk2 : True := trivial
    go_wp2_with (first
     | (at_builtin; have _t := tk1; go_must (refine wl_append rfl (.tmp 64) (.tmp 67) rfl Tryz.entsS HN0.out 1 rfl rfl _ (some ⟨mg, 0, none⟩) a mc ((rs.flatMap ER.cells).take (a * 7)) rfl ((Reads.own ((HRW.out _ HN0.out.up).row (i := 0) rfl)).take (by omega)) (fun u hu => cells_one (List.mem_of_mem_take hu)) (by unfold maxLen; omega) (by omega) ?_); intro A1 c1 z1 hz _; rw [Nat.zero_add] at hz; rw [Nat.zero_add]; have HX4 : Hid (OW y1 [boxO g7 [.slice s.A s.e.row.length s.c, .int .i64 s.e.fam, .slice s.B s.e.qual.length s.d, .int .i64 s.e.ts, .int .i64 s.e.seq, .int .i64 s.e.kind, .slice s.D s.e.val.length s.q], rowO 60 7 (.slice A1 a c1) a ((rs.take a).flatMap ER.cells)] z1) := Lib.hid (by rw [← flat7_take]; exact hz); clear hz HN0 HX3 tk1)
     | (refine wpList_load_row7 rfl 60 (.tmp 7) rfl rfl (HX4.out.range (i := 0) rfl) ent_row5 ?_)
     | (refine wl_build rfl #[(0, .tmp 70)] rfl #[.slice s.A s.e.row.length s.c, .int .i64 s.e.fam, .slice s.B s.e.qual.length s.d, .int .i64 s.e.ts, .int .i64 s.e.seq, .int .i64 s.e.kind, .slice s.D s.e.val.length s.q] Tryz.entsS (.agg #[.slice none 0 0, .int .i64 0, .slice none 0 0, .int .i64 0, .int .i64 0, .int .i64 0, .slice none 0 0]) (by kernel_rfl) (by decide) (by decide) (by decide) rfl (by first | rfl | kernel_rfl) HX4.out ?_; intro g5 z5 hz _; have HX5 := Lib.hid hz; clear hz HX4)
     | (at_builtin; have _t := tk2; go_must (refine wl_append rfl (.tmp 69) (.tmp 71) rfl Tryz.entsS HX5.out 1 rfl rfl _ (some ⟨g5, 0, none⟩) 1 1 [.slice s.A s.e.row.length s.c, .int .i64 s.e.fam, .slice s.B s.e.qual.length s.d, .int .i64 s.e.ts, .int .i64 s.e.seq, .int .i64 s.e.kind, .slice s.D s.e.val.length s.q] rfl (Reads.own (HX5.out.row (i := 2) rfl)) (by simp [Value.oneCell']) (by unfold maxLen; omega) (by omega) ?_); intro A6 c6 z6 hz _; have HX6 := Lib.hid (hz.erase 2); clear hz HX5 tk2)
     | (at_builtin; go_must (refine wl_append rfl (.tmp 73) (.tmp 76) rfl Tryz.entsS HX6.out 1 rfl rfl _ (some ⟨mg, a * 7, none⟩) (k - a) (mc - a) ((rs.flatMap ER.cells).drop (a * 7)) rfl (reads_drop0 (Reads.own ((HRW.out _ HX6.out.up).row (i := 0) rfl)) (by omega)) (fun u hu => cells_one (List.mem_of_mem_drop hu)) (by unfold maxLen; omega) (by omega) ?_); intro A7 c7 z7 hz _; have HX7 := Lib.hid (hz.erase 0); clear hz HX6))
    go_roundw
    case rel =>
     have e1 : (rs.take a ++ s :: rs.drop a).flatMap ER.cells = (rs.take a).flatMap ER.cells ++ [.slice s.A s.e.row.length s.c, .int .i64 s.e.fam, .slice s.B s.e.qual.length s.d, .int .i64 s.e.ts, .int .i64 s.e.seq, .int .i64 s.e.kind, .slice s.D s.e.val.length s.q] ++ ((rs.flatMap ER.cells).drop (a * 7)) := by
      rw [List.flatMap_append, List.flatMap_cons, List.append_assoc]
      rw [flat7_drop]; rfl
     refine ⟨i + 1, a + 1 + (k - a), A7, c7, rs.take a ++ s :: rs.drop a, by omega, by omega, by omega, by go_num, rfl, Lib.hid (by rw [List.length_append, List.length_cons, List.length_take, List.length_drop]; have := HRL.out; omega), Lib.hid ⟨?_, fun r hr => ?_⟩, Lib.hid (by rw [e1]; exact OW.base (HRW.out _ (Below.refl _ _)).up HX7.out)⟩
     ·rw [HTK.out, HST.out, HIA.out, List.map_append, List.map_cons, List.map_take, List.map_drop, (HSR1.out _ (Below.refl _ _)).ents]
     ·rcases List.mem_append.1 hr with h1 | h1
      ·exact (HSR1.out _ HX7.out.up).en r (List.mem_of_mem_take h1)
      ·rcases List.mem_cons.1 h1 with rfl | h1
       ·exact HSN.out _ HX7.out.up
       ·exact (HSR1.out _ HX7.out.up).en r (List.mem_of_mem_drop h1)
    case measure => simp [intOf]; omega
   have hak2 : a = k := by omega
   have HAN : Hid (a = N) := Lib.hid (by omega)
   have HIN : Hid (insE m s.e = m.take a ++ s.e :: m.drop a) := Lib.hid (by
    have h9 : m[N]? = none := List.getElem?_eq_none (by have := HML.out; have := HAN.out; omega)
    unfold insE
    rw [if_neg, ← HN.out, HAN.out]
    intro h
    unfold hitB at h
    rw [← HN.out, h9] at h
    cases h)
   subst hak2
   have hda : decide ((a : Int) < (a : Int)) = false := decide_eq_false (by omega)
   have hda2 : ¬ a < a := by omega
   have HIA := HIN
   by_cases hmc : mc = a
   ·subst hmc
    go_wp2_with fail
    refine lt_start [] (by kernel_rfl) ?_
    intro xd hd
    refine ⟨fun z => OW y1 [boxO g7 [.slice s.A s.e.row.length s.c, .int .i64 s.e.fam, .slice s.B s.e.qual.length s.d, .int .i64 s.e.ts, .int .i64 s.e.seq, .int .i64 s.e.kind, .slice s.D s.e.val.length s.q]] z, ?_⟩
    have HS := Lib.hid (HX.out.later hd)
    refine lp 0 rfl (v := ?_) (fun w => ?_) (fun _ => HS.out) ?_
    rotate_left
    ·first | (go_simp; done) | (go_simp; with_reducible rfl)
    simp only [Act.put, ls1, ls2, ls3]
    refine lp 1 rfl (v := ?_) (fun w => ?_) (fun _ => HS.out) ?_
    rotate_left
    ·first | (go_simp; done) | (go_simp; with_reducible rfl)
    simp only [Act.put, ls1, ls2, ls3]
    refine lp 2 rfl (v := ?_) (fun w => ?_) (fun _ => HS.out) ?_
    rotate_left
    ·first | (go_simp; done) | (go_simp; with_reducible rfl)
    simp only [Act.put, ls1, ls2, ls3]
    refine lp 3 rfl (v := ?_) (fun w => ?_) (fun _ => HS.out) ?_
    rotate_left
    ·first | (go_simp; done) | (go_simp; with_reducible rfl)
    simp only [Act.put, ls1, ls2, ls3]
    refine lp 4 rfl (v := ?_) (fun w => ?_) (fun _ => HS.out) ?_
    rotate_left
    ·first | (go_simp; done) | (go_simp; with_reducible rfl)
    simp only [Act.put, ls1, ls2, ls3]
    refine lk 5 rfl (fun _ => HS.out) ?_
    simp only [Act.put, ls1, ls2, ls3]
    refine lk 6 rfl (fun _ => HS.out) ?_
    simp only [Act.put, ls1, ls2, ls3]
    refine lk 7 rfl (fun _ => HS.out) ?_
    simp only [Act.put, ls1, ls2, ls3]
    refine lk 8 rfl (fun _ => HS.out) ?_
    simp only [Act.put, ls1, ls2, ls3]
    refine lk 9 rfl (fun _ => HS.out) ?_
    simp only [Act.put, ls1, ls2, ls3]
    refine lk 10 rfl (fun _ => HS.out) ?_
    simp only [Act.put, ls1, ls2, ls3]
    refine lk 11 rfl (fun _ => HS.out) ?_
    simp only [Act.put, ls1, ls2, ls3]
    refine lp 12 rfl (v := ?_) (fun w => ?_) (fun _ => HS.out) ?_
    rotate_left
    ·first | (go_simp; done) | (go_simp; with_reducible rfl)
    simp only [Act.put, ls1, ls2, ls3]
    refine lt_done (by kernel_rfl) ?_
    have HS9 := HS
    clear HS
    have HX2 := Lib.hid HS9.out
    clear HS9 HX
    go_wp2_with fail
    refine lt_start [] (by kernel_rfl) ?_
    intro xd hd
    refine ⟨fun z => OW y1 [boxO g7 [.slice s.A s.e.row.length s.c, .int .i64 s.e.fam, .slice s.B s.e.qual.length s.d, .int .i64 s.e.ts, .int .i64 s.e.seq, .int .i64 s.e.kind, .slice s.D s.e.val.length s.q]] z, ?_⟩
    have HS := Lib.hid (HX2.out.later hd)
    refine lp 0 rfl (v := ?_) (fun w => ?_) (fun _ => HS.out) ?_
    rotate_left
    ·first | (go_simp; done) | (go_simp; with_reducible rfl)
    simp only [Act.put, ls1, ls2, ls3]
    refine lp 1 rfl (v := ?_) (fun w => ?_) (fun _ => HS.out) ?_
    rotate_left
    ·first | (go_simp; done) | (go_simp; with_reducible rfl)
    simp only [Act.put, ls1, ls2, ls3]
    refine lp 2 rfl (v := ?_) (fun w => ?_) (fun _ => HS.out) ?_
    rotate_left
    ·first | (go_simp; done) | (go_simp; with_reducible rfl)
    simp only [Act.put, ls1, ls2, ls3]
    refine lp 3 rfl (v := ?_) (fun w => ?_) (fun _ => HS.out) ?_
    rotate_left
    ·first | (go_simp; done) | (go_simp; with_reducible rfl)
    simp only [Act.put, ls1, ls2, ls3]
    refine lp 4 rfl (v := ?_) (fun w => ?_) (fun _ => HS.out) ?_
    rotate_left
    ·first | (go_simp; done) | (go_simp; with_reducible rfl)
    simp only [Act.put, ls1, ls2, ls3]
    refine lk 5 rfl (fun _ => HS.out) ?_
    simp only [Act.put, ls1, ls2, ls3]
    refine lk 6 rfl (fun _ => HS.out) ?_
    simp only [Act.put, ls1, ls2, ls3]
    refine lk 7 rfl (fun _ => HS.out) ?_
    simp only [Act.put, ls1, ls2, ls3]
    refine lk 8 rfl (fun _ => HS.out) ?_
    simp only [Act.put, ls1, ls2, ls3]
    refine lk 9 rfl (fun _ => HS.out) ?_
    simp only [Act.put, ls1, ls2, ls3]
    refine lk 10 rfl (fun _ => HS.out) ?_
    simp only [Act.put, ls1, ls2, ls3]
    refine lk 11 rfl (fun _ => HS.out) ?_
    simp only [Act.put, ls1, ls2, ls3]
    refine lp 12 rfl (v := ?_) (fun w => ?_) (fun _ => HS.out) ?_
    rotate_left
    ·first | (go_simp; done) | (go_simp; with_reducible rfl)
    simp only [Act.put, ls1, ls2, ls3]
    refine lt_done (by kernel_rfl) ?_
    have HS9 := HS
    clear HS
    have HX3 := Lib.hid HS9.out
    clear HS9 HX2
    have HN0 := Lib.hid (HX3.out.nilRow 60 7)
    have tk1 : True := trivial
    have tk2 : True := trivial
    go_wp2_with (first
     | (at_builtin; have _t := tk1; go_must (refine wl_append rfl (.tmp 64) (.tmp 67) rfl Tryz.entsS HN0.out 1 rfl rfl _ (MA) mc mc ((rs.flatMap ER.cells).take (mc * 7)) rfl ((Reads.own ((HRW.out _ HN0.out.up).row (i := 0) rfl)).take (by omega)) (fun u hu => cells_one (List.mem_of_mem_take hu)) (by unfold maxLen; omega) (by omega) ?_); intro A1 c1 z1 hz _; rw [Nat.zero_add] at hz; rw [Nat.zero_add]; have HX4 : Hid (OW y1 [boxO g7 [.slice s.A s.e.row.length s.c, .int .i64 s.e.fam, .slice s.B s.e.qual.length s.d, .int .i64 s.e.ts, .int .i64 s.e.seq, .int .i64 s.e.kind, .slice s.D s.e.val.length s.q], rowO 60 7 (.slice A1 mc c1) mc ((rs.take mc).flatMap ER.cells)] z1) := Lib.hid (by rw [← flat7_take]; exact hz); clear hz HN0 HX3 tk1)
     | (refine wpList_load_row7 rfl 60 (.tmp 7) rfl rfl (HX4.out.range (i := 0) rfl) ent_row5 ?_)
     | (refine wl_build rfl #[(0, .tmp 70)] rfl #[.slice s.A s.e.row.length s.c, .int .i64 s.e.fam, .slice s.B s.e.qual.length s.d, .int .i64 s.e.ts, .int .i64 s.e.seq, .int .i64 s.e.kind, .slice s.D s.e.val.length s.q] Tryz.entsS (.agg #[.slice none 0 0, .int .i64 0, .slice none 0 0, .int .i64 0, .int .i64 0, .int .i64 0, .slice none 0 0]) (by kernel_rfl) (by decide) (by decide) (by decide) rfl (by first | rfl | kernel_rfl) HX4.out ?_; intro g5 z5 hz _; have HX5 := Lib.hid hz; clear hz HX4)
     | (at_builtin; have _t := tk2; go_must (refine wl_append rfl (.tmp 69) (.tmp 71) rfl Tryz.entsS HX5.out 1 rfl rfl _ (some ⟨g5, 0, none⟩) 1 1 [.slice s.A s.e.row.length s.c, .int .i64 s.e.fam, .slice s.B s.e.qual.length s.d, .int .i64 s.e.ts, .int .i64 s.e.seq, .int .i64 s.e.kind, .slice s.D s.e.val.length s.q] rfl (Reads.own (HX5.out.row (i := 2) rfl)) (by simp [Value.oneCell']) (by unfold maxLen; omega) (by omega) ?_); intro A6 c6 z6 hz _; have HX6 := Lib.hid (hz.erase 2); clear hz HX5 tk2)
     | (at_builtin; go_must (refine wl_append rfl (.tmp 73) (.tmp 76) rfl Tryz.entsS HX6.out 1 rfl rfl _ (MA) (0) (0) ([]) rfl (Reads.nil (w := z6) (B := 0) (size := 7)) (by simp) (by unfold maxLen; omega) (by omega) ?_); intro A7 c7 z7 hz _; have HX7 := Lib.hid (hz.erase 0); clear hz HX6))
    go_roundw
    case rel =>
     have e1 : (rs.take mc ++ s :: rs.drop mc).flatMap ER.cells = (rs.take mc).flatMap ER.cells ++ [.slice s.A s.e.row.length s.c, .int .i64 s.e.fam, .slice s.B s.e.qual.length s.d, .int .i64 s.e.ts, .int .i64 s.e.seq, .int .i64 s.e.kind, .slice s.D s.e.val.length s.q] ++ ([]) := by
      rw [List.flatMap_append, List.flatMap_cons, List.append_assoc]
      rw [List.drop_of_length_le (by have := HRL.out; omega)]; rfl
     refine ⟨i + 1, mc + 1 + (0), A7, c7, rs.take mc ++ s :: rs.drop mc, by omega, by omega, by omega, by go_num, rfl, Lib.hid (by rw [List.length_append, List.length_cons, List.length_take, List.length_drop]; have := HRL.out; omega), Lib.hid ⟨?_, fun r hr => ?_⟩, Lib.hid (by rw [e1]; exact OW.base (HRW.out _ (Below.refl _ _)).up HX7.out)⟩
     ·rw [HTK.out, HST.out, HIA.out, List.map_append, List.map_cons, List.map_take, List.map_drop, (HSR1.out _ (Below.refl _ _)).ents]
     ·rcases List.mem_append.1 hr with h1 | h1
      ·exact (HSR1.out _ HX7.out.up).en r (List.mem_of_mem_take h1)
      ·rcases List.mem_cons.1 h1 with rfl | h1
       ·exact HSN.out _ HX7.out.up
       ·exact (HSR1.out _ HX7.out.up).en r (List.mem_of_mem_drop h1)
    case measure => simp [intOf]; omega
   ·obtain ⟨mg, rfl, hmc2⟩ : ∃ mg, MA = some ⟨mg, 0, none⟩ ∧ a < mc := by
     rcases ((HRW.out _ HX.out.up).row (i := 0) rfl).2 with ⟨h1, h2⟩ | ⟨g, cap, _, h1, _, _, h2, _⟩
     ·injection h1 with h1 h3 h4; exact absurd (h4.trans h2.symm) hmc
     ·injection h1 with h1 h3 h4; exact ⟨g, h1, by omega⟩
    go_wp2_with fail
    refine lt_start [] (by kernel_rfl) ?_
    intro xd hd
    refine ⟨fun z => OW y1 [boxO g7 [.slice s.A s.e.row.length s.c, .int .i64 s.e.fam, .slice s.B s.e.qual.length s.d, .int .i64 s.e.ts, .int .i64 s.e.seq, .int .i64 s.e.kind, .slice s.D s.e.val.length s.q]] z, ?_⟩
    have HS := Lib.hid (HX.out.later hd)
    refine lp 0 rfl (v := ?_) (fun w => ?_) (fun _ => HS.out) ?_
    rotate_left
    ·first | (go_simp; done) | (go_simp; with_reducible rfl)
    simp only [Act.put, ls1, ls2, ls3]
    refine lp 1 rfl (v := ?_) (fun w => ?_) (fun _ => HS.out) ?_
    rotate_left
    ·first | (go_simp; done) | (go_simp; with_reducible rfl)
    simp only [Act.put, ls1, ls2, ls3]
    refine lp 2 rfl (v := ?_) (fun w => ?_) (fun _ => HS.out) ?_
    rotate_left
    ·first | (go_simp; done) | (go_simp; with_reducible rfl)
    simp only [Act.put, ls1, ls2, ls3]
    refine lp 3 rfl (v := ?_) (fun w => ?_) (fun _ => HS.out) ?_
    rotate_left
    ·first | (go_simp; done) | (go_simp; with_reducible rfl)
    simp only [Act.put, ls1, ls2, ls3]
    refine lp 4 rfl (v := ?_) (fun w => ?_) (fun _ => HS.out) ?_
    rotate_left
    ·first | (go_simp; done) | (go_simp; with_reducible rfl)
    simp only [Act.put, ls1, ls2, ls3]
    refine lk 5 rfl (fun _ => HS.out) ?_
    simp only [Act.put, ls1, ls2, ls3]
    refine lk 6 rfl (fun _ => HS.out) ?_
    simp only [Act.put, ls1, ls2, ls3]
    refine lk 7 rfl (fun _ => HS.out) ?_
    simp only [Act.put, ls1, ls2, ls3]
    refine lk 8 rfl (fun _ => HS.out) ?_
    simp only [Act.put, ls1, ls2, ls3]
    refine lk 9 rfl (fun _ => HS.out) ?_
    simp only [Act.put, ls1, ls2, ls3]
    refine lk 10 rfl (fun _ => HS.out) ?_
    simp only [Act.put, ls1, ls2, ls3]
    refine lk 11 rfl (fun _ => HS.out) ?_
    simp only [Act.put, ls1, ls2, ls3]
    refine lp 12 rfl (v := ?_) (fun w => ?_) (fun _ => HS.out) ?_
    rotate_left
    ·first | (go_simp; done) | (go_simp; with_reducible rfl)
    simp only [Act.put, ls1, ls2, ls3]
    refine lt_done (by kernel_rfl) ?_
    have HS9 := HS
    clear HS
    have HX2 := Lib.hid HS9.out
    clear HS9 HX
    go_wp2_with fail
    refine lt_start [] (by kernel_rfl) ?_
    intro xd hd
    refine ⟨fun z => OW y1 [boxO g7 [.slice s.A s.e.row.length s.c, .int .i64 s.e.fam, .slice s.B s.e.qual.length s.d, .int .i64 s.e.ts, .int .i64 s.e.seq, .int .i64 s.e.kind, .slice s.D s.e.val.length s.q]] z, ?_⟩
    have HS := Lib.hid (HX2.out.later hd)
    refine lp 0 rfl (v := ?_) (fun w => ?_) (fun _ => HS.out) ?_
    rotate_left
    ·first | (go_simp; done) | (go_simp; with_reducible rfl)
    simp only [Act.put, ls1, ls2, ls3]
    refine lp 1 rfl (v := ?_) (fun w => ?_) (fun _ => HS.out) ?_
    rotate_left
    ·first | (go_simp; done) | (go_simp; with_reducible rfl)
    simp only [Act.put, ls1, ls2, ls3]
    refine lp 2 rfl (v := ?_) (fun w => ?_) (fun _ => HS.out) ?_
    rotate_left
    ·first | (go_simp; done) | (go_simp; with_reducible rfl)
    simp only [Act.put, ls1, ls2, ls3]
    refine lp 3 rfl (v := ?_) (fun w => ?_) (fun _ => HS.out) ?_
    rotate_left
    ·first | (go_simp; done) | (go_simp; with_reducible rfl)
    simp only [Act.put, ls1, ls2, ls3]
    refine lp 4 rfl (v := ?_) (fun w => ?_) (fun _ => HS.out) ?_
    rotate_left
    ·first | (go_simp; done) | (go_simp; with_reducible rfl)
    simp only [Act.put, ls1, ls2, ls3]
    refine lk 5 rfl (fun _ => HS.out) ?_
    simp only [Act.put, ls1, ls2, ls3]
    refine lk 6 rfl (fun _ => HS.out) ?_
    simp only [Act.put, ls1, ls2, ls3]
    refine lk 7 rfl (fun _ => HS.out) ?_
    simp only [Act.put, ls1, ls2, ls3]
    refine lk 8 rfl (fun _ => HS.out) ?_
    simp only [Act.put, ls1, ls2, ls3]
    refine lk 9 rfl (fun _ => HS.out) ?_
    simp only [Act.put, ls1, ls2, ls3]
    refine lk 10 rfl (fun _ => HS.out) ?_
    simp only [Act.put, ls1, ls2, ls3]
    refine lk 11 rfl (fun _ => HS.out) ?_
    simp only [Act.put, ls1, ls2, ls3]
    refine lp 12 rfl (v := ?_) (fun w => ?_) (fun _ => HS.out) ?_
    rotate_left
    ·first | (go_simp; done) | (go_simp; with_reducible rfl)
    simp only [Act.put, ls1, ls2, ls3]
    refine lt_done (by kernel_rfl) ?_
    have HS9 := HS
    clear HS
    have HX3 := Lib.hid HS9.out
    clear HS9 HX2
    have k6 : mc ≠ a := by omega
    have k7 : ¬ a = mc := by omega
    have HN0 := Lib.hid (HX3.out.nilRow 60 7)
    have tk1 : True := trivial
    have tk2 : True := trivial
    go_wp2_with (first
     | (at_builtin; have _t := tk1; go_must (refine wl_append rfl (.tmp 64) (.tmp 67) rfl Tryz.entsS HN0.out 1 rfl rfl _ (some ⟨mg, 0, none⟩) a mc ((rs.flatMap ER.cells).take (a * 7)) rfl ((Reads.own ((HRW.out _ HN0.out.up).row (i := 0) rfl)).take (by omega)) (fun u hu => cells_one (List.mem_of_mem_take hu)) (by unfold maxLen; omega) (by omega) ?_); intro A1 c1 z1 hz _; rw [Nat.zero_add] at hz; rw [Nat.zero_add]; have HX4 : Hid (OW y1 [boxO g7 [.slice s.A s.e.row.length s.c, .int .i64 s.e.fam, .slice s.B s.e.qual.length s.d, .int .i64 s.e.ts, .int .i64 s.e.seq, .int .i64 s.e.kind, .slice s.D s.e.val.length s.q], rowO 60 7 (.slice A1 a c1) a ((rs.take a).flatMap ER.cells)] z1) := Lib.hid (by rw [← flat7_take]; exact hz); clear hz HN0 HX3 tk1)
     | (refine wpList_load_row7 rfl 60 (.tmp 7) rfl rfl (HX4.out.range (i := 0) rfl) ent_row5 ?_)
     | (refine wl_build rfl #[(0, .tmp 70)] rfl #[.slice s.A s.e.row.length s.c, .int .i64 s.e.fam, .slice s.B s.e.qual.length s.d, .int .i64 s.e.ts, .int .i64 s.e.seq, .int .i64 s.e.kind, .slice s.D s.e.val.length s.q] Tryz.entsS (.agg #[.slice none 0 0, .int .i64 0, .slice none 0 0, .int .i64 0, .int .i64 0, .int .i64 0, .slice none 0 0]) (by kernel_rfl) (by decide) (by decide) (by decide) rfl (by first | rfl | kernel_rfl) HX4.out ?_; intro g5 z5 hz _; have HX5 := Lib.hid hz; clear hz HX4)
     | (at_builtin; have _t := tk2; go_must (refine wl_append rfl (.tmp 69) (.tmp 71) rfl Tryz.entsS HX5.out 1 rfl rfl _ (some ⟨g5, 0, none⟩) 1 1 [.slice s.A s.e.row.length s.c, .int .i64 s.e.fam, .slice s.B s.e.qual.length s.d, .int .i64 s.e.ts, .int .i64 s.e.seq, .int .i64 s.e.kind, .slice s.D s.e.val.length s.q] rfl (Reads.own (HX5.out.row (i := 2) rfl)) (by simp [Value.oneCell']) (by unfold maxLen; omega) (by omega) ?_); intro A6 c6 z6 hz _; have HX6 := Lib.hid (hz.erase 2); clear hz HX5 tk2)
     | (at_builtin; go_must (refine wl_append rfl (.tmp 73) (.tmp 76) rfl Tryz.entsS HX6.out 1 rfl rfl _ (some ⟨mg, a * 7, none⟩) (0) (mc - a) ([]) rfl (Reads.nil (w := z6) (B := 0) (size := 7)) (by simp) (by unfold maxLen; omega) (by omega) ?_); intro A7 c7 z7 hz _; have HX7 := Lib.hid (hz.erase 0); clear hz HX6))
    go_roundw
    case rel =>
     have e1 : (rs.take a ++ s :: rs.drop a).flatMap ER.cells = (rs.take a).flatMap ER.cells ++ [.slice s.A s.e.row.length s.c, .int .i64 s.e.fam, .slice s.B s.e.qual.length s.d, .int .i64 s.e.ts, .int .i64 s.e.seq, .int .i64 s.e.kind, .slice s.D s.e.val.length s.q] ++ ([]) := by
      rw [List.flatMap_append, List.flatMap_cons, List.append_assoc]
      rw [List.drop_of_length_le (by have := HRL.out; omega)]; rfl
     refine ⟨i + 1, a + 1 + (0), A7, c7, rs.take a ++ s :: rs.drop a, by omega, by omega, by omega, by go_num, rfl, Lib.hid (by rw [List.length_append, List.length_cons, List.length_take, List.length_drop]; have := HRL.out; omega), Lib.hid ⟨?_, fun r hr => ?_⟩, Lib.hid (by rw [e1]; exact OW.base (HRW.out _ (Below.refl _ _)).up HX7.out)⟩
     ·rw [HTK.out, HST.out, HIA.out, List.map_append, List.map_cons, List.map_take, List.map_drop, (HSR1.out _ (Below.refl _ _)).ents]
     ·rcases List.mem_append.1 hr with h1 | h1
      ·exact (HSR1.out _ HX7.out.up).en r (List.mem_of_mem_take h1)
      ·rcases List.mem_cons.1 h1 with rfl | h1
       ·exact HSN.out _ HX7.out.up
       ·exact (HSR1.out _ HX7.out.up).en r (List.mem_of_mem_drop h1)
    case measure => simp [intOf]; omega
theorem few_perm (r a : Ob) (F N : List Ob) : (((r :: F) ++ N) ++ [a]).Perm ((r :: (F ++ N)) ++ [a]) := by (refine perm_of_cnt fun a => ?_; (simp only [cntO_app, cntO_cons, cntO_nil]) <;> omega)
set_option maxRecDepth 1000000 in
set_option maxHeartbeats 8000000 in
theorem few_any (L : List Ent) (A : Option Addr) (m c : Nat) (w : World) (hes : Ens w A m L) (hel : ∀ e, e ∈ L → e.row.length ≤ 140737488355000 ∧ e.qual.length ≤ 140737488355000 ∧ e.val.length ≤ 140737488355000) :
    Calls Tryz.prog 15 #[.slice A m c] w fun e z => ∃ (LA : Option Addr) (lc : Nat) (rs : List ER), e = .returned (.slice LA rs.length lc) ∧ rs.map ER.e = L.take 120 ∧ OW w (entsO LA rs.length lc rs) z := by
  have HEL := Lib.hid hel
  have HLE := Lib.hid hes.len
  have HES : Hid (∀ z, Below w.heap.size w z → Ens z A m L) := Lib.hid fun z hz => hes.later hz
  have HX0 : Hid (OW w (rowO 60 7 (.slice none 0 0) 0 [] :: []) w) := Lib.hid ((OW.nil w).nilRow 60 7)
  clear hes hel
  go_enter Tryz.func15, Tryz.ntmps15
  go_wp2_with fail
  go_loopw [3, 4] (fun lv iv wr => ∃ (n : Nat) (LA : Option Addr) (lc : Nat) (rs : List ER), n ≤ m ∧ n ≤ 120 ∧ iv = .int .i64 n ∧ lv = .slice LA n lc ∧ Hid (rs.length = n) ∧ Hid (rs.map ER.e = L.take n) ∧ Hid (OW w (rowO 60 7 (.slice LA n lc) n (rs.flatMap ER.cells) :: rs.flatMap rowE) wr)) (fun _ iv _ => 120 - (intOf iv).toNat)
  case atStart => exact ⟨0, none, 0, [], Nat.zero_le _, by omega, rfl, rfl, Lib.hid rfl, Lib.hid rfl, HX0⟩
  case round =>
    clear HX0
    obtain ⟨n, LA, lc, rs, hnm, hn120, rfl, rfl, HRL, HRS, HX⟩ := hrel
    by_cases hgo : n < m ∧ n < 120
    case neg =>
      have HTK : Hid (L.take n = L.take 120) := Lib.hid (by
        rcases Nat.lt_or_ge n m with h | h
        · rw [show n = 120 from by omega]
        · rw [take_all (by have := HLE.out; omega), take_all (by have := HLE.out; omega)])
      by_cases hlt : n < m
      · have hd : decide ((n : Int) < (m : Int)) = true := decide_eq_true (by omega)
        have hd2 : decide ((n : Int) < 120) = false := decide_eq_false (by omega)
        have hd3 : ¬ n < 120 := by omega
        clear hgo
        go_wp2_with fail
        go_ret
        exact ⟨LA, lc, rs, by rw [HRL.out]; rfl, by rw [HRS.out, HTK.out], by rw [HRL.out]; exact HX.out⟩
      · have hd : decide ((n : Int) < (m : Int)) = false := decide_eq_false (by omega)
        clear hgo
        go_wp2_with fail
        go_ret
        exact ⟨LA, lc, rs, by rw [HRL.out]; rfl, by rw [HRS.out, HTK.out], by rw [HRL.out]; exact HX.out⟩
    obtain ⟨hlt, hlt120⟩ := hgo
    have hd : decide ((n : Int) < (m : Int)) = true := decide_eq_true (by omega)
    have hd2 : decide ((n : Int) < 120) = true := decide_eq_true (by omega)
    obtain ⟨b, oo, Ar, ec, B, d, D, q, e, rfl, hbl2, hek, hrg, hen⟩ := (HES.out w (Below.refl _ _)).at_ hlt
    have HRG : Hid (∀ z, Below w.heap.size w z → z.rangeAt b (oo + n * 7) [.slice Ar e.row.length ec, .int .i64 e.fam, .slice B e.qual.length d, .int .i64 e.ts, .int .i64 e.seq, .int .i64 e.kind, .slice D e.val.length q]) := Lib.hid fun z hz j v hj => (hz.cell (p := ⟨b, _, none⟩) hbl2).trans (hrg j v hj)
    have HEN : Hid (∀ z, Below w.heap.size w z → En z Ar e.row.length ec B e.qual.length d D e.val.length q e) := Lib.hid fun z hz => hen.later hz
    have HTK : Hid (L.take (n + 1) = L.take n ++ [e]) := Lib.hid (take_snoc hek)
    have HLN := Lib.hid (HEL.out e (List.mem_of_getElem? hek))
    have i1 : (0 : Int) ≤ (n : Int) := by omega
    have i2 : (n : Int) < (m : Int) := by omega
    clear hek hrg hen
    go_wp2_with (first
      | (refine wpList_load_at rfl 60 (.tmp 18) rfl rfl (HRG.out _ HX.out.up) ent_row5 ?_)
      | (go_at_call 62; go_must (refine (copied7_any e Ar _ ec B _ d D _ q _ (HEN.out _ HX.out.up) HLN.out).mono ?_); rintro r y1 ⟨s, hse, rfl, hz⟩; have HX4 := Lib.hid (HX.out.app hz); have HSE := Lib.hid hse; clear hz hse HX)
      | (refine wl_build rfl #[(0, .tmp 20)] rfl #[.slice s.A s.e.row.length s.c, .int .i64 s.e.fam, .slice s.B s.e.qual.length s.d, .int .i64 s.e.ts, .int .i64 s.e.seq, .int .i64 s.e.kind, .slice s.D s.e.val.length s.q] Tryz.entsS (.agg #[.slice none 0 0, .int .i64 0, .slice none 0 0, .int .i64 0, .int .i64 0, .int .i64 0, .slice none 0 0]) (by kernel_rfl) (by decide) (by decide) (by decide) rfl (by first | rfl | kernel_rfl) HX4.out ?_; intro g5 x5 hz _; have HX5 : Hid (OW w (((rowO 60 7 (.slice LA n lc) n (rs.flatMap ER.cells) :: rs.flatMap rowE) ++ rowE s) ++ [rowO 60 7 (.slice (some ⟨g5, 0, none⟩) 1 1) 1 [.slice s.A s.e.row.length s.c, .int .i64 s.e.fam, .slice s.B s.e.qual.length s.d, .int .i64 s.e.ts, .int .i64 s.e.seq, .int .i64 s.e.kind, .slice s.D s.e.val.length s.q]]) x5) := Lib.hid hz; clear hz HX4)
      | (at_builtin; go_must (refine wl_append rfl (.tmp 15) (.tmp 21) rfl Tryz.entsS HX5.out 0 rfl rfl _ (some ⟨g5, 0, none⟩) 1 1 [.slice s.A s.e.row.length s.c, .int .i64 s.e.fam, .slice s.B s.e.qual.length s.d, .int .i64 s.e.ts, .int .i64 s.e.seq, .int .i64 s.e.kind, .slice s.D s.e.val.length s.q] rfl (Reads.own (HX5.out.rowm (List.mem_append_right _ (List.mem_singleton.2 rfl)))) (by simp [Value.oneCell']) (by unfold maxLen; omega) (by omega) ?_); intro A6 c6 x6 hz _; have HX6 : Hid (OW w (((rowO 60 7 (.slice A6 (n + 1) c6) (n + 1) (rs.flatMap ER.cells ++ [.slice s.A s.e.row.length s.c, .int .i64 s.e.fam, .slice s.B s.e.qual.length s.d, .int .i64 s.e.ts, .int .i64 s.e.seq, .int .i64 s.e.kind, .slice s.D s.e.val.length s.q]) :: rs.flatMap rowE) ++ rowE s) ++ [rowO 60 7 (.slice (some ⟨g5, 0, none⟩) 1 1) 1 [.slice s.A s.e.row.length s.c, .int .i64 s.e.fam, .slice s.B s.e.qual.length s.d, .int .i64 s.e.ts, .int .i64 s.e.seq, .int .i64 s.e.kind, .slice s.D s.e.val.length s.q]]) x6) := Lib.hid hz; clear hz HX5))
    have HX7 : Hid (OW w (rowO 60 7 (.slice A6 (n + 1) c6) (n + 1) ((rs ++ [s]).flatMap ER.cells) :: (rs ++ [s]).flatMap rowE) x6) := Lib.hid (by
      rw [cellE_snoc, rowE_snoc]
      exact OW.left (OW.perm HX6.out (few_perm _ _ _ _)))
    clear HX6
    go_roundw
    case rel => exact ⟨n + 1, A6, c6, rs ++ [s], by omega, by omega, by go_num, rfl, Lib.hid (by rw [List.length_append, HRL.out]; rfl), Lib.hid (by rw [List.map_append, HRS.out, HTK.out, ← HSE.out]; rfl), HX7⟩
    case measure => simp [intOf]; omega
theorem first_chk : checkE firstE = 0 := by decide +kernel
theorem plain_ok : optOk plainO = true := by decide +kernel
theorem one_ord : OrdOk 9 [firstE] := ⟨List.Pairwise.cons (fun _ h => by cases h) List.Pairwise.nil, fun e h => by cases List.mem_singleton.1 h; exact first_chk, fun e h => by cases List.mem_singleton.1 h; decide⟩
theorem one_ref : refuseR plainO [firstE] = 0 := refuse_of plain_ok (by simp) one_ord
theorem one_len : (runBy plainO [firstE]).length ≤ 16777216 := run_small one_ref (by decide)
theorem one_may : mayR (runW plainO [firstE]) [97] = true ∧ mayR (runW plainO [firstE]) [98] = false :=
  ⟨may_yes one_ref (by decide) (e := firstE) (List.mem_singleton.2 rfl), may_no one_ref (a := firstE) (b := firstE) rfl rfl (.inr (by decide))⟩
theorem one_all : allR (runW plainO [firstE]) = ([firstE], true) := (written_tells one_ref (by decide)).1
theorem ens_one {z : World} {base : World} {g : Nat} {A B D : Option Addr} (h : OW base [rowO 60 7 (.slice (some ⟨g, 0, none⟩) 1 1) 1 [.slice A 1 1, .int .i64 0, .slice B 1 1, .int .i64 7, .int .i64 33, .int .i64 1, .slice D 1 1]] z) (he : En z A 1 1 B 1 1 D 1 1 firstE) : Ens z (some ⟨g, 0, none⟩) 1 [firstE] :=
  h.ens (rs := [⟨A, 1, B, 1, D, 1, firstE⟩]) (i := 0) rfl fun r hr => by cases List.mem_singleton.1 hr; exact he
set_option maxRecDepth 1000000 in
set_option maxHeartbeats 8000000 in
theorem started_any (w : World) (ht : TabAt 0 w) : Calls Tryz.prog 24 #[] w fun e z => e = .returned (.bool true) ∧ Below w.heap.size w z := by
  have HTB : Hid (∀ z, Below w.heap.size w z → TabAt 0 z) := Lib.hid fun z hz => ht.later hz
  have HW : Hid ((writeR plainO [firstE]).1 = runBy plainO [firstE] ∧ (writeR plainO [firstE]).2 = 0 ∧ openR7 (runBy plainO [firstE]) = (some (runW plainO [firstE]), 0)) := Lib.hid (by
    obtain ⟨h1, h2⟩ := write_open one_ref (by decide) one_len
    exact ⟨by rw [h1], by rw [h1], h2⟩)
  obtain ⟨b, hb⟩ : ∃ b, b = runBy plainO [firstE] := ⟨_, rfl⟩
  obtain ⟨r0, hr0⟩ : ∃ r, r = runW plainO [firstE] := ⟨_, rfl⟩
  obtain ⟨bl, hbl⟩ : ∃ n, n = b.length := ⟨_, rfl⟩
  rw [← hb, ← hr0] at HW
  have HBL := Lib.hid hbl.symm
  have HM : Hid (mayR r0 [97] = true ∧ mayR r0 [98] = false) := Lib.hid (by rw [hr0]; exact one_may)
  have HA : Hid (allR r0 = ([firstE], true)) := Lib.hid (by rw [hr0]; exact one_all)
  have HCN : Hid (r0.count = 1) := Lib.hid (by rw [hr0]; rfl)
  have kc := conv_const
  have kf := meta_count
  have HX := Lib.hid (OW.nil w)
  have tok1 : True := trivial
  clear ht hb hr0 hbl
  go_enter Tryz.func24, Tryz.ntmps24
  go_upto_region 2 with (first
    | (go_at_call 84; go_must (refine (plain_any _).mono ?_); rintro e x1 ⟨rfl, hb⟩; have HB1 := Lib.hid hb; clear hb)
    | (go_at_call 39; go_must (refine (first_any _).mono ?_); rintro e x2 ⟨FA, FB, FD, rfl, hen, hb⟩; have HB2 : Hid (Below w.heap.size w x2) := Lib.hid (HB1.out.trans (hb.mono HB1.out.size)); have HFE : Hid (∀ z, Below x2.heap.size x2 z → En z FA 1 1 FB 1 1 FD 1 1 firstE) := Lib.hid fun z hz => hen.later hz; have HN2 := Lib.hid (OW.nil x2); clear hen hb HB1)
    | (refine wl_build rfl #[(0, .tmp 8)] rfl #[.slice FA 1 1, .int .i64 0, .slice FB 1 1, .int .i64 7, .int .i64 33, .int .i64 1, .slice FD 1 1] Tryz.entsS (.agg #[.slice none 0 0, .int .i64 0, .slice none 0 0, .int .i64 0, .int .i64 0, .int .i64 0, .slice none 0 0]) (by kernel_rfl) (by decide) (by decide) (by decide) rfl (by first | rfl | kernel_rfl) HN2.out ?_; intro g9 x3 hz _; have HX3 : Hid (OW x2 [rowO 60 7 (.slice (some ⟨g9, 0, none⟩) 1 1) 1 [.slice FA 1 1, .int .i64 0, .slice FB 1 1, .int .i64 7, .int .i64 33, .int .i64 1, .slice FD 1 1]] x3) := Lib.hid hz; clear hz HN2)
    | (go_at_call 57; go_must (refine (write_any plainO [firstE] (some ⟨g9, 0, none⟩) 1 1 _ (ens_one HX3.out (HFE.out _ HX3.out.up)) (by decide) (HTB.out _ (OW.base HB2.out HX3.out).up)).mono ?_); rw [HW.out.1, HW.out.2.1]; rintro e x4 hp; obtain ⟨B, d, rfl, hs4, ho, hb⟩ := hp.at_ HBL.out rfl; have HX4 : Hid (OW w [bytO 5 (B, d, b)] x4) := Lib.hid (OW.base (OW.base HB2.out HX3.out).up (OW.byt1 hb ho)); have HS4 := Lib.hid hs4; clear hp ho hb hs4 HX3))
  go_upto_region 4 with (go_at_call 20; go_must (refine (num7_any 0 _).mono ?_); rintro e x5 ⟨rfl, rfl⟩)
  go_upto_region 5 with (go_at_call 17; go_must (refine (open_yes7 HW.out.2.2 HS4.out (HTB.out _ HX4.out.up)).mono ?_); rintro e x6 ⟨q, hq1, hq2, rfl, hz⟩; have HX6 := Lib.hid (OW.base HX4.out.up hz); have HQ := Lib.hid (And.intro hq1 hq2); have HRA : Hid (∀ z, Below x6.heap.size x6 z → RunAt q z) := Lib.hid fun z hb => (RunAt.of hq2.ok hz (List.Sublist.refl _)).later hb; clear hq1 hq2 hz HX4)
  have HK : Hid (q.f1.p.a.length ≤ 100000000 ∧ q.fn.p.b.length ≤ 100000000) := Lib.hid (by
    have h1 := (pcin_len (HQ.out.2.pin HQ.out.2.ok.first)).1
    have h2 := (pcin_len (HQ.out.2.pin HQ.out.2.ok.last)).2
    omega)
  have HCQ : Hid ((q.r.count : Int) = 1) := Lib.hid (by rw [HQ.out.1, HCN.out]; rfl)
  obtain ⟨kct, hkct⟩ : ∃ k : Int, k = (q.r.count : Int) := ⟨_, rfl⟩
  have m1 : (kct != 1) = false := by rw [hkct, HCQ.out]; rfl
  have HKC := Lib.hid hkct.symm
  have HB60 := Lib.hid (Below.refl x6.heap.size x6)
  clear hkct
  go_upto_region 7 with (first
    | (go_at_call 20; go_must (refine (num7_any 0 _).mono ?_); rintro e x7 ⟨rfl, rfl⟩)
    | (go_at_call 28; go_must (refine (meta_any q _ (HRA.out _ HB60.out) HK.out).mono ?_); rintro e x8 ⟨MA, mc, MB, md, rfl, hz⟩; rw [HKC.out]; have HB8 := Lib.hid (HB60.out.trans hz.up); clear hz HB60)
    | (go_at_call 37; have _t := tok1; clear tok1; go_must (refine (may_any q _ (HRA.out _ (HB8.out.alloc HB8.out.size _)) HQ.out.2 [97] _ 1 1 (Sl.lit x8 #[.int .u8 97] [97] 5 _ rfl rfl (by decide))).mono ?_); rw [HQ.out.1, HM.out.1]; rintro e x9 ⟨rfl, hb⟩; have HB9 := Lib.hid ((HB8.out.alloc HB8.out.size _).trans (hb.mono (HB8.out.alloc HB8.out.size _).size)); clear hb HB8)
    | (go_at_call 37; go_must (refine (may_any q _ (HRA.out _ (HB9.out.alloc HB9.out.size _)) HQ.out.2 [98] _ 1 1 (Sl.lit x9 #[.int .u8 98] [98] 5 _ rfl rfl (by decide))).mono ?_); rw [HQ.out.1, HM.out.2]; rintro e x10 ⟨rfl, hb⟩; have HB10 := Lib.hid ((HB9.out.alloc HB9.out.size _).trans (hb.mono (HB9.out.alloc HB9.out.size _).size)); clear hb HB9))
  obtain ⟨ek, hek⟩ : ∃ k : Int, k = endK true := ⟨_, rfl⟩
  have m2 : (ek == 0) = true := by rw [hek]; rfl
  have HEK := Lib.hid hek.symm
  clear hek
  go_upto_region 8 with (go_at_call 31; go_must (refine (all_goes q HQ.out.2 w _ q.obs (List.Sublist.refl _) (HX6.out.later HB10.out) (HTB.out _ (Below.refl _ _)) [firstE] true (by rw [HQ.out.1]; exact HA.out) (by rw [HQ.out.1, HCN.out]; decide) (by decide)).mono ?_); intro e x11 hp; obtain ⟨cg, c', LA, lc, rs, j1, j2, j3, j4, rfl, hz⟩ := hp; rw [HEK.out]; have HZ : Hid (OW w (entsO LA rs.length lc rs ++ (c'.obs q ++ q.obs)) x11) := Lib.hid hz; have HRS := Lib.hid j4; clear hz j1 j2 j3 j4)
  have HEL : Hid (∀ z, Below x11.heap.size x11 z → Ens z LA rs.length [firstE]) := Lib.hid fun z hz => by
    have h := rowE_ens HZ.out
    rw [HRS.out] at h
    exact h.later hz
  have HUP := Lib.hid HZ.out.up
  have HRN : Hid (rs.length ≤ 1000000000) := Lib.hid (by rw [← List.length_map (f := ER.e), HRS.out]; decide)
  go_wp2_with (first
    | (go_at_call 39; go_must (refine (first_any _).mono ?_); rintro e x12 ⟨GA, GB, GD, rfl, hen, hb⟩; have HB12 := Lib.hid hb; have HGE : Hid (∀ z, Below x12.heap.size x12 z → En z GA 1 1 GB 1 1 GD 1 1 firstE) := Lib.hid fun z hz => hen.later hz; have HN12 := Lib.hid (OW.nil x12); clear hen hb)
    | (refine wl_build rfl #[(0, .tmp 56)] rfl #[.slice GA 1 1, .int .i64 0, .slice GB 1 1, .int .i64 7, .int .i64 33, .int .i64 1, .slice GD 1 1] Tryz.entsS (.agg #[.slice none 0 0, .int .i64 0, .slice none 0 0, .int .i64 0, .int .i64 0, .int .i64 0, .slice none 0 0]) (by kernel_rfl) (by decide) (by decide) (by decide) rfl (by first | rfl | kernel_rfl) HN12.out ?_; intro g13 x13 hz _; have HX13 : Hid (OW x12 [rowO 60 7 (.slice (some ⟨g13, 0, none⟩) 1 1) 1 [.slice GA 1 1, .int .i64 0, .slice GB 1 1, .int .i64 7, .int .i64 33, .int .i64 1, .slice GD 1 1]] x13) := Lib.hid hz; clear hz HN12)
    | (go_at_call 32; go_must (refine (sameAll_any [firstE] [firstE] LA rs.length lc (some ⟨g13, 0, none⟩) 1 1 _ (HEL.out _ (OW.base HB12.out HX13.out).up) (ens_one HX13.out (HGE.out _ HX13.out.up)) HRN.out).mono ?_); rintro e x14 ⟨bo, rfl, hbo, hb⟩; obtain rfl := hbo.2 rfl; have HX14 := Lib.hid ((OW.base HB12.out HX13.out).up.trans (hb.mono (OW.base HB12.out HX13.out).up.size)); clear hb hbo))
  go_ret
  exact ⟨rfl, HUP.out.trans (HX14.out.mono HUP.out.size)⟩
theorem runC_ne (o : OptR) (L : List Ent) : 0 < (runBy o L).length := by
  have h : runBy o L = magR ++ (blocksR (cutR o.block.toNat [] L) ++ (sumdB (filtR o L) ++ (sumdB (indexR (cutR o.block.toNat [] L)) ++ frameB (risBs (numsR o L (cutR o.block.toNat [] L)))))) := by
    unfold runBy runC headR; simp only [List.append_assoc]
  rw [h, List.length_append]
  show 0 < 8 + _
  omega
theorem len_b (es : List Ent) (h : ∀ e, e ∈ es → e.row.length ≤ 1048576 ∧ e.qual.length ≤ 1048576 ∧ e.val.length ≤ 1048576) : ∀ e, e ∈ es → e.row.length ≤ 140737488355000 ∧ e.qual.length ≤ 140737488355000 ∧ e.val.length ≤ 140737488355000 := fun e he => by
  obtain ⟨h1, h2, h3⟩ := h e he
  exact ⟨by omega, by omega, by omega⟩
set_option maxRecDepth 1000000 in
set_option maxHeartbeats 16000000 in
theorem one_any (oa : OptR) (a : List Ent) (A : Option Addr) (n c : Nat) (ob : OptR) (b : List Ent) (B : Option Addr) (m d : Nat) (w : World) (ha : Ens w A n a) (hb : Ens w B m b)
  (hal : ∀ e, e ∈ a → e.row.length ≤ 1048576 ∧ e.qual.length ≤ 1048576 ∧ e.val.length ≤ 1048576) (hbl : ∀ e, e ∈ b → e.row.length ≤ 1048576 ∧ e.qual.length ≤ 1048576 ∧ e.val.length ≤ 1048576) (ht : TabAt 0 w) :
  Calls Tryz.prog 7 #[optV oa, .slice A n c, optV ob, .slice B m d] w fun e z => e = .returned (.bool true) ∧ Below w.heap.size w z := by
 have HEA : Hid (∀ z, Below w.heap.size w z → Ens z A n a) := Lib.hid fun z hz => ha.later hz
 have HEB : Hid (∀ z, Below w.heap.size w z → Ens z B m b) := Lib.hid fun z hz => hb.later hz
 have HAL := Lib.hid (len_b a hal)
 have HBL := Lib.hid (len_b b hbl)
 have HTB : Hid (∀ z, Below w.heap.size w z → TabAt 0 z) := Lib.hid fun z hz => ht.later hz
 obtain ⟨v0, v1, v2, v3, v4, hv⟩ : ∃ v0 v1 v2 v3 v4, optF oa = ⟨v0, v1, v2, v3, v4⟩ := ⟨_, _, _, _, _, rfl⟩
 obtain ⟨u0, u1, u2, u3, u4, hu⟩ : ∃ v0 v1 v2 v3 v4, optF ob = ⟨v0, v1, v2, v3, v4⟩ := ⟨_, _, _, _, _, rfl⟩
 have HOA : Hid (optV (optF oa) = .agg #[.int .i64 v0, .int .i64 v1, .int .i64 v2, .int .i64 v3, .int .i64 v4]) := Lib.hid (by rw [hv]; rfl)
 have HOB : Hid (optV (optF ob) = .agg #[.int .i64 u0, .int .i64 u1, .int .i64 u2, .int .i64 u3, .int .i64 u4]) := Lib.hid (by rw [hu]; rfl)
 have HKA : Hid (optOk ⟨v0, v1, v2, v3, v4⟩ = true) := Lib.hid (by rw [← hv]; exact optF_ok oa)
 have HKB : Hid (optOk ⟨u0, u1, u2, u3, u4⟩ = true) := Lib.hid (by rw [← hu]; exact optF_ok ob)
 have HIA : Hid (0 ≤ v2 ∧ v2 ≤ 1099511627776) := Lib.hid (by
  have h := sealI.iff (optOk.iff HKA.out).2
  exact ⟨h.1, h.2.1⟩)
 have HIB : Hid (0 ≤ u2 ∧ u2 ≤ 1099511627776) := Lib.hid (by
  have h := sealI.iff (optOk.iff HKB.out).2
  exact ⟨h.1, h.2.1⟩)
 obtain ⟨L, hL⟩ : ∃ L, L = ordL v2 (a.take 120) := ⟨_, rfl⟩
 obtain ⟨M, hM⟩ : ∃ M, M = ordL u2 (b.take 120) := ⟨_, rfl⟩
 have HL := Lib.hid hL.symm
 have HM := Lib.hid hM.symm
 have HOL : Hid (OrdOk v2 L) := Lib.hid (by rw [hL]; exact ord_ok _ _)
 have HOM : Hid (OrdOk u2 M) := Lib.hid (by rw [hM]; exact ord_ok _ _)
 have HX := Lib.hid (OW.nil w)
 have tok1 : True := trivial
 have tok2 : True := trivial
 clear ha hb hal hbl ht hv hu hL hM
 unfold optV
 go_enter Tryz.func7, Tryz.ntmps7
 go_upto_region 1 with (first
  | (refine wl_box rfl (.tmp 0) rfl [.int .i64 oa.block, .int .i64 oa.bits, .int .i64 oa.index, .int .i64 oa.low, .int .i64 oa.clock] rfl HX.out ?_; intro g4 x1 hz _; have HX1 : Hid (OW w [boxO g4 [.int .i64 oa.block, .int .i64 oa.bits, .int .i64 oa.index, .int .i64 oa.low, .int .i64 oa.clock]] x1) := Lib.hid hz; clear hz HX)
  | (refine wl_box rfl (.tmp 2) rfl [.int .i64 ob.block, .int .i64 ob.bits, .int .i64 ob.index, .int .i64 ob.low, .int .i64 ob.clock] rfl HX1.out ?_; intro g6 x2 hz _; have HX2 : Hid (OW w [boxO g4 [.int .i64 oa.block, .int .i64 oa.bits, .int .i64 oa.index, .int .i64 oa.low, .int .i64 oa.clock], boxO g6 [.int .i64 ob.block, .int .i64 ob.bits, .int .i64 ob.index, .int .i64 ob.low, .int .i64 ob.clock]] x2) := Lib.hid hz; clear hz HX1))
 go_upto_region 2 with (first
  | (refine wl_rowR rfl 23 (.tmp 4) rfl rfl (HX2.out.range (i := 0) rfl) opts_row ?_)
  | (go_at_call 25; go_must (refine (options_any oa _).mono ?_); rw [HOA.out]; rintro e x3 ⟨rfl, hb⟩; have HX3 : Hid (OW w [boxO g4 [.int .i64 oa.block, .int .i64 oa.bits, .int .i64 oa.index, .int .i64 oa.low, .int .i64 oa.clock], boxO g6 [.int .i64 ob.block, .int .i64 ob.bits, .int .i64 ob.index, .int .i64 ob.low, .int .i64 ob.clock]] x3) := Lib.hid (HX2.out.later hb); clear hb HX2)
  | (refine wl_alloc rfl rfl [.int .i64 0, .int .i64 0, .int .i64 0, .int .i64 0, .int .i64 0] (.inl (by kernel_rfl)) HX3.out ?_; intro g9 x4 hz _; have HX4 : Hid (OW w [boxO g4 [.int .i64 oa.block, .int .i64 oa.bits, .int .i64 oa.index, .int .i64 oa.low, .int .i64 oa.clock], boxO g6 [.int .i64 ob.block, .int .i64 ob.bits, .int .i64 ob.index, .int .i64 ob.low, .int .i64 ob.clock], boxO g9 [.int .i64 0, .int .i64 0, .int .i64 0, .int .i64 0, .int .i64 0]] x4) := Lib.hid hz; clear hz HX3)
  | (refine wl_put rfl (.tmp 9) (.tmp 20) rfl HX4.out 2 rfl rfl [.int .i64 v0, .int .i64 v1, .int .i64 v2, .int .i64 v3, .int .i64 v4] rfl rfl (by kernel_rfl) (by simp [Value.oneCell']) ?_; intro x5 hz _; have HX5 : Hid (OW w [boxO g4 [.int .i64 oa.block, .int .i64 oa.bits, .int .i64 oa.index, .int .i64 oa.low, .int .i64 oa.clock], boxO g6 [.int .i64 ob.block, .int .i64 ob.bits, .int .i64 ob.index, .int .i64 ob.low, .int .i64 ob.clock], boxO g9 [.int .i64 v0, .int .i64 v1, .int .i64 v2, .int .i64 v3, .int .i64 v4]] x5) := Lib.hid hz; clear hz HX4))
 go_upto_region 3 with (first
  | (refine wl_rowR rfl 23 (.tmp 6) rfl rfl (HX5.out.range (i := 1) rfl) opts_row ?_)
  | (go_at_call 25; go_must (refine (options_any ob _).mono ?_); rw [HOB.out]; rintro e x6 ⟨rfl, hb⟩; have HX6 : Hid (OW w [boxO g4 [.int .i64 oa.block, .int .i64 oa.bits, .int .i64 oa.index, .int .i64 oa.low, .int .i64 oa.clock], boxO g6 [.int .i64 ob.block, .int .i64 ob.bits, .int .i64 ob.index, .int .i64 ob.low, .int .i64 ob.clock], boxO g9 [.int .i64 v0, .int .i64 v1, .int .i64 v2, .int .i64 v3, .int .i64 v4]] x6) := Lib.hid (HX5.out.later hb); clear hb HX5)
  | (refine wl_alloc rfl rfl [.int .i64 0, .int .i64 0, .int .i64 0, .int .i64 0, .int .i64 0] (.inl (by kernel_rfl)) HX6.out ?_; intro g10 x7 hz _; have HX7 : Hid (OW w [boxO g4 [.int .i64 oa.block, .int .i64 oa.bits, .int .i64 oa.index, .int .i64 oa.low, .int .i64 oa.clock], boxO g6 [.int .i64 ob.block, .int .i64 ob.bits, .int .i64 ob.index, .int .i64 ob.low, .int .i64 ob.clock], boxO g9 [.int .i64 v0, .int .i64 v1, .int .i64 v2, .int .i64 v3, .int .i64 v4], boxO g10 [.int .i64 0, .int .i64 0, .int .i64 0, .int .i64 0, .int .i64 0]] x7) := Lib.hid hz; clear hz HX6)
  | (refine wl_put rfl (.tmp 10) (.tmp 22) rfl HX7.out 3 rfl rfl [.int .i64 u0, .int .i64 u1, .int .i64 u2, .int .i64 u3, .int .i64 u4] rfl rfl (by kernel_rfl) (by simp [Value.oneCell']) ?_; intro x8 hz _; have HX8 : Hid (OW w [boxO g4 [.int .i64 oa.block, .int .i64 oa.bits, .int .i64 oa.index, .int .i64 oa.low, .int .i64 oa.clock], boxO g6 [.int .i64 ob.block, .int .i64 ob.bits, .int .i64 ob.index, .int .i64 ob.low, .int .i64 ob.clock], boxO g9 [.int .i64 v0, .int .i64 v1, .int .i64 v2, .int .i64 v3, .int .i64 v4], boxO g10 [.int .i64 u0, .int .i64 u1, .int .i64 u2, .int .i64 u3, .int .i64 u4]] x8) := Lib.hid hz; clear hz HX7))
 go_upto_region 4 with (first
  | (refine wpList_load_cell rfl 3 (.tmp 24) rfl rfl (HX8.out.cell (i := 2) (j := 2) rfl rfl) (fun w => Tryz.isAgg3 w) ?_)
  | (go_at_call 38; go_must (refine (ordered7_any v2 HIA.out a A n c _ (HEA.out _ HX8.out.up) HAL.out).mono ?_); rw [HL.out]; rintro e x9 ⟨LA, lc, ll, rfl, hll, hE, hb⟩; have HX9 : Hid (OW w [boxO g4 [.int .i64 oa.block, .int .i64 oa.bits, .int .i64 oa.index, .int .i64 oa.low, .int .i64 oa.clock], boxO g6 [.int .i64 ob.block, .int .i64 ob.bits, .int .i64 ob.index, .int .i64 ob.low, .int .i64 ob.clock], boxO g9 [.int .i64 v0, .int .i64 v1, .int .i64 v2, .int .i64 v3, .int .i64 v4], boxO g10 [.int .i64 u0, .int .i64 u1, .int .i64 u2, .int .i64 u3, .int .i64 u4]] x9) := Lib.hid (HX8.out.later hb); have HLE : Hid (∀ z, Below x9.heap.size x9 z → Ens z LA ll L) := Lib.hid fun z hz => hE.later hz; have HLL : Hid (L.length = ll) := Lib.hid hE.len; clear hE hb HX8))
 go_upto_region 5 with (first
  | (refine wpList_load_cell rfl 3 (.tmp 28) rfl rfl (HX9.out.cell (i := 3) (j := 2) rfl rfl) (fun w => Tryz.isAgg3 w) ?_)
  | (go_at_call 38; go_must (refine (ordered7_any u2 HIB.out b B m d _ (HEB.out _ HX9.out.up) HBL.out).mono ?_); rw [HM.out]; rintro e x10 ⟨MA, mc, ml, rfl, hml, hE, hb⟩; have HX10 : Hid (OW w [boxO g4 [.int .i64 oa.block, .int .i64 oa.bits, .int .i64 oa.index, .int .i64 oa.low, .int .i64 oa.clock], boxO g6 [.int .i64 ob.block, .int .i64 ob.bits, .int .i64 ob.index, .int .i64 ob.low, .int .i64 ob.clock], boxO g9 [.int .i64 v0, .int .i64 v1, .int .i64 v2, .int .i64 v3, .int .i64 v4], boxO g10 [.int .i64 u0, .int .i64 u1, .int .i64 u2, .int .i64 u3, .int .i64 u4]] x10) := Lib.hid (HX9.out.later hb); have HLE2 : Hid (∀ z, Below x10.heap.size x10 z → Ens z LA ll L) := Lib.hid fun z hz => (HLE.out _ hb).later hz; have HME : Hid (∀ z, Below x10.heap.size x10 z → Ens z MA ml M) := Lib.hid fun z hz => hE.later hz; have HML : Hid (M.length = ml) := Lib.hid hE.len; clear hE hb HX9 HLE))
 by_cases h0 : ll = 0
 case pos =>
  have d1 : ((ll : Int) == 0) = true := by rw [h0]; rfl
  have d2 : (ll == 0) = true := by rw [h0]; rfl
  clear h0
  go_wp2_with (go_at_call 24; go_must (refine (started_any _ (HTB.out _ HX10.out.up)).mono ?_); rintro e x11 ⟨rfl, hb⟩; have HX11 := Lib.hid (HX10.out.later hb); clear hb)
  go_ret
  exact ⟨rfl, HX11.out.up⟩
 have d1 : ((ll : Int) == 0) = false := beq_eq_false_iff_ne.2 (by omega)
 have d2 : (ll == 0) = false := beq_eq_false_iff_ne.2 h0
 by_cases h1 : ml = 0
 case pos =>
  have d3 : ((ml : Int) == 0) = true := by rw [h1]; rfl
  have d4 : (ml == 0) = true := by rw [h1]; rfl
  clear h0 h1
  go_wp2_with (go_at_call 24; go_must (refine (started_any _ (HTB.out _ HX10.out.up)).mono ?_); rintro e x11 ⟨rfl, hb⟩; have HX11 := Lib.hid (HX10.out.later hb); clear hb)
  go_ret
  exact ⟨rfl, HX11.out.up⟩
 have d3 : ((ml : Int) == 0) = false := beq_eq_false_iff_ne.2 (by omega)
 have d4 : (ml == 0) = false := beq_eq_false_iff_ne.2 h1
 have HRA : Hid (refuseR ⟨v0, v1, v2, v3, v4⟩ L = 0) := Lib.hid (refuse_of HKA.out (fun h => h0 (by rw [← HLL.out, h]; rfl)) HOL.out)
 have HRB : Hid (refuseR ⟨u0, u1, u2, u3, u4⟩ M = 0) := Lib.hid (refuse_of HKB.out (fun h => h1 (by rw [← HML.out, h]; rfl)) HOM.out)
 have HSA : Hid ((runBy ⟨v0, v1, v2, v3, v4⟩ L).length ≤ 16777216) := Lib.hid (run_small HRA.out (by rw [HLL.out]; omega))
 have HSB : Hid ((runBy ⟨u0, u1, u2, u3, u4⟩ M).length ≤ 16777216) := Lib.hid (run_small HRB.out (by rw [HML.out]; omega))
 obtain ⟨xb, hxb⟩ : ∃ x, x = runBy ⟨v0, v1, v2, v3, v4⟩ L := ⟨_, rfl⟩
 obtain ⟨yb, hyb⟩ : ∃ x, x = runBy ⟨u0, u1, u2, u3, u4⟩ M := ⟨_, rfl⟩
 have HXB := Lib.hid hxb.symm
 have HYB := Lib.hid hyb.symm
 clear h0 h1 hxb hyb
 go_upto_region 8 with (first
  | (refine wl_rowR rfl 23 (.tmp 9) rfl rfl (HX10.out.range (i := 2) rfl) opts_row ?_)
  | (go_at_call 27; go_must (refine (made_yes ⟨v0, v1, v2, v3, v4⟩ L LA ll lc _ (HLE2.out _ (Below.refl _ _)) (by omega) HRA.out HSA.out (HTB.out _ HX10.out.up)).mono ?_); rw [HXB.out]; rintro e x11 ⟨q1, XA, xm, xcp, _, _, hxl, rfl, hz⟩; have HXL := Lib.hid hxl; have HX11 : Hid (OW w [boxO g4 [.int .i64 oa.block, .int .i64 oa.bits, .int .i64 oa.index, .int .i64 oa.low, .int .i64 oa.clock], boxO g6 [.int .i64 ob.block, .int .i64 ob.bits, .int .i64 ob.index, .int .i64 ob.low, .int .i64 ob.clock], boxO g9 [.int .i64 v0, .int .i64 v1, .int .i64 v2, .int .i64 v3, .int .i64 v4], boxO g10 [.int .i64 u0, .int .i64 u1, .int .i64 u2, .int .i64 u3, .int .i64 u4]] x11) := Lib.hid (HX10.out.later hz.up); have HXS : Hid (∀ z, Below x11.heap.size x11 z → Sl z XA xm xcp xb) := Lib.hid fun z hb => (hz.sl (i := 0) rfl hxl).later hb; have HUP : Hid (Below x10.heap.size x10 x11) := Lib.hid hz.up; clear hxl hz HX10))
 have HXP : Hid (xb ≠ [] ∧ 0 < xb.length) := Lib.hid (by
  have h := runC_ne ⟨v0, v1, v2, v3, v4⟩ L
  rw [HXB.out] at h
  exact ⟨fun h0 => by rw [h0] at h; exact absurd h (by decide), h⟩)
 have hxm : 0 < xm := by rw [← HXL.out]; exact HXP.out.2
 have d5 : ((xm : Int) == 0) = false := beq_eq_false_iff_ne.2 (by omega)
 have d6 : (xm == 0) = false := beq_eq_false_iff_ne.2 (by omega)
 go_upto_region 9 with (first
  | (refine wl_rowR rfl 23 (.tmp 10) rfl rfl (HX11.out.range (i := 3) rfl) opts_row ?_)
  | (go_at_call 27; go_must (refine (made_yes ⟨u0, u1, u2, u3, u4⟩ M MA ml mc _ (HME.out _ HUP.out) (by omega) HRB.out HSB.out (HTB.out _ HX11.out.up)).mono ?_); rw [HYB.out]; rintro e x12 ⟨q2, YA, ym, yd, _, _, hyl, rfl, hz⟩; have HYL := Lib.hid hyl; have HX12 : Hid (OW w [boxO g4 [.int .i64 oa.block, .int .i64 oa.bits, .int .i64 oa.index, .int .i64 oa.low, .int .i64 oa.clock], boxO g6 [.int .i64 ob.block, .int .i64 ob.bits, .int .i64 ob.index, .int .i64 ob.low, .int .i64 ob.clock], boxO g9 [.int .i64 v0, .int .i64 v1, .int .i64 v2, .int .i64 v3, .int .i64 v4], boxO g10 [.int .i64 u0, .int .i64 u1, .int .i64 u2, .int .i64 u3, .int .i64 u4]] x12) := Lib.hid (HX11.out.later hz.up); have HXS2 : Hid (∀ z, Below x12.heap.size x12 z → Sl z XA xm xcp xb) := Lib.hid fun z hb => (HXS.out _ hz.up).later hb; have HYS : Hid (∀ z, Below x12.heap.size x12 z → Sl z YA ym yd yb) := Lib.hid fun z hb => (hz.sl (i := 0) rfl hyl).later hb; have HUP2 : Hid (Below x10.heap.size x10 x12) := Lib.hid (HUP.out.trans (hz.up.mono HUP.out.size)); clear hyl hz HX11 HXS HUP))
 have hym : 0 < ym := by
  have h := runC_ne ⟨u0, u1, u2, u3, u4⟩ M
  rw [HYB.out, HYL.out] at h
  exact h
 have d7 : ((ym : Int) == 0) = false := beq_eq_false_iff_ne.2 (by omega)
 have d8 : (ym == 0) = false := beq_eq_false_iff_ne.2 (by omega)
 clear hxm hym
 have HFL : Hid (∀ rs : List ER, rs.map ER.e = L.take 120 → rs.length = ll) := Lib.hid fun rs h => by
  rw [← List.length_map (f := ER.e), h, List.length_take, HLL.out]; omega
 go_upto_region 9 with fail
 refine lt_start [] (by kernel_rfl) ?_
 intro xd hd
 refine ⟨fun z => Below x12.heap.size x12 z, ?_⟩
 have HS := Lib.hid (hd)
 refine lq 0 [3, 4, 5, 6, 7, 8] rfl (yi_rowO rfl rfl rfl (fun w hS => OW.range (HX12.out.later hS) (i := 2) rfl) opts_row) HS.out ?_
 simp only [Act.put, ls1, ls2, ls3]
 refine lp 1 rfl (v := ?_) (fun w => ?_) (fun _ => HS.out) ?_
 rotate_left
 ·first | (go_simp; done) | (go_simp; with_reducible rfl)
 simp only [Act.put, ls1, ls2, ls3]
 refine lt_call 2 rfl (by kernel_rfl) rfl rfl ⟨_, Tryz.func15, by decide, by kernel_rfl⟩ [.slice LA ll lc] rfl ?_
 refine (few_any L LA ll lc _ (HLE2.out _ (HUP2.out.trans (HS.out.mono HUP2.out.size))) (fun e he => ok_lens (HOL.out.chk e he))).mono ?_
 rintro e z8 ⟨FA, fc, rs, rfl, hrs, hz⟩
 have HFE : Hid (Ens z8 FA ll L) := Lib.hid (by
  have h := rowE_ens (os := []) (by rw [List.append_nil]; exact hz)
  rw [hrs, List.take_of_length_le (by rw [HLL.out]; omega)] at h
  rwa [HFL.out rs hrs] at h)
 have hfl := HFL.out rs hrs
 rw [hfl]
 replace HS := Lib.hid (HS.out.trans (hz.up.mono HS.out.size))
 clear hz hrs hfl
 refine ⟨_, rfl, fun _ => HS.out, ?_⟩
 simp only [Act.put, ls1, ls2, ls3]
 refine lt_call 3 rfl (by kernel_rfl) rfl rfl ⟨_, Tryz.func27, by decide, by kernel_rfl⟩ [.agg #[.int .i64 v0, .int .i64 v1, .int .i64 v2, .int .i64 v3, .int .i64 v4], .slice FA ll fc] rfl ?_
 refine (made_yes ⟨v0, v1, v2, v3, v4⟩ L FA ll fc _ HFE.out (by omega) HRA.out HSA.out (HTB.out _ (HX12.out.later HS.out).up)).mono ?_
 rw [HXB.out]
 rintro e z9 ⟨q3, ZA, zm, zd, _, _, hzl, rfl, hz⟩
 obtain rfl : xm = zm := by rw [← HXL.out]; exact hzl
 have HZS : Hid (∀ z, Below z9.heap.size z9 z → Sl z ZA xm zd xb) := Lib.hid fun z hb => (hz.sl (i := 0) rfl hzl).later hb
 replace HS := Lib.hid (HS.out.trans (hz.up.mono HS.out.size))
 clear hz hzl
 refine ⟨_, rfl, fun _ => HS.out, ?_⟩
 simp only [Act.put, ls1, ls2, ls3]
 refine lp 4 rfl (v := ?_) (fun w => ?_) (fun _ => HS.out) ?_
 rotate_left
 ·first | (go_simp; done) | (go_simp; with_reducible rfl)
 simp only [Act.put, ls1, ls2, ls3]
 refine lp 5 rfl (v := ?_) (fun w => ?_) (fun _ => HS.out) ?_
 rotate_left
 ·first | (go_simp; done) | (go_simp; with_reducible rfl)
 simp only [Act.put, ls1, ls2, ls3]
 refine lp 6 rfl (v := ?_) (fun w => ?_) (fun _ => HS.out) ?_
 rotate_left
 ·first | (go_simp; done) | (go_simp; with_reducible rfl)
 simp only [Act.put, ls1, ls2, ls3]
 refine lp 7 rfl (v := ?_) (fun w => ?_) (fun _ => HS.out) ?_
 rotate_left
 ·first | (go_simp; done) | (go_simp; with_reducible rfl)
 simp only [Act.put, ls1, ls2, ls3]
 refine lp 8 rfl (v := ?_) (fun w => ?_) (fun _ => HS.out) ?_
 rotate_left
 ·first | (go_simp; done) | (go_simp; with_reducible rfl)
 simp only [Act.put, ls1, ls2, ls3]
 refine lt_done (by kernel_rfl) ?_
 have HX13 : Hid (OW w [boxO g4 [.int .i64 oa.block, .int .i64 oa.bits, .int .i64 oa.index, .int .i64 oa.low, .int .i64 oa.clock], boxO g6 [.int .i64 ob.block, .int .i64 ob.bits, .int .i64 ob.index, .int .i64 ob.low, .int .i64 ob.clock], boxO g9 [.int .i64 v0, .int .i64 v1, .int .i64 v2, .int .i64 v3, .int .i64 v4], boxO g10 [.int .i64 u0, .int .i64 u1, .int .i64 u2, .int .i64 u3, .int .i64 u4]] z9) := Lib.hid (HX12.out.later HS.out)
 have HXS3 : Hid (∀ z, Below z9.heap.size z9 z → Sl z XA xm xcp xb) := Lib.hid fun z hb => (HXS2.out _ HS.out).later hb
 have HYS3 : Hid (∀ z, Below z9.heap.size z9 z → Sl z YA ym yd yb) := Lib.hid fun z hb => (HYS.out _ HS.out).later hb
 have HUP3 : Hid (Below x10.heap.size x10 z9) := Lib.hid (HUP2.out.trans (HS.out.mono HUP2.out.size))
 clear HS
 have HXZ : Hid ((xb == xb) = true) := Lib.hid (by simp)
 obtain ⟨bq, hbq⟩ : ∃ q, q = (xb == yb) := ⟨_, rfl⟩
 have HBQ := Lib.hid hbq.symm
 have HLM : Hid (bq = true → L = M ∧ v2 = u2 ∧ v3 = u3 ∧ v4 = u4) := Lib.hid fun h => by
  have h2 : xb = yb := by rw [hbq] at h; simpa using h
  have h3 := run_one HRA.out HRB.out (by rw [HLL.out]; omega) (by rw [HML.out]; omega) HSA.out HSB.out (by rw [HXB.out, HYB.out]; exact h2)
  exact h3
 clear hbq
 go_upto_region 12 with (go_at_call 43; go_must (refine (rSame_any xb xb XA ZA xm xcp xm zd _ (HXS3.out _ (Below.refl _ _)).rb (HZS.out _ (Below.refl _ _)).rb).mono ?_); rw [HXZ.out]; rintro e y13 ⟨rfl, rfl⟩)
 cases bq with
 | false =>
  go_wp2_with (go_at_call 43; go_must (refine (rSame_any xb yb XA YA xm xcp ym yd _ (HXS3.out _ (Below.refl _ _)).rb (HYS3.out _ (Below.refl _ _)).rb).mono ?_); rw [HBQ.out]; rintro e y14 ⟨rfl, rfl⟩)
  go_ret
  exact ⟨rfl, HX13.out.up⟩
 | true =>
  obtain ⟨e1, e2, e3, e4⟩ := HLM.out rfl
  subst e1 e2 e3 e4
  have z2 : (v2 == v2) = true := by simp
  have z3 : (v3 == v3) = true := by simp
  have z4 : (v4 == v4) = true := by simp
  go_wp2_with (first
   | (go_at_call 43; go_must (refine (rSame_any xb yb XA YA xm xcp ym yd _ (HXS3.out _ (Below.refl _ _)).rb (HYS3.out _ (Below.refl _ _)).rb).mono ?_); rw [HBQ.out]; rintro e y14 ⟨rfl, rfl⟩)
   | (go_at_call 32; go_must (refine (sameAll_any L L LA ll lc MA ml mc _ (HLE2.out _ HUP3.out) (HME.out _ HUP3.out) (by omega)).mono ?_); rintro e x15 ⟨bo, rfl, hbo, hb⟩; obtain rfl := hbo.2 rfl; have HX15 := Lib.hid (HX13.out.later hb); clear hb hbo)
   | (refine wpList_load_cell rfl 3 (.tmp 81) rfl rfl (HX15.out.cell (i := 2) (j := 2) rfl rfl) (fun w => Tryz.isAgg3 w) ?_)
   | (refine wpList_load_cell rfl 3 (.tmp 83) rfl rfl (HX15.out.cell (i := 3) (j := 2) rfl rfl) (fun w => Tryz.isAgg3 w) ?_)
   | (refine wpList_load_cell rfl 3 (.tmp 88) rfl rfl (HX15.out.cell (i := 2) (j := 3) rfl rfl) (fun w => Tryz.isAgg3 w) ?_)
   | (refine wpList_load_cell rfl 3 (.tmp 90) rfl rfl (HX15.out.cell (i := 3) (j := 3) rfl rfl) (fun w => Tryz.isAgg3 w) ?_)
   | (refine wpList_load_cell rfl 3 (.tmp 95) rfl rfl (HX15.out.cell (i := 2) (j := 4) rfl rfl) (fun w => Tryz.isAgg3 w) ?_)
   | (refine wpList_load_cell rfl 3 (.tmp 97) rfl rfl (HX15.out.cell (i := 3) (j := 4) rfl rfl) (fun w => Tryz.isAgg3 w) ?_))
  go_ret
  exact ⟨rfl, HX15.out.up⟩
end Go.Proofs.YtfdbcfaeiglbeaaGreatDoor
namespace Go.Proofs.YtfdbcfaeiglbeaaGreatDoor
open Go.RowKit Go.WideShapes Go.ChangeShapes Go.Joins Go.Deep
section
variable {H : Type} {enc : TypeId × Value → H} {P : Program}
theorem trodAll_below (hl : laidOutB P = true) {W W' : World} {sp : Nat → Bool} : ∀ (ts : List TypeId) (vs : List Value) (ds : List (DataW H)) (ps : List MemPlace),
    (∀ t ∈ ts, P.readableRec t = true ∧ t < P.types.size) → DataW.TrodAll enc P W 0 (fun _ => true) true ts vs ds ps → (∀ p ∈ ps, W.sameAt W' p) → (∀ p ∈ ps, sp p.block = true) →
    DataW.TrodAll enc P W' 0 sp true ts vs ds ps
  | [], [], [], ps, _, h, _, _ => h
  | t :: ts, v :: vs, d :: ds, ps, hr, h, hs, hp => by
    obtain ⟨p, q, h1, h2, rfl⟩ := h
    refine ⟨p, q, WideElems.Trod_stays hl (hr t (by simp)).1 (hr t (by simp)).2 h1 (fun x hx => hs x (by simp [hx])) (fun x hx => hp x (by simp [hx])), ?_, rfl⟩
    exact trodAll_below hl ts vs ds q (fun t ht => hr t (by simp [ht])) h2 (fun x hx => hs x (by simp [hx])) (fun x hx => hp x (by simp [hx]))
  | [], _ :: _, _, _, _, h, _, _ => h.elim
  | [], [], _ :: _, _, _, h, _, _ => h.elim
  | _ :: _, [], _, _, _, h, _, _ => h.elim
  | _ :: _, _ :: _, [], _, _, h, _, _ => h.elim
theorem law_post {f : Func} {s : ChangeSpec} {apart fresh handsOn again : Bool} {W W' : World} {args : Array Value} {ds gs : List (DataW H)} {before : List MemPlace} {tb : TypeId}
    (hl : laidOutB P = true) (hr : ∀ t ∈ f.params.toList, P.readableRec t = true ∧ t < P.types.size) (hv : s.vars = [])
    (hW : DataW.Whole enc P f.params.toList s.vars apart W args.toList ds gs before) (hres : f.resultTypes = #[tb]) (htb : P.underlying tb = some .bool)
    (hfn : s.fn H (ds ++ gs) = { results := [.lit (.bool true)], args := ds }) (hb : Below W.heap.size W W') :
    s.post enc P f apart fresh handsOn again W args (.bool true) W' := by
  have hlt : ∀ p ∈ before, p.block < W.heap.size := fun p hp => hW.lt p hp
  obtain ⟨p, q, hA, hV, hpq, hz, hn⟩ := hW
  have hq : gs = [] ∧ q = [] := by rw [hv] at hV; exact trodVars_none hV
  obtain ⟨rfl, rfl⟩ := hq
  rw [List.append_nil] at hpq
  subst hpq
  have hold : ∀ x ∈ before, (fun b => decide (b < W.heap.size)) x.block = true := fun x hx => by simpa using hlt x hx
  have hargs : ∀ sp : Nat → Bool, (∀ x ∈ before, sp x.block = true) → DataW.TrodAll enc P W' 0 sp true f.params.toList args.toList ds before := fun sp hsp =>
    trodAll_below hl _ _ _ _ hr hA (fun x hx => hb.same (hlt x hx)) hsp
  have hvars : ∀ sp : Nat → Bool, DataW.TrodVars enc P W' sp s.vars (s.fn H (ds ++ [])).vars [] := fun sp => by rw [hv, hfn]; rfl
  have hresv : ∀ (b : Nat) (sp : Nat → Bool) (hd : Bool), DataW.TrodAll enc P W' b sp hd f.resultTypes.toList ((Value.bool true).resultList f.resultTypes.size) (s.fn H (ds ++ [])).results [] := by
    intro b sp hd
    rw [hfn, hres]
    exact trodAll_mk1 (shut_bool htb true)
  have hargs' : ∀ sp : Nat → Bool, (∀ x ∈ before, sp x.block = true) → DataW.TrodAll enc P W' 0 sp true f.params.toList args.toList (s.fn H (ds ++ [])).args before := fun sp hsp => by rw [hfn]; exact hargs sp hsp
  refine ⟨ds, [], before, [], before, [], ⟨before, [], hA, hV, by simp, hz, hn⟩, hresv _ _ _, hargs' _ hold, hvars _, World.keptBut_mono (fun x hx => ⟨hx, Or.inr (Or.inl hx)⟩) (hb.frame (· ∈ before)), fun _ => ?_⟩
  refine ⟨?_, _, _, ([] ++ before) ++ [], ⟨[] ++ before, [], trodAll_append (hargs' _ (fun _ _ => rfl)) (hresv _ _ _), hvars _, rfl, ?_, ?_⟩, ?_⟩
  · exact ok_one hres rfl (okWide_bool_mk htb true)
  · intro b off hp
    have hin : MemPlace.cell b off ∈ before := by simpa using hp
    rw [hb.frozen (hlt _ hin)]
    exact hz b off hin
  · intro ha
    have := hn ha
    simpa using this
  · intro x hx _
    simpa using hx
end
theorem list_of {α : Type} {Q : Nat → α → Prop} : ∀ (n : Nat), (∀ i, i < n → ∃ x, Q i x) → ∃ l : List α, l.length = n ∧ ∀ i x, l[i]? = some x → Q i x
  | 0, _ => ⟨[], rfl, fun i x h => by simp at h⟩
  | n + 1, h => by
    obtain ⟨l, hl, hq⟩ := list_of n (fun i hi => h i (by omega))
    obtain ⟨x, hx⟩ := h n (by omega)
    refine ⟨l ++ [x], by simp [hl], fun i y hy => ?_⟩
    rcases Nat.lt_or_ge i n with hi | hi
    · rw [List.getElem?_append_left (by omega)] at hy
      exact hq i y hy
    · have : i = n := by
        have := (List.getElem?_eq_some_iff.1 hy).1
        simp [hl] at this; omega
      subst this
      rw [List.getElem?_append_right (by omega)] at hy
      simp [hl] at hy
      subst hy; exact hx
theorem addr_add (a : Addr) (j : Nat) (ha : a.spot = none) : a.add j = ⟨a.block, a.off + j, none⟩ := by
  obtain ⟨b, o, sp⟩ := a
  simp at ha; subst ha
  unfold Addr.add
  split
  · rename_i h; subst h; rfl
  · rfl
theorem spot_none {w : World} {a : Addr} {v : Value} (h : w.cell? a = some v) : a.spot = none := by
  unfold World.cell? at h
  split at h
  · split at h
    · cases h
    · rename_i h'; simpa using h'
  · cases h
theorem reads_of {w : World} {size n : Nat} {a : Addr} {xs : List Value} (hl : xs.length = n * size) (hs : 0 < size) (h : ∀ j u, xs[j]? = some u → w.cell? (a.add j) = some u) : Reads w w.heap.size size (some a) n xs := by
  refine ⟨hl, fun hn => ?_⟩
  have h0 : 0 < xs.length := by rw [hl]; exact Nat.mul_pos hn hs
  have hc := h 0 _ (List.getElem?_eq_getElem h0)
  have e0 : a.add 0 = a := by simp [Addr.add]
  rw [e0] at hc
  have hsp := spot_none hc
  refine ⟨a.block, a.off, by obtain ⟨b, o, sp⟩ := a; simp at hsp; subst hsp; rfl, World.block_lt_of_cell? w a hc, fun j u hu => ?_⟩
  rw [← addr_add a j hsp]
  exact h j u hu
section
variable {H : Type} {enc : TypeId × Value → H} {P : Program} {w : World} {base : Nat} {spare : Nat → Bool} {held : Bool}
end
section
variable {H : Type} {enc : TypeId × Value → H} {P : Program} {w : World} {base : Nat} {spare : Nat → Bool} {held : Bool}
theorem open_slice_fields {t e : TypeId} {fs : Array Field} {fuel : Nat} {cs : List Value} {x : DataW H × List MemPlace} (ht : P.underlying t = some (.slice e)) (he : P.underlying e = some (.struct fs))
    (hone : oneCellFields P fs = true) (hC : P.cellsOf e = fs.size) (h : DataW.trod enc P w base spare held fuel t cs = some x) :
    (cs = [.slice none 0 0] ∧ x = (.nil, [])) ∨
    ∃ (a : Addr) (len cap m : Nat) (D : Nat → DataW H) (Pl : Nat → List MemPlace), cs = [.slice (some a) len cap] ∧ base ≤ a.block ∧ len ≤ cap ∧ cap ≤ maxLen ∧ m = (if spare a.block then cap else len) ∧
      x = (.slice ((List.range len).map D) ((List.range (m - len)).map fun j => D (len + j)), MemPlace.row a (m * fs.size) ++ (List.range m).flatMap Pl) ∧
      ∀ i, i < m → ∃ (ys : List (DataW H × List MemPlace)) (n : Nat), D i = .agg (ys.map (·.1)) ∧ Pl i = ys.flatMap (·.2) ∧ ys.length = fs.size ∧
        ∀ (j : Nat) (f : Field), fs[j]? = some f → ∃ (v : Value) (y : DataW H × List MemPlace), w.cell? (a.add (i * fs.size + j)) = some v ∧ ys[j]? = some y ∧ DataW.trod enc P w base spare held n f.type [v] = some y := by
  rcases open_slice ht h with h0 | ⟨a, len, cap, m, n, D, Pl, hcs, hb, hl, hm, hmm, hx, hi⟩
  · exact .inl h0
  · refine .inr ⟨a, len, cap, m, D, Pl, hcs, hb, hl, hm, hmm, by rw [hC] at hx; exact hx, fun i him => ?_⟩
    obtain ⟨cs', hc, ht'⟩ := hi i him
    rw [hC] at hc
    obtain ⟨ys, n', hn', hy, hlen, hyl, hf⟩ := DataW.trod_struct he ht'
    obtain ⟨_, hcl, hat⟩ := World.cells?_some hc
    simp only [Prod.mk.injEq] at hy
    refine ⟨ys, n', hy.1, hy.2, hyl, fun j f hj => ?_⟩
    obtain ⟨ho, hk⟩ := hone_of hone j f hj
    have hjl : j < fs.size := (Array.getElem?_eq_some_iff.1 hj).1
    have hcell := hat j hjl
    have hv : cs'[j]? = some (cs'[j]'(by omega)) := List.getElem?_eq_getElem (by omega)
    have h1 := hf j f hj
    rw [ho, hk] at h1
    have hone' : (cs'.drop j).take 1 = [cs'[j]'(by omega)] := by
      rw [List.drop_eq_getElem_cons (by omega)]
      rfl
    rw [hone'] at h1
    have hys : ys[j]? = some (ys[j]'(by omega)) := List.getElem?_eq_getElem (by omega)
    refine ⟨_, _, ?_, hys, h1.trans hys⟩
    rw [← Go.Deep.add_add, hcell, hv]
end
section
variable {H : Type} {enc : TypeId × Value → H} {P : Program} {w : World} {base : Nat} {spare : Nat → Bool} {held : Bool}
theorem open_bytes {t e : TypeId} {fuel : Nat} {cs : List Value} {x : DataW H × List MemPlace} (ht : P.underlying t = some (.slice e)) (he : P.underlying e = some (.int .u8)) (hC : P.cellsOf e = 1)
    (h : DataW.trod enc P w base spare held fuel t cs = some x) :
    ∃ (A : Option Addr) (c : Nat) (l : List UInt8), cs = [.slice A l.length c] ∧ l.length ≤ c ∧ c ≤ 9223372036854775807 ∧ (A = none → c = 0) ∧ RB w w.heap.size A l.length l := by
  rcases open_slice1 ht hC h with ⟨rfl, _⟩ | ⟨a, len, cap, m, n, V, D, Pl, rfl, _, hl, hm, hmm, _, hi⟩
  · exact ⟨none, 0, [], rfl, by simp, by omega, fun _ => rfl, RB.nil⟩
  · have hlm : len ≤ m := by rw [hmm]; split <;> omega
    obtain ⟨l, hll, hq⟩ := list_of (Q := fun i (b : UInt8) => w.cell? (a.add i) = some (.int .u8 (b.toNat : Int))) len (fun i hi' => by
      obtain ⟨h1, h2⟩ := hi i (by omega)
      obtain ⟨v, e0, _, hw⟩ := DataW.trod_int he h2
      injection e0 with e0 _
      have hw : 0 ≤ v ∧ v ≤ 255 := by
        simp [Lit.wf, IntKind.min, IntKind.max, IntKind.signed, IntKind.bits] at hw
        omega
      refine ⟨UInt8.ofNat v.toNat, ?_⟩
      rw [h1, e0, UInt8.toNat_ofNat', Nat.mod_eq_of_lt (by omega), Int.toNat_of_nonneg hw.1])
    subst hll
    exact ⟨some a, cap, l, rfl, hl, hm, (fun e => nomatch e), reads_of (by simp [u8s_length]) (by decide) fun j u hu => by
      simp only [u8s, List.getElem?_map, Option.map_eq_some_iff] at hu
      obtain ⟨b, hb, rfl⟩ := hu
      exact hq j b hb⟩
theorem open_slice_top {r : Reach} {b0 : Nat} {t e : TypeId} {v : Value} {d : DataW H} {ps : List MemPlace} (ht : P.underlying t = some (.slice e)) (hval : Value.okWide P w r b0 t v) (h : DataW.Trod enc P w base spare held t v d ps) :
    ∃ fuel, DataW.trod enc P w base spare held fuel t [v] = some (d, ps) := by
  obtain ⟨a, n, c, rfl⟩ := okWide_slice ht hval
  obtain ⟨fuel, hf⟩ := h
  exact ⟨fuel, hf⟩
end
theorem bulk_one {H : Type} (d : DataW H) : 1 ≤ Rows.uptoBulk d := by
  cases d with
  | lit l => cases l <;> simp [Rows.uptoBulk]
  | nil => simp [Rows.uptoBulk]
  | ptr d => simp [Rows.uptoBulk]
  | slice elems spare => simp [Rows.uptoBulk]
  | agg parts => simp [Rows.uptoBulk]
  | iface t d => simp [Rows.uptoBulk]
  | map entries => simp [Rows.uptoBulk]
  | held h => simp [Rows.uptoBulk]
theorem bulk_len {H : Type} (l : List (DataW H)) : l.length ≤ Rows.uptoBulkAll l := by
  induction l with
  | nil => simp [Rows.uptoBulkAll]
  | cons x r ih => have := bulk_one x; simp only [Rows.uptoBulkAll, List.length_cons]; omega
section
variable {H : Type} {enc : TypeId × Value → H} {P : Program} {w : World} {base : Nat} {held : Bool}
theorem upto_bytes {t e : TypeId} {fuel : Nat} {cs : List Value} {x : DataW H × List MemPlace} (ht : P.underlying t = some (.slice e)) (he : P.underlying e = some (.int .u8)) (hC : P.cellsOf e = 1)
    (h : DataW.trod enc P w base (fun _ => true) held fuel t cs = some x) :
    ∃ (A : Option Addr) (c : Nat) (l : List UInt8), cs = [.slice A l.length c] ∧ Sl w A l.length c l ∧ c + 1 ≤ Rows.uptoBulk x.1 := by
  obtain ⟨A, c, l, h1, h2, h3, h4, h5⟩ := open_bytes ht he hC h
  refine ⟨A, c, l, h1, ⟨h5, h2, h3, h4⟩, ?_⟩
  rcases open_slice1 ht hC h with ⟨rfl, rfl⟩ | ⟨a, len, cap, m, n, V, D, Pl, rfl, _, hl, hm, hmm, hx, hi⟩
  · injection h1 with h1
    injection h1 with _ _ h1
    subst h1
    simp [Rows.uptoBulk]
  · injection h1 with h1
    injection h1 with _ _ h1
    subst h1
    rw [if_pos rfl] at hmm
    subst hmm
    rw [hx]
    simp only [Rows.uptoBulk]
    have e1 := bulk_len (H := H) ((List.range len).map D)
    have e2 := bulk_len (H := H) ((List.range (m - len)).map fun j => D (len + j))
    simp only [List.length_map, List.length_range] at e1 e2
    omega
end
end Go.Proofs.YtfdbcfaeiglbeaaGreatDoor
namespace Go.Proofs.YtfdbcfaeiglbeaaGreatDoor
open Go.ChangeShapes Go.WideShapes Go.ChangeAt Go.RowKit Go.Joins Go.Deep
theorem Tryz.own : ownKnob Tryz.prog.godebug = none := by kernel_rfl
theorem Tryz.laidOut : laidOutB Tryz.prog = true := by kernel_rfl
theorem gTab : Tryz.prog.globalNamed "strata/wire.table" = some 0 := by kernel_rfl
theorem gTabType : (Tryz.prog.globals[0]?).map (·.type) = some 269 := by kernel_rfl
theorem gTabCells : Tryz.prog.cellsOf 269 = 16 := by kernel_rfl
theorem gTabCell : Tryz.prog.cellsOf 106 = 1 := by kernel_rfl
def tabZ : List Int := [0, 274646895, 549293790, 820201905, 1098587580, 1361435347, 1640403810, 1905808397, 2197175160, 2460548119, 2722870694, 2987750089, 3280807620, 3553878443, 3811616794, 4084100981]
theorem tabZ_at : ∀ i : Fin 16, tabZ.getD i.val 0 = (tabN i.val : Int) := by decide +kernel
theorem table_of {W : World} (h : laidMetH Tryz.prog [("strata/wire.table", Rows.laid_strata_wire_table)] W) : TabAt 0 W := by
  have ht : Lib.TabIs Tryz.prog W "strata/wire.table" .u32 tabZ := Lib.tabIs_of_head (rest := []) gTab gTabType Tryz.underlying269 Tryz.underlying106 gTabCell gTabCells h
  have hc : ∀ i, i < 16 → W.cell? ⟨0, i, none⟩ = some (.int .u32 (tabN i)) := fun i hi => by
    rw [ht.cell gTab i hi, tabZ_at ⟨i, hi⟩]
  exact ⟨World.block_lt_of_cell? W ⟨0, 0, none⟩ (hc 0 (by decide)), hc⟩
noncomputable def laidWorld (os : Os) : World :=
  { World.holding Tryz.prog os ⟨#[], #[], []⟩ with heap := (World.holding Tryz.prog os ⟨#[], #[], []⟩).heap.modify 0 fun
      | .cells _ t frozen => .cells #[.int .u32 0, .int .u32 274646895, .int .u32 549293790, .int .u32 820201905, .int .u32 1098587580, .int .u32 1361435347, .int .u32 1640403810, .int .u32 1905808397, .int .u32 2197175160, .int .u32 2460548119, .int .u32 2722870694, .int .u32 2987750089, .int .u32 3280807620, .int .u32 3553878443, .int .u32 3811616794, .int .u32 4084100981] t frozen
      | o => o }
end Go.Proofs.YtfdbcfaeiglbeaaGreatDoor
namespace Go.Proofs.YtfdbcfaeiglbeaaGreatDoor
open Go.RowKit Go.WideShapes Go.ChangeShapes Go.Joins Go.Deep
theorem bulk_mem {H : Type} {d : DataW H} {l : List (DataW H)} (h : d ∈ l) : Rows.uptoBulk d ≤ Rows.uptoBulkAll l := by
  induction l with
  | nil => cases h
  | cons x l ih =>
    simp only [Rows.uptoBulkAll]
    rcases List.mem_cons.1 h with rfl | h
    · omega
    · have := ih h; omega
section
variable {H : Type} {enc : TypeId × Value → H} {P : Program} {w : World} {base : Nat} {held : Bool}
theorem upto_structs {t e : TypeId} {fs : Array Field} {fuel : Nat} {cs : List Value} {x : DataW H × List MemPlace} (ht : P.underlying t = some (.slice e)) (he : P.underlying e = some (.struct fs))
    (hone : oneCellFields P fs = true) (hC : P.cellsOf e = fs.size) (h : DataW.trod enc P w base (fun _ => true) held fuel t cs = some x) :
    cs = [.slice none 0 0] ∨
    ∃ (a : Addr) (len cap : Nat), cs = [.slice (some a) len cap] ∧ len ≤ cap ∧ cap ≤ maxLen ∧ cap + 1 ≤ Rows.uptoBulk x.1 ∧
      ∀ i, i < len → ∀ (j : Nat) (f : Field), fs[j]? = some f → ∃ (v : Value) (y : DataW H × List MemPlace) (n : Nat), w.cell? (a.add (i * fs.size + j)) = some v ∧ DataW.trod enc P w base (fun _ => true) held n f.type [v] = some y ∧ Rows.uptoBulk y.1 + 1 ≤ Rows.uptoBulk x.1 := by
  rcases open_slice_fields ht he hone hC h with ⟨h0, _⟩ | ⟨a, len, cap, m, D, Pl, hcs, hb, hl, hm, hmm, hx, hi⟩
  · exact .inl h0
  · rw [if_pos rfl] at hmm
    subst hmm
    refine .inr ⟨a, len, m, hcs, hl, hm, ?_, fun i him j f hf => ?_⟩
    · rw [hx]
      simp only [Rows.uptoBulk]
      have e1 := bulk_len (H := H) ((List.range len).map D)
      have e2 := bulk_len (H := H) ((List.range (m - len)).map fun j => D (len + j))
      simp only [List.length_map, List.length_range] at e1 e2
      omega
    · obtain ⟨ys, n, hD, _, hyl, hq⟩ := hi i (by omega)
      obtain ⟨v, y, hc, hy, ht'⟩ := hq j f hf
      refine ⟨v, y, n, hc, ht', ?_⟩
      have h1 : Rows.uptoBulk y.1 ≤ Rows.uptoBulkAll (ys.map (·.1)) := bulk_mem (List.mem_map.2 ⟨y, List.mem_of_getElem? hy, rfl⟩)
      have h2 : Rows.uptoBulk (D i) ≤ Rows.uptoBulkAll ((List.range len).map D) := bulk_mem (List.mem_map.2 ⟨i, List.mem_range.2 him, rfl⟩)
      rw [hD] at h2
      rw [hx]
      simp only [Rows.uptoBulk] at h2 ⊢
      omega
theorem field_int {k : IntKind} {t : TypeId} {v : Value} {y : DataW H × List MemPlace} {n : Nat} {sp : Nat → Bool} (ht : P.underlying t = some (.int k)) (h : DataW.trod enc P w base sp held n t [v] = some y) : ∃ z : Int, v = .int k z ∧ (Lit.int k z).wf = true := by
  obtain ⟨z, e0, _, hw⟩ := DataW.trod_int ht h
  injection e0 with e0 _
  exact ⟨z, e0, hw⟩
theorem field_bytes {t e : TypeId} {v : Value} {y : DataW H × List MemPlace} {n : Nat} (ht : P.underlying t = some (.slice e)) (he : P.underlying e = some (.int .u8)) (hC : P.cellsOf e = 1) (h : DataW.trod enc P w base (fun _ => true) held n t [v] = some y) :
    ∃ (A : Option Addr) (m c : Nat) (l : List UInt8), v = .slice A m c ∧ Sl w A m c l ∧ c + 1 ≤ Rows.uptoBulk y.1 := by
  obtain ⟨A, c, l, e0, h1, h2⟩ := upto_bytes ht he hC h
  injection e0 with e0 _
  exact ⟨A, _, c, l, e0, h1, h2⟩
end
section
variable {H : Type} {enc : TypeId × Value → H} {w : World} {base : Nat} {held : Bool}
end
theorem ens_of_cellsP {P : Ent → Prop} {w : World} {b o n : Nat} (hb : b < w.heap.size) (h : ∀ i, i < n → ∃ r : ER, (∀ j v, r.cells[j]? = some v → w.cell? ⟨b, o + (i * 7 + j), none⟩ = some v) ∧ r.En w ∧ P r.e) : ∃ L, Ens w (some ⟨b, o, none⟩) n L ∧ ∀ e, e ∈ L → P e := by
  have hh : ∀ m, m ≤ n → ∃ rs : List ER, rs.length = m ∧ (∀ i r, rs[i]? = some r → (∀ j v, r.cells[j]? = some v → w.cell? ⟨b, o + (i * 7 + j), none⟩ = some v) ∧ r.En w ∧ P r.e) := by
    intro m
    induction m with
    | zero => intro _; exact ⟨[], rfl, fun i r hr => by cases hr⟩
    | succ m ih =>
      intro hm
      obtain ⟨rs, h1, h2⟩ := ih (by omega)
      obtain ⟨r, hr⟩ := h m (by omega)
      refine ⟨rs ++ [r], by rw [List.length_append, h1]; rfl, fun i q hq => ?_⟩
      rw [List.getElem?_append] at hq
      split at hq
      · exact h2 i q hq
      · rename_i hlt
        obtain rfl : i = m := by
          have := (List.getElem?_eq_some_iff.1 hq).1
          simp at this; omega
        rw [h1, Nat.sub_self] at hq
        injection hq with hq
        subst hq; exact hr
  obtain ⟨rs, h1, h2⟩ := hh n (Nat.le_refl _)
  refine ⟨rs.map ER.e, ⟨rs, rfl, ⟨by rw [flat7_len, h1], fun _ => ⟨b, o, rfl, hb, fun j u hu => ?_⟩⟩, fun r hr => ?_⟩, fun e he => ?_⟩
  · have hj : j < rs.length * 7 := by have := (List.getElem?_eq_some_iff.1 hu).1; rwa [flat7_len] at this
    obtain ⟨r, hr⟩ : ∃ r, rs[j / 7]? = some r := ⟨_, List.getElem?_eq_getElem (by omega)⟩
    have e : j = j / 7 * 7 + j % 7 := by omega
    rw [e] at hu ⊢
    rw [flat7_at hr (j % 7) (by omega)] at hu
    exact (h2 _ r hr).1 (j % 7) u hu
  · obtain ⟨i, hi⟩ := List.getElem?_of_mem hr
    exact (h2 i r hi).2.1
  · obtain ⟨r, hr, rfl⟩ := List.mem_map.1 he
    obtain ⟨i, hi⟩ := List.getElem?_of_mem hr
    exact (h2 i r hi).2.2
section
variable {H : Type} {enc : TypeId × Value → H} {w : World} {base : Nat} {held : Bool}
set_option maxRecDepth 100000 in
theorem upto_ents7 {fuel : Nat} {cs : List Value} {x : DataW H × List MemPlace} (h : DataW.trod enc Tryz.prog w base (fun _ => true) held fuel 24 cs = some x) (hb : Rows.uptoBulk x.1 ≤ 1048576) :
    ∃ (A : Option Addr) (n c : Nat) (L : List Ent), cs = [.slice A n c] ∧ n ≤ c ∧ c ≤ 1048576 ∧ Ens w A n L ∧ (∀ e, e ∈ L → e.row.length ≤ 1048576 ∧ e.qual.length ≤ 1048576 ∧ e.val.length ≤ 1048576) := by
  rcases upto_structs Tryz.underlying24 Tryz.underlying60 (by kernel_rfl) (by kernel_rfl) h with rfl | ⟨a, len, cap, rfl, hl, hm, hc, hi⟩
  · exact ⟨none, 0, 0, [], rfl, by omega, by omega, Ens.nil, fun e h => by cases h⟩
  · rcases Nat.eq_zero_or_pos len with h0 | hn
    · subst h0; exact ⟨some a, 0, cap, [], rfl, hl, by omega, Ens.nil, fun e h => by cases h⟩
    obtain ⟨v, y, n, c0, _⟩ := hi 0 hn 0 _ rfl
    have c0' : w.cell? (a.add 0) = some v := c0
    rw [show a.add 0 = a from by simp [Addr.add]] at c0'
    have hsp := spot_none c0'
    have hb0 := World.block_lt_of_cell? w a c0'
    obtain ⟨L, hL, hLP⟩ := ens_of_cellsP (P := fun e => e.row.length ≤ 1048576 ∧ e.qual.length ≤ 1048576 ∧ e.val.length ≤ 1048576) (w := w) (b := a.block) (o := a.off) (n := len) hb0 fun i him => by
      obtain ⟨v0, y0, n0, c0, t0, u0⟩ := hi i him 0 _ rfl
      obtain ⟨v1, y1, n1, c1, t1, _⟩ := hi i him 1 _ rfl
      obtain ⟨v2, y2, n2, c2, t2, u2⟩ := hi i him 2 _ rfl
      obtain ⟨v3, y3, n3, c3, t3, _⟩ := hi i him 3 _ rfl
      obtain ⟨v4, y4, n4, c4, t4, _⟩ := hi i him 4 _ rfl
      obtain ⟨v5, y5, n5, c5, t5, _⟩ := hi i him 5 _ rfl
      obtain ⟨v6, y6, n6, c6, t6, u6⟩ := hi i him 6 _ rfl
      obtain ⟨A, m, c, l, rfl, hs, hx1⟩ := field_bytes Tryz.underlying34 Tryz.underlying5 (by kernel_rfl) t0
      obtain ⟨fam, rfl, _⟩ := field_int Tryz.underlying3 t1
      obtain ⟨B, m2, d, l2, rfl, hs2, hx2⟩ := field_bytes Tryz.underlying34 Tryz.underlying5 (by kernel_rfl) t2
      obtain ⟨ts, rfl, _⟩ := field_int Tryz.underlying3 t3
      obtain ⟨sq, rfl, _⟩ := field_int Tryz.underlying3 t4
      obtain ⟨kd, rfl, _⟩ := field_int Tryz.underlying3 t5
      obtain ⟨D, m3, q, l3, rfl, hs3, hx3⟩ := field_bytes Tryz.underlying34 Tryz.underlying5 (by kernel_rfl) t6
      have f1 := hs.cap
      have f2 := hs2.cap
      have f3 := hs3.cap
      have e1 := hs.rb.len
      have e2 := hs2.rb.len
      have e3 := hs3.rb.len
      subst e1 e2 e3
      rw [addr_add _ _ hsp] at c0 c1 c2 c3 c4 c5 c6
      refine ⟨⟨A, c, B, d, D, q, ⟨l, fam, l2, ts, sq, kd, l3⟩⟩, fun j v hj => ?_, ⟨hs, hs2, hs3⟩, by show l.length ≤ 1048576 ∧ l2.length ≤ 1048576 ∧ l3.length ≤ 1048576; omega⟩
      match j, hj with
      | 0, hj => injection hj with hj; subst hj; exact c0
      | 1, hj => injection hj with hj; subst hj; exact c1
      | 2, hj => injection hj with hj; subst hj; exact c2
      | 3, hj => injection hj with hj; subst hj; exact c3
      | 4, hj => injection hj with hj; subst hj; exact c4
      | 5, hj => injection hj with hj; subst hj; exact c5
      | 6, hj => injection hj with hj; subst hj; exact c6
    exact ⟨some a, len, cap, L, rfl, hl, by omega, by obtain ⟨b, o, sp⟩ := a; simp at hsp; subst hsp; exact hL, hLP⟩
set_option maxRecDepth 100000 in
theorem upto_ents7_top {r : Reach} {b0 : Nat} {v : Value} {d : DataW H} {ps : List MemPlace} (hval : Value.okWide Tryz.prog w r b0 24 v) (h : DataW.Trod enc Tryz.prog w base (fun _ => true) held 24 v d ps) (hb : Rows.uptoBulk d ≤ 1048576) :
    ∃ (A : Option Addr) (n c : Nat) (L : List Ent), v = .slice A n c ∧ n ≤ 1048576 ∧ Ens w A n L ∧ (∀ e, e ∈ L → e.row.length ≤ 1048576 ∧ e.qual.length ≤ 1048576 ∧ e.val.length ≤ 1048576) := by
  obtain ⟨fuel, hf⟩ := open_slice_top Tryz.underlying24 hval h
  obtain ⟨A, n, c, L, h1, h2, h3, h4, h5⟩ := upto_ents7 hf hb
  injection h1 with h1
  exact ⟨A, n, c, L, h1, by omega, h4, h5⟩
set_option maxRecDepth 100000 in
theorem open_opts {spare : Nat → Bool} {r : Reach} {b0 : Nat} {v : Value} {d : DataW H} {ps : List MemPlace} (hval : Value.okWide Tryz.prog w r b0 23 v) (h : DataW.Trod enc Tryz.prog w base spare held 23 v d ps) : ∃ o : OptR, v = optV o := by
  obtain ⟨cs, rfl, hsz⟩ := okWide_struct Tryz.underlying23 hval
  obtain ⟨fuel, hf⟩ := h
  have hC : Tryz.prog.cellsOf 23 = 5 := by kernel_rfl
  have hI : Tryz.prog.cellsOf 3 = 1 := by kernel_rfl
  rw [hC] at hsz
  obtain ⟨l⟩ := cs
  match l, hsz with
  | [v0, v1, v2, v3, v4], _ =>
    obtain ⟨xs, k, rfl, _, _, hlen, hi⟩ := DataW.trod_struct Tryz.underlying23 hf
    match xs, hlen with
    | [x0, x1, x2, x3, x4], _ =>
      have t0 : DataW.trod enc Tryz.prog w base spare held k 3 (([v0, v1, v2, v3, v4].drop 0).take (Tryz.prog.cellsOf 3)) = some x0 := hi 0 _ rfl
      have t1 : DataW.trod enc Tryz.prog w base spare held k 3 (([v0, v1, v2, v3, v4].drop 1).take (Tryz.prog.cellsOf 3)) = some x1 := hi 1 _ rfl
      have t2 : DataW.trod enc Tryz.prog w base spare held k 3 (([v0, v1, v2, v3, v4].drop 2).take (Tryz.prog.cellsOf 3)) = some x2 := hi 2 _ rfl
      have t3 : DataW.trod enc Tryz.prog w base spare held k 3 (([v0, v1, v2, v3, v4].drop 3).take (Tryz.prog.cellsOf 3)) = some x3 := hi 3 _ rfl
      have t4 : DataW.trod enc Tryz.prog w base spare held k 3 (([v0, v1, v2, v3, v4].drop 4).take (Tryz.prog.cellsOf 3)) = some x4 := hi 4 _ rfl
      rw [hI] at t0 t1 t2 t3 t4
      obtain ⟨i0, e0, _, _⟩ := DataW.trod_int Tryz.underlying3 t0
      obtain ⟨i1, e1, _, _⟩ := DataW.trod_int Tryz.underlying3 t1
      obtain ⟨i2, e2, _, _⟩ := DataW.trod_int Tryz.underlying3 t2
      obtain ⟨i3, e3, _, _⟩ := DataW.trod_int Tryz.underlying3 t3
      obtain ⟨i4, e4, _, _⟩ := DataW.trod_int Tryz.underlying3 t4
      injection e0 with e0 _
      injection e1 with e1 _
      injection e2 with e2 _
      injection e3 with e3 _
      injection e4 with e4 _
      have e0 : v0 = _ := e0
      have e1 : v1 = _ := e1
      have e2 : v2 = _ := e2
      have e3 : v3 = _ := e3
      have e4 : v4 = _ := e4
      subst e0 e1 e2 e3 e4
      exact ⟨⟨i0, i1, i2, i3, i4⟩, rfl⟩
end
end Go.Proofs.YtfdbcfaeiglbeaaGreatDoor
