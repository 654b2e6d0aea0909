/-
 RunS1.
-/
import Derived.Test.YtfdbcfaeiglbeaaGreatDoorRQ37
namespace Go.Proofs.YtfdbcfaeiglbeaaGreatDoor
open Go.RowKit
theorem runC_ne (o : OptR) (L : List Ent) : 0 < (runBy o L).length := by
 have h : runBy o L = magR ++ (blocksR (cutR o.block.toNat [] L) ++ (sumdB (filtR o L) ++ (sumdB (indexR (cutR o.block.toNat [] L)) ++ frameB (risBs (numsR o L (cutR o.block.toNat [] L)))))) := by
  unfold runBy runC headR; simp only [List.append_assoc]
 rw [h, List.length_append]
 show 0 < 8 + _
 omega
theorem len_b (es : List Ent) (h : ∀ e, e ∈ es → e.row.length ≤ 1048576 ∧ e.qual.length ≤ 1048576 ∧ e.val.length ≤ 1048576) : ∀ e, e ∈ es → e.row.length ≤ 140737488355000 ∧ e.qual.length ≤ 140737488355000 ∧ e.val.length ≤ 140737488355000 := fun e he => by
 obtain ⟨h1, h2, h3⟩ := h e he
 exact ⟨by omega, by omega, by omega⟩
set_option maxRecDepth 1000000 in
set_option maxHeartbeats 16000000 in
theorem one_any (oa : OptR) (a : List Ent) (A : Option Addr) (n c : Nat) (ob : OptR) (b : List Ent) (B : Option Addr) (m d : Nat) (w : World) (ha : Ens w A n a) (hb : Ens w B m b)
  (hal : ∀ e, e ∈ a → e.row.length ≤ 1048576 ∧ e.qual.length ≤ 1048576 ∧ e.val.length ≤ 1048576) (hbl : ∀ e, e ∈ b → e.row.length ≤ 1048576 ∧ e.qual.length ≤ 1048576 ∧ e.val.length ≤ 1048576) (ht : TabAt 0 w) :
  Calls Tryz.prog 7 #[optV oa, .slice A n c, optV ob, .slice B m d] w fun e z => e = .returned (.bool true) ∧ Below w.heap.size w z := by
 have HEA : Hid (∀ z, Below w.heap.size w z → Ens z A n a) := Lib.hid fun z hz => ha.later hz
 have HEB : Hid (∀ z, Below w.heap.size w z → Ens z B m b) := Lib.hid fun z hz => hb.later hz
 have HAL := Lib.hid (len_b a hal)
 have HBL := Lib.hid (len_b b hbl)
 have HTB : Hid (∀ z, Below w.heap.size w z → TabAt 0 z) := Lib.hid fun z hz => ht.later hz
 obtain ⟨v0, v1, v2, v3, v4, hv⟩ : ∃ v0 v1 v2 v3 v4, optF oa = ⟨v0, v1, v2, v3, v4⟩ := ⟨_, _, _, _, _, rfl⟩
 obtain ⟨u0, u1, u2, u3, u4, hu⟩ : ∃ v0 v1 v2 v3 v4, optF ob = ⟨v0, v1, v2, v3, v4⟩ := ⟨_, _, _, _, _, rfl⟩
 have HOA : Hid (optV (optF oa) = .agg #[.int .i64 v0, .int .i64 v1, .int .i64 v2, .int .i64 v3, .int .i64 v4]) := Lib.hid (by rw [hv]; rfl)
 have HOB : Hid (optV (optF ob) = .agg #[.int .i64 u0, .int .i64 u1, .int .i64 u2, .int .i64 u3, .int .i64 u4]) := Lib.hid (by rw [hu]; rfl)
 have HKA : Hid (optOk ⟨v0, v1, v2, v3, v4⟩ = true) := Lib.hid (by rw [← hv]; exact optF_ok oa)
 have HKB : Hid (optOk ⟨u0, u1, u2, u3, u4⟩ = true) := Lib.hid (by rw [← hu]; exact optF_ok ob)
 have HIA : Hid (0 ≤ v2 ∧ v2 ≤ 1099511627776) := Lib.hid (by
  have h := sealI.iff (optOk.iff HKA.out).2
  exact ⟨h.1, h.2.1⟩)
 have HIB : Hid (0 ≤ u2 ∧ u2 ≤ 1099511627776) := Lib.hid (by
  have h := sealI.iff (optOk.iff HKB.out).2
  exact ⟨h.1, h.2.1⟩)
 obtain ⟨L, hL⟩ : ∃ L, L = ordL v2 (a.take 120) := ⟨_, rfl⟩
 obtain ⟨M, hM⟩ : ∃ M, M = ordL u2 (b.take 120) := ⟨_, rfl⟩
 have HL := Lib.hid hL.symm
 have HM := Lib.hid hM.symm
 have HOL : Hid (OrdOk v2 L) := Lib.hid (by rw [hL]; exact ord_ok _ _)
 have HOM : Hid (OrdOk u2 M) := Lib.hid (by rw [hM]; exact ord_ok _ _)
 have HX := Lib.hid (OW.nil w)
 have tok1 : True := trivial
 have tok2 : True := trivial
 clear ha hb hal hbl ht hv hu hL hM
 unfold optV
 go_enter Tryz.func7, Tryz.ntmps7
 go_upto_region 1 with (first
  | (refine wl_box rfl (.tmp 0) rfl [.int .i64 oa.block, .int .i64 oa.bits, .int .i64 oa.index, .int .i64 oa.low, .int .i64 oa.clock] rfl HX.out ?_; intro g4 x1 hz _; have HX1 : Hid (OW w [boxO g4 [.int .i64 oa.block, .int .i64 oa.bits, .int .i64 oa.index, .int .i64 oa.low, .int .i64 oa.clock]] x1) := Lib.hid hz; clear hz HX)
  | (refine wl_box rfl (.tmp 2) rfl [.int .i64 ob.block, .int .i64 ob.bits, .int .i64 ob.index, .int .i64 ob.low, .int .i64 ob.clock] rfl HX1.out ?_; intro g6 x2 hz _; have HX2 : Hid (OW w [boxO g4 [.int .i64 oa.block, .int .i64 oa.bits, .int .i64 oa.index, .int .i64 oa.low, .int .i64 oa.clock], boxO g6 [.int .i64 ob.block, .int .i64 ob.bits, .int .i64 ob.index, .int .i64 ob.low, .int .i64 ob.clock]] x2) := Lib.hid hz; clear hz HX1))
 go_upto_region 2 with (first
  | (refine wl_rowR rfl 23 (.tmp 4) rfl rfl (HX2.out.range (i := 0) rfl) opts_row ?_)
  | (go_at_call 25; go_must (refine (options_any oa _).mono ?_); rw [HOA.out]; rintro e x3 ⟨rfl, hb⟩; have HX3 : Hid (OW w [boxO g4 [.int .i64 oa.block, .int .i64 oa.bits, .int .i64 oa.index, .int .i64 oa.low, .int .i64 oa.clock], boxO g6 [.int .i64 ob.block, .int .i64 ob.bits, .int .i64 ob.index, .int .i64 ob.low, .int .i64 ob.clock]] x3) := Lib.hid (HX2.out.later hb); clear hb HX2)
  | (refine wl_alloc rfl rfl [.int .i64 0, .int .i64 0, .int .i64 0, .int .i64 0, .int .i64 0] (.inl (by kernel_rfl)) HX3.out ?_; intro g9 x4 hz _; have HX4 : Hid (OW w [boxO g4 [.int .i64 oa.block, .int .i64 oa.bits, .int .i64 oa.index, .int .i64 oa.low, .int .i64 oa.clock], boxO g6 [.int .i64 ob.block, .int .i64 ob.bits, .int .i64 ob.index, .int .i64 ob.low, .int .i64 ob.clock], boxO g9 [.int .i64 0, .int .i64 0, .int .i64 0, .int .i64 0, .int .i64 0]] x4) := Lib.hid hz; clear hz HX3)
  | (refine wl_put rfl (.tmp 9) (.tmp 20) rfl HX4.out 2 rfl rfl [.int .i64 v0, .int .i64 v1, .int .i64 v2, .int .i64 v3, .int .i64 v4] rfl rfl (by kernel_rfl) (by simp [Value.oneCell']) ?_; intro x5 hz _; have HX5 : Hid (OW w [boxO g4 [.int .i64 oa.block, .int .i64 oa.bits, .int .i64 oa.index, .int .i64 oa.low, .int .i64 oa.clock], boxO g6 [.int .i64 ob.block, .int .i64 ob.bits, .int .i64 ob.index, .int .i64 ob.low, .int .i64 ob.clock], boxO g9 [.int .i64 v0, .int .i64 v1, .int .i64 v2, .int .i64 v3, .int .i64 v4]] x5) := Lib.hid hz; clear hz HX4))
 go_upto_region 3 with (first
  | (refine wl_rowR rfl 23 (.tmp 6) rfl rfl (HX5.out.range (i := 1) rfl) opts_row ?_)
  | (go_at_call 25; go_must (refine (options_any ob _).mono ?_); rw [HOB.out]; rintro e x6 ⟨rfl, hb⟩; have HX6 : Hid (OW w [boxO g4 [.int .i64 oa.block, .int .i64 oa.bits, .int .i64 oa.index, .int .i64 oa.low, .int .i64 oa.clock], boxO g6 [.int .i64 ob.block, .int .i64 ob.bits, .int .i64 ob.index, .int .i64 ob.low, .int .i64 ob.clock], boxO g9 [.int .i64 v0, .int .i64 v1, .int .i64 v2, .int .i64 v3, .int .i64 v4]] x6) := Lib.hid (HX5.out.later hb); clear hb HX5)
  | (refine wl_alloc rfl rfl [.int .i64 0, .int .i64 0, .int .i64 0, .int .i64 0, .int .i64 0] (.inl (by kernel_rfl)) HX6.out ?_; intro g10 x7 hz _; have HX7 : Hid (OW w [boxO g4 [.int .i64 oa.block, .int .i64 oa.bits, .int .i64 oa.index, .int .i64 oa.low, .int .i64 oa.clock], boxO g6 [.int .i64 ob.block, .int .i64 ob.bits, .int .i64 ob.index, .int .i64 ob.low, .int .i64 ob.clock], boxO g9 [.int .i64 v0, .int .i64 v1, .int .i64 v2, .int .i64 v3, .int .i64 v4], boxO g10 [.int .i64 0, .int .i64 0, .int .i64 0, .int .i64 0, .int .i64 0]] x7) := Lib.hid hz; clear hz HX6)
  | (refine wl_put rfl (.tmp 10) (.tmp 22) rfl HX7.out 3 rfl rfl [.int .i64 u0, .int .i64 u1, .int .i64 u2, .int .i64 u3, .int .i64 u4] rfl rfl (by kernel_rfl) (by simp [Value.oneCell']) ?_; intro x8 hz _; have HX8 : Hid (OW w [boxO g4 [.int .i64 oa.block, .int .i64 oa.bits, .int .i64 oa.index, .int .i64 oa.low, .int .i64 oa.clock], boxO g6 [.int .i64 ob.block, .int .i64 ob.bits, .int .i64 ob.index, .int .i64 ob.low, .int .i64 ob.clock], boxO g9 [.int .i64 v0, .int .i64 v1, .int .i64 v2, .int .i64 v3, .int .i64 v4], boxO g10 [.int .i64 u0, .int .i64 u1, .int .i64 u2, .int .i64 u3, .int .i64 u4]] x8) := Lib.hid hz; clear hz HX7))
 go_upto_region 4 with (first
  | (refine wpList_load_cell rfl 3 (.tmp 24) rfl rfl (HX8.out.cell (i := 2) (j := 2) rfl rfl) (fun w => Tryz.isAgg3 w) ?_)
  | (go_at_call 38; go_must (refine (ordered7_any v2 HIA.out a A n c _ (HEA.out _ HX8.out.up) HAL.out).mono ?_); rw [HL.out]; rintro e x9 ⟨LA, lc, ll, rfl, hll, hE, hb⟩; have HX9 : Hid (OW w [boxO g4 [.int .i64 oa.block, .int .i64 oa.bits, .int .i64 oa.index, .int .i64 oa.low, .int .i64 oa.clock], boxO g6 [.int .i64 ob.block, .int .i64 ob.bits, .int .i64 ob.index, .int .i64 ob.low, .int .i64 ob.clock], boxO g9 [.int .i64 v0, .int .i64 v1, .int .i64 v2, .int .i64 v3, .int .i64 v4], boxO g10 [.int .i64 u0, .int .i64 u1, .int .i64 u2, .int .i64 u3, .int .i64 u4]] x9) := Lib.hid (HX8.out.later hb); have HLE : Hid (∀ z, Below x9.heap.size x9 z → Ens z LA ll L) := Lib.hid fun z hz => hE.later hz; have HLL : Hid (L.length = ll) := Lib.hid hE.len; clear hE hb HX8))
 go_upto_region 5 with (first
  | (refine wpList_load_cell rfl 3 (.tmp 28) rfl rfl (HX9.out.cell (i := 3) (j := 2) rfl rfl) (fun w => Tryz.isAgg3 w) ?_)
  | (go_at_call 38; go_must (refine (ordered7_any u2 HIB.out b B m d _ (HEB.out _ HX9.out.up) HBL.out).mono ?_); rw [HM.out]; rintro e x10 ⟨MA, mc, ml, rfl, hml, hE, hb⟩; have HX10 : Hid (OW w [boxO g4 [.int .i64 oa.block, .int .i64 oa.bits, .int .i64 oa.index, .int .i64 oa.low, .int .i64 oa.clock], boxO g6 [.int .i64 ob.block, .int .i64 ob.bits, .int .i64 ob.index, .int .i64 ob.low, .int .i64 ob.clock], boxO g9 [.int .i64 v0, .int .i64 v1, .int .i64 v2, .int .i64 v3, .int .i64 v4], boxO g10 [.int .i64 u0, .int .i64 u1, .int .i64 u2, .int .i64 u3, .int .i64 u4]] x10) := Lib.hid (HX9.out.later hb); have HLE2 : Hid (∀ z, Below x10.heap.size x10 z → Ens z LA ll L) := Lib.hid fun z hz => (HLE.out _ hb).later hz; have HME : Hid (∀ z, Below x10.heap.size x10 z → Ens z MA ml M) := Lib.hid fun z hz => hE.later hz; have HML : Hid (M.length = ml) := Lib.hid hE.len; clear hE hb HX9 HLE))
 by_cases h0 : ll = 0
 case pos =>
  have d1 : ((ll : Int) == 0) = true := by rw [h0]; rfl
  have d2 : (ll == 0) = true := by rw [h0]; rfl
  clear h0
  go_wp2_with (go_at_call 24; go_must (refine (started_any _ (HTB.out _ HX10.out.up)).mono ?_); rintro e x11 ⟨rfl, hb⟩; have HX11 := Lib.hid (HX10.out.later hb); clear hb)
  go_ret
  exact ⟨rfl, HX11.out.up⟩
 have d1 : ((ll : Int) == 0) = false := beq_eq_false_iff_ne.2 (by omega)
 have d2 : (ll == 0) = false := beq_eq_false_iff_ne.2 h0
 by_cases h1 : ml = 0
 case pos =>
  have d3 : ((ml : Int) == 0) = true := by rw [h1]; rfl
  have d4 : (ml == 0) = true := by rw [h1]; rfl
  clear h0 h1
  go_wp2_with (go_at_call 24; go_must (refine (started_any _ (HTB.out _ HX10.out.up)).mono ?_); rintro e x11 ⟨rfl, hb⟩; have HX11 := Lib.hid (HX10.out.later hb); clear hb)
  go_ret
  exact ⟨rfl, HX11.out.up⟩
 have d3 : ((ml : Int) == 0) = false := beq_eq_false_iff_ne.2 (by omega)
 have d4 : (ml == 0) = false := beq_eq_false_iff_ne.2 h1
 have HRA : Hid (refuseR ⟨v0, v1, v2, v3, v4⟩ L = 0) := Lib.hid (refuse_of HKA.out (fun h => h0 (by rw [← HLL.out, h]; rfl)) HOL.out)
 have HRB : Hid (refuseR ⟨u0, u1, u2, u3, u4⟩ M = 0) := Lib.hid (refuse_of HKB.out (fun h => h1 (by rw [← HML.out, h]; rfl)) HOM.out)
 have HSA : Hid ((runBy ⟨v0, v1, v2, v3, v4⟩ L).length ≤ 16777216) := Lib.hid (run_small HRA.out (by rw [HLL.out]; omega))
 have HSB : Hid ((runBy ⟨u0, u1, u2, u3, u4⟩ M).length ≤ 16777216) := Lib.hid (run_small HRB.out (by rw [HML.out]; omega))
 obtain ⟨xb, hxb⟩ : ∃ x, x = runBy ⟨v0, v1, v2, v3, v4⟩ L := ⟨_, rfl⟩
 obtain ⟨yb, hyb⟩ : ∃ x, x = runBy ⟨u0, u1, u2, u3, u4⟩ M := ⟨_, rfl⟩
 have HXB := Lib.hid hxb.symm
 have HYB := Lib.hid hyb.symm
 clear h0 h1 hxb hyb
 go_upto_region 8 with (first
  | (refine wl_rowR rfl 23 (.tmp 9) rfl rfl (HX10.out.range (i := 2) rfl) opts_row ?_)
  | (go_at_call 27; go_must (refine (made_yes ⟨v0, v1, v2, v3, v4⟩ L LA ll lc _ (HLE2.out _ (Below.refl _ _)) (by omega) HRA.out HSA.out (HTB.out _ HX10.out.up)).mono ?_); rw [HXB.out]; rintro e x11 ⟨q1, XA, xm, xcp, _, _, hxl, rfl, hz⟩; have HXL := Lib.hid hxl; have HX11 : Hid (OW w [boxO g4 [.int .i64 oa.block, .int .i64 oa.bits, .int .i64 oa.index, .int .i64 oa.low, .int .i64 oa.clock], boxO g6 [.int .i64 ob.block, .int .i64 ob.bits, .int .i64 ob.index, .int .i64 ob.low, .int .i64 ob.clock], boxO g9 [.int .i64 v0, .int .i64 v1, .int .i64 v2, .int .i64 v3, .int .i64 v4], boxO g10 [.int .i64 u0, .int .i64 u1, .int .i64 u2, .int .i64 u3, .int .i64 u4]] x11) := Lib.hid (HX10.out.later hz.up); have HXS : Hid (∀ z, Below x11.heap.size x11 z → Sl z XA xm xcp xb) := Lib.hid fun z hb => (hz.sl (i := 0) rfl hxl).later hb; have HUP : Hid (Below x10.heap.size x10 x11) := Lib.hid hz.up; clear hxl hz HX10))
 have HXP : Hid (xb ≠ [] ∧ 0 < xb.length) := Lib.hid (by
  have h := runC_ne ⟨v0, v1, v2, v3, v4⟩ L
  rw [HXB.out] at h
  exact ⟨fun h0 => by rw [h0] at h; exact absurd h (by decide), h⟩)
 have hxm : 0 < xm := by rw [← HXL.out]; exact HXP.out.2
 have d5 : ((xm : Int) == 0) = false := beq_eq_false_iff_ne.2 (by omega)
 have d6 : (xm == 0) = false := beq_eq_false_iff_ne.2 (by omega)
 go_upto_region 9 with (first
  | (refine wl_rowR rfl 23 (.tmp 10) rfl rfl (HX11.out.range (i := 3) rfl) opts_row ?_)
  | (go_at_call 27; go_must (refine (made_yes ⟨u0, u1, u2, u3, u4⟩ M MA ml mc _ (HME.out _ HUP.out) (by omega) HRB.out HSB.out (HTB.out _ HX11.out.up)).mono ?_); rw [HYB.out]; rintro e x12 ⟨q2, YA, ym, yd, _, _, hyl, rfl, hz⟩; have HYL := Lib.hid hyl; have HX12 : Hid (OW w [boxO g4 [.int .i64 oa.block, .int .i64 oa.bits, .int .i64 oa.index, .int .i64 oa.low, .int .i64 oa.clock], boxO g6 [.int .i64 ob.block, .int .i64 ob.bits, .int .i64 ob.index, .int .i64 ob.low, .int .i64 ob.clock], boxO g9 [.int .i64 v0, .int .i64 v1, .int .i64 v2, .int .i64 v3, .int .i64 v4], boxO g10 [.int .i64 u0, .int .i64 u1, .int .i64 u2, .int .i64 u3, .int .i64 u4]] x12) := Lib.hid (HX11.out.later hz.up); have HXS2 : Hid (∀ z, Below x12.heap.size x12 z → Sl z XA xm xcp xb) := Lib.hid fun z hb => (HXS.out _ hz.up).later hb; have HYS : Hid (∀ z, Below x12.heap.size x12 z → Sl z YA ym yd yb) := Lib.hid fun z hb => (hz.sl (i := 0) rfl hyl).later hb; have HUP2 : Hid (Below x10.heap.size x10 x12) := Lib.hid (HUP.out.trans (hz.up.mono HUP.out.size)); clear hyl hz HX11 HXS HUP))
 have hym : 0 < ym := by
  have h := runC_ne ⟨u0, u1, u2, u3, u4⟩ M
  rw [HYB.out, HYL.out] at h
  exact h
 have d7 : ((ym : Int) == 0) = false := beq_eq_false_iff_ne.2 (by omega)
 have d8 : (ym == 0) = false := beq_eq_false_iff_ne.2 (by omega)
 clear hxm hym
 have HFL : Hid (∀ rs : List ER, rs.map ER.e = L.take 120 → rs.length = ll) := Lib.hid fun rs h => by
  rw [← List.length_map (f := ER.e), h, List.length_take, HLL.out]; omega
 go_upto_region 9 with fail
 refine lt_start [] (by kernel_rfl) ?_
 intro xd hd
 refine ⟨fun z => Below x12.heap.size x12 z, ?_⟩
 have HS := Lib.hid (hd)
 refine lq 0 [3, 4, 5, 6, 7, 8] rfl (yi_rowO rfl rfl rfl (fun w hS => OW.range (HX12.out.later hS) (i := 2) rfl) opts_row) HS.out ?_
 simp only [Act.put, ls1, ls2, ls3]
 refine lp 1 rfl (v := ?_) (fun w => ?_) (fun _ => HS.out) ?_
 rotate_left
 ·first | (go_simp; done) | (go_simp; with_reducible rfl)
 simp only [Act.put, ls1, ls2, ls3]
 refine lt_call 2 rfl (by kernel_rfl) rfl rfl ⟨_, Tryz.func15, by decide, by kernel_rfl⟩ [.slice LA ll lc] rfl ?_
 refine (few_any L LA ll lc _ (HLE2.out _ (HUP2.out.trans (HS.out.mono HUP2.out.size))) (fun e he => ok_lens (HOL.out.chk e he))).mono ?_
 rintro e z8 ⟨FA, fc, rs, rfl, hrs, hz⟩
 have HFE : Hid (Ens z8 FA ll L) := Lib.hid (by
  have h := rowE_ens (os := []) (by rw [List.append_nil]; exact hz)
  rw [hrs, List.take_of_length_le (by rw [HLL.out]; omega)] at h
  rwa [HFL.out rs hrs] at h)
 have hfl := HFL.out rs hrs
 rw [hfl]
 replace HS := Lib.hid (HS.out.trans (hz.up.mono HS.out.size))
 clear hz hrs hfl
 refine ⟨_, rfl, fun _ => HS.out, ?_⟩
 simp only [Act.put, ls1, ls2, ls3]
 refine lt_call 3 rfl (by kernel_rfl) rfl rfl ⟨_, Tryz.func27, by decide, by kernel_rfl⟩ [.agg #[.int .i64 v0, .int .i64 v1, .int .i64 v2, .int .i64 v3, .int .i64 v4], .slice FA ll fc] rfl ?_
 refine (made_yes ⟨v0, v1, v2, v3, v4⟩ L FA ll fc _ HFE.out (by omega) HRA.out HSA.out (HTB.out _ (HX12.out.later HS.out).up)).mono ?_
 rw [HXB.out]
 rintro e z9 ⟨q3, ZA, zm, zd, _, _, hzl, rfl, hz⟩
 obtain rfl : xm = zm := by rw [← HXL.out]; exact hzl
 have HZS : Hid (∀ z, Below z9.heap.size z9 z → Sl z ZA xm zd xb) := Lib.hid fun z hb => (hz.sl (i := 0) rfl hzl).later hb
 replace HS := Lib.hid (HS.out.trans (hz.up.mono HS.out.size))
 clear hz hzl
 refine ⟨_, rfl, fun _ => HS.out, ?_⟩
 simp only [Act.put, ls1, ls2, ls3]
 refine lp 4 rfl (v := ?_) (fun w => ?_) (fun _ => HS.out) ?_
 rotate_left
 ·first | (go_simp; done) | (go_simp; with_reducible rfl)
 simp only [Act.put, ls1, ls2, ls3]
 refine lp 5 rfl (v := ?_) (fun w => ?_) (fun _ => HS.out) ?_
 rotate_left
 ·first | (go_simp; done) | (go_simp; with_reducible rfl)
 simp only [Act.put, ls1, ls2, ls3]
 refine lp 6 rfl (v := ?_) (fun w => ?_) (fun _ => HS.out) ?_
 rotate_left
 ·first | (go_simp; done) | (go_simp; with_reducible rfl)
 simp only [Act.put, ls1, ls2, ls3]
 refine lp 7 rfl (v := ?_) (fun w => ?_) (fun _ => HS.out) ?_
 rotate_left
 ·first | (go_simp; done) | (go_simp; with_reducible rfl)
 simp only [Act.put, ls1, ls2, ls3]
 refine lp 8 rfl (v := ?_) (fun w => ?_) (fun _ => HS.out) ?_
 rotate_left
 ·first | (go_simp; done) | (go_simp; with_reducible rfl)
 simp only [Act.put, ls1, ls2, ls3]
 refine lt_done (by kernel_rfl) ?_
 have HX13 : Hid (OW w [boxO g4 [.int .i64 oa.block, .int .i64 oa.bits, .int .i64 oa.index, .int .i64 oa.low, .int .i64 oa.clock], boxO g6 [.int .i64 ob.block, .int .i64 ob.bits, .int .i64 ob.index, .int .i64 ob.low, .int .i64 ob.clock], boxO g9 [.int .i64 v0, .int .i64 v1, .int .i64 v2, .int .i64 v3, .int .i64 v4], boxO g10 [.int .i64 u0, .int .i64 u1, .int .i64 u2, .int .i64 u3, .int .i64 u4]] z9) := Lib.hid (HX12.out.later HS.out)
 have HXS3 : Hid (∀ z, Below z9.heap.size z9 z → Sl z XA xm xcp xb) := Lib.hid fun z hb => (HXS2.out _ HS.out).later hb
 have HYS3 : Hid (∀ z, Below z9.heap.size z9 z → Sl z YA ym yd yb) := Lib.hid fun z hb => (HYS.out _ HS.out).later hb
 have HUP3 : Hid (Below x10.heap.size x10 z9) := Lib.hid (HUP2.out.trans (HS.out.mono HUP2.out.size))
 clear HS
 have HXZ : Hid ((xb == xb) = true) := Lib.hid (by simp)
 obtain ⟨bq, hbq⟩ : ∃ q, q = (xb == yb) := ⟨_, rfl⟩
 have HBQ := Lib.hid hbq.symm
 have HLM : Hid (bq = true → L = M ∧ v2 = u2 ∧ v3 = u3 ∧ v4 = u4) := Lib.hid fun h => by
  have h2 : xb = yb := by rw [hbq] at h; simpa using h
  have h3 := run_one HRA.out HRB.out (by rw [HLL.out]; omega) (by rw [HML.out]; omega) HSA.out HSB.out (by rw [HXB.out, HYB.out]; exact h2)
  exact h3
 clear hbq
 go_upto_region 12 with (go_at_call 43; go_must (refine (rSame_any xb xb XA ZA xm xcp xm zd _ (HXS3.out _ (Below.refl _ _)).rb (HZS.out _ (Below.refl _ _)).rb).mono ?_); rw [HXZ.out]; rintro e y13 ⟨rfl, rfl⟩)
 cases bq with
 | false =>
  go_wp2_with (go_at_call 43; go_must (refine (rSame_any xb yb XA YA xm xcp ym yd _ (HXS3.out _ (Below.refl _ _)).rb (HYS3.out _ (Below.refl _ _)).rb).mono ?_); rw [HBQ.out]; rintro e y14 ⟨rfl, rfl⟩)
  go_ret
  exact ⟨rfl, HX13.out.up⟩
 | true =>
  obtain ⟨e1, e2, e3, e4⟩ := HLM.out rfl
  subst e1 e2 e3 e4
  have z2 : (v2 == v2) = true := by simp
  have z3 : (v3 == v3) = true := by simp
  have z4 : (v4 == v4) = true := by simp
  go_wp2_with (first
   | (go_at_call 43; go_must (refine (rSame_any xb yb XA YA xm xcp ym yd _ (HXS3.out _ (Below.refl _ _)).rb (HYS3.out _ (Below.refl _ _)).rb).mono ?_); rw [HBQ.out]; rintro e y14 ⟨rfl, rfl⟩)
   | (go_at_call 32; go_must (refine (sameAll_any L L LA ll lc MA ml mc _ (HLE2.out _ HUP3.out) (HME.out _ HUP3.out) (by omega)).mono ?_); rintro e x15 ⟨bo, rfl, hbo, hb⟩; obtain rfl := hbo.2 rfl; have HX15 := Lib.hid (HX13.out.later hb); clear hb hbo)
   | (refine wpList_load_cell rfl 3 (.tmp 81) rfl rfl (HX15.out.cell (i := 2) (j := 2) rfl rfl) (fun w => Tryz.isAgg3 w) ?_)
   | (refine wpList_load_cell rfl 3 (.tmp 83) rfl rfl (HX15.out.cell (i := 3) (j := 2) rfl rfl) (fun w => Tryz.isAgg3 w) ?_)
   | (refine wpList_load_cell rfl 3 (.tmp 88) rfl rfl (HX15.out.cell (i := 2) (j := 3) rfl rfl) (fun w => Tryz.isAgg3 w) ?_)
   | (refine wpList_load_cell rfl 3 (.tmp 90) rfl rfl (HX15.out.cell (i := 3) (j := 3) rfl rfl) (fun w => Tryz.isAgg3 w) ?_)
   | (refine wpList_load_cell rfl 3 (.tmp 95) rfl rfl (HX15.out.cell (i := 2) (j := 4) rfl rfl) (fun w => Tryz.isAgg3 w) ?_)
   | (refine wpList_load_cell rfl 3 (.tmp 97) rfl rfl (HX15.out.cell (i := 3) (j := 4) rfl rfl) (fun w => Tryz.isAgg3 w) ?_))
  go_ret
  exact ⟨rfl, HX15.out.up⟩
end Go.Proofs.YtfdbcfaeiglbeaaGreatDoor
