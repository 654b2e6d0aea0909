/-
  WireAgain, walked.
-/
import Derived.Test.YtbcljgcilbfblaaDoorWireG2
import Derived.Test.YtbcljgcilbfblaaDoorWireG3
import Derived.Test.YtbcljgcilbfblaaDoorWireV3
namespace Go.Proofs.YtbcljgcilbfblaaDoor
open Go.RowKit

set_option maxRecDepth 100000 in
set_option maxHeartbeats 8000000 in
theorem againL_any (A : Option Addr) (n c : Nat) (w : World) (hs : Scr w A n) (hn : n ≤ 9223372036854775807) (ht : TabAt 0 w) :
    Calls Tryd.prog 3 #[.slice A n c] w fun e w' => e = .returned (.bool true) ∧ Below w.heap.size w w' := by
  have HS := Lib.hid hs
  have HT : Hid (∀ w', Below w.heap.size w w' → TabAt 0 w') := Lib.hid fun w' h => ht.later h
  clear hs ht
  go_enter Tryd.func3, Tryd.ntmps3
  go_wp2_with (first
    | (go_at_call 4; go_must (refine (started_any _ (HT.out _ (Below.refl _ _))).mono ?_); rintro e w1 ⟨rfl, hb1⟩; have HB1 := Lib.hid hb1; clear hb1)
    | (refine wl_box rfl (.tmp 13) rfl [.slice none 0 0, .int .i64 0] rfl ((OW.nil w).later HB1.out) ?_; intro g0 w2 hz _; have HX2 := Lib.hid hz; clear hz))
  have HX3 : Hid (OW w ([rowO 24 1 (.slice none 0 0) 0 []] ++ dsO [⟨g0, none, 0, 0, 0, []⟩]) w2) := Lib.hid ((((HX2.out.nilRow 5 1)).nilRow 24 1).perm List.perm_append_comm)
  clear HX2 HB1
  go_loopw [4, 5] (fun sv iv wr => ∃ (k q : Nat) (DA : Option Addr) (dc : Nat) (D : Dk) (ds : List Dk), k ≤ n ∧ iv = .int .i64 k ∧ sv = .slice DA q dc ∧ D.g = g0 ∧ Hid (ds.length = q) ∧ Hid (SmallD (D :: ds)) ∧ q ≤ 1048576 ∧ Hid (OW w ([rowO 24 1 (.slice DA q dc) q (ds.map Dk.ptr)] ++ dsO (D :: ds)) wr)) (fun _ iv _ => n - (intOf iv).toNat)
  case atStart => exact ⟨0, 0, none, 0, ⟨g0, none, 0, 0, 0, []⟩, [], Nat.zero_le _, rfl, rfl, rfl, Lib.hid rfl, Lib.hid (fun d hd => by rw [List.mem_singleton.1 hd]; exact Nat.zero_le _), Nat.zero_le _, HX3⟩
  case round =>
    clear HX3
    obtain ⟨k, q, DA, dc, D, ds, hk, rfl, rfl, hg, HQ, HSM, hq, HX⟩ := hrel
    by_cases hlt : k < n
    case neg =>
      go_wp2
      go_ret
      exact ⟨rfl, HX.out.up⟩
    obtain ⟨b, o, rfl, hblt, hqs⟩ := HS.out (by omega)
    obtain ⟨K, a, N, V, l, ps, OA, PA, m, oc, pn, pc, c0, c1, c2, c3, c4, c5, hsl, hrb, h1, h2, h3, h4, h5, h6⟩ := hqs k hlt
    have HSL : Hid (∀ z, Below w.heap.size w z → Sl z OA m oc l) := Lib.hid fun z hz => hsl.later hz
    have HRB : Hid (∀ z, Below w.heap.size w z → RBs z z.heap.size PA pn ps) := Lib.hid fun z hz => hrb.later hz
    have HV := Lib.hid h5
    have HN := Lib.hid h6
    have HPL := Lib.hid hrb.len
    have hcc : ∀ j, wr.cell? ⟨b, j, none⟩ = w.cell? ⟨b, j, none⟩ := fun j => HX.out.up.cell (p := ⟨b, j, none⟩) hblt
    rw [← hcc] at c0 c1 c2 c3 c4 c5
    have HPS : Hid (ps.flatten.length ≤ 1048576) := Lib.hid h4
    clear hqs hsl hrb h4 h5 h6 hcc hblt
    go_upto_region 10 with (first
      | (refine wl_alloc rfl rfl [.int .i64 0, .slice none 0 0, .int .i64 0, .int .i64 0, .int .u64 0, .slice none 0 0] (.inl (by kernel_rfl)) HX.out ?_; intro g6 x1 hz _; have HX1 := Lib.hid (hz.perm List.perm_append_comm); clear hz HX)
      | (refine wl_put rfl (.tmp 6) (.tmp 24) rfl HX1.out 0 rfl rfl [.int .i64 K, .slice OA m oc, .int .i64 a, .int .i64 N, .int .u64 V, .slice PA pn pc] rfl rfl (by kernel_rfl) (by simp [Value.oneCell']) ?_; intro x2 hz _; have HX2 : Hid (OW w ([boxO g6 [.int .i64 K, .slice OA m oc, .int .i64 a, .int .i64 N, .int .u64 V, .slice PA pn pc], rowO 24 1 (.slice DA q dc) q (ds.map Dk.ptr)] ++ dsO (D :: ds)) x2) := Lib.hid hz; clear hz HX1)
      | (refine wpList_load_at rfl 32 (.tmp 6) rfl rfl (HX2.out.range (i := 0) rfl) op_row ?_)
      | (refine wl_alloc rfl rfl [.int .i64 0, .slice none 0 0, .int .i64 0, .int .i64 0, .int .u64 0, .slice none 0 0] (.inl (by kernel_rfl)) HX2.out ?_; intro g7 x3 hz _; have HX3 := Lib.hid (hz.perm List.perm_append_comm); clear hz HX2)
      | (refine wl_put rfl (.tmp 7) (.tmp 25) rfl HX3.out 0 rfl rfl [.int .i64 K, .slice OA m oc, .int .i64 a, .int .i64 N, .int .u64 V, .slice PA pn pc] rfl rfl (by kernel_rfl) (by simp [Value.oneCell']) ?_; intro x4 hz _; have HX4 : Hid (OW w ([boxO g7 [.int .i64 K, .slice OA m oc, .int .i64 a, .int .i64 N, .int .u64 V, .slice PA pn pc], boxO g6 [.int .i64 K, .slice OA m oc, .int .i64 a, .int .i64 N, .int .u64 V, .slice PA pn pc], rowO 24 1 (.slice DA q dc) q (ds.map Dk.ptr)] ++ dsO (D :: ds)) x4) := Lib.hid hz; clear hz HX3))
    clear c0 c1 c2 c3 c4 c5
    have hd1 : x4.cell? ⟨g6, 1, none⟩ = some (.slice OA m oc) := HX4.out.cell (i := 1) (j := 1) rfl rfl
    go_upto_region 12 with (first
      | (go_at_call 5; go_must (refine (lendAt [boxO g7 [.int .i64 K, .slice OA m oc, .int .i64 a, .int .i64 N, .int .u64 V, .slice PA pn pc], boxO g6 [.int .i64 K, .slice OA m oc, .int .i64 a, .int .i64 N, .int .u64 V, .slice PA pn pc], rowO 24 1 (.slice DA q dc) q (ds.map Dk.ptr)] (D :: ds) 0 m oc D l OA _ w x4 (by rw [Dk.ptr, hg]) rfl HX4.out (HSM.out D (List.mem_cons_self ..)) HSL.out (by omega)).mono ?_); rintro e x5 ⟨D1, hg1, hl1, rfl, hz⟩; have HX5 : Hid (OW w ([boxO g7 [.int .i64 K, .slice OA m oc, .int .i64 a, .int .i64 N, .int .u64 V, .slice PA pn pc], boxO g6 [.int .i64 K, .slice OA m oc, .int .i64 a, .int .i64 N, .int .u64 V, .slice PA pn pc], rowO 24 1 (.slice DA q dc) q (ds.map Dk.ptr)] ++ dsO (D1 :: ds)) x5) := Lib.hid hz; have HL1 := Lib.hid hl1; rw [hg] at hg1; clear hz hl1 HX4 hd1)
      | (refine wl_put1 rfl (.tmp 30) (.tmp 29) rfl HX5.out 0 rfl 1 rfl (by simp) (.slice D1.A m D1.c) rfl (by kernel_rfl) rfl ?_; intro x6 hz _; have HX6 : Hid (OW w ([boxO g7 [.int .i64 K, .slice D1.A m D1.c, .int .i64 a, .int .i64 N, .int .u64 V, .slice PA pn pc], boxO g6 [.int .i64 K, .slice OA m oc, .int .i64 a, .int .i64 N, .int .u64 V, .slice PA pn pc], rowO 24 1 (.slice DA q dc) q (ds.map Dk.ptr)] ++ dsO (D1 :: ds)) x6) := Lib.hid hz; clear hz HX5)
      | (refine wl_put1 rfl (.tmp 31) (.const (.slice none 0 0)) rfl HX6.out 0 rfl 5 rfl (by simp) (.slice none 0 0) rfl (by kernel_rfl) rfl ?_; intro x7 hz _; have HX7 : Hid (OW w ([boxO g7 [.int .i64 K, .slice D1.A m D1.c, .int .i64 a, .int .i64 N, .int .u64 V, .slice none 0 0], boxO g6 [.int .i64 K, .slice OA m oc, .int .i64 a, .int .i64 N, .int .u64 V, .slice PA pn pc], rowO 24 1 (.slice DA q dc) q (ds.map Dk.ptr)] ++ dsO (D1 :: ds)) x7) := Lib.hid hz; clear hz HX6))
    have HX8 : Hid (OW w ([rowO 25 1 (.slice none 0 0) 0 (vals (D1 :: ds) 0), boxO g7 [.int .i64 K, .slice D1.A m D1.c, .int .i64 a, .int .i64 N, .int .u64 V, .slice none 0 0], boxO g6 [.int .i64 K, .slice OA m oc, .int .i64 a, .int .i64 N, .int .u64 V, .slice PA pn pc], rowO 24 1 (.slice DA q dc) q (ds.map Dk.ptr)] ++ dsO (D1 :: ds)) x7) := Lib.hid ((HX7.out.nilRow 25 1).perm List.perm_append_comm)
    have HSM1 : Hid (SmallD (D1 :: ds)) := Lib.hid (fun d hd => by
      rcases List.mem_cons.1 hd with rfl | hd
      · exact HL1.out.n
      · exact HSM.out d (List.mem_cons_of_mem _ hd))
    clear HX7 HSM hg
    go_wp2_with fail
    go_loopw [4, 8] (fun sv iv wr => ∃ (j q : Nat) (DA : Option Addr) (dc : Nat) (ds : List Dk) (PV : Option Addr) (pvc : Nat), j ≤ pn ∧ j ≤ q ∧ iv = .int .i64 j ∧ sv = .slice DA q dc ∧ Hid (ds.length = q) ∧ Hid (SmallD (D1 :: ds)) ∧ q ≤ 1048576 ∧ Hid (AllLent (D1 :: ds) ps 0 j) ∧ Hid (OW w ([rowO 25 1 (.slice PV j pvc) j (vals (D1 :: ds) j), boxO g7 [.int .i64 K, .slice D1.A m D1.c, .int .i64 a, .int .i64 N, .int .u64 V, .slice PV j pvc], boxO g6 [.int .i64 K, .slice OA m oc, .int .i64 a, .int .i64 N, .int .u64 V, .slice PA pn pc], rowO 24 1 (.slice DA q dc) q (ds.map Dk.ptr)] ++ dsO (D1 :: ds)) wr)) (fun _ iv _ => pn - (intOf iv).toNat)
    case atStart => exact ⟨0, q, DA, dc, ds, none, 0, Nat.zero_le _, Nat.zero_le _, rfl, rfl, HQ, HSM1, hq, Lib.hid (fun i p _ hi => absurd hi (Nat.not_lt_zero i)), HX8⟩
    case round =>
      clear HX8 HSM1 HQ hq
      obtain ⟨j, q, DA, dc, ds, PV, pvc, hj, hjq, rfl, rfl, HQ, HSM, hq, HAL, HW⟩ := hrel
      have hc6 : _ = some (Value.slice PA pn pc) := HW.out.cell (i := 2) (j := 5) rfl rfl
      by_cases hjp : j < pn
      case neg =>
        obtain rfl : j = pn := by omega
        have HLM : Hid (l.length = m) := Lib.hid (HSL.out w (Below.refl _ _)).len
        have h1' := Lib.hid h1
        clear hjp hj
        go_upto_region 19 with (first
          | (refine wpList_load_cell rfl 30 (.tmp 33) rfl rfl hc6 (fun w => Tryd.isAgg30 w) ?_)
          | (refine wpList_load_at rfl 32 (.tmp 7) rfl rfl (HW.out.range (i := 1) rfl) op_row ?_)
          | (go_at_call 6; go_must (refine (answered_any K a N V l ps D1.A PV m D1.c j pvc _ (slD (j := 0) (pre := [rowO 25 1 (.slice PV j pvc) j (vals (D1 :: ds) j), boxO g7 [.int .i64 K, .slice D1.A m D1.c, .int .i64 a, .int .i64 N, .int .u64 V, .slice PV j pvc], boxO g6 [.int .i64 K, .slice OA m oc, .int .i64 a, .int .i64 N, .int .u64 V, .slice PA j pc], rowO 24 1 (.slice DA q dc) q (ds.map Dk.ptr)]) rfl HW.out HL1.out HLM.out) (lent_rbs (pre := [boxO g7 [.int .i64 K, .slice D1.A m D1.c, .int .i64 a, .int .i64 N, .int .u64 V, .slice PV j pvc], boxO g6 [.int .i64 K, .slice OA m oc, .int .i64 a, .int .i64 N, .int .u64 V, .slice PA j pc], rowO 24 1 (.slice DA q dc) q (ds.map Dk.ptr)]) HW.out HPL.out HAL.out) (by omega) (by omega) HV.out HN.out (HT.out _ HW.out.up)).mono ?_); rintro e y1 ⟨rfl, hb⟩; have HY1 := Lib.hid (HW.out.later hb); have hc61 : y1.cell? ⟨g6, 1, none⟩ = some (.slice OA m oc) := HY1.out.cell (i := 2) (j := 1) rfl rfl; clear hb HW hc6))
        go_upto_region 22 with (first
          | (go_at_call 7; go_must (refine (backAt [rowO 25 1 (.slice PV j pvc) j (vals (D1 :: ds) j), boxO g7 [.int .i64 K, .slice D1.A m D1.c, .int .i64 a, .int .i64 N, .int .u64 V, .slice PV j pvc], boxO g6 [.int .i64 K, .slice OA m oc, .int .i64 a, .int .i64 N, .int .u64 V, .slice PA j pc], rowO 24 1 (.slice DA q dc) q (ds.map Dk.ptr)] (D1 :: ds) 0 m oc D1 l OA _ w _ (by rw [Dk.ptr, hg1]) rfl HY1.out HL1.out HSL.out).mono ?_); rintro e y2 ⟨rfl, hz⟩; have HY2 := Lib.hid hz; clear hz hc61 HY1)
          | (go_at_call 8; go_must (refine (wipeAt [rowO 25 1 (.slice PV j pvc) j (vals (D1 :: ds) j), boxO g7 [.int .i64 K, .slice D1.A m D1.c, .int .i64 a, .int .i64 N, .int .u64 V, .slice PV j pvc], boxO g6 [.int .i64 K, .slice OA m oc, .int .i64 a, .int .i64 N, .int .u64 V, .slice PA j pc], rowO 24 1 (.slice DA q dc) q (ds.map Dk.ptr)] (D1 :: ds) 0 D1 l _ w _ (by rw [Dk.ptr, hg1]) rfl HY2.out HL1.out).mono ?_); rintro e y3 ⟨rfl, D2, hg2, hn2, hz⟩; have HY3 : Hid (OW w ([boxO g6 [.int .i64 K, .slice OA m oc, .int .i64 a, .int .i64 N, .int .u64 V, .slice PA j pc], rowO 24 1 (.slice DA q dc) q (ds.map Dk.ptr)] ++ dsO (D2 :: ds)) y3) := Lib.hid (OW.right (os := [rowO 25 1 (.slice PV j pvc) j (vals (D1 :: ds) j), boxO g7 [.int .i64 K, .slice D1.A m D1.c, .int .i64 a, .int .i64 N, .int .u64 V, .slice PV j pvc]]) hz); rw [hg1] at hg2; clear hz HY2))
        have HSM2 : Hid (SmallD (D2 :: ds)) := Lib.hid (HSM.out.set (j := 0) hn2)
        have HAL2 : Hid (AllLent (D2 :: ds) ps 0 j) := Lib.hid (HAL.out.drop (k := 0) (Nat.le_refl _))
        clear HSM HAL hn2 HL1 HLM h1'
        go_wp2_with fail
        go_loopw [10] (fun iv wr => ∃ (i : Nat) (D2 : Dk) (ds2 : List Dk), i ≤ j ∧ iv = .int .i64 i ∧ D2.g = g0 ∧ Hid (ds2.length = q) ∧ Hid (ds2.map Dk.ptr = ds.map Dk.ptr) ∧ Hid (SmallD (D2 :: ds2)) ∧ Hid (AllLent (D2 :: ds2) ps i j) ∧ Hid (OW w ([boxO g6 [.int .i64 K, .slice OA m oc, .int .i64 a, .int .i64 N, .int .u64 V, .slice PA j pc], rowO 24 1 (.slice DA q dc) q (ds.map Dk.ptr)] ++ dsO (D2 :: ds2)) wr)) (fun iv _ => j - (intOf iv).toNat)
        case atStart => exact ⟨0, D2, ds, Nat.zero_le _, rfl, hg2, HQ, Lib.hid rfl, HSM2, HAL2, HY3⟩
        case round =>
          clear HY3 HSM2 HAL2 hg2
          obtain ⟨i, D2, ds2, hi, rfl, hg2, HQ2, HPT, HSM, HAL, HZ⟩ := hrel
          have hc6 : _ = some (Value.slice PA j pc) := HZ.out.cell (i := 0) (j := 5) rfl rfl
          by_cases hij : i < j
          case neg =>
            go_wp2_with (refine wpList_load_cell rfl 30 (.tmp 77) rfl rfl hc6 (fun w => Tryd.isAgg30 w) ?_)
            go_roundw
            case rel =>
              refine ⟨k + 1, q, DA, dc, D2, ds2, by omega, by go_num, rfl, hg2, HQ2, HSM, hq, Lib.hid ?_⟩
              have h9 := OW.right (os := [boxO g6 [.int .i64 K, .slice OA m oc, .int .i64 a, .int .i64 N, .int .u64 V, .slice PA j pc]]) HZ.out
              rw [← HPT.out] at h9
              exact h9
            case measure => simp [intOf]; omega
          obtain ⟨bP, oP, p, aP, cP, hPA, hbl, hp, hcp, hk1, hk2, hk3, hrp⟩ := (HRB.out w (Below.refl _ _)).at_ hij
          subst hPA
          obtain ⟨pl, hpl⟩ : ∃ z, z = p.length := ⟨_, rfl⟩
          have hplb : pl ≤ 1048576 := by have := flat_at_le hp; have := HPS.out; omega
          rw [← hpl] at hcp hrp hk1
          have HCP : Hid (∀ z, Below w.heap.size w z → z.cell? ⟨bP, oP + i, none⟩ = some (.slice aP pl cP)) := Lib.hid fun z hz => (hz.cell (p := ⟨bP, _, none⟩) hbl).trans hcp
          have HSP : Hid (∀ z, Below w.heap.size w z → Sl z aP pl cP p) := Lib.hid fun z hz => (show Sl w aP pl cP p from ⟨hrp, hk1, hk2, hk3⟩).later hz
          obtain ⟨di, hdi, hli⟩ := HAL.out i p (Nat.le_refl _) hij hp
          obtain ⟨gp, dcp, hv, _⟩ := own_form (HZ.out.row (i := 1) rfl) (by omega)
          injection hv with e1 e2 e3
          subst e1 e3
          have HC1 : Hid (∀ z, OW w ([boxO g6 [.int .i64 K, .slice OA m oc, .int .i64 a, .int .i64 N, .int .u64 V, .slice (some ⟨bP, oP, none⟩) j pc], rowO 24 1 (.slice (some ⟨gp, 0, none⟩) q dc) q (ds.map Dk.ptr)] ++ dsO (D2 :: ds2)) z → z.cell? ⟨gp, i, none⟩ = some (.pointer (some ⟨di.g, 0, none⟩))) := Lib.hid fun z hz => (World.ownsRow.cellAt (hz.row (i := 1) rfl) i (by omega)).trans (by rw [← HPT.out, List.getElem?_map, show ds2[i]? = some di from hdi]; rfl)
          have i0 : (0 : Int) ≤ (i : Int) := by omega
          have i1 : (i : Int) < (j : Int) := by omega
          have i2 : (i : Int) < (q : Int) := by omega
          have HLI := Lib.hid hli
          have HDI := Lib.hid hdi
          clear hbl hp hcp hk1 hk2 hk3 hrp hpl hli hdi hplb
          go_wp2_with (refine wpList_load_cell rfl 30 (.tmp 77) rfl rfl hc6 (fun w => Tryd.isAgg30 w) ?_)
          clear hc6
          refine lt_start [] (by kernel_rfl) ?_
          intro xd hdx
          refine ⟨fun z => OW w ([boxO g6 [.int .i64 K, .slice OA m oc, .int .i64 a, .int .i64 N, .int .u64 V, .slice (some ⟨bP, oP, none⟩) j pc], rowO 24 1 (.slice (some ⟨gp, 0, none⟩) q dc) q (ds.map Dk.ptr)] ++ dsO (D2 :: ds2)) z, ?_⟩
          have HS9 := Lib.hid (HZ.out.later hdx)
          refine lt_pure 0 rfl (by kernel_rfl) (by kernel_rfl) (by kernel_rfl) (by kernel_rfl) (fun _ _ _ h => h) (v := ?_) (yi_run rfl (fun w => ?_)) (fun _ => HS9.out) ?_
          rotate_left
          · first | (go_simp; done) | (go_simp; with_reducible rfl)
          simp only [Act.put, List.setIfInBounds_toArray, List.set_cons_zero, List.set_cons_succ]
          refine lt_pure 1 rfl (by kernel_rfl) (by kernel_rfl) (by kernel_rfl) (by kernel_rfl) (fun _ _ _ h => h) (v := ?_) (yi_run rfl (fun w => ?_)) (fun _ => HS9.out) ?_
          rotate_left
          · first | (go_simp; done) | (go_simp; with_reducible rfl)
          simp only [Act.put, List.setIfInBounds_toArray, List.set_cons_zero, List.set_cons_succ]
          refine lt_pure 2 rfl (by kernel_rfl) (by kernel_rfl) (by kernel_rfl) (by kernel_rfl) (fun _ _ _ h => h) (v := ?_) (yi_run rfl (fun w => ?_)) (fun _ => HS9.out) ?_
          rotate_left
          · first | (go_simp; done) | (go_simp; with_reducible rfl)
          simp only [Act.put, List.setIfInBounds_toArray, List.set_cons_zero, List.set_cons_succ]
          refine lt_take 3 [9, 10] rfl (by kernel_rfl) (by kernel_rfl) (by kernel_rfl) (by kernel_rfl) (by kernel_rfl) (fun _ _ _ h => h) (yi_cell rfl rfl rfl (fun w hS => HC1.out w hS) (fun w => Tryd.isAgg24 w)) HS9.out ?_
          simp only [Act.put, List.setIfInBounds_toArray, List.set_cons_zero, List.set_cons_succ]
          refine lt_pure 4 rfl (by kernel_rfl) (by kernel_rfl) (by kernel_rfl) (by kernel_rfl) (fun _ _ _ h => h) (v := ?_) (yi_run rfl (fun w => ?_)) (fun _ => HS9.out) ?_
          rotate_left
          · first | (go_simp; done) | (go_simp; with_reducible rfl)
          simp only [Act.put, List.setIfInBounds_toArray, List.set_cons_zero, List.set_cons_succ]
          refine lt_take 5 [7, 8, 9, 10] rfl (by kernel_rfl) (by kernel_rfl) (by kernel_rfl) (by kernel_rfl) (by kernel_rfl) (fun _ _ _ h => h) (yi_cell rfl rfl rfl (fun w hS => OW.cell hS (i := 0) (j := 5) rfl rfl) (fun w => Tryd.isAgg30 w)) HS9.out ?_
          simp only [Act.put, List.setIfInBounds_toArray, List.set_cons_zero, List.set_cons_succ]
          refine lt_pure 6 rfl (by kernel_rfl) (by kernel_rfl) (by kernel_rfl) (by kernel_rfl) (fun _ _ _ h => h) (v := ?_) (yi_run rfl (fun w => ?_)) (fun _ => HS9.out) ?_
          rotate_left
          · first | (go_simp; done) | (go_simp; with_reducible rfl)
          simp only [Act.put, List.setIfInBounds_toArray, List.set_cons_zero, List.set_cons_succ]
          refine lt_pure 7 rfl (by kernel_rfl) (by kernel_rfl) (by kernel_rfl) (by kernel_rfl) (fun _ _ _ h => h) (v := ?_) (yi_run rfl (fun w => ?_)) (fun _ => HS9.out) ?_
          rotate_left
          · first | (go_simp; done) | (go_simp; with_reducible rfl)
          simp only [Act.put, List.setIfInBounds_toArray, List.set_cons_zero, List.set_cons_succ]
          refine lt_take 8 [9, 10] rfl (by kernel_rfl) (by kernel_rfl) (by kernel_rfl) (by kernel_rfl) (by kernel_rfl) (fun _ _ _ h => h) (yi_cell rfl rfl rfl (fun w hS => HCP.out w (OW.up hS)) (fun w => Tryd.isAgg25 w)) HS9.out ?_
          simp only [Act.put, List.setIfInBounds_toArray, List.set_cons_zero, List.set_cons_succ]
          refine lt_call 9 rfl (by kernel_rfl) rfl rfl ⟨_, Tryd.func7, by decide, by kernel_rfl⟩ [.pointer (some ⟨di.g, 0, none⟩), .slice aP pl cP] rfl ?_
          refine (backAt [boxO g6 [.int .i64 K, .slice OA m oc, .int .i64 a, .int .i64 N, .int .u64 V, .slice (some ⟨bP, oP, none⟩) j pc], rowO 24 1 (.slice (some ⟨gp, 0, none⟩) q dc) q (ds.map Dk.ptr)] (D2 :: ds2) (i + 1) pl cP di p aP _ w _ rfl HDI.out HS9.out HLI.out HSP.out).mono ?_
          rintro e y1 ⟨rfl, hz⟩
          replace HS9 := Lib.hid hz
          clear hz
          refine ⟨_, rfl, fun _ => HS9.out, ?_⟩
          simp only [Act.put, List.setIfInBounds_toArray, List.set_cons_zero, List.set_cons_succ]
          refine lt_pure 10 rfl (by kernel_rfl) (by kernel_rfl) (by kernel_rfl) (by kernel_rfl) (fun _ _ _ h => h) (v := ?_) (yi_run rfl (fun w => ?_)) (fun _ => HS9.out) ?_
          rotate_left
          · first | (go_simp; done) | (go_simp; with_reducible rfl)
          simp only [Act.put, List.setIfInBounds_toArray, List.set_cons_zero, List.set_cons_succ]
          refine lt_done (by kernel_rfl) ?_
          replace HZ := HS9
          clear HS9
          have hcq := HC1.out _ HZ.out
          go_wp2_with (first
            | (refine wpList_load_cell rfl 24 (.tmp 96) rfl rfl hcq (fun w => Tryd.isAgg24 w) ?_)
            | (go_at_call 8; go_must (refine (wipeAt [boxO g6 [.int .i64 K, .slice OA m oc, .int .i64 a, .int .i64 N, .int .u64 V, .slice (some ⟨bP, oP, none⟩) j pc], rowO 24 1 (.slice (some ⟨gp, 0, none⟩) q dc) q (ds.map Dk.ptr)] (D2 :: ds2) (i + 1) di p _ w _ rfl HDI.out HZ.out HLI.out).mono ?_); rintro e y8 ⟨rfl, d8, hg8, hn8, hz⟩; have HZ8 : Hid (OW w ([boxO g6 [.int .i64 K, .slice OA m oc, .int .i64 a, .int .i64 N, .int .u64 V, .slice (some ⟨bP, oP, none⟩) j pc], rowO 24 1 (.slice (some ⟨gp, 0, none⟩) q dc) q (ds.map Dk.ptr)] ++ dsO (D2 :: ds2.set i d8)) y8) := Lib.hid hz; clear hz))
          go_roundw
          case rel => exact ⟨i + 1, D2, ds2.set i d8, by omega, by go_num, hg2, Lib.hid (by rw [List.length_set]; exact HQ2.out), Lib.hid (by rw [ptrs_set (show ds2[i]? = some di from HDI.out) hg8]; exact HPT.out), Lib.hid (HSM.out.set (j := i + 1) hn8), Lib.hid ((HAL.out.up).drop (k := i + 1) (Nat.le_refl _)), HZ8⟩
          case measure => simp [intOf]; omega
      obtain ⟨bP, oP, p, aP, cP, hPA, hbl, hp, hcp, hk1, hk2, hk3, hrp⟩ := (HRB.out w (Below.refl _ _)).at_ hjp
      subst hPA
      obtain ⟨pl, hpl⟩ : ∃ z, z = p.length := ⟨_, rfl⟩
      have hplb : pl ≤ 1048576 := by have := flat_at_le hp; have := HPS.out; omega
      rw [← hpl] at hcp hrp hk1
      have HCP : Hid (∀ z, Below w.heap.size w z → z.cell? ⟨bP, oP + j, none⟩ = some (.slice aP pl cP)) := Lib.hid fun z hz => (hz.cell (p := ⟨bP, _, none⟩) hbl).trans hcp
      have HSP : Hid (∀ z, Below w.heap.size w z → Sl z aP pl cP p) := Lib.hid fun z hz => (show Sl w aP pl cP p from ⟨hrp, hk1, hk2, hk3⟩).later hz
      have HP := Lib.hid hp
      have HPLN := Lib.hid hpl
      clear hbl hp hcp hk1 hk2 hk3 hrp hpl
      go_upto_if 42 with (refine wpList_load_cell rfl 30 (.tmp 33) rfl rfl hc6 (fun w => Tryd.isAgg30 w) ?_)
      go_cut [4] (fun sv wx => ∃ (q : Nat) (DA : Option Addr) (dc : Nat) (ds : List Dk), j < q ∧ sv = .slice DA q dc ∧ Hid (ds.length = q) ∧ Hid (SmallD (D1 :: ds)) ∧ q ≤ 1048576 ∧ Hid (AllLent (D1 :: ds) ps 0 j) ∧ Hid (OW w ([rowO 25 1 (.slice PV j pvc) j (vals (D1 :: ds) j), boxO g7 [.int .i64 K, .slice D1.A m D1.c, .int .i64 a, .int .i64 N, .int .u64 V, .slice PV j pvc], boxO g6 [.int .i64 K, .slice OA m oc, .int .i64 a, .int .i64 N, .int .u64 V, .slice (some ⟨bP, oP, none⟩) pn pc], rowO 24 1 (.slice DA q dc) q (ds.map Dk.ptr)] ++ dsO (D1 :: ds)) wx))
      case first =>
        clear hc6
        by_cases he : j = q
        · obtain rfl := he
          have hd : ((j : Int) == (j : Int)) = true := by simp
          go_wp2_with (first
            | (refine wl_box rfl (.tmp 44) rfl [.slice none 0 0, .int .i64 0] rfl HW.out ?_; intro gn y1 hz _; have HY1 := Lib.hid hz; clear hz)
            | (refine wl_build rfl #[(0, .tmp 45)] rfl #[.pointer (some ⟨gn, 0, none⟩)] desk_ptrs (.pointer none) (by kernel_rfl) (by decide) (by decide) (by decide) rfl (by kernel_rfl) HY1.out ?_; intro gl y2 hz _; have HY2 := Lib.hid hz.left; have HRN : Hid (Reads y2 y2.heap.size 1 (some ⟨gl, 0, none⟩) 1 [.pointer (some ⟨gn, 0, none⟩)]) := Lib.hid (Reads.own (hz.right.row (i := 0) rfl)); clear hz)
            | (at_builtin; go_must (refine wl_append rfl (.tmp 43) (.tmp 46) rfl desk_ptrs HY2.out 3 rfl rfl _ (some ⟨gl, 0, none⟩) 1 1 [.pointer (some ⟨gn, 0, none⟩)] rfl HRN.out (by simp [Value.oneCell']) (by unfold maxLen; omega) (by omega) ?_); intro DA3 dc3 y3 hz _; have HY3 := Lib.hid hz; clear hz))
          go_meet
          case rel =>
            refine ⟨j + 1, DA3, dc3, ds ++ [Dk.mk gn none 0 0 0 []], Nat.lt_succ_self _, rfl, Lib.hid (by rw [List.length_append, HQ.out]; rfl), Lib.hid (SmallD.snoc (ds := D1 :: ds) (d := ⟨gn, none, 0, 0, 0, []⟩) HSM.out (Nat.zero_le _)), by omega, Lib.hid (AllLent.snoc (ds := D1 :: ds) (d := ⟨gn, none, 0, 0, 0, []⟩) HAL.out), Lib.hid ?_⟩
            have h5 : OW w (([rowO 25 1 (.slice PV j pvc) j (vals (D1 :: ds) j), boxO g7 [.int .i64 K, .slice D1.A m D1.c, .int .i64 a, .int .i64 N, .int .u64 V, .slice PV j pvc], boxO g6 [.int .i64 K, .slice OA m oc, .int .i64 a, .int .i64 N, .int .u64 V, .slice (some ⟨bP, oP, none⟩) pn pc], rowO 24 1 (.slice DA3 (j + 1) dc3) (j + 1) (ds.map Dk.ptr ++ [.pointer (some ⟨gn, 0, none⟩)])] ++ dsO (D1 :: ds)) ++ [boxO gn [.slice none 0 0, .int .i64 0]]) _ := HY3.out
            have h6 := new_desk h5
            rw [← vals_app (d := ⟨gn, none, 0, 0, 0, []⟩) (show j + 1 ≤ (D1 :: ds).length from by rw [List.length_cons, HQ.out]; omega)] at h6
            rw [List.map_append]
            exact h6
        · have hd : ((j : Int) == (q : Int)) = false := by rw [beq_eq_false_iff_ne]; omega
          have hne : ¬ (j : Int) = (q : Int) := by omega
          go_wp2_with fail
          go_meet
          case rel => exact ⟨q, DA, dc, ds, by omega, rfl, HQ, HSM, hq, HAL, HW⟩
      clear HW HAL HSM HQ hq hjq hc6
      obtain ⟨q, DA, dc, ds, hjq, rfl, HQ, HSM, hq, HAL, HW⟩ := hcut
      obtain ⟨dj, hdj⟩ : ∃ d, ds[j]? = some d := ⟨_, List.getElem?_eq_getElem (by rw [HQ.out]; exact hjq)⟩
      obtain ⟨gp, dcp, hv, _⟩ := own_form (HW.out.row (i := 3) rfl) (by omega)
      injection hv with e1 e2 e3
      subst e1 e3
      have HC1 : Hid (∀ z, (∃ dsx, OW w ([rowO 25 1 (.slice PV j pvc) j (vals (D1 :: ds) j), boxO g7 [.int .i64 K, .slice D1.A m D1.c, .int .i64 a, .int .i64 N, .int .u64 V, .slice PV j pvc], boxO g6 [.int .i64 K, .slice OA m oc, .int .i64 a, .int .i64 N, .int .u64 V, .slice (some ⟨bP, oP, none⟩) pn pc], rowO 24 1 (.slice (some ⟨gp, 0, none⟩) q dc) q (ds.map Dk.ptr)] ++ dsO dsx) z) → z.cell? ⟨gp, j, none⟩ = some (.pointer (some ⟨dj.g, 0, none⟩))) := Lib.hid fun z ⟨_, hz⟩ => (World.ownsRow.cellAt (hz.row (i := 3) rfl) j (by omega)).trans (by rw [List.getElem?_map, hdj]; rfl)
      have HDJ := Lib.hid hdj
      have j0 : (0 : Int) ≤ (j : Int) := by omega
      have j1 : (j : Int) < (pn : Int) := by omega
      have j2 : (j : Int) < (q : Int) := by omega
      have HSMJ := Lib.hid (HSM.out dj (List.mem_cons_of_mem _ (List.mem_of_getElem? hdj)))
      clear hdj
      go_wp2_with fail
      refine lt_start [13] (by kernel_rfl) ?_
      intro xd hdx
      have HXD := Lib.hid (HW.out.later hdx)
      refine ⟨fun z => ∃ dsx, OW w ([rowO 25 1 (.slice PV j pvc) j (vals (D1 :: ds) j), boxO g7 [.int .i64 K, .slice D1.A m D1.c, .int .i64 a, .int .i64 N, .int .u64 V, .slice PV j pvc], boxO g6 [.int .i64 K, .slice OA m oc, .int .i64 a, .int .i64 N, .int .u64 V, .slice (some ⟨bP, oP, none⟩) pn pc], rowO 24 1 (.slice (some ⟨gp, 0, none⟩) q dc) q (ds.map Dk.ptr)] ++ dsO dsx) z, ?_⟩
      have HS9 : Hid (∃ dsx, OW w ([rowO 25 1 (.slice PV j pvc) j (vals (D1 :: ds) j), boxO g7 [.int .i64 K, .slice D1.A m D1.c, .int .i64 a, .int .i64 N, .int .u64 V, .slice PV j pvc], boxO g6 [.int .i64 K, .slice OA m oc, .int .i64 a, .int .i64 N, .int .u64 V, .slice (some ⟨bP, oP, none⟩) pn pc], rowO 24 1 (.slice (some ⟨gp, 0, none⟩) q dc) q (ds.map Dk.ptr)] ++ dsO dsx) xd) := Lib.hid ⟨_, HXD.out⟩
      refine lt_pure 0 rfl (by kernel_rfl) (by kernel_rfl) (by kernel_rfl) (by kernel_rfl) (fun _ _ _ h => h) (v := ?_) (yi_run rfl (fun w => ?_)) (fun _ => HS9.out) ?_
      rotate_left
      · first | (go_simp; done) | (go_simp; with_reducible rfl)
      simp only [Act.put, List.setIfInBounds_toArray, List.set_cons_zero, List.set_cons_succ]
      refine lt_take 1 [13, 14, 15] rfl (by kernel_rfl) (by kernel_rfl) (by kernel_rfl) (by kernel_rfl) (by kernel_rfl) (fun _ _ _ h => h) (yi_cell rfl rfl rfl (fun w hS => hS.elim fun _ h => OW.cell h (i := 1) (j := 5) rfl rfl) (fun w => Tryd.isAgg30 w)) HS9.out ?_
      simp only [Act.put, List.setIfInBounds_toArray, List.set_cons_zero, List.set_cons_succ]
      refine lt_pure 2 rfl (by kernel_rfl) (by kernel_rfl) (by kernel_rfl) (by kernel_rfl) (fun _ _ _ h => h) (v := ?_) (yi_run rfl (fun w => ?_)) (fun _ => HS9.out) ?_
      rotate_left
      · first | (go_simp; done) | (go_simp; with_reducible rfl)
      simp only [Act.put, List.setIfInBounds_toArray, List.set_cons_zero, List.set_cons_succ]
      refine lt_pure 3 rfl (by kernel_rfl) (by kernel_rfl) (by kernel_rfl) (by kernel_rfl) (fun _ _ _ h => h) (v := ?_) (yi_run rfl (fun w => ?_)) (fun _ => HS9.out) ?_
      rotate_left
      · first | (go_simp; done) | (go_simp; with_reducible rfl)
      simp only [Act.put, List.setIfInBounds_toArray, List.set_cons_zero, List.set_cons_succ]
      refine lt_pure 4 rfl (by kernel_rfl) (by kernel_rfl) (by kernel_rfl) (by kernel_rfl) (fun _ _ _ h => h) (v := ?_) (yi_run rfl (fun w => ?_)) (fun _ => HS9.out) ?_
      rotate_left
      · first | (go_simp; done) | (go_simp; with_reducible rfl)
      simp only [Act.put, List.setIfInBounds_toArray, List.set_cons_zero, List.set_cons_succ]
      refine lt_take 5 [11, 12, 13, 14, 15] rfl (by kernel_rfl) (by kernel_rfl) (by kernel_rfl) (by kernel_rfl) (by kernel_rfl) (fun _ _ _ h => h) (yi_cell rfl rfl rfl (fun w hS => HC1.out w hS) (fun w => Tryd.isAgg24 w)) HS9.out ?_
      simp only [Act.put, List.setIfInBounds_toArray, List.set_cons_zero, List.set_cons_succ]
      refine lt_pure 6 rfl (by kernel_rfl) (by kernel_rfl) (by kernel_rfl) (by kernel_rfl) (fun _ _ _ h => h) (v := ?_) (yi_run rfl (fun w => ?_)) (fun _ => HS9.out) ?_
      rotate_left
      · first | (go_simp; done) | (go_simp; with_reducible rfl)
      simp only [Act.put, List.setIfInBounds_toArray, List.set_cons_zero, List.set_cons_succ]
      refine lt_take 7 [9, 10, 11, 12, 13, 14, 15] rfl (by kernel_rfl) (by kernel_rfl) (by kernel_rfl) (by kernel_rfl) (by kernel_rfl) (fun _ _ _ h => h) (yi_cell rfl rfl rfl (fun w hS => hS.elim fun _ h => OW.cell h (i := 2) (j := 5) rfl rfl) (fun w => Tryd.isAgg30 w)) HS9.out ?_
      simp only [Act.put, List.setIfInBounds_toArray, List.set_cons_zero, List.set_cons_succ]
      refine lt_pure 8 rfl (by kernel_rfl) (by kernel_rfl) (by kernel_rfl) (by kernel_rfl) (fun _ _ _ h => h) (v := ?_) (yi_run rfl (fun w => ?_)) (fun _ => HS9.out) ?_
      rotate_left
      · first | (go_simp; done) | (go_simp; with_reducible rfl)
      simp only [Act.put, List.setIfInBounds_toArray, List.set_cons_zero, List.set_cons_succ]
      refine lt_pure 9 rfl (by kernel_rfl) (by kernel_rfl) (by kernel_rfl) (by kernel_rfl) (fun _ _ _ h => h) (v := ?_) (yi_run rfl (fun w => ?_)) (fun _ => HS9.out) ?_
      rotate_left
      · first | (go_simp; done) | (go_simp; with_reducible rfl)
      simp only [Act.put, List.setIfInBounds_toArray, List.set_cons_zero, List.set_cons_succ]
      refine lt_take 10 [11, 12, 13, 14, 15] rfl (by kernel_rfl) (by kernel_rfl) (by kernel_rfl) (by kernel_rfl) (by kernel_rfl) (fun _ _ _ h => h) (yi_cell rfl rfl rfl (fun w hS => HCP.out w (hS.elim fun _ h => OW.up h)) (fun w => Tryd.isAgg25 w)) HS9.out ?_
      simp only [Act.put, List.setIfInBounds_toArray, List.set_cons_zero, List.set_cons_succ]
      refine lt_call 11 rfl (by kernel_rfl) rfl rfl ⟨_, Tryd.func5, by decide, by kernel_rfl⟩ [.pointer (some ⟨dj.g, 0, none⟩), .slice aP pl cP] rfl ?_
      refine (lendAt [rowO 25 1 (.slice PV j pvc) j (vals (D1 :: ds) j), boxO g7 [.int .i64 K, .slice D1.A m D1.c, .int .i64 a, .int .i64 N, .int .u64 V, .slice PV j pvc], boxO g6 [.int .i64 K, .slice OA m oc, .int .i64 a, .int .i64 N, .int .u64 V, .slice (some ⟨bP, oP, none⟩) pn pc], rowO 24 1 (.slice (some ⟨gp, 0, none⟩) q dc) q (ds.map Dk.ptr)] (D1 :: ds) (j + 1) pl cP dj p aP _ w _ rfl HDJ.out HXD.out HSMJ.out HSP.out (by omega)).mono ?_
      rintro e y1 ⟨d1, hg1', hl1, rfl, hz⟩
      have HY1 : Hid (OW w ([rowO 25 1 (.slice PV j pvc) j (vals (D1 :: ds) j), boxO g7 [.int .i64 K, .slice D1.A m D1.c, .int .i64 a, .int .i64 N, .int .u64 V, .slice PV j pvc], boxO g6 [.int .i64 K, .slice OA m oc, .int .i64 a, .int .i64 N, .int .u64 V, .slice (some ⟨bP, oP, none⟩) pn pc], rowO 24 1 (.slice (some ⟨gp, 0, none⟩) q dc) q (ds.map Dk.ptr)] ++ dsO (D1 :: ds.set j d1)) y1) := Lib.hid hz
      replace HS9 := Lib.hid (⟨_, hz⟩ : ∃ dsx, OW w ([rowO 25 1 (.slice PV j pvc) j (vals (D1 :: ds) j), boxO g7 [.int .i64 K, .slice D1.A m D1.c, .int .i64 a, .int .i64 N, .int .u64 V, .slice PV j pvc], boxO g6 [.int .i64 K, .slice OA m oc, .int .i64 a, .int .i64 N, .int .u64 V, .slice (some ⟨bP, oP, none⟩) pn pc], rowO 24 1 (.slice (some ⟨gp, 0, none⟩) q dc) q (ds.map Dk.ptr)] ++ dsO dsx) y1)
      clear hz
      refine ⟨_, rfl, fun _ => HS9.out, ?_⟩
      simp only [Act.put, List.setIfInBounds_toArray, List.set_cons_zero, List.set_cons_succ]
      refine lt_op 12 rfl (by kernel_rfl) rfl ?_
      refine wpo_build rfl #[.slice d1.A pl d1.c] part_rows (.slice none 0 0) (by kernel_rfl) (by decide) (by decide) (by decide) rfl (by kernel_rfl) HY1.out ?_
      intro gl y2 hz _
      have HRN : Hid (Reads y2 y2.heap.size 1 (some ⟨gl, 0, none⟩) 1 [.slice d1.A pl d1.c]) := Lib.hid (Reads.own (hz.right.row (i := 0) rfl))
      have HY2 := Lib.hid hz.left
      replace HS9 := Lib.hid (⟨_, hz.left⟩ : ∃ dsx, OW w ([rowO 25 1 (.slice PV j pvc) j (vals (D1 :: ds) j), boxO g7 [.int .i64 K, .slice D1.A m D1.c, .int .i64 a, .int .i64 N, .int .u64 V, .slice PV j pvc], boxO g6 [.int .i64 K, .slice OA m oc, .int .i64 a, .int .i64 N, .int .u64 V, .slice (some ⟨bP, oP, none⟩) pn pc], rowO 24 1 (.slice (some ⟨gp, 0, none⟩) q dc) q (ds.map Dk.ptr)] ++ dsO dsx) y2)
      clear hz
      refine ⟨fun _ => HS9.out, ?_⟩
      simp only [Act.put, List.setIfInBounds_toArray, List.set_cons_zero, List.set_cons_succ]
      refine lt_end 13 rfl (by kernel_rfl) rfl (by kernel_rfl) ?_
      refine wpo_append (.tmp 49) (.tmp 60) rfl part_rows HY2.out 0 rfl rfl _ (some ⟨gl, 0, none⟩) 1 1 [.slice d1.A pl d1.c] rfl HRN.out (by simp [Value.oneCell']) (by unfold maxLen; omega) (by omega) ?_
      intro PV2 pvc2 y3 hz _
      have HY3 := Lib.hid hz
      clear hz
      simp only [Act.put, List.setIfInBounds_toArray, List.set_cons_zero, List.set_cons_succ]
      refine lt_pureF 14 rfl (by kernel_rfl) (by kernel_rfl) (by kernel_rfl) (by kernel_rfl) (by kernel_rfl) (fun _ _ _ h => h) (v := ?_) (yi_run rfl (fun w => ?_)) ?_
      rotate_left
      · first | (go_simp; done) | (go_simp; with_reducible rfl)
      simp only [Act.put, List.setIfInBounds_toArray, List.set_cons_zero, List.set_cons_succ]
      refine lt_end 15 rfl (by kernel_rfl) rfl (by kernel_rfl) ?_
      refine wpo_put1 rfl HY3.out 1 rfl 5 rfl (by simp) (.slice PV2 (j + 1) pvc2) rfl (by kernel_rfl) rfl ?_
      intro y4 hz _
      have HY4 := Lib.hid hz
      clear hz
      simp only [Act.put]
      refine lt_done (by kernel_rfl) ?_
      clear HS9
      go_wp2_with fail
      go_roundw
      case rel =>
        refine ⟨j + 1, q, _, _, ds.set j d1, PV2, pvc2, by omega, by omega, by go_num, rfl, Lib.hid (by rw [List.length_set]; exact HQ.out), Lib.hid (HSM.out.set (j := j + 1) hl1.n), hq, Lib.hid (AllLent.set (ds := D1 :: ds) HAL.out (show (D1 :: ds)[j + 1]? = some dj from HDJ.out) HP.out hl1), Lib.hid ?_⟩
        have h9 := HY4.out
        have e9 : vals (D1 :: ds.set j d1) (j + 1) = vals (D1 :: ds) j ++ [.slice d1.A pl d1.c] := by
          have h8 := vals_snoc (ds := D1 :: ds) (k := j) (d := dj) (d' := d1) HDJ.out
          rw [Dk.val, hl1.N, ← HPLN.out] at h8
          exact h8
        rw [e9, ptrs_set HDJ.out hg1']
        exact h9
      case measure => simp [intOf]; omega
end Go.Proofs.YtbcljgcilbfblaaDoor
