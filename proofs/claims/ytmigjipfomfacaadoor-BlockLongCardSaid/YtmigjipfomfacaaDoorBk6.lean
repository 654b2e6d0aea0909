/-
  Laid together by merge.py: BlockS3.
-/
import Derived.Test.YtmigjipfomfacaaDoorBk5

/-
  BlockLong, walked.
-/
namespace Go.Proofs.YtmigjipfomfacaaDoor
open Go.RowKit

theorem rawSl1 {w z : World} {os : List Ob} {i b : Nat} {x : UInt8} {t : TypeId} {fr : Nat × Nat} (h : OW w os z) (hi : os[i]? = some (rawO b (.cells #[u8v x] t fr))) : Sl z (some ⟨b, 0, none⟩) 1 1 [x] := by
  obtain ⟨_, hb⟩ := h.rawh hi
  refine ⟨⟨rfl, fun _ => ⟨b, 0, rfl, (Array.getElem?_eq_some_iff.1 hb).1, fun j u hu => ?_⟩⟩, Nat.le_refl _, by decide, fun e => nomatch e⟩
  cases j with
  | zero => injection hu with hu; subst hu; simp [World.cell?, hb]
  | succ j => cases hu
theorem rawSlm {w z : World} {os : List Ob} {b : Nat} {x : UInt8} {t : TypeId} {fr : Nat × Nat} (h : OW w os z) (hm : rawO b (.cells #[u8v x] t fr) ∈ os) : Sl z (some ⟨b, 0, none⟩) 1 1 [x] := by
  obtain ⟨i, hi⟩ := List.getElem?_of_mem hm
  exact rawSl1 h hi
theorem three_raws (w : World) (o : Obj) (a b d : UInt8) (t : TypeId) (fr : Nat × Nat) : ∀ W, W = (((w.alloc o).alloc (.cells #[u8v a] t fr)).alloc (.cells #[u8v b] t fr)).alloc (.cells #[u8v d] t fr) →
    OW w [rawO (w.heap.size + 1) (.cells #[u8v a] t fr), rawO (w.heap.size + 1 + 1) (.cells #[u8v b] t fr), rawO (w.heap.size + 1 + 1 + 1) (.cells #[u8v d] t fr)] W := by
  rintro W rfl
  have h := ((((OW.nil w).al o).app (OW.raw1 _ (.cells #[u8v a] t fr))).app (OW.raw1 _ (.cells #[u8v b] t fr))).app (OW.raw1 _ (.cells #[u8v d] t fr))
  simp only [World.size_alloc] at h
  exact h
def AtP2 (ts : Int) (w : World) (r : Ending) (z : World) : Prop := ∃ a b d t fr, r = .returned (entV (some ⟨a, 0, none⟩) 1 1 (some ⟨b, 0, none⟩) 1 1 (some ⟨d, 0, none⟩) 1 1 (atE ts)) ∧ OW w [rawO a (.cells #[u8v 114] t fr), rawO b (.cells #[u8v 113] t fr), rawO d (.cells #[u8v 118] t fr)] z
set_option maxRecDepth 10000000 in
set_option maxHeartbeats 2000000 in
theorem atE_new (ts : Int) (w : World) : Calls Tryd.prog 20 #[.int .i64 ts] w (AtP2 ts w) := by
  have kc := conv_const
  go_enter Tryd.func20, Tryd.ntmps20
  go_wp2
  (try simp only [Exit.inBlock, Exit.then])
  obtain ⟨h1, h2, h3, hb⟩ := three_lits w (.cells #[.slice (some ⟨w.heap.size + 1, 0, none⟩) 1 1, .int .i64 0, .slice (some ⟨w.heap.size + 1 + 1, 0, none⟩) 1 1, .int .i64 ts, .int .i64 32, .int .i64 1, .slice (some ⟨w.heap.size + 1 + 1 + 1, 0, none⟩) 1 1] 37) 114 113 118 5 (1, 2) _ rfl
  have HB := (Bxs.one w 37 #[.slice (some ⟨w.heap.size + 1, 0, none⟩) 1 1, .int .i64 0, .slice (some ⟨w.heap.size + 1 + 1, 0, none⟩) 1 1, .int .i64 ts, .int .i64 32, .int .i64 1, .slice (some ⟨w.heap.size + 1 + 1 + 1, 0, none⟩) 1 1]).later hb
  refine bodyPost_ret (results_box0 rfl _ _ w.heap.size _ rfl (HB.cells0 rfl) (by kernel_rfl) (by kernel_rfl)) rfl ?_
  exact ⟨_, _, _, _, _, rfl, three_raws w _ 114 113 118 5 (1, 2) _ rfl⟩
theorem made_zeros5 (L : Nat) (g : Nat) : rowO 5 1 (.slice (some ⟨g, 0, none⟩) L L) L (madeCells (Value.int IntKind.u8 0).cells (L * 1)).toList = bytO 5 (some ⟨g, 0, none⟩, L, List.replicate L 0) := by
  unfold bytO rowO
  rw [Nat.mul_one, made_zeros, List.length_replicate]

set_option maxRecDepth 10000000 in
set_option maxHeartbeats 4000000 in
theorem blong_no (R n s t : Int) (w : World) (ht : TabAt 0 w) (hno : R < 1 ∨ 16 < R ∨ n < 0 ∨ 200 < n ∨ s < 0 ∨ 4096 < s ∨ t < 0 ∨ 4096 < t) :
    Calls Tryd.prog 8 #[.int .i64 R, .int .i64 n, .int .i64 s, .int .i64 t] w fun e z => e = .returned (.bool true) ∧ Below w.heap.size w z := by
  have HTB : Hid (∀ z, Below w.heap.size w z → TabAt 0 z) := Lib.hid fun z hz => ht.later hz
  clear ht
  have HX := Lib.hid (OW.nil w)
  go_enter Tryd.func8, Tryd.ntmps8
  have tk : True := trivial
  by_cases h0 : R < 1
  · have d0 : decide (R < 1) = true := decide_eq_true h0
    clear hno
    go_wp2_with (first
      | (go_at_call 11; go_must (refine (told_any _ (HTB.out _ HX.out.up)).mono ?_); rintro e x3 ⟨rfl, hb⟩; replace HX := Lib.hid (HX.out.later hb); clear hb))
    go_ret
    exact ⟨rfl, HX.out.up⟩
  have d0 : decide (R < 1) = false := decide_eq_false h0
  by_cases h1 : R > 16
  · have d1 : decide (R > 16) = true := decide_eq_true h1
    clear hno
    go_wp2_with (first
      | (go_at_call 11; go_must (refine (told_any _ (HTB.out _ HX.out.up)).mono ?_); rintro e x3 ⟨rfl, hb⟩; replace HX := Lib.hid (HX.out.later hb); clear hb))
    go_ret
    exact ⟨rfl, HX.out.up⟩
  have d1 : decide (R > 16) = false := decide_eq_false h1
  by_cases h2 : n < 0
  · have d2 : decide (n < 0) = true := decide_eq_true h2
    clear hno
    go_wp2_with (first
      | (go_at_call 11; go_must (refine (told_any _ (HTB.out _ HX.out.up)).mono ?_); rintro e x3 ⟨rfl, hb⟩; replace HX := Lib.hid (HX.out.later hb); clear hb))
    go_ret
    exact ⟨rfl, HX.out.up⟩
  have d2 : decide (n < 0) = false := decide_eq_false h2
  by_cases h3 : n > 200
  · have d3 : decide (n > 200) = true := decide_eq_true h3
    clear hno
    go_wp2_with (first
      | (go_at_call 11; go_must (refine (told_any _ (HTB.out _ HX.out.up)).mono ?_); rintro e x3 ⟨rfl, hb⟩; replace HX := Lib.hid (HX.out.later hb); clear hb))
    go_ret
    exact ⟨rfl, HX.out.up⟩
  have d3 : decide (n > 200) = false := decide_eq_false h3
  by_cases h4 : s < 0
  · have d4 : decide (s < 0) = true := decide_eq_true h4
    clear hno
    go_wp2_with (first
      | (go_at_call 11; go_must (refine (told_any _ (HTB.out _ HX.out.up)).mono ?_); rintro e x3 ⟨rfl, hb⟩; replace HX := Lib.hid (HX.out.later hb); clear hb))
    go_ret
    exact ⟨rfl, HX.out.up⟩
  have d4 : decide (s < 0) = false := decide_eq_false h4
  by_cases h5 : s > 4096
  · have d5 : decide (s > 4096) = true := decide_eq_true h5
    clear hno
    go_wp2_with (first
      | (go_at_call 11; go_must (refine (told_any _ (HTB.out _ HX.out.up)).mono ?_); rintro e x3 ⟨rfl, hb⟩; replace HX := Lib.hid (HX.out.later hb); clear hb))
    go_ret
    exact ⟨rfl, HX.out.up⟩
  have d5 : decide (s > 4096) = false := decide_eq_false h5
  by_cases h6 : t < 0
  · have d6 : decide (t < 0) = true := decide_eq_true h6
    clear hno
    go_wp2_with (first
      | (go_at_call 11; go_must (refine (told_any _ (HTB.out _ HX.out.up)).mono ?_); rintro e x3 ⟨rfl, hb⟩; replace HX := Lib.hid (HX.out.later hb); clear hb))
    go_ret
    exact ⟨rfl, HX.out.up⟩
  have d6 : decide (t < 0) = false := decide_eq_false h6
  by_cases h7 : t > 4096
  · have d7 : decide (t > 4096) = true := decide_eq_true h7
    clear hno
    go_wp2_with (first
      | (go_at_call 11; go_must (refine (told_any _ (HTB.out _ HX.out.up)).mono ?_); rintro e x3 ⟨rfl, hb⟩; replace HX := Lib.hid (HX.out.later hb); clear hb))
    go_ret
    exact ⟨rfl, HX.out.up⟩
  have d7 : decide (t > 4096) = false := decide_eq_false h7
  exfalso; omega

set_option maxRecDepth 10000000 in
set_option maxHeartbeats 4000000 in
theorem long_any (r N sz tl : Nat) (w : World) (ht : TabAt 0 w) (hr1 : 1 ≤ r) (hr2 : r ≤ 16) (hN : N ≤ 200) (hs : sz ≤ 4096) (htl : tl ≤ 4096) :
    Calls Tryd.prog 8 #[.int .i64 (r : Int), .int .i64 (N : Int), .int .i64 (sz : Int), .int .i64 (tl : Int)] w fun e z => e = .returned (.bool true) ∧ Below w.heap.size w z := by
  have HTB : Hid (∀ z, Below w.heap.size w z → TabAt 0 z) := Lib.hid fun z hz => ht.later hz
  clear ht
  have HX := Lib.hid (OW.nil w)
  have d0 : decide ((r : Int) < 1) = false := decide_eq_false (by omega)
  have d1 : decide ((r : Int) > 16) = false := decide_eq_false (by omega)
  have d2 : decide ((N : Int) < 0) = false := decide_eq_false (by omega)
  have d3 : decide ((N : Int) > 200) = false := decide_eq_false (by omega)
  have d4 : decide ((sz : Int) < 0) = false := decide_eq_false (by omega)
  have d5 : decide ((sz : Int) > 4096) = false := decide_eq_false (by omega)
  have d6 : decide ((tl : Int) < 0) = false := decide_eq_false (by omega)
  have d7 : decide ((tl : Int) > 4096) = false := decide_eq_false (by omega)
  go_enter Tryd.func8, Tryd.ntmps8
  go_wp2_with (first
    | (go_at_call 11; go_must (refine (told_any _ (HTB.out _ HX.out.up)).mono ?_); rintro e x3 ⟨rfl, hb⟩; replace HX := Lib.hid (HX.out.later hb); clear hb)
    | (go_at_call 22; go_must (refine (begin_ok r _ hr1 hr2).mono ?_); rintro e x4 ⟨g, os, rfl, hbl, hos⟩; have HB := Lib.hid hbl; have HX1 := Lib.hid (HX.out.app hos); rw [List.nil_append] at HX1; clear hbl hos HX))
  clear d0 d1 d2 d3 d4 d5 d6 d7
  go_loopw [11, 12, 13, 14, 15] (fun iv _ _ _ _ wr => ∃ (k : Nat) (L : List Ent) (os : List Ob), k ≤ N ∧ iv = .int .i64 k ∧ Hid (LongI r k L) ∧ Hid (Bld r L g os) ∧ Hid (OW w os wr)) (fun iv _ _ _ _ _ => N - (intOf iv).toNat)
  case atStart => exact ⟨0, [], os, Nat.zero_le _, rfl, Lib.hid (LongI.zero r), HB, HX1⟩
  case round =>
    clear HB HX1 os
    obtain ⟨k, L, os, hk, rfl, HLI, HB, HX⟩ := hrel
    by_cases hlt : k < N
    case neg =>
      obtain rfl : k = N := by omega
      have hdk : decide ((k : Int) < (k : Int)) = false := decide_eq_false (by omega)
      clear hlt hk
      by_cases hk0 : k = 0
      · have dz : ((k : Int) == 0) = true := by rw [hk0]; rfl
        have HF : Hid ((finE r L).1 = [] ∧ (finE r L).2 = 54) := Lib.hid (by
          have : L = [] := List.eq_nil_of_length_eq_zero (by have := HLI.out.len; omega)
          unfold finE; rw [if_pos this]; exact ⟨rfl, rfl⟩)
        clear hk0
        go_wp2_with (go_at_call 24; go_must (refine (finish_any (rest := []) HB.out (by rw [List.append_nil]; exact HX.out) (HTB.out _ HX.out.up)).mono ?_); rw [HF.out.1, HF.out.2]; rintro e y1 hp; obtain ⟨A2, c2, rfl, _, _, hb⟩ := hp.at_ (n := 0) rfl rfl; replace HX := Lib.hid (HX.out.later hb); clear hp hb)
        go_ret
        exact ⟨rfl, HX.out.up⟩
      · have dz : ((k : Int) == 0) = false := beq_eq_false_iff_ne.2 (by omega)
        have HF := Lib.hid (long_fin HLI.out (by omega) hr1 hr2)
        obtain ⟨sb, hsb⟩ : ∃ z, z = szB r L := ⟨_, rfl⟩
        have HSB := Lib.hid hsb.symm
        obtain ⟨ln, hln⟩ : ∃ z, z = L.length := ⟨_, rfl⟩
        have HLN := Lib.hid hln.symm
        obtain ⟨Bb, hBb⟩ : ∃ z, z = layB r L := ⟨_, rfl⟩
        have HBN : Hid (Bb.length = sb) := Lib.hid (by have h9 := fin_len r (L := L); rw [HF.out.1] at h9; rw [hBb, hsb]; exact h9)
        rw [← hBb] at HF
        have HZ1 : Hid ((List.replicate 131073 (0 : UInt8)).length = 131073) := Lib.hid List.length_replicate
        clear hk0 hsb hln hBb
        go_wp2_with (first
          | (go_at_call 24; go_must (refine (finish_any (rest := []) HB.out (by rw [List.append_nil]; exact HX.out) (HTB.out _ HX.out.up)).mono ?_); rw [HF.out.1]; rintro e y1 hp; obtain ⟨A2, c2, rfl, hs2, _, hb⟩ := hp.at_ HBN.out rfl; have HS2 := Lib.hid hs2; replace HX := Lib.hid (HX.out.later hb); have tk1 : True := trivial; clear hp hb hs2)
          | (go_at_call 12; (have _t := tk1); go_must (refine (open_lay HF.out.2.1 A2 sb c2 _ HS2.out (HTB.out _ HX.out.up)).mono ?_); rintro e y2 ⟨g4, rfl, hbk, hb⟩; replace HX := Lib.hid (HX.out.later hb); have HK := Lib.hid hbk; clear hb hbk HS2 tk1 _t; have tk2 : True := trivial)
          | (at_make; go_must (refine wl_makeN rfl _ _ rfl Tryd.u8s' (.int .u8 0) (by kernel_rfl) 131073 _ _ rfl rfl rfl rfl (by omega) (by unfold maxLen; omega) (OW.nil _) ?_); intro gz y3 hz hb; rw [made_zeros5] at hz; replace HX := Lib.hid (HX.out.later hb); replace HK := Lib.hid (HK.out.later hb); have HSZ := Lib.hid (hz.sl (i := 0) rfl HZ1.out); clear hz hb)
          | (go_at_call 12; (have _t := tk2); go_must (refine (open_none long_zeros (some ⟨gz, 0, none⟩) 131073 131073 _ HSZ.out (HTB.out _ HX.out.up)).mono ?_); rintro e y4 ⟨rfl, hb⟩; replace HX := Lib.hid (HX.out.later hb); replace HK := Lib.hid (HK.out.later hb); clear hb HSZ tk2 _t)
          | (go_at_call 40; go_must (refine (size_any (rest := []) HB.out (by rw [List.append_nil]; exact HX.out)).mono ?_); rw [HSB.out]; rintro e y5 ⟨rfl, hb⟩; replace HX := Lib.hid (HX.out.later hb); replace HK := Lib.hid (HK.out.later hb); clear hb)
          | (go_at_call 13; go_must (refine (len_any HK.out).mono ?_); rw [HLN.out]; rintro e y6 ⟨rfl, hb⟩; replace HX := Lib.hid (HX.out.later hb); replace HK := Lib.hid (HK.out.later hb); clear hb)
          | (go_at_call 41; go_must (refine (count_any (rest := []) HB.out (by rw [List.append_nil]; exact HX.out)).mono ?_); rw [HLN.out]; rintro e y7 ⟨rfl, hb⟩; replace HX := Lib.hid (HX.out.later hb); clear hb))
        go_ret
        exact ⟨rfl, HX.out.up⟩
    have hdk : decide ((k : Int) < (N : Int)) = true := decide_eq_true (by omega)
    have i0 : (0 : Int) ≤ (sz : Int) := by omega
    have i1 : (0 : Int) ≤ (tl : Int) := by omega
    obtain ⟨sb, hsb⟩ : ∃ z, z = szB r L := ⟨_, rfl⟩
    have HSB := Lib.hid hsb.symm
    clear hsb
    go_upto_if 84 with (first
      | (go_at_call 40; go_must (refine (size_any (rest := []) HB.out (by rw [List.append_nil]; exact HX.out)).mono ?_); rw [HSB.out]; rintro e x5 ⟨rfl, hb⟩; replace HX := Lib.hid (HX.out.later hb); clear hb)
      | (go_at_call 20; go_must (refine (atE_new _ _).mono ?_); rintro e x6 ⟨aa, ab, ad, at_, af, rfl, ho⟩; have HY0 := Lib.hid ho; clear ho)
      | (refine wl_alloc rfl rfl [.slice none 0 0, .int .i64 0, .slice none 0 0, .int .i64 0, .int .i64 0, .int .i64 0, .slice none 0 0] (.inl (by kernel_rfl)) HY0.out ?_; intro ge x7 hz _; have HY1 := Lib.hid hz; clear hz HY0)
      | (refine wl_put rfl (.tmp 13) (.tmp 77) rfl HY1.out 3 rfl rfl [.slice (some ⟨aa, 0, none⟩) 1 1, .int .i64 0, .slice (some ⟨ab, 0, none⟩) 1 1, .int .i64 (1000 - (k : Int)), .int .i64 32, .int .i64 1, .slice (some ⟨ad, 0, none⟩) 1 1] rfl rfl (by kernel_rfl) (by simp [Value.oneCell']) ?_; intro x8 hz _; have HY2 : Hid (OW x5 [rawO aa (.cells #[u8v 114] at_ af), rawO ab (.cells #[u8v 113] at_ af), rawO ad (.cells #[u8v 118] at_ af), boxO ge [.slice (some ⟨aa, 0, none⟩) 1 1, .int .i64 0, .slice (some ⟨ab, 0, none⟩) 1 1, .int .i64 (1000 - (k : Int)), .int .i64 32, .int .i64 1, .slice (some ⟨ad, 0, none⟩) 1 1]] x8) := Lib.hid hz; clear hz HY1)
      | (at_make; go_must (refine wl_makeN rfl _ _ rfl Tryd.u8s' (.int .u8 0) (by kernel_rfl) sz _ _ rfl rfl rfl rfl (by omega) (by unfold maxLen; omega) HY2.out ?_); intro gv x9 hz _; rw [made_zeros5] at hz; have HY3 := Lib.hid hz; clear hz HY2)
      | (refine wl_put1 rfl (.tmp 80) (.tmp 79) rfl HY3.out 3 rfl 6 rfl (by simp) _ rfl (by kernel_rfl) rfl ?_; intro y1 hz _; have HY4 : Hid (OW x5 [rawO aa (.cells #[u8v 114] at_ af), rawO ab (.cells #[u8v 113] at_ af), rawO ad (.cells #[u8v 118] at_ af), boxO ge [.slice (some ⟨aa, 0, none⟩) 1 1, .int .i64 0, .slice (some ⟨ab, 0, none⟩) 1 1, .int .i64 (1000 - (k : Int)), .int .i64 32, .int .i64 1, .slice (some ⟨gv, 0, none⟩) sz sz], bytO 5 (some ⟨gv, 0, none⟩, sz, List.replicate sz 0)] y1) := Lib.hid hz; clear hz HY3))
    go_cut [13] (fun xv wx => ∃ (m gw : Nat), m ≤ 4096 ∧ xv = .pointer (some ⟨ge, 0, none⟩) ∧ Hid (OW x5 [rawO aa (.cells #[u8v 114] at_ af), rawO ab (.cells #[u8v 113] at_ af), boxO ge [.slice (some ⟨aa, 0, none⟩) 1 1, .int .i64 0, .slice (some ⟨ab, 0, none⟩) 1 1, .int .i64 (1000 - (k : Int)), .int .i64 32, .int .i64 1, .slice (some ⟨gw, 0, none⟩) m m], bytO 5 (some ⟨gw, 0, none⟩, m, List.replicate m 0)] wx))
    case first =>
      by_cases hq : k + 1 = N
      · have hdq : ((k : Int) == (N : Int) - 1) = true := beq_iff_eq.2 (by omega)
        go_wp2_with (first
          | (at_make; go_must (refine wl_makeN rfl _ _ rfl Tryd.u8s' (.int .u8 0) (by kernel_rfl) tl _ _ rfl rfl rfl rfl (by omega) (by unfold maxLen; omega) HY4.out ?_); intro gt y2 hz _; rw [made_zeros5] at hz; have HY5 := Lib.hid hz; clear hz HY4)
          | (refine wl_put1 rfl (.tmp 87) (.tmp 86) rfl HY5.out 3 rfl 6 rfl (by simp) _ rfl (by kernel_rfl) rfl ?_; intro y3 hz _; have HY6 : Hid (OW x5 [rawO aa (.cells #[u8v 114] at_ af), rawO ab (.cells #[u8v 113] at_ af), rawO ad (.cells #[u8v 118] at_ af), boxO ge [.slice (some ⟨aa, 0, none⟩) 1 1, .int .i64 0, .slice (some ⟨ab, 0, none⟩) 1 1, .int .i64 (1000 - (k : Int)), .int .i64 32, .int .i64 1, .slice (some ⟨gt, 0, none⟩) tl tl], bytO 5 (some ⟨gv, 0, none⟩, sz, List.replicate sz 0), bytO 5 (some ⟨gt, 0, none⟩, tl, List.replicate tl 0)] y3) := Lib.hid hz; clear hz HY5))
        go_meet
        exact ⟨tl, gt, htl, rfl, Lib.hid ((HY6.out.erase 2).erase 3)⟩
      · have hdq : ((k : Int) == (N : Int) - 1) = false := beq_eq_false_iff_ne.2 (by omega)
        go_wp2_with fail
        go_meet
        exact ⟨sz, gv, hs, rfl, Lib.hid (HY4.out.erase 2)⟩
    clear HY4
    obtain ⟨m, gw, hm, rfl, HZ⟩ := hcut
    have HC := Lib.hid (long_add (v := List.replicate m 0) HLI.out (i := k) (by omega) (by rw [List.length_replicate]; exact hm))
    have HW := Lib.hid (HX.out.app HZ.out)
    have HEN : Hid (∀ us z, OW w (us ++ [rawO aa (.cells #[u8v 114] at_ af), rawO ab (.cells #[u8v 113] at_ af), boxO ge [.slice (some ⟨aa, 0, none⟩) 1 1, .int .i64 0, .slice (some ⟨ab, 0, none⟩) 1 1, .int .i64 (1000 - (k : Int)), .int .i64 32, .int .i64 1, .slice (some ⟨gw, 0, none⟩) m m], bytO 5 (some ⟨gw, 0, none⟩, m, List.replicate m 0)]) z → En z (some ⟨aa, 0, none⟩) 1 1 (some ⟨ab, 0, none⟩) 1 1 (some ⟨gw, 0, none⟩) m m (longE k (List.replicate m 0))) :=
      Lib.hid fun us z hz => ⟨rawSlm (t := at_) (fr := af) hz (List.mem_append_right _ (by simp)), rawSlm (t := at_) (fr := af) hz (List.mem_append_right _ (by simp)), show Sl z (some ⟨gw, 0, none⟩) m m (List.replicate m 0) from hz.slm (T := 5) (List.mem_append_right _ (.tail _ (.tail _ (.tail _ (.head _))))) List.length_replicate⟩
    have HR : Hid (wc.rangeAt ge 0 [.slice (some ⟨aa, 0, none⟩) 1 1, .int .i64 0, .slice (some ⟨ab, 0, none⟩) 1 1, .int .i64 (1000 - (k : Int)), .int .i64 32, .int .i64 1, .slice (some ⟨gw, 0, none⟩) m m]) := HZ.out.range (i := 2) rfl |> Lib.hid
    clear HX HZ
    have HLL : Hid (L.length ≤ k) := Lib.hid HLI.out.len
    obtain ⟨ok, hok⟩ : ∃ z : Bool, z = decide (addC r L (longE k (List.replicate m 0)) = 0) := ⟨_, rfl⟩
    rcases HC.out with ⟨hc0, hl0, hi0, hlt0, hle0⟩ | ⟨hc0, hl0, hi0, hge0⟩
    case inl =>
      obtain ⟨sa, hsa⟩ : ∃ z, z = szB r (L ++ [longE k (List.replicate m 0)]) := ⟨_, rfl⟩
      rw [HSB.out, ← hsa] at hlt0
      rw [← hsa] at hle0
      have HSA := Lib.hid hsa.symm
      have HL1 := Lib.hid hl0
      have HI1 := Lib.hid hi0
      have e1 : decide ((sa : Int) ≤ (sb : Int)) = false := decide_eq_false (by omega)
      have e2 : decide ((sa : Int) > 131072) = false := decide_eq_false (by omega)
      have HC0 := Lib.hid hc0
      clear hsa hl0 hi0 hc0 HC HLI hok
      go_wp2_with (first
        | (refine wpList_load_row7 rfl 37 (.tmp 13) rfl rfl HR.out ent_row5 ?_)
        | (go_at_call 23; go_must (refine (add_any HB.out HW.out (longE k (List.replicate m 0)) (some ⟨aa, 0, none⟩) 1 1 (some ⟨ab, 0, none⟩) 1 1 (some ⟨gw, 0, none⟩) m m HEN.out).mono ?_); rintro e y5 ⟨hre, os5, hb5, ho5⟩; rw [HC0.out] at hre; subst hre; rw [HL1.out] at hb5; have HB5 := Lib.hid hb5; have HW5 := Lib.hid ho5.left; clear hb5 ho5 HB HW HR HEN)
        | (go_at_call 40; go_must (refine (size_any (rest := []) HB5.out (by rw [List.append_nil]; exact HW5.out)).mono ?_); rw [HSA.out]; rintro e y6 ⟨rfl, hb⟩; replace HW5 := Lib.hid (HW5.out.later hb); clear hb))
      go_roundw
      case rel => exact ⟨k + 1, L ++ [longE k (List.replicate m 0)], os5, by omega, by go_num, HI1, HB5, HW5⟩
      case measure => simp [intOf]; omega
    case inr =>
      have HL1 := Lib.hid hl0
      have HI1 := Lib.hid hi0
      have hll := hi0.len
      rw [HSB.out, List.length_replicate] at hge0
      obtain ⟨ln, hln⟩ : ∃ z, z = L.length := ⟨_, rfl⟩
      rw [← hln] at hll
      have HLN := Lib.hid hln.symm
      have e1 : decide ((ln : Int) > (k : Int)) = false := decide_eq_false (by have h9 := HLL.out; rw [← hln] at h9; omega)
      have e2 : ((sb : Int) == (sb : Int)) = true := beq_iff_eq.2 rfl
      have e3 : ((sb : Int) != (sb : Int)) = false := by simp
      have e4 : decide ((sb : Int) + (m : Int) + 64 < 131072) = false := decide_eq_false (by omega)
      have HC0 := Lib.hid hc0
      have hsbb : sb ≤ 131072 := by have h9 := HB.out.2.1; have h8 := HSB.out; unfold szB at h8; split at h8 <;> omega
      have hlk : ln ≤ k := by have h9 := HLL.out; rw [← hln] at h9; omega
      clear hl0 hi0 hc0 HC HLI hok hln hge0 hll
      go_wp2_with (first
        | (refine wpList_load_row7 rfl 37 (.tmp 13) rfl rfl HR.out ent_row5 ?_)
        | (go_at_call 23; go_must (refine (add_any HB.out HW.out (longE k (List.replicate m 0)) (some ⟨aa, 0, none⟩) 1 1 (some ⟨ab, 0, none⟩) 1 1 (some ⟨gw, 0, none⟩) m m HEN.out).mono ?_); rintro e y5 ⟨hre, os5, hb5, ho5⟩; rw [HC0.out] at hre; subst hre; rw [HL1.out] at hb5; have HB5 := Lib.hid hb5; have HW5 := Lib.hid ho5; clear hb5 ho5 HB HW HR HEN)
        | (go_at_call 40; go_must (refine (size_any HB5.out HW5.out).mono ?_); rw [HSB.out]; rintro e y6 ⟨rfl, hb⟩; replace HW5 := Lib.hid (HW5.out.later hb); clear hb)
        | (go_at_call 41; go_must (refine (count_any HB5.out HW5.out).mono ?_); rw [HLN.out]; rintro e y7 ⟨rfl, hb⟩; replace HW5 := Lib.hid (HW5.out.later hb); have hc6 := HW5.out.right.cell (i := 2) (j := 6) rfl rfl; clear hb)
        | (refine wpList_load_cell rfl 24 (.tmp 127) rfl rfl hc6 (fun w => Tryd.isAgg24 w) ?_))
      go_roundw
      case rel => exact ⟨k + 1, L, os5, by omega, by go_num, HI1, HB5, Lib.hid HW5.out.left⟩
      case measure => simp [intOf]; omega
theorem longI_any (R n s t : Int) (w : World) (ht : TabAt 0 w) : Calls Tryd.prog 8 #[.int .i64 R, .int .i64 n, .int .i64 s, .int .i64 t] w fun e z => e = .returned (.bool true) ∧ Below w.heap.size w z := by
  by_cases h : R < 1 ∨ 16 < R ∨ n < 0 ∨ 200 < n ∨ s < 0 ∨ 4096 < s ∨ t < 0 ∨ 4096 < t
  · exact blong_no R n s t w ht h
  · obtain ⟨r, rfl⟩ : ∃ z : Nat, R = (z : Int) := ⟨R.toNat, by omega⟩
    obtain ⟨N, rfl⟩ : ∃ z : Nat, n = (z : Int) := ⟨n.toNat, by omega⟩
    obtain ⟨sz, rfl⟩ : ∃ z : Nat, s = (z : Int) := ⟨s.toNat, by omega⟩
    obtain ⟨tl, rfl⟩ : ∃ z : Nat, t = (z : Int) := ⟨t.toNat, by omega⟩
    exact long_any r N sz tl w ht (by omega) (by omega) (by omega) (by omega) (by omega)
end Go.Proofs.YtmigjipfomfacaaDoor
