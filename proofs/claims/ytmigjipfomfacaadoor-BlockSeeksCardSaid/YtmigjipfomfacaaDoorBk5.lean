/-
  Laid together by merge.py: BlockR2, BlockD1, BlockD2, BlockL2, BlockP6, BlockL3, BlockS1, Law, Law2, Law3, WireLaw, Law4, BlockLaw, WireP3, WireP4, WireP5.
-/
import Derived.Test.YtmigjipfomfacaaDoorBk4
import Derived.Test.YtmigjipfomfacaaDoorBk3
import Derived.Test.YtmigjipfomfacaaDoorBk2
import Derived.Test.YtmigjipfomfacaaDoorBk1
import Derived.ProofKit
import Derived.SizedLaws
import Derived.Lib.SmallJoins
import Derived.Deep.Slices
import Derived.Deep.Fields
import Derived.Test.YtmigjipfomfacaaDoorRows
import Derived.Test.YtmigjipfomfacaaDoorCards
import Derived.Test.YtmigjipfomfacaaDoorTie
import Derived.OpenShut
import Derived.Deep.DeepHandedRow
import Derived.Lib.LaidTab

/-
  A block's Seek, walked.
-/
namespace Go.Proofs.YtmigjipfomfacaaDoor
open Go.RowKit

theorem RB.later2 {x y : World} {A : Option Addr} {n : Nat} {l : List UInt8} (h : RB x x.heap.size A n l) (hb : Below x.heap.size x y) : RB y y.heap.size A n l := (h.below hb).more hb.size

set_option maxRecDepth 100000 in
set_option maxHeartbeats 2000000 in
theorem below_any {x : World} {R g g1 g2 : Nat} {L : List Ent} (h : BkR x R g L) (h1 : x.cell? ⟨g1, 0, none⟩ = some (.pointer (some ⟨g, 0, none⟩))) (key : List UInt8) (KA : Option Addr) (kn kc : Nat) (h2 : x.cell? ⟨g2, 0, none⟩ = some (.slice KA kn kc)) (hk : Sl x KA kn kc key) (z : Int) (j : Nat) (hz : z = (j : Int)) (e : Ent) (hj : L[j]? = some e) (bo : Bool) (hb : decide (cmpB (keyE e) key < 0) = bo) :
    Calls Tryd.prog 49 #[.int .i64 z, .pointer (some ⟨g1, 0, none⟩), .pointer (some ⟨g2, 0, none⟩)] x fun r y => r = .returned (.bool bo) ∧ Below x.heap.size x y := by
  obtain ⟨A, c, c2, hr⟩ := h.c2
  have hjl : j < L.length := (List.getElem?_eq_some_iff.1 hj).1
  obtain ⟨b, o, k, a, ck, rfl, hbl, hkk, hcell, _, _, _, hrb⟩ := hr.at_ hjl
  obtain rfl : keyE e = k := by
    rw [List.getElem?_map, hj] at hkk
    injection hkk
  obtain ⟨n, hn⟩ : ∃ m, m = L.length := ⟨_, rfl⟩
  obtain ⟨kl, hkl⟩ : ∃ m, m = (keyE e).length := ⟨_, rfl⟩
  obtain ⟨cz, hcz⟩ : ∃ m, m = cmpB (keyE e) key := ⟨_, rfl⟩
  rw [← hn] at c2 hjl
  rw [← hkl] at hcell hrb
  rw [← hcz] at hb
  have HRB := Lib.hid hrb
  have HK := Lib.hid hk
  have HCZ := Lib.hid hcz
  have HB := Lib.hid hb
  subst hz
  have i1 : (0 : Int) ≤ (j : Int) := by omega
  have i2 : (j : Int) < (n : Int) := by omega
  have L1 := Lib.hid (World.block_lt_of_cell? x _ h1)
  have L2 := Lib.hid (World.block_lt_of_cell? x _ c2)
  have L3 := Lib.hid (World.block_lt_of_cell? x _ hcell)
  have L4 := Lib.hid (World.block_lt_of_cell? x _ h2)
  have H1 := Lib.hid h1
  have H2 := Lib.hid h2
  have C2 := Lib.hid c2
  have CE := Lib.hid hcell
  clear h hr hj hkk hrb hk hn hkl hcz hb h1 h2 c2 hcell
  go_enter Tryd.func49, Tryd.ntmps49
  go_wp2_with fail
  refine lt_start [] (by kernel_rfl) ?_
  intro xd hd
  refine ⟨fun z => Below x.heap.size x z, ?_⟩
  have HS := Lib.hid (hd)
  refine lt_take 0 [1, 2, 3, 5, 6, 8, 9, 10] rfl (by kernel_rfl) (by kernel_rfl) (by kernel_rfl) (by kernel_rfl) (by kernel_rfl) (fun _ _ _ h => h) (yi_cell rfl rfl rfl (fun w hS => (hS.cell (p := ⟨g1, 0, none⟩) L1.out).trans H1.out) (fun w => Tryd.isAgg29 w)) HS.out ?_
  simp only [Act.put, List.setIfInBounds_toArray, List.set_cons_zero, List.set_cons_succ]
  refine lt_pure 1 rfl (by kernel_rfl) (by kernel_rfl) (by kernel_rfl) (by kernel_rfl) (fun _ _ _ h => h) (v := ?_) (yi_run rfl (fun w => ?_)) (fun _ => HS.out) ?_
  rotate_left
  · first | (go_simp; done) | (go_simp; with_reducible rfl)
  simp only [Act.put, List.setIfInBounds_toArray, List.set_cons_zero, List.set_cons_succ]
  refine lt_pure 2 rfl (by kernel_rfl) (by kernel_rfl) (by kernel_rfl) (by kernel_rfl) (fun _ _ _ h => h) (v := ?_) (yi_run rfl (fun w => ?_)) (fun _ => HS.out) ?_
  rotate_left
  · first | (go_simp; done) | (go_simp; with_reducible rfl)
  simp only [Act.put, List.setIfInBounds_toArray, List.set_cons_zero, List.set_cons_succ]
  refine lt_take 3 [5, 6, 8, 9, 10] rfl (by kernel_rfl) (by kernel_rfl) (by kernel_rfl) (by kernel_rfl) (by kernel_rfl) (fun _ _ _ h => h) (yi_cell rfl rfl rfl (fun w hS => (hS.cell (p := ⟨g, 2, none⟩) L2.out).trans C2.out) (fun w => Tryd.isAgg52 w)) HS.out ?_
  simp only [Act.put, List.setIfInBounds_toArray, List.set_cons_zero, List.set_cons_succ]
  refine lt_pure 4 rfl (by kernel_rfl) (by kernel_rfl) (by kernel_rfl) (by kernel_rfl) (fun _ _ _ h => h) (v := ?_) (yi_run rfl (fun w => ?_)) (fun _ => HS.out) ?_
  rotate_left
  · first | (go_simp; done) | (go_simp; with_reducible rfl)
  simp only [Act.put, List.setIfInBounds_toArray, List.set_cons_zero, List.set_cons_succ]
  refine lt_pure 5 rfl (by kernel_rfl) (by kernel_rfl) (by kernel_rfl) (by kernel_rfl) (fun _ _ _ h => h) (v := ?_) (yi_run rfl (fun w => ?_)) (fun _ => HS.out) ?_
  rotate_left
  · first | (go_simp; done) | (go_simp; with_reducible rfl)
  simp only [Act.put, List.setIfInBounds_toArray, List.set_cons_zero, List.set_cons_succ]
  refine lt_take 6 [8, 9, 10] rfl (by kernel_rfl) (by kernel_rfl) (by kernel_rfl) (by kernel_rfl) (by kernel_rfl) (fun _ _ _ h => h) (yi_cell rfl rfl rfl (fun w hS => (hS.cell (p := ⟨b, o + j, none⟩) L3.out).trans CE.out) (fun w => Tryd.isAgg24 w)) HS.out ?_
  simp only [Act.put, List.setIfInBounds_toArray, List.set_cons_zero, List.set_cons_succ]
  refine lt_take 7 [8, 9, 10] rfl (by kernel_rfl) (by kernel_rfl) (by kernel_rfl) (by kernel_rfl) (by kernel_rfl) (fun _ _ _ h => h) (yi_cell rfl rfl rfl (fun w hS => (hS.cell (p := ⟨g2, 0, none⟩) L4.out).trans H2.out) (fun w => Tryd.isAgg24 w)) HS.out ?_
  simp only [Act.put, List.setIfInBounds_toArray, List.set_cons_zero, List.set_cons_succ]
  refine lt_call 8 rfl (by kernel_rfl) rfl rfl ⟨_, Tryd.func50, by decide, by kernel_rfl⟩ [.slice a kl ck, .slice KA kn kc] rfl ?_
  refine (bcmp_any (keyE e) key a KA kl ck kn kc _ (HRB.out.later2 HS.out) (HK.out.later HS.out).rb).mono ?_
  rw [← HCZ.out]
  rintro r z9 ⟨rfl, rfl⟩
  refine ⟨_, rfl, fun _ => HS.out, ?_⟩
  simp only [Act.put, List.setIfInBounds_toArray, List.set_cons_zero, List.set_cons_succ]
  refine lt_pure 9 rfl (by kernel_rfl) (by kernel_rfl) (by kernel_rfl) (by kernel_rfl) (fun _ _ _ h => h) (v := ?_) (yi_run rfl (fun w => ?_)) (fun _ => HS.out) ?_
  rotate_left
  · first | (go_simp; done) | (go_simp; with_reducible rfl)
  simp only [Act.put, List.setIfInBounds_toArray, List.set_cons_zero, List.set_cons_succ]
  refine lt_pure 10 rfl (by kernel_rfl) (by kernel_rfl) (by kernel_rfl) (by kernel_rfl) (fun _ _ _ h => h) (v := ?_) (yi_run rfl (fun w => ?_)) (fun _ => HS.out) ?_
  rotate_left
  · first | (go_simp; done) | (go_simp; with_reducible rfl)
  simp only [Act.put, List.setIfInBounds_toArray, List.set_cons_zero, List.set_cons_succ]
  refine lt_done (by kernel_rfl) ?_
  have HS9 := HS
  clear HS
  have HB9 := HS9.out
  go_wp2_with fail
  go_ret
  exact ⟨by rw [← HB.out]; rfl, HB9⟩

theorem quo_res (n R : Nat) (hR : 1 ≤ R) : Int.tdiv ((n : Int) + (R : Int) - 1) (R : Int) = ((resN n R : Nat) : Int) := by
  have e : (n : Int) + (R : Int) - 1 = ((n + R - 1 : Nat) : Int) := by omega
  rw [e, ← Int.ofNat_tdiv]; rfl
set_option maxRecDepth 100000 in
set_option maxHeartbeats 4000000 in
theorem seek_any {x : World} {R g : Nat} {L : List Ent} (h : BkR x R g L) (hR : 1 ≤ R ∧ R ≤ 16) (hn0 : 0 < L.length) (hn1 : L.length ≤ 4294967296) (hA : Asc (L.map keyE)) (key : List UInt8) (KA : Option Addr) (kn kc : Nat) (hk : Sl x KA kn kc key) :
    Calls Tryd.prog 17 #[.pointer (some ⟨g, 0, none⟩), .slice KA kn kc] x fun r y => r = .returned (.int .i64 (seekL L key : Nat)) ∧ Below x.heap.size x y := by
  have HBK := Lib.hid (fun z (hz : Below x.heap.size x z) => h.later hz)
  have HK := Lib.hid (fun z (hz : Below x.heap.size x z) => hk.later hz)
  obtain ⟨A, c, h1, _⟩ := h.c1
  have hg := h.lt
  have h0 := h.c0
  obtain ⟨n, hn⟩ : ∃ m, m = L.length := ⟨_, rfl⟩
  obtain ⟨sk, hsk⟩ : ∃ m, m = seekL L key := ⟨_, rfl⟩
  rw [← hn] at h1 hn0 hn1
  have hskn : sk ≤ n := by rw [hsk, hn]; have := seekN_le (L.map keyE) key; rw [List.length_map] at this; exact this
  have HCR : Hid (∀ z, Below x.heap.size x z → z.cell? ⟨g, 0, none⟩ = some (.int .i64 (R : Int))) := Lib.hid fun z hz => (hz.cell (p := ⟨g, 0, none⟩) hg).trans h0
  have HCL : Hid (∀ z, Below x.heap.size x z → z.cell? ⟨g, 1, none⟩ = some (.slice A n c)) := Lib.hid fun z hz => (hz.cell (p := ⟨g, 1, none⟩) hg).trans h1
  have HIF : Hid (∀ (i : Nat) (e : Ent), L[i]? = some e → decide (cmpB (keyE e) key < 0) = decide (i < sk)) := Lib.hid fun i e he => by
    have := seekN_iff hA (key := key) (i := i) (k := keyE e) (by rw [List.getElem?_map, he]; rfl)
    rw [hsk]
    exact decide_eq_decide.2 this
  have HGE : Hid (∀ i, i < n → ∃ e, L[i]? = some e) := Lib.hid fun i hi => ⟨_, List.getElem?_eq_getElem (by rw [← hn]; exact hi)⟩
  obtain ⟨H, hH⟩ : ∃ m, m = resN n R := ⟨_, rfl⟩
  have hH1 : 1 ≤ H := by rw [hH]; exact resN_pos hn0 hR.1
  have hH2 : H ≤ n := by rw [hH]; exact resN_le hR.1
  have HLT : Hid (∀ k, k < H → k * R < n) := Lib.hid fun k hk => resN_lt hR.1 (by rw [← hH]; exact hk)
  have HQ : Hid (Int.tdiv ((n : Int) + (R : Int) - 1) (R : Int) = (H : Int)) := Lib.hid (by rw [quo_res n R hR.1, hH])
  have HSK := Lib.hid hsk
  obtain ⟨hR1, hR2⟩ := hR
  have HX := Lib.hid (OW.nil x)
  clear h hk h1 h0 hn hsk hA hH
  go_enter Tryd.func17, Tryd.ntmps17
  go_wp2_with (first
    | (refine wl_box rfl (.tmp 0) rfl [.pointer (some ⟨g, 0, none⟩)] rfl HX.out ?_; intro g1 x1 hz _; have HX1 := Lib.hid hz; clear hz HX)
    | (refine wl_box rfl (.tmp 1) rfl [.slice KA kn kc] rfl HX1.out ?_; intro g2 x2 hz _; have HX2 : Hid (OW x [boxO g1 [.pointer (some ⟨g, 0, none⟩)], boxO g2 [.slice KA kn kc]] x2) := Lib.hid hz; clear hz HX1))
  go_step3
  go_wp2_with (first
    | (refine wl_box rfl (.tmp 0) rfl [.pointer (some ⟨g, 0, none⟩)] rfl HX.out ?_; intro g1 x1 hz _; have HX1 := Lib.hid hz; clear hz HX)
    | (refine wl_box rfl (.tmp 1) rfl [.slice KA kn kc] rfl HX1.out ?_; intro g2 x2 hz _; have HX2 : Hid (OW x [boxO g1 [.pointer (some ⟨g, 0, none⟩)], boxO g2 [.slice KA kn kc]] x2) := Lib.hid hz; clear hz HX1))
  have r2 : ¬ R = 0 := by omega
  have s1 : IntKind.i64.wrap ((n : Int) + (R : Int)) = (n : Int) + (R : Int) := i64_sum (by omega) (by omega)
  have s2 : IntKind.i64.wrap ((n : Int) + (R : Int) - 1) = (n : Int) + (R : Int) - 1 := i64_sum (by omega) (by omega)
  have s3 : IntKind.i64.wrap (Int.tdiv ((n : Int) + (R : Int) - 1) (R : Int)) = (H : Int) := by rw [HQ.out]; exact i64_sum (by omega) (by omega)
  refine lt_start [] (by kernel_rfl) ?_
  intro xd hd
  refine ⟨fun z => Below x2.heap.size x2 z, ?_⟩
  have HS := Lib.hid (hd)
  refine lt_take 0 [1, 2, 3, 4, 9, 10, 15, 17] rfl (by kernel_rfl) (by kernel_rfl) (by kernel_rfl) (by kernel_rfl) (by kernel_rfl) (fun _ _ _ h => h) (yi_cell rfl rfl rfl (fun w hS => (HX2.out.later hS).cell (i := 0) (j := 0) rfl rfl) (fun w => Tryd.isAgg29 w)) HS.out ?_
  simp only [Act.put, List.setIfInBounds_toArray, List.set_cons_zero, List.set_cons_succ]
  refine lt_pure 1 rfl (by kernel_rfl) (by kernel_rfl) (by kernel_rfl) (by kernel_rfl) (fun _ _ _ h => h) (v := ?_) (yi_run rfl (fun w => ?_)) (fun _ => HS.out) ?_
  rotate_left
  · first | (go_simp; done) | (go_simp; with_reducible rfl)
  simp only [Act.put, List.setIfInBounds_toArray, List.set_cons_zero, List.set_cons_succ]
  refine lt_pure 2 rfl (by kernel_rfl) (by kernel_rfl) (by kernel_rfl) (by kernel_rfl) (fun _ _ _ h => h) (v := ?_) (yi_run rfl (fun w => ?_)) (fun _ => HS.out) ?_
  rotate_left
  · first | (go_simp; done) | (go_simp; with_reducible rfl)
  simp only [Act.put, List.setIfInBounds_toArray, List.set_cons_zero, List.set_cons_succ]
  refine lt_take 3 [4, 9, 10, 15, 17] rfl (by kernel_rfl) (by kernel_rfl) (by kernel_rfl) (by kernel_rfl) (by kernel_rfl) (fun _ _ _ h => h) (yi_cell rfl rfl rfl (fun w hS => HCL.out _ (HX2.out.later hS).up) (fun w => Tryd.isAgg22 w)) HS.out ?_
  simp only [Act.put, List.setIfInBounds_toArray, List.set_cons_zero, List.set_cons_succ]
  refine lt_pure 4 rfl (by kernel_rfl) (by kernel_rfl) (by kernel_rfl) (by kernel_rfl) (fun _ _ _ h => h) (v := ?_) (yi_run rfl (fun w => ?_)) (fun _ => HS.out) ?_
  rotate_left
  · first | (go_simp; done) | (go_simp; with_reducible rfl)
  simp only [Act.put, List.setIfInBounds_toArray, List.set_cons_zero, List.set_cons_succ]
  refine lt_take 5 [6, 7, 8, 9, 10, 15, 17] rfl (by kernel_rfl) (by kernel_rfl) (by kernel_rfl) (by kernel_rfl) (by kernel_rfl) (fun _ _ _ h => h) (yi_cell rfl rfl rfl (fun w hS => (HX2.out.later hS).cell (i := 0) (j := 0) rfl rfl) (fun w => Tryd.isAgg29 w)) HS.out ?_
  simp only [Act.put, List.setIfInBounds_toArray, List.set_cons_zero, List.set_cons_succ]
  refine lt_pure 6 rfl (by kernel_rfl) (by kernel_rfl) (by kernel_rfl) (by kernel_rfl) (fun _ _ _ h => h) (v := ?_) (yi_run rfl (fun w => ?_)) (fun _ => HS.out) ?_
  rotate_left
  · first | (go_simp; done) | (go_simp; with_reducible rfl)
  simp only [Act.put, List.setIfInBounds_toArray, List.set_cons_zero, List.set_cons_succ]
  refine lt_pure 7 rfl (by kernel_rfl) (by kernel_rfl) (by kernel_rfl) (by kernel_rfl) (fun _ _ _ h => h) (v := ?_) (yi_run rfl (fun w => ?_)) (fun _ => HS.out) ?_
  rotate_left
  · first | (go_simp; done) | (go_simp; with_reducible rfl)
  simp only [Act.put, List.setIfInBounds_toArray, List.set_cons_zero, List.set_cons_succ]
  refine lt_take 8 [9, 10, 15, 17] rfl (by kernel_rfl) (by kernel_rfl) (by kernel_rfl) (by kernel_rfl) (by kernel_rfl) (fun _ _ _ h => h) (yi_cell rfl rfl rfl (fun w hS => HCR.out _ (HX2.out.later hS).up) (fun w => Tryd.isAgg3 w)) HS.out ?_
  simp only [Act.put, List.setIfInBounds_toArray, List.set_cons_zero, List.set_cons_succ]
  refine lt_pure 9 rfl (by kernel_rfl) (by kernel_rfl) (by kernel_rfl) (by kernel_rfl) (fun _ _ _ h => h) (v := ?_) (yi_run rfl (fun w => ?_)) (fun _ => HS.out) ?_
  rotate_left
  · first | (go_simp; done) | (go_simp; with_reducible rfl)
  simp only [Act.put, List.setIfInBounds_toArray, List.set_cons_zero, List.set_cons_succ]
  refine lt_pure 10 rfl (by kernel_rfl) (by kernel_rfl) (by kernel_rfl) (by kernel_rfl) (fun _ _ _ h => h) (v := ?_) (yi_run rfl (fun w => ?_)) (fun _ => HS.out) ?_
  rotate_left
  · first | (go_simp; done) | (go_simp; with_reducible rfl)
  simp only [Act.put, List.setIfInBounds_toArray, List.set_cons_zero, List.set_cons_succ]
  refine lt_take 11 [12, 13, 14, 15, 17] rfl (by kernel_rfl) (by kernel_rfl) (by kernel_rfl) (by kernel_rfl) (by kernel_rfl) (fun _ _ _ h => h) (yi_cell rfl rfl rfl (fun w hS => (HX2.out.later hS).cell (i := 0) (j := 0) rfl rfl) (fun w => Tryd.isAgg29 w)) HS.out ?_
  simp only [Act.put, List.setIfInBounds_toArray, List.set_cons_zero, List.set_cons_succ]
  refine lt_pure 12 rfl (by kernel_rfl) (by kernel_rfl) (by kernel_rfl) (by kernel_rfl) (fun _ _ _ h => h) (v := ?_) (yi_run rfl (fun w => ?_)) (fun _ => HS.out) ?_
  rotate_left
  · first | (go_simp; done) | (go_simp; with_reducible rfl)
  simp only [Act.put, List.setIfInBounds_toArray, List.set_cons_zero, List.set_cons_succ]
  refine lt_pure 13 rfl (by kernel_rfl) (by kernel_rfl) (by kernel_rfl) (by kernel_rfl) (fun _ _ _ h => h) (v := ?_) (yi_run rfl (fun w => ?_)) (fun _ => HS.out) ?_
  rotate_left
  · first | (go_simp; done) | (go_simp; with_reducible rfl)
  simp only [Act.put, List.setIfInBounds_toArray, List.set_cons_zero, List.set_cons_succ]
  refine lt_take 14 [15, 17] rfl (by kernel_rfl) (by kernel_rfl) (by kernel_rfl) (by kernel_rfl) (by kernel_rfl) (fun _ _ _ h => h) (yi_cell rfl rfl rfl (fun w hS => HCR.out _ (HX2.out.later hS).up) (fun w => Tryd.isAgg3 w)) HS.out ?_
  simp only [Act.put, List.setIfInBounds_toArray, List.set_cons_zero, List.set_cons_succ]
  refine lt_pure 15 rfl (by kernel_rfl) (by kernel_rfl) (by kernel_rfl) (by kernel_rfl) (fun _ _ _ h => h) (v := ?_) (yi_run rfl (fun w => ?_)) (fun _ => HS.out) ?_
  rotate_left
  · first | (go_simp; done) | (go_simp; with_reducible rfl)
  simp only [Act.put, List.setIfInBounds_toArray, List.set_cons_zero, List.set_cons_succ]
  refine lt_pure 16 rfl (by kernel_rfl) (by kernel_rfl) (by kernel_rfl) (by kernel_rfl) (fun _ _ _ h => h) (v := ?_) (yi_run rfl (fun w => ?_)) (fun _ => HS.out) ?_
  rotate_left
  · first | (go_simp; done) | (go_simp; with_reducible rfl)
  simp only [Act.put, List.setIfInBounds_toArray, List.set_cons_zero, List.set_cons_succ]
  refine lt_pure 17 rfl (by kernel_rfl) (by kernel_rfl) (by kernel_rfl) (by kernel_rfl) (fun _ _ _ h => h) (v := ?_) (yi_run rfl (fun w => ?_)) (fun _ => HS.out) ?_
  rotate_left
  · first | (go_simp; done) | (go_simp; with_reducible rfl)
  simp only [Act.put, List.setIfInBounds_toArray, List.set_cons_zero, List.set_cons_succ]
  refine lt_done (by kernel_rfl) ?_
  have HS9 := HS
  clear HS
  have HX3 := Lib.hid (HX2.out.later HS9.out)
  clear HX2 s1 s2 s3 HS9
  go_wp2_with fail
  go_loopw [6, 7, 8] (fun lv hv _ wr => ∃ lo hi : Nat, lo < H ∧ hi ≤ H ∧ lv = .int .i64 lo ∧ hv = .int .i64 hi ∧ Hid (lo = 0 ∨ lo * R < sk) ∧ Hid (OW x [boxO g1 [.pointer (some ⟨g, 0, none⟩)], boxO g2 [.slice KA kn kc]] wr)) (fun lv hv _ _ => (intOf hv).toNat - (intOf lv).toNat)
  case atStart => exact ⟨0, H, by omega, Nat.le_refl _, rfl, rfl, Lib.hid (.inl rfl), HX3⟩
  case round =>
    clear HX3
    obtain ⟨lo, hi, hlo, hhi, rfl, rfl, HLO, HX⟩ := hrel
    by_cases hlt : lo + 1 < hi
    case pos =>
      have hd : decide ((lo : Int) + 1 < (hi : Int)) = true := decide_eq_true (by omega)
      obtain ⟨mid, hmid⟩ : ∃ m, m = (lo + hi) / 2 := ⟨_, rfl⟩
      have hm1 : lo < mid := by omega
      have hm2 : mid < hi := by omega
      have qd : ((lo : Int) + (hi : Int)) / 2 = (mid : Int) := by omega
      obtain ⟨j, hj⟩ : ∃ m, m = mid * R := ⟨_, rfl⟩
      have hjn : j < n := by rw [hj]; exact HLT.out mid (by omega)
      have qm : (mid : Int) * (R : Int) = (j : Int) := by rw [hj]; exact (Int.natCast_mul _ _).symm
      obtain ⟨e, he⟩ := HGE.out j hjn
      have HE := Lib.hid he
      have HJ := Lib.hid hj
      clear hmid hj he
      have f1 := HX.out.cell (i := 0) (j := 0) rfl rfl
      have f2 := HX.out.cell (i := 1) (j := 0) rfl rfl
      by_cases hb : j < sk
      case pos =>
        have HB : Hid (decide (cmpB (keyE e) key < 0) = true) := Lib.hid (by rw [HIF.out j e HE.out]; exact decide_eq_true hb)
        have HJ2 : Hid (mid * R < sk) := Lib.hid (by rw [← HJ.out]; exact hb)
        clear hb
        go_wp2_with (first
          | (refine wpList_load_cell rfl 29 (.tmp 2) rfl rfl f1 (fun w => Tryd.isAgg29 w) ?_)
          | (refine wpList_load_cell rfl 3 (.tmp 39) rfl rfl (HCR.out _ HX.out.up) (fun w => Tryd.isAgg3 w) ?_)
          | (go_at_call 49; go_must (refine (below_any (HBK.out _ HX.out.up) f1 key KA kn kc f2 (HK.out _ HX.out.up) _ j rfl e HE.out true HB.out).mono ?_); rintro r z1 ⟨rfl, hb⟩; have HX1 := Lib.hid (HX.out.later hb); clear hb f1 f2 HX))
        go_roundw
        case rel => exact ⟨mid, hi, by omega, hhi, rfl, rfl, Lib.hid (.inr HJ2.out), HX1⟩
        case measure => simp [intOf]; omega
      have HB : Hid (decide (cmpB (keyE e) key < 0) = false) := Lib.hid (by rw [HIF.out j e HE.out]; exact decide_eq_false hb)
      clear hb
      go_wp2_with (first
        | (refine wpList_load_cell rfl 29 (.tmp 2) rfl rfl f1 (fun w => Tryd.isAgg29 w) ?_)
        | (refine wpList_load_cell rfl 3 (.tmp 39) rfl rfl (HCR.out _ HX.out.up) (fun w => Tryd.isAgg3 w) ?_)
        | (go_at_call 49; go_must (refine (below_any (HBK.out _ HX.out.up) f1 key KA kn kc f2 (HK.out _ HX.out.up) _ j rfl e HE.out false HB.out).mono ?_); rintro r z1 ⟨rfl, hb⟩; have HX1 := Lib.hid (HX.out.later hb); clear hb f1 f2 HX))
      go_roundw
      case rel => exact ⟨lo, mid, hlo, by omega, rfl, rfl, HLO, HX1⟩
      case measure => simp [intOf]; omega
    have hd : decide ((lo : Int) + 1 < (hi : Int)) = false := decide_eq_false (by omega)
    obtain ⟨j, hj⟩ : ∃ m, m = lo * R := ⟨_, rfl⟩
    have hjs : j ≤ sk := by
      rw [hj]
      rcases HLO.out with h | h
      · rw [h]; omega
      · omega
    have qm : (lo : Int) * (R : Int) = (j : Int) := by rw [hj]; exact (Int.natCast_mul _ _).symm
    clear hj
    have f1 := HX.out.cell (i := 0) (j := 0) rfl rfl
    go_wp2_with (first
      | (refine wpList_load_cell rfl 29 (.tmp 2) rfl rfl f1 (fun w => Tryd.isAgg29 w) ?_)
      | (refine wpList_load_cell rfl 3 (.tmp 48) rfl rfl (HCR.out _ HX.out.up) (fun w => Tryd.isAgg3 w) ?_))
    go_step3
    go_wp2_with fail
    clear f1 qm
    go_loopw [9, 51] (fun iv _ wr => ∃ i : Nat, i ≤ sk ∧ iv = .int .i64 i ∧ Hid (OW x [boxO g1 [.pointer (some ⟨g, 0, none⟩)], boxO g2 [.slice KA kn kc]] wr)) (fun iv _ _ => n + 1 - (intOf iv).toNat)
    case atStart => exact ⟨j, hjs, rfl, HX⟩
    case round =>
      clear HX HLO
      obtain ⟨i, his, rfl, HX⟩ := hrel
      have f1 := HX.out.cell (i := 0) (j := 0) rfl rfl
      by_cases hin : i = n
      case pos =>
        have hd2 : ((i : Int) == (n : Int)) = true := by rw [beq_iff_eq]; omega
        have HI : Hid (i = sk) := Lib.hid (by omega)
        clear hin
        go_wp2_with (first
          | (refine wpList_load_cell rfl 29 (.tmp 2) rfl rfl f1 (fun w => Tryd.isAgg29 w) ?_)
          | (refine wpList_load_cell rfl 22 (.tmp 55) rfl rfl (HCL.out _ HX.out.up) (fun w => Tryd.isAgg22 w) ?_))
        try rw [Exit.noGoto_ret]
        go_ret
        exact ⟨by rw [← HSK.out, ← HI.out]; rfl, HX.out.up⟩
      have hd2 : ((i : Int) == (n : Int)) = false := by rw [beq_eq_false_iff_ne]; omega
      obtain ⟨e, he⟩ := HGE.out i (by omega)
      have HE := Lib.hid he
      have f2 := HX.out.cell (i := 1) (j := 0) rfl rfl
      clear he
      by_cases hb : i < sk
      case neg =>
        have HB : Hid (decide (cmpB (keyE e) key < 0) = false) := Lib.hid (by rw [HIF.out i e HE.out]; exact decide_eq_false hb)
        have HI : Hid (i = sk) := Lib.hid (by omega)
        clear hb hin
        go_wp2_with (first
          | (refine wpList_load_cell rfl 29 (.tmp 2) rfl rfl f1 (fun w => Tryd.isAgg29 w) ?_)
          | (refine wpList_load_cell rfl 22 (.tmp 55) rfl rfl (HCL.out _ HX.out.up) (fun w => Tryd.isAgg22 w) ?_)
          | (go_at_call 49; go_must (refine (below_any (HBK.out _ HX.out.up) f1 key KA kn kc f2 (HK.out _ HX.out.up) _ i rfl e HE.out false HB.out).mono ?_); rintro r z1 ⟨rfl, hb⟩; have HX1 := Lib.hid (HX.out.later hb); clear hb f1 f2 HX))
        try rw [Exit.noGoto_ret]
        go_ret
        exact ⟨by rw [← HSK.out, ← HI.out]; rfl, HX1.out.up⟩
      have HB : Hid (decide (cmpB (keyE e) key < 0) = true) := Lib.hid (by rw [HIF.out i e HE.out]; exact decide_eq_true hb)
      go_wp2_with (first
        | (refine wpList_load_cell rfl 29 (.tmp 2) rfl rfl f1 (fun w => Tryd.isAgg29 w) ?_)
        | (refine wpList_load_cell rfl 22 (.tmp 55) rfl rfl (HCL.out _ HX.out.up) (fun w => Tryd.isAgg22 w) ?_)
        | (go_at_call 49; go_must (refine (below_any (HBK.out _ HX.out.up) f1 key KA kn kc f2 (HK.out _ HX.out.up) _ i rfl e HE.out true HB.out).mono ?_); rintro r z1 ⟨rfl, hb⟩; have HX1 := Lib.hid (HX.out.later hb); clear hb f1 f2 HX))
      go_roundw
      case rel => exact ⟨i + 1, by omega, by go_num, HX1⟩
      case measure => simp [intOf]; omega
end Go.Proofs.YtmigjipfomfacaaDoor

/-
  The document's Lay, walked.
-/
namespace Go.Proofs.YtmigjipfomfacaaDoor
open Go.RowKit

theorem row_le {al : Nat} {k v : List UInt8} (hk : k.length ≤ 1048) (hv : v.length ≤ 4096) (ha : al ≤ 1048) : (rowK al k v).length ≤ 5200 := by
  unfold rowK
  simp only [List.length_append, List.length_drop]
  have := uintB_le10 (n := al) (by omega)
  have := uintB_le10 (n := k.length - al) (by omega)
  have := uintB_le10 (n := v.length) (by omega)
  omega
theorem runE_pls (R : Nat) : ∀ (l : List Ent) (s : BSt), (runE R s l).places.length ≤ s.places.length + l.length
  | [], s => Nat.le_refl _
  | e :: l, s => by
    have := runE_pls R l (stepB R s (keyE e) e.val)
    show (runE R (stepB R s (keyE e) e.val) l).places.length ≤ _
    have h2 : (stepB R s (keyE e) e.val).places.length ≤ s.places.length + 1 := by
      show (placesB R s).length ≤ _
      unfold placesB
      split
      · rw [List.length_append]; exact Nat.le_refl _
      · omega
    rw [List.length_cons]; omega

set_option maxRecDepth 100000 in
set_option maxHeartbeats 4000000 in
theorem rlay_any (R : Nat) (L : List Ent) (A : Option Addr) (n c : Nat) (w : World) (hes : Ens w A n L) (hn : n ≤ 500000) (hR : 1 ≤ R ∧ R ≤ 16) (hok : ∀ l, l ∈ L → checkE l = 0) (hal : ∀ k e, L[k]? = some e → alikeB R (runB R (L.take k)) (keyE e) < (keyE e).length) :
    Calls Tryd.prog 60 #[.int .i64 (R : Int), .slice A n c] w (BytesPost 5 (layB R L) w) := by
  have HLE := Lib.hid hes.len
  have HES : Hid (∀ z, Below w.heap.size w z → Ens z A n L) := Lib.hid fun z hz => hes.later hz
  have HOK := Lib.hid hok
  have HAA := Lib.hid hal
  obtain ⟨hR1, hR2⟩ := hR
  clear hes hok hal
  by_cases h0 : n = 0
  case pos =>
    have HP : Hid (layB R L = []) := Lib.hid (by unfold layB; rw [if_pos (List.eq_nil_of_length_eq_zero (by rw [HLE.out, h0]))])
    subst h0
    go_enter Tryd.func60, Tryd.ntmps60
    go_wp2_with fail
    go_ret
    rw [HP.out]
    exact bytes_post (n := 0) (own_nil _ _ _ _) (Below.refl _ _)
  have hd : ((n : Int) == 0) = false := beq_eq_false_iff_ne.2 (by omega)
  have HX0 : Hid (OW w [bytO 5 (none, 0, []), bytO 5 (none, 0, []), bytO 5 (none, 0, [])] w) := Lib.hid ((((OW.nil w).nilB 5).nilB 5).nilB 5)
  have r0 : ((R : Int) == 0) = false := beq_eq_false_iff_ne.2 (by omega)
  have r1 : ¬ R = 0 := by omega
  go_enter Tryd.func60, Tryd.ntmps60
  go_wp2_with fail
  go_loopw [5, 6, 7, 8, 11] (fun bv pv lv iv _ wr => ∃ (k bl pl kl : Nat) (Ab : Option Addr) (cb : Nat) (Ap : Option Addr) (cp : Nat) (Al : Option Addr) (cl : Nat), k ≤ n ∧ bl ≤ 5200 * k ∧ pl ≤ 4 * k ∧ kl ≤ 1048 ∧ iv = .int .i64 k ∧ bv = .slice Ab bl cb ∧ pv = .slice Ap pl cp ∧ lv = .slice Al kl cl ∧ Hid ((runB R (L.take k)).body.length = bl) ∧ Hid (((runB R (L.take k)).places.flatMap four4).length = pl) ∧ Hid ((runB R (L.take k)).key.length = kl) ∧ Hid (OW w [bytO 5 (Ab, cb, (runB R (L.take k)).body), bytO 5 (Ap, cp, (runB R (L.take k)).places.flatMap four4), bytO 5 (Al, cl, (runB R (L.take k)).key)] wr)) (fun _ _ _ iv _ _ => n - (intOf iv).toNat)
  case atStart => exact ⟨0, 0, 0, 0, none, 0, none, 0, none, 0, Nat.zero_le _, Nat.zero_le _, Nat.zero_le _, Nat.zero_le _, rfl, rfl, rfl, rfl, Lib.hid rfl, Lib.hid rfl, Lib.hid rfl, HX0⟩
  case round =>
    clear HX0
    obtain ⟨k, bl, pl, kl, Ab, cb, Ap, cp, Al, cl, hk, hbl, hpl, hkl, rfl, rfl, rfl, rfl, HB, HP, HK, HX⟩ := hrel
    obtain ⟨s, hs⟩ : ∃ z, z = runB R (L.take k) := ⟨_, rfl⟩
    rw [← hs] at HB HP HK HX
    have HN : Hid (s.n = k) := Lib.hid (by rw [hs, runB_n, List.length_take]; have := HLE.out; omega)
    have HS := Lib.hid hs
    clear hs
    by_cases hlt : k < n
    case pos =>
      have hdk : decide ((k : Int) < (n : Int)) = true := decide_eq_true (by omega)
      obtain ⟨b, o, Ar, ec, B, d, D, q, e, rfl, hbl2, hek, hrg, hen⟩ := (HES.out w (Below.refl _ _)).at_ hlt
      have HRG : Hid (∀ z, Below w.heap.size w z → z.rangeAt b (o + k * 7) [.slice Ar e.row.length ec, .int .i64 e.fam, .slice B e.qual.length d, .int .i64 e.ts, .int .i64 e.seq, .int .i64 e.kind, .slice D e.val.length q]) := Lib.hid fun z hz j v hj => (hz.cell (p := ⟨b, _, none⟩) hbl2).trans (hrg j v hj)
      have HVC : Hid (∀ z, Below w.heap.size w z → z.cell? ⟨b, o + k * 7 + 6, none⟩ = some (.slice D e.val.length q)) := Lib.hid fun z hz => (HRG.out z hz) 6 _ rfl
      have HEN : Hid (∀ z, Below w.heap.size w z → En z Ar e.row.length ec B e.qual.length d D e.val.length q e) := Lib.hid fun z hz => hen.later hz
      have hck := HOK.out e (List.mem_of_getElem? hek)
      have HKE0 : Hid (KeyE e = (keyE e, 0)) := Lib.hid (by unfold KeyE; rw [if_pos hck])
      obtain ⟨kb, hkb⟩ : ∃ z, z = keyE e := ⟨_, rfl⟩
      obtain ⟨kn, hkn⟩ : ∃ z, z = kb.length := ⟨_, rfl⟩
      have hknb : kn ≤ 1048 := by rw [hkn, hkb]; exact keyE_len (ok_of hck)
      have hvb : e.val.length ≤ 4096 := (ok_of hck).val.1
      obtain ⟨al, hal⟩ : ∃ z, z = alikeB R s kb := ⟨_, rfl⟩
      obtain ⟨sh, hsh⟩ : ∃ z, z = shareN s.key kb := ⟨_, rfl⟩
      have halk : al < kn := by have h9 := HAA.out k e hek; rw [hal, hkn, hkb, HS.out]; exact h9
      have HKB := Lib.hid hkb.symm
      have HKE : Hid (KeyE e = (kb, 0)) := Lib.hid (by rw [hkb]; exact HKE0.out)
      have HKN := Lib.hid hkn.symm
      have HAL := Lib.hid hal
      have HSH := Lib.hid hsh.symm
      have HTK : Hid (runB R (L.take (k + 1)) = stepB R s kb e.val) := Lib.hid (by rw [runB_take R L hek, ← HS.out, hkb])
      have i1 : (0 : Int) ≤ (k : Int) := by omega
      have i2 : (k : Int) < (n : Int) := by omega
      clear hek hrg hen hck hkb hkn hal hsh
      go_upto_if 35 with (first
        | (refine wpList_load_at rfl 37 (.tmp 24) rfl rfl (HRG.out _ HX.out.up) ent_row5 ?_)
        | (go_at_call 56; go_must (refine (rKey_any e Ar _ ec B _ d D _ q _ (HEN.out _ HX.out.up)).mono ?_); rw [HKE.out]; rintro r y1 hp; obtain ⟨Ak, ck, rfl, _, ho, hb⟩ := hp.at_ HKN.out rfl; have HY := Lib.hid (HX.out.addF9 (OW.byt1 hb ho)); clear hp ho hb HX)
        | (go_at_call 57; go_must (refine (rshared_any s.key kb Al Ak kl cl kn ck _ (by omega) (HY.out.sl (i := 3) rfl HK.out).rb (HY.out.sl (i := 0) rfl HKN.out).rb).mono ?_); rw [HSH.out]; rintro r y2 ⟨rfl, hb⟩; have HZ := Lib.hid (HY.out.later hb); clear hb HY))
      go_cut [6, 11] (fun pv nv wx => ∃ (pl2 : Nat) (Ap2 : Option Addr) (cp2 : Nat), pl2 ≤ 4 * (k + 1) ∧ pv = .slice Ap2 pl2 cp2 ∧ nv = .int .i64 (al : Int) ∧ Hid (((placesB R s).flatMap four4).length = pl2) ∧ Hid (OW w [bytO 5 (Ak, ck, kb), bytO 5 (Ab, cb, s.body), bytO 5 (Ap2, cp2, (placesB R s).flatMap four4), bytO 5 (Al, cl, s.key)] wx))
      case first =>
        by_cases hf : k % R = 0
        · have e1 : ((k : Int).tmod (R : Int)) = 0 := by rw [← Int.ofNat_tmod, hf]; rfl
          have e2 : ((k : Int) % (R : Int)) = 0 := by rw [← Int.natCast_emod, hf]; rfl
          have HA0 : Hid (al = 0) := Lib.hid (by rw [HAL.out]; unfold alikeB; rw [HN.out, if_pos hf])
          have HP2 : Hid ((placesB R s).flatMap four4 = s.places.flatMap four4 ++ four4 bl) := Lib.hid (by unfold placesB; rw [HN.out, if_pos hf, HB.out, List.flatMap_append]; simp)
          clear hf
          go_wp2_with (first
            | (go_at_call 88; go_must (refine (rfour_any bl _ (by omega)).mono ?_); rintro r y3 hp; obtain ⟨A4, c4, rfl, _, ho, hb⟩ := hp.at_ (n := 4) rfl; have HF := Lib.hid (HZ.out.addF9 (OW.byt1 hb ho)); clear hp ho hb HZ)
            | (at_builtin; go_must (refine wl_appB rfl (.tmp 36) (.tmp 39) rfl Tryd.u8s' HF.out 3 rfl HP.out rfl _ _ 4 _ (four4 bl) rfl (HF.out.sl (i := 0) rfl rfl).rb (by omega) ?_); intro A5 c5 y4 hz; have HG : Hid (OW w [bytO 5 (A4, c4, four4 bl), bytO 5 (Ak, ck, kb), bytO 5 (Ab, cb, s.body), bytO 5 (A5, c5, s.places.flatMap four4 ++ four4 bl), bytO 5 (Al, cl, s.key)] y4) := Lib.hid hz; clear hz HF))
          go_meet
          refine ⟨pl + 4, A5, c5, by omega, rfl, by rw [HA0.out]; rfl, Lib.hid (by rw [HP2.out, List.length_append, HP.out]; rfl), Lib.hid ?_⟩
          rw [HP2.out]
          exact HG.out.sub ((List.Sublist.refl _).cons _)
        · have e1 : ¬ ((k : Int).tmod (R : Int)) = 0 := by rw [← Int.ofNat_tmod]; omega
          have e3 : (((k : Int).tmod (R : Int)) == 0) = false := beq_eq_false_iff_ne.2 e1
          have e2 : ¬ ((k : Int) % (R : Int)) = 0 := by rw [← Int.natCast_emod]; omega
          have e4 : (((k : Int) % (R : Int)) == 0) = false := beq_eq_false_iff_ne.2 e2
          have HA0 : Hid (al = sh) := Lib.hid (by rw [HAL.out, ← HSH.out]; unfold alikeB; rw [HN.out, if_neg hf])
          have HP2 : Hid (placesB R s = s.places) := Lib.hid (by unfold placesB; rw [HN.out, if_neg hf])
          clear hf
          go_wp2_with fail
          go_meet
          refine ⟨pl, Ap, cp, by omega, rfl, by rw [HA0.out], Lib.hid (by rw [HP2.out]; exact HP.out), Lib.hid ?_⟩
          rw [HP2.out]
          exact HZ.out
      clear HZ
      obtain ⟨pl2, Ap2, cp2, hpl2, rfl, rfl, HP2, HX⟩ := hcut
      obtain ⟨w4, rfl⟩ : ∃ z : World, z = wc := ⟨_, rfl⟩
      obtain ⟨U, hU⟩ : ∃ z, z = uintB al := ⟨_, rfl⟩
      obtain ⟨un, hun⟩ : ∃ z, z = U.length := ⟨_, rfl⟩
      have hun2 : un ≤ 10 := by rw [hun, hU]; exact uintB_le10 (by omega)
      obtain ⟨kd, hkd⟩ : ∃ z, z = kb.drop al := ⟨_, rfl⟩
      have hkdl : kd.length = kn - al := by rw [hkd, List.length_drop, HKN.out]
      obtain ⟨V, hV⟩ : ∃ z, z = uintB kd.length ++ kd := ⟨_, rfl⟩
      obtain ⟨vn, hvn⟩ : ∃ z, z = V.length := ⟨_, rfl⟩
      have hvn2 : vn ≤ 1058 := by rw [hvn, hV, List.length_append]; have := uintB_le10 (n := kd.length) (by omega); omega
      obtain ⟨W, hW⟩ : ∃ z, z = uintB e.val.length ++ e.val := ⟨_, rfl⟩
      obtain ⟨wn, hwn⟩ : ∃ z, z = W.length := ⟨_, rfl⟩
      have hwn2 : wn ≤ 4106 := by rw [hwn, hW, List.length_append]; have := uintB_le10 (n := e.val.length) (by omega); omega
      have HU := Lib.hid hU.symm
      have HUN := Lib.hid hun.symm
      have HKD := Lib.hid hkd
      have HV := Lib.hid hV.symm
      have HVN := Lib.hid hvn.symm
      have HW := Lib.hid hW.symm
      have HWN := Lib.hid hwn.symm
      have HVB : Hid (e.val.length ≤ 140737488355318) := Lib.hid (by omega)
      obtain ⟨vl, hvl⟩ : ∃ z, z = e.val.length := ⟨_, rfl⟩
      have HEV : Hid (∀ z, Below w.heap.size w z → RB z z.heap.size D vl e.val) := Lib.hid fun z hz => by rw [hvl]; exact (HEN.out z hz).val.rb
      have HVC2 : Hid (∀ z, Below w.heap.size w z → z.cell? ⟨b, o + k * 7 + 6, none⟩ = some (.slice D vl q)) := Lib.hid fun z hz => by rw [hvl]; exact HVC.out z hz
      have HSK : Hid (Sl w4 Ak kn ck kb) := Lib.hid (HX.out.sl (i := 0) rfl HKN.out)
      have hkc := HSK.out.cap
      have hkp : 0 < kn := by have := keyE_pos e; rw [HKB.out, HKN.out] at this; exact this
      obtain ⟨gk, cpk, hv, _⟩ := own_form (HX.out.row (i := 0) rfl) (by show 0 < kb.length; have := HKN.out; omega)
      injection hv with hv _ hcp
      subst hv
      subst hcp
      have HKDL := Lib.hid hkdl
      have HSD : Hid (∀ z, Sl z (some ⟨gk, 0, none⟩) kn ck kb → Sl z (some ⟨gk, al, none⟩) (kn - al) (ck - al) kd) := Lib.hid fun z h => by
        have h1 := h.drop (k := al) (by omega) (by omega)
        rw [← HKD.out, Option.map_some, show (⟨gk, 0, none⟩ : Addr).add al = ⟨gk, al, none⟩ from by simp [Addr.add]; omega] at h1
        exact h1
      have hvlb : vl ≤ 4096 := by omega
      have j1 : (0 : Int) ≤ (al : Int) := by omega
      have j2 : (al : Int) ≤ (kn : Int) := by omega
      have j3 : (kn : Int) ≤ (ck : Int) := by omega
      have HSZ : Hid (un + vn + wn ≤ 5200) := Lib.hid (by omega)
      have hblb : bl ≤ 2600000000 := by omega
      clear hU hun hkd hkdl hV hvn hW hwn hvl HVC hvb
      have tk1 : True := trivial
      have tk2 : True := trivial
      have tk3 : True := trivial
      have tk4 : True := trivial
      go_wp2_with (first
        | (go_at_call 58; go_must (refine (rUint_any al _ (by omega)).mono ?_); rw [HU.out]; rintro r z1 hp; obtain ⟨A1, c1, rfl, _, ho, hb⟩ := hp.at_ (n := un) HUN.out; have HX1 := Lib.hid (HX.out.addF9 (OW.byt1 hb ho)); clear hp ho hb HX)
        | (at_builtin; have _t := tk1; go_must (refine wl_appB rfl (.tmp 41) (.tmp 44) rfl Tryd.u8s' HX1.out 2 rfl HB.out rfl _ _ un _ U rfl (HX1.out.sl (i := 0) rfl HUN.out).rb (by omega) ?_); intro A2 c2 z2 hz; have HX2 := Lib.hid (hz.erase 0); clear hz HX1 tk1)
        | (go_at_call 59; have _t := tk2; go_must (refine (rBytes_any kd _ (kn - al) _ _ (by omega) (HSD.out _ (HX2.out.sl (i := 0) rfl HKN.out)).rb).mono ?_); rw [HV.out]; rintro r z3 hp; obtain ⟨A3, c3, rfl, _, ho, hb⟩ := hp.at_ (n := vn) HVN.out; have HX3 := Lib.hid (HX2.out.addF9 (OW.byt1 hb ho)); clear hp ho hb HX2 tk2)
        | (at_builtin; have _t := tk3; go_must (refine wl_appB rfl (.tmp 46) (.tmp 50) rfl Tryd.u8s' HX3.out 2 rfl (show (s.body ++ U).length = bl + un from by rw [List.length_append, HB.out, HUN.out]) rfl _ _ vn _ V rfl (HX3.out.sl (i := 0) rfl HVN.out).rb (by omega) ?_); intro A4 c4 z4 hz; have HX4 := Lib.hid (hz.erase 0); clear hz HX3 tk3)
        | (refine wpList_load_cell rfl 24 (.tmp 56) rfl rfl (HVC2.out _ HX4.out.up) (fun w => Tryd.isAgg24 w) ?_)
        | (go_at_call 59; go_must (refine (rBytes_any e.val _ vl _ _ (by omega) (HEV.out _ HX4.out.up)).mono ?_); rw [HW.out]; rintro r z5 hp; obtain ⟨A5, c5, rfl, _, ho, hb⟩ := hp.at_ (n := wn) HWN.out; have HX5 := Lib.hid (HX4.out.addF9 (OW.byt1 hb ho)); clear hp ho hb HX4)
        | (at_builtin; go_must (refine wl_appB rfl (.tmp 52) (.tmp 58) rfl Tryd.u8s' HX5.out 2 rfl (show (s.body ++ U ++ V).length = bl + un + vn from by rw [List.length_append, List.length_append, HB.out, HUN.out, HVN.out]) rfl _ _ wn _ W rfl (HX5.out.sl (i := 0) rfl HWN.out).rb (by omega) ?_); intro A6 c6 z6 hz; have HX6 : Hid (OW w [bytO 5 (some ⟨gk, 0, none⟩, ck, kb), bytO 5 (A6, c6, s.body ++ U ++ V ++ W), bytO 5 (Ap2, cp2, (placesB R s).flatMap four4), bytO 5 (Al, cl, s.key)] z6) := Lib.hid (hz.erase 0); clear hz HX5))
      go_roundw
      case rel =>
        have hb5 := HSZ.out
        have e1 : s.body ++ U ++ V ++ W = s.body ++ rowK (alikeB R s kb) kb e.val := by
          rw [← HU.out, ← HV.out, ← HW.out, HKD.out, ← HAL.out]
          unfold rowK
          simp [List.append_assoc]
        refine ⟨k + 1, bl + un + vn + wn, pl2, kn, A6, c6, Ap2, cp2, some ⟨gk, 0, none⟩, ck, by omega, by omega, by omega, hknb, by go_num, rfl, rfl, rfl, Lib.hid ?_, Lib.hid ?_, Lib.hid ?_, Lib.hid ?_⟩
        · rw [HTK.out]; show (s.body ++ _).length = _
          rw [← e1]; simp only [List.length_append]; rw [HB.out, HUN.out, HVN.out, HWN.out]
        · rw [HTK.out]; exact HP2.out
        · rw [HTK.out]; exact HKN.out
        · rw [HTK.out]
          have h := HX6.out
          rw [e1] at h
          exact ((h.front (i := 2) rfl).front (i := 2) rfl).sub (.cons_cons _ (.cons_cons _ (.cons_cons _ (.cons _ (List.Sublist.refl _)))))
      case measure => simp [intOf]; omega
    have hdk : decide ((k : Int) < (n : Int)) = false := decide_eq_false (by omega)
    have hkn : k = n := by omega
    have HLT : Hid (L.take k = L) := Lib.hid (take_all (by have := HLE.out; omega))
    have HLB : Hid (layB R L = headB5 R s ++ lowB (sumL (headB5 R s))) := Lib.hid (by
      unfold layB
      rw [if_neg (by intro h; have := HLE.out; rw [h] at this; exact h0 (by simpa using this.symm)), HS.out, HLT.out]; rfl)
    obtain ⟨hd2, hhd⟩ : ∃ z, z = headB5 R s := ⟨_, rfl⟩
    have HHD := Lib.hid hhd.symm
    have HE8 : Hid (s.body ++ s.places.flatMap four4 ++ four4 k ++ [UInt8.ofNat R] = hd2) := Lib.hid (by rw [hhd, ← HN.out]; rfl)
    have HL7 : Hid ((s.body ++ s.places.flatMap four4 ++ four4 k).length = bl + pl + 4) := Lib.hid (by simp only [List.length_append]; rw [HB.out, HP.out]; rfl)
    have HLD : Hid (hd2.length = bl + pl + 4 + 1) := Lib.hid (by rw [← HE8.out, List.length_append, HL7.out]; rfl)
    have HU8 : Hid ([Value.int .u8 (R : Int)] = u8s [UInt8.ofNat R]) := Lib.hid (by
      show _ = [u8v _]
      unfold u8v
      rw [UInt8.toNat_ofNat', Nat.mod_eq_of_lt (by omega)])
    subst hkn
    clear hhd hlt
    have tk1 : True := trivial
    have tk2 : True := trivial
    have tk3 : True := trivial
    have hblb : bl ≤ 2600000000 := by omega
    have hplb : pl ≤ 2000000 := by omega
    go_wp2_with (first
      | (at_builtin; have _t := tk1; go_must (refine wl_appB rfl (.tmp 61) (.tmp 62) rfl Tryd.u8s' HX.out 0 rfl HB.out rfl _ _ pl _ (s.places.flatMap four4) rfl (HX.out.sl (i := 1) rfl HP.out).rb (by omega) ?_); intro A1 c1 z1 hz; have HX1 := Lib.hid hz; clear hz HX tk1)
      | (go_at_call 88; go_must (refine (rfour_any k _ (by omega)).mono ?_); rintro r y3 hp; obtain ⟨A4, c4, rfl, _, ho, hb⟩ := hp.at_ (n := 4) rfl; have HX2 := Lib.hid (HX1.out.addF9 (OW.byt1 hb ho)); clear hp ho hb HX1)
      | (at_builtin; have _t := tk2; go_must (refine wl_appB rfl (.tmp 64) (.tmp 67) rfl Tryd.u8s' HX2.out 1 rfl (show (s.body ++ s.places.flatMap four4).length = bl + pl from by rw [List.length_append, HB.out, HP.out]) rfl _ _ 4 _ (four4 k) rfl (HX2.out.sl (i := 0) rfl rfl).rb (by omega) ?_); intro A5 c5 z5 hz; have HX3 := Lib.hid (hz.erase 0); clear hz HX2 tk2)
      | (at_builtin; have _t := tk3; go_must (refine wl_appB rfl (.tmp 69) (.tmp 72) rfl Tryd.u8s' (HX3.out.al (.cells #[.int .u8 (R : Int)] 5)) 0 rfl HL7.out rfl _ (some ⟨z5.heap.size, 0, none⟩) 1 1 [UInt8.ofNat R] rfl (by exact reads_lit z5 _ [UInt8.ofNat R] _ _ HU8.out) (by omega) ?_); intro A6 c6 z6 hz; rw [HE8.out] at hz; have HX4 := Lib.hid (hz.left (os := [_]) (ps := [_, _])); clear hz HX3 tk3)
      | (go_at_call 89; go_must (refine (sealed_any hd2 _ (bl + pl + 4 + 1) _ _ (HX4.out.sl (i := 0) rfl HLD.out)).mono ?_); rintro r y7 hp; obtain ⟨A7, c7, rfl, _, ho, hb⟩ := hp.at_ (n := 4) rfl; have HX5 := Lib.hid (HX4.out.addF9 (OW.byt1 hb ho)); clear hp ho hb HX4)
      | (at_builtin; go_must (refine wl_appB rfl (.tmp 74) (.tmp 76) rfl Tryd.u8s' HX5.out 1 rfl HLD.out rfl _ _ 4 _ (lowB (sumL hd2)) rfl (HX5.out.sl (i := 0) rfl rfl).rb (by omega) ?_); intro A8 c8 z8 hz; have HX6 : Hid (OW w [bytO 5 (A8, c8, hd2 ++ lowB (sumL hd2))] z8) := Lib.hid (hz.erase 0); clear hz HX5))
    go_ret
    rw [HLB.out, HHD.out]
    exact HX6.out.bytes1 rfl (n := bl + pl + 4 + 1 + 4) (by rw [List.length_append, HLD.out]; rfl) rfl
end Go.Proofs.YtmigjipfomfacaaDoor

/-
  The document's Begin and Build, walked.
-/
namespace Go.Proofs.YtmigjipfomfacaaDoor
open Go.RowKit

def beginI (R : Int) : Int := if R < 1 ∨ 16 < R then 1 else 0
theorem rbegin_any (R : Int) (w : World) : Calls Tryd.prog 31 #[.int .i64 R] w fun e w' => e = .returned (.int .i64 (beginI R)) ∧ w = w' := by
  by_cases h1 : R < 1
  · have hd : decide (R < 1) = true := decide_eq_true h1
    have HP : Hid (beginI R = 1) := Lib.hid (if_pos (.inl h1))
    go_enter Tryd.func31, Tryd.ntmps31
    go_wp2_with fail
    go_ret
    exact ⟨by rw [HP.out]; rfl, rfl⟩
  have hd : decide (R < 1) = false := decide_eq_false h1
  by_cases h2 : 16 < R
  · have hd2 : decide (R > 16) = true := decide_eq_true h2
    have HP : Hid (beginI R = 1) := Lib.hid (if_pos (.inr h2))
    go_enter Tryd.func31, Tryd.ntmps31
    go_wp2_with fail
    go_ret
    exact ⟨by rw [HP.out]; rfl, rfl⟩
  have hd2 : decide (R > 16) = false := decide_eq_false h2
  have HP : Hid (beginI R = 0) := Lib.hid (if_neg (by omega))
  go_enter Tryd.func31, Tryd.ntmps31
  go_wp2_with fail
  go_ret
  exact ⟨by rw [HP.out]; rfl, rfl⟩
theorem rCheckE_any (e : Ent) (A : Option Addr) (n c : Nat) (B : Option Addr) (m d : Nat) (D : Option Addr) (v q : Nat) (w : World) (h : En w A n c B m d D v q e) : Calls Tryd.prog 42 #[entV A n c B m d D v q e] w fun r y => r = .returned (.int .i64 (checkE e)) ∧ Below w.heap.size w y := by
  have h1 := h.row.len
  have h2 := h.qual.len
  have h3 := h.val.len
  unfold checkE
  rw [h1, h2, h3]
  exact rCheck_any A n c e.fam B m d e.ts e.seq e.kind D v q w
/-- A step of buildK. -/
theorem buildK_at {R : Nat} {es : List Ent} {k : Nat} {e : Ent} (hk : es[k]? = some e) (h0 : (buildK R [] (es.take k)).1 = 0) : (addC R (es.take k) e = 0 → (buildK R [] (es.take (k + 1))).1 = 0) ∧ (∀ er, addC R (es.take k) e = er → er ≠ 0 → buildE5 (R : Int) es = ([], if (R : Int) < 1 ∨ 16 < (R : Int) then 1 else er)) :=
  ⟨fun h => ((addC_step hk h0).1 h).2, fun er h hne => by
    have h1 := (addC_step hk h0).2 (by rw [h]; exact hne)
    unfold buildE5
    split
    · rfl
    · rw [Int.toNat_natCast, if_neg (by rw [h1, h]; exact hne), h1, h]⟩
/-- So far as it was built each key has something of its own. -/
theorem build_alike {R : Nat} {L : List Ent} (h : (buildK R [] L).1 = 0) : ∀ k e, L[k]? = some e → alikeB R (runB R (L.take k)) (keyE e) < (keyE e).length := fun k e hk => by
  have hc := buildK_checked R L [] (fun l h => by cases h) h
  rw [List.nil_append] at hc
  have e1 : L = L.take k ++ L.drop k := (List.take_append_drop k L).symm
  have h0 : (buildK R [] (L.take k)).1 = 0 := by
    have h2 := buildK_app R (L.take k) [] (L.drop k)
    rw [← e1] at h2
    by_cases h3 : (buildK R [] (L.take k)).1 = 0
    · exact h3
    · rw [if_neg h3] at h2; rw [h2] at h; exact absurd h h3
  have hs := addC_step hk h0
  have ha : addC R (L.take k) e = 0 := by
    by_cases h3 : addC R (L.take k) e = 0
    · exact h3
    · have := hs.2 h3; rw [h] at this; exact absurd this.symm h3
  refine alike_lt (fun l hl => hc l (List.mem_of_mem_take hl)) (hc e (List.mem_of_getElem? hk)) ?_
  intro h4
  unfold addC at ha
  rw [if_neg (by rw [hc e (List.mem_of_getElem? hk)]; decide), if_pos h4] at ha
  cases ha
theorem size_step (R : Nat) (s : BSt) (k v : List UInt8) : sizeS (stepB R s k v) = sizeS s + (if s.n % R = 0 then 4 else 0) + (rowK (alikeB R s k) k v).length := by
  have h1 : (stepB R s k v).body = s.body ++ rowK (alikeB R s k) k v := rfl
  have h2 : (stepB R s k v).places = placesB R s := rfl
  unfold sizeS
  rw [h1, h2, List.length_append]
  unfold placesB
  split
  · rw [List.length_append]; show _ + _ + 4 * (_ + 1) + 9 = _; omega
  · omega

set_option maxRecDepth 100000 in
set_option maxHeartbeats 4000000 in
theorem rbuild_any (R : Int) (es : List Ent) (A : Option Addr) (n c : Nat) (w : World) (hes : Ens w A n es) (hn : n ≤ 500000) :
    Calls Tryd.prog 21 #[.int .i64 R, .slice A n c] w (BytesPost2 5 (buildE5 R es).1 (buildE5 R es).2 w) := by
  have HLE := Lib.hid hes.len
  have HES : Hid (∀ z, Below w.heap.size w z → Ens z A n es) := Lib.hid fun z hz => hes.later hz
  clear hes
  by_cases hR : R < 1 ∨ 16 < R
  case pos =>
    have HP : Hid (buildE5 R es = ([], 1)) := Lib.hid (by unfold buildE5; rw [if_pos hR])
    have HB : Hid (beginI R = 1) := Lib.hid (if_pos hR)
    clear hR
    go_enter Tryd.func21, Tryd.ntmps21
    go_wp2_with (go_at_call 31; go_must (refine (rbegin_any R _).mono ?_); rw [HB.out]; rintro r z1 ⟨rfl, rfl⟩)
    go_ret2
    rw [HP.out]
    exact bytes_post2 (n := 0) (own_nil _ _ _ _) (Below.refl _ _)
  obtain ⟨r, rfl⟩ : ∃ r : Nat, R = (r : Int) := ⟨R.toNat, by omega⟩
  have hr1 : 1 ≤ r := by omega
  have hr2 : r ≤ 16 := by omega
  have HB : Hid (beginI (r : Int) = 0) := Lib.hid (if_neg hR)
  have HRR := Lib.hid hR
  have HX0 : Hid (OW w [bytO 5 (none, 0, [])] w) := Lib.hid ((OW.nil w).nilB 5)
  have r0 : ((r : Int) == 0) = false := beq_eq_false_iff_ne.2 (by omega)
  have r1 : ¬ r = 0 := by omega
  clear hR
  go_enter Tryd.func21, Tryd.ntmps21
  go_wp2_with (go_at_call 31; go_must (refine (rbegin_any (r : Int) _).mono ?_); rw [HB.out]; rintro e z1 ⟨rfl, rfl⟩)
  go_loopw [6, 7, 8, 9] (fun _ sv lv iv wr => ∃ (k sz kl : Nat) (Al : Option Addr) (cl : Nat), k ≤ n ∧ sz ≤ 131072 ∧ kl ≤ 1048 ∧ iv = .int .i64 k ∧ sv = .int .i64 sz ∧ lv = .slice Al kl cl ∧ Hid ((buildK r [] (es.take k)).1 = 0) ∧ Hid (sz = sizeS (runB r (es.take k))) ∧ Hid ((runB r (es.take k)).key.length = kl) ∧ Hid (OW w [bytO 5 (Al, cl, (runB r (es.take k)).key)] wr)) (fun _ _ _ iv _ => n - (intOf iv).toNat)
  case atStart => exact ⟨0, 9, 0, none, 0, Nat.zero_le _, by omega, Nat.zero_le _, rfl, rfl, rfl, Lib.hid rfl, Lib.hid rfl, Lib.hid rfl, HX0⟩
  case round =>
    clear HX0
    obtain ⟨k, sz, kl, Al, cl, hk, hsz, hkl, rfl, rfl, rfl, HBK, HSZ, HK, HX⟩ := hrel
    obtain ⟨s, hs⟩ : ∃ z, z = runB r (es.take k) := ⟨_, rfl⟩
    rw [← hs] at HSZ HK HX
    have HN : Hid (s.n = k) := Lib.hid (by rw [hs, runB_n, List.length_take]; have := HLE.out; omega)
    have HS := Lib.hid hs
    clear hs
    by_cases hlt : k < n
    case neg =>
      have hdk : decide ((k : Int) < (n : Int)) = false := decide_eq_false (by omega)
      have hkn : k = n := by omega
      have HT : Hid (es.take k = es) := Lib.hid (take_all (by have := HLE.out; omega))
      have HPF : Hid (buildE5 (r : Int) es = finE r es) := Lib.hid (by
        have h := HBK.out
        rw [HT.out] at h
        unfold buildE5
        rw [if_neg HRR.out, Int.toNat_natCast, if_pos h])
      subst hkn
      by_cases h0 : k = 0
      · have HPE : Hid (finE r es = ([], 54)) := Lib.hid (by unfold finE; rw [if_pos (List.eq_nil_of_length_eq_zero (by rw [HLE.out, h0]))])
        have hd0 : ((k : Int) == 0) = true := by rw [h0]; rfl
        clear h0
        go_wp2_with fail
        go_ret2
        rw [HPF.out, HPE.out]
        exact bytes_post2 (n := 0) (own_nil _ _ _ _) HX.out.up
      · have HPE : Hid (finE r es = (layB r es, 0)) := Lib.hid (by unfold finE; rw [if_neg]; intro h; have := HLE.out; rw [h] at this; exact h0 (by simpa using this.symm))
        have hd0 : ((k : Int) == 0) = false := beq_eq_false_iff_ne.2 (by omega)
        have HCC : Hid (∀ l, l ∈ es → checkE l = 0) := Lib.hid (by
          have h := HBK.out
          rw [HT.out] at h
          have := buildK_checked r es [] (fun l h => by cases h) h
          simpa using this)
        have HAA := Lib.hid (build_alike (R := r) (L := es) (by have h := HBK.out; rwa [HT.out] at h))
        clear h0
        go_wp2_with (go_at_call 60; go_must (refine (rlay_any r es A k c _ (HES.out _ HX.out.up) hn ⟨hr1, hr2⟩ HCC.out HAA.out).mono ?_); rintro e z2 hp; obtain ⟨A2, c2, rfl, ho, hb⟩ := hp; have HO2 := Lib.hid ho; have HB2 := Lib.hid (HX.out.up.trans (hb.mono HX.out.up.size)); have HX2 := Lib.hid HX.out.up.size; clear ho hb)
        go_ret2
        rw [HPF.out, HPE.out]
        exact ⟨A2, c2, rfl, own_rebase HO2.out HX2.out, HB2.out⟩
    have hdk : decide ((k : Int) < (n : Int)) = true := decide_eq_true (by omega)
    obtain ⟨b, o, Ar, ec, B, d, D, q, e, rfl, hbl2, hek, hrg, hen⟩ := (HES.out w (Below.refl _ _)).at_ hlt
    have HRG : Hid (∀ z, Below w.heap.size w z → z.rangeAt b (o + k * 7) [.slice Ar e.row.length ec, .int .i64 e.fam, .slice B e.qual.length d, .int .i64 e.ts, .int .i64 e.seq, .int .i64 e.kind, .slice D e.val.length q]) := Lib.hid fun z hz j v hj => (hz.cell (p := ⟨b, _, none⟩) hbl2).trans (hrg j v hj)
    have HEN : Hid (∀ z, Below w.heap.size w z → En z Ar e.row.length ec B e.qual.length d D e.val.length q e) := Lib.hid fun z hz => hen.later hz
    have HAT := Lib.hid (buildK_at (R := r) hek HBK.out)
    have HEK := Lib.hid hek
    have i1 : (0 : Int) ≤ (k : Int) := by omega
    have i2 : (k : Int) < (n : Int) := by omega
    obtain ⟨ce, hce⟩ : ∃ z, z = checkE e := ⟨_, rfl⟩
    have HCE := Lib.hid hce.symm
    clear hek hrg hen hce
    by_cases hc : ce = 0
    case neg =>
      have hd1 : (ce != 0) = true := bne_iff_ne.2 hc
      have HPF : Hid (buildE5 (r : Int) es = ([], ce)) := Lib.hid (by
        have h := HAT.out.2 ce (by unfold addC; rw [if_pos (by rw [HCE.out]; exact hc)]; exact HCE.out) hc
        rw [if_neg HRR.out] at h; exact h)
      clear hc
      go_wp2_with (first
        | (refine wpList_load_at rfl 37 (.tmp 26) rfl rfl (HRG.out _ HX.out.up) ent_row5 ?_)
        | (go_at_call 42; go_must (refine (rCheckE_any e Ar _ ec B _ d D _ q _ (HEN.out _ HX.out.up)).mono ?_); rw [HCE.out]; rintro r y1 ⟨rfl, hb⟩; have HB1 := Lib.hid (HX.out.up.trans (hb.mono HX.out.up.size)); clear hb))
      go_ret2
      rw [HPF.out]
      exact bytes_post2 (n := 0) (own_nil _ _ _ _) HB1.out
    have hd1 : (ce != 0) = false := by rw [hc]; rfl
    have HC0 : Hid (checkE e = 0) := Lib.hid (by rw [HCE.out]; exact hc)
    clear hc
    obtain ⟨bo, hbo⟩ : ∃ z : Bool, z = !lastOk (es.take k) e := ⟨_, rfl⟩
    have HBO := Lib.hid hbo
    clear hbo
    go_upto_region 12 with (first
      | (refine wpList_load_at rfl 37 (.tmp 26) rfl rfl (HRG.out _ HX.out.up) ent_row5 ?_)
      | (go_at_call 42; go_must (refine (rCheckE_any e Ar _ ec B _ d D _ q _ (HEN.out _ HX.out.up)).mono ?_); rw [HCE.out]; rintro r y1 ⟨rfl, hb⟩; have HX1 := Lib.hid (HX.out.later hb); clear hb HX))
    go_cut [46] (fun bv wx => bv = .bool bo ∧ Hid (OW w [bytO 5 (Al, cl, s.key)] wx))
    case first =>
      by_cases h0 : k = 0
      · have hb0 : bo = false := by rw [HBO.out, h0]; rfl
        have hd2 : decide ((k : Int) > 0) = false := decide_eq_false (by omega)
        have hd3 : ¬ (0 : Int) < (k : Int) := by omega
        have hd5 : ¬ 0 < k := by omega
        clear h0
        refine lt_start [] (by kernel_rfl) ?_
        intro xd hd
        refine ⟨fun z => OW w [bytO 5 (Al, cl, s.key)] z, ?_⟩
        have HS := Lib.hid (HX1.out.later hd)
        refine lt_pure 0 rfl (by kernel_rfl) (by kernel_rfl) (by kernel_rfl) (by kernel_rfl) (fun _ _ _ h => h) (v := ?_) (yi_run rfl (fun w => ?_)) (fun _ => HS.out) ?_
        rotate_left
        · first | (go_simp; done) | (go_simp; with_reducible rfl)
        simp only [Act.put, List.setIfInBounds_toArray, List.set_cons_zero, List.set_cons_succ]
        refine lt_pure 1 rfl (by kernel_rfl) (by kernel_rfl) (by kernel_rfl) (by kernel_rfl) (fun _ _ _ h => h) (v := ?_) (yi_run rfl (fun w => ?_)) (fun _ => HS.out) ?_
        rotate_left
        · first | (go_simp; done) | (go_simp; with_reducible rfl)
        simp only [Act.put, List.setIfInBounds_toArray, List.set_cons_zero, List.set_cons_succ]
        refine lt_pure 2 rfl (by kernel_rfl) (by kernel_rfl) (by kernel_rfl) (by kernel_rfl) (fun _ _ _ h => h) (v := ?_) (yi_run rfl (fun w => ?_)) (fun _ => HS.out) ?_
        rotate_left
        · first | (go_simp; done) | (go_simp; with_reducible rfl)
        simp only [Act.put, List.setIfInBounds_toArray, List.set_cons_zero, List.set_cons_succ]
        refine lt_skip 3 rfl (by kernel_rfl) (by kernel_rfl) (by kernel_rfl) (by kernel_rfl) (fun _ _ _ h => h) rfl (fun _ => HS.out) ?_
        simp only [Act.put, List.setIfInBounds_toArray, List.set_cons_zero, List.set_cons_succ]
        refine lt_skip 4 rfl (by kernel_rfl) (by kernel_rfl) (by kernel_rfl) (by kernel_rfl) (fun _ _ _ h => h) rfl (fun _ => HS.out) ?_
        simp only [Act.put, List.setIfInBounds_toArray, List.set_cons_zero, List.set_cons_succ]
        refine lt_skip 5 rfl (by kernel_rfl) (by kernel_rfl) (by kernel_rfl) (by kernel_rfl) (fun _ _ _ h => h) rfl (fun _ => HS.out) ?_
        simp only [Act.put, List.setIfInBounds_toArray, List.set_cons_zero, List.set_cons_succ]
        refine lt_skip 6 rfl (by kernel_rfl) (by kernel_rfl) (by kernel_rfl) (by kernel_rfl) (fun _ _ _ h => h) rfl (fun _ => HS.out) ?_
        simp only [Act.put, List.setIfInBounds_toArray, List.set_cons_zero, List.set_cons_succ]
        refine lt_skip 7 rfl (by kernel_rfl) (by kernel_rfl) (by kernel_rfl) (by kernel_rfl) (fun _ _ _ h => h) rfl (fun _ => HS.out) ?_
        simp only [Act.put, List.setIfInBounds_toArray, List.set_cons_zero, List.set_cons_succ]
        refine lt_skip 8 rfl (by kernel_rfl) (by kernel_rfl) (by kernel_rfl) (by kernel_rfl) (fun _ _ _ h => h) rfl (fun _ => HS.out) ?_
        simp only [Act.put, List.setIfInBounds_toArray, List.set_cons_zero, List.set_cons_succ]
        refine lt_skip 9 rfl (by kernel_rfl) (by kernel_rfl) (by kernel_rfl) (by kernel_rfl) (fun _ _ _ h => h) rfl (fun _ => HS.out) ?_
        simp only [Act.put, List.setIfInBounds_toArray, List.set_cons_zero, List.set_cons_succ]
        refine lt_skip 10 rfl (by kernel_rfl) (by kernel_rfl) (by kernel_rfl) (by kernel_rfl) (fun _ _ _ h => h) rfl (fun _ => HS.out) ?_
        simp only [Act.put, List.setIfInBounds_toArray, List.set_cons_zero, List.set_cons_succ]
        refine lt_skip 11 rfl (by kernel_rfl) (by kernel_rfl) (by kernel_rfl) (by kernel_rfl) (fun _ _ _ h => h) rfl (fun _ => HS.out) ?_
        simp only [Act.put, List.setIfInBounds_toArray, List.set_cons_zero, List.set_cons_succ]
        refine lt_skip 12 rfl (by kernel_rfl) (by kernel_rfl) (by kernel_rfl) (by kernel_rfl) (fun _ _ _ h => h) rfl (fun _ => HS.out) ?_
        simp only [Act.put, List.setIfInBounds_toArray, List.set_cons_zero, List.set_cons_succ]
        refine lt_skip 13 rfl (by kernel_rfl) (by kernel_rfl) (by kernel_rfl) (by kernel_rfl) (fun _ _ _ h => h) rfl (fun _ => HS.out) ?_
        simp only [Act.put, List.setIfInBounds_toArray, List.set_cons_zero, List.set_cons_succ]
        refine lt_pure 14 rfl (by kernel_rfl) (by kernel_rfl) (by kernel_rfl) (by kernel_rfl) (fun _ _ _ h => h) (v := ?_) (yi_run rfl (fun w => ?_)) (fun _ => HS.out) ?_
        rotate_left
        · first | (go_simp; done) | (go_simp; with_reducible rfl)
        simp only [Act.put, List.setIfInBounds_toArray, List.set_cons_zero, List.set_cons_succ]
        refine lt_done (by kernel_rfl) ?_
        have HS9 := HS
        clear HS
        have HXD := Lib.hid HS9.out
        go_wp2_with fail
        go_meet
        exact ⟨by rw [hb0], HXD⟩
      · obtain ⟨p, hp⟩ : ∃ p, k = p + 1 := ⟨k - 1, by omega⟩
        have hd2 : decide ((k : Int) > 0) = true := decide_eq_true (by omega)
        have hd3 : (0 : Int) < (k : Int) := by omega
        have hd5 : 0 < k := by omega
        obtain ⟨b2, o2, Ar2, ec2, B2, d2, D2, q2, e2, hA2, hbl3, hek2, hrg2, hen2⟩ := (HES.out w (Below.refl _ _)).at_ (show p < n by omega)
        injection hA2 with hA2; injection hA2 with hb2 ho2 _
        subst hb2 ho2
        have HRG2 : Hid (∀ z, Below w.heap.size w z → z.rangeAt b (o + p * 7) [.slice Ar2 e2.row.length ec2, .int .i64 e2.fam, .slice B2 e2.qual.length d2, .int .i64 e2.ts, .int .i64 e2.seq, .int .i64 e2.kind, .slice D2 e2.val.length q2]) := Lib.hid fun z hz j v hj => (hz.cell (p := ⟨b, _, none⟩) hbl3).trans (hrg2 j v hj)
        have HEN2 : Hid (∀ z, Below w.heap.size w z → En z Ar2 e2.row.length ec2 B2 e2.qual.length d2 D2 e2.val.length q2 e2) := Lib.hid fun z hz => hen2.later hz
        obtain ⟨cv, hcv⟩ : ∃ z, z = cmpE e2 e := ⟨_, rfl⟩
        have hb0 : bo = decide (cv ≥ 0) := by
          have hl : (es.take k).getLast? = some e2 := by rw [hp, take_snoc hek2, List.getLast?_append]; rfl
          rw [HBO.out, hcv]; unfold lastOk; rw [hl]
          by_cases h : cmpE e2 e < 0
          · simp [h, Int.not_le.2 h]
          · simp [h, Int.not_lt.1 h]
        have HCV := Lib.hid hcv.symm
        have HB0 := Lib.hid hb0
        have s1 : IntKind.i64.wrap (p : Int) = (p : Int) := i64_sum (by omega) (by omega)
        have s2 : (k : Int) - 1 = (p : Int) := by omega
        have i3 : (0 : Int) ≤ (p : Int) := by omega
        have i4 : (p : Int) < (n : Int) := by omega
        clear hp h0 hek2 hrg2 hen2 hcv hb0
        refine lt_start [] (by kernel_rfl) ?_
        intro xd hd
        refine ⟨fun z => OW w [bytO 5 (Al, cl, s.key)] z, ?_⟩
        have HS := Lib.hid (HX1.out.later hd)
        refine lt_pure 0 rfl (by kernel_rfl) (by kernel_rfl) (by kernel_rfl) (by kernel_rfl) (fun _ _ _ h => h) (v := ?_) (yi_run rfl (fun w => ?_)) (fun _ => HS.out) ?_
        rotate_left
        · first | (go_simp; done) | (go_simp; with_reducible rfl)
        simp only [Act.put, List.setIfInBounds_toArray, List.set_cons_zero, List.set_cons_succ]
        refine lt_pure 1 rfl (by kernel_rfl) (by kernel_rfl) (by kernel_rfl) (by kernel_rfl) (fun _ _ _ h => h) (v := ?_) (yi_run rfl (fun w => ?_)) (fun _ => HS.out) ?_
        rotate_left
        · first | (go_simp; done) | (go_simp; with_reducible rfl)
        simp only [Act.put, List.setIfInBounds_toArray, List.set_cons_zero, List.set_cons_succ]
        refine lt_pure 2 rfl (by kernel_rfl) (by kernel_rfl) (by kernel_rfl) (by kernel_rfl) (fun _ _ _ h => h) (v := ?_) (yi_run rfl (fun w => ?_)) (fun _ => HS.out) ?_
        rotate_left
        · first | (go_simp; done) | (go_simp; with_reducible rfl)
        simp only [Act.put, List.setIfInBounds_toArray, List.set_cons_zero, List.set_cons_succ]
        refine lt_pure 3 rfl (by kernel_rfl) (by kernel_rfl) (by kernel_rfl) (by kernel_rfl) (fun _ _ _ h => h) (v := ?_) (yi_run rfl (fun w => ?_)) (fun _ => HS.out) ?_
        rotate_left
        · first | (go_simp; done) | (go_simp; with_reducible rfl)
        simp only [Act.put, List.setIfInBounds_toArray, List.set_cons_zero, List.set_cons_succ]
        refine lt_pure 4 rfl (by kernel_rfl) (by kernel_rfl) (by kernel_rfl) (by kernel_rfl) (fun _ _ _ h => h) (v := ?_) (yi_run rfl (fun w => ?_)) (fun _ => HS.out) ?_
        rotate_left
        · first | (go_simp; done) | (go_simp; with_reducible rfl)
        simp only [Act.put, List.setIfInBounds_toArray, List.set_cons_zero, List.set_cons_succ]
        refine lt_pure 5 rfl (by kernel_rfl) (by kernel_rfl) (by kernel_rfl) (by kernel_rfl) (fun _ _ _ h => h) (v := ?_) (yi_run rfl (fun w => ?_)) (fun _ => HS.out) ?_
        rotate_left
        · first | (go_simp; done) | (go_simp; with_reducible rfl)
        simp only [Act.put, List.setIfInBounds_toArray, List.set_cons_zero, List.set_cons_succ]
        refine lt_pure 6 rfl (by kernel_rfl) (by kernel_rfl) (by kernel_rfl) (by kernel_rfl) (fun _ _ _ h => h) (v := ?_) (yi_run rfl (fun w => ?_)) (fun _ => HS.out) ?_
        rotate_left
        · first | (go_simp; done) | (go_simp; with_reducible rfl)
        simp only [Act.put, List.setIfInBounds_toArray, List.set_cons_zero, List.set_cons_succ]
        refine lt_take 7 [12, 13, 14] rfl (by kernel_rfl) (by kernel_rfl) (by kernel_rfl) (by kernel_rfl) (by kernel_rfl) (fun _ _ _ h => h) (yi_rowO rfl rfl rfl (fun w hS => HRG2.out _ (OW.up hS)) ent_row5) HS.out ?_
        simp only [Act.put, List.setIfInBounds_toArray, List.set_cons_zero, List.set_cons_succ]
        refine lt_pure 8 rfl (by kernel_rfl) (by kernel_rfl) (by kernel_rfl) (by kernel_rfl) (fun _ _ _ h => h) (v := ?_) (yi_run rfl (fun w => ?_)) (fun _ => HS.out) ?_
        rotate_left
        · first | (go_simp; done) | (go_simp; with_reducible rfl)
        simp only [Act.put, List.setIfInBounds_toArray, List.set_cons_zero, List.set_cons_succ]
        refine lt_pure 9 rfl (by kernel_rfl) (by kernel_rfl) (by kernel_rfl) (by kernel_rfl) (fun _ _ _ h => h) (v := ?_) (yi_run rfl (fun w => ?_)) (fun _ => HS.out) ?_
        rotate_left
        · first | (go_simp; done) | (go_simp; with_reducible rfl)
        simp only [Act.put, List.setIfInBounds_toArray, List.set_cons_zero, List.set_cons_succ]
        refine lt_pure 10 rfl (by kernel_rfl) (by kernel_rfl) (by kernel_rfl) (by kernel_rfl) (fun _ _ _ h => h) (v := ?_) (yi_run rfl (fun w => ?_)) (fun _ => HS.out) ?_
        rotate_left
        · first | (go_simp; done) | (go_simp; with_reducible rfl)
        simp only [Act.put, List.setIfInBounds_toArray, List.set_cons_zero, List.set_cons_succ]
        refine lt_take 11 [12, 13, 14] rfl (by kernel_rfl) (by kernel_rfl) (by kernel_rfl) (by kernel_rfl) (by kernel_rfl) (fun _ _ _ h => h) (yi_rowO rfl rfl rfl (fun w hS => HRG.out _ (OW.up hS)) ent_row5) HS.out ?_
        simp only [Act.put, List.setIfInBounds_toArray, List.set_cons_zero, List.set_cons_succ]
        refine lt_call 12 rfl (by kernel_rfl) rfl rfl ⟨_, Tryd.func43, by decide, by kernel_rfl⟩ [entV Ar2 e2.row.length ec2 B2 e2.qual.length d2 D2 e2.val.length q2 e2, entV Ar e.row.length ec B e.qual.length d D e.val.length q e] rfl ?_
        refine (rcompare_any e2 e Ar2 _ ec2 B2 _ d2 D2 _ q2 Ar _ ec B _ d D _ q _ (HEN2.out _ HS.out.up) (HEN.out _ HS.out.up)).mono ?_
        rw [HCV.out]
        rintro r z9 ⟨rfl, hb⟩
        replace HS := Lib.hid (HS.out.later hb)
        clear hb
        refine ⟨_, rfl, fun _ => HS.out, ?_⟩
        simp only [Act.put, List.setIfInBounds_toArray, List.set_cons_zero, List.set_cons_succ]
        refine lt_pure 13 rfl (by kernel_rfl) (by kernel_rfl) (by kernel_rfl) (by kernel_rfl) (fun _ _ _ h => h) (v := ?_) (yi_run rfl (fun w => ?_)) (fun _ => HS.out) ?_
        rotate_left
        · first | (go_simp; done) | (go_simp; with_reducible rfl)
        simp only [Act.put, List.setIfInBounds_toArray, List.set_cons_zero, List.set_cons_succ]
        refine lt_pure 14 rfl (by kernel_rfl) (by kernel_rfl) (by kernel_rfl) (by kernel_rfl) (fun _ _ _ h => h) (v := ?_) (yi_run rfl (fun w => ?_)) (fun _ => HS.out) ?_
        rotate_left
        · first | (go_simp; done) | (go_simp; with_reducible rfl)
        simp only [Act.put, List.setIfInBounds_toArray, List.set_cons_zero, List.set_cons_succ]
        refine lt_done (by kernel_rfl) ?_
        have HS9 := HS
        clear HS
        have HXD := Lib.hid HS9.out
        go_wp2_with fail
        go_meet
        exact ⟨by rw [HB0.out], HXD⟩
    clear HX1
    obtain ⟨rfl, HX⟩ := hcut
    obtain ⟨w4, rfl⟩ : ∃ z : World, z = wc := ⟨_, rfl⟩
    by_cases hlo : lastOk (es.take k) e = false
    case pos =>
      have hb1 : bo = true := by rw [HBO.out, hlo]; rfl
      have HPF : Hid (buildE5 (r : Int) es = ([], 30)) := Lib.hid (by
        have h := HAT.out.2 30 (by unfold addC; rw [if_neg (fun h => h HC0.out), if_pos hlo]) (by decide)
        rw [if_neg HRR.out] at h; exact h)
      clear HBO hlo
      subst hb1
      go_wp2_with fail
      go_ret2
      rw [HPF.out]
      exact bytes_post2 (n := 0) (own_nil _ _ _ _) HX.out.up
    have hb1 : bo = false := by rw [HBO.out]; cases h : lastOk (es.take k) e <;> simp_all
    have HLO := Lib.hid hlo
    clear HBO hlo
    subst hb1
    obtain ⟨kb, hkb⟩ : ∃ z, z = keyE e := ⟨_, rfl⟩
    obtain ⟨kn, hkn⟩ : ∃ z, z = kb.length := ⟨_, rfl⟩
    have hok := ok_of HC0.out
    have hknb : kn ≤ 1048 := by rw [hkn, hkb]; exact keyE_len hok
    have hvb : e.val.length ≤ 4096 := hok.val.1
    obtain ⟨al, hal⟩ : ∃ z, z = alikeB r s kb := ⟨_, rfl⟩
    obtain ⟨sh, hsh⟩ : ∃ z, z = shareN s.key kb := ⟨_, rfl⟩
    have HALL : Hid (∀ l, l ∈ es.take k → checkE l = 0) := Lib.hid (by
      have := buildK_checked r (es.take k) [] (fun l h => by cases h) HBK.out
      simpa using this)
    have halk : al < kn := by have h9 := alike_lt (R := r) HALL.out HC0.out HLO.out; rw [hal, hkn, hkb, HS.out]; exact h9
    have HKB := Lib.hid hkb.symm
    have HKE : Hid (KeyE e = (kb, 0)) := Lib.hid (by unfold KeyE; rw [if_pos HC0.out, hkb])
    have HKN := Lib.hid hkn.symm
    have HAL := Lib.hid hal
    have HSH := Lib.hid hsh.symm
    have HTK : Hid (runB r (es.take (k + 1)) = stepB r s kb e.val) := Lib.hid (by rw [runB_take r es HEK.out, ← HS.out, hkb])
    obtain ⟨sz2, hsz2⟩ : ∃ z, z = sz + (if s.n % r = 0 then 4 else 0) := ⟨_, rfl⟩
    have HSZ2 := Lib.hid hsz2
    have hsz2b : sz2 ≤ 131076 := by rw [hsz2]; split <;> omega
    have HV0 : Hid (∀ z, Below w.heap.size w z → z.cell? ⟨b, o + k * 7 + 6, none⟩ = some (.slice D e.val.length q)) := Lib.hid fun z hz => (HRG.out z hz) 6 _ rfl
    clear hkb hkn hal hsh hsz2 hok
    go_upto_if 61 with (first
      | (refine wpList_load_at rfl 37 (.tmp 50) rfl rfl (HRG.out _ HX.out.up) ent_row5 ?_)
      | (go_at_call 56; go_must (refine (rKey_any e Ar _ ec B _ d D _ q _ (HEN.out _ HX.out.up)).mono ?_); rw [HKE.out]; rintro r y1 hp; obtain ⟨Ak, ck, rfl, _, ho, hb⟩ := hp.at_ HKN.out rfl; have HY := Lib.hid (HX.out.addF9 (OW.byt1 hb ho)); clear hp ho hb HX)
      | (go_at_call 57; go_must (refine (rshared_any s.key kb Al Ak kl cl kn ck _ (by omega) (HY.out.sl (i := 1) rfl HK.out).rb (HY.out.sl (i := 0) rfl HKN.out).rb).mono ?_); rw [HSH.out]; rintro r y2 ⟨rfl, hb⟩; have HZ := Lib.hid (HY.out.later hb); clear hb HY))
    obtain ⟨w5, rfl⟩ : ∃ z : World, z = y2 := ⟨_, rfl⟩
    go_cut [7, 12] (fun sv nv wx => w5 = wx ∧ sv = .int .i64 (sz2 : Int) ∧ nv = .int .i64 (al : Int))
    case first =>
      by_cases hf : k % r = 0
      · have e1 : ((k : Int).tmod (r : Int)) = 0 := by rw [← Int.ofNat_tmod, hf]; rfl
        have e2 : ((k : Int) % (r : Int)) = 0 := by rw [← Int.natCast_emod, hf]; rfl
        have HA0 : Hid (al = 0) := Lib.hid (by rw [HAL.out]; unfold alikeB; rw [HN.out, if_pos hf])
        have HQ : Hid (sz2 = sz + 4) := Lib.hid (by rw [HSZ2.out, HN.out, if_pos hf])
        clear hf
        go_wp2_with fail
        go_meet
        exact ⟨rfl, by rw [HQ.out]; rfl, by rw [HA0.out]; rfl⟩
      · have e1 : ¬ ((k : Int).tmod (r : Int)) = 0 := by rw [← Int.ofNat_tmod]; omega
        have e3 : (((k : Int).tmod (r : Int)) == 0) = false := beq_eq_false_iff_ne.2 e1
        have e2 : ¬ ((k : Int) % (r : Int)) = 0 := by rw [← Int.natCast_emod]; omega
        have e4 : (((k : Int) % (r : Int)) == 0) = false := beq_eq_false_iff_ne.2 e2
        have HA0 : Hid (al = sh) := Lib.hid (by rw [HAL.out, ← HSH.out]; unfold alikeB; rw [HN.out, if_neg hf])
        have HQ : Hid (sz2 = sz) := Lib.hid (by rw [HSZ2.out, HN.out, if_neg hf]; rfl)
        clear hf
        go_wp2_with fail
        go_meet
        exact ⟨rfl, by rw [HQ.out], by rw [HA0.out]⟩
    obtain ⟨rfl, rfl, rfl⟩ := hcut
    obtain ⟨U, hU⟩ : ∃ z, z = uintB al := ⟨_, rfl⟩
    obtain ⟨un, hun⟩ : ∃ z, z = U.length := ⟨_, rfl⟩
    have hun2 : un ≤ 10 := by rw [hun, hU]; exact uintB_le10 (by omega)
    obtain ⟨kd, hkd⟩ : ∃ z, z = kb.drop al := ⟨_, rfl⟩
    have hkdl : kd.length = kn - al := by rw [hkd, List.length_drop, HKN.out]
    obtain ⟨V, hV⟩ : ∃ z, z = uintB kd.length ++ kd := ⟨_, rfl⟩
    obtain ⟨vn, hvn⟩ : ∃ z, z = V.length := ⟨_, rfl⟩
    have hvn2 : vn ≤ 1058 := by rw [hvn, hV, List.length_append]; have := uintB_le10 (n := kd.length) (by omega); omega
    obtain ⟨W, hW⟩ : ∃ z, z = uintB e.val.length ++ e.val := ⟨_, rfl⟩
    obtain ⟨wn, hwn⟩ : ∃ z, z = W.length := ⟨_, rfl⟩
    have hwn2 : wn ≤ 4106 := by rw [hwn, hW, List.length_append]; have := uintB_le10 (n := e.val.length) (by omega); omega
    have HU := Lib.hid hU.symm
    have HUN := Lib.hid hun.symm
    have HKD := Lib.hid hkd
    have HV := Lib.hid hV.symm
    have HVN := Lib.hid hvn.symm
    have HW := Lib.hid hW.symm
    have HWN := Lib.hid hwn.symm
    have HSS : Hid (sizeS (stepB r s kb e.val) = sz2 + un + vn + wn) := Lib.hid (by
      rw [size_step, ← HSZ.out, ← HSZ2.out, ← HAL.out]
      unfold rowK
      rw [List.length_append, List.length_append, HU.out, ← hkd, HV.out, HW.out, HUN.out, HVN.out, HWN.out]
      omega)
    obtain ⟨vl, hvl⟩ : ∃ z, z = e.val.length := ⟨_, rfl⟩
    have HEV : Hid (∀ z, Below w.heap.size w z → RB z z.heap.size D vl e.val) := Lib.hid fun z hz => by rw [hvl]; exact (HEN.out z hz).val.rb
    have HVC2 : Hid (∀ z, Below w.heap.size w z → z.cell? ⟨b, o + k * 7 + 6, none⟩ = some (.slice D vl q)) := Lib.hid fun z hz => by rw [hvl]; exact HV0.out z hz
    have hvlb : vl ≤ 4096 := by omega
    have hckc : kn ≤ ck := (HZ.out.sl (i := 0) rfl HKN.out).cap
    obtain ⟨gk, cpk, hv, _⟩ := own_form (HZ.out.row (i := 0) rfl) (by show 0 < kb.length; have := HKN.out; omega)
    injection hv with hv _ hcp
    subst hv
    subst hcp
    have HSD : Hid (∀ z, Sl z (some ⟨gk, 0, none⟩) kn ck kb → Sl z (some ⟨gk, al, none⟩) (kn - al) (ck - al) kd) := Lib.hid fun z h => by
      have h1 := h.drop (k := al) (by omega) (by omega)
      rw [← HKD.out, Option.map_some, show (⟨gk, 0, none⟩ : Addr).add al = ⟨gk, al, none⟩ from by simp [Addr.add]; omega] at h1
      exact h1
    have j1 : (0 : Int) ≤ (al : Int) := by omega
    have j2 : (al : Int) ≤ (kn : Int) := by omega
    have j3 : (kn : Int) ≤ (ck : Int) := by omega
    have q1 : IntKind.i64.wrap ((sz2 : Int) + (un : Int)) = (sz2 : Int) + (un : Int) := i64_sum (by omega) (by omega)
    have q2 : IntKind.i64.wrap ((sz2 : Int) + (un : Int) + (vn : Int)) = (sz2 : Int) + (un : Int) + (vn : Int) := i64_sum (by omega) (by omega)
    have q3 : IntKind.i64.wrap ((sz2 : Int) + (un : Int) + (vn : Int) + (wn : Int)) = (sz2 : Int) + (un : Int) + (vn : Int) + (wn : Int) := i64_sum (by omega) (by omega)
    have HKDL := Lib.hid hkdl
    clear hU hun hkd hkdl hV hvn hW hwn hvl HV0 hvb
    go_wp2_with fail
    have k6 : ck ≠ al := by omega
    have k7 : ¬ al = ck := by omega
    have q0 : IntKind.u64.wrap (al : Int) = (al : Int) := by rw [IntKind.wrap_u64]; omega
    refine lt_start [] (by kernel_rfl) ?_
    intro xd hd
    refine ⟨fun z => OW w [bytO 5 (some ⟨gk, 0, none⟩, ck, kb), bytO 5 (Al, cl, s.key)] z, ?_⟩
    have HS := Lib.hid (HZ.out.later hd)
    refine lt_pure 0 rfl (by kernel_rfl) (by kernel_rfl) (by kernel_rfl) (by kernel_rfl) (fun _ _ _ h => h) (v := ?_) (yi_run rfl (fun w => ?_)) (fun _ => HS.out) ?_
    rotate_left
    · first | (go_simp; done) | (go_simp; with_reducible rfl)
    simp only [Act.put, List.setIfInBounds_toArray, List.set_cons_zero, List.set_cons_succ]
    refine lt_pure 1 rfl (by kernel_rfl) (by kernel_rfl) (by kernel_rfl) (by kernel_rfl) (fun _ _ _ h => h) (v := ?_) (yi_run rfl (fun w => ?_)) (fun _ => HS.out) ?_
    rotate_left
    · first | (go_simp; done) | (go_simp; with_reducible rfl)
    simp only [Act.put, List.setIfInBounds_toArray, List.set_cons_zero, List.set_cons_succ]
    refine lt_pure 2 rfl (by kernel_rfl) (by kernel_rfl) (by kernel_rfl) (by kernel_rfl) (fun _ _ _ h => h) (v := ?_) (yi_run rfl (fun w => ?_)) (fun _ => HS.out) ?_
    rotate_left
    · first | (go_simp; done) | (go_simp; with_reducible rfl)
    simp only [Act.put, List.setIfInBounds_toArray, List.set_cons_zero, List.set_cons_succ]
    refine lt_pure 6 rfl (by kernel_rfl) (by kernel_rfl) (by kernel_rfl) (by kernel_rfl) (fun _ _ _ h => h) (v := ?_) (yi_run rfl (fun w => ?_)) (fun _ => HS.out) ?_
    rotate_left
    · first | (go_simp; done) | (go_simp; with_reducible rfl)
    simp only [Act.put, List.setIfInBounds_toArray, List.set_cons_zero, List.set_cons_succ]
    refine lt_pure 7 rfl (by kernel_rfl) (by kernel_rfl) (by kernel_rfl) (by kernel_rfl) (fun _ _ _ h => h) (v := ?_) (yi_run rfl (fun w => ?_)) (fun _ => HS.out) ?_
    rotate_left
    · first | (go_simp; done) | (go_simp; with_reducible rfl)
    simp only [Act.put, List.setIfInBounds_toArray, List.set_cons_zero, List.set_cons_succ]
    refine lt_pure 8 rfl (by kernel_rfl) (by kernel_rfl) (by kernel_rfl) (by kernel_rfl) (fun _ _ _ h => h) (v := ?_) (yi_run rfl (fun w => ?_)) (fun _ => HS.out) ?_
    rotate_left
    · first | (go_simp; done) | (go_simp; with_reducible rfl)
    simp only [Act.put, List.setIfInBounds_toArray, List.set_cons_zero, List.set_cons_succ]
    refine lt_pure 12 rfl (by kernel_rfl) (by kernel_rfl) (by kernel_rfl) (by kernel_rfl) (fun _ _ _ h => h) (v := ?_) (yi_run rfl (fun w => ?_)) (fun _ => HS.out) ?_
    rotate_left
    · first | (go_simp; done) | (go_simp; with_reducible rfl)
    simp only [Act.put, List.setIfInBounds_toArray, List.set_cons_zero, List.set_cons_succ]
    refine lt_pure 13 rfl (by kernel_rfl) (by kernel_rfl) (by kernel_rfl) (by kernel_rfl) (fun _ _ _ h => h) (v := ?_) (yi_run rfl (fun w => ?_)) (fun _ => HS.out) ?_
    rotate_left
    · first | (go_simp; done) | (go_simp; with_reducible rfl)
    simp only [Act.put, List.setIfInBounds_toArray, List.set_cons_zero, List.set_cons_succ]
    refine lt_pure 14 rfl (by kernel_rfl) (by kernel_rfl) (by kernel_rfl) (by kernel_rfl) (fun _ _ _ h => h) (v := ?_) (yi_run rfl (fun w => ?_)) (fun _ => HS.out) ?_
    rotate_left
    · first | (go_simp; done) | (go_simp; with_reducible rfl)
    simp only [Act.put, List.setIfInBounds_toArray, List.set_cons_zero, List.set_cons_succ]
    refine lt_pure 15 rfl (by kernel_rfl) (by kernel_rfl) (by kernel_rfl) (by kernel_rfl) (fun _ _ _ h => h) (v := ?_) (yi_run rfl (fun w => ?_)) (fun _ => HS.out) ?_
    rotate_left
    · first | (go_simp; done) | (go_simp; with_reducible rfl)
    simp only [Act.put, List.setIfInBounds_toArray, List.set_cons_zero, List.set_cons_succ]
    refine lt_take 16 [17, 18, 19, 20] rfl (by kernel_rfl) (by kernel_rfl) (by kernel_rfl) (by kernel_rfl) (by kernel_rfl) (fun _ _ _ h => h) (yi_cell rfl rfl rfl (fun w hS => HVC2.out _ (OW.up hS)) (fun w => Tryd.isAgg24 w)) HS.out ?_
    simp only [Act.put, List.setIfInBounds_toArray, List.set_cons_zero, List.set_cons_succ]
    refine lt_call 3 rfl (by kernel_rfl) rfl rfl ⟨_, Tryd.func58, by decide, by kernel_rfl⟩ [.int .u64 (al : Int)] rfl ?_
    refine (rUint_any al _ (by omega)).mono ?_
    rw [HU.out]
    rintro r z11 hp
    obtain ⟨A11, c11, rfl, _, ho, hb⟩ := hp.at_ (n := un) HUN.out
    replace HS := Lib.hid (HS.out.later hb)
    clear hp ho hb
    refine ⟨_, rfl, fun _ => HS.out, ?_⟩
    simp only [Act.put, List.setIfInBounds_toArray, List.set_cons_zero, List.set_cons_succ]
    refine lt_pure 4 rfl (by kernel_rfl) (by kernel_rfl) (by kernel_rfl) (by kernel_rfl) (fun _ _ _ h => h) (v := ?_) (yi_run rfl (fun w => ?_)) (fun _ => HS.out) ?_
    rotate_left
    · first | (go_simp; done) | (go_simp; with_reducible rfl)
    simp only [Act.put, List.setIfInBounds_toArray, List.set_cons_zero, List.set_cons_succ]
    refine lt_pure 5 rfl (by kernel_rfl) (by kernel_rfl) (by kernel_rfl) (by kernel_rfl) (fun _ _ _ h => h) (v := ?_) (yi_run rfl (fun w => ?_)) (fun _ => HS.out) ?_
    rotate_left
    · first | (go_simp; done) | (go_simp; with_reducible rfl)
    simp only [Act.put, List.setIfInBounds_toArray, List.set_cons_zero, List.set_cons_succ]
    refine lt_call 9 rfl (by kernel_rfl) rfl rfl ⟨_, Tryd.func59, by decide, by kernel_rfl⟩ [.slice (some ⟨gk, al, none⟩) (kn - al) (ck - al)] rfl ?_
    refine (rBytes_any kd _ (kn - al) _ _ (by omega) (HSD.out _ (HS.out.sl (i := 0) rfl HKN.out)).rb).mono ?_
    rw [HV.out]
    rintro r z12 hp
    obtain ⟨A12, c12, rfl, _, ho, hb⟩ := hp.at_ (n := vn) HVN.out
    replace HS := Lib.hid (HS.out.later hb)
    clear hp ho hb
    refine ⟨_, rfl, fun _ => HS.out, ?_⟩
    simp only [Act.put, List.setIfInBounds_toArray, List.set_cons_zero, List.set_cons_succ]
    refine lt_pure 10 rfl (by kernel_rfl) (by kernel_rfl) (by kernel_rfl) (by kernel_rfl) (fun _ _ _ h => h) (v := ?_) (yi_run rfl (fun w => ?_)) (fun _ => HS.out) ?_
    rotate_left
    · first | (go_simp; done) | (go_simp; with_reducible rfl)
    simp only [Act.put, List.setIfInBounds_toArray, List.set_cons_zero, List.set_cons_succ]
    refine lt_pure 11 rfl (by kernel_rfl) (by kernel_rfl) (by kernel_rfl) (by kernel_rfl) (fun _ _ _ h => h) (v := ?_) (yi_run rfl (fun w => ?_)) (fun _ => HS.out) ?_
    rotate_left
    · first | (go_simp; done) | (go_simp; with_reducible rfl)
    simp only [Act.put, List.setIfInBounds_toArray, List.set_cons_zero, List.set_cons_succ]
    refine lt_call 17 rfl (by kernel_rfl) rfl rfl ⟨_, Tryd.func59, by decide, by kernel_rfl⟩ [.slice D vl q] rfl ?_
    refine (rBytes_any e.val _ vl _ _ (by omega) (HEV.out _ HS.out.up)).mono ?_
    rw [HW.out]
    rintro r z13 hp
    obtain ⟨A13, c13, rfl, _, ho, hb⟩ := hp.at_ (n := wn) HWN.out
    replace HS := Lib.hid (HS.out.later hb)
    clear hp ho hb
    refine ⟨_, rfl, fun _ => HS.out, ?_⟩
    simp only [Act.put, List.setIfInBounds_toArray, List.set_cons_zero, List.set_cons_succ]
    refine lt_pure 18 rfl (by kernel_rfl) (by kernel_rfl) (by kernel_rfl) (by kernel_rfl) (fun _ _ _ h => h) (v := ?_) (yi_run rfl (fun w => ?_)) (fun _ => HS.out) ?_
    rotate_left
    · first | (go_simp; done) | (go_simp; with_reducible rfl)
    simp only [Act.put, List.setIfInBounds_toArray, List.set_cons_zero, List.set_cons_succ]
    refine lt_pure 19 rfl (by kernel_rfl) (by kernel_rfl) (by kernel_rfl) (by kernel_rfl) (fun _ _ _ h => h) (v := ?_) (yi_run rfl (fun w => ?_)) (fun _ => HS.out) ?_
    rotate_left
    · first | (go_simp; done) | (go_simp; with_reducible rfl)
    simp only [Act.put, List.setIfInBounds_toArray, List.set_cons_zero, List.set_cons_succ]
    refine lt_pure 20 rfl (by kernel_rfl) (by kernel_rfl) (by kernel_rfl) (by kernel_rfl) (fun _ _ _ h => h) (v := ?_) (yi_run rfl (fun w => ?_)) (fun _ => HS.out) ?_
    rotate_left
    · first | (go_simp; done) | (go_simp; with_reducible rfl)
    simp only [Act.put, List.setIfInBounds_toArray, List.set_cons_zero, List.set_cons_succ]
    refine lt_done (by kernel_rfl) ?_
    have HS9 := HS
    clear HS
    have HQ0 := Lib.hid HS9.out
    clear HS9 k6 k7 q0 q1 q2 q3 HZ
    by_cases hbig : 131072 < sz2 + un + vn + wn
    case pos =>
      have HPF : Hid (buildE5 (r : Int) es = ([], 53)) := Lib.hid (by
        have h := HAT.out.2 53 (by unfold addC; rw [if_neg (fun h => h HC0.out), if_neg HLO.out, if_pos (by rw [← HS.out, HKB.out, HSS.out]; exact hbig)]) (by decide)
        rw [if_neg HRR.out] at h; exact h)
      have h1 : (131072 : Int) < (sz2 : Int) + (un : Int) + (vn : Int) + (wn : Int) := by omega
      clear hbig
      go_wp2_with fail
      go_ret2
      rw [HPF.out]
      exact bytes_post2 (n := 0) (own_nil _ _ _ _) HQ0.out.up
    have h1 : ¬ (131072 : Int) < (sz2 : Int) + (un : Int) + (vn : Int) + (wn : Int) := by omega
    have HBG := Lib.hid hbig
    clear hbig
    go_wp2_with fail
    go_roundw
    case rel =>
      have hb9 := HBG.out
      refine ⟨k + 1, sz2 + un + vn + wn, kn, some ⟨gk, 0, none⟩, ck, by omega, by omega, hknb, by go_num, rfl, rfl, Lib.hid (HAT.out.1 ?_), Lib.hid (by rw [HTK.out, HSS.out]), Lib.hid (by rw [HTK.out]; exact HKN.out), Lib.hid ?_⟩
      · unfold addC
        rw [if_neg (fun h => h HC0.out), if_neg HLO.out, if_neg (by rw [← HS.out, HKB.out, HSS.out]; exact hb9)]
      · rw [HTK.out]
        exact HQ0.out.sub (.cons_cons _ (.cons _ (List.Sublist.refl _)))
    case measure => simp [intOf]; omega
end Go.Proofs.YtmigjipfomfacaaDoor

/-
  The laws' told, walked. (Printed by gen_blockl1.py.)
-/
namespace Go.Proofs.YtmigjipfomfacaaDoor
open Go.RowKit

def toldL : List Ent := [atE 5, atE 4, atE 3]
def toldB : List UInt8 := layB 2 toldL
theorem told_build : buildE5 ((2 : Nat) : Int) toldL = (toldB, 0) := by
  have h : (buildK 2 [] toldL).1 = 0 := by decide +kernel
  unfold buildE5
  rw [if_neg (by decide), Int.toNat_natCast, if_pos h]
  rfl
theorem told_open : openE toldB = (some toldL, 0) ∧ resB toldB = 2 := openE_lay told_build
theorem told_seek : seekL toldL [] = 0 := by decide +kernel
theorem told_nil : openE [] = (none, 51) := by unfold openE; rw [if_neg (by decide), if_pos (by decide)]
def AllP (g : Nat) (x : World) (r : Ending) (z : World) : Prop := ∃ b, r = .returned (.func (.func 47) #[] #[.pointer (some ⟨b, 0, none⟩)]) ∧ x.heap.size ≤ b ∧ z.cell? ⟨b, 0, none⟩ = some (.pointer (some ⟨g, 0, none⟩)) ∧ Below x.heap.size x z
theorem all_any (g : Nat) (x : World) : Calls Tryd.prog 14 #[.pointer (some ⟨g, 0, none⟩)] x (AllP g x) := by
  have HX := Lib.hid (OW.nil x)
  go_enter Tryd.func14, Tryd.ntmps14
  go_wp2_with (refine wl_box rfl (.tmp 0) rfl [.pointer (some ⟨g, 0, none⟩)] rfl HX.out ?_; intro b x1 hz _; have HX1 : Hid (OW x [boxO b [.pointer (some ⟨g, 0, none⟩)]] x1) := Lib.hid hz; clear hz HX)
  go_ret
  exact ⟨b, rfl, (HX1.out.box (i := 0) rfl).1, HX1.out.cell (i := 0) (j := 0) rfl rfl, HX1.out.up⟩
theorem all_not_nil (b : Nat) (w : World) : (binOp .eql 34 (.func (.func 47) #[] #[.pointer (some ⟨b, 0, none⟩)]) .nilFunc).run Tryd.prog w = .ok (.bool false) w := by kernel_rfl
/-- Open of what Build made. -/
theorem open_lay {b : List UInt8} {L : List Ent} (ho : openE b = (some L, 0)) (A : Option Addr) (n c : Nat) (w : World) (hs : Sl w A n c b) (ht : TabAt 0 w) :
    Calls Tryd.prog 12 #[.slice A n c] w fun e z => ∃ g, e = .returned (.tuple #[.pointer (some ⟨g, 0, none⟩), .int .i64 0]) ∧ BkR z (resB b) g L ∧ Below w.heap.size w z :=
  (open_any b A n c w hs ht).mono fun e z h => by
    rcases h with ⟨L', g, os, h1, h2, h3, h4⟩ | ⟨h1, _⟩
    · rw [ho] at h1
      injection h1 with h1
      subst h1
      exact ⟨g, h2, h3.reads (rest := []) (by rw [List.append_nil]; exact h4), h4.up⟩
    · rw [ho] at h1; cases h1
theorem open_none {b : List UInt8} {k : Int} (ho : openE b = (none, k)) (A : Option Addr) (n c : Nat) (w : World) (hs : Sl w A n c b) (ht : TabAt 0 w) :
    Calls Tryd.prog 12 #[.slice A n c] w fun e z => e = .returned (.tuple #[.pointer none, .int .i64 k]) ∧ Below w.heap.size w z :=
  (open_any b A n c w hs ht).mono fun e z h => by
    rcases h with ⟨L', g, os, h1, _⟩ | ⟨_, h2, h3⟩
    · rw [ho] at h1; cases h1
    · rw [ho] at h2; exact ⟨h2, h3⟩
theorem at_in {x : World} {R g : Nat} {L : List Ent} (h : BkR x R g L) (hL : ∀ e, e ∈ L → e.row.length ≤ 140737488355000 ∧ e.qual.length ≤ 140737488355000 ∧ e.val.length ≤ 140737488355000) {k : Nat} {e : Ent} (hk : L[k]? = some e) :
    Calls Tryd.prog 26 #[.pointer (some ⟨g, 0, none⟩), .int .i64 k] x (OwnP (fun v => .tuple #[v, .int .i64 0]) e x) :=
  (at_any h hL (k : Int)).mono fun r z hp => by
    rcases hp with ⟨k', e', h1, h2, h3⟩ | ⟨h1, _⟩
    · obtain rfl : k = k' := by omega
      rw [hk] at h2
      injection h2 with h2
      subst h2
      exact h3
    · have := (List.getElem?_eq_some_iff.1 hk).1; omega
/-- Three entries in a row. -/
theorem ens_three {x : World} {e1 e2 e3 : Ent} {A1 B1 D1 A2 B2 D2 A3 B3 D3 : Option Addr} {c1 d1 q1 c2 d2 q2 c3 d3 q3 : Nat} (C : Array Value) {A : Option Addr} (hC : C.toList = [.slice A1 e1.row.length c1, .int .i64 e1.fam, .slice B1 e1.qual.length d1, .int .i64 e1.ts, .int .i64 e1.seq, .int .i64 e1.kind, .slice D1 e1.val.length q1, .slice A2 e2.row.length c2, .int .i64 e2.fam, .slice B2 e2.qual.length d2, .int .i64 e2.ts, .int .i64 e2.seq, .int .i64 e2.kind, .slice D2 e2.val.length q2, .slice A3 e3.row.length c3, .int .i64 e3.fam, .slice B3 e3.qual.length d3, .int .i64 e3.ts, .int .i64 e3.seq, .int .i64 e3.kind, .slice D3 e3.val.length q3])
    (hr : Reads x x.heap.size 7 A 3 C.toList) (h1 : En x A1 e1.row.length c1 B1 e1.qual.length d1 D1 e1.val.length q1 e1) (h2 : En x A2 e2.row.length c2 B2 e2.qual.length d2 D2 e2.val.length q2 e2) (h3 : En x A3 e3.row.length c3 B3 e3.qual.length d3 D3 e3.val.length q3 e3) : Ens x A 3 [e1, e2, e3] := by
  refine ⟨[⟨A1, c1, B1, d1, D1, q1, e1⟩, ⟨A2, c2, B2, d2, D2, q2, e2⟩, ⟨A3, c3, B3, d3, D3, q3, e3⟩], rfl, ?_, fun r hr => ?_⟩
  · rw [hC] at hr; exact hr
  · rcases List.mem_cons.1 hr with rfl | hr
    · exact h1
    · rcases List.mem_cons.1 hr with rfl | hr
      · exact h2
      · rw [List.mem_singleton.1 hr]; exact h3

set_option maxRecDepth 100000 in
set_option maxHeartbeats 4000000 in
theorem told_any (w : World) (ht : TabAt 0 w) : Calls Tryd.prog 11 #[] w fun e z => e = .returned (.bool true) ∧ Below w.heap.size w z := by
  have HTB : Hid (∀ z, Below w.heap.size w z → TabAt 0 z) := Lib.hid fun z hz => ht.later hz
  clear ht
  obtain ⟨L, hL⟩ : ∃ z, z = toldL := ⟨_, rfl⟩
  obtain ⟨tb, htb⟩ : ∃ z, z = toldB := ⟨_, rfl⟩
  obtain ⟨tn, htn⟩ : ∃ z, z = tb.length := ⟨_, rfl⟩
  have HB5 : Hid (buildE5 2 L = (tb, 0)) := Lib.hid (by rw [hL, htb]; exact told_build)
  have HOP : Hid (openE tb = (some L, 0)) := Lib.hid (by rw [htb, hL]; exact told_open.1)
  have HRB : Hid (resB tb = 2) := Lib.hid (by rw [htb]; exact told_open.2)
  have HTN := Lib.hid htn.symm
  have HSK : Hid (seekL L [] = 0) := Lib.hid (by rw [hL]; exact told_seek)
  have HLN : Hid (L.length = 3) := Lib.hid (by rw [hL]; rfl)
  have HL1 : Hid (L[1]? = some (atE 4)) := Lib.hid (by rw [hL]; rfl)
  have HLE : Hid (L = [atE 5, atE 4, atE 3]) := Lib.hid hL
  have HAS : Hid (Asc (L.map keyE)) := Lib.hid (by rw [hL]; exact build_asc told_build)
  have HBD : Hid (∀ e, e ∈ L → e.row.length ≤ 140737488355000 ∧ e.qual.length ≤ 140737488355000 ∧ e.val.length ≤ 140737488355000) := Lib.hid (by
    intro e he
    rw [hL] at he
    rcases List.mem_cons.1 he with rfl | he
    · refine ⟨?_, ?_, ?_⟩ <;> decide
    · rcases List.mem_cons.1 he with rfl | he
      · refine ⟨?_, ?_, ?_⟩ <;> decide
      · rw [List.mem_singleton.1 he]; refine ⟨?_, ?_, ?_⟩ <;> decide)
  have XS : Hid (∀ l : List UInt8, (l == l) = true) := Lib.hid (by simp)
  have htnb : tn ≤ 131072 := by
    have h9 : sizeS (runB 2 toldL) ≤ 131072 := by
      have := buildK_size 2 toldL [] (by show 9 ≤ 131072; decide) (build_parts told_build).2.2.1
      simpa using this
    have h8 := (build_parts told_build).2.2.2.2.1
    rw [htn, htb, h8, layS_len]; exact h9
  clear hL htb htn
  have tk1 : True := trivial
  have tk2 : True := trivial
  go_enter Tryd.func11, Tryd.ntmps11
  go_upto_region 2 with (first
    | (go_at_call 20; have _t := tk1; go_must (refine (atE_any 5 _).mono ?_); rintro r x1 ⟨A1, B1, D1, rfl, he, hb⟩; have HW1 := Lib.hid hb; have HE1 := Lib.hid he; clear hb he tk1)
    | (go_at_call 20; have _t := tk2; go_must (refine (atE_any 4 _).mono ?_); rintro r x2 ⟨A2, B2, D2, rfl, he, hb⟩; have HW2 := Lib.hid (below_up HW1.out hb); have HE12 := Lib.hid (HE1.out.later hb); have HE2 := Lib.hid he; clear hb he tk2)
    | (go_at_call 20; go_must (refine (atE_any 3 _).mono ?_); rintro r x3 ⟨A3, B3, D3, rfl, he, hb⟩; have HW3 := Lib.hid (below_up HW2.out hb); have HE13 := Lib.hid (HE12.out.later hb); have HE23 := Lib.hid (HE2.out.later hb); have HE3 := Lib.hid he; clear hb he)
    | (refine wl_build rfl #[(0, .tmp 14), (1, .tmp 15), (2, .tmp 16)] rfl #[.slice A1 1 1, .int .i64 0, .slice B1 1 1, .int .i64 5, .int .i64 32, .int .i64 1, .slice D1 1 1, .slice A2 1 1, .int .i64 0, .slice B2 1 1, .int .i64 4, .int .i64 32, .int .i64 1, .slice D2 1 1, .slice A3 1 1, .int .i64 0, .slice B3 1 1, .int .i64 3, .int .i64 32, .int .i64 1, .slice D3 1 1] Tryd.entsS (.agg #[.slice none 0 0, .int .i64 0, .slice none 0 0, .int .i64 0, .int .i64 0, .int .i64 0, .slice none 0 0]) (by kernel_rfl) (by decide) (by decide) (by decide) rfl (by kernel_rfl) (OW.nil x3) ?_; intro gl x4 hz hb; have HW4 := Lib.hid (below_up HW3.out hb); have HES4 : Hid (Ens x4 (some ⟨gl, 0, none⟩) 3 L) := Lib.hid (by rw [HLE.out]; exact ens_three #[.slice A1 1 1, .int .i64 0, .slice B1 1 1, .int .i64 5, .int .i64 32, .int .i64 1, .slice D1 1 1, .slice A2 1 1, .int .i64 0, .slice B2 1 1, .int .i64 4, .int .i64 32, .int .i64 1, .slice D2 1 1, .slice A3 1 1, .int .i64 0, .slice B3 1 1, .int .i64 3, .int .i64 32, .int .i64 1, .slice D3 1 1] rfl (Reads.own (OW.row hz (i := 0) rfl)) (HE13.out.later hb) (HE23.out.later hb) (HE3.out.later hb)); clear hz hb))
  have tk3 : True := trivial
  have hfn := all_not_nil
  go_upto_region 10 with (first
    | (go_at_call 10; go_must (refine (build_any 2 L _ 3 3 _ HES4.out (by omega) (HTB.out _ HW4.out)).mono ?_); rw [HB5.out]; rintro r x5 hp; obtain ⟨A5, c5, rfl, hs5, _, hb⟩ := hp.at_ HTN.out rfl; have HW5 := Lib.hid (below_up HW4.out hb); have HES5 := Lib.hid (HES4.out.later hb); have HS5 := Lib.hid hs5; clear hp hb hs5)
    | (go_at_call 21; go_must (refine (rbuild_any 2 L _ 3 3 _ HES5.out (by omega)).mono ?_); rw [HB5.out]; rintro r x6 hp; obtain ⟨A6, c6, rfl, hs6, _, hb⟩ := hp.at_ HTN.out rfl; have HW6 := Lib.hid (below_up HW5.out hb); have HS56 := Lib.hid (HS5.out.later hb); have HS6 := Lib.hid hs6; clear hp hb hs6)
    | (go_at_call 22; go_must (refine (begin_ok 2 _ (by decide) (by decide)).mono ?_); rintro r x7 ⟨g7, os7, rfl, _, hx⟩; have HW7 := Lib.hid (below_up HW6.out hx.up); have HS57 := Lib.hid (HS56.out.later hx.up); have HS67 := Lib.hid (HS6.out.later hx.up); clear hx)
    | (go_at_call 16; go_must (refine (same_any tb tb A5 A6 tn c5 tn c6 _ (by omega) HS57.out.rb HS67.out.rb).mono ?_); rw [XS.out]; rintro r x8 ⟨rfl, hb⟩; have HW8 := Lib.hid (below_up HW7.out hb); have HS58 := Lib.hid (HS57.out.later hb); clear hb)
    | (go_at_call 12; have _t := tk3; go_must (refine (open_lay HOP.out A5 tn c5 _ HS58.out (HTB.out _ HW8.out)).mono ?_); rw [HRB.out]; rintro r x9 ⟨g, rfl, hk, hb⟩; have HW9 := Lib.hid (below_up HW8.out hb); have HK9 := Lib.hid hk; clear hk hb tk3)
    | (go_at_call 13; go_must (refine (len_any HK9.out).mono ?_); rw [HLN.out]; rintro r y1 ⟨rfl, hb⟩; have HW10 := Lib.hid (below_up HW9.out hb); have HK10 := Lib.hid (HK9.out.later hb); clear hb)
    | (go_at_call 17; go_must (refine (seek_any HK10.out ⟨by decide, by decide⟩ (by rw [HLN.out]; decide) (by rw [HLN.out]; decide) HAS.out [] none 0 0 (Sl.none _)).mono ?_); rw [HSK.out]; rintro r y2 ⟨rfl, hb⟩; have HW11 := Lib.hid (below_up HW10.out hb); have HK11 := Lib.hid (HK10.out.later hb); clear hb)
    | (go_at_call 14; go_must (refine (all_any g _).mono ?_); rintro r y3 ⟨b3, rfl, _, _, hb⟩; have HW12 := Lib.hid (below_up HW11.out hb); have HK12 := Lib.hid (HK11.out.later hb); clear hb))
  clear hfn
  go_upto_region 12 with (first
    | (go_at_call 26; go_must (refine (at_in HK12.out HBD.out (k := 1) HL1.out).mono ?_); rintro r y4 ⟨A7, B7, D7, rfl, h1, h2, h3, hx⟩; have HW13 := Lib.hid (below_up HW12.out hx.up); have HEN : Hid (En y4 A7 (atE 4).row.length (atE 4).row.length B7 (atE 4).qual.length (atE 4).qual.length D7 (atE 4).val.length (atE 4).val.length (atE 4)) := Lib.hid (OwnP.en h1 h2 h3 ⟨by decide, by decide, by decide⟩ hx); have HX := Lib.hid (OW.nil y4); clear h1 h2 h3 hx)
    | (refine wl_alloc rfl rfl [.slice none 0 0, .int .i64 0, .slice none 0 0, .int .i64 0, .int .i64 0, .int .i64 0, .slice none 0 0] (.inl (by kernel_rfl)) HX.out ?_; intro ge x8 hz _; have HX8 := Lib.hid hz; clear hz HX)
    | (refine wl_put rfl (.tmp 10) (.tmp 77) rfl HX8.out 0 rfl rfl [.slice A7 (atE 4).row.length (atE 4).row.length, .int .i64 (atE 4).fam, .slice B7 (atE 4).qual.length (atE 4).qual.length, .int .i64 (atE 4).ts, .int .i64 (atE 4).seq, .int .i64 (atE 4).kind, .slice D7 (atE 4).val.length (atE 4).val.length] rfl rfl (by kernel_rfl) (by simp [Value.oneCell']) ?_; intro z9 hz _; have HX9 : Hid (OW y4 [boxO ge [.slice A7 (atE 4).row.length (atE 4).row.length, .int .i64 (atE 4).fam, .slice B7 (atE 4).qual.length (atE 4).qual.length, .int .i64 (atE 4).ts, .int .i64 (atE 4).seq, .int .i64 (atE 4).kind, .slice D7 (atE 4).val.length (atE 4).val.length]] z9) := Lib.hid hz; clear hz HX8)
    | (go_at_call 12; go_must (refine (open_none told_nil none 0 0 _ (Sl.none _) (HTB.out _ (below_up HW13.out HX9.out.up))).mono ?_); rintro r z10 ⟨rfl, hb⟩; have HX10 := Lib.hid (HX9.out.later hb); clear hb))
  refine lt_start [] (by kernel_rfl) ?_
  intro xd hd
  refine ⟨fun z => OW y4 [boxO ge [.slice A7 (atE 4).row.length (atE 4).row.length, .int .i64 (atE 4).fam, .slice B7 (atE 4).qual.length (atE 4).qual.length, .int .i64 (atE 4).ts, .int .i64 (atE 4).seq, .int .i64 (atE 4).kind, .slice D7 (atE 4).val.length (atE 4).val.length]] z, ?_⟩
  have HS := Lib.hid (HX10.out.later hd)
  refine lt_pure 0 rfl (by kernel_rfl) (by kernel_rfl) (by kernel_rfl) (by kernel_rfl) (fun _ _ _ h => h) (v := ?_) (yi_run rfl (fun w => ?_)) (fun _ => HS.out) ?_
  rotate_left
  · first | (go_simp; done) | (go_simp; with_reducible rfl)
  simp only [Act.put, List.setIfInBounds_toArray, List.set_cons_zero, List.set_cons_succ]
  refine lt_pure 1 rfl (by kernel_rfl) (by kernel_rfl) (by kernel_rfl) (by kernel_rfl) (fun _ _ _ h => h) (v := ?_) (yi_run rfl (fun w => ?_)) (fun _ => HS.out) ?_
  rotate_left
  · first | (go_simp; done) | (go_simp; with_reducible rfl)
  simp only [Act.put, List.setIfInBounds_toArray, List.set_cons_zero, List.set_cons_succ]
  refine lt_pure 2 rfl (by kernel_rfl) (by kernel_rfl) (by kernel_rfl) (by kernel_rfl) (fun _ _ _ h => h) (v := ?_) (yi_run rfl (fun w => ?_)) (fun _ => HS.out) ?_
  rotate_left
  · first | (go_simp; done) | (go_simp; with_reducible rfl)
  simp only [Act.put, List.setIfInBounds_toArray, List.set_cons_zero, List.set_cons_succ]
  refine lt_take 3 [5, 6, 7, 8, 9, 10, 11, 12, 13, 14, 15] rfl (by kernel_rfl) (by kernel_rfl) (by kernel_rfl) (by kernel_rfl) (by kernel_rfl) (fun _ _ _ h => h) (yi_row rfl rfl rfl (fun w hS => OW.range hS (i := 0) rfl) ent_row5) HS.out ?_
  simp only [Act.put, List.setIfInBounds_toArray, List.set_cons_zero, List.set_cons_succ]
  refine lt_call 4 rfl (by kernel_rfl) rfl rfl ⟨_, Tryd.func20, by decide, by kernel_rfl⟩ [.int .i64 4] rfl ?_
  refine (atE_any 4 _).mono ?_
  rintro r z11 ⟨A8, B8, D8, rfl, he, hb⟩
  have HE8 := Lib.hid he
  have HEN8 := Lib.hid (HEN.out.later (HS.out.up.trans (hb.mono HS.out.up.size)))
  replace HS := Lib.hid (HS.out.later hb)
  clear he hb
  refine ⟨_, rfl, fun _ => HS.out, ?_⟩
  simp only [Act.put, List.setIfInBounds_toArray, List.set_cons_zero, List.set_cons_succ]
  refine lt_call 5 rfl (by kernel_rfl) rfl rfl ⟨_, Tryd.func15, by decide, by kernel_rfl⟩ [entV A7 (atE 4).row.length (atE 4).row.length B7 (atE 4).qual.length (atE 4).qual.length D7 (atE 4).val.length (atE 4).val.length (atE 4), entV A8 1 1 B8 1 1 D8 1 1 (atE 4)] rfl ?_
  refine (sameEntry_any (atE 4) (atE 4) A7 _ _ B7 _ _ D7 _ _ A8 1 1 B8 1 1 D8 1 1 _ rfl HEN8.out HE8.out).mono ?_
  rintro r z12 ⟨rfl, hb⟩
  replace HS := Lib.hid (HS.out.later hb)
  clear hb
  refine ⟨_, rfl, fun _ => HS.out, ?_⟩
  simp only [Act.put, List.setIfInBounds_toArray, List.set_cons_zero, List.set_cons_succ]
  refine lt_pure 6 rfl (by kernel_rfl) (by kernel_rfl) (by kernel_rfl) (by kernel_rfl) (fun _ _ _ h => h) (v := ?_) (yi_run rfl (fun w => ?_)) (fun _ => HS.out) ?_
  rotate_left
  · first | (go_simp; done) | (go_simp; with_reducible rfl)
  simp only [Act.put, List.setIfInBounds_toArray, List.set_cons_zero, List.set_cons_succ]
  refine lt_pure 7 rfl (by kernel_rfl) (by kernel_rfl) (by kernel_rfl) (by kernel_rfl) (fun _ _ _ h => h) (v := ?_) (yi_run rfl (fun w => ?_)) (fun _ => HS.out) ?_
  rotate_left
  · first | (go_simp; done) | (go_simp; with_reducible rfl)
  simp only [Act.put, List.setIfInBounds_toArray, List.set_cons_zero, List.set_cons_succ]
  refine lt_pure 8 rfl (by kernel_rfl) (by kernel_rfl) (by kernel_rfl) (by kernel_rfl) (fun _ _ _ h => h) (v := ?_) (yi_run rfl (fun w => ?_)) (fun _ => HS.out) ?_
  rotate_left
  · first | (go_simp; done) | (go_simp; with_reducible rfl)
  simp only [Act.put, List.setIfInBounds_toArray, List.set_cons_zero, List.set_cons_succ]
  refine lt_pure 9 rfl (by kernel_rfl) (by kernel_rfl) (by kernel_rfl) (by kernel_rfl) (fun _ _ _ h => h) (v := ?_) (yi_run rfl (fun w => ?_)) (fun _ => HS.out) ?_
  rotate_left
  · first | (go_simp; done) | (go_simp; with_reducible rfl)
  simp only [Act.put, List.setIfInBounds_toArray, List.set_cons_zero, List.set_cons_succ]
  refine lt_pure 10 rfl (by kernel_rfl) (by kernel_rfl) (by kernel_rfl) (by kernel_rfl) (fun _ _ _ h => h) (v := ?_) (yi_run rfl (fun w => ?_)) (fun _ => HS.out) ?_
  rotate_left
  · first | (go_simp; done) | (go_simp; with_reducible rfl)
  simp only [Act.put, List.setIfInBounds_toArray, List.set_cons_zero, List.set_cons_succ]
  refine lt_pure 11 rfl (by kernel_rfl) (by kernel_rfl) (by kernel_rfl) (by kernel_rfl) (fun _ _ _ h => h) (v := ?_) (yi_run rfl (fun w => ?_)) (fun _ => HS.out) ?_
  rotate_left
  · first | (go_simp; done) | (go_simp; with_reducible rfl)
  simp only [Act.put, List.setIfInBounds_toArray, List.set_cons_zero, List.set_cons_succ]
  refine lt_pure 12 rfl (by kernel_rfl) (by kernel_rfl) (by kernel_rfl) (by kernel_rfl) (fun _ _ _ h => h) (v := ?_) (yi_run rfl (fun w => ?_)) (fun _ => HS.out) ?_
  rotate_left
  · first | (go_simp; done) | (go_simp; with_reducible rfl)
  simp only [Act.put, List.setIfInBounds_toArray, List.set_cons_zero, List.set_cons_succ]
  refine lt_pure 13 rfl (by kernel_rfl) (by kernel_rfl) (by kernel_rfl) (by kernel_rfl) (fun _ _ _ h => h) (v := ?_) (yi_run rfl (fun w => ?_)) (fun _ => HS.out) ?_
  rotate_left
  · first | (go_simp; done) | (go_simp; with_reducible rfl)
  simp only [Act.put, List.setIfInBounds_toArray, List.set_cons_zero, List.set_cons_succ]
  refine lt_pure 14 rfl (by kernel_rfl) (by kernel_rfl) (by kernel_rfl) (by kernel_rfl) (fun _ _ _ h => h) (v := ?_) (yi_run rfl (fun w => ?_)) (fun _ => HS.out) ?_
  rotate_left
  · first | (go_simp; done) | (go_simp; with_reducible rfl)
  simp only [Act.put, List.setIfInBounds_toArray, List.set_cons_zero, List.set_cons_succ]
  refine lt_pure 15 rfl (by kernel_rfl) (by kernel_rfl) (by kernel_rfl) (by kernel_rfl) (fun _ _ _ h => h) (v := ?_) (yi_run rfl (fun w => ?_)) (fun _ => HS.out) ?_
  rotate_left
  · first | (go_simp; done) | (go_simp; with_reducible rfl)
  simp only [Act.put, List.setIfInBounds_toArray, List.set_cons_zero]
  refine lt_done (by kernel_rfl) ?_
  have HS9 := HS
  clear HS
  have HX11 := Lib.hid HS9.out
  go_wp2_with fail
  go_ret
  exact ⟨rfl, below_up HW13.out HX11.out.up⟩
end Go.Proofs.YtmigjipfomfacaaDoor

/-
  Entries put in order; plain laws.
-/
namespace Go.Proofs.YtmigjipfomfacaaDoor

def twN {α : Type} (p : α → Bool) (l : List α) : Nat := (l.takeWhile p).length
theorem twN_le {α : Type} (p : α → Bool) (l : List α) : twN p l ≤ l.length := (List.takeWhile_sublist _).length_le
theorem tw_iff {α : Type} {p : α → Bool} : ∀ {l : List α} {j : Nat} {x : α}, l[j]? = some x → j ≤ twN p l → (p x = true ↔ j < twN p l)
  | [], _, _, h, _ => by cases h
  | a :: l, j, x, h, hj => by
    unfold twN at hj ⊢
    rw [List.takeWhile_cons] at hj ⊢
    by_cases ha : p a = true
    · rw [if_pos ha] at hj ⊢
      cases j with
      | zero => injection h with h; subst h; simp [ha]
      | succ j =>
        have := tw_iff (p := p) (l := l) (j := j) (x := x) h (by unfold twN; simpa using hj)
        unfold twN at this
        rw [this, List.length_cons]; omega
    · rw [if_neg ha] at hj ⊢
      have hj : j ≤ 0 := hj
      obtain rfl : j = 0 := by omega
      injection h with h; subst h
      simp [ha]
def insN (m : List Ent) (e : Ent) : Nat := twN (fun x => decide (cmpE x e < 0)) m
def hitB (m : List Ent) (e : Ent) : Bool := match m[insN m e]? with
  | none => false
  | some x => cmpE x e == 0
def insE (m : List Ent) (e : Ent) : List Ent := if hitB m e = true then m else m.take (insN m e) ++ e :: m.drop (insN m e)
def sortStep (m : List Ent) (e : Ent) : List Ent := if checkE e ≠ 0 then m else insE m e
def sortL (es : List Ent) : List Ent := es.foldl sortStep []
theorem sortL_snoc (es : List Ent) (e : Ent) : sortL (es ++ [e]) = sortStep (sortL es) e := by unfold sortL; rw [List.foldl_append]; rfl
theorem ins_len (m : List Ent) (e : Ent) : (insE m e).length ≤ m.length + 1 := by
  unfold insE
  split
  · omega
  · rw [List.length_append, List.length_cons, List.length_take, List.length_drop]; omega
def AscE (m : List Ent) : Prop := m.Pairwise fun a b => cmpE a b < 0
theorem cmpE_lt_trans {a b c : Ent} (h1 : cmpE a b < 0) (h2 : cmpE b c < 0) : cmpE a c < 0 := by
  have h3 := ord_E.trans a b c (by omega) (by omega)
  rcases Int.lt_or_eq_of_le h3 with h | h
  · exact h
  · have h4 := ord_E.swap a c
    have h5 := ord_E.trans b c a (by omega) (by omega)
    have h6 := ord_E.swap b a
    omega
theorem ins_asc {m : List Ent} (hm : AscE m) (e : Ent) : AscE (insE m e) := by
  unfold insE
  split
  · exact hm
  · rename_i hh
    have e1 : m = m.take (insN m e) ++ m.drop (insN m e) := (List.take_append_drop _ _).symm
    have hp : (m.take (insN m e) ++ m.drop (insN m e)).Pairwise fun a b => cmpE a b < 0 := by rw [← e1]; exact hm
    obtain ⟨p1, p2, p3⟩ := List.pairwise_append.1 hp
    have hlow : ∀ x, x ∈ m.take (insN m e) → cmpE x e < 0 := fun x hx => by
      obtain ⟨j, hj⟩ := List.getElem?_of_mem hx
      have hlt : j < insN m e := by
        have := (List.getElem?_eq_some_iff.1 hj).1
        rw [List.length_take] at this; omega
      rw [List.getElem?_take_of_lt hlt] at hj
      have := (tw_iff (p := fun x => decide (cmpE x e < 0)) hj (Nat.le_of_lt hlt)).2 hlt
      simpa using this
    have hhigh : ∀ x, x ∈ m.drop (insN m e) → cmpE e x < 0 := fun x hx => by
      have hfirst : ∀ y, m[insN m e]? = some y → cmpE e y < 0 := fun y hy => by
        have h1 := tw_iff (p := fun x => decide (cmpE x e < 0)) hy (Nat.le_refl (insN m e))
        have h2 : ¬ cmpE y e < 0 := fun h => Nat.lt_irrefl _ (h1.1 (by simpa using h))
        have h3 : cmpE y e ≠ 0 := fun h => hh (by unfold hitB; rw [hy]; simp [h])
        have := ord_E.swap y e
        omega
      obtain ⟨j, hj⟩ := List.getElem?_of_mem hx
      rw [List.getElem?_drop] at hj
      obtain ⟨y, hy⟩ : ∃ y, m[insN m e]? = some y := ⟨_, List.getElem?_eq_getElem (by have := (List.getElem?_eq_some_iff.1 hj).1; omega)⟩
      rcases Nat.eq_zero_or_pos j with h0 | h0
      · subst h0
        rw [Nat.add_zero, hy] at hj
        injection hj with hj; subst hj
        exact hfirst _ hy
      · obtain ⟨h1, g1⟩ := List.getElem?_eq_some_iff.1 hy
        obtain ⟨h2, g2⟩ := List.getElem?_eq_some_iff.1 hj
        have h3 : cmpE y x < 0 := by
          have := List.pairwise_iff_getElem.1 hm (insN m e) (insN m e + j) h1 h2 (by omega)
          rw [g1, g2] at this
          exact this
        exact cmpE_lt_trans (hfirst y hy) h3
    refine List.pairwise_append.2 ⟨p1, List.pairwise_cons.2 ⟨hhigh, p2⟩, fun a ha b hb => ?_⟩
    rcases List.mem_cons.1 hb with rfl | hb
    · exact hlow a ha
    · exact p3 a ha b hb
structure SortOk (m : List Ent) : Prop where
  asc : AscE m
  chk : ∀ e, e ∈ m → checkE e = 0
theorem sort_ok : ∀ es : List Ent, SortOk (sortL es) := fun es => by
  have h : ∀ (es m : List Ent), SortOk m → SortOk (es.foldl sortStep m) := by
    intro es
    induction es with
    | nil => intro m h; exact h
    | cons e es ih =>
      intro m h
      refine ih _ ?_
      unfold sortStep
      split
      · exact h
      · rename_i hc
        refine ⟨ins_asc h.asc e, fun x hx => ?_⟩
        unfold insE at hx
        split at hx
        · exact h.chk x hx
        · rcases List.mem_append.1 hx with h1 | h1
          · exact h.chk x (List.mem_of_mem_take h1)
          · rcases List.mem_cons.1 h1 with rfl | h1
            · exact Decidable.not_not.1 hc
            · exact h.chk x (List.mem_of_mem_drop h1)
  exact h es [] ⟨List.Pairwise.nil, fun e h => by cases h⟩
end Go.Proofs.YtmigjipfomfacaaDoor

/-
  The laws' sorted, walked. (Printed by gen_blockl3.py.)
-/
namespace Go.Proofs.YtmigjipfomfacaaDoor
open Go.RowKit

theorem reads_drop {x : World} {B sz g o k N : Nat} {xs : List Value} (h : Reads x B sz (some ⟨g, o, none⟩) k xs) (hN : N < k) : Reads x B sz (some ⟨g, o + N * sz, none⟩) (k - N) (xs.drop (N * sz)) := by
  obtain ⟨b', o', e, hb, hc⟩ := h.2 (by omega)
  injection e with e; injection e with e1 e2 _
  subst e1 e2
  refine ⟨by rw [List.length_drop, h.1, Nat.sub_mul], fun _ => ⟨g, o + N * sz, rfl, hb, fun j u hu => ?_⟩⟩
  rw [List.getElem?_drop] at hu
  rw [Nat.add_assoc]
  exact hc _ u hu
theorem reads_drop0 {x : World} {B sz g k N : Nat} {xs : List Value} (h : Reads x B sz (some ⟨g, 0, none⟩) k xs) (hN : N < k) : Reads x B sz (some ⟨g, N * sz, none⟩) (k - N) (xs.drop (N * sz)) := by
  have := reads_drop h hN
  rwa [Nat.zero_add] at this
theorem cells_one {rs : List ER} {u : Value} (h : u ∈ rs.flatMap ER.cells) : u.oneCell' = true := by
  obtain ⟨r, _, hu⟩ := List.mem_flatMap.1 h
  simp only [ER.cells, List.mem_cons, List.not_mem_nil, or_false] at hu
  rcases hu with rfl | rfl | rfl | rfl | rfl | rfl | rfl <;> rfl
theorem flat7_drop (rs : List ER) (m : Nat) : (rs.flatMap ER.cells).drop (m * 7) = (rs.drop m).flatMap ER.cells := by
  induction rs generalizing m with
  | nil => simp
  | cons r rs ih =>
    cases m with
    | zero => simp
    | succ m =>
      rw [List.drop_succ_cons, List.flatMap_cons, List.drop_append, ER.len, List.drop_of_length_le (by rw [ER.len]; omega), show (m + 1) * 7 - 7 = m * 7 from by omega, ih, List.nil_append]
theorem OW.rowRange {w x : World} {os : List Ob} {i g c k j : Nat} {T : TypeId} {rs : List ER} {r : ER} (h : OW w os x) (hi : os[i]? = some (rowO T 7 (.slice (some ⟨g, 0, none⟩) k c) k (rs.flatMap ER.cells))) (hr : rs[j]? = some r) : x.rangeAt g (j * 7) r.cells := fun q v hq => by
  have hq7 : q < 7 := (List.getElem?_eq_some_iff.1 hq).1
  have hrow := h.row hi
  have hjl : j < rs.length := (List.getElem?_eq_some_iff.1 hr).1
  have hlen : (rs.flatMap ER.cells).length = k * 7 := hrow.1
  rw [flat7_len] at hlen
  rw [World.ownsRow.cellAt hrow (j * 7 + q) (by omega), flat7_at hr q hq7]; exact hq
/-- So many entries, their byte strings in memory from ahead. -/
structure Srt (w : World) (rs : List ER) (L : List Ent) : Prop where
  ents : rs.map ER.e = L
  en : ∀ r, r ∈ rs → ∀ z, Below w.heap.size w z → r.En z
theorem Srt.len {w : World} {rs : List ER} {L : List Ent} (h : Srt w rs L) : rs.length = L.length := by rw [← h.ents, List.length_map]
theorem Srt.at_ {w : World} {rs : List ER} {L : List Ent} (h : Srt w rs L) {j : Nat} {r : ER} (hr : rs[j]? = some r) : L[j]? = some r.e := by rw [← h.ents, List.getElem?_map, hr]; rfl
theorem Srt.ens {w x : World} {os : List Ob} {rs : List ER} {L : List Ent} {i c k : Nat} {A : Option Addr} {T : TypeId} (h : Srt w rs L) (hx : OW w os x) (hi : os[i]? = some (rowO T 7 (.slice A k c) k (rs.flatMap ER.cells))) : Ens x A k L := by
  rw [← h.ents]
  exact hx.ens hi fun r hr => h.en r hr x hx.up

set_option maxRecDepth 100000 in
set_option maxHeartbeats 4000000 in
theorem sorted_any (es : List Ent) (A : Option Addr) (n c : Nat) (w : World) (hes : Ens w A n es) (_hn : n ≤ 9223372036854775807) :
    Calls Tryd.prog 9 #[.slice A n c] w fun e z => ∃ (MA : Option Addr) (mc k : Nat) (rs : List ER), e = .returned (.slice MA k mc) ∧ k ≤ 80 ∧ Srt w rs (sortL (es.take 80)) ∧ OW w [rowO 37 7 (.slice MA k mc) k (rs.flatMap ER.cells)] z := by
  have HLE := Lib.hid hes.len
  have HES : Hid (∀ z, Below w.heap.size w z → Ens z A n es) := Lib.hid fun z hz => hes.later hz
  have HX0 : Hid (OW w [rowO 37 7 (.slice none 0 0) 0 []] w) := Lib.hid ((OW.nil w).nilRow 37 7)
  clear hes
  go_enter Tryd.func9, Tryd.ntmps9
  go_wp2_with fail
  go_loopw [3, 4, 5] (fun mv iv _ wr => ∃ (i k : Nat) (MA : Option Addr) (mc : Nat) (rs : List ER), i ≤ n ∧ i ≤ 80 ∧ k ≤ i ∧ iv = .int .i64 i ∧ mv = .slice MA k mc ∧ Hid (rs.length = k) ∧ Hid (Srt w rs (sortL (es.take i))) ∧ Hid (OW w [rowO 37 7 (.slice MA k mc) k (rs.flatMap ER.cells)] wr)) (fun _ iv _ _ => 80 - (intOf iv).toNat)
  case atStart => exact ⟨0, 0, none, 0, [], Nat.zero_le _, by omega, Nat.le_refl _, rfl, rfl, Lib.hid rfl, Lib.hid ⟨rfl, fun r h => by cases h⟩, HX0⟩
  case round =>
    clear HX0
    obtain ⟨i, k, MA, mc, rs, hin, hi80, hki, rfl, rfl, HRL, HSR, HX⟩ := hrel
    by_cases hgo : i < n ∧ i < 80
    case neg =>
      have HTK : Hid (es.take i = es.take 80) := Lib.hid (by
        rcases Nat.lt_or_ge i n with h | h
        · rw [show i = 80 from by omega]
        · rw [take_all (by have := HLE.out; omega), take_all (by have := HLE.out; omega)])
      have hk80 : k ≤ 80 := by omega
      by_cases hlt : i < n
      · have hd : decide ((i : Int) < (n : Int)) = true := decide_eq_true (by omega)
        have hd2 : decide ((i : Int) < 80) = false := decide_eq_false (by omega)
        have hd3 : ¬ i < 80 := by omega
        clear hgo
        go_wp2_with fail
        go_ret
        exact ⟨MA, mc, k, rs, rfl, hk80, by rw [← HTK.out]; exact HSR.out, HX.out⟩
      · have hd : decide ((i : Int) < (n : Int)) = false := decide_eq_false (by omega)
        clear hgo
        go_wp2_with fail
        go_ret
        exact ⟨MA, mc, k, rs, rfl, hk80, by rw [← HTK.out]; exact HSR.out, HX.out⟩
    obtain ⟨hlt, hlt80⟩ := hgo
    have hd : decide ((i : Int) < (n : Int)) = true := decide_eq_true (by omega)
    have hd2 : decide ((i : Int) < 80) = true := decide_eq_true (by omega)
    obtain ⟨b, oo, Ar, ec, B, d, D, q, e, rfl, hbl2, hek, hrg, hen⟩ := (HES.out w (Below.refl _ _)).at_ hlt
    have HRG : Hid (∀ z, Below w.heap.size w z → z.rangeAt b (oo + i * 7) [.slice Ar e.row.length ec, .int .i64 e.fam, .slice B e.qual.length d, .int .i64 e.ts, .int .i64 e.seq, .int .i64 e.kind, .slice D e.val.length q]) := Lib.hid fun z hz j v hj => (hz.cell (p := ⟨b, _, none⟩) hbl2).trans (hrg j v hj)
    have HEN : Hid (∀ z, Below w.heap.size w z → En z Ar e.row.length ec B e.qual.length d D e.val.length q e) := Lib.hid fun z hz => hen.later hz
    have HTK : Hid (sortL (es.take (i + 1)) = sortStep (sortL (es.take i)) e) := Lib.hid (by rw [take_snoc hek, sortL_snoc])
    obtain ⟨m, hm⟩ : ∃ z, z = sortL (es.take i) := ⟨_, rfl⟩
    rw [← hm] at HSR HTK
    have HML : Hid (m.length = k) := Lib.hid (by rw [← HSR.out.len]; exact HRL.out)
    obtain ⟨ce, hce⟩ : ∃ z, z = checkE e := ⟨_, rfl⟩
    have HCE := Lib.hid hce.symm
    have i1 : (0 : Int) ≤ (i : Int) := by omega
    have i2 : (i : Int) < (n : Int) := by omega
    clear hek hrg hen hce hm
    by_cases hc : ce = 0
    case neg =>
      have hd3 : (ce != 0) = true := bne_iff_ne.2 hc
      have HST : Hid (sortStep m e = m) := Lib.hid (by unfold sortStep; rw [if_pos (by rw [HCE.out]; exact hc)])
      clear hc
      go_wp2_with (first
        | (refine wpList_load_at rfl 37 (.tmp 19) rfl rfl (HRG.out _ HX.out.up) ent_row5 ?_)
        | (go_at_call 42; go_must (refine (rCheckE_any e Ar _ ec B _ d D _ q _ (HEN.out _ HX.out.up)).mono ?_); rw [HCE.out]; rintro r y1 ⟨rfl, hb⟩; have HX1 := Lib.hid (HX.out.later hb); clear hb HX))
      go_roundw
      case rel => exact ⟨i + 1, k, MA, mc, rs, by omega, by omega, by omega, by go_num, rfl, HRL, Lib.hid (by rw [HTK.out, HST.out]; exact HSR.out), HX1⟩
      case measure => simp [intOf]; omega
    have hd3 : (ce != 0) = false := by rw [hc]; rfl
    have HST : Hid (sortStep m e = insE m e) := Lib.hid (by unfold sortStep; rw [if_neg (by rw [HCE.out, hc]; decide)])
    obtain ⟨N, hN⟩ : ∃ z, z = insN m e := ⟨_, rfl⟩
    have hNk : N ≤ k := by rw [hN, ← HML.out]; exact twN_le _ _
    have HN := Lib.hid hN
    clear hc hN
    go_upto_region 7 with (first
      | (refine wpList_load_at rfl 37 (.tmp 19) rfl rfl (HRG.out _ HX.out.up) ent_row5 ?_)
      | (go_at_call 42; go_must (refine (rCheckE_any e Ar _ ec B _ d D _ q _ (HEN.out _ HX.out.up)).mono ?_); rw [HCE.out]; rintro r y1 ⟨rfl, hb⟩; have HX1 := Lib.hid (HX.out.later hb); clear hb HX))
    clear hd hd2 hd3
    obtain ⟨wo, rfl⟩ : ∃ z : World, z = wr := ⟨_, rfl⟩
    have hk80 : k ≤ 80 := by omega
    go_loopw [5] (fun av wr => ∃ a : Nat, a ≤ N ∧ av = .int .i64 a ∧ Hid (OW w [rowO 37 7 (.slice MA k mc) k (rs.flatMap ER.cells)] wr)) (fun av _ => 80 - (intOf av).toNat)
    case atStart => exact ⟨0, Nat.zero_le _, rfl, HX1⟩
    case round =>
      clear HX1
      obtain ⟨a, haN, rfl, HX⟩ := hrel
      by_cases hak : a < k
      case pos =>
        have hda : decide ((a : Int) < (k : Int)) = true := decide_eq_true (by omega)
        have hda2 : a < k := hak
        obtain ⟨mg, mcap, hv, _⟩ := own_form (HX.out.row (i := 0) rfl) (show 0 < k by omega)
        injection hv with hv _ hcp
        subst hv
        subst hcp
        obtain ⟨r, hr⟩ : ∃ r, rs[a]? = some r := ⟨_, List.getElem?_eq_getElem (by have := HRL.out; omega)⟩
        have HR := Lib.hid hr
        have HRE : Hid (∀ z, Below w.heap.size w z → r.En z) := Lib.hid fun z hz => HSR.out.en r (List.mem_of_getElem? hr) z hz
        have HMA : Hid (m[a]? = some r.e) := Lib.hid (HSR.out.at_ hr)
        obtain ⟨cv, hcv⟩ : ∃ z, z = cmpE r.e e := ⟨_, rfl⟩
        have HCV := Lib.hid hcv.symm
        have HIF : Hid (cv < 0 ↔ a < N) := Lib.hid (by
          have h := tw_iff (p := fun x => decide (cmpE x e < 0)) HMA.out (by have := HN.out; unfold insN at this; omega)
          rw [hcv, HN.out]
          simpa [insN] using h)
        have j1 : (0 : Int) ≤ (a : Int) := by omega
        have j2 : (a : Int) < (k : Int) := by omega
        clear hr hcv
        by_cases haN2 : a < N
        case pos =>
          have hcv0 : cv < 0 := HIF.out.2 haN2
          have hdc : decide (cv < 0) = true := decide_eq_true hcv0
          go_wp2_with fail
          refine lt_start [] (by kernel_rfl) ?_
          intro xd hd
          refine ⟨fun z => OW w [rowO 37 7 (.slice (some ⟨mg, 0, none⟩) k mc) k (rs.flatMap ER.cells)] z, ?_⟩
          have HS := Lib.hid (HX.out.later hd)
          refine lt_pure 0 rfl (by kernel_rfl) (by kernel_rfl) (by kernel_rfl) (by kernel_rfl) (fun _ _ _ h => h) (v := ?_) (yi_run rfl (fun w => ?_)) (fun _ => HS.out) ?_
          rotate_left
          · first | (go_simp; done) | (go_simp; with_reducible rfl)
          simp only [Act.put, List.setIfInBounds_toArray, List.set_cons_zero, List.set_cons_succ]
          refine lt_pure 1 rfl (by kernel_rfl) (by kernel_rfl) (by kernel_rfl) (by kernel_rfl) (fun _ _ _ h => h) (v := ?_) (yi_run rfl (fun w => ?_)) (fun _ => HS.out) ?_
          rotate_left
          · first | (go_simp; done) | (go_simp; with_reducible rfl)
          simp only [Act.put, List.setIfInBounds_toArray, List.set_cons_zero, List.set_cons_succ]
          refine lt_pure 2 rfl (by kernel_rfl) (by kernel_rfl) (by kernel_rfl) (by kernel_rfl) (fun _ _ _ h => h) (v := ?_) (yi_run rfl (fun w => ?_)) (fun _ => HS.out) ?_
          rotate_left
          · first | (go_simp; done) | (go_simp; with_reducible rfl)
          simp only [Act.put, List.setIfInBounds_toArray, List.set_cons_zero, List.set_cons_succ]
          refine lt_pure 3 rfl (by kernel_rfl) (by kernel_rfl) (by kernel_rfl) (by kernel_rfl) (fun _ _ _ h => h) (v := ?_) (yi_run rfl (fun w => ?_)) (fun _ => HS.out) ?_
          rotate_left
          · first | (go_simp; done) | (go_simp; with_reducible rfl)
          simp only [Act.put, List.setIfInBounds_toArray, List.set_cons_zero, List.set_cons_succ]
          refine lt_pure 4 rfl (by kernel_rfl) (by kernel_rfl) (by kernel_rfl) (by kernel_rfl) (fun _ _ _ h => h) (v := ?_) (yi_run rfl (fun w => ?_)) (fun _ => HS.out) ?_
          rotate_left
          · first | (go_simp; done) | (go_simp; with_reducible rfl)
          simp only [Act.put, List.setIfInBounds_toArray, List.set_cons_zero, List.set_cons_succ]
          refine lt_pure 5 rfl (by kernel_rfl) (by kernel_rfl) (by kernel_rfl) (by kernel_rfl) (fun _ _ _ h => h) (v := ?_) (yi_run rfl (fun w => ?_)) (fun _ => HS.out) ?_
          rotate_left
          · first | (go_simp; done) | (go_simp; with_reducible rfl)
          simp only [Act.put, List.setIfInBounds_toArray, List.set_cons_zero, List.set_cons_succ]
          refine lt_pure 6 rfl (by kernel_rfl) (by kernel_rfl) (by kernel_rfl) (by kernel_rfl) (fun _ _ _ h => h) (v := ?_) (yi_run rfl (fun w => ?_)) (fun _ => HS.out) ?_
          rotate_left
          · first | (go_simp; done) | (go_simp; with_reducible rfl)
          simp only [Act.put, List.setIfInBounds_toArray, List.set_cons_zero, List.set_cons_succ]
          refine lt_pure 7 rfl (by kernel_rfl) (by kernel_rfl) (by kernel_rfl) (by kernel_rfl) (fun _ _ _ h => h) (v := ?_) (yi_run rfl (fun w => ?_)) (fun _ => HS.out) ?_
          rotate_left
          · first | (go_simp; done) | (go_simp; with_reducible rfl)
          simp only [Act.put, List.setIfInBounds_toArray, List.set_cons_zero, List.set_cons_succ]
          refine lt_take 8 [13, 14, 15] rfl (by kernel_rfl) (by kernel_rfl) (by kernel_rfl) (by kernel_rfl) (by kernel_rfl) (fun _ _ _ h => h) (yi_rowO rfl rfl rfl (fun w hS => OW.rowRange hS (i := 0) rfl HR.out) ent_row5) HS.out ?_
          simp only [Act.put, List.setIfInBounds_toArray, List.set_cons_zero, List.set_cons_succ]
          refine lt_pure 9 rfl (by kernel_rfl) (by kernel_rfl) (by kernel_rfl) (by kernel_rfl) (fun _ _ _ h => h) (v := ?_) (yi_run rfl (fun w => ?_)) (fun _ => HS.out) ?_
          rotate_left
          · first | (go_simp; done) | (go_simp; with_reducible rfl)
          simp only [Act.put, List.setIfInBounds_toArray, List.set_cons_zero, List.set_cons_succ]
          refine lt_pure 10 rfl (by kernel_rfl) (by kernel_rfl) (by kernel_rfl) (by kernel_rfl) (fun _ _ _ h => h) (v := ?_) (yi_run rfl (fun w => ?_)) (fun _ => HS.out) ?_
          rotate_left
          · first | (go_simp; done) | (go_simp; with_reducible rfl)
          simp only [Act.put, List.setIfInBounds_toArray, List.set_cons_zero, List.set_cons_succ]
          refine lt_pure 11 rfl (by kernel_rfl) (by kernel_rfl) (by kernel_rfl) (by kernel_rfl) (fun _ _ _ h => h) (v := ?_) (yi_run rfl (fun w => ?_)) (fun _ => HS.out) ?_
          rotate_left
          · first | (go_simp; done) | (go_simp; with_reducible rfl)
          simp only [Act.put, List.setIfInBounds_toArray, List.set_cons_zero, List.set_cons_succ]
          refine lt_take 12 [13, 14, 15] rfl (by kernel_rfl) (by kernel_rfl) (by kernel_rfl) (by kernel_rfl) (by kernel_rfl) (fun _ _ _ h => h) (yi_rowO rfl rfl rfl (fun w hS => HRG.out _ (OW.up hS)) ent_row5) HS.out ?_
          simp only [Act.put, List.setIfInBounds_toArray, List.set_cons_zero, List.set_cons_succ]
          refine lt_call 13 rfl (by kernel_rfl) rfl rfl ⟨_, Tryd.func43, by decide, by kernel_rfl⟩ [entV r.A r.e.row.length r.c r.B r.e.qual.length r.d r.D r.e.val.length r.q r.e, entV Ar e.row.length ec B e.qual.length d D e.val.length q e] rfl ?_
          refine (rcompare_any r.e e r.A _ r.c r.B _ r.d r.D _ r.q Ar _ ec B _ d D _ q _ (HRE.out _ HS.out.up) (HEN.out _ HS.out.up)).mono ?_
          rw [HCV.out]
          rintro rr z9 ⟨rfl, hb⟩
          replace HS := Lib.hid (HS.out.later hb)
          clear hb
          refine ⟨_, rfl, fun _ => HS.out, ?_⟩
          simp only [Act.put, List.setIfInBounds_toArray, List.set_cons_zero, List.set_cons_succ]
          refine lt_pure 14 rfl (by kernel_rfl) (by kernel_rfl) (by kernel_rfl) (by kernel_rfl) (fun _ _ _ h => h) (v := ?_) (yi_run rfl (fun w => ?_)) (fun _ => HS.out) ?_
          rotate_left
          · first | (go_simp; done) | (go_simp; with_reducible rfl)
          simp only [Act.put, List.setIfInBounds_toArray, List.set_cons_zero, List.set_cons_succ]
          refine lt_pure 15 rfl (by kernel_rfl) (by kernel_rfl) (by kernel_rfl) (by kernel_rfl) (fun _ _ _ h => h) (v := ?_) (yi_run rfl (fun w => ?_)) (fun _ => HS.out) ?_
          rotate_left
          · first | (go_simp; done) | (go_simp; with_reducible rfl)
          simp only [Act.put, List.setIfInBounds_toArray, List.set_cons_zero, List.set_cons_succ]
          refine lt_done (by kernel_rfl) ?_
          have HS9 := HS
          clear HS
          have HX2 := Lib.hid HS9.out
          clear HS9 HX
          go_wp2_with fail
          go_roundw
          case rel => exact ⟨a + 1, by omega, by go_num, HX2⟩
          case measure => simp [intOf]; omega
        have hcv0 : ¬ cv < 0 := fun h => haN2 (HIF.out.1 h)
        have hdc : decide (cv < 0) = false := decide_eq_false hcv0
        have HAN : Hid (a = N) := Lib.hid (by omega)
        go_wp2_with fail
        refine lt_start [] (by kernel_rfl) ?_
        intro xd hd
        refine ⟨fun z => OW w [rowO 37 7 (.slice (some ⟨mg, 0, none⟩) k mc) k (rs.flatMap ER.cells)] z, ?_⟩
        have HS := Lib.hid (HX.out.later hd)
        refine lt_pure 0 rfl (by kernel_rfl) (by kernel_rfl) (by kernel_rfl) (by kernel_rfl) (fun _ _ _ h => h) (v := ?_) (yi_run rfl (fun w => ?_)) (fun _ => HS.out) ?_
        rotate_left
        · first | (go_simp; done) | (go_simp; with_reducible rfl)
        simp only [Act.put, List.setIfInBounds_toArray, List.set_cons_zero, List.set_cons_succ]
        refine lt_pure 1 rfl (by kernel_rfl) (by kernel_rfl) (by kernel_rfl) (by kernel_rfl) (fun _ _ _ h => h) (v := ?_) (yi_run rfl (fun w => ?_)) (fun _ => HS.out) ?_
        rotate_left
        · first | (go_simp; done) | (go_simp; with_reducible rfl)
        simp only [Act.put, List.setIfInBounds_toArray, List.set_cons_zero, List.set_cons_succ]
        refine lt_pure 2 rfl (by kernel_rfl) (by kernel_rfl) (by kernel_rfl) (by kernel_rfl) (fun _ _ _ h => h) (v := ?_) (yi_run rfl (fun w => ?_)) (fun _ => HS.out) ?_
        rotate_left
        · first | (go_simp; done) | (go_simp; with_reducible rfl)
        simp only [Act.put, List.setIfInBounds_toArray, List.set_cons_zero, List.set_cons_succ]
        refine lt_pure 3 rfl (by kernel_rfl) (by kernel_rfl) (by kernel_rfl) (by kernel_rfl) (fun _ _ _ h => h) (v := ?_) (yi_run rfl (fun w => ?_)) (fun _ => HS.out) ?_
        rotate_left
        · first | (go_simp; done) | (go_simp; with_reducible rfl)
        simp only [Act.put, List.setIfInBounds_toArray, List.set_cons_zero, List.set_cons_succ]
        refine lt_pure 4 rfl (by kernel_rfl) (by kernel_rfl) (by kernel_rfl) (by kernel_rfl) (fun _ _ _ h => h) (v := ?_) (yi_run rfl (fun w => ?_)) (fun _ => HS.out) ?_
        rotate_left
        · first | (go_simp; done) | (go_simp; with_reducible rfl)
        simp only [Act.put, List.setIfInBounds_toArray, List.set_cons_zero, List.set_cons_succ]
        refine lt_pure 5 rfl (by kernel_rfl) (by kernel_rfl) (by kernel_rfl) (by kernel_rfl) (fun _ _ _ h => h) (v := ?_) (yi_run rfl (fun w => ?_)) (fun _ => HS.out) ?_
        rotate_left
        · first | (go_simp; done) | (go_simp; with_reducible rfl)
        simp only [Act.put, List.setIfInBounds_toArray, List.set_cons_zero, List.set_cons_succ]
        refine lt_pure 6 rfl (by kernel_rfl) (by kernel_rfl) (by kernel_rfl) (by kernel_rfl) (fun _ _ _ h => h) (v := ?_) (yi_run rfl (fun w => ?_)) (fun _ => HS.out) ?_
        rotate_left
        · first | (go_simp; done) | (go_simp; with_reducible rfl)
        simp only [Act.put, List.setIfInBounds_toArray, List.set_cons_zero, List.set_cons_succ]
        refine lt_pure 7 rfl (by kernel_rfl) (by kernel_rfl) (by kernel_rfl) (by kernel_rfl) (fun _ _ _ h => h) (v := ?_) (yi_run rfl (fun w => ?_)) (fun _ => HS.out) ?_
        rotate_left
        · first | (go_simp; done) | (go_simp; with_reducible rfl)
        simp only [Act.put, List.setIfInBounds_toArray, List.set_cons_zero, List.set_cons_succ]
        refine lt_take 8 [13, 14, 15] rfl (by kernel_rfl) (by kernel_rfl) (by kernel_rfl) (by kernel_rfl) (by kernel_rfl) (fun _ _ _ h => h) (yi_rowO rfl rfl rfl (fun w hS => OW.rowRange hS (i := 0) rfl HR.out) ent_row5) HS.out ?_
        simp only [Act.put, List.setIfInBounds_toArray, List.set_cons_zero, List.set_cons_succ]
        refine lt_pure 9 rfl (by kernel_rfl) (by kernel_rfl) (by kernel_rfl) (by kernel_rfl) (fun _ _ _ h => h) (v := ?_) (yi_run rfl (fun w => ?_)) (fun _ => HS.out) ?_
        rotate_left
        · first | (go_simp; done) | (go_simp; with_reducible rfl)
        simp only [Act.put, List.setIfInBounds_toArray, List.set_cons_zero, List.set_cons_succ]
        refine lt_pure 10 rfl (by kernel_rfl) (by kernel_rfl) (by kernel_rfl) (by kernel_rfl) (fun _ _ _ h => h) (v := ?_) (yi_run rfl (fun w => ?_)) (fun _ => HS.out) ?_
        rotate_left
        · first | (go_simp; done) | (go_simp; with_reducible rfl)
        simp only [Act.put, List.setIfInBounds_toArray, List.set_cons_zero, List.set_cons_succ]
        refine lt_pure 11 rfl (by kernel_rfl) (by kernel_rfl) (by kernel_rfl) (by kernel_rfl) (fun _ _ _ h => h) (v := ?_) (yi_run rfl (fun w => ?_)) (fun _ => HS.out) ?_
        rotate_left
        · first | (go_simp; done) | (go_simp; with_reducible rfl)
        simp only [Act.put, List.setIfInBounds_toArray, List.set_cons_zero, List.set_cons_succ]
        refine lt_take 12 [13, 14, 15] rfl (by kernel_rfl) (by kernel_rfl) (by kernel_rfl) (by kernel_rfl) (by kernel_rfl) (fun _ _ _ h => h) (yi_rowO rfl rfl rfl (fun w hS => HRG.out _ (OW.up hS)) ent_row5) HS.out ?_
        simp only [Act.put, List.setIfInBounds_toArray, List.set_cons_zero, List.set_cons_succ]
        refine lt_call 13 rfl (by kernel_rfl) rfl rfl ⟨_, Tryd.func43, by decide, by kernel_rfl⟩ [entV r.A r.e.row.length r.c r.B r.e.qual.length r.d r.D r.e.val.length r.q r.e, entV Ar e.row.length ec B e.qual.length d D e.val.length q e] rfl ?_
        refine (rcompare_any r.e e r.A _ r.c r.B _ r.d r.D _ r.q Ar _ ec B _ d D _ q _ (HRE.out _ HS.out.up) (HEN.out _ HS.out.up)).mono ?_
        rw [HCV.out]
        rintro rr z9 ⟨rfl, hb⟩
        replace HS := Lib.hid (HS.out.later hb)
        clear hb
        refine ⟨_, rfl, fun _ => HS.out, ?_⟩
        simp only [Act.put, List.setIfInBounds_toArray, List.set_cons_zero, List.set_cons_succ]
        refine lt_pure 14 rfl (by kernel_rfl) (by kernel_rfl) (by kernel_rfl) (by kernel_rfl) (fun _ _ _ h => h) (v := ?_) (yi_run rfl (fun w => ?_)) (fun _ => HS.out) ?_
        rotate_left
        · first | (go_simp; done) | (go_simp; with_reducible rfl)
        simp only [Act.put, List.setIfInBounds_toArray, List.set_cons_zero, List.set_cons_succ]
        refine lt_pure 15 rfl (by kernel_rfl) (by kernel_rfl) (by kernel_rfl) (by kernel_rfl) (fun _ _ _ h => h) (v := ?_) (yi_run rfl (fun w => ?_)) (fun _ => HS.out) ?_
        rotate_left
        · first | (go_simp; done) | (go_simp; with_reducible rfl)
        simp only [Act.put, List.setIfInBounds_toArray, List.set_cons_zero, List.set_cons_succ]
        refine lt_done (by kernel_rfl) ?_
        have HS9 := HS
        clear HS
        have HX2 := Lib.hid HS9.out
        clear HS9 HX
        go_wp2_with fail
        by_cases hc0 : cv = 0
        case pos =>
          have hde : (cv == 0) = true := by rw [hc0]; rfl
          have HIN : Hid (insE m e = m) := Lib.hid (by
            unfold insE
            rw [if_pos]
            unfold hitB
            rw [← HN.out, ← HAN.out, HMA.out]
            show (cmpE r.e e == 0) = true
            rw [HCV.out]; exact hde)
          clear hc0 hcv0
          refine lt_start [] (by kernel_rfl) ?_
          intro xd hd
          refine ⟨fun z => OW w [rowO 37 7 (.slice (some ⟨mg, 0, none⟩) k mc) k (rs.flatMap ER.cells)] z, ?_⟩
          have HS := Lib.hid (HX2.out.later hd)
          refine lt_pure 0 rfl (by kernel_rfl) (by kernel_rfl) (by kernel_rfl) (by kernel_rfl) (fun _ _ _ h => h) (v := ?_) (yi_run rfl (fun w => ?_)) (fun _ => HS.out) ?_
          rotate_left
          · first | (go_simp; done) | (go_simp; with_reducible rfl)
          simp only [Act.put, List.setIfInBounds_toArray, List.set_cons_zero, List.set_cons_succ]
          refine lt_pure 1 rfl (by kernel_rfl) (by kernel_rfl) (by kernel_rfl) (by kernel_rfl) (fun _ _ _ h => h) (v := ?_) (yi_run rfl (fun w => ?_)) (fun _ => HS.out) ?_
          rotate_left
          · first | (go_simp; done) | (go_simp; with_reducible rfl)
          simp only [Act.put, List.setIfInBounds_toArray, List.set_cons_zero, List.set_cons_succ]
          refine lt_pure 2 rfl (by kernel_rfl) (by kernel_rfl) (by kernel_rfl) (by kernel_rfl) (fun _ _ _ h => h) (v := ?_) (yi_run rfl (fun w => ?_)) (fun _ => HS.out) ?_
          rotate_left
          · first | (go_simp; done) | (go_simp; with_reducible rfl)
          simp only [Act.put, List.setIfInBounds_toArray, List.set_cons_zero, List.set_cons_succ]
          refine lt_pure 3 rfl (by kernel_rfl) (by kernel_rfl) (by kernel_rfl) (by kernel_rfl) (fun _ _ _ h => h) (v := ?_) (yi_run rfl (fun w => ?_)) (fun _ => HS.out) ?_
          rotate_left
          · first | (go_simp; done) | (go_simp; with_reducible rfl)
          simp only [Act.put, List.setIfInBounds_toArray, List.set_cons_zero, List.set_cons_succ]
          refine lt_pure 4 rfl (by kernel_rfl) (by kernel_rfl) (by kernel_rfl) (by kernel_rfl) (fun _ _ _ h => h) (v := ?_) (yi_run rfl (fun w => ?_)) (fun _ => HS.out) ?_
          rotate_left
          · first | (go_simp; done) | (go_simp; with_reducible rfl)
          simp only [Act.put, List.setIfInBounds_toArray, List.set_cons_zero, List.set_cons_succ]
          refine lt_pure 5 rfl (by kernel_rfl) (by kernel_rfl) (by kernel_rfl) (by kernel_rfl) (fun _ _ _ h => h) (v := ?_) (yi_run rfl (fun w => ?_)) (fun _ => HS.out) ?_
          rotate_left
          · first | (go_simp; done) | (go_simp; with_reducible rfl)
          simp only [Act.put, List.setIfInBounds_toArray, List.set_cons_zero, List.set_cons_succ]
          refine lt_pure 6 rfl (by kernel_rfl) (by kernel_rfl) (by kernel_rfl) (by kernel_rfl) (fun _ _ _ h => h) (v := ?_) (yi_run rfl (fun w => ?_)) (fun _ => HS.out) ?_
          rotate_left
          · first | (go_simp; done) | (go_simp; with_reducible rfl)
          simp only [Act.put, List.setIfInBounds_toArray, List.set_cons_zero, List.set_cons_succ]
          refine lt_pure 7 rfl (by kernel_rfl) (by kernel_rfl) (by kernel_rfl) (by kernel_rfl) (fun _ _ _ h => h) (v := ?_) (yi_run rfl (fun w => ?_)) (fun _ => HS.out) ?_
          rotate_left
          · first | (go_simp; done) | (go_simp; with_reducible rfl)
          simp only [Act.put, List.setIfInBounds_toArray, List.set_cons_zero, List.set_cons_succ]
          refine lt_take 8 [13, 14, 15] rfl (by kernel_rfl) (by kernel_rfl) (by kernel_rfl) (by kernel_rfl) (by kernel_rfl) (fun _ _ _ h => h) (yi_rowO rfl rfl rfl (fun w hS => OW.rowRange hS (i := 0) rfl HR.out) ent_row5) HS.out ?_
          simp only [Act.put, List.setIfInBounds_toArray, List.set_cons_zero, List.set_cons_succ]
          refine lt_pure 9 rfl (by kernel_rfl) (by kernel_rfl) (by kernel_rfl) (by kernel_rfl) (fun _ _ _ h => h) (v := ?_) (yi_run rfl (fun w => ?_)) (fun _ => HS.out) ?_
          rotate_left
          · first | (go_simp; done) | (go_simp; with_reducible rfl)
          simp only [Act.put, List.setIfInBounds_toArray, List.set_cons_zero, List.set_cons_succ]
          refine lt_pure 10 rfl (by kernel_rfl) (by kernel_rfl) (by kernel_rfl) (by kernel_rfl) (fun _ _ _ h => h) (v := ?_) (yi_run rfl (fun w => ?_)) (fun _ => HS.out) ?_
          rotate_left
          · first | (go_simp; done) | (go_simp; with_reducible rfl)
          simp only [Act.put, List.setIfInBounds_toArray, List.set_cons_zero, List.set_cons_succ]
          refine lt_pure 11 rfl (by kernel_rfl) (by kernel_rfl) (by kernel_rfl) (by kernel_rfl) (fun _ _ _ h => h) (v := ?_) (yi_run rfl (fun w => ?_)) (fun _ => HS.out) ?_
          rotate_left
          · first | (go_simp; done) | (go_simp; with_reducible rfl)
          simp only [Act.put, List.setIfInBounds_toArray, List.set_cons_zero, List.set_cons_succ]
          refine lt_take 12 [13, 14, 15] rfl (by kernel_rfl) (by kernel_rfl) (by kernel_rfl) (by kernel_rfl) (by kernel_rfl) (fun _ _ _ h => h) (yi_rowO rfl rfl rfl (fun w hS => HRG.out _ (OW.up hS)) ent_row5) HS.out ?_
          simp only [Act.put, List.setIfInBounds_toArray, List.set_cons_zero, List.set_cons_succ]
          refine lt_call 13 rfl (by kernel_rfl) rfl rfl ⟨_, Tryd.func43, by decide, by kernel_rfl⟩ [entV r.A r.e.row.length r.c r.B r.e.qual.length r.d r.D r.e.val.length r.q r.e, entV Ar e.row.length ec B e.qual.length d D e.val.length q e] rfl ?_
          refine (rcompare_any r.e e r.A _ r.c r.B _ r.d r.D _ r.q Ar _ ec B _ d D _ q _ (HRE.out _ HS.out.up) (HEN.out _ HS.out.up)).mono ?_
          rw [HCV.out]
          rintro rr z9 ⟨rfl, hb⟩
          replace HS := Lib.hid (HS.out.later hb)
          clear hb
          refine ⟨_, rfl, fun _ => HS.out, ?_⟩
          simp only [Act.put, List.setIfInBounds_toArray, List.set_cons_zero, List.set_cons_succ]
          refine lt_pure 14 rfl (by kernel_rfl) (by kernel_rfl) (by kernel_rfl) (by kernel_rfl) (fun _ _ _ h => h) (v := ?_) (yi_run rfl (fun w => ?_)) (fun _ => HS.out) ?_
          rotate_left
          · first | (go_simp; done) | (go_simp; with_reducible rfl)
          simp only [Act.put, List.setIfInBounds_toArray, List.set_cons_zero, List.set_cons_succ]
          refine lt_pure 15 rfl (by kernel_rfl) (by kernel_rfl) (by kernel_rfl) (by kernel_rfl) (fun _ _ _ h => h) (v := ?_) (yi_run rfl (fun w => ?_)) (fun _ => HS.out) ?_
          rotate_left
          · first | (go_simp; done) | (go_simp; with_reducible rfl)
          simp only [Act.put, List.setIfInBounds_toArray, List.set_cons_zero, List.set_cons_succ]
          refine lt_done (by kernel_rfl) ?_
          have HS9 := HS
          clear HS
          have HX3 := Lib.hid HS9.out
          clear HS9 HX2
          go_wp2_with fail
          go_roundw
          case rel => exact ⟨i + 1, k, some ⟨mg, 0, none⟩, mc, rs, by omega, by omega, by omega, by go_num, rfl, HRL, Lib.hid (by rw [HTK.out, HST.out, HIN.out]; exact HSR.out), HX3⟩
          case measure => simp [intOf]; omega
        have hde : (cv == 0) = false := beq_eq_false_iff_ne.2 hc0
        have HIN : Hid (insE m e = m.take N ++ e :: m.drop N) := Lib.hid (by
          unfold insE
          rw [if_neg, ← HN.out]
          intro h
          unfold hitB at h
          rw [← HN.out, ← HAN.out, HMA.out] at h
          have h : (cmpE r.e e == 0) = true := h
          rw [HCV.out, hde] at h; cases h)
        clear hc0 hcv0
        refine lt_start [] (by kernel_rfl) ?_
        intro xd hd
        refine ⟨fun z => OW w [rowO 37 7 (.slice (some ⟨mg, 0, none⟩) k mc) k (rs.flatMap ER.cells)] z, ?_⟩
        have HS := Lib.hid (HX2.out.later hd)
        refine lt_pure 0 rfl (by kernel_rfl) (by kernel_rfl) (by kernel_rfl) (by kernel_rfl) (fun _ _ _ h => h) (v := ?_) (yi_run rfl (fun w => ?_)) (fun _ => HS.out) ?_
        rotate_left
        · first | (go_simp; done) | (go_simp; with_reducible rfl)
        simp only [Act.put, List.setIfInBounds_toArray, List.set_cons_zero, List.set_cons_succ]
        refine lt_pure 1 rfl (by kernel_rfl) (by kernel_rfl) (by kernel_rfl) (by kernel_rfl) (fun _ _ _ h => h) (v := ?_) (yi_run rfl (fun w => ?_)) (fun _ => HS.out) ?_
        rotate_left
        · first | (go_simp; done) | (go_simp; with_reducible rfl)
        simp only [Act.put, List.setIfInBounds_toArray, List.set_cons_zero, List.set_cons_succ]
        refine lt_pure 2 rfl (by kernel_rfl) (by kernel_rfl) (by kernel_rfl) (by kernel_rfl) (fun _ _ _ h => h) (v := ?_) (yi_run rfl (fun w => ?_)) (fun _ => HS.out) ?_
        rotate_left
        · first | (go_simp; done) | (go_simp; with_reducible rfl)
        simp only [Act.put, List.setIfInBounds_toArray, List.set_cons_zero, List.set_cons_succ]
        refine lt_pure 3 rfl (by kernel_rfl) (by kernel_rfl) (by kernel_rfl) (by kernel_rfl) (fun _ _ _ h => h) (v := ?_) (yi_run rfl (fun w => ?_)) (fun _ => HS.out) ?_
        rotate_left
        · first | (go_simp; done) | (go_simp; with_reducible rfl)
        simp only [Act.put, List.setIfInBounds_toArray, List.set_cons_zero, List.set_cons_succ]
        refine lt_pure 4 rfl (by kernel_rfl) (by kernel_rfl) (by kernel_rfl) (by kernel_rfl) (fun _ _ _ h => h) (v := ?_) (yi_run rfl (fun w => ?_)) (fun _ => HS.out) ?_
        rotate_left
        · first | (go_simp; done) | (go_simp; with_reducible rfl)
        simp only [Act.put, List.setIfInBounds_toArray, List.set_cons_zero, List.set_cons_succ]
        refine lt_pure 5 rfl (by kernel_rfl) (by kernel_rfl) (by kernel_rfl) (by kernel_rfl) (fun _ _ _ h => h) (v := ?_) (yi_run rfl (fun w => ?_)) (fun _ => HS.out) ?_
        rotate_left
        · first | (go_simp; done) | (go_simp; with_reducible rfl)
        simp only [Act.put, List.setIfInBounds_toArray, List.set_cons_zero, List.set_cons_succ]
        refine lt_pure 6 rfl (by kernel_rfl) (by kernel_rfl) (by kernel_rfl) (by kernel_rfl) (fun _ _ _ h => h) (v := ?_) (yi_run rfl (fun w => ?_)) (fun _ => HS.out) ?_
        rotate_left
        · first | (go_simp; done) | (go_simp; with_reducible rfl)
        simp only [Act.put, List.setIfInBounds_toArray, List.set_cons_zero, List.set_cons_succ]
        refine lt_pure 7 rfl (by kernel_rfl) (by kernel_rfl) (by kernel_rfl) (by kernel_rfl) (fun _ _ _ h => h) (v := ?_) (yi_run rfl (fun w => ?_)) (fun _ => HS.out) ?_
        rotate_left
        · first | (go_simp; done) | (go_simp; with_reducible rfl)
        simp only [Act.put, List.setIfInBounds_toArray, List.set_cons_zero, List.set_cons_succ]
        refine lt_take 8 [13, 14, 15] rfl (by kernel_rfl) (by kernel_rfl) (by kernel_rfl) (by kernel_rfl) (by kernel_rfl) (fun _ _ _ h => h) (yi_rowO rfl rfl rfl (fun w hS => OW.rowRange hS (i := 0) rfl HR.out) ent_row5) HS.out ?_
        simp only [Act.put, List.setIfInBounds_toArray, List.set_cons_zero, List.set_cons_succ]
        refine lt_pure 9 rfl (by kernel_rfl) (by kernel_rfl) (by kernel_rfl) (by kernel_rfl) (fun _ _ _ h => h) (v := ?_) (yi_run rfl (fun w => ?_)) (fun _ => HS.out) ?_
        rotate_left
        · first | (go_simp; done) | (go_simp; with_reducible rfl)
        simp only [Act.put, List.setIfInBounds_toArray, List.set_cons_zero, List.set_cons_succ]
        refine lt_pure 10 rfl (by kernel_rfl) (by kernel_rfl) (by kernel_rfl) (by kernel_rfl) (fun _ _ _ h => h) (v := ?_) (yi_run rfl (fun w => ?_)) (fun _ => HS.out) ?_
        rotate_left
        · first | (go_simp; done) | (go_simp; with_reducible rfl)
        simp only [Act.put, List.setIfInBounds_toArray, List.set_cons_zero, List.set_cons_succ]
        refine lt_pure 11 rfl (by kernel_rfl) (by kernel_rfl) (by kernel_rfl) (by kernel_rfl) (fun _ _ _ h => h) (v := ?_) (yi_run rfl (fun w => ?_)) (fun _ => HS.out) ?_
        rotate_left
        · first | (go_simp; done) | (go_simp; with_reducible rfl)
        simp only [Act.put, List.setIfInBounds_toArray, List.set_cons_zero, List.set_cons_succ]
        refine lt_take 12 [13, 14, 15] rfl (by kernel_rfl) (by kernel_rfl) (by kernel_rfl) (by kernel_rfl) (by kernel_rfl) (fun _ _ _ h => h) (yi_rowO rfl rfl rfl (fun w hS => HRG.out _ (OW.up hS)) ent_row5) HS.out ?_
        simp only [Act.put, List.setIfInBounds_toArray, List.set_cons_zero, List.set_cons_succ]
        refine lt_call 13 rfl (by kernel_rfl) rfl rfl ⟨_, Tryd.func43, by decide, by kernel_rfl⟩ [entV r.A r.e.row.length r.c r.B r.e.qual.length r.d r.D r.e.val.length r.q r.e, entV Ar e.row.length ec B e.qual.length d D e.val.length q e] rfl ?_
        refine (rcompare_any r.e e r.A _ r.c r.B _ r.d r.D _ r.q Ar _ ec B _ d D _ q _ (HRE.out _ HS.out.up) (HEN.out _ HS.out.up)).mono ?_
        rw [HCV.out]
        rintro rr z9 ⟨rfl, hb⟩
        replace HS := Lib.hid (HS.out.later hb)
        clear hb
        refine ⟨_, rfl, fun _ => HS.out, ?_⟩
        simp only [Act.put, List.setIfInBounds_toArray, List.set_cons_zero, List.set_cons_succ]
        refine lt_pure 14 rfl (by kernel_rfl) (by kernel_rfl) (by kernel_rfl) (by kernel_rfl) (fun _ _ _ h => h) (v := ?_) (yi_run rfl (fun w => ?_)) (fun _ => HS.out) ?_
        rotate_left
        · first | (go_simp; done) | (go_simp; with_reducible rfl)
        simp only [Act.put, List.setIfInBounds_toArray, List.set_cons_zero, List.set_cons_succ]
        refine lt_pure 15 rfl (by kernel_rfl) (by kernel_rfl) (by kernel_rfl) (by kernel_rfl) (fun _ _ _ h => h) (v := ?_) (yi_run rfl (fun w => ?_)) (fun _ => HS.out) ?_
        rotate_left
        · first | (go_simp; done) | (go_simp; with_reducible rfl)
        simp only [Act.put, List.setIfInBounds_toArray, List.set_cons_zero, List.set_cons_succ]
        refine lt_done (by kernel_rfl) ?_
        have HS9 := HS
        clear HS
        have HX3 := Lib.hid HS9.out
        clear HS9 HX2
        have HIA : Hid (insE m e = m.take a ++ e :: m.drop a) := Lib.hid (by rw [HIN.out, HAN.out])
        have hkmc : k ≤ mc := by
          rcases (HX3.out.row (i := 0) rfl).2 with ⟨h1, h2⟩ | ⟨g, cap, _, h1, _, _, h2, _⟩
          · injection h1 with h1; cases h1
          · injection h1 with _ _ h4; omega
        have k6 : mc ≠ a := by omega
        have k7 : ¬ a = mc := by omega
        have HN0 := Lib.hid (HX3.out.nilRow 37 7)
        have tk1 : True := trivial
        have tk2 : True := trivial
        go_wp2_with (first
          | (at_builtin; have _t := tk1; go_must (refine wl_append rfl (.tmp 57) (.tmp 60) rfl Tryd.entsS HN0.out 1 rfl rfl _ (some ⟨mg, 0, none⟩) a mc ((rs.flatMap ER.cells).take (a * 7)) rfl ((Reads.own (HN0.out.row (i := 0) rfl)).take (by omega)) (fun u hu => cells_one (List.mem_of_mem_take hu)) (by unfold maxLen; omega) (by omega) ?_); intro A1 c1 z1 hz _; rw [Nat.zero_add] at hz; rw [Nat.zero_add]; have HX4 : Hid (OW w [rowO 37 7 (.slice (some ⟨mg, 0, none⟩) k mc) k (rs.flatMap ER.cells), rowO 37 7 (.slice A1 a c1) a ((rs.take a).flatMap ER.cells)] z1) := Lib.hid (by rw [← flat7_take]; exact hz); clear hz HN0 HX3 tk1)
          | (refine wpList_load_at rfl 37 (.tmp 65) rfl rfl (HRG.out _ HX4.out.up) ent_row5 ?_)
          | (refine wl_build rfl #[(0, .tmp 66)] rfl #[.slice Ar e.row.length ec, .int .i64 e.fam, .slice B e.qual.length d, .int .i64 e.ts, .int .i64 e.seq, .int .i64 e.kind, .slice D e.val.length q] Tryd.entsS (.agg #[.slice none 0 0, .int .i64 0, .slice none 0 0, .int .i64 0, .int .i64 0, .int .i64 0, .slice none 0 0]) (by kernel_rfl) (by decide) (by decide) (by decide) rfl (by kernel_rfl) HX4.out ?_; intro g5 z5 hz _; have HX5 := Lib.hid hz; clear hz HX4)
          | (at_builtin; have _t := tk2; go_must (refine wl_append rfl (.tmp 62) (.tmp 67) rfl Tryd.entsS HX5.out 1 rfl rfl _ (some ⟨g5, 0, none⟩) 1 1 [.slice Ar e.row.length ec, .int .i64 e.fam, .slice B e.qual.length d, .int .i64 e.ts, .int .i64 e.seq, .int .i64 e.kind, .slice D e.val.length q] rfl (Reads.own (HX5.out.row (i := 2) rfl)) (by simp [Value.oneCell']) (by unfold maxLen; omega) (by omega) ?_); intro A6 c6 z6 hz _; have HX6 := Lib.hid (hz.erase 2); clear hz HX5 tk2)
          | (at_builtin; go_must (refine wl_append rfl (.tmp 69) (.tmp 72) rfl Tryd.entsS HX6.out 1 rfl rfl _ (some ⟨mg, a * 7, none⟩) (k - a) (mc - a) ((rs.flatMap ER.cells).drop (a * 7)) rfl (reads_drop0 (Reads.own (HX6.out.row (i := 0) rfl)) (by omega)) (fun u hu => cells_one (List.mem_of_mem_drop hu)) (by unfold maxLen; omega) (by omega) ?_); intro A7 c7 z7 hz _; have HX7 := Lib.hid (hz.erase 0); clear hz HX6))
        go_roundw
        case rel =>
          have e1 : (rs.take a ++ (⟨Ar, ec, B, d, D, q, e⟩ : ER) :: rs.drop a).flatMap ER.cells = (rs.take a).flatMap ER.cells ++ [.slice Ar e.row.length ec, .int .i64 e.fam, .slice B e.qual.length d, .int .i64 e.ts, .int .i64 e.seq, .int .i64 e.kind, .slice D e.val.length q] ++ ((rs.flatMap ER.cells).drop (a * 7)) := by
            rw [List.flatMap_append, List.flatMap_cons, List.append_assoc]
            rw [flat7_drop]; rfl
          refine ⟨i + 1, a + 1 + (k - a), A7, c7, rs.take a ++ (⟨Ar, ec, B, d, D, q, e⟩ : ER) :: rs.drop a, by omega, by omega, by omega, by go_num, rfl, Lib.hid (by rw [List.length_append, List.length_cons, List.length_take, List.length_drop]; have := HRL.out; omega), Lib.hid ⟨?_, fun r hr z hz => ?_⟩, Lib.hid (by rw [e1]; exact HX7.out)⟩
          · rw [HTK.out, HST.out, HIA.out, List.map_append, List.map_cons, List.map_take, List.map_drop, HSR.out.ents]
          · rcases List.mem_append.1 hr with h1 | h1
            · exact HSR.out.en r (List.mem_of_mem_take h1) z hz
            · rcases List.mem_cons.1 h1 with rfl | h1
              · exact HEN.out z hz
              · exact HSR.out.en r (List.mem_of_mem_drop h1) z hz
        case measure => simp [intOf]; omega
      have hak2 : a = k := by omega
      have HAN : Hid (a = N) := Lib.hid (by omega)
      have HIN : Hid (insE m e = m.take a ++ e :: m.drop a) := Lib.hid (by
        have h9 : m[N]? = none := List.getElem?_eq_none (by have := HML.out; have := HAN.out; omega)
        unfold insE
        rw [if_neg, ← HN.out, HAN.out]
        intro h
        unfold hitB at h
        rw [← HN.out, h9] at h
        cases h)
      subst hak2
      have hda : decide ((a : Int) < (a : Int)) = false := decide_eq_false (by omega)
      have hda2 : ¬ a < a := by omega
      have HIA := HIN
      by_cases hmc : mc = a
      · subst hmc
        go_wp2_with fail
        refine lt_start [] (by kernel_rfl) ?_
        intro xd hd
        refine ⟨fun z => OW w [rowO 37 7 (.slice MA mc mc) mc (rs.flatMap ER.cells)] z, ?_⟩
        have HS := Lib.hid (HX.out.later hd)
        refine lt_pure 0 rfl (by kernel_rfl) (by kernel_rfl) (by kernel_rfl) (by kernel_rfl) (fun _ _ _ h => h) (v := ?_) (yi_run rfl (fun w => ?_)) (fun _ => HS.out) ?_
        rotate_left
        · first | (go_simp; done) | (go_simp; with_reducible rfl)
        simp only [Act.put, List.setIfInBounds_toArray, List.set_cons_zero, List.set_cons_succ]
        refine lt_pure 1 rfl (by kernel_rfl) (by kernel_rfl) (by kernel_rfl) (by kernel_rfl) (fun _ _ _ h => h) (v := ?_) (yi_run rfl (fun w => ?_)) (fun _ => HS.out) ?_
        rotate_left
        · first | (go_simp; done) | (go_simp; with_reducible rfl)
        simp only [Act.put, List.setIfInBounds_toArray, List.set_cons_zero, List.set_cons_succ]
        refine lt_pure 2 rfl (by kernel_rfl) (by kernel_rfl) (by kernel_rfl) (by kernel_rfl) (fun _ _ _ h => h) (v := ?_) (yi_run rfl (fun w => ?_)) (fun _ => HS.out) ?_
        rotate_left
        · first | (go_simp; done) | (go_simp; with_reducible rfl)
        simp only [Act.put, List.setIfInBounds_toArray, List.set_cons_zero, List.set_cons_succ]
        refine lt_pure 3 rfl (by kernel_rfl) (by kernel_rfl) (by kernel_rfl) (by kernel_rfl) (fun _ _ _ h => h) (v := ?_) (yi_run rfl (fun w => ?_)) (fun _ => HS.out) ?_
        rotate_left
        · first | (go_simp; done) | (go_simp; with_reducible rfl)
        simp only [Act.put, List.setIfInBounds_toArray, List.set_cons_zero, List.set_cons_succ]
        refine lt_pure 4 rfl (by kernel_rfl) (by kernel_rfl) (by kernel_rfl) (by kernel_rfl) (fun _ _ _ h => h) (v := ?_) (yi_run rfl (fun w => ?_)) (fun _ => HS.out) ?_
        rotate_left
        · first | (go_simp; done) | (go_simp; with_reducible rfl)
        simp only [Act.put, List.setIfInBounds_toArray, List.set_cons_zero, List.set_cons_succ]
        refine lt_skip 5 rfl (by kernel_rfl) (by kernel_rfl) (by kernel_rfl) (by kernel_rfl) (fun _ _ _ h => h) rfl (fun _ => HS.out) ?_
        simp only [Act.put, List.setIfInBounds_toArray, List.set_cons_zero, List.set_cons_succ]
        refine lt_skip 6 rfl (by kernel_rfl) (by kernel_rfl) (by kernel_rfl) (by kernel_rfl) (fun _ _ _ h => h) rfl (fun _ => HS.out) ?_
        simp only [Act.put, List.setIfInBounds_toArray, List.set_cons_zero, List.set_cons_succ]
        refine lt_skip 7 rfl (by kernel_rfl) (by kernel_rfl) (by kernel_rfl) (by kernel_rfl) (fun _ _ _ h => h) rfl (fun _ => HS.out) ?_
        simp only [Act.put, List.setIfInBounds_toArray, List.set_cons_zero, List.set_cons_succ]
        refine lt_skip 8 rfl (by kernel_rfl) (by kernel_rfl) (by kernel_rfl) (by kernel_rfl) (fun _ _ _ h => h) rfl (fun _ => HS.out) ?_
        simp only [Act.put, List.setIfInBounds_toArray, List.set_cons_zero, List.set_cons_succ]
        refine lt_skip 9 rfl (by kernel_rfl) (by kernel_rfl) (by kernel_rfl) (by kernel_rfl) (fun _ _ _ h => h) rfl (fun _ => HS.out) ?_
        simp only [Act.put, List.setIfInBounds_toArray, List.set_cons_zero, List.set_cons_succ]
        refine lt_skip 10 rfl (by kernel_rfl) (by kernel_rfl) (by kernel_rfl) (by kernel_rfl) (fun _ _ _ h => h) rfl (fun _ => HS.out) ?_
        simp only [Act.put, List.setIfInBounds_toArray, List.set_cons_zero, List.set_cons_succ]
        refine lt_skip 11 rfl (by kernel_rfl) (by kernel_rfl) (by kernel_rfl) (by kernel_rfl) (fun _ _ _ h => h) rfl (fun _ => HS.out) ?_
        simp only [Act.put, List.setIfInBounds_toArray, List.set_cons_zero, List.set_cons_succ]
        refine lt_skip 12 rfl (by kernel_rfl) (by kernel_rfl) (by kernel_rfl) (by kernel_rfl) (fun _ _ _ h => h) rfl (fun _ => HS.out) ?_
        simp only [Act.put, List.setIfInBounds_toArray, List.set_cons_zero, List.set_cons_succ]
        refine lt_skip 13 rfl (by kernel_rfl) (by kernel_rfl) (by kernel_rfl) (by kernel_rfl) (fun _ _ _ h => h) rfl (fun _ => HS.out) ?_
        simp only [Act.put, List.setIfInBounds_toArray, List.set_cons_zero, List.set_cons_succ]
        refine lt_skip 14 rfl (by kernel_rfl) (by kernel_rfl) (by kernel_rfl) (by kernel_rfl) (fun _ _ _ h => h) rfl (fun _ => HS.out) ?_
        simp only [Act.put, List.setIfInBounds_toArray, List.set_cons_zero, List.set_cons_succ]
        refine lt_pure 15 rfl (by kernel_rfl) (by kernel_rfl) (by kernel_rfl) (by kernel_rfl) (fun _ _ _ h => h) (v := ?_) (yi_run rfl (fun w => ?_)) (fun _ => HS.out) ?_
        rotate_left
        · first | (go_simp; done) | (go_simp; with_reducible rfl)
        simp only [Act.put, List.setIfInBounds_toArray, List.set_cons_zero, List.set_cons_succ]
        refine lt_done (by kernel_rfl) ?_
        have HS9 := HS
        clear HS
        have HX2 := Lib.hid HS9.out
        clear HS9 HX
        go_wp2_with fail
        refine lt_start [] (by kernel_rfl) ?_
        intro xd hd
        refine ⟨fun z => OW w [rowO 37 7 (.slice MA mc mc) mc (rs.flatMap ER.cells)] z, ?_⟩
        have HS := Lib.hid (HX2.out.later hd)
        refine lt_pure 0 rfl (by kernel_rfl) (by kernel_rfl) (by kernel_rfl) (by kernel_rfl) (fun _ _ _ h => h) (v := ?_) (yi_run rfl (fun w => ?_)) (fun _ => HS.out) ?_
        rotate_left
        · first | (go_simp; done) | (go_simp; with_reducible rfl)
        simp only [Act.put, List.setIfInBounds_toArray, List.set_cons_zero, List.set_cons_succ]
        refine lt_pure 1 rfl (by kernel_rfl) (by kernel_rfl) (by kernel_rfl) (by kernel_rfl) (fun _ _ _ h => h) (v := ?_) (yi_run rfl (fun w => ?_)) (fun _ => HS.out) ?_
        rotate_left
        · first | (go_simp; done) | (go_simp; with_reducible rfl)
        simp only [Act.put, List.setIfInBounds_toArray, List.set_cons_zero, List.set_cons_succ]
        refine lt_pure 2 rfl (by kernel_rfl) (by kernel_rfl) (by kernel_rfl) (by kernel_rfl) (fun _ _ _ h => h) (v := ?_) (yi_run rfl (fun w => ?_)) (fun _ => HS.out) ?_
        rotate_left
        · first | (go_simp; done) | (go_simp; with_reducible rfl)
        simp only [Act.put, List.setIfInBounds_toArray, List.set_cons_zero, List.set_cons_succ]
        refine lt_pure 3 rfl (by kernel_rfl) (by kernel_rfl) (by kernel_rfl) (by kernel_rfl) (fun _ _ _ h => h) (v := ?_) (yi_run rfl (fun w => ?_)) (fun _ => HS.out) ?_
        rotate_left
        · first | (go_simp; done) | (go_simp; with_reducible rfl)
        simp only [Act.put, List.setIfInBounds_toArray, List.set_cons_zero, List.set_cons_succ]
        refine lt_pure 4 rfl (by kernel_rfl) (by kernel_rfl) (by kernel_rfl) (by kernel_rfl) (fun _ _ _ h => h) (v := ?_) (yi_run rfl (fun w => ?_)) (fun _ => HS.out) ?_
        rotate_left
        · first | (go_simp; done) | (go_simp; with_reducible rfl)
        simp only [Act.put, List.setIfInBounds_toArray, List.set_cons_zero, List.set_cons_succ]
        refine lt_skip 5 rfl (by kernel_rfl) (by kernel_rfl) (by kernel_rfl) (by kernel_rfl) (fun _ _ _ h => h) rfl (fun _ => HS.out) ?_
        simp only [Act.put, List.setIfInBounds_toArray, List.set_cons_zero, List.set_cons_succ]
        refine lt_skip 6 rfl (by kernel_rfl) (by kernel_rfl) (by kernel_rfl) (by kernel_rfl) (fun _ _ _ h => h) rfl (fun _ => HS.out) ?_
        simp only [Act.put, List.setIfInBounds_toArray, List.set_cons_zero, List.set_cons_succ]
        refine lt_skip 7 rfl (by kernel_rfl) (by kernel_rfl) (by kernel_rfl) (by kernel_rfl) (fun _ _ _ h => h) rfl (fun _ => HS.out) ?_
        simp only [Act.put, List.setIfInBounds_toArray, List.set_cons_zero, List.set_cons_succ]
        refine lt_skip 8 rfl (by kernel_rfl) (by kernel_rfl) (by kernel_rfl) (by kernel_rfl) (fun _ _ _ h => h) rfl (fun _ => HS.out) ?_
        simp only [Act.put, List.setIfInBounds_toArray, List.set_cons_zero, List.set_cons_succ]
        refine lt_skip 9 rfl (by kernel_rfl) (by kernel_rfl) (by kernel_rfl) (by kernel_rfl) (fun _ _ _ h => h) rfl (fun _ => HS.out) ?_
        simp only [Act.put, List.setIfInBounds_toArray, List.set_cons_zero, List.set_cons_succ]
        refine lt_skip 10 rfl (by kernel_rfl) (by kernel_rfl) (by kernel_rfl) (by kernel_rfl) (fun _ _ _ h => h) rfl (fun _ => HS.out) ?_
        simp only [Act.put, List.setIfInBounds_toArray, List.set_cons_zero, List.set_cons_succ]
        refine lt_skip 11 rfl (by kernel_rfl) (by kernel_rfl) (by kernel_rfl) (by kernel_rfl) (fun _ _ _ h => h) rfl (fun _ => HS.out) ?_
        simp only [Act.put, List.setIfInBounds_toArray, List.set_cons_zero, List.set_cons_succ]
        refine lt_skip 12 rfl (by kernel_rfl) (by kernel_rfl) (by kernel_rfl) (by kernel_rfl) (fun _ _ _ h => h) rfl (fun _ => HS.out) ?_
        simp only [Act.put, List.setIfInBounds_toArray, List.set_cons_zero, List.set_cons_succ]
        refine lt_skip 13 rfl (by kernel_rfl) (by kernel_rfl) (by kernel_rfl) (by kernel_rfl) (fun _ _ _ h => h) rfl (fun _ => HS.out) ?_
        simp only [Act.put, List.setIfInBounds_toArray, List.set_cons_zero, List.set_cons_succ]
        refine lt_skip 14 rfl (by kernel_rfl) (by kernel_rfl) (by kernel_rfl) (by kernel_rfl) (fun _ _ _ h => h) rfl (fun _ => HS.out) ?_
        simp only [Act.put, List.setIfInBounds_toArray, List.set_cons_zero, List.set_cons_succ]
        refine lt_pure 15 rfl (by kernel_rfl) (by kernel_rfl) (by kernel_rfl) (by kernel_rfl) (fun _ _ _ h => h) (v := ?_) (yi_run rfl (fun w => ?_)) (fun _ => HS.out) ?_
        rotate_left
        · first | (go_simp; done) | (go_simp; with_reducible rfl)
        simp only [Act.put, List.setIfInBounds_toArray, List.set_cons_zero, List.set_cons_succ]
        refine lt_done (by kernel_rfl) ?_
        have HS9 := HS
        clear HS
        have HX3 := Lib.hid HS9.out
        clear HS9 HX2
        have HN0 := Lib.hid (HX3.out.nilRow 37 7)
        have tk1 : True := trivial
        have tk2 : True := trivial
        go_wp2_with (first
          | (at_builtin; have _t := tk1; go_must (refine wl_append rfl (.tmp 57) (.tmp 60) rfl Tryd.entsS HN0.out 1 rfl rfl _ (MA) mc mc ((rs.flatMap ER.cells).take (mc * 7)) rfl ((Reads.own (HN0.out.row (i := 0) rfl)).take (by omega)) (fun u hu => cells_one (List.mem_of_mem_take hu)) (by unfold maxLen; omega) (by omega) ?_); intro A1 c1 z1 hz _; rw [Nat.zero_add] at hz; rw [Nat.zero_add]; have HX4 : Hid (OW w [rowO 37 7 (.slice (MA) mc mc) mc (rs.flatMap ER.cells), rowO 37 7 (.slice A1 mc c1) mc ((rs.take mc).flatMap ER.cells)] z1) := Lib.hid (by rw [← flat7_take]; exact hz); clear hz HN0 HX3 tk1)
          | (refine wpList_load_at rfl 37 (.tmp 65) rfl rfl (HRG.out _ HX4.out.up) ent_row5 ?_)
          | (refine wl_build rfl #[(0, .tmp 66)] rfl #[.slice Ar e.row.length ec, .int .i64 e.fam, .slice B e.qual.length d, .int .i64 e.ts, .int .i64 e.seq, .int .i64 e.kind, .slice D e.val.length q] Tryd.entsS (.agg #[.slice none 0 0, .int .i64 0, .slice none 0 0, .int .i64 0, .int .i64 0, .int .i64 0, .slice none 0 0]) (by kernel_rfl) (by decide) (by decide) (by decide) rfl (by kernel_rfl) HX4.out ?_; intro g5 z5 hz _; have HX5 := Lib.hid hz; clear hz HX4)
          | (at_builtin; have _t := tk2; go_must (refine wl_append rfl (.tmp 62) (.tmp 67) rfl Tryd.entsS HX5.out 1 rfl rfl _ (some ⟨g5, 0, none⟩) 1 1 [.slice Ar e.row.length ec, .int .i64 e.fam, .slice B e.qual.length d, .int .i64 e.ts, .int .i64 e.seq, .int .i64 e.kind, .slice D e.val.length q] rfl (Reads.own (HX5.out.row (i := 2) rfl)) (by simp [Value.oneCell']) (by unfold maxLen; omega) (by omega) ?_); intro A6 c6 z6 hz _; have HX6 := Lib.hid (hz.erase 2); clear hz HX5 tk2)
          | (at_builtin; go_must (refine wl_append rfl (.tmp 69) (.tmp 72) rfl Tryd.entsS HX6.out 1 rfl rfl _ (MA) (0) (0) ([]) rfl (Reads.nil (w := z6) (B := 0) (size := 7)) (by simp) (by unfold maxLen; omega) (by omega) ?_); intro A7 c7 z7 hz _; have HX7 := Lib.hid (hz.erase 0); clear hz HX6))
        go_roundw
        case rel =>
          have e1 : (rs.take mc ++ (⟨Ar, ec, B, d, D, q, e⟩ : ER) :: rs.drop mc).flatMap ER.cells = (rs.take mc).flatMap ER.cells ++ [.slice Ar e.row.length ec, .int .i64 e.fam, .slice B e.qual.length d, .int .i64 e.ts, .int .i64 e.seq, .int .i64 e.kind, .slice D e.val.length q] ++ ([]) := by
            rw [List.flatMap_append, List.flatMap_cons, List.append_assoc]
            rw [List.drop_of_length_le (by have := HRL.out; omega)]; rfl
          refine ⟨i + 1, mc + 1 + (0), A7, c7, rs.take mc ++ (⟨Ar, ec, B, d, D, q, e⟩ : ER) :: rs.drop mc, by omega, by omega, by omega, by go_num, rfl, Lib.hid (by rw [List.length_append, List.length_cons, List.length_take, List.length_drop]; have := HRL.out; omega), Lib.hid ⟨?_, fun r hr z hz => ?_⟩, Lib.hid (by rw [e1]; exact HX7.out)⟩
          · rw [HTK.out, HST.out, HIA.out, List.map_append, List.map_cons, List.map_take, List.map_drop, HSR.out.ents]
          · rcases List.mem_append.1 hr with h1 | h1
            · exact HSR.out.en r (List.mem_of_mem_take h1) z hz
            · rcases List.mem_cons.1 h1 with rfl | h1
              · exact HEN.out z hz
              · exact HSR.out.en r (List.mem_of_mem_drop h1) z hz
        case measure => simp [intOf]; omega
      · obtain ⟨mg, rfl, hmc2⟩ : ∃ mg, MA = some ⟨mg, 0, none⟩ ∧ a < mc := by
          rcases (HX.out.row (i := 0) rfl).2 with ⟨h1, h2⟩ | ⟨g, cap, _, h1, _, _, h2, _⟩
          · injection h1 with h1 h3 h4; exact absurd (h4.trans h2.symm) hmc
          · injection h1 with h1 h3 h4; exact ⟨g, h1, by omega⟩
        go_wp2_with fail
        refine lt_start [] (by kernel_rfl) ?_
        intro xd hd
        refine ⟨fun z => OW w [rowO 37 7 (.slice (some ⟨mg, 0, none⟩) a mc) a (rs.flatMap ER.cells)] z, ?_⟩
        have HS := Lib.hid (HX.out.later hd)
        refine lt_pure 0 rfl (by kernel_rfl) (by kernel_rfl) (by kernel_rfl) (by kernel_rfl) (fun _ _ _ h => h) (v := ?_) (yi_run rfl (fun w => ?_)) (fun _ => HS.out) ?_
        rotate_left
        · first | (go_simp; done) | (go_simp; with_reducible rfl)
        simp only [Act.put, List.setIfInBounds_toArray, List.set_cons_zero, List.set_cons_succ]
        refine lt_pure 1 rfl (by kernel_rfl) (by kernel_rfl) (by kernel_rfl) (by kernel_rfl) (fun _ _ _ h => h) (v := ?_) (yi_run rfl (fun w => ?_)) (fun _ => HS.out) ?_
        rotate_left
        · first | (go_simp; done) | (go_simp; with_reducible rfl)
        simp only [Act.put, List.setIfInBounds_toArray, List.set_cons_zero, List.set_cons_succ]
        refine lt_pure 2 rfl (by kernel_rfl) (by kernel_rfl) (by kernel_rfl) (by kernel_rfl) (fun _ _ _ h => h) (v := ?_) (yi_run rfl (fun w => ?_)) (fun _ => HS.out) ?_
        rotate_left
        · first | (go_simp; done) | (go_simp; with_reducible rfl)
        simp only [Act.put, List.setIfInBounds_toArray, List.set_cons_zero, List.set_cons_succ]
        refine lt_pure 3 rfl (by kernel_rfl) (by kernel_rfl) (by kernel_rfl) (by kernel_rfl) (fun _ _ _ h => h) (v := ?_) (yi_run rfl (fun w => ?_)) (fun _ => HS.out) ?_
        rotate_left
        · first | (go_simp; done) | (go_simp; with_reducible rfl)
        simp only [Act.put, List.setIfInBounds_toArray, List.set_cons_zero, List.set_cons_succ]
        refine lt_pure 4 rfl (by kernel_rfl) (by kernel_rfl) (by kernel_rfl) (by kernel_rfl) (fun _ _ _ h => h) (v := ?_) (yi_run rfl (fun w => ?_)) (fun _ => HS.out) ?_
        rotate_left
        · first | (go_simp; done) | (go_simp; with_reducible rfl)
        simp only [Act.put, List.setIfInBounds_toArray, List.set_cons_zero, List.set_cons_succ]
        refine lt_skip 5 rfl (by kernel_rfl) (by kernel_rfl) (by kernel_rfl) (by kernel_rfl) (fun _ _ _ h => h) rfl (fun _ => HS.out) ?_
        simp only [Act.put, List.setIfInBounds_toArray, List.set_cons_zero, List.set_cons_succ]
        refine lt_skip 6 rfl (by kernel_rfl) (by kernel_rfl) (by kernel_rfl) (by kernel_rfl) (fun _ _ _ h => h) rfl (fun _ => HS.out) ?_
        simp only [Act.put, List.setIfInBounds_toArray, List.set_cons_zero, List.set_cons_succ]
        refine lt_skip 7 rfl (by kernel_rfl) (by kernel_rfl) (by kernel_rfl) (by kernel_rfl) (fun _ _ _ h => h) rfl (fun _ => HS.out) ?_
        simp only [Act.put, List.setIfInBounds_toArray, List.set_cons_zero, List.set_cons_succ]
        refine lt_skip 8 rfl (by kernel_rfl) (by kernel_rfl) (by kernel_rfl) (by kernel_rfl) (fun _ _ _ h => h) rfl (fun _ => HS.out) ?_
        simp only [Act.put, List.setIfInBounds_toArray, List.set_cons_zero, List.set_cons_succ]
        refine lt_skip 9 rfl (by kernel_rfl) (by kernel_rfl) (by kernel_rfl) (by kernel_rfl) (fun _ _ _ h => h) rfl (fun _ => HS.out) ?_
        simp only [Act.put, List.setIfInBounds_toArray, List.set_cons_zero, List.set_cons_succ]
        refine lt_skip 10 rfl (by kernel_rfl) (by kernel_rfl) (by kernel_rfl) (by kernel_rfl) (fun _ _ _ h => h) rfl (fun _ => HS.out) ?_
        simp only [Act.put, List.setIfInBounds_toArray, List.set_cons_zero, List.set_cons_succ]
        refine lt_skip 11 rfl (by kernel_rfl) (by kernel_rfl) (by kernel_rfl) (by kernel_rfl) (fun _ _ _ h => h) rfl (fun _ => HS.out) ?_
        simp only [Act.put, List.setIfInBounds_toArray, List.set_cons_zero, List.set_cons_succ]
        refine lt_skip 12 rfl (by kernel_rfl) (by kernel_rfl) (by kernel_rfl) (by kernel_rfl) (fun _ _ _ h => h) rfl (fun _ => HS.out) ?_
        simp only [Act.put, List.setIfInBounds_toArray, List.set_cons_zero, List.set_cons_succ]
        refine lt_skip 13 rfl (by kernel_rfl) (by kernel_rfl) (by kernel_rfl) (by kernel_rfl) (fun _ _ _ h => h) rfl (fun _ => HS.out) ?_
        simp only [Act.put, List.setIfInBounds_toArray, List.set_cons_zero, List.set_cons_succ]
        refine lt_skip 14 rfl (by kernel_rfl) (by kernel_rfl) (by kernel_rfl) (by kernel_rfl) (fun _ _ _ h => h) rfl (fun _ => HS.out) ?_
        simp only [Act.put, List.setIfInBounds_toArray, List.set_cons_zero, List.set_cons_succ]
        refine lt_pure 15 rfl (by kernel_rfl) (by kernel_rfl) (by kernel_rfl) (by kernel_rfl) (fun _ _ _ h => h) (v := ?_) (yi_run rfl (fun w => ?_)) (fun _ => HS.out) ?_
        rotate_left
        · first | (go_simp; done) | (go_simp; with_reducible rfl)
        simp only [Act.put, List.setIfInBounds_toArray, List.set_cons_zero, List.set_cons_succ]
        refine lt_done (by kernel_rfl) ?_
        have HS9 := HS
        clear HS
        have HX2 := Lib.hid HS9.out
        clear HS9 HX
        go_wp2_with fail
        refine lt_start [] (by kernel_rfl) ?_
        intro xd hd
        refine ⟨fun z => OW w [rowO 37 7 (.slice (some ⟨mg, 0, none⟩) a mc) a (rs.flatMap ER.cells)] z, ?_⟩
        have HS := Lib.hid (HX2.out.later hd)
        refine lt_pure 0 rfl (by kernel_rfl) (by kernel_rfl) (by kernel_rfl) (by kernel_rfl) (fun _ _ _ h => h) (v := ?_) (yi_run rfl (fun w => ?_)) (fun _ => HS.out) ?_
        rotate_left
        · first | (go_simp; done) | (go_simp; with_reducible rfl)
        simp only [Act.put, List.setIfInBounds_toArray, List.set_cons_zero, List.set_cons_succ]
        refine lt_pure 1 rfl (by kernel_rfl) (by kernel_rfl) (by kernel_rfl) (by kernel_rfl) (fun _ _ _ h => h) (v := ?_) (yi_run rfl (fun w => ?_)) (fun _ => HS.out) ?_
        rotate_left
        · first | (go_simp; done) | (go_simp; with_reducible rfl)
        simp only [Act.put, List.setIfInBounds_toArray, List.set_cons_zero, List.set_cons_succ]
        refine lt_pure 2 rfl (by kernel_rfl) (by kernel_rfl) (by kernel_rfl) (by kernel_rfl) (fun _ _ _ h => h) (v := ?_) (yi_run rfl (fun w => ?_)) (fun _ => HS.out) ?_
        rotate_left
        · first | (go_simp; done) | (go_simp; with_reducible rfl)
        simp only [Act.put, List.setIfInBounds_toArray, List.set_cons_zero, List.set_cons_succ]
        refine lt_pure 3 rfl (by kernel_rfl) (by kernel_rfl) (by kernel_rfl) (by kernel_rfl) (fun _ _ _ h => h) (v := ?_) (yi_run rfl (fun w => ?_)) (fun _ => HS.out) ?_
        rotate_left
        · first | (go_simp; done) | (go_simp; with_reducible rfl)
        simp only [Act.put, List.setIfInBounds_toArray, List.set_cons_zero, List.set_cons_succ]
        refine lt_pure 4 rfl (by kernel_rfl) (by kernel_rfl) (by kernel_rfl) (by kernel_rfl) (fun _ _ _ h => h) (v := ?_) (yi_run rfl (fun w => ?_)) (fun _ => HS.out) ?_
        rotate_left
        · first | (go_simp; done) | (go_simp; with_reducible rfl)
        simp only [Act.put, List.setIfInBounds_toArray, List.set_cons_zero, List.set_cons_succ]
        refine lt_skip 5 rfl (by kernel_rfl) (by kernel_rfl) (by kernel_rfl) (by kernel_rfl) (fun _ _ _ h => h) rfl (fun _ => HS.out) ?_
        simp only [Act.put, List.setIfInBounds_toArray, List.set_cons_zero, List.set_cons_succ]
        refine lt_skip 6 rfl (by kernel_rfl) (by kernel_rfl) (by kernel_rfl) (by kernel_rfl) (fun _ _ _ h => h) rfl (fun _ => HS.out) ?_
        simp only [Act.put, List.setIfInBounds_toArray, List.set_cons_zero, List.set_cons_succ]
        refine lt_skip 7 rfl (by kernel_rfl) (by kernel_rfl) (by kernel_rfl) (by kernel_rfl) (fun _ _ _ h => h) rfl (fun _ => HS.out) ?_
        simp only [Act.put, List.setIfInBounds_toArray, List.set_cons_zero, List.set_cons_succ]
        refine lt_skip 8 rfl (by kernel_rfl) (by kernel_rfl) (by kernel_rfl) (by kernel_rfl) (fun _ _ _ h => h) rfl (fun _ => HS.out) ?_
        simp only [Act.put, List.setIfInBounds_toArray, List.set_cons_zero, List.set_cons_succ]
        refine lt_skip 9 rfl (by kernel_rfl) (by kernel_rfl) (by kernel_rfl) (by kernel_rfl) (fun _ _ _ h => h) rfl (fun _ => HS.out) ?_
        simp only [Act.put, List.setIfInBounds_toArray, List.set_cons_zero, List.set_cons_succ]
        refine lt_skip 10 rfl (by kernel_rfl) (by kernel_rfl) (by kernel_rfl) (by kernel_rfl) (fun _ _ _ h => h) rfl (fun _ => HS.out) ?_
        simp only [Act.put, List.setIfInBounds_toArray, List.set_cons_zero, List.set_cons_succ]
        refine lt_skip 11 rfl (by kernel_rfl) (by kernel_rfl) (by kernel_rfl) (by kernel_rfl) (fun _ _ _ h => h) rfl (fun _ => HS.out) ?_
        simp only [Act.put, List.setIfInBounds_toArray, List.set_cons_zero, List.set_cons_succ]
        refine lt_skip 12 rfl (by kernel_rfl) (by kernel_rfl) (by kernel_rfl) (by kernel_rfl) (fun _ _ _ h => h) rfl (fun _ => HS.out) ?_
        simp only [Act.put, List.setIfInBounds_toArray, List.set_cons_zero, List.set_cons_succ]
        refine lt_skip 13 rfl (by kernel_rfl) (by kernel_rfl) (by kernel_rfl) (by kernel_rfl) (fun _ _ _ h => h) rfl (fun _ => HS.out) ?_
        simp only [Act.put, List.setIfInBounds_toArray, List.set_cons_zero, List.set_cons_succ]
        refine lt_skip 14 rfl (by kernel_rfl) (by kernel_rfl) (by kernel_rfl) (by kernel_rfl) (fun _ _ _ h => h) rfl (fun _ => HS.out) ?_
        simp only [Act.put, List.setIfInBounds_toArray, List.set_cons_zero, List.set_cons_succ]
        refine lt_pure 15 rfl (by kernel_rfl) (by kernel_rfl) (by kernel_rfl) (by kernel_rfl) (fun _ _ _ h => h) (v := ?_) (yi_run rfl (fun w => ?_)) (fun _ => HS.out) ?_
        rotate_left
        · first | (go_simp; done) | (go_simp; with_reducible rfl)
        simp only [Act.put, List.setIfInBounds_toArray, List.set_cons_zero, List.set_cons_succ]
        refine lt_done (by kernel_rfl) ?_
        have HS9 := HS
        clear HS
        have HX3 := Lib.hid HS9.out
        clear HS9 HX2
        have k6 : mc ≠ a := by omega
        have k7 : ¬ a = mc := by omega
        have HN0 := Lib.hid (HX3.out.nilRow 37 7)
        have tk1 : True := trivial
        have tk2 : True := trivial
        go_wp2_with (first
          | (at_builtin; have _t := tk1; go_must (refine wl_append rfl (.tmp 57) (.tmp 60) rfl Tryd.entsS HN0.out 1 rfl rfl _ (some ⟨mg, 0, none⟩) a mc ((rs.flatMap ER.cells).take (a * 7)) rfl ((Reads.own (HN0.out.row (i := 0) rfl)).take (by omega)) (fun u hu => cells_one (List.mem_of_mem_take hu)) (by unfold maxLen; omega) (by omega) ?_); intro A1 c1 z1 hz _; rw [Nat.zero_add] at hz; rw [Nat.zero_add]; have HX4 : Hid (OW w [rowO 37 7 (.slice (some ⟨mg, 0, none⟩) a mc) a (rs.flatMap ER.cells), rowO 37 7 (.slice A1 a c1) a ((rs.take a).flatMap ER.cells)] z1) := Lib.hid (by rw [← flat7_take]; exact hz); clear hz HN0 HX3 tk1)
          | (refine wpList_load_at rfl 37 (.tmp 65) rfl rfl (HRG.out _ HX4.out.up) ent_row5 ?_)
          | (refine wl_build rfl #[(0, .tmp 66)] rfl #[.slice Ar e.row.length ec, .int .i64 e.fam, .slice B e.qual.length d, .int .i64 e.ts, .int .i64 e.seq, .int .i64 e.kind, .slice D e.val.length q] Tryd.entsS (.agg #[.slice none 0 0, .int .i64 0, .slice none 0 0, .int .i64 0, .int .i64 0, .int .i64 0, .slice none 0 0]) (by kernel_rfl) (by decide) (by decide) (by decide) rfl (by kernel_rfl) HX4.out ?_; intro g5 z5 hz _; have HX5 := Lib.hid hz; clear hz HX4)
          | (at_builtin; have _t := tk2; go_must (refine wl_append rfl (.tmp 62) (.tmp 67) rfl Tryd.entsS HX5.out 1 rfl rfl _ (some ⟨g5, 0, none⟩) 1 1 [.slice Ar e.row.length ec, .int .i64 e.fam, .slice B e.qual.length d, .int .i64 e.ts, .int .i64 e.seq, .int .i64 e.kind, .slice D e.val.length q] rfl (Reads.own (HX5.out.row (i := 2) rfl)) (by simp [Value.oneCell']) (by unfold maxLen; omega) (by omega) ?_); intro A6 c6 z6 hz _; have HX6 := Lib.hid (hz.erase 2); clear hz HX5 tk2)
          | (at_builtin; go_must (refine wl_append rfl (.tmp 69) (.tmp 72) rfl Tryd.entsS HX6.out 1 rfl rfl _ (some ⟨mg, a * 7, none⟩) (0) (mc - a) ([]) rfl (Reads.nil (w := z6) (B := 0) (size := 7)) (by simp) (by unfold maxLen; omega) (by omega) ?_); intro A7 c7 z7 hz _; have HX7 := Lib.hid (hz.erase 0); clear hz HX6))
        go_roundw
        case rel =>
          have e1 : (rs.take a ++ (⟨Ar, ec, B, d, D, q, e⟩ : ER) :: rs.drop a).flatMap ER.cells = (rs.take a).flatMap ER.cells ++ [.slice Ar e.row.length ec, .int .i64 e.fam, .slice B e.qual.length d, .int .i64 e.ts, .int .i64 e.seq, .int .i64 e.kind, .slice D e.val.length q] ++ ([]) := by
            rw [List.flatMap_append, List.flatMap_cons, List.append_assoc]
            rw [List.drop_of_length_le (by have := HRL.out; omega)]; rfl
          refine ⟨i + 1, a + 1 + (0), A7, c7, rs.take a ++ (⟨Ar, ec, B, d, D, q, e⟩ : ER) :: rs.drop a, by omega, by omega, by omega, by go_num, rfl, Lib.hid (by rw [List.length_append, List.length_cons, List.length_take, List.length_drop]; have := HRL.out; omega), Lib.hid ⟨?_, fun r hr z hz => ?_⟩, Lib.hid (by rw [e1]; exact HX7.out)⟩
          · rw [HTK.out, HST.out, HIA.out, List.map_append, List.map_cons, List.map_take, List.map_drop, HSR.out.ents]
          · rcases List.mem_append.1 hr with h1 | h1
            · exact HSR.out.en r (List.mem_of_mem_take h1) z hz
            · rcases List.mem_cons.1 h1 with rfl | h1
              · exact HEN.out z hz
              · exact HSR.out.en r (List.mem_of_mem_drop h1) z hz
        case measure => simp [intOf]; omega
end Go.Proofs.YtmigjipfomfacaaDoor

/-
  BlockSeeks, walked.
-/
namespace Go.Proofs.YtmigjipfomfacaaDoor
open Go.RowKit

set_option maxRecDepth 100000 in
set_option maxHeartbeats 4000000 in
theorem seeksL_any (R : Int) (es : List Ent) (key : List UInt8) (A KA : Option Addr) (n c kn kc : Nat) (w : World) (hes : Ens w A n es) (hn : n ≤ 9223372036854775807) (hk : Sl w KA kn kc key) (ht : TabAt 0 w) :
    Calls Tryd.prog 4 #[.int .i64 R, .slice A n c, .slice KA kn kc] w fun e z => e = .returned (.bool true) ∧ Below w.heap.size w z := by
  have HES := Lib.hid hes
  have HTB : Hid (∀ z, Below w.heap.size w z → TabAt 0 z) := Lib.hid fun z hz => ht.later hz
  have HKS : Hid (∀ z, Below w.heap.size w z → Sl z KA kn kc key) := Lib.hid fun z hz => hk.later hz
  have hkn : kn ≤ 9223372036854775807 := Nat.le_trans hk.cap hk.lim
  obtain ⟨L, hL⟩ : ∃ z, z = sortL (es.take 80) := ⟨_, rfl⟩
  obtain ⟨Bb, be, hB⟩ : ∃ B be, buildE5 R L = (B, be) := ⟨_, _, rfl⟩
  obtain ⟨bn, hbn⟩ : ∃ z, z = Bb.length := ⟨_, rfl⟩
  have HB := Lib.hid hB
  have HBN := Lib.hid hbn.symm
  have HLL := Lib.hid hL.symm
  have HSO : Hid (SortOk L) := Lib.hid (by rw [hL]; exact sort_ok _)
  clear hes ht hk hL hB hbn
  go_enter Tryd.func4, Tryd.ntmps4
  by_cases hbe : be = 0
  case neg =>
    have hd : (be != 0) = true := bne_iff_ne.2 hbe
    clear hbe
    go_wp2_with (first
      | (go_at_call 9; go_must (refine (sorted_any es A n c _ HES.out hn).mono ?_); rw [HLL.out]; rintro e x1 ⟨MA, mc, k, rs, rfl, hk80, hs, hx⟩; have HX := Lib.hid hx; have HSR := Lib.hid hs; clear hx hs)
      | (go_at_call 10; go_must (refine (build_any R L MA k mc _ (HSR.out.ens HX.out (i := 0) rfl) (by omega) (HTB.out _ HX.out.up)).mono ?_); rw [HB.out]; rintro e x2 hp; obtain ⟨A2, c2, rfl, _, _, hb⟩ := hp.at_ HBN.out rfl; replace HX := Lib.hid (HX.out.later hb); clear hp hb)
      | (go_at_call 11; go_must (refine (told_any _ (HTB.out _ HX.out.up)).mono ?_); rintro e x3 ⟨rfl, hb⟩; replace HX := Lib.hid (HX.out.later hb); clear hb))
    go_ret
    exact ⟨rfl, HX.out.up⟩
  have hd : (be != 0) = false := by rw [hbe]; rfl
  have hR : ∃ r : Nat, R = (r : Int) ∧ 1 ≤ r ∧ r ≤ 16 := by
    have h := HB.out
    unfold buildE5 at h
    split at h
    · injection h with _ h; omega
    · exact ⟨R.toNat, by omega, by omega, by omega⟩
  obtain ⟨r, rfl, hr1, hr2⟩ := hR
  have HB0 : Hid (buildE5 (r : Int) L = (Bb, 0)) := Lib.hid (by rw [HB.out, hbe])
  have HOP : Hid (openE Bb = (some L, 0) ∧ resB Bb = r) := Lib.hid (openE_lay HB0.out)
  have HAS : Hid (Asc (L.map keyE)) := Lib.hid (build_asc HB0.out)
  have HPB := Lib.hid (build_parts HB0.out)
  obtain ⟨ln, hln⟩ : ∃ z, z = L.length := ⟨_, rfl⟩
  have hl0 : 0 < ln := by rw [hln]; exact List.length_pos_iff.2 HPB.out.2.2.2.1
  have HLN := Lib.hid hln.symm
  obtain ⟨sk, hsk⟩ : ∃ z, z = seekL L key := ⟨_, rfl⟩
  have HSK := Lib.hid hsk.symm
  have hskn : sk ≤ ln := by rw [hsk, hln]; have := seekN_le (L.map keyE) key; rw [List.length_map] at this; exact this
  have HIF : Hid (∀ (i : Nat) (e : Ent), L[i]? = some e → (cmpB (keyE e) key < 0 ↔ i < sk)) := Lib.hid fun i e he => by
    have := seekN_iff HAS.out (key := key) (i := i) (k := keyE e) (by rw [List.getElem?_map, he]; rfl)
    rw [hsk]; exact this
  clear hbe hln hsk
  have g1 : decide ((sk : Int) < 0) = false := decide_eq_false (by omega)
  have g2 : ¬ (sk : Int) < 0 := by omega
  have g3 : decide ((sk : Int) > (ln : Int)) = false := decide_eq_false (by omega)
  have g4 : decide (ln < sk) = false := decide_eq_false (by omega)
  have g5 : ¬ ln < sk := by omega
  go_wp2_with (first
    | (go_at_call 9; go_must (refine (sorted_any es A n c _ HES.out hn).mono ?_); rw [HLL.out]; rintro e x1 ⟨MA, mc, k, rs, rfl, hk80, hs, hx⟩; have HX := Lib.hid hx; have HSR := Lib.hid hs; have hkl : k = ln := (by have h1 := (hs.ens hx (i := 0) rfl).len; rw [HLN.out] at h1; exact h1.symm); subst hkl; clear hx hs)
    | (go_at_call 10; go_must (refine (build_any (r : Int) L MA k mc _ (HSR.out.ens HX.out (i := 0) rfl) (by omega) (HTB.out _ HX.out.up)).mono ?_); rw [HB0.out]; rintro e x2 hp; obtain ⟨A2, c2, rfl, hs2, _, hb⟩ := hp.at_ HBN.out rfl; replace HX := Lib.hid (HX.out.later hb); have HS2 := Lib.hid hs2; clear hp hb hs2)
    | (go_at_call 11; go_must (refine (told_any _ (HTB.out _ HX.out.up)).mono ?_); rintro e x3 ⟨rfl, hb⟩; replace HX := Lib.hid (HX.out.later hb); have HS3 := Lib.hid (HS2.out.later hb); clear hb HS2)
    | (go_at_call 12; go_must (refine (open_lay HOP.out.1 A2 bn c2 _ HS3.out (HTB.out _ HX.out.up)).mono ?_); rw [HOP.out.2]; rintro e x4 ⟨g, rfl, hk, hb⟩; have HX4 := Lib.hid (HX.out.later hb); have HK := Lib.hid hk; clear hb hk HX)
    | (go_at_call 17; go_must (refine (seek_any HK.out ⟨hr1, hr2⟩ (by rw [HLN.out]; exact hl0) (by rw [HLN.out]; omega) HAS.out key KA kn kc (HKS.out _ HX4.out.up)).mono ?_); rw [HSK.out]; rintro e x5 ⟨rfl, hb⟩; have HX5 := Lib.hid (HX4.out.later hb); clear hb HX4))
  have HEK : Hid (∀ i, i < k → ∃ (mg : Nat) (r : ER), MA = some ⟨mg, 0, none⟩ ∧ rs[i]? = some r ∧ L[i]? = some r.e) := Lib.hid fun i hi => by
    obtain ⟨mg, mcap, hv, _⟩ := own_form (HX5.out.row (i := 0) rfl) (show 0 < k by omega)
    injection hv with hv
    obtain ⟨r, hr⟩ : ∃ r, rs[i]? = some r := ⟨_, List.getElem?_eq_getElem (by rw [HSR.out.len, HLN.out]; exact hi)⟩
    exact ⟨mg, r, hv, hr, HSR.out.at_ hr⟩
  go_loopw [13] (fun iv wr => ∃ i : Nat, i ≤ k ∧ iv = .int .i64 i ∧ Hid (OW w [rowO 37 7 (.slice MA k mc) k (rs.flatMap ER.cells)] wr)) (fun iv _ => k - (intOf iv).toNat)
  case atStart => exact ⟨0, Nat.zero_le _, rfl, HX5⟩
  case round =>
    clear HX5
    obtain ⟨i, hi, rfl, HX⟩ := hrel
    by_cases hlt : i < k
    case neg =>
      have hdi : decide ((i : Int) < (k : Int)) = false := decide_eq_false (by omega)
      go_wp2_with fail
      go_ret
      exact ⟨rfl, HX.out.up⟩
    have hdi : decide ((i : Int) < (k : Int)) = true := decide_eq_true (by omega)
    obtain ⟨mg, q, rfl, hq, hqe⟩ := HEK.out i hlt
    have HQ := Lib.hid hq
    have HQE := Lib.hid hqe
    have HEN : Hid (∀ z, Below w.heap.size w z → q.En z) := Lib.hid fun z hz => HSR.out.en q (List.mem_of_getElem? hq) z hz
    have HKE : Hid (KeyE q.e = (keyE q.e, 0)) := Lib.hid (by unfold KeyE; rw [if_pos (HPB.out.2.2.2.2.2 q.e (List.mem_of_getElem? hqe))])
    obtain ⟨kb, hkb⟩ : ∃ z, z = keyE q.e := ⟨_, rfl⟩
    obtain ⟨kl, hkl⟩ : ∃ z, z = kb.length := ⟨_, rfl⟩
    obtain ⟨cv, hcv⟩ : ∃ z, z = cmpB kb key := ⟨_, rfl⟩
    have HKB : Hid (KeyE q.e = (kb, 0)) := Lib.hid (by rw [HKE.out, hkb])
    have HKL := Lib.hid hkl.symm
    have HCV := Lib.hid hcv.symm
    have hklb : kl ≤ 1048 := by rw [hkl, hkb]; exact keyE_len (ok_of (HPB.out.2.2.2.2.2 q.e (List.mem_of_getElem? hqe)))
    have hiff : cv < 0 ↔ i < sk := by rw [hcv, hkb]; exact HIF.out i q.e hqe
    have i1 : (0 : Int) ≤ (i : Int) := by omega
    have i2 : (i : Int) < (k : Int) := by omega
    have hbb : (decide (cv < 0) != decide ((i : Int) < (sk : Int))) = false := by
      rw [bne_eq_false_iff_eq]
      exact decide_eq_decide.2 ⟨fun h => by have := hiff.1 h; omega, fun h => hiff.2 (by omega)⟩
    have hbb2 : (decide (cv < 0) != decide (i < sk)) = false := by
      rw [bne_eq_false_iff_eq]
      exact decide_eq_decide.2 hiff
    clear hq hqe hkb hkl hcv
    by_cases hc : cv < 0
    · have h1 : i < sk := hiff.1 hc
      have e1 : decide (cv < 0) = true := decide_eq_true hc
      have e2 : decide ((i : Int) < (sk : Int)) = true := decide_eq_true (by omega)
      clear hiff hbb hbb2
      go_wp2_with (first
        | (refine wpList_load_at rfl 37 (.tmp 66) rfl rfl (HX.out.rowRange (i := 0) rfl HQ.out) ent_row5 ?_)
        | (go_at_call 18; go_must (refine (key_any q.e q.A _ q.c q.B _ q.d q.D _ q.q _ (HEN.out _ HX.out.up)).mono ?_); rw [HKB.out]; rintro e x6 hp; obtain ⟨A6, c6, rfl, hs6, _, hb⟩ := hp.at_ HKL.out rfl; have HX6 := Lib.hid (HX.out.later hb); have HS6 := Lib.hid hs6; clear hp hb hs6 HX)
        | (go_at_call 19; go_must (refine (rBcmp_any kb key A6 KA kl c6 kn kc _ (by omega) hkn HS6.out.rb (HKS.out _ HX6.out.up).rb).mono ?_); rw [HCV.out]; rintro e x7 ⟨rfl, hb⟩; have HX7 := Lib.hid (HX6.out.later hb); clear hb HX6))
      go_roundw
      case rel => exact ⟨i + 1, by omega, by go_num, HX7⟩
      case measure => simp [intOf]; omega
    · have h1 : ¬ i < sk := fun h => hc (hiff.2 h)
      have e1 : decide (cv < 0) = false := decide_eq_false hc
      have e2 : decide ((i : Int) < (sk : Int)) = false := decide_eq_false (by omega)
      clear hiff hbb hbb2
      go_wp2_with (first
        | (refine wpList_load_at rfl 37 (.tmp 66) rfl rfl (HX.out.rowRange (i := 0) rfl HQ.out) ent_row5 ?_)
        | (go_at_call 18; go_must (refine (key_any q.e q.A _ q.c q.B _ q.d q.D _ q.q _ (HEN.out _ HX.out.up)).mono ?_); rw [HKB.out]; rintro e x6 hp; obtain ⟨A6, c6, rfl, hs6, _, hb⟩ := hp.at_ HKL.out rfl; have HX6 := Lib.hid (HX.out.later hb); have HS6 := Lib.hid hs6; clear hp hb hs6 HX)
        | (go_at_call 19; go_must (refine (rBcmp_any kb key A6 KA kl c6 kn kc _ (by omega) hkn HS6.out.rb (HKS.out _ HX6.out.up).rb).mono ?_); rw [HCV.out]; rintro e x7 ⟨rfl, hb⟩; have HX7 := Lib.hid (HX6.out.later hb); clear hb HX6))
      go_roundw
      case rel => exact ⟨i + 1, by omega, by go_num, HX7⟩
      case measure => simp [intOf]; omega
end Go.Proofs.YtmigjipfomfacaaDoor

/-
  The frame of a law's proof, over any program: a law that leaves all old memory as it was meets its row; openers for arguments.
-/
namespace Go.Proofs.YtmigjipfomfacaaDoor
open Go.RowKit Go.WideShapes Go.ChangeShapes Go.Joins Go.Deep

section
variable {H : Type} {enc : TypeId × Value → H} {P : Program}

theorem trodAll_below (hl : laidOutB P = true) {W W' : World} {sp : Nat → Bool} : ∀ (ts : List TypeId) (vs : List Value) (ds : List (DataW H)) (ps : List MemPlace),
    (∀ t ∈ ts, P.readableRec t = true ∧ t < P.types.size) → DataW.TrodAll enc P W 0 (fun _ => true) true ts vs ds ps → (∀ p ∈ ps, W.sameAt W' p) → (∀ p ∈ ps, sp p.block = true) →
    DataW.TrodAll enc P W' 0 sp true ts vs ds ps
  | [], [], [], ps, _, h, _, _ => h
  | t :: ts, v :: vs, d :: ds, ps, hr, h, hs, hp => by
    obtain ⟨p, q, h1, h2, rfl⟩ := h
    refine ⟨p, q, WideElems.Trod_stays hl (hr t (by simp)).1 (hr t (by simp)).2 h1 (fun x hx => hs x (by simp [hx])) (fun x hx => hp x (by simp [hx])), ?_, rfl⟩
    exact trodAll_below hl ts vs ds q (fun t ht => hr t (by simp [ht])) h2 (fun x hx => hs x (by simp [hx])) (fun x hx => hp x (by simp [hx]))
  | [], _ :: _, _, _, _, h, _, _ => h.elim
  | [], [], _ :: _, _, _, h, _, _ => h.elim
  | _ :: _, [], _, _, _, h, _, _ => h.elim
  | _ :: _, _ :: _, [], _, _, h, _, _ => h.elim

/-- A law that has returned true and left all that was there meets its row. -/
theorem law_post {f : Func} {s : ChangeSpec} {apart fresh handsOn again : Bool} {W W' : World} {args : Array Value} {ds gs : List (DataW H)} {before : List MemPlace} {tb : TypeId}
    (hl : laidOutB P = true) (hr : ∀ t ∈ f.params.toList, P.readableRec t = true ∧ t < P.types.size) (hv : s.vars = [])
    (hW : DataW.Whole enc P f.params.toList s.vars apart W args.toList ds gs before) (hres : f.resultTypes = #[tb]) (htb : P.underlying tb = some .bool)
    (hfn : s.fn H (ds ++ gs) = { results := [.lit (.bool true)], args := ds }) (hb : Below W.heap.size W W') :
    s.post enc P f apart fresh handsOn again W args (.bool true) W' := by
  have hlt : ∀ p ∈ before, p.block < W.heap.size := fun p hp => hW.lt p hp
  obtain ⟨p, q, hA, hV, hpq, hz, hn⟩ := hW
  have hq : gs = [] ∧ q = [] := by rw [hv] at hV; exact trodVars_none hV
  obtain ⟨rfl, rfl⟩ := hq
  rw [List.append_nil] at hpq
  subst hpq
  have hold : ∀ x ∈ before, (fun b => decide (b < W.heap.size)) x.block = true := fun x hx => by simpa using hlt x hx
  have hargs : ∀ sp : Nat → Bool, (∀ x ∈ before, sp x.block = true) → DataW.TrodAll enc P W' 0 sp true f.params.toList args.toList ds before := fun sp hsp =>
    trodAll_below hl _ _ _ _ hr hA (fun x hx => hb.same (hlt x hx)) hsp
  have hvars : ∀ sp : Nat → Bool, DataW.TrodVars enc P W' sp s.vars (s.fn H (ds ++ [])).vars [] := fun sp => by rw [hv, hfn]; rfl
  have hresv : ∀ (b : Nat) (sp : Nat → Bool) (hd : Bool), DataW.TrodAll enc P W' b sp hd f.resultTypes.toList ((Value.bool true).resultList f.resultTypes.size) (s.fn H (ds ++ [])).results [] := by
    intro b sp hd
    rw [hfn, hres]
    exact trodAll_mk1 (shut_bool htb true)
  have hargs' : ∀ sp : Nat → Bool, (∀ x ∈ before, sp x.block = true) → DataW.TrodAll enc P W' 0 sp true f.params.toList args.toList (s.fn H (ds ++ [])).args before := fun sp hsp => by rw [hfn]; exact hargs sp hsp
  refine ⟨ds, [], before, [], before, [], ⟨before, [], hA, hV, by simp, hz, hn⟩, hresv _ _ _, hargs' _ hold, hvars _, World.keptBut_mono (fun x hx => ⟨hx, Or.inr (Or.inl hx)⟩) (hb.frame (· ∈ before)), fun _ => ?_⟩
  refine ⟨?_, _, _, ([] ++ before) ++ [], ⟨[] ++ before, [], trodAll_append (hargs' _ (fun _ _ => rfl)) (hresv _ _ _), hvars _, rfl, ?_, ?_⟩, ?_⟩
  · exact ok_one hres rfl (okWide_bool_mk htb true)
  · intro b off hp
    have hin : MemPlace.cell b off ∈ before := by simpa using hp
    rw [hb.frozen (hlt _ hin)]
    exact hz b off hin
  · intro ha
    have := hn ha
    simpa using this
  · intro x hx _
    simpa using hx

end

theorem list_of {α : Type} {Q : Nat → α → Prop} : ∀ (n : Nat), (∀ i, i < n → ∃ x, Q i x) → ∃ l : List α, l.length = n ∧ ∀ i x, l[i]? = some x → Q i x
  | 0, _ => ⟨[], rfl, fun i x h => by simp at h⟩
  | n + 1, h => by
    obtain ⟨l, hl, hq⟩ := list_of n (fun i hi => h i (by omega))
    obtain ⟨x, hx⟩ := h n (by omega)
    refine ⟨l ++ [x], by simp [hl], fun i y hy => ?_⟩
    rcases Nat.lt_or_ge i n with hi | hi
    · rw [List.getElem?_append_left (by omega)] at hy
      exact hq i y hy
    · have : i = n := by
        have := (List.getElem?_eq_some_iff.1 hy).1
        simp [hl] at this; omega
      subst this
      rw [List.getElem?_append_right (by omega)] at hy
      simp [hl] at hy
      subst hy; exact hx

theorem addr_add (a : Addr) (j : Nat) (ha : a.spot = none) : a.add j = ⟨a.block, a.off + j, none⟩ := by
  obtain ⟨b, o, sp⟩ := a
  simp at ha; subst ha
  unfold Addr.add
  split
  · rename_i h; subst h; rfl
  · rfl
theorem spot_none {w : World} {a : Addr} {v : Value} (h : w.cell? a = some v) : a.spot = none := by
  unfold World.cell? at h
  split at h
  · split at h
    · cases h
    · rename_i h'; simpa using h'
  · cases h

/-- Cells in a row at an address that came in: the slice reads. -/
theorem reads_of {w : World} {size n : Nat} {a : Addr} {xs : List Value} (hl : xs.length = n * size) (hs : 0 < size) (h : ∀ j u, xs[j]? = some u → w.cell? (a.add j) = some u) : Reads w w.heap.size size (some a) n xs := by
  refine ⟨hl, fun hn => ?_⟩
  have h0 : 0 < xs.length := by rw [hl]; exact Nat.mul_pos hn hs
  have hc := h 0 _ (List.getElem?_eq_getElem h0)
  have e0 : a.add 0 = a := by simp [Addr.add]
  rw [e0] at hc
  have hsp := spot_none hc
  refine ⟨a.block, a.off, by obtain ⟨b, o, sp⟩ := a; simp at hsp; subst hsp; rfl, World.block_lt_of_cell? w a hc, fun j u hu => ?_⟩
  rw [← addr_add a j hsp]
  exact h j u hu

section
variable {H : Type} {enc : TypeId × Value → H} {P : Program} {w : World} {base : Nat} {spare : Nat → Bool} {held : Bool}
theorem open_agg1 {r : Reach} {b0 : Nat} {t : TypeId} {f0 : Field} {v : Value} {d : DataW H} {p : List MemPlace} (hs : P.underlying t = some (.struct #[f0])) (hone : oneCellFields P #[f0] = true) (hC : P.cellsOf t = 1)
    (hv : Value.okWide P w r b0 t v) (h : DataW.Trod enc P w base spare held t v d p) :
    ∃ (v0 : Value) (y0 : DataW H × List MemPlace) (n : Nat), v = .agg #[v0] ∧ d = .agg [y0.1] ∧ p = y0.2 ∧ DataW.trod enc P w base spare held n f0.type [v0] = some y0 := by
  obtain ⟨cs, rfl, hsz⟩ := okWide_struct hs hv
  obtain ⟨l⟩ := cs
  match l, hsz.trans hC with
  | [c0], _ =>
    obtain ⟨fuel, hf⟩ := h
    obtain ⟨xs, n, _, hx, _, hlen, hg⟩ := DataW.trod_struct hs hf
    obtain ⟨o0, k0⟩ := hone_of hone 0 f0 rfl
    match xs, hlen with
    | [y0], _ =>
      simp only [Prod.mk.injEq] at hx
      exact ⟨c0, y0, n, rfl, by simpa using hx.1, by simpa using hx.2, by simpa [Value.cells, o0, k0] using hg 0 f0 rfl⟩
end

section
variable {H : Type} {enc : TypeId × Value → H} {P : Program} {w : World} {base : Nat} {spare : Nat → Bool} {held : Bool}
theorem open_slice_fields {t e : TypeId} {fs : Array Field} {fuel : Nat} {cs : List Value} {x : DataW H × List MemPlace} (ht : P.underlying t = some (.slice e)) (he : P.underlying e = some (.struct fs))
    (hone : oneCellFields P fs = true) (hC : P.cellsOf e = fs.size) (h : DataW.trod enc P w base spare held fuel t cs = some x) :
    (cs = [.slice none 0 0] ∧ x = (.nil, [])) ∨
    ∃ (a : Addr) (len cap m : Nat) (D : Nat → DataW H) (Pl : Nat → List MemPlace), cs = [.slice (some a) len cap] ∧ base ≤ a.block ∧ len ≤ cap ∧ cap ≤ maxLen ∧ m = (if spare a.block then cap else len) ∧
      x = (.slice ((List.range len).map D) ((List.range (m - len)).map fun j => D (len + j)), MemPlace.row a (m * fs.size) ++ (List.range m).flatMap Pl) ∧
      ∀ i, i < m → ∃ (ys : List (DataW H × List MemPlace)) (n : Nat), D i = .agg (ys.map (·.1)) ∧ Pl i = ys.flatMap (·.2) ∧ ys.length = fs.size ∧
        ∀ (j : Nat) (f : Field), fs[j]? = some f → ∃ (v : Value) (y : DataW H × List MemPlace), w.cell? (a.add (i * fs.size + j)) = some v ∧ ys[j]? = some y ∧ DataW.trod enc P w base spare held n f.type [v] = some y := by
  rcases open_slice ht h with h0 | ⟨a, len, cap, m, n, D, Pl, hcs, hb, hl, hm, hmm, hx, hi⟩
  · exact .inl h0
  · refine .inr ⟨a, len, cap, m, D, Pl, hcs, hb, hl, hm, hmm, by rw [hC] at hx; exact hx, fun i him => ?_⟩
    obtain ⟨cs', hc, ht'⟩ := hi i him
    rw [hC] at hc
    obtain ⟨ys, n', hn', hy, hlen, hyl, hf⟩ := DataW.trod_struct he ht'
    obtain ⟨_, hcl, hat⟩ := World.cells?_some hc
    simp only [Prod.mk.injEq] at hy
    refine ⟨ys, n', hy.1, hy.2, hyl, fun j f hj => ?_⟩
    obtain ⟨ho, hk⟩ := hone_of hone j f hj
    have hjl : j < fs.size := (Array.getElem?_eq_some_iff.1 hj).1
    have hcell := hat j hjl
    have hv : cs'[j]? = some (cs'[j]'(by omega)) := List.getElem?_eq_getElem (by omega)
    have h1 := hf j f hj
    rw [ho, hk] at h1
    have hone' : (cs'.drop j).take 1 = [cs'[j]'(by omega)] := by
      rw [List.drop_eq_getElem_cons (by omega)]
      rfl
    rw [hone'] at h1
    have hys : ys[j]? = some (ys[j]'(by omega)) := List.getElem?_eq_getElem (by omega)
    refine ⟨_, _, ?_, hys, h1.trans hys⟩
    rw [← Go.Deep.add_add, hcell, hv]
end

end Go.Proofs.YtmigjipfomfacaaDoor

/-
  Openers for arguments: bytes, lists of bytes. Over any program.
-/
namespace Go.Proofs.YtmigjipfomfacaaDoor
open Go.RowKit Go.WideShapes Go.ChangeShapes Go.Joins Go.Deep

section
variable {H : Type} {enc : TypeId × Value → H} {P : Program} {w : World} {base : Nat} {spare : Nat → Bool} {held : Bool}
theorem open_bytes {t e : TypeId} {fuel : Nat} {cs : List Value} {x : DataW H × List MemPlace} (ht : P.underlying t = some (.slice e)) (he : P.underlying e = some (.int .u8)) (hC : P.cellsOf e = 1)
    (h : DataW.trod enc P w base spare held fuel t cs = some x) :
    ∃ (A : Option Addr) (c : Nat) (l : List UInt8), cs = [.slice A l.length c] ∧ l.length ≤ c ∧ c ≤ 9223372036854775807 ∧ (A = none → c = 0) ∧ RB w w.heap.size A l.length l := by
  rcases open_slice1 ht hC h with ⟨rfl, _⟩ | ⟨a, len, cap, m, n, V, D, Pl, rfl, _, hl, hm, hmm, _, hi⟩
  · exact ⟨none, 0, [], rfl, by simp, by omega, fun _ => rfl, RB.nil⟩
  · have hlm : len ≤ m := by rw [hmm]; split <;> omega
    obtain ⟨l, hll, hq⟩ := list_of (Q := fun i (b : UInt8) => w.cell? (a.add i) = some (.int .u8 (b.toNat : Int))) len (fun i hi' => by
      obtain ⟨h1, h2⟩ := hi i (by omega)
      obtain ⟨v, e0, _, hw⟩ := DataW.trod_int he h2
      injection e0 with e0 _
      have hw : 0 ≤ v ∧ v ≤ 255 := by
        simp [Lit.wf, IntKind.min, IntKind.max, IntKind.signed, IntKind.bits] at hw
        omega
      refine ⟨UInt8.ofNat v.toNat, ?_⟩
      rw [h1, e0, UInt8.toNat_ofNat', Nat.mod_eq_of_lt (by omega), Int.toNat_of_nonneg hw.1])
    subst hll
    exact ⟨some a, cap, l, rfl, hl, hm, (fun e => nomatch e), reads_of (by simp [u8s_length]) (by decide) fun j u hu => by
      simp only [u8s, List.getElem?_map, Option.map_eq_some_iff] at hu
      obtain ⟨b, hb, rfl⟩ := hu
      exact hq j b hb⟩

theorem open_keys {t t1 e : TypeId} {fuel : Nat} {cs : List Value} {x : DataW H × List MemPlace} (ht : P.underlying t = some (.slice t1)) (ht1 : P.underlying t1 = some (.slice e)) (he : P.underlying e = some (.int .u8)) (hC1 : P.cellsOf t1 = 1) (hC : P.cellsOf e = 1)
    (h : DataW.trod enc P w base spare held fuel t cs = some x) :
    ∃ (A : Option Addr) (c : Nat) (ks : List (List UInt8)), cs = [.slice A ks.length c] ∧ ks.length ≤ c ∧ c ≤ 9223372036854775807 ∧ (A = none → c = 0) ∧ RBs w w.heap.size A ks.length ks := by
  rcases open_slice1 ht hC1 h with ⟨rfl, _⟩ | ⟨a, len, cap, m, n, V, D, Pl, rfl, _, hl, hm, hmm, _, hi⟩
  · exact ⟨none, 0, [], rfl, by simp, by omega, fun _ => rfl, KV.nil.rbs Reads.nil⟩
  · have hlm : len ≤ m := by rw [hmm]; split <;> omega
    obtain ⟨ps, hpl, hq⟩ := list_of (Q := fun i (p : Value × List UInt8) => w.cell? (a.add i) = some p.1 ∧ ∃ (A : Option Addr) (c : Nat), p.1 = .slice A p.2.length c ∧ p.2.length ≤ c ∧ c ≤ 9223372036854775807 ∧ (A = none → c = 0) ∧ RB w w.heap.size A p.2.length p.2) len (fun i hi' => by
      obtain ⟨h1, h2⟩ := hi i (by omega)
      obtain ⟨A, c, l, e0, q1, q2, q3, q4⟩ := open_bytes ht1 he hC h2
      injection e0 with e0 _
      exact ⟨(V i, l), h1, A, c, e0, q1, q2, q3, q4⟩)
    subst hpl
    refine ⟨some a, cap, ps.map (·.2), by simp, by simpa using hl, hm, (fun e => nomatch e), ?_⟩
    have hk : KV w w.heap.size (ps.map (·.1)) (ps.map (·.2)) := by
      refine ⟨by simp, fun i k hk => ?_⟩
      rw [List.getElem?_map, Option.map_eq_some_iff] at hk
      obtain ⟨p, hp, rfl⟩ := hk
      obtain ⟨_, A, c, e1, q⟩ := hq i p hp
      exact ⟨A, c, by rw [List.getElem?_map, hp, Option.map_some, e1], q⟩
    refine hk.rbs (reads_of (by simp) (by decide) fun j u hu => ?_)
    rw [List.getElem?_map, Option.map_eq_some_iff] at hu
    obtain ⟨p, hp, rfl⟩ := hu
    exact (hq j p hp).1
/-- The same, an argument's value. -/
theorem open_slice_top {r : Reach} {b0 : Nat} {t e : TypeId} {v : Value} {d : DataW H} {ps : List MemPlace} (ht : P.underlying t = some (.slice e)) (hval : Value.okWide P w r b0 t v) (h : DataW.Trod enc P w base spare held t v d ps) :
    ∃ fuel, DataW.trod enc P w base spare held fuel t [v] = some (d, ps) := by
  obtain ⟨a, n, c, rfl⟩ := okWide_slice ht hval
  obtain ⟨fuel, hf⟩ := h
  exact ⟨fuel, hf⟩
theorem open_bytes_top {r : Reach} {b0 : Nat} {t e : TypeId} {v : Value} {d : DataW H} {ps : List MemPlace} (ht : P.underlying t = some (.slice e)) (he : P.underlying e = some (.int .u8)) (hC : P.cellsOf e = 1)
    (hval : Value.okWide P w r b0 t v) (h : DataW.Trod enc P w base spare held t v d ps) :
    ∃ (A : Option Addr) (c : Nat) (l : List UInt8), v = .slice A l.length c ∧ l.length ≤ c ∧ c ≤ 9223372036854775807 ∧ (A = none → c = 0) ∧ RB w w.heap.size A l.length l := by
  obtain ⟨fuel, hf⟩ := open_slice_top ht hval h
  obtain ⟨A, c, l, h1, h2⟩ := open_bytes ht he hC hf
  injection h1 with h1
  exact ⟨A, c, l, h1, h2⟩
theorem open_keys_top {r : Reach} {b0 : Nat} {t t1 e : TypeId} {v : Value} {d : DataW H} {ps : List MemPlace} (ht : P.underlying t = some (.slice t1)) (ht1 : P.underlying t1 = some (.slice e)) (he : P.underlying e = some (.int .u8)) (hC1 : P.cellsOf t1 = 1) (hC : P.cellsOf e = 1)
    (hval : Value.okWide P w r b0 t v) (h : DataW.Trod enc P w base spare held t v d ps) :
    ∃ (A : Option Addr) (c : Nat) (ks : List (List UInt8)), v = .slice A ks.length c ∧ ks.length ≤ c ∧ c ≤ 9223372036854775807 ∧ (A = none → c = 0) ∧ RBs w w.heap.size A ks.length ks := by
  obtain ⟨fuel, hf⟩ := open_slice_top ht hval h
  obtain ⟨A, c, ks, h1, h2⟩ := open_keys ht ht1 he hC1 hC hf
  injection h1 with h1
  exact ⟨A, c, ks, h1, h2⟩
end

end Go.Proofs.YtmigjipfomfacaaDoor

/-
  What the bound on the arguments gives: lengths of bytes and of lists of bytes.
-/
namespace Go.Proofs.YtmigjipfomfacaaDoor
open Go.RowKit Go.WideShapes Go.ChangeShapes Go.Joins Go.Deep

theorem bulk_one {H : Type} (d : DataW H) : 1 ≤ Rows.uptoBulk d := by
  cases d with
  | lit l => cases l <;> simp [Rows.uptoBulk]
  | nil => simp [Rows.uptoBulk]
  | ptr d => simp [Rows.uptoBulk]
  | slice elems spare => simp [Rows.uptoBulk]
  | agg parts => simp [Rows.uptoBulk]
  | iface t d => simp [Rows.uptoBulk]
  | map entries => simp [Rows.uptoBulk]
  | held h => simp [Rows.uptoBulk]
theorem bulk_app {H : Type} (l r : List (DataW H)) : Rows.uptoBulkAll (l ++ r) = Rows.uptoBulkAll l + Rows.uptoBulkAll r := by
  induction l with
  | nil => simp [Rows.uptoBulkAll]
  | cons x l ih => simp only [List.cons_append, Rows.uptoBulkAll, ih]; omega
theorem bulk_len {H : Type} (l : List (DataW H)) : l.length ≤ Rows.uptoBulkAll l := by
  induction l with
  | nil => simp [Rows.uptoBulkAll]
  | cons x r ih => have := bulk_one x; simp only [Rows.uptoBulkAll, List.length_cons]; omega
theorem bulk_range {H : Type} (D : Nat → DataW H) (g : Nat → Nat) (n : Nat) (h : ∀ i, i < n → g i ≤ Rows.uptoBulk (D i)) : ((List.range n).map g).sum ≤ Rows.uptoBulkAll ((List.range n).map D) := by
  induction n with
  | zero => simp
  | succ n ih =>
    have h1 := ih fun i hi => h i (by omega)
    have h2 := h n (by omega)
    rw [List.range_succ, List.map_append, List.map_append, List.sum_append, bulk_app]
    simp only [List.map_cons, List.map_nil, List.sum_cons, List.sum_nil, Rows.uptoBulkAll]
    omega

section
variable {H : Type} {enc : TypeId × Value → H} {P : Program} {w : World} {base : Nat} {held : Bool}
theorem upto_bytes {t e : TypeId} {fuel : Nat} {cs : List Value} {x : DataW H × List MemPlace} (ht : P.underlying t = some (.slice e)) (he : P.underlying e = some (.int .u8)) (hC : P.cellsOf e = 1)
    (h : DataW.trod enc P w base (fun _ => true) held fuel t cs = some x) :
    ∃ (A : Option Addr) (c : Nat) (l : List UInt8), cs = [.slice A l.length c] ∧ Sl w A l.length c l ∧ c + 1 ≤ Rows.uptoBulk x.1 := by
  obtain ⟨A, c, l, h1, h2, h3, h4, h5⟩ := open_bytes ht he hC h
  refine ⟨A, c, l, h1, ⟨h5, h2, h3, h4⟩, ?_⟩
  rcases open_slice1 ht hC h with ⟨rfl, rfl⟩ | ⟨a, len, cap, m, n, V, D, Pl, rfl, _, hl, hm, hmm, hx, hi⟩
  · injection h1 with h1
    injection h1 with _ _ h1
    subst h1
    simp [Rows.uptoBulk]
  · injection h1 with h1
    injection h1 with _ _ h1
    subst h1
    rw [if_pos rfl] at hmm
    subst hmm
    rw [hx]
    simp only [Rows.uptoBulk]
    have e1 := bulk_len (H := H) ((List.range len).map D)
    have e2 := bulk_len (H := H) ((List.range (m - len)).map fun j => D (len + j))
    simp only [List.length_map, List.length_range] at e1 e2
    omega

theorem flat_sum {α : Type} (ks : List (List α)) : ks.flatten.length + ks.length = ((List.range ks.length).map fun i => (ks[i]?.getD []).length + 1).sum := by
  induction ks with
  | nil => rfl
  | cons k ks ih =>
    rw [List.length_cons, List.range_succ_eq_map, List.map_cons, List.sum_cons, List.map_map]
    have : ((fun i => ((k :: ks)[i]?.getD []).length + 1) ∘ Nat.succ) = fun i => (ks[i]?.getD []).length + 1 := by
      funext i; simp
    rw [this, ← ih, List.flatten_cons, List.length_append]
    simp only [List.getElem?_cons_zero, Option.getD_some]
    omega

theorem upto_keys {t t1 e : TypeId} {fuel : Nat} {cs : List Value} {x : DataW H × List MemPlace} (ht : P.underlying t = some (.slice t1)) (ht1 : P.underlying t1 = some (.slice e)) (he : P.underlying e = some (.int .u8)) (hC1 : P.cellsOf t1 = 1) (hC : P.cellsOf e = 1)
    (h : DataW.trod enc P w base (fun _ => true) held fuel t cs = some x) :
    ∃ (A : Option Addr) (c : Nat) (ks : List (List UInt8)), cs = [.slice A ks.length c] ∧ ks.length ≤ c ∧ c ≤ 9223372036854775807 ∧ (A = none → c = 0) ∧ RBs w w.heap.size A ks.length ks ∧ ks.flatten.length + c + 1 ≤ Rows.uptoBulk x.1 := by
  rcases open_slice1 ht hC1 h with ⟨rfl, rfl⟩ | ⟨a, len, cap, m, n, V, D, Pl, rfl, _, hl, hm, hmm, hx, hi⟩
  · exact ⟨none, 0, [], rfl, by simp, by omega, fun _ => rfl, KV.nil.rbs Reads.nil, by simp [Rows.uptoBulk]⟩
  · rw [if_pos rfl] at hmm
    subst hmm
    obtain ⟨ps, hpl, hq⟩ := list_of (Q := fun i (p : Value × List UInt8) => w.cell? (a.add i) = some p.1 ∧ (∃ (A : Option Addr) (c : Nat), p.1 = .slice A p.2.length c ∧ p.2.length ≤ c ∧ c ≤ 9223372036854775807 ∧ (A = none → c = 0) ∧ RB w w.heap.size A p.2.length p.2) ∧ p.2.length + 1 ≤ Rows.uptoBulk (D i)) len (fun i hi' => by
      obtain ⟨h1, h2⟩ := hi i (by omega)
      obtain ⟨A, c, l, e0, q1, q2⟩ := upto_bytes ht1 he hC h2
      injection e0 with e0 _
      exact ⟨(V i, l), h1, ⟨A, c, e0, q1.cap, q1.lim, q1.nil, q1.rb⟩, by have h9 := q1.cap; have h8 : c + 1 ≤ Rows.uptoBulk (D i) := q2; exact Nat.le_trans (Nat.add_le_add_right h9 1) h8⟩)
    subst hpl
    have hk : KV w w.heap.size (ps.map (·.1)) (ps.map (·.2)) := by
      refine ⟨by simp, fun i k hk => ?_⟩
      rw [List.getElem?_map, Option.map_eq_some_iff] at hk
      obtain ⟨p, hp, rfl⟩ := hk
      obtain ⟨_, ⟨A, c, e1, q⟩, _⟩ := hq i p hp
      exact ⟨A, c, by rw [List.getElem?_map, hp, Option.map_some, e1], q⟩
    refine ⟨some a, m, ps.map (·.2), by simp, by simpa using hl, hm, (fun e => nomatch e), hk.rbs (reads_of (by simp) (by decide) fun j u hu => ?_), ?_⟩
    · rw [List.getElem?_map, Option.map_eq_some_iff] at hu
      obtain ⟨p, hp, rfl⟩ := hu
      exact (hq j p hp).1
    · rw [hx]
      simp only [Rows.uptoBulk]
      have e1 := bulk_range D (fun i => ((ps.map (·.2))[i]?.getD []).length + 1) ps.length fun i hi' => by
        have hp : ps[i]? = some ps[i] := List.getElem?_eq_getElem hi'
        have := (hq i _ hp).2.2
        rw [List.getElem?_map, hp]
        exact this
      have e2 := bulk_len (H := H) ((List.range (m - ps.length)).map fun j => D (ps.length + j))
      simp only [List.length_map, List.length_range] at e2
      have e3 := flat_sum (ps.map (·.2))
      rw [List.length_map] at e3
      omega

theorem upto_bytes_top {r : Reach} {b0 : Nat} {t e : TypeId} {v : Value} {d : DataW H} {ps : List MemPlace} (ht : P.underlying t = some (.slice e)) (he : P.underlying e = some (.int .u8)) (hC : P.cellsOf e = 1)
    (hval : Value.okWide P w r b0 t v) (h : DataW.Trod enc P w base (fun _ => true) held t v d ps) :
    ∃ (A : Option Addr) (c : Nat) (l : List UInt8), v = .slice A l.length c ∧ Sl w A l.length c l ∧ c + 1 ≤ Rows.uptoBulk d := by
  obtain ⟨fuel, hf⟩ := open_slice_top ht hval h
  obtain ⟨A, c, l, h1, h2⟩ := upto_bytes ht he hC hf
  injection h1 with h1
  exact ⟨A, c, l, h1, h2⟩
theorem upto_keys_top {r : Reach} {b0 : Nat} {t t1 e : TypeId} {v : Value} {d : DataW H} {ps : List MemPlace} (ht : P.underlying t = some (.slice t1)) (ht1 : P.underlying t1 = some (.slice e)) (he : P.underlying e = some (.int .u8)) (hC1 : P.cellsOf t1 = 1) (hC : P.cellsOf e = 1)
    (hval : Value.okWide P w r b0 t v) (h : DataW.Trod enc P w base (fun _ => true) held t v d ps) :
    ∃ (A : Option Addr) (c : Nat) (ks : List (List UInt8)), v = .slice A ks.length c ∧ ks.length ≤ c ∧ c ≤ 9223372036854775807 ∧ (A = none → c = 0) ∧ RBs w w.heap.size A ks.length ks ∧ ks.flatten.length + c + 1 ≤ Rows.uptoBulk d := by
  obtain ⟨fuel, hf⟩ := open_slice_top ht hval h
  obtain ⟨A, c, ks, h1, h2⟩ := upto_keys ht ht1 he hC1 hC hf
  injection h1 with h1
  exact ⟨A, c, ks, h1, h2⟩
end
end Go.Proofs.YtmigjipfomfacaaDoor

/-
  The frame of the wire statements' proofs: the table as the row lists it, a world for the witness.
-/
namespace Go.Proofs.YtmigjipfomfacaaDoor
open Go.ChangeShapes Go.WideShapes Go.ChangeAt Go.RowKit Go.Joins Go.Deep

theorem Tryd.own : ownKnob Tryd.prog.godebug = none := by kernel_rfl
theorem Tryd.laidOut : laidOutB Tryd.prog = true := by kernel_rfl
theorem gTab : Tryd.prog.globalNamed "strata/wire.table" = some 0 := by kernel_rfl
theorem gTabType : (Tryd.prog.globals[0]?).map (·.type) = some 123 := by kernel_rfl
theorem gTabCells : Tryd.prog.cellsOf 123 = 16 := by kernel_rfl
theorem gTabCell : Tryd.prog.cellsOf 45 = 1 := by kernel_rfl
def tabZ : List Int := [0, 274646895, 549293790, 820201905, 1098587580, 1361435347, 1640403810, 1905808397, 2197175160, 2460548119, 2722870694, 2987750089, 3280807620, 3553878443, 3811616794, 4084100981]
theorem tabZ_at : ∀ i : Fin 16, tabZ.getD i.val 0 = (tabN i.val : Int) := by decide +kernel
/-- What the row's list gives. -/
theorem table_of {W : World} (h : laidMetH Tryd.prog [("strata/wire.table", Rows.laid_strata_wire_table)] W) : TabAt 0 W := by
  have ht : Lib.TabIs Tryd.prog W "strata/wire.table" .u32 tabZ := Lib.tabIs_of_head (rest := []) gTab gTabType Tryd.underlying123 Tryd.underlying45 gTabCell gTabCells h
  have hc : ∀ i, i < 16 → W.cell? ⟨0, i, none⟩ = some (.int .u32 (tabN i)) := fun i hi => by
    rw [ht.cell gTab i hi, tabZ_at ⟨i, hi⟩]
  exact ⟨World.block_lt_of_cell? W ⟨0, 0, none⟩ (hc 0 (by decide)), hc⟩
/-- A world for the witness: the settled one, the table holding what its initialiser lays. -/
noncomputable def laidWorld (os : Os) : World :=
  { World.holding Tryd.prog os ⟨#[], #[], []⟩ with heap := (World.holding Tryd.prog os ⟨#[], #[], []⟩).heap.modify 0 fun
      | .cells _ t frozen => .cells #[.int .u32 0, .int .u32 274646895, .int .u32 549293790, .int .u32 820201905, .int .u32 1098587580, .int .u32 1361435347, .int .u32 1640403810, .int .u32 1905808397, .int .u32 2197175160, .int .u32 2460548119, .int .u32 2722870694, .int .u32 2987750089, .int .u32 3280807620, .int .u32 3553878443, .int .u32 3811616794, .int .u32 4084100981] t frozen
      | o => o }

theorem i64_wf {n : Int} (h : (Lit.int .i64 n).wf = true) : -9223372036854775808 ≤ n ∧ n < 9223372036854775808 := by
  simp [Lit.wf, IntKind.min, IntKind.max, IntKind.signed, IntKind.bits] at h
  omega
theorem u64_wf {n : Int} (h : (Lit.int .u64 n).wf = true) : 0 ≤ n ∧ n < 18446744073709551616 := by
  simp [Lit.wf, IntKind.min, IntKind.max, IntKind.signed, IntKind.bits] at h
  omega
theorem u32_wf {n : Int} (h : (Lit.int .u32 n).wf = true) : 0 ≤ n ∧ n < 4294967296 := by
  simp [Lit.wf, IntKind.min, IntKind.max, IntKind.signed, IntKind.bits] at h
  omega

end Go.Proofs.YtmigjipfomfacaaDoor

/-
  A slice of structs that came in, each field of one cell: its cells, what each field reads as, and the bound on it.
-/
namespace Go.Proofs.YtmigjipfomfacaaDoor
open Go.RowKit Go.WideShapes Go.ChangeShapes Go.Joins Go.Deep

theorem bulk_mem {H : Type} {d : DataW H} {l : List (DataW H)} (h : d ∈ l) : Rows.uptoBulk d ≤ Rows.uptoBulkAll l := by
  induction l with
  | nil => cases h
  | cons x l ih =>
    simp only [Rows.uptoBulkAll]
    rcases List.mem_cons.1 h with rfl | h
    · omega
    · have := ih h; omega

section
variable {H : Type} {enc : TypeId × Value → H} {P : Program} {w : World} {base : Nat} {held : Bool}
theorem upto_structs {t e : TypeId} {fs : Array Field} {fuel : Nat} {cs : List Value} {x : DataW H × List MemPlace} (ht : P.underlying t = some (.slice e)) (he : P.underlying e = some (.struct fs))
    (hone : oneCellFields P fs = true) (hC : P.cellsOf e = fs.size) (h : DataW.trod enc P w base (fun _ => true) held fuel t cs = some x) :
    cs = [.slice none 0 0] ∨
    ∃ (a : Addr) (len cap : Nat), cs = [.slice (some a) len cap] ∧ len ≤ cap ∧ cap ≤ maxLen ∧ cap + 1 ≤ Rows.uptoBulk x.1 ∧
      ∀ i, i < len → ∀ (j : Nat) (f : Field), fs[j]? = some f → ∃ (v : Value) (y : DataW H × List MemPlace) (n : Nat), w.cell? (a.add (i * fs.size + j)) = some v ∧ DataW.trod enc P w base (fun _ => true) held n f.type [v] = some y ∧ Rows.uptoBulk y.1 + 1 ≤ Rows.uptoBulk x.1 := by
  rcases open_slice_fields ht he hone hC h with ⟨h0, _⟩ | ⟨a, len, cap, m, D, Pl, hcs, hb, hl, hm, hmm, hx, hi⟩
  · exact .inl h0
  · rw [if_pos rfl] at hmm
    subst hmm
    refine .inr ⟨a, len, m, hcs, hl, hm, ?_, fun i him j f hf => ?_⟩
    · rw [hx]
      simp only [Rows.uptoBulk]
      have e1 := bulk_len (H := H) ((List.range len).map D)
      have e2 := bulk_len (H := H) ((List.range (m - len)).map fun j => D (len + j))
      simp only [List.length_map, List.length_range] at e1 e2
      omega
    · obtain ⟨ys, n, hD, _, hyl, hq⟩ := hi i (by omega)
      obtain ⟨v, y, hc, hy, ht'⟩ := hq j f hf
      refine ⟨v, y, n, hc, ht', ?_⟩
      have h1 : Rows.uptoBulk y.1 ≤ Rows.uptoBulkAll (ys.map (·.1)) := bulk_mem (List.mem_map.2 ⟨y, List.mem_of_getElem? hy, rfl⟩)
      have h2 : Rows.uptoBulk (D i) ≤ Rows.uptoBulkAll ((List.range len).map D) := bulk_mem (List.mem_map.2 ⟨i, List.mem_range.2 him, rfl⟩)
      rw [hD] at h2
      rw [hx]
      simp only [Rows.uptoBulk] at h2 ⊢
      omega
theorem field_int {k : IntKind} {t : TypeId} {v : Value} {y : DataW H × List MemPlace} {n : Nat} {sp : Nat → Bool} (ht : P.underlying t = some (.int k)) (h : DataW.trod enc P w base sp held n t [v] = some y) : ∃ z : Int, v = .int k z ∧ (Lit.int k z).wf = true := by
  obtain ⟨z, e0, _, hw⟩ := DataW.trod_int ht h
  injection e0 with e0 _
  exact ⟨z, e0, hw⟩
theorem field_bytes {t e : TypeId} {v : Value} {y : DataW H × List MemPlace} {n : Nat} (ht : P.underlying t = some (.slice e)) (he : P.underlying e = some (.int .u8)) (hC : P.cellsOf e = 1) (h : DataW.trod enc P w base (fun _ => true) held n t [v] = some y) :
    ∃ (A : Option Addr) (m c : Nat) (l : List UInt8), v = .slice A m c ∧ Sl w A m c l ∧ c + 1 ≤ Rows.uptoBulk y.1 := by
  obtain ⟨A, c, l, e0, h1, h2⟩ := upto_bytes ht he hC h
  injection e0 with e0 _
  exact ⟨A, _, c, l, e0, h1, h2⟩
theorem field_keys {t t1 e : TypeId} {v : Value} {y : DataW H × List MemPlace} {n : Nat} (ht : P.underlying t = some (.slice t1)) (ht1 : P.underlying t1 = some (.slice e)) (he : P.underlying e = some (.int .u8)) (hC1 : P.cellsOf t1 = 1) (hC : P.cellsOf e = 1) (h : DataW.trod enc P w base (fun _ => true) held n t [v] = some y) :
    ∃ (A : Option Addr) (m c : Nat) (ks : List (List UInt8)), v = .slice A m c ∧ m ≤ c ∧ c ≤ 9223372036854775807 ∧ (A = none → c = 0) ∧ RBs w w.heap.size A m ks ∧ ks.flatten.length + c + 1 ≤ Rows.uptoBulk y.1 := by
  obtain ⟨A, c, ks, e0, h1, h2, h3, h4, h5⟩ := upto_keys ht ht1 he hC1 hC h
  injection e0 with e0 _
  exact ⟨A, _, c, ks, e0, h1, h2, h3, h4, h5⟩
end
end Go.Proofs.YtmigjipfomfacaaDoor

/-
  A list of entries that came in, within the bound.
-/
namespace Go.Proofs.YtmigjipfomfacaaDoor
open Go.RowKit Go.WideShapes Go.ChangeShapes Go.Joins Go.Deep

theorem ens_of_cells {w : World} {b o n : Nat} (hb : b < w.heap.size) (h : ∀ i, i < n → ∃ r : ER, (∀ j v, r.cells[j]? = some v → w.cell? ⟨b, o + (i * 7 + j), none⟩ = some v) ∧ r.En w) : ∃ L, Ens w (some ⟨b, o, none⟩) n L := by
  have hh : ∀ m, m ≤ n → ∃ rs : List ER, rs.length = m ∧ (∀ i r, rs[i]? = some r → (∀ j v, r.cells[j]? = some v → w.cell? ⟨b, o + (i * 7 + j), none⟩ = some v) ∧ r.En w) := by
    intro m
    induction m with
    | zero => intro _; exact ⟨[], rfl, fun i r hr => by cases hr⟩
    | succ m ih =>
      intro hm
      obtain ⟨rs, h1, h2⟩ := ih (by omega)
      obtain ⟨r, hr⟩ := h m (by omega)
      refine ⟨rs ++ [r], by rw [List.length_append, h1]; rfl, fun i q hq => ?_⟩
      rw [List.getElem?_append] at hq
      split at hq
      · exact h2 i q hq
      · rename_i hlt
        obtain rfl : i = m := by
          have := (List.getElem?_eq_some_iff.1 hq).1
          simp at this; omega
        rw [h1, Nat.sub_self] at hq
        injection hq with hq
        subst hq; exact hr
  obtain ⟨rs, h1, h2⟩ := hh n (Nat.le_refl _)
  refine ⟨rs.map ER.e, rs, rfl, ⟨by rw [flat7_len, h1], fun _ => ⟨b, o, rfl, hb, fun j u hu => ?_⟩⟩, fun r hr => ?_⟩
  · have hj : j < rs.length * 7 := by have := (List.getElem?_eq_some_iff.1 hu).1; rwa [flat7_len] at this
    obtain ⟨r, hr⟩ : ∃ r, rs[j / 7]? = some r := ⟨_, List.getElem?_eq_getElem (by omega)⟩
    have e : j = j / 7 * 7 + j % 7 := by omega
    rw [e] at hu ⊢
    rw [flat7_at hr (j % 7) (by omega)] at hu
    exact (h2 _ r hr).1 (j % 7) u hu
  · obtain ⟨i, hi⟩ := List.getElem?_of_mem hr
    exact (h2 i r hi).2
section
variable {H : Type} {enc : TypeId × Value → H} {w : World} {base : Nat} {held : Bool}
set_option maxRecDepth 100000 in
theorem upto_ents {fuel : Nat} {cs : List Value} {x : DataW H × List MemPlace} (h : DataW.trod enc Tryd.prog w base (fun _ => true) held fuel 22 cs = some x) (hb : Rows.uptoBulk x.1 ≤ 1048576) :
    ∃ (A : Option Addr) (n c : Nat) (L : List Ent), cs = [.slice A n c] ∧ n ≤ c ∧ c ≤ 1048576 ∧ Ens w A n L := by
  rcases upto_structs Tryd.underlying22 Tryd.underlying37 (by kernel_rfl) (by kernel_rfl) h with rfl | ⟨a, len, cap, rfl, hl, hm, hc, hi⟩
  · exact ⟨none, 0, 0, [], rfl, by omega, by omega, Ens.nil⟩
  · rcases Nat.eq_zero_or_pos len with h0 | hn
    · subst h0; exact ⟨some a, 0, cap, [], rfl, hl, by omega, Ens.nil⟩
    obtain ⟨v, y, n, c0, _⟩ := hi 0 hn 0 _ rfl
    have c0' : w.cell? (a.add 0) = some v := c0
    rw [show a.add 0 = a from by simp [Addr.add]] at c0'
    have hsp := spot_none c0'
    have hb0 := World.block_lt_of_cell? w a c0'
    obtain ⟨L, hL⟩ := ens_of_cells (w := w) (b := a.block) (o := a.off) (n := len) hb0 fun i him => by
      obtain ⟨v0, y0, n0, c0, t0, u0⟩ := hi i him 0 _ rfl
      obtain ⟨v1, y1, n1, c1, t1, _⟩ := hi i him 1 _ rfl
      obtain ⟨v2, y2, n2, c2, t2, u2⟩ := hi i him 2 _ rfl
      obtain ⟨v3, y3, n3, c3, t3, _⟩ := hi i him 3 _ rfl
      obtain ⟨v4, y4, n4, c4, t4, _⟩ := hi i him 4 _ rfl
      obtain ⟨v5, y5, n5, c5, t5, _⟩ := hi i him 5 _ rfl
      obtain ⟨v6, y6, n6, c6, t6, u6⟩ := hi i him 6 _ rfl
      obtain ⟨A, m, c, l, rfl, hs, _⟩ := field_bytes Tryd.underlying24 Tryd.underlying5 (by kernel_rfl) t0
      obtain ⟨fam, rfl, _⟩ := field_int Tryd.underlying3 t1
      obtain ⟨B, m2, d, l2, rfl, hs2, _⟩ := field_bytes Tryd.underlying24 Tryd.underlying5 (by kernel_rfl) t2
      obtain ⟨ts, rfl, _⟩ := field_int Tryd.underlying3 t3
      obtain ⟨sq, rfl, _⟩ := field_int Tryd.underlying3 t4
      obtain ⟨kd, rfl, _⟩ := field_int Tryd.underlying3 t5
      obtain ⟨D, m3, q, l3, rfl, hs3, _⟩ := field_bytes Tryd.underlying24 Tryd.underlying5 (by kernel_rfl) t6
      have e1 := hs.rb.len
      have e2 := hs2.rb.len
      have e3 := hs3.rb.len
      subst e1 e2 e3
      rw [addr_add _ _ hsp] at c0 c1 c2 c3 c4 c5 c6
      refine ⟨⟨A, c, B, d, D, q, ⟨l, fam, l2, ts, sq, kd, l3⟩⟩, fun j v hj => ?_, ⟨hs, hs2, hs3⟩⟩
      match j, hj with
      | 0, hj => injection hj with hj; subst hj; exact c0
      | 1, hj => injection hj with hj; subst hj; exact c1
      | 2, hj => injection hj with hj; subst hj; exact c2
      | 3, hj => injection hj with hj; subst hj; exact c3
      | 4, hj => injection hj with hj; subst hj; exact c4
      | 5, hj => injection hj with hj; subst hj; exact c5
      | 6, hj => injection hj with hj; subst hj; exact c6
    exact ⟨some a, len, cap, L, rfl, hl, by omega, by obtain ⟨b, o, sp⟩ := a; simp at hsp; subst hsp; exact hL⟩
set_option maxRecDepth 100000 in
theorem upto_ents_top {r : Reach} {b0 : Nat} {v : Value} {d : DataW H} {ps : List MemPlace} (hval : Value.okWide Tryd.prog w r b0 22 v) (h : DataW.Trod enc Tryd.prog w base (fun _ => true) held 22 v d ps) (hb : Rows.uptoBulk d ≤ 1048576) :
    ∃ (A : Option Addr) (n c : Nat) (L : List Ent), v = .slice A n c ∧ n ≤ 1048576 ∧ Ens w A n L := by
  obtain ⟨fuel, hf⟩ := open_slice_top Tryd.underlying22 hval h
  obtain ⟨A, n, c, L, h1, h2, h3, h4⟩ := upto_ents hf hb
  injection h1 with h1
  exact ⟨A, n, c, L, h1, by omega, h4⟩
set_option maxRecDepth 100000 in
theorem full_ents {fuel : Nat} {cs : List Value} {x : DataW H × List MemPlace} (h : DataW.trod enc Tryd.prog w base (fun _ => true) held fuel 22 cs = some x) :
    ∃ (A : Option Addr) (n c : Nat) (L : List Ent), cs = [.slice A n c] ∧ n ≤ c ∧ c ≤ 9223372036854775807 ∧ Ens w A n L := by
  rcases upto_structs Tryd.underlying22 Tryd.underlying37 (by kernel_rfl) (by kernel_rfl) h with rfl | ⟨a, len, cap, rfl, hl, hm, _, hi⟩
  · exact ⟨none, 0, 0, [], rfl, by omega, by omega, Ens.nil⟩
  · rcases Nat.eq_zero_or_pos len with h0 | hn
    · subst h0; exact ⟨some a, 0, cap, [], rfl, hl, hm, Ens.nil⟩
    obtain ⟨v, y, n, c0, _⟩ := hi 0 hn 0 _ rfl
    have c0' : w.cell? (a.add 0) = some v := c0
    rw [show a.add 0 = a from by simp [Addr.add]] at c0'
    have hsp := spot_none c0'
    have hb0 := World.block_lt_of_cell? w a c0'
    obtain ⟨L, hL⟩ := ens_of_cells (w := w) (b := a.block) (o := a.off) (n := len) hb0 fun i him => by
      obtain ⟨v0, y0, n0, c0, t0, u0⟩ := hi i him 0 _ rfl
      obtain ⟨v1, y1, n1, c1, t1, _⟩ := hi i him 1 _ rfl
      obtain ⟨v2, y2, n2, c2, t2, u2⟩ := hi i him 2 _ rfl
      obtain ⟨v3, y3, n3, c3, t3, _⟩ := hi i him 3 _ rfl
      obtain ⟨v4, y4, n4, c4, t4, _⟩ := hi i him 4 _ rfl
      obtain ⟨v5, y5, n5, c5, t5, _⟩ := hi i him 5 _ rfl
      obtain ⟨v6, y6, n6, c6, t6, u6⟩ := hi i him 6 _ rfl
      obtain ⟨A, m, c, l, rfl, hs, _⟩ := field_bytes Tryd.underlying24 Tryd.underlying5 (by kernel_rfl) t0
      obtain ⟨fam, rfl, _⟩ := field_int Tryd.underlying3 t1
      obtain ⟨B, m2, d, l2, rfl, hs2, _⟩ := field_bytes Tryd.underlying24 Tryd.underlying5 (by kernel_rfl) t2
      obtain ⟨ts, rfl, _⟩ := field_int Tryd.underlying3 t3
      obtain ⟨sq, rfl, _⟩ := field_int Tryd.underlying3 t4
      obtain ⟨kd, rfl, _⟩ := field_int Tryd.underlying3 t5
      obtain ⟨D, m3, q, l3, rfl, hs3, _⟩ := field_bytes Tryd.underlying24 Tryd.underlying5 (by kernel_rfl) t6
      have e1 := hs.rb.len
      have e2 := hs2.rb.len
      have e3 := hs3.rb.len
      subst e1 e2 e3
      rw [addr_add _ _ hsp] at c0 c1 c2 c3 c4 c5 c6
      refine ⟨⟨A, c, B, d, D, q, ⟨l, fam, l2, ts, sq, kd, l3⟩⟩, fun j v hj => ?_, ⟨hs, hs2, hs3⟩⟩
      match j, hj with
      | 0, hj => injection hj with hj; subst hj; exact c0
      | 1, hj => injection hj with hj; subst hj; exact c1
      | 2, hj => injection hj with hj; subst hj; exact c2
      | 3, hj => injection hj with hj; subst hj; exact c3
      | 4, hj => injection hj with hj; subst hj; exact c4
      | 5, hj => injection hj with hj; subst hj; exact c5
      | 6, hj => injection hj with hj; subst hj; exact c6
    exact ⟨some a, len, cap, L, rfl, hl, hm, by obtain ⟨b, o, sp⟩ := a; simp at hsp; subst hsp; exact hL⟩
set_option maxRecDepth 100000 in
theorem full_ents_top {r : Reach} {b0 : Nat} {v : Value} {d : DataW H} {ps : List MemPlace} (hval : Value.okWide Tryd.prog w r b0 22 v) (h : DataW.Trod enc Tryd.prog w base (fun _ => true) held 22 v d ps) :
    ∃ (A : Option Addr) (n c : Nat) (L : List Ent), v = .slice A n c ∧ n ≤ 9223372036854775807 ∧ Ens w A n L := by
  obtain ⟨fuel, hf⟩ := open_slice_top Tryd.underlying22 hval h
  obtain ⟨A, n, c, L, h1, h2, h3, h4⟩ := full_ents hf
  injection h1 with h1
  exact ⟨A, n, c, L, h1, by omega, h4⟩
end
end Go.Proofs.YtmigjipfomfacaaDoor

/-
  Bits turned over in bytes. No program in sight.
-/
namespace Go.Proofs.YtmigjipfomfacaaDoor
open Go.RowKit

/-- One bit of a byte turned over. -/
def flipU (x : UInt8) (t : Nat) : UInt8 := UInt8.ofNat (x.toNat ^^^ 2 ^ t)
/-- One bit turned over; a bit that there is not is left out. -/
def flipB (l : List UInt8) (z : Int) : List UInt8 := if 0 ≤ z ∧ z < 8 * (l.length : Int) then l.set (z.toNat / 8) (flipU (l[z.toNat / 8]?.getD 0) (z.toNat % 8)) else l
def flipsB (l : List UInt8) (zs : List Int) : List UInt8 := zs.foldl flipB l
theorem flipB_length (l : List UInt8) (z : Int) : (flipB l z).length = l.length := by unfold flipB; split <;> simp
theorem flipsB_length (zs : List Int) : ∀ l : List UInt8, (flipsB l zs).length = l.length := by
  induction zs with
  | nil => intro l; rfl
  | cons z zs ih => intro l; exact (ih (flipB l z)).trans (flipB_length l z)
theorem flipsB_snoc (l : List UInt8) (zs : List Int) (z : Int) : flipsB l (zs ++ [z]) = flipB (flipsB l zs) z := by simp [flipsB, List.foldl_append]
theorem pow8_lt {t : Nat} (h : t < 8) : 2 ^ t < 256 := by
  have : 2 ^ t ≤ 2 ^ 7 := Nat.pow_le_pow_right (by decide) (by omega)
  omega
theorem mod256_small (q : Nat) (h : q < 256) : (q : Int) % 256 = (q : Int) := by omega
theorem flip_walk (x : UInt8) (t : Nat) (ht : t < 8) : bits .xor .u8 (x.toNat : Int) ((2 : Int) ^ t % 256) = (((flipU x t).toNat : Nat) : Int) := by
  have hx := x.toNat_lt
  have h2 := pow8_lt ht
  have e : (2 : Int) ^ t % 256 = ((2 ^ t : Nat) : Int) := by
    rw [show (2 : Int) ^ t = ((2 ^ t : Nat) : Int) from by rw [Int.natCast_pow]; rfl]
    exact mod256_small _ h2
  have hb : x.toNat ^^^ 2 ^ t < 256 := Nat.xor_lt_two_pow (n := 8) (by omega) (by omega)
  rw [e, u8_xor_nat _ _ (by omega) h2]
  unfold flipU
  rw [UInt8.toNat_ofNat', Nat.mod_eq_of_lt hb]

end Go.Proofs.YtmigjipfomfacaaDoor

/-
  What the check sum tells: one to three bits turned over in bytes with their sum behind them. No program in sight.
-/
namespace Go.Proofs.YtmigjipfomfacaaDoor
open Go.RowKit

theorem crcL_xor (q : List UInt8) : ∀ u v : Nat, crcL (u ^^^ v) q = crcL u q ^^^ rIter (8 * q.length) v := by
  induction q with
  | nil => intro u v; rfl
  | cons x q ih =>
    intro u v
    show crcL (crcB (u ^^^ v) x) q = crcL (crcB u x) q ^^^ _
    have e : crcB (u ^^^ v) x = crcB u x ^^^ rIter 8 v := by
      unfold crcB
      rw [← rIter_xor]
      congr 1
      ac_rfl
    rw [e, ih, List.length_cons, show 8 * (q.length + 1) = 8 + 8 * q.length from by omega, rIter_add]
theorem rIter_pow (t : Nat) : ∀ k, rIter t (2 ^ (t + k)) = 2 ^ k := by
  induction t with
  | zero => intro k; rw [Nat.zero_add]; rfl
  | succ t ih =>
    intro k
    show rIter t (rStep (2 ^ (t + 1 + k))) = _
    rw [show t + 1 + k = (t + k) + 1 from by omega, Nat.pow_succ, Nat.mul_comm, rStep_even, ih]
theorem flipU_nat (x : UInt8) (t : Nat) (ht : t < 8) : (flipU x t).toNat = x.toNat ^^^ 2 ^ t := by
  unfold flipU
  have hb : x.toNat ^^^ 2 ^ t < 256 := Nat.xor_lt_two_pow (n := 8) x.toNat_lt (pow8_lt ht)
  rw [UInt8.toNat_ofNat', Nat.mod_eq_of_lt hb]
theorem crcB_flip (c : Nat) (x : UInt8) (t : Nat) (ht : t < 8) : crcB c (flipU x t) = crcB c x ^^^ rIter (8 - t) 1 := by
  unfold crcB
  rw [flipU_nat x t ht, ← Nat.xor_assoc, rIter_xor]
  congr 1
  have h := rIter_pow t 0
  rw [Nat.add_zero, Nat.pow_zero] at h
  rw [show (8 : Nat) = t + (8 - t) from by omega, rIter_add, h]
  rw [show t + (8 - t) - t = 8 - t from by omega]
/-- What one bit turned over does to the sum of n bytes. -/
def dl (n : Nat) (z : Int) : Nat := if 0 ≤ z ∧ z < 8 * (n : Int) then rIter (8 * n - z.toNat) 1 else 0
theorem crcL_flip (c : Nat) (l : List UInt8) (z : Int) : crcL c (flipB l z) = crcL c l ^^^ dl l.length z := by
  unfold flipB dl
  by_cases h : 0 ≤ z ∧ z < 8 * (l.length : Int)
  · rw [if_pos h, if_pos h]
    obtain ⟨Z, rfl⟩ : ∃ Z : Nat, z = (Z : Int) := ⟨z.toNat, by omega⟩
    rw [Int.toNat_natCast]
    have hD : Z / 8 < l.length := by omega
    have e1 : l = l.take (Z / 8) ++ (l[Z / 8]'hD :: l.drop (Z / 8 + 1)) := by
      rw [← List.drop_eq_getElem_cons hD, List.take_append_drop]
    have e2 : l.set (Z / 8) (flipU (l[Z / 8]?.getD 0) (Z % 8)) = l.take (Z / 8) ++ (flipU (l[Z / 8]'hD) (Z % 8) :: l.drop (Z / 8 + 1)) := by
      rw [List.getElem?_eq_getElem hD, List.set_eq_take_append_cons_drop, if_pos hD]; rfl
    rw [e2]
    conv => rhs; arg 1; rw [e1]
    rw [crcL_app, crcL_app]
    show crcL (crcB _ (flipU _ _)) _ = crcL (crcB _ _) _ ^^^ _
    rw [crcB_flip _ _ _ (by omega), crcL_xor, ← rIter_add, List.length_drop]
    congr 2
    omega
  · rw [if_neg h, if_neg h, Nat.xor_zero]
def dls (n : Nat) (zs : List Int) : Nat := zs.foldl (fun a z => a ^^^ dl n z) 0
theorem foldl_xor_from (zs : List Int) (f : Int → Nat) : ∀ a : Nat, zs.foldl (fun a z => a ^^^ f z) a = a ^^^ zs.foldl (fun a z => a ^^^ f z) 0 := by
  induction zs with
  | nil => intro a; simp
  | cons z zs ih => intro a; rw [List.foldl_cons, List.foldl_cons, ih, ih (0 ^^^ f z), Nat.zero_xor, Nat.xor_assoc]
theorem crcL_flips (zs : List Int) : ∀ (c : Nat) (l : List UInt8), crcL c (flipsB l zs) = crcL c l ^^^ dls l.length zs := by
  induction zs with
  | nil => intro c l; show crcL c l = _ ^^^ 0; rw [Nat.xor_zero]
  | cons z zs ih =>
    intro c l
    show crcL c (flipsB (flipB l z) zs) = _
    rw [ih, crcL_flip, flipB_length]
    show _ = crcL c l ^^^ (z :: zs).foldl (fun a z => a ^^^ dl l.length z) 0
    rw [List.foldl_cons, foldl_xor_from, Nat.zero_xor, ← Nat.xor_assoc]; rfl

theorem rIter_256 (s : Nat) : rIter 8 (s * 256) = s := by
  show rStep (rStep (rStep (rStep (rStep (rStep (rStep (rStep (s * 256)))))))) = s
  rw [show s * 256 = 2 * (2 * (2 * (2 * (2 * (2 * (2 * (2 * s))))))) from by omega, rStep_even, rStep_even, rStep_even, rStep_even, rStep_even, rStep_even, rStep_even, rStep_even]
theorem crcB_low (v s : Nat) : rIter 8 (v ^^^ s) = crcB v (UInt8.ofNat s) ^^^ (s / 256) := by
  have e : s = (s % 256) ^^^ (s / 256 * 256) := by
    have h := Nat.shiftLeft_add_eq_or_of_lt (a := s / 256) (b := s % 256) (i := 8) (by omega)
    apply Nat.eq_of_testBit_eq
    intro j
    rw [Nat.testBit_xor, show s / 256 * 256 = (s / 256) <<< 8 from by rw [Nat.shiftLeft_eq], Nat.testBit_shiftLeft, show (256 : Nat) = 2 ^ 8 from rfl, Nat.testBit_mod_two_pow, Nat.testBit_div_two_pow]
    by_cases hj : 8 ≤ j
    · have h1 : ¬ j < 8 := by omega
      simp [hj, h1]
    · have : j < 8 := by omega
      simp [hj, this]
  conv => lhs; rw [e]
  rw [← Nat.xor_assoc, rIter_xor, rIter_256]
  unfold crcB
  rw [UInt8.toNat_ofNat']
theorem crcL_lowB (v s : Nat) (hs : s < 4294967296) : crcL v (lowB s) = rIter 32 (v ^^^ s) := by
  have h1 := crcB_low v s
  have h2 := crcB_low (crcB v (UInt8.ofNat s)) (s / 256)
  have h3 := crcB_low (crcB (crcB v (UInt8.ofNat s)) (UInt8.ofNat (s / 256))) (s / 65536)
  have h4 := crcB_low (crcB (crcB (crcB v (UInt8.ofNat s)) (UInt8.ofNat (s / 256))) (UInt8.ofNat (s / 65536))) (s / 16777216)
  rw [show s / 256 / 256 = s / 65536 from by omega] at h2
  rw [show s / 65536 / 256 = s / 16777216 from by omega] at h3
  rw [show s / 16777216 / 256 = 0 from by omega, Nat.xor_zero] at h4
  show crcB (crcB (crcB (crcB v (UInt8.ofNat s)) (UInt8.ofNat (s / 256))) (UInt8.ofNat (s / 65536))) (UInt8.ofNat (s / 16777216)) = _
  rw [show (32 : Nat) = 8 + (8 + (8 + 8)) from rfl, rIter_add, h1, rIter_add, h2, rIter_add, h3, h4]
theorem sum_xor (l : List UInt8) : crcL 4294967295 l ^^^ sumL l = 4294967295 := by
  have hc := crcL_lt l (c := 4294967295) (by omega)
  have e : sumL l = 4294967295 ^^^ crcL 4294967295 l := by
    have h := not_u32 hc
    have h2 : bits .xor .u32 IntKind.u32.max (crcL 4294967295 l : Int) = ((4294967295 ^^^ crcL 4294967295 l : Nat) : Int) := u32_xor_nat 4294967295 _ (by omega) hc
    rw [h2] at h
    unfold sumL
    omega
  rw [e, ← Nat.xor_assoc, Nat.xor_comm (crcL 4294967295 l), Nat.xor_assoc, Nat.xor_self, Nat.xor_zero]
/-- Bytes with their sum behind them leave one and the same rest. -/
theorem seg_rest (D : List UInt8) : crcL 4294967295 (D ++ lowB (sumL D)) = rIter 32 4294967295 := by
  rw [crcL_app, crcL_lowB _ _ (sumL_lt D), sum_xor]
/-- Bytes that have been turned over are not summed right, where the sum of what was turned over is not 0. -/
theorem seg_told (D : List UInt8) (X : List UInt8) (zs : List Int) (hX : X = flipsB (D ++ lowB (sumL D)) zs) (h : dls (D.length + 4) zs ≠ 0) : X.drop D.length ≠ lowB (sumL (X.take D.length)) := by
  intro e
  have h1 : X = X.take D.length ++ lowB (sumL (X.take D.length)) := by rw [← e, List.take_append_drop]
  have h2 := seg_rest (X.take D.length)
  rw [← h1, hX, crcL_flips, seg_rest] at h2
  have hl : (D ++ lowB (sumL D)).length = D.length + 4 := by rw [List.length_append]; rfl
  rw [hl] at h2
  apply h
  apply Nat.eq_of_testBit_eq
  intro i
  have h3 := congrArg (fun z => z.testBit i) h2
  simp only [Nat.testBit_xor] at h3
  rw [Nat.zero_testBit]
  revert h3
  cases (rIter 32 4294967295).testBit i <;> cases (dls (D.length + 4) zs).testBit i <;> simp

theorem flipU_two (x : UInt8) (t : Nat) (ht : t < 8) : flipU (flipU x t) t = x := by
  apply UInt8.toNat_inj.1
  rw [flipU_nat _ t ht, flipU_nat _ t ht, Nat.xor_assoc, Nat.xor_self, Nat.xor_zero]
theorem flipB_two (l : List UInt8) (z : Int) : flipB (flipB l z) z = l := by
  unfold flipB
  by_cases h : 0 ≤ z ∧ z < 8 * (l.length : Int)
  · rw [if_pos h, List.length_set, if_pos h]
    have hD : z.toNat / 8 < l.length := by omega
    rw [List.getElem?_set_self hD, List.set_set]
    simp only [Option.getD_some]
    rw [flipU_two _ _ (by omega), List.getElem?_eq_getElem hD]
    simp
  · rw [if_neg h, if_neg h]
theorem flipB_out {l : List UInt8} {z : Int} (h : ¬(0 ≤ z ∧ z < 8 * (l.length : Int))) : flipB l z = l := by unfold flipB; rw [if_neg h]
/-- One to three bits: what they do to the sum is not 0, or they do nothing. -/
theorem three_told (l : List UInt8) (i j k : Int) (hn : l.length ≤ 268435455) (h : flipsB l [i, j, k] ≠ l) : dls l.length [i, j, k] ≠ 0 := by
  have e : dls l.length [i, j, k] = dl l.length i ^^^ dl l.length j ^^^ dl l.length k := by
    show ((0 ^^^ dl l.length i) ^^^ dl l.length j) ^^^ dl l.length k = _
    rw [Nat.zero_xor]
  rw [e]
  have hf : flipsB l [i, j, k] = flipB (flipB (flipB l i) j) k := rfl
  rw [hf] at h
  have two : ∀ a b : Int, 0 ≤ a ∧ a < 8 * (l.length : Int) → 0 ≤ b ∧ b < 8 * (l.length : Int) → a ≠ b → rIter (8 * l.length - a.toNat) 1 ^^^ rIter (8 * l.length - b.toNat) 1 ≠ 0 := by
    intro a b ha hb hab
    rcases Nat.lt_or_ge (8 * l.length - a.toNat) (8 * l.length - b.toNat) with hlt | hge
    · exact two_no hlt (by omega)
    · rw [Nat.xor_comm]
      exact two_no (by omega) (by omega)
  unfold dl
  by_cases hi : 0 ≤ i ∧ i < 8 * (l.length : Int)
  · by_cases hj : 0 ≤ j ∧ j < 8 * (l.length : Int)
    · by_cases hk : 0 ≤ k ∧ k < 8 * (l.length : Int)
      · rw [if_pos hi, if_pos hj, if_pos hk]
        exact three_no _ _ _
      · rw [if_pos hi, if_pos hj, if_neg hk, Nat.xor_zero]
        refine two i j hi hj fun hij => h ?_
        subst hij
        rw [flipB_two, flipB_out hk]
    · by_cases hk : 0 ≤ k ∧ k < 8 * (l.length : Int)
      · rw [if_pos hi, if_neg hj, if_pos hk, Nat.xor_zero]
        refine two i k hi hk fun hik => h ?_
        subst hik
        rw [flipB_out (l := flipB l i) (z := j) (by rw [flipB_length]; exact hj), flipB_two]
      · rw [if_pos hi, if_neg hj, if_neg hk, Nat.xor_zero, Nat.xor_zero]
        exact one_no _
  · by_cases hj : 0 ≤ j ∧ j < 8 * (l.length : Int)
    · by_cases hk : 0 ≤ k ∧ k < 8 * (l.length : Int)
      · rw [if_neg hi, if_pos hj, if_pos hk, Nat.zero_xor]
        refine two j k hj hk fun hjk => h ?_
        subst hjk
        rw [flipB_out hi, flipB_two]
      · rw [if_neg hi, if_pos hj, if_neg hk, Nat.zero_xor, Nat.xor_zero]
        exact one_no _
    · by_cases hk : 0 ≤ k ∧ k < 8 * (l.length : Int)
      · rw [if_neg hi, if_neg hj, if_pos hk, Nat.zero_xor, Nat.zero_xor]
        exact one_no _
      · exact absurd (by rw [flipB_out hi, flipB_out hj, flipB_out hk]) h

/-! A frame in its two parts. -/
theorem flipB_take (l : List UInt8) (z : Int) (m : Nat) (hm : m ≤ l.length) : (flipB l z).take m = flipB (l.take m) z := by
  unfold flipB
  rw [List.length_take, Nat.min_eq_left hm]
  by_cases h : 0 ≤ z ∧ z < 8 * (l.length : Int)
  · rw [if_pos h]
    by_cases h2 : 0 ≤ z ∧ z < 8 * (m : Int)
    · rw [if_pos h2, List.take_set, List.getElem?_take, if_pos (by omega)]
    · rw [if_neg h2, List.take_set, List.set_eq_of_length_le (by rw [List.length_take]; omega)]
  · rw [if_neg h, if_neg (by omega)]
theorem flipB_drop (l : List UInt8) (z : Int) (m : Nat) (hm : m ≤ l.length) : (flipB l z).drop m = flipB (l.drop m) (z - 8 * m) := by
  unfold flipB
  rw [List.length_drop]
  by_cases h : 0 ≤ z ∧ z < 8 * (l.length : Int)
  · rw [if_pos h]
    by_cases h2 : 0 ≤ z - 8 * m ∧ z - 8 * m < 8 * ((l.length - m : Nat) : Int)
    · have e1 : (z - 8 * m).toNat / 8 = z.toNat / 8 - m := by omega
      have e2 : (z - 8 * m).toNat % 8 = z.toNat % 8 := by omega
      rw [if_pos h2, List.drop_set, if_neg (by omega), e1, e2, List.getElem?_drop, show m + (z.toNat / 8 - m) = z.toNat / 8 from by omega]
    · rw [if_neg h2, List.drop_set, if_pos (by omega)]
  · rw [if_neg h, if_neg (by omega)]
theorem flipsB_take (zs : List Int) (m : Nat) : ∀ l : List UInt8, m ≤ l.length → (flipsB l zs).take m = flipsB (l.take m) zs := by
  induction zs with
  | nil => intro l _; rfl
  | cons z zs ih =>
    intro l hm
    show (flipsB (flipB l z) zs).take m = flipsB (flipB (l.take m) z) zs
    rw [ih _ (by rw [flipB_length]; exact hm), flipB_take l z m hm]
theorem flipsB_drop (zs : List Int) (m : Nat) : ∀ l : List UInt8, m ≤ l.length → (flipsB l zs).drop m = flipsB (l.drop m) (zs.map fun z : Int => z - 8 * (m : Int)) := by
  induction zs with
  | nil => intro l _; rfl
  | cons z zs ih =>
    intro l hm
    show (flipsB (flipB l z) zs).drop m = flipsB (flipB (l.drop m) (z - 8 * m)) (zs.map fun z : Int => z - 8 * (m : Int))
    rw [ih _ (by rw [flipB_length]; exact hm), flipB_drop l z m hm]

/-- A frame's four bytes of length, read again. -/
theorem be4_numF (n : Nat) (h : n < 4294967296) (r : List UInt8) : numF (be4 n ++ r) 0 = n := by
  unfold numF be4 numB
  simp only [List.cons_append, List.nil_append, List.getElem?_cons_succ, List.getElem?_cons_zero, Option.getD_some, UInt8.toNat_ofNat', Nat.zero_add]
  omega
theorem cutF_app (l r : List UInt8) (k m : Nat) (h : k + m ≤ l.length) : cutF (l ++ r) k m = cutF l k m := by
  unfold cutF
  rw [List.drop_append_of_le_length (by omega), List.take_append_of_le_length (by rw [List.length_drop]; omega)]
theorem isB_cut4 (l : List UInt8) (k s : Nat) : isB l k s = (cutF l k 4 == lowB s) := rfl
theorem numF_app (l r : List UInt8) (k : Nat) (h : k + 4 ≤ l.length) : numF (l ++ r) k = numF l k := by
  unfold numF
  rw [List.getElem?_append_left (by omega), List.getElem?_append_left (by omega), List.getElem?_append_left (by omega), List.getElem?_append_left (by omega)]
theorem numF_take (l : List UInt8) : numF (l.take 8) 0 = numF l 0 := by
  unfold numF
  rw [List.getElem?_take, List.getElem?_take, List.getElem?_take, List.getElem?_take, if_pos (by decide), if_pos (by decide), if_pos (by decide), if_pos (by decide)]
theorem frameB_take8 (l : List UInt8) : (frameB l).take 8 = headF l.length := by
  unfold frameB
  rw [List.append_assoc, List.take_append_of_le_length (by simp [headF, be4, lowB])]
  exact List.take_of_length_le (by simp [headF, be4, lowB])
theorem frameB_drop8 (l : List UInt8) : (frameB l).drop 8 = l ++ lowB (sumL l) := by
  unfold frameB
  rw [List.append_assoc]
  exact List.drop_left' (by simp [headF, be4, lowB])
/-- A frame with bits turned over, something behind it: told, where what was turned over in either part is told. -/
theorem frame_told (l : List UInt8) (zs : List Int) (r : List UInt8) (hl : l.length ≤ 1048576) (hne : flipsB (frameB l) zs ≠ frameB l)
    (hh : ∀ (D : List UInt8) (ys : List Int), D.length ≤ 1048580 → (ys = zs ∨ ys = zs.map fun z : Int => z - 8 * ((8 : Nat) : Int)) → flipsB D ys ≠ D → dls D.length ys ≠ 0) :
    readFA (flipsB (frameB l) zs ++ r) 0 = ([], 0, 12) := by
  obtain ⟨X, hX⟩ : ∃ X, X = flipsB (frameB l) zs := ⟨_, rfl⟩
  have hXl : X.length = l.length + 12 := by rw [hX, flipsB_length, frameB_length]
  have h8 : X.take 8 = flipsB (headF l.length) zs := by rw [hX, flipsB_take _ 8 _ (by rw [frameB_length]; omega), frameB_take8]
  have h9 : X.drop 8 = flipsB (l ++ lowB (sumL l)) (zs.map fun z : Int => z - 8 * ((8 : Nat) : Int)) := by rw [hX, flipsB_drop _ 8 _ (by rw [frameB_length]; omega), frameB_drop8]
  rw [← hX] at hne ⊢
  unfold readFA
  rw [if_neg (by omega)]
  show readF (X ++ r) 0 = _
  unfold readF
  rw [if_neg (by rw [List.length_append]; omega), cutF_app X r 0 4 (by omega), isB_cut4, cutF_app X r (0 + 4) 4 (by omega)]
  have hc4 : cutF X 0 4 = (X.take 8).take 4 := by unfold cutF; rw [List.drop_zero, List.take_take]; rfl
  have hc8 : cutF X (0 + 4) 4 = (X.take 8).drop 4 := by unfold cutF; rw [List.drop_take]
  rw [hc4, hc8]
  by_cases hA : X.take 8 = headF l.length
  · have hok : ((X.take 8).drop 4 == lowB (sumL ((X.take 8).take 4))) = true := by
      rw [hA]
      unfold headF
      rw [List.drop_left' (by simp [be4]), List.take_left' (by simp [be4])]
      simp
    rw [if_neg (by rw [hok]; decide)]
    have hnum : numF (X ++ r) 0 = l.length := by
      rw [numF_app X r 0 (by omega), ← numF_take, hA]
      exact be4_numF _ (by omega) _
    rw [hnum, if_neg (by omega), if_neg (by rw [List.length_append]; omega), isB_cut4, cutF_app X r (0 + 8) l.length (by omega), cutF_app X r (0 + 8 + l.length) 4 (by omega)]
    have hne2 : X.drop 8 ≠ l ++ lowB (sumL l) := by
      intro e
      apply hne
      rw [← List.take_append_drop 8 X, hA, e, ← frameB_take8, ← frameB_drop8, List.take_append_drop]
    have hd : dls (l.length + 4) (zs.map fun z : Int => z - 8 * ((8 : Nat) : Int)) ≠ 0 := by
      have e : (l ++ lowB (sumL l)).length = l.length + 4 := by rw [List.length_append]; rfl
      rw [← e]
      exact hh _ _ (by rw [e]; omega) (.inr rfl) (by rw [← h9]; exact hne2)
    have ht := seg_told l (X.drop 8) _ h9 hd
    have c1 : cutF X (0 + 8 + l.length) 4 = (X.drop 8).drop l.length := by
      unfold cutF
      rw [List.drop_drop, Nat.zero_add]
      exact List.take_of_length_le (by rw [List.length_drop]; omega)
    have c2 : cutF X (0 + 8) l.length = (X.drop 8).take l.length := rfl
    rw [c1, c2, if_pos (by simpa using ht)]
  · have hd : dls (4 + 4) zs ≠ 0 := by
      have e : (headF l.length).length = 4 + 4 := rfl
      rw [← e]
      exact hh _ _ (by rw [e]; omega) (.inl rfl) (by rw [← h8]; exact hA)
    have ht := seg_told (be4 l.length) (X.take 8) zs h8 hd
    have e4 : (be4 l.length).length = 4 := rfl
    rw [e4] at ht
    rw [if_pos (by simpa using ht)]
theorem frame_three (l : List UInt8) (i j k : Int) (r : List UInt8) (hl : l.length ≤ 1048576) (hne : flipsB (frameB l) [i, j, k] ≠ frameB l) : readFA (flipsB (frameB l) [i, j, k] ++ r) 0 = ([], 0, 12) := by
  refine frame_told l _ r hl hne fun D ys hD hys h => ?_
  rcases hys with rfl | rfl
  · exact three_told D i j k (by omega) h
  · exact three_told D _ _ _ (by omega) h

end Go.Proofs.YtmigjipfomfacaaDoor

/-
  What the check sum tells of bits that follow one another. No program in sight.
-/
namespace Go.Proofs.YtmigjipfomfacaaDoor
open Go.RowKit

theorem dls_cons (n : Nat) (z : Int) (zs : List Int) : dls n (z :: zs) = dl n z ^^^ dls n zs := by
  show (z :: zs).foldl (fun a z => a ^^^ dl n z) 0 = _
  rw [List.foldl_cons, foldl_xor_from, Nat.zero_xor]; rfl
theorem flipsB_out (zs : List Int) : ∀ l : List UInt8, (∀ z ∈ zs, ¬(0 ≤ z ∧ z < 8 * (l.length : Int))) → flipsB l zs = l := by
  induction zs with
  | nil => intro l _; rfl
  | cons z zs ih =>
    intro l h
    show flipsB (flipB l z) zs = l
    rw [flipB_out (h z (by simp))]
    exact ih l fun y hy => h y (by simp [hy])
theorem burst_sum (n b : Nat) (hb : b ≤ 8 * n) : ∀ ys : List Int, ys.Nodup → (∀ z ∈ ys, 0 ≤ z ∧ z < 8 * (n : Int) → (b : Int) ≤ z ∧ z < (b : Int) + 32) →
    ∃ Q : Nat, Q < 4294967296 ∧ dls n ys = rIter (8 * n - b) Q ∧ ∀ t : Nat, Q.testBit t = true ↔ (((b : Int) + (t : Int)) ∈ ys ∧ b + t < 8 * n) := by
  intro ys
  induction ys with
  | nil => intro _ _; exact ⟨0, by decide, (rIter_zero _).symm, fun t => by simp⟩
  | cons z ys ih =>
    intro hnd hw
    have hnd := List.nodup_cons.1 hnd
    obtain ⟨Q, hQ, hd, hbit⟩ := ih hnd.2 fun y hy => hw y (by simp [hy])
    rw [dls_cons, hd]
    by_cases hin : 0 ≤ z ∧ z < 8 * (n : Int)
    · obtain ⟨h1, h2⟩ := hw z (by simp) hin
      obtain ⟨s, rfl⟩ : ∃ s : Nat, z = (b : Int) + (s : Int) := ⟨(z - b).toNat, by omega⟩
      have hs : s < 32 := by omega
      have e : dl n ((b : Int) + (s : Int)) = rIter (8 * n - b) (2 ^ s) := by
        unfold dl
        rw [if_pos hin, show ((b : Int) + (s : Int)).toNat = b + s from by omega]
        have h3 := rIter_pow s 0
        rw [Nat.add_zero, Nat.pow_zero] at h3
        rw [show 8 * n - b = s + (8 * n - (b + s)) from by omega, rIter_add, h3]
      have hp : 2 ^ s < 4294967296 := by
        have : 2 ^ s < 2 ^ 32 := Nat.pow_lt_pow_right (by decide) hs
        omega
      refine ⟨2 ^ s ^^^ Q, Nat.xor_lt_two_pow (n := 32) hp hQ, by rw [e, rIter_xor], fun t => ?_⟩
      rw [Nat.testBit_xor, Nat.testBit_two_pow]
      by_cases hst : s = t
      · subst hst
        have hq : Q.testBit s = false := by
          cases hq : Q.testBit s
          · rfl
          · exact absurd ((hbit s).1 hq).1 hnd.1
        rw [hq]
        simp; omega
      · have hne : ((b : Int) + (t : Int)) ≠ (b : Int) + (s : Int) := by omega
        rw [show decide (s = t) = false from decide_eq_false hst, Bool.false_xor, hbit t]
        simp [hne]
    · have e : dl n z = 0 := by unfold dl; rw [if_neg hin]
      refine ⟨Q, hQ, by rw [e, Nat.zero_xor], fun t => ?_⟩
      rw [hbit t]
      constructor
      · exact fun ⟨h1, h2⟩ => ⟨by simp [h1], h2⟩
      · rintro ⟨h1, h2⟩
        rcases List.mem_cons.1 h1 with h3 | h3
        · exact absurd (by rw [← h3]; omega) hin
        · exact ⟨h3, h2⟩
/-- Bits within 32 that follow one another: what they do to the sum is not 0, or they do nothing. -/
theorem burst_told (l : List UInt8) (b : Nat) (ys : List Int) (hnd : ys.Nodup) (hw : ∀ z ∈ ys, 0 ≤ z ∧ z < 8 * (l.length : Int) → (b : Int) ≤ z ∧ z < (b : Int) + 32) (h : flipsB l ys ≠ l) : dls l.length ys ≠ 0 := by
  obtain ⟨z, hz, hin⟩ : ∃ z ∈ ys, 0 ≤ z ∧ z < 8 * (l.length : Int) := by
    rcases Classical.em (∃ z ∈ ys, 0 ≤ z ∧ z < 8 * (l.length : Int)) with h' | h'
    · exact h'
    · exact absurd (flipsB_out ys l fun z hz hc => h' ⟨z, hz, hc⟩) h
  obtain ⟨h1, h2⟩ := hw z hz hin
  obtain ⟨Q, hQ, hd, hbit⟩ := burst_sum l.length b (by omega) ys hnd hw
  obtain ⟨s, rfl⟩ : ∃ s : Nat, z = (b : Int) + (s : Int) := ⟨(z - b).toNat, by omega⟩
  rw [hd]
  intro h0
  have h3 := rIter_eq_zero _ hQ h0
  have h4 := (hbit s).2 ⟨hz, by omega⟩
  rw [h3] at h4
  simp at h4

/-- The bits that the pattern says, the first k of it. -/
def bz (a hi P k : Nat) : List Int := ((List.range k).filter fun i => decide (a + i < hi) && P.testBit i).map fun i => ((a + i : Nat) : Int)
theorem bz_succ (a hi P k : Nat) : bz a hi P (k + 1) = bz a hi P k ++ if a + k < hi ∧ P.testBit k = true then [((a + k : Nat) : Int)] else [] := by
  unfold bz
  rw [List.range_succ, List.filter_append, List.map_append]
  congr 1
  by_cases h : a + k < hi ∧ P.testBit k = true
  · rw [if_pos h]
    simp [h.1, h.2]
  · rw [if_neg h]
    have : (decide (a + k < hi) && P.testBit k) = false := by
      cases hc : (decide (a + k < hi) && P.testBit k)
      · rfl
      · simp at hc; exact absurd hc h
    simp [this]
theorem bz_nodup (a hi P k : Nat) : (bz a hi P k).Nodup := by
  unfold bz
  refine List.Pairwise.map _ (fun i j h => ?_) (List.Pairwise.filter _ List.nodup_range)
  intro e
  apply h
  omega
theorem bz_mem {a hi P k : Nat} {z : Int} (h : z ∈ bz a hi P k) : (a : Int) ≤ z ∧ z < (a : Int) + k := by
  unfold bz at h
  obtain ⟨i, hi, rfl⟩ := List.mem_map.1 h
  have := List.mem_range.1 (List.mem_filter.1 hi).1
  omega
theorem pat_walk (P j : Nat) (hP : P < 4294967296) : (bits .and .u32 ((P : Int) / 2 ^ j) 1 == 1) = P.testBit j := by
  have hp : 1 ≤ 2 ^ j := Nat.one_le_two_pow
  have h1 : P / 2 ^ j ≤ P := Nat.div_le_self _ _
  rw [show (P : Int) / 2 ^ j = ((P / 2 ^ j : Nat) : Int) from by rw [Int.natCast_ediv, Int.natCast_pow]; rfl, show (1 : Int) = ((1 : Nat) : Int) from rfl, u32_and_nat _ _ (by omega) (by omega), Nat.and_one_is_mod]
  rw [Nat.testBit_eq_decide_div_mod_eq, Bool.eq_iff_iff, beq_iff_eq, decide_eq_true_iff]
  omega
theorem frame_burst (l : List UInt8) (a hi P : Nat) (r : List UInt8) (hl : l.length ≤ 1048576) (hne : flipsB (frameB l) (bz a hi P 32) ≠ frameB l) : readFA (flipsB (frameB l) (bz a hi P 32) ++ r) 0 = ([], 0, 12) := by
  refine frame_told l _ r hl hne fun D ys hD hys h => ?_
  rcases hys with rfl | rfl
  · refine burst_told D a _ (bz_nodup a hi P 32) (fun z hz _ => ?_) h
    have := bz_mem hz
    omega
  · refine burst_told D (a - 64) _ (List.Pairwise.map _ (fun i j h => by omega) (bz_nodup a hi P 32)) (fun z hz hin => ?_) h
    obtain ⟨y, hy, rfl⟩ := List.mem_map.1 hz
    have := bz_mem hy
    omega

end Go.Proofs.YtmigjipfomfacaaDoor
