/-
  Laid together by merge.py: CellL4, CellL10, Law, Law2, Law3, CellLaw, CellL11, Kit21, CellL12, CellL13, Kit22, CellL14, CellL15.
-/
import Derived.Test.YtcikhlieaoanoaaCm4
import Derived.Deep.DeepCutAuto
import Derived.Test.YtcikhlieaoanoaaCm3
import Derived.Test.YtcikhlieaoanoaaCm1
import Derived.ProofKit
import Derived.SizedLaws
import Derived.Lib.SmallJoins
import Derived.Deep.Slices
import Derived.Deep.Fields
import Derived.Test.YtcikhlieaoanoaaRows

/-
  CellOrder walked. (Printed by gen_order.py.)
-/
namespace Go.Proofs.Ytcikhlieaoanoaa
open Go.RowKit

theorem cmp_bd (x y : Ent) : -1 ≤ cmpE x y ∧ cmpE x y ≤ 1 := by
  have hI : ∀ a b : Int, -1 ≤ cmpI a b ∧ cmpI a b ≤ 1 := fun a b => by unfold cmpI; (repeat' split) <;> omega
  have hF : ∀ a b : Bool, -1 ≤ firstI a b ∧ firstI a b ≤ 1 := fun a b => by unfold firstI; (repeat' split) <;> omega
  have hB : ∀ a b : List UInt8, -1 ≤ cmpB a b ∧ cmpB a b ≤ 1 := by
    intro a
    induction a with
    | nil => intro b; cases b <;> simp [cmpB]
    | cons u a ih => intro b; cases b with
      | nil => simp [cmpB]
      | cons v b => unfold cmpB; split; · omega
                    split; · omega
                    exact ih b
  have hS : ∀ a b : Int, (-1 ≤ a ∧ a ≤ 1) → (-1 ≤ b ∧ b ≤ 1) → -1 ≤ seqC a b ∧ seqC a b ≤ 1 := fun a b h1 h2 => by unfold seqC; split <;> assumption
  unfold cmpE
  exact hS _ _ (hB _ _) (hS _ _ (hI _ _) (hS _ _ (hF _ _) (hS _ _ (hB _ _) (hS _ _ (hF _ _) (hS _ _ (hI _ _) (hS _ _ (hI _ _) (hI _ _)))))))
set_option maxRecDepth 100000 in
set_option maxHeartbeats 4000000 in
theorem order_any (a b f : Ent) (Ap1 : Option Addr) (np1 cp1 : Nat) (Bp1 : Option Addr) (mp1 dp1 : Nat) (Dp1 : Option Addr) (vp1 qp1 : Nat) (Ap2 : Option Addr) (np2 cp2 : Nat) (Bp2 : Option Addr) (mp2 dp2 : Nat) (Dp2 : Option Addr) (vp2 qp2 : Nat) (Ap3 : Option Addr) (np3 cp3 : Nat) (Bp3 : Option Addr) (mp3 dp3 : Nat) (Dp3 : Option Addr) (vp3 qp3 : Nat) (w : World) (ha : En w Ap1 np1 cp1 Bp1 mp1 dp1 Dp1 vp1 qp1 a) (hb : En w Ap2 np2 cp2 Bp2 mp2 dp2 Dp2 vp2 qp2 b) (hf : En w Ap3 np3 cp3 Bp3 mp3 dp3 Dp3 vp3 qp3 f) :
    Calls Try.prog 4 #[entV Ap1 np1 cp1 Bp1 mp1 dp1 Dp1 vp1 qp1 a, entV Ap2 np2 cp2 Bp2 mp2 dp2 Dp2 vp2 qp2 b, entV Ap3 np3 cp3 Bp3 mp3 dp3 Dp3 vp3 qp3 f] w fun e w' => e = .returned (.bool true) ∧ Below w.heap.size w w' := by
  have HA := Lib.hid ha
  have HB := Lib.hid hb
  have HF := Lib.hid hf
  have HX : Hid (St 5 w [some (w.heap.size, (entL Ap1 np1 cp1 Bp1 mp1 dp1 Dp1 vp1 qp1 a)), some (w.heap.size + 1, (entL Ap2 np2 cp2 Bp2 mp2 dp2 Dp2 vp2 qp2 b)), some (w.heap.size + 1 + 1, (entL Ap3 np3 cp3 Bp3 mp3 dp3 Dp3 vp3 qp3 f))] [] (((w.alloc (.cells (entL Ap1 np1 cp1 Bp1 mp1 dp1 Dp1 vp1 qp1 a).toArray 27)).alloc (.cells (entL Ap2 np2 cp2 Bp2 mp2 dp2 Dp2 vp2 qp2 b).toArray 27)).alloc (.cells (entL Ap3 np3 cp3 Bp3 mp3 dp3 Dp3 vp3 qp3 f).toArray 27))) := Lib.hid (by
    have h := (((St.nil 5 w).push (t := 27) (entL Ap1 np1 cp1 Bp1 mp1 dp1 Dp1 vp1 qp1 a)).push (t := 27) (entL Ap2 np2 cp2 Bp2 mp2 dp2 Dp2 vp2 qp2 b)).push (t := 27) (entL Ap3 np3 cp3 Bp3 mp3 dp3 Dp3 vp3 qp3 f)
    have e1 : ∀ (x : World) o, (x.alloc o).heap.size = x.heap.size + 1 := fun x o => by show (x.heap.push o).size = _; simp
    rw [e1, e1, e1] at h
    exact h)
  obtain ⟨X, hX⟩ : ∃ E, E = cutE a := ⟨_, rfl⟩
  obtain ⟨Y, hY⟩ : ∃ E, E = cutE b := ⟨_, rfl⟩
  obtain ⟨Z, hZ⟩ : ∃ E, E = cutE f := ⟨_, rfl⟩
  have HXL : Hid (X.row.length ≤ 5000 ∧ X.qual.length ≤ 5000 ∧ X.val.length ≤ 5000) := Lib.hid (by rw [hX]; exact cutE_len a)
  have HYL : Hid (Y.row.length ≤ 5000 ∧ Y.qual.length ≤ 5000 ∧ Y.val.length ≤ 5000) := Lib.hid (by rw [hY]; exact cutE_len b)
  have HZL : Hid (Z.row.length ≤ 5000 ∧ Z.qual.length ≤ 5000 ∧ Z.val.length ≤ 5000) := Lib.hid (by rw [hZ]; exact cutE_len f)
  have HCE : Hid (cutE a = X ∧ cutE b = Y ∧ cutE f = Z) := Lib.hid ⟨hX.symm, hY.symm, hZ.symm⟩
  clear hX hY hZ ha hb hf
  unfold entV
  go_enter Try.func4, Try.ntmps4
  go_wp2_with (go_at_call 12; go_must (refine (told_any _).mono ?_); rintro r x1 ⟨rfl, hb1⟩; replace HX := Lib.hid (HX.out.later hb1); clear hb1)
  refine wp_region_reg (by kernel_rfl) (by kernel_rfl) (Parts.slots (⟨3, fun j => 15 + 2 * j, fun j => 16 + 2 * j, fun j => 7 + j, fun j => 2 * j, fun j => 2 * j + 1, fun j => 6 + j, fun j => 9 + j⟩ : Parts)) (PartR (⟨3, fun j => 15 + 2 * j, fun j => 16 + 2 * j, fun j => 7 + j, fun j => 2 * j, fun j => 2 * j + 1, fun j => 6 + j, fun j => 9 + j⟩ : Parts) 5 w [some (w.heap.size, (entL Ap1 np1 cp1 Bp1 mp1 dp1 Dp1 vp1 qp1 a)), some (w.heap.size + 1, (entL Ap2 np2 cp2 Bp2 mp2 dp2 Dp2 vp2 qp2 b)), some (w.heap.size + 1 + 1, (entL Ap3 np3 cp3 Bp3 mp3 dp3 Dp3 vp3 qp3 f))] [] 7 (fun j => match j with | 0 => (entL Ap1 np1 cp1 Bp1 mp1 dp1 Dp1 vp1 qp1 a) | 1 => (entL Ap2 np2 cp2 Bp2 mp2 dp2 Dp2 vp2 qp2 b) | _ => (entL Ap3 np3 cp3 Bp3 mp3 dp3 Dp3 vp3 qp3 f)) (fun j => LPst ((fun j => match j with | 0 => cutE a | 1 => cutE b | _ => cutE f) j))) (partR_start HX.out.drew) ⟨part_load (j := 0) (i := 0) rfl (by decide) rfl rfl (by decide) rfl rfl ent_row, part_call (j := 0) rfl (by decide) rfl rfl go_entry (by kernel_rfl) (by kernel_rfl) ⟨_, rfl, by kernel_rfl⟩ (entry_part HA.out), part_load (j := 1) (i := 1) rfl (by decide) rfl rfl (by decide) rfl rfl ent_row, part_call (j := 1) rfl (by decide) rfl rfl go_entry (by kernel_rfl) (by kernel_rfl) ⟨_, rfl, by kernel_rfl⟩ (entry_part HB.out), part_load (j := 2) (i := 2) rfl (by decide) rfl rfl (by decide) rfl rfl ent_row, part_call (j := 2) rfl (by decide) rfl rfl go_entry (by kernel_rfl) (by kernel_rfl) ⟨_, rfl, by kernel_rfl⟩ (entry_part HF.out), part_alloc (j := 0) (cs := zeroL) rfl (by decide) rfl rfl ent_zero rfl ⟨_, rfl, by kernel_rfl⟩, part_alloc (j := 1) (cs := zeroL) rfl (by decide) rfl rfl ent_zero rfl ⟨_, rfl, by kernel_rfl⟩, part_alloc (j := 2) (cs := zeroL) rfl (by decide) rfl rfl ent_zero rfl ⟨_, rfl, by kernel_rfl⟩, part_store (j := 0) rfl (by decide) rfl rfl (by kernel_rfl) (by kernel_rfl) lpst_cells ent_size, part_store (j := 1) rfl (by decide) rfl rfl (by kernel_rfl) (by kernel_rfl) lpst_cells ent_size, part_store (j := 2) rfl (by decide) rfl rfl (by kernel_rfl) (by kernel_rfl) lpst_cells ent_size, trivial⟩ ?_
  intro Dn sv x2 hall hR
  obtain ⟨A1, c1, B1, d1, D1, q1, g1, A2, c2, B2, d2, D2, q2, g2, A3, c3, B3, d3, D3, q3, g3, h1, h2, h3, hst⟩ := ents3 (es := (fun j => match j with | 0 => cutE a | 1 => cutE b | _ => cutE f)) rfl hR (by
    intro j hj i hi
    have : i < 12 := by
      match j, hj with
      | 0, _ => revert i; decide
      | 1, _ => revert i; decide
      | 2, _ => revert i; decide
    exact hall i this)
  have h1 : sv 7 = .pointer (some ⟨g1, 0, none⟩) := h1
  have h2 : sv 8 = .pointer (some ⟨g2, 0, none⟩) := h2
  have h3 : sv 9 = .pointer (some ⟨g3, 0, none⟩) := h3
  simp only [show Parts.slots (⟨3, fun j => 15 + 2 * j, fun j => 16 + 2 * j, fun j => 7 + j, fun j => 2 * j, fun j => 2 * j + 1, fun j => 6 + j, fun j => 9 + j⟩ : Parts) = [15, 16, 7, 17, 18, 8, 19, 20, 9] from rfl, putsF, List.foldl_cons, List.foldl_nil, Act.put, List.setIfInBounds_toArray, List.set_cons_zero, List.set_cons_succ, h1, h2, h3]
  have hst : St 5 w [some (w.heap.size, (entL Ap1 np1 cp1 Bp1 mp1 dp1 Dp1 vp1 qp1 a)), some (w.heap.size + 1, (entL Ap2 np2 cp2 Bp2 mp2 dp2 Dp2 vp2 qp2 b)), some (w.heap.size + 1 + 1, (entL Ap3 np3 cp3 Bp3 mp3 dp3 Dp3 vp3 qp3 f)), some (g1, (entL A1 X.row.length c1 B1 X.qual.length d1 D1 X.val.length q1 X)), some (g2, (entL A2 Y.row.length c2 B2 Y.qual.length d2 D2 Y.val.length q2 Y)), some (g3, (entL A3 Z.row.length c3 B3 Z.qual.length d3 D3 Z.val.length q3 Z))] [(A1, c1, X.row ++ mkL 70), (B1, d1, X.qual ++ mkL 70), (D1, q1, X.val ++ mkL 70), (A2, c2, Y.row ++ mkL 70), (B2, d2, Y.qual ++ mkL 70), (D2, q2, Y.val ++ mkL 70), (A3, c3, Z.row ++ mkL 70), (B3, d3, Z.qual ++ mkL 70), (D3, q3, Z.val ++ mkL 70)] x2 := by
    have h : St 5 w ([some (w.heap.size, (entL Ap1 np1 cp1 Bp1 mp1 dp1 Dp1 vp1 qp1 a)), some (w.heap.size + 1, (entL Ap2 np2 cp2 Bp2 mp2 dp2 Dp2 vp2 qp2 b)), some (w.heap.size + 1 + 1, (entL Ap3 np3 cp3 Bp3 mp3 dp3 Dp3 vp3 qp3 f))] ++ [some (g1, (entL A1 (cutE a).row.length c1 B1 (cutE a).qual.length d1 D1 (cutE a).val.length q1 (cutE a))), some (g2, (entL A2 (cutE b).row.length c2 B2 (cutE b).qual.length d2 D2 (cutE b).val.length q2 (cutE b))), some (g3, (entL A3 (cutE f).row.length c3 B3 (cutE f).qual.length d3 D3 (cutE f).val.length q3 (cutE f)))]) ([] ++ [(A1, c1, (cutE a).row ++ mkL 70), (B1, d1, (cutE a).qual ++ mkL 70), (D1, q1, (cutE a).val ++ mkL 70), (A2, c2, (cutE b).row ++ mkL 70), (B2, d2, (cutE b).qual ++ mkL 70), (D2, q2, (cutE b).val ++ mkL 70), (A3, c3, (cutE f).row ++ mkL 70), (B3, d3, (cutE f).qual ++ mkL 70), (D3, q3, (cutE f).val ++ mkL 70)]) x2 := hst
    rw [HCE.out.1, HCE.out.2.1, HCE.out.2.2] at h
    exact h
  replace HX := Lib.hid hst
  have HM1 : Hid (∀ x, Below x2.heap.size x2 x → EnM x A1 X.row.length c1 B1 X.qual.length d1 D1 X.val.length q1 X) := Lib.hid fun x hx => (enm_of (i := 0) HX.out rfl rfl rfl HXL.out).later hx
  have HM2 : Hid (∀ x, Below x2.heap.size x2 x → EnM x A2 Y.row.length c2 B2 Y.qual.length d2 D2 Y.val.length q2 Y) := Lib.hid fun x hx => (enm_of (i := 3) HX.out rfl rfl rfl HYL.out).later hx
  have HM3 : Hid (∀ x, Below x2.heap.size x2 x → EnM x A3 Z.row.length c3 B3 Z.qual.length d3 D3 Z.val.length q3 Z) := Lib.hid fun x hx => (enm_of (i := 6) HX.out rfl rfl rfl HZL.out).later hx
  clear hst hR hall h1 h2 h3
  have HS := Lib.hid (Below.refl x2.heap.size x2).drew
  obtain ⟨xy, hxy⟩ : ∃ z, z = cmpE X Y := ⟨_, rfl⟩
  obtain ⟨yx, hyx⟩ : ∃ z, z = cmpE Y X := ⟨_, rfl⟩
  obtain ⟨yz, hyz⟩ : ∃ z, z = cmpE Y Z := ⟨_, rfl⟩
  obtain ⟨xz, hxz⟩ : ∃ z, z = cmpE X Z := ⟨_, rfl⟩
  have bxy : -1 ≤ xy ∧ xy ≤ 1 := by rw [hxy]; exact cmp_bd X Y
  have bneg : IntKind.i64.wrap (-yx) = xy := by
    have e : -yx = xy := by rw [hyx, hxy]; have := ord_E.swap X Y; omega
    rw [e]; exact i64_sum (by omega) (by omega)
  have HTR : Hid (xy ≤ 0 → yz ≤ 0 → xz ≤ 0) := Lib.hid (by rw [hxy, hyz, hxz]; exact ord_E.trans X Y Z)
  have HEQ : Hid (xy = 0 → xz = yz) := Lib.hid (by rw [hxy, hyz, hxz]; exact ord_E.eq X Y Z)
  have HC : Hid (cmpE X Y = xy ∧ cmpE Y X = yx ∧ cmpE Y Z = yz ∧ cmpE X Z = xz) := Lib.hid ⟨hxy.symm, hyx.symm, hyz.symm, hxz.symm⟩
  have HBN := Lib.hid bneg
  have HBX := Lib.hid bxy
  clear hxy hyx hyz hxz bxy bneg
  go_wp2
  refine lx_start (S := fun x => Below x2.heap.size x2 x) (by kernel_rfl) HS.out ?_
  refine lx_take 0 rfl (by kernel_rfl) (by kernel_rfl) (by kernel_rfl) (fun _ _ _ h => h) (yi_row rfl rfl rfl (fun w hS => (HX.out.later hS).range (i := 3) rfl) ent_row) HS.out ?_
  simp only [Act.put, List.setIfInBounds_toArray, List.set_cons_zero, List.set_cons_succ]
  refine lx_take 1 rfl (by kernel_rfl) (by kernel_rfl) (by kernel_rfl) (fun _ _ _ h => h) (yi_row rfl rfl rfl (fun w hS => (HX.out.later hS).range (i := 4) rfl) ent_row) HS.out ?_
  simp only [Act.put, List.setIfInBounds_toArray, List.set_cons_zero, List.set_cons_succ]
  refine lx_take 3 rfl (by kernel_rfl) (by kernel_rfl) (by kernel_rfl) (fun _ _ _ h => h) (yi_row rfl rfl rfl (fun w hS => (HX.out.later hS).range (i := 4) rfl) ent_row) HS.out ?_
  simp only [Act.put, List.setIfInBounds_toArray, List.set_cons_zero, List.set_cons_succ]
  refine lx_take 4 rfl (by kernel_rfl) (by kernel_rfl) (by kernel_rfl) (fun _ _ _ h => h) (yi_row rfl rfl rfl (fun w hS => (HX.out.later hS).range (i := 5) rfl) ent_row) HS.out ?_
  simp only [Act.put, List.setIfInBounds_toArray, List.set_cons_zero, List.set_cons_succ]
  refine lx_take 6 rfl (by kernel_rfl) (by kernel_rfl) (by kernel_rfl) (fun _ _ _ h => h) (yi_row rfl rfl rfl (fun w hS => (HX.out.later hS).range (i := 3) rfl) ent_row) HS.out ?_
  simp only [Act.put, List.setIfInBounds_toArray, List.set_cons_zero, List.set_cons_succ]
  refine lx_take 7 rfl (by kernel_rfl) (by kernel_rfl) (by kernel_rfl) (fun _ _ _ h => h) (yi_row rfl rfl rfl (fun w hS => (HX.out.later hS).range (i := 5) rfl) ent_row) HS.out ?_
  simp only [Act.put, List.setIfInBounds_toArray, List.set_cons_zero, List.set_cons_succ]
  refine lx_call 2 rfl (by kernel_rfl) rfl rfl ⟨_, Try.func22, by decide, by kernel_rfl⟩ [.agg (entL A1 X.row.length c1 B1 X.qual.length d1 D1 X.val.length q1 X).toArray, .agg (entL A2 Y.row.length c2 B2 Y.qual.length d2 D2 Y.val.length q2 Y).toArray] rfl ?_
  refine (compare_any X Y A1 X.row.length c1 B1 X.qual.length d1 D1 X.val.length q1 A2 Y.row.length c2 B2 Y.qual.length d2 D2 Y.val.length q2 _ (HM1.out _ HS.out).en (HM2.out _ HS.out).en).mono ?_
  rw [HC.out.1]
  rintro r x3 ⟨rfl, hb3⟩
  replace HS := Lib.hid (below_up HS.out hb3)
  clear hb3
  refine ⟨_, rfl, HS.out, ?_⟩
  simp only [Act.put, List.setIfInBounds_toArray, List.set_cons_zero, List.set_cons_succ]
  refine lx_call 5 rfl (by kernel_rfl) rfl rfl ⟨_, Try.func22, by decide, by kernel_rfl⟩ [.agg (entL A2 Y.row.length c2 B2 Y.qual.length d2 D2 Y.val.length q2 Y).toArray, .agg (entL A3 Z.row.length c3 B3 Z.qual.length d3 D3 Z.val.length q3 Z).toArray] rfl ?_
  refine (compare_any Y Z A2 Y.row.length c2 B2 Y.qual.length d2 D2 Y.val.length q2 A3 Z.row.length c3 B3 Z.qual.length d3 D3 Z.val.length q3 _ (HM2.out _ HS.out).en (HM3.out _ HS.out).en).mono ?_
  rw [HC.out.2.2.1]
  rintro r x4 ⟨rfl, hb4⟩
  replace HS := Lib.hid (below_up HS.out hb4)
  clear hb4
  refine ⟨_, rfl, HS.out, ?_⟩
  simp only [Act.put, List.setIfInBounds_toArray, List.set_cons_zero, List.set_cons_succ]
  refine lx_call 8 rfl (by kernel_rfl) rfl rfl ⟨_, Try.func22, by decide, by kernel_rfl⟩ [.agg (entL A1 X.row.length c1 B1 X.qual.length d1 D1 X.val.length q1 X).toArray, .agg (entL A3 Z.row.length c3 B3 Z.qual.length d3 D3 Z.val.length q3 Z).toArray] rfl ?_
  refine (compare_any X Z A1 X.row.length c1 B1 X.qual.length d1 D1 X.val.length q1 A3 Z.row.length c3 B3 Z.qual.length d3 D3 Z.val.length q3 _ (HM1.out _ HS.out).en (HM3.out _ HS.out).en).mono ?_
  rw [HC.out.2.2.2]
  rintro r x5 ⟨rfl, hb5⟩
  replace HS := Lib.hid (below_up HS.out hb5)
  clear hb5
  refine ⟨_, rfl, HS.out, ?_⟩
  simp only [Act.put, List.setIfInBounds_toArray, List.set_cons_zero, List.set_cons_succ]
  refine lx_take 9 rfl (by kernel_rfl) (by kernel_rfl) (by kernel_rfl) (fun _ _ _ h => h) (v := ?_) (yi_run rfl (fun w => ?_)) HS.out ?_
  rotate_left
  · first | (go_simp; done) | (go_simp; with_reducible rfl)
  simp only [Act.put, List.setIfInBounds_toArray, List.set_cons_zero, List.set_cons_succ]
  refine lx_take 10 rfl (by kernel_rfl) (by kernel_rfl) (by kernel_rfl) (fun _ _ _ h => h) (v := ?_) (yi_run rfl (fun w => ?_)) HS.out ?_
  rotate_left
  · first | (go_simp; done) | (go_simp; with_reducible rfl)
  simp only [Act.put, List.setIfInBounds_toArray, List.set_cons_zero, List.set_cons_succ]
  refine lx_take 11 rfl (by kernel_rfl) (by kernel_rfl) (by kernel_rfl) (fun _ _ _ h => h) (v := ?_) (yi_run rfl (fun w => ?_)) HS.out ?_
  rotate_left
  · first | (go_simp; done) | (go_simp; with_reducible rfl)
  simp only [Act.put, List.setIfInBounds_toArray, List.set_cons_zero, List.set_cons_succ]
  refine lx_done (by kernel_rfl) ?_
  replace HX := Lib.hid (HX.out.later HS.out)
  replace HM1 : Hid (∀ x, Below x5.heap.size x5 x → EnM x A1 X.row.length c1 B1 X.qual.length d1 D1 X.val.length q1 X) := Lib.hid fun x hx => (HM1.out x5 HS.out).later hx
  replace HM2 : Hid (∀ x, Below x5.heap.size x5 x → EnM x A2 Y.row.length c2 B2 Y.qual.length d2 D2 Y.val.length q2 Y) := Lib.hid fun x hx => (HM2.out x5 HS.out).later hx
  replace HM3 : Hid (∀ x, Below x5.heap.size x5 x → EnM x A3 Z.row.length c3 B3 Z.qual.length d3 D3 Z.val.length q3 Z) := Lib.hid fun x hx => (HM3.out x5 HS.out).later hx
  replace HS := Lib.hid (Below.refl x5.heap.size x5).drew
  have hXY : (xy != xy) = false := by simp
  go_wp2
  refine lx_start (S := fun x => Below x5.heap.size x5 x) (by kernel_rfl) HS.out ?_
  refine lx_take 0 rfl (by kernel_rfl) (by kernel_rfl) (by kernel_rfl) (fun _ _ _ h => h) (v := ?_) (yi_run rfl (fun w => ?_)) HS.out ?_
  rotate_left
  · first | (go_simp; done) | (go_simp; with_reducible rfl)
  simp only [Act.put, List.setIfInBounds_toArray, List.set_cons_zero, List.set_cons_succ]
  refine lx_take 1 rfl (by kernel_rfl) (by kernel_rfl) (by kernel_rfl) (fun _ _ _ h => h) (yi_row rfl rfl rfl (fun w hS => (HX.out.later hS).range (i := 0) rfl) ent_row) HS.out ?_
  simp only [Act.put, List.setIfInBounds_toArray, List.set_cons_zero, List.set_cons_succ]
  refine lx_take 3 rfl (by kernel_rfl) (by kernel_rfl) (by kernel_rfl) (fun _ _ _ h => h) (yi_row rfl rfl rfl (fun w hS => (HX.out.later hS).range (i := 1) rfl) ent_row) HS.out ?_
  simp only [Act.put, List.setIfInBounds_toArray, List.set_cons_zero, List.set_cons_succ]
  refine lx_call 2 rfl (by kernel_rfl) rfl rfl ⟨_, Try.func21, by decide, by kernel_rfl⟩ [.agg (entL Ap1 np1 cp1 Bp1 mp1 dp1 Dp1 vp1 qp1 a).toArray] rfl ?_
  refine (entry_any a Ap1 np1 cp1 Bp1 mp1 dp1 Dp1 vp1 qp1 _ (HA.out.later (below_up HX.out.up HS.out))).mono ?_
  rw [HCE.out.1]
  rintro r x6 ⟨A6, c6, B6, d6, D6, q6, rfl, hr6, hb6⟩
  have HM6 : Hid (∀ x, Below x6.heap.size x6 x → EnM x A6 X.row.length c6 B6 X.qual.length d6 D6 X.val.length q6 X) := Lib.hid fun x hx => (LaidE.enm hr6 HXL.out.1 HXL.out.2.1 HXL.out.2.2).later hx
  replace HS := Lib.hid (below_up HS.out hb6)
  clear hb6
  clear hr6
  refine ⟨_, rfl, HS.out, ?_⟩
  simp only [Act.put, List.setIfInBounds_toArray, List.set_cons_zero, List.set_cons_succ]
  refine lx_call 4 rfl (by kernel_rfl) rfl rfl ⟨_, Try.func21, by decide, by kernel_rfl⟩ [.agg (entL Ap2 np2 cp2 Bp2 mp2 dp2 Dp2 vp2 qp2 b).toArray] rfl ?_
  refine (entry_any b Ap2 np2 cp2 Bp2 mp2 dp2 Dp2 vp2 qp2 _ (HB.out.later (below_up HX.out.up HS.out))).mono ?_
  rw [HCE.out.2.1]
  rintro r x7 ⟨A7, c7, B7, d7, D7, q7, rfl, hr7, hb7⟩
  have HM7 : Hid (∀ x, Below x7.heap.size x7 x → EnM x A7 Y.row.length c7 B7 Y.qual.length d7 D7 Y.val.length q7 Y) := Lib.hid fun x hx => (LaidE.enm hr7 HYL.out.1 HYL.out.2.1 HYL.out.2.2).later hx
  have hb7x := Lib.hid hb7
  replace HS := Lib.hid (below_up HS.out hb7)
  clear hb7
  clear hr7
  refine ⟨_, rfl, HS.out, ?_⟩
  simp only [Act.put, List.setIfInBounds_toArray, List.set_cons_zero, List.set_cons_succ]
  refine lx_call 5 rfl (by kernel_rfl) rfl rfl ⟨_, Try.func23, by decide, by kernel_rfl⟩ [entV A6 X.row.length c6 B6 X.qual.length d6 D6 X.val.length q6 X, entV A7 Y.row.length c7 B7 Y.qual.length d7 D7 Y.val.length q7 Y] rfl ?_
  refine (rcompare_any X Y A6 X.row.length c6 B6 X.qual.length d6 D6 X.val.length q6 A7 Y.row.length c7 B7 Y.qual.length d7 D7 Y.val.length q7 _ (HM6.out _ hb7x.out).en (HM7.out _ (Below.refl _ _)).en).mono ?_
  rw [HC.out.1]
  rintro r x8 ⟨rfl, hb8⟩
  replace HS := Lib.hid (below_up HS.out hb8)
  clear hb8
  refine ⟨_, rfl, HS.out, ?_⟩
  simp only [Act.put, List.setIfInBounds_toArray, List.set_cons_zero, List.set_cons_succ]
  refine lx_take 6 rfl (by kernel_rfl) (by kernel_rfl) (by kernel_rfl) (fun _ _ _ h => h) (v := ?_) (yi_run rfl (fun w => ?_)) HS.out ?_
  rotate_left
  · first | (go_simp; done) | (go_simp; with_reducible rfl)
  simp only [Act.put, List.setIfInBounds_toArray, List.set_cons_zero, List.set_cons_succ]
  refine lx_take 7 rfl (by kernel_rfl) (by kernel_rfl) (by kernel_rfl) (fun _ _ _ h => h) (v := ?_) (yi_run rfl (fun w => ?_)) HS.out ?_
  rotate_left
  · first | (go_simp; done) | (go_simp; with_reducible rfl)
  simp only [Act.put, List.setIfInBounds_toArray, List.set_cons_zero, List.set_cons_succ]
  refine lx_take 8 rfl (by kernel_rfl) (by kernel_rfl) (by kernel_rfl) (fun _ _ _ h => h) (v := ?_) (yi_run rfl (fun w => ?_)) HS.out ?_
  rotate_left
  · first | (go_simp; done) | (go_simp; with_reducible rfl)
  simp only [Act.put, List.setIfInBounds_toArray, List.set_cons_zero, List.set_cons_succ]
  refine lx_take 9 rfl (by kernel_rfl) (by kernel_rfl) (by kernel_rfl) (fun _ _ _ h => h) (yi_row rfl rfl rfl (fun w hS => (HX.out.later hS).range (i := 4) rfl) ent_row) HS.out ?_
  simp only [Act.put, List.setIfInBounds_toArray, List.set_cons_zero, List.set_cons_succ]
  refine lx_take 10 rfl (by kernel_rfl) (by kernel_rfl) (by kernel_rfl) (fun _ _ _ h => h) (yi_row rfl rfl rfl (fun w hS => (HX.out.later hS).range (i := 3) rfl) ent_row) HS.out ?_
  simp only [Act.put, List.setIfInBounds_toArray, List.set_cons_zero, List.set_cons_succ]
  refine lx_call 11 rfl (by kernel_rfl) rfl rfl ⟨_, Try.func22, by decide, by kernel_rfl⟩ [.agg (entL A2 Y.row.length c2 B2 Y.qual.length d2 D2 Y.val.length q2 Y).toArray, .agg (entL A1 X.row.length c1 B1 X.qual.length d1 D1 X.val.length q1 X).toArray] rfl ?_
  refine (compare_any Y X A2 Y.row.length c2 B2 Y.qual.length d2 D2 Y.val.length q2 A1 X.row.length c1 B1 X.qual.length d1 D1 X.val.length q1 _ (HM2.out _ HS.out).en (HM1.out _ HS.out).en).mono ?_
  rw [HC.out.2.1]
  rintro r x9 ⟨rfl, hb9⟩
  replace HS := Lib.hid (below_up HS.out hb9)
  clear hb9
  refine ⟨_, rfl, HS.out, ?_⟩
  simp only [Act.put, List.setIfInBounds_toArray, List.set_cons_zero, List.set_cons_succ]
  have bneg := HBN.out
  refine lx_take 12 rfl (by kernel_rfl) (by kernel_rfl) (by kernel_rfl) (fun _ _ _ h => h) (v := ?_) (yi_run rfl (fun w => ?_)) HS.out ?_
  rotate_left
  · first | (go_simp; done) | (go_simp; with_reducible rfl)
  simp only [Act.put, List.setIfInBounds_toArray, List.set_cons_zero, List.set_cons_succ]
  refine lx_take 13 rfl (by kernel_rfl) (by kernel_rfl) (by kernel_rfl) (fun _ _ _ h => h) (v := ?_) (yi_run rfl (fun w => ?_)) HS.out ?_
  rotate_left
  · first | (go_simp; done) | (go_simp; with_reducible rfl)
  simp only [Act.put, List.setIfInBounds_toArray, List.set_cons_zero, List.set_cons_succ]
  refine lx_take 14 rfl (by kernel_rfl) (by kernel_rfl) (by kernel_rfl) (fun _ _ _ h => h) (v := ?_) (yi_run rfl (fun w => ?_)) HS.out ?_
  rotate_left
  · first | (go_simp; done) | (go_simp; with_reducible rfl)
  simp only [Act.put, List.setIfInBounds_toArray, List.set_cons_zero, List.set_cons_succ]
  refine lx_take 15 rfl (by kernel_rfl) (by kernel_rfl) (by kernel_rfl) (fun _ _ _ h => h) (v := ?_) (yi_run rfl (fun w => ?_)) HS.out ?_
  rotate_left
  · first | (go_simp; done) | (go_simp; with_reducible rfl)
  simp only [Act.put, List.setIfInBounds_toArray, List.set_cons_zero, List.set_cons_succ]
  refine lx_take 16 rfl (by kernel_rfl) (by kernel_rfl) (by kernel_rfl) (fun _ _ _ h => h) (yi_row rfl rfl rfl (fun w hS => (HX.out.later hS).range (i := 3) rfl) ent_row) HS.out ?_
  simp only [Act.put, List.setIfInBounds_toArray, List.set_cons_zero, List.set_cons_succ]
  refine lx_take 17 rfl (by kernel_rfl) (by kernel_rfl) (by kernel_rfl) (fun _ _ _ h => h) (yi_row rfl rfl rfl (fun w hS => (HX.out.later hS).range (i := 3) rfl) ent_row) HS.out ?_
  simp only [Act.put, List.setIfInBounds_toArray, List.set_cons_zero, List.set_cons_succ]
  refine lx_call 18 rfl (by kernel_rfl) rfl rfl ⟨_, Try.func22, by decide, by kernel_rfl⟩ [.agg (entL A1 X.row.length c1 B1 X.qual.length d1 D1 X.val.length q1 X).toArray, .agg (entL A1 X.row.length c1 B1 X.qual.length d1 D1 X.val.length q1 X).toArray] rfl ?_
  refine (compare_any X X A1 X.row.length c1 B1 X.qual.length d1 D1 X.val.length q1 A1 X.row.length c1 B1 X.qual.length d1 D1 X.val.length q1 _ (HM1.out _ HS.out).en (HM1.out _ HS.out).en).mono ?_
  rw [cmpE_self]
  rintro r x10 ⟨rfl, hb10⟩
  replace HS := Lib.hid (below_up HS.out hb10)
  clear hb10
  refine ⟨_, rfl, HS.out, ?_⟩
  simp only [Act.put, List.setIfInBounds_toArray, List.set_cons_zero, List.set_cons_succ]
  refine lx_take 19 rfl (by kernel_rfl) (by kernel_rfl) (by kernel_rfl) (fun _ _ _ h => h) (v := ?_) (yi_run rfl (fun w => ?_)) HS.out ?_
  rotate_left
  · first | (go_simp; done) | (go_simp; with_reducible rfl)
  simp only [Act.put, List.setIfInBounds_toArray, List.set_cons_zero, List.set_cons_succ]
  refine lx_take 20 rfl (by kernel_rfl) (by kernel_rfl) (by kernel_rfl) (fun _ _ _ h => h) (v := ?_) (yi_run rfl (fun w => ?_)) HS.out ?_
  rotate_left
  · first | (go_simp; done) | (go_simp; with_reducible rfl)
  simp only [Act.put, List.setIfInBounds_toArray, List.set_cons_zero, List.set_cons_succ]
  refine lx_done (by kernel_rfl) ?_
  clear bneg
  replace HX := Lib.hid (HX.out.later HS.out)
  replace HM1 : Hid (∀ x, Below x10.heap.size x10 x → EnM x A1 X.row.length c1 B1 X.qual.length d1 D1 X.val.length q1 X) := Lib.hid fun x hx => (HM1.out x10 HS.out).later hx
  replace HM2 : Hid (∀ x, Below x10.heap.size x10 x → EnM x A2 Y.row.length c2 B2 Y.qual.length d2 D2 Y.val.length q2 Y) := Lib.hid fun x hx => (HM2.out x10 HS.out).later hx
  replace HM3 : Hid (∀ x, Below x10.heap.size x10 x → EnM x A3 Z.row.length c3 B3 Z.qual.length d3 D3 Z.val.length q3 Z) := Lib.hid fun x hx => (HM3.out x10 HS.out).later hx
  clear HM6 HM7 hb7x
  replace HS := Lib.hid (Below.refl x10.heap.size x10).drew
  have HS10 := Lib.hid HS.out
  go_wp2
  all_goals (try (exfalso; have t1 := HTR.out; have t2 := HEQ.out; simp only [bne_iff_ne, ne_eq, bne_eq_false_iff_eq] at *; omega))
  all_goals
    clear HTR HEQ HBN HBX HC
    refine lx_start (S := fun x => Below x10.heap.size x10 x) (by kernel_rfl) HS10.out ?_
    refine lx_take 0 rfl (by kernel_rfl) (by kernel_rfl) (by kernel_rfl) (fun _ _ _ h => h) (yi_row rfl rfl rfl (fun w hS => (HX.out.later hS).range (i := 3) rfl) ent_row) HS.out ?_
    simp only [Act.put, List.setIfInBounds_toArray, List.set_cons_zero, List.set_cons_succ]
    refine lx_take 1 rfl (by kernel_rfl) (by kernel_rfl) (by kernel_rfl) (fun _ _ _ h => h) (yi_row rfl rfl rfl (fun w hS => (HX.out.later hS).range (i := 0) rfl) ent_row) HS.out ?_
    simp only [Act.put, List.setIfInBounds_toArray, List.set_cons_zero, List.set_cons_succ]
    refine lx_call 2 rfl (by kernel_rfl) rfl rfl ⟨_, Try.func21, by decide, by kernel_rfl⟩ [.agg (entL Ap1 np1 cp1 Bp1 mp1 dp1 Dp1 vp1 qp1 a).toArray] rfl ?_
    refine (entry_any a Ap1 np1 cp1 Bp1 mp1 dp1 Dp1 vp1 qp1 _ (HA.out.later (below_up HX.out.up HS.out))).mono ?_
    rw [HCE.out.1]
    rintro r x11 ⟨A11, c11, B11, d11, D11, q11, rfl, hr11, hb11⟩
    have HM11 : Hid (∀ x, Below x11.heap.size x11 x → EnM x A11 X.row.length c11 B11 X.qual.length d11 D11 X.val.length q11 X) := Lib.hid fun x hx => (LaidE.enm hr11 HXL.out.1 HXL.out.2.1 HXL.out.2.2).later hx
    replace HS := Lib.hid (below_up HS.out hb11)
    clear hb11
    clear hr11
    refine ⟨_, rfl, HS.out, ?_⟩
    simp only [Act.put, List.setIfInBounds_toArray, List.set_cons_zero, List.set_cons_succ]
    refine lx_call 3 rfl (by kernel_rfl) rfl rfl ⟨_, Try.func24, by decide, by kernel_rfl⟩ [.agg (entL A1 X.row.length c1 B1 X.qual.length d1 D1 X.val.length q1 X).toArray, entV A11 X.row.length c11 B11 X.qual.length d11 D11 X.val.length q11 X] rfl ?_
    refine (stands_any X A1 X.row.length c1 B1 X.qual.length d1 D1 X.val.length q1 A11 c11 B11 d11 D11 q11 _ (HM1.out _ HS.out) (HM11.out _ (Below.refl _ _)).en).mono ?_
    rintro r x12 ⟨rfl, hb12⟩
    replace HS := Lib.hid (below_up HS.out hb12)
    clear hb12
    clear HM11
    refine ⟨_, rfl, HS.out, ?_⟩
    simp only [Act.put, List.setIfInBounds_toArray, List.set_cons_zero, List.set_cons_succ]
    refine lx_take 4 rfl (by kernel_rfl) (by kernel_rfl) (by kernel_rfl) (fun _ _ _ h => h) (v := ?_) (yi_run rfl (fun w => ?_)) HS.out ?_
    rotate_left
    · first | (go_simp; done) | (go_simp; with_reducible rfl)
    simp only [Act.put, List.setIfInBounds_toArray, List.set_cons_zero, List.set_cons_succ]
    refine lx_take 5 rfl (by kernel_rfl) (by kernel_rfl) (by kernel_rfl) (fun _ _ _ h => h) (yi_row rfl rfl rfl (fun w hS => (HX.out.later hS).range (i := 4) rfl) ent_row) HS.out ?_
    simp only [Act.put, List.setIfInBounds_toArray, List.set_cons_zero, List.set_cons_succ]
    refine lx_take 6 rfl (by kernel_rfl) (by kernel_rfl) (by kernel_rfl) (fun _ _ _ h => h) (yi_row rfl rfl rfl (fun w hS => (HX.out.later hS).range (i := 1) rfl) ent_row) HS.out ?_
    simp only [Act.put, List.setIfInBounds_toArray, List.set_cons_zero, List.set_cons_succ]
    refine lx_call 7 rfl (by kernel_rfl) rfl rfl ⟨_, Try.func21, by decide, by kernel_rfl⟩ [.agg (entL Ap2 np2 cp2 Bp2 mp2 dp2 Dp2 vp2 qp2 b).toArray] rfl ?_
    refine (entry_any b Ap2 np2 cp2 Bp2 mp2 dp2 Dp2 vp2 qp2 _ (HB.out.later (below_up HX.out.up HS.out))).mono ?_
    rw [HCE.out.2.1]
    rintro r x13 ⟨A13, c13, B13, d13, D13, q13, rfl, hr13, hb13⟩
    have HM13 : Hid (∀ x, Below x13.heap.size x13 x → EnM x A13 Y.row.length c13 B13 Y.qual.length d13 D13 Y.val.length q13 Y) := Lib.hid fun x hx => (LaidE.enm hr13 HYL.out.1 HYL.out.2.1 HYL.out.2.2).later hx
    replace HS := Lib.hid (below_up HS.out hb13)
    clear hb13
    clear hr13
    refine ⟨_, rfl, HS.out, ?_⟩
    simp only [Act.put, List.setIfInBounds_toArray, List.set_cons_zero, List.set_cons_succ]
    refine lx_call 8 rfl (by kernel_rfl) rfl rfl ⟨_, Try.func24, by decide, by kernel_rfl⟩ [.agg (entL A2 Y.row.length c2 B2 Y.qual.length d2 D2 Y.val.length q2 Y).toArray, entV A13 Y.row.length c13 B13 Y.qual.length d13 D13 Y.val.length q13 Y] rfl ?_
    refine (stands_any Y A2 Y.row.length c2 B2 Y.qual.length d2 D2 Y.val.length q2 A13 c13 B13 d13 D13 q13 _ (HM2.out _ HS.out) (HM13.out _ (Below.refl _ _)).en).mono ?_
    rintro r x14 ⟨rfl, hb14⟩
    replace HS := Lib.hid (below_up HS.out hb14)
    clear hb14
    clear HM13
    refine ⟨_, rfl, HS.out, ?_⟩
    simp only [Act.put, List.setIfInBounds_toArray, List.set_cons_zero, List.set_cons_succ]
    refine lx_take 9 rfl (by kernel_rfl) (by kernel_rfl) (by kernel_rfl) (fun _ _ _ h => h) (v := ?_) (yi_run rfl (fun w => ?_)) HS.out ?_
    rotate_left
    · first | (go_simp; done) | (go_simp; with_reducible rfl)
    simp only [Act.put, List.setIfInBounds_toArray, List.set_cons_zero, List.set_cons_succ]
    refine lx_take 10 rfl (by kernel_rfl) (by kernel_rfl) (by kernel_rfl) (fun _ _ _ h => h) (v := ?_) (yi_run rfl (fun w => ?_)) HS.out ?_
    rotate_left
    · first | (go_simp; done) | (go_simp; with_reducible rfl)
    simp only [Act.put, List.setIfInBounds_toArray, List.set_cons_zero, List.set_cons_succ]
    refine lx_take 11 rfl (by kernel_rfl) (by kernel_rfl) (by kernel_rfl) (fun _ _ _ h => h) (yi_row rfl rfl rfl (fun w hS => (HX.out.later hS).range (i := 5) rfl) ent_row) HS.out ?_
    simp only [Act.put, List.setIfInBounds_toArray, List.set_cons_zero, List.set_cons_succ]
    refine lx_take 12 rfl (by kernel_rfl) (by kernel_rfl) (by kernel_rfl) (fun _ _ _ h => h) (yi_row rfl rfl rfl (fun w hS => (HX.out.later hS).range (i := 2) rfl) ent_row) HS.out ?_
    simp only [Act.put, List.setIfInBounds_toArray, List.set_cons_zero, List.set_cons_succ]
    refine lx_call 13 rfl (by kernel_rfl) rfl rfl ⟨_, Try.func21, by decide, by kernel_rfl⟩ [.agg (entL Ap3 np3 cp3 Bp3 mp3 dp3 Dp3 vp3 qp3 f).toArray] rfl ?_
    refine (entry_any f Ap3 np3 cp3 Bp3 mp3 dp3 Dp3 vp3 qp3 _ (HF.out.later (below_up HX.out.up HS.out))).mono ?_
    rw [HCE.out.2.2]
    rintro r x15 ⟨A15, c15, B15, d15, D15, q15, rfl, hr15, hb15⟩
    have HM15 : Hid (∀ x, Below x15.heap.size x15 x → EnM x A15 Z.row.length c15 B15 Z.qual.length d15 D15 Z.val.length q15 Z) := Lib.hid fun x hx => (LaidE.enm hr15 HZL.out.1 HZL.out.2.1 HZL.out.2.2).later hx
    replace HS := Lib.hid (below_up HS.out hb15)
    clear hb15
    clear hr15
    refine ⟨_, rfl, HS.out, ?_⟩
    simp only [Act.put, List.setIfInBounds_toArray, List.set_cons_zero, List.set_cons_succ]
    refine lx_call 14 rfl (by kernel_rfl) rfl rfl ⟨_, Try.func24, by decide, by kernel_rfl⟩ [.agg (entL A3 Z.row.length c3 B3 Z.qual.length d3 D3 Z.val.length q3 Z).toArray, entV A15 Z.row.length c15 B15 Z.qual.length d15 D15 Z.val.length q15 Z] rfl ?_
    refine (stands_any Z A3 Z.row.length c3 B3 Z.qual.length d3 D3 Z.val.length q3 A15 c15 B15 d15 D15 q15 _ (HM3.out _ HS.out) (HM15.out _ (Below.refl _ _)).en).mono ?_
    rintro r x16 ⟨rfl, hb16⟩
    replace HS := Lib.hid (below_up HS.out hb16)
    clear hb16
    clear HM15
    refine ⟨_, rfl, HS.out, ?_⟩
    simp only [Act.put, List.setIfInBounds_toArray, List.set_cons_zero, List.set_cons_succ]
    refine lx_take 15 rfl (by kernel_rfl) (by kernel_rfl) (by kernel_rfl) (fun _ _ _ h => h) (v := ?_) (yi_run rfl (fun w => ?_)) HS.out ?_
    rotate_left
    · first | (go_simp; done) | (go_simp; with_reducible rfl)
    simp only [Act.put, List.setIfInBounds_toArray, List.set_cons_zero, List.set_cons_succ]
    refine lx_take 16 rfl (by kernel_rfl) (by kernel_rfl) (by kernel_rfl) (fun _ _ _ h => h) (v := ?_) (yi_run rfl (fun w => ?_)) HS.out ?_
    rotate_left
    · first | (go_simp; done) | (go_simp; with_reducible rfl)
    simp only [Act.put, List.setIfInBounds_toArray, List.set_cons_zero, List.set_cons_succ]
    refine lx_done (by kernel_rfl) ?_
    replace HX := Lib.hid (HX.out.later HS.out)
    go_wp2
    go_ret
    exact ⟨rfl, HX.out.up⟩
end Go.Proofs.Ytcikhlieaoanoaa

/-
  CellParses and CellUnpacks walked. (Printed by gen_parses.py.)
-/
namespace Go.Proofs.Ytcikhlieaoanoaa
open Go.RowKit

theorem laid_n {l : List UInt8} {w w' : World} {r : Ending} {n : Nat} (h : LaidPost l w r w') (hn : l.length = n) : ∃ A c, r = .returned (.slice A n c) ∧ OwnB 5 w.heap.size w' A c (l ++ mkL 70) ∧ Below w.heap.size w w' := by
  subst hn; exact h
theorem ok_len {e : Ent} (h : OkE e) : e.row.length ≤ 256 ∧ e.qual.length ≤ 256 ∧ e.val.length ≤ 4096 := ⟨h.row.2, h.qual.1, h.val.1⟩
theorem parse_len (b : List UInt8) : (ParseKeyE b).1.row.length ≤ 256 ∧ (ParseKeyE b).1.qual.length ≤ 256 ∧ (ParseKeyE b).1.val.length ≤ 4096 := by
  rcases ParseKey_err b with h | h
  · exact ok_len (ParseKey_is h).1
  · rw [h]; decide
theorem unpack_len (b : List UInt8) (a : Int) : (UnpackE b a).1.row.length ≤ 256 ∧ (UnpackE b a).1.qual.length ≤ 256 ∧ (UnpackE b a).1.val.length ≤ 4096 := by
  have h0 : ∀ (p : Nat) (z : Int), (fun r : Ent × Nat × Int => r.1.row.length ≤ 256 ∧ r.1.qual.length ≤ 256 ∧ r.1.val.length ≤ 4096) (noEnt, p, z) := fun _ _ => ⟨by simp [noEnt], by simp [noEnt], by simp [noEnt]⟩
  refine unpack_cases b a (C := fun r => r.1.row.length ≤ 256 ∧ r.1.qual.length ≤ 256 ∧ r.1.val.length ≤ 4096) ?_ ?_ ?_ ?_ ?_
  · intros; exact h0 _ _
  · intros; exact h0 _ _
  · intros; exact h0 _ _
  · intros; exact h0 _ _
  · intro K p E V p2 hK h1 hp h3 hV hh
    have h := ParseKey_is (b := K) (by rw [hp])
    rw [hp] at h
    exact ⟨h.1.row.2, h.1.qual.1, hV⟩
set_option maxRecDepth 100000 in
set_option maxHeartbeats 4000000 in
theorem parses_any (b : List UInt8) (A : Option Addr) (n c : Nat) (w : World) (hs : Sl w A n c b) :
    Calls Try.prog 3 #[.slice A n c] w fun r w' => r = .returned (.bool true) ∧ Below w.heap.size w w' := by
  have HB := Lib.hid hs
  obtain ⟨L, hL⟩ : ∃ L, L = b.take 5000 := ⟨_, rfl⟩
  obtain ⟨nl, hnl⟩ : ∃ n, n = L.length := ⟨_, rfl⟩
  have HL := Lib.hid hL.symm
  have HN : Hid (L.length = nl ∧ nl ≤ 5000) := Lib.hid ⟨hnl.symm, by rw [hnl, hL, List.length_take]; omega⟩
  obtain ⟨E, hE⟩ : ∃ E, E = (ParseKeyE L).1 := ⟨_, rfl⟩
  obtain ⟨z, hz⟩ : ∃ z, z = (ParseKeyE L).2 := ⟨_, rfl⟩
  have HP : Hid (ParseKeyE L = (E, z)) := Lib.hid (by rw [hE, hz])
  have HE : Hid (E.row.length ≤ 256 ∧ E.qual.length ≤ 256 ∧ E.val.length ≤ 4096) := Lib.hid (by rw [hE]; exact parse_len L)
  clear hL hnl hE hz hs
  have tok1 : True := trivial
  have tok2 : True := trivial
  have tok3 : True := trivial
  have tok4 : True := trivial
  have tok5 : True := trivial
  have tok6 : True := trivial
  have HX := Lib.hid (St.nil 5 w)
  go_enter Try.func3, Try.ntmps3
  go_wp2_with (first
    | (go_at_call 12; go_must (refine (told_any _).mono ?_); rintro r x1 ⟨rfl, hb⟩; replace HX := Lib.hid (HX.out.later hb); clear hb)
    | (go_at_call 13; go_must (refine (laid_any b A n c 5000 _ (HB.out.later HX.out.up) (by decide)).mono ?_); rw [HL.out]; rintro r x2 hp; obtain ⟨Ai, ci, rfl, ho, hb⟩ := laid_n hp HN.out.1; replace HX := Lib.hid (HX.out.fresh hb ho); clear hp ho hb)
    | (go_at_call 14; go_must (refine (copied_any L Ai nl ci _ (by have := HN.out; omega) (sl_front (HX.out.sl (n := nl + 75) (i := 0) rfl (by rw [List.length_append, mkL_len, HN.out.1])) HN.out.1).rb).mono ?_); rintro r x3 hp; obtain ⟨Ac, cc, rfl, _, ho, hb⟩ := hp.at_ HN.out.1; replace HX := Lib.hid (HX.out.fresh hb ho); have HR := Lib.hid (St.nil 5 x3); clear hp ho hb)
    | (go_at_call 15; have _t := tok1; go_must (refine (parsekey_any L Ai nl ci _ (sl_front ((HX.out.later HR.out.up).sl (n := nl + 75) (i := 0) rfl (by rw [List.length_append, mkL_len, HN.out.1])) HN.out.1) (by have := HN.out; omega)).mono ?_); rw [HP.out]; rintro r y1 ⟨A1, c1, B1, d1, D1, q1, rfl, hr, hb⟩; replace HR := Lib.hid (HR.out.app hb hr); clear hr hb tok1)
    | (have _t := tok2; refine wpList_alloc_st rfl 27 rfl HR.out zeroL ent_zero ?_; intro g1 w1 hst _; replace HR := Lib.hid hst; clear hst tok2)
    | (have _t := tok3; refine wpList_store_st rfl 27 (.tmp 5) (.tmp 20) rfl HR.out 0 (g := g1) rfl rfl (entL A1 E.row.length c1 B1 E.qual.length d1 D1 E.val.length q1 E) rfl rfl ent_size (entL_one _ _ _ _ _ _ _ _ _ _) ?_; intro v1 hst hcg; replace HR := Lib.hid hst; clear hst hcg tok3)
    | (go_at_call 16; go_must (refine (rparsekey_any L Ac nl cc _ ((HX.out.later HR.out.up).sl (i := 1) rfl HN.out.1) (by have := HN.out; omega)).mono ?_); rw [HP.out]; rintro r y2 ⟨A2, c2, B2, d2, D2, q2, rfl, hr, hb⟩; replace HR := Lib.hid (HR.out.app hb hr); clear hr hb)
    | (have _t := tok4; refine wpList_alloc_st rfl 27 rfl HR.out zeroL ent_zero ?_; intro g2 w2 hst _; replace HR := Lib.hid hst; clear hst tok4)
    | (have _t := tok5; refine wpList_store_st rfl 27 (.tmp 7) (.tmp 25) rfl HR.out 1 (g := g2) rfl rfl (entL A2 E.row.length c2 B2 E.qual.length d2 D2 E.val.length q2 E) rfl rfl ent_size (entL_one _ _ _ _ _ _ _ _ _ _) ?_; intro v2 hst hcg; replace HR := Lib.hid hst; clear hst hcg tok5)
    | (refine wpList_load_row7 rfl 27 (.tmp 5) rfl rfl (HR.out.range (i := 0) rfl) ent_row ?_)
    | (refine wpList_load_row7 rfl 27 (.tmp 7) rfl rfl (HR.out.range (i := 1) rfl) ent_row ?_)
    | (go_at_call 17; go_must (refine (sameEntry_any E E A1 E.row.length c1 B1 E.qual.length d1 D1 E.val.length q1 A2 E.row.length c2 B2 E.qual.length d2 D2 E.val.length q2 _ rfl ⟨HR.out.sl (i := 0) rfl rfl, HR.out.sl (i := 1) rfl rfl, HR.out.sl (i := 2) rfl rfl⟩ ⟨HR.out.sl (i := 3) rfl rfl, HR.out.sl (i := 4) rfl rfl, HR.out.sl (i := 5) rfl rfl⟩).mono ?_); rintro r y3 ⟨rfl, hb⟩; replace HR := Lib.hid (HR.out.later hb); clear hb)
    | (go_at_call 18; go_must (refine (intact_any L Ai Ac nl ci cc _ ((HX.out.later HR.out.up).sl (n := nl + 75) (i := 0) rfl (by rw [List.length_append, mkL_len, HN.out.1])) ((HX.out.later HR.out.up).sl (i := 1) rfl HN.out.1).rb (by have := HN.out; omega)).mono ?_); rintro r y4 ⟨rfl, hb⟩; replace HR := Lib.hid (HR.out.later hb); clear hb))
  have HS := Lib.hid (HR.out.range (i := 0) rfl)
  refine lx_start (S := fun x => x.rangeAt g1 0 (entL A1 E.row.length c1 B1 E.qual.length d1 D1 E.val.length q1 E)) (by kernel_rfl) (HR.out.drew.range (i := 0) rfl) ?_
  replace HR := Lib.hid HR.out.drew
  replace HS := Lib.hid (HR.out.range (i := 0) rfl)
  refine lx_take 0 rfl (by kernel_rfl) (by kernel_rfl) (by kernel_rfl) (fun _ _ _ h => h) (v := ?_) (yi_run rfl (fun w => ?_)) HS.out ?_
  rotate_left
  · first | (go_simp; done) | (go_simp; with_reducible rfl)
  simp only [Act.put, List.setIfInBounds_toArray, List.set_cons_zero, List.set_cons_succ]
  refine lx_take 1 rfl (by kernel_rfl) (by kernel_rfl) (by kernel_rfl) (fun _ _ _ h => h) (yi_cell rfl rfl rfl (fun w hS => hS 0 _ rfl) (fun w => Try.isAgg22 w)) HS.out ?_
  simp only [Act.put, List.setIfInBounds_toArray, List.set_cons_zero, List.set_cons_succ]
  refine lx_take 3 rfl (by kernel_rfl) (by kernel_rfl) (by kernel_rfl) (fun _ _ _ h => h) (v := ?_) (yi_run rfl (fun w => ?_)) HS.out ?_
  rotate_left
  · first | (go_simp; done) | (go_simp; with_reducible rfl)
  simp only [Act.put, List.setIfInBounds_toArray, List.set_cons_zero, List.set_cons_succ]
  refine lx_take 4 rfl (by kernel_rfl) (by kernel_rfl) (by kernel_rfl) (fun _ _ _ h => h) (yi_cell rfl rfl rfl (fun w hS => hS 2 _ rfl) (fun w => Try.isAgg22 w)) HS.out ?_
  simp only [Act.put, List.setIfInBounds_toArray, List.set_cons_zero, List.set_cons_succ]
  refine lx_call 2 rfl (by kernel_rfl) rfl rfl ⟨_, Try.func19, by decide, by kernel_rfl⟩ [.slice A1 E.row.length c1, .int .u8 17] rfl ?_
  refine (longer_any _ E.row A1 E.row.length c1 17 _ (HR.out.own (i := 0) rfl) rfl (by have := HE.out; omega) HR.out.up.size).mono ?_
  rintro r y5 ⟨h0, rfl, hl, hc⟩
  have HW0 := Lib.hid HR.out
  have HL0 := Lib.hid hl
  replace HR := Lib.hid (HR.out.lng (i := 0) rfl hc)
  replace HS := Lib.hid (HR.out.range (i := 0) rfl)
  clear hl hc
  refine ⟨_, rfl, HS.out, ?_⟩
  simp only [Act.put, List.setIfInBounds_toArray, List.set_cons_zero, List.set_cons_succ]
  refine lx_call 5 rfl (by kernel_rfl) rfl rfl ⟨_, Try.func19, by decide, by kernel_rfl⟩ [.slice B1 E.qual.length d1, .int .u8 18] rfl ?_
  refine (longer_any _ E.qual B1 E.qual.length d1 18 _ (HR.out.own (i := 0) rfl) rfl (by have := HE.out; omega) HR.out.up.size).mono ?_
  rintro r y6 ⟨h1, rfl, hl, hc⟩
  have HW1 := Lib.hid HR.out
  have HL1 := Lib.hid hl
  replace HL0 := Lib.hid (HL0.out.aside (i := 0) (j := 1) HW0.out rfl rfl (by decide) hc)
  replace HR := Lib.hid (HR.out.lng (i := 0) rfl hc)
  replace HS := Lib.hid (HR.out.range (i := 0) rfl)
  clear hl hc
  refine ⟨_, rfl, HS.out, ?_⟩
  simp only [Act.put, List.setIfInBounds_toArray, List.set_cons_zero, List.set_cons_succ]
  refine lx_take 6 rfl (by kernel_rfl) (by kernel_rfl) (by kernel_rfl) (fun _ _ _ h => h) (v := ?_) (yi_run rfl (fun w => ?_)) HS.out ?_
  rotate_left
  · first | (go_simp; done) | (go_simp; with_reducible rfl)
  simp only [Act.put, List.setIfInBounds_toArray, List.set_cons_zero, List.set_cons_succ]
  refine lx_take 7 rfl (by kernel_rfl) (by kernel_rfl) (by kernel_rfl) (fun _ _ _ h => h) (v := ?_) (yi_run rfl (fun w => ?_)) HS.out ?_
  rotate_left
  · first | (go_simp; done) | (go_simp; with_reducible rfl)
  simp only [Act.put, List.setIfInBounds_toArray, List.set_cons_zero, List.set_cons_succ]
  refine lx_done (by kernel_rfl) ?_
  clear HS
  go_wp2_with (first
    | (go_at_call 15; go_must (refine (parsekey_any L Ai nl ci _ (sl_front ((HX.out.later HR.out.up).sl (n := nl + 75) (i := 0) rfl (by rw [List.length_append, mkL_len, HN.out.1])) HN.out.1) (by have := HN.out; omega)).mono ?_); rw [HP.out]; rintro r y9 ⟨A9, c9, B9, d9, D9, q9, rfl, hr, hb⟩; replace HR := Lib.hid (HR.out.app hb hr); replace HL0 := Lib.hid (HL0.out.later hb); replace HL1 := Lib.hid (HL1.out.later hb); clear hr hb)
    | (refine wpList_store_st rfl 27 (.tmp 5) (.tmp 51) rfl HR.out 0 (g := g1) rfl rfl (entL A9 E.row.length c9 B9 E.qual.length d9 D9 E.val.length q9 E) rfl rfl ent_size (entL_one _ _ _ _ _ _ _ _ _ _) ?_; intro v9 hst hcg; replace HR := Lib.hid hst; replace HL0 := Lib.hid (HL0.out.box (k := 0) (i := 0) HW0.out rfl rfl hcg); replace HL1 := Lib.hid (HL1.out.box (k := 0) (i := 0) HW1.out rfl rfl hcg); clear hst hcg)
    | (refine wpList_load_row7 rfl 27 (.tmp 5) rfl rfl (HR.out.range (i := 0) rfl) ent_row ?_)
    | (refine wpList_load_row7 rfl 27 (.tmp 7) rfl rfl (HR.out.range (i := 1) rfl) ent_row ?_)
    | (go_at_call 17; go_must (refine (sameEntry_any E E A9 E.row.length c9 B9 E.qual.length d9 D9 E.val.length q9 A2 E.row.length c2 B2 E.qual.length d2 D2 E.val.length q2 _ rfl ⟨HR.out.sl (i := 4) rfl rfl, HR.out.sl (i := 5) rfl rfl, HR.out.sl (i := 6) rfl rfl⟩ ⟨HR.out.sl (i := 1) rfl rfl, HR.out.sl (i := 2) rfl rfl, HR.out.sl (i := 3) rfl rfl⟩).mono ?_); rintro r z1 ⟨rfl, hb⟩; replace HR := Lib.hid (HR.out.later hb); replace HL0 := Lib.hid (HL0.out.later hb); replace HL1 := Lib.hid (HL1.out.later hb); clear hb)
    | (go_at_call 18; go_must (refine (intact_any L Ai Ac nl ci cc _ ((HX.out.later HR.out.up).sl (n := nl + 75) (i := 0) rfl (by rw [List.length_append, mkL_len, HN.out.1])) ((HX.out.later HR.out.up).sl (i := 1) rfl HN.out.1).rb (by have := HN.out; omega)).mono ?_); rintro r z2 ⟨rfl, hb⟩; replace HR := Lib.hid (HR.out.later hb); replace HL0 := Lib.hid (HL0.out.later hb); replace HL1 := Lib.hid (HL1.out.later hb); clear hb)
    | (go_at_call 20; have _t := tok6; go_must (refine (full_any A1 E.row.length h0 17 _ HL0.out (by have := HE.out; omega)).mono ?_); rintro r _ ⟨rfl, rfl⟩; clear tok6)
    | (go_at_call 20; go_must (refine (full_any B1 E.qual.length h1 18 _ HL1.out (by have := HE.out; omega)).mono ?_); rintro r _ ⟨rfl, rfl⟩))
  have HF := Lib.hid (HX.out.later HR.out.up)
  go_ret
  exact ⟨rfl, HF.out.up⟩

set_option maxRecDepth 100000 in
set_option maxHeartbeats 4000000 in
theorem unpacks_any (b : List UInt8) (A : Option Addr) (n c : Nat) (a : Int) (w : World) (hs : Sl w A n c b) :
    Calls Try.prog 8 #[.slice A n c, .int .i64 a] w fun r w' => r = .returned (.bool true) ∧ Below w.heap.size w w' := by
  have HB := Lib.hid hs
  obtain ⟨L, hL⟩ : ∃ L, L = b.take 20000 := ⟨_, rfl⟩
  obtain ⟨nl, hnl⟩ : ∃ n, n = L.length := ⟨_, rfl⟩
  have HL := Lib.hid hL.symm
  have HN : Hid (L.length = nl ∧ nl ≤ 20000) := Lib.hid ⟨hnl.symm, by rw [hnl, hL, List.length_take]; omega⟩
  obtain ⟨E, hE⟩ : ∃ E, E = (UnpackE L a).1 := ⟨_, rfl⟩
  obtain ⟨p, hp⟩ : ∃ p, p = (UnpackE L a).2.1 := ⟨_, rfl⟩
  obtain ⟨z, hz⟩ : ∃ z, z = (UnpackE L a).2.2 := ⟨_, rfl⟩
  have HP : Hid (UnpackE L a = (E, p, z)) := Lib.hid (by rw [hE, hp, hz])
  have HE : Hid (E.row.length ≤ 256 ∧ E.qual.length ≤ 256 ∧ E.val.length ≤ 4096) := Lib.hid (by rw [hE]; exact unpack_len L a)
  clear hL hnl hE hp hz hs
  have tok1 : True := trivial
  have tok2 : True := trivial
  have tok3 : True := trivial
  have tok4 : True := trivial
  have tok5 : True := trivial
  have tok6 : True := trivial
  have tok7 : True := trivial
  have HX := Lib.hid (St.nil 5 w)
  go_enter Try.func8, Try.ntmps8
  go_wp2_with (first
    | (go_at_call 12; go_must (refine (told_any _).mono ?_); rintro r x1 ⟨rfl, hb⟩; replace HX := Lib.hid (HX.out.later hb); clear hb)
    | (go_at_call 13; go_must (refine (laid_any b A n c 20000 _ (HB.out.later HX.out.up) (by decide)).mono ?_); rw [HL.out]; rintro r x2 hp; obtain ⟨Ai, ci, rfl, ho, hb⟩ := laid_n hp HN.out.1; replace HX := Lib.hid (HX.out.fresh hb ho); clear hp ho hb)
    | (go_at_call 14; go_must (refine (copied_any L Ai nl ci _ (by have := HN.out; omega) (sl_front (HX.out.sl (n := nl + 75) (i := 0) rfl (by rw [List.length_append, mkL_len, HN.out.1])) HN.out.1).rb).mono ?_); rintro r x3 hp; obtain ⟨Ac, cc, rfl, _, ho, hb⟩ := hp.at_ HN.out.1; replace HX := Lib.hid (HX.out.fresh hb ho); have HR := Lib.hid (St.nil 5 x3); clear hp ho hb)
    | (go_at_call 37; have _t := tok1; go_must (refine (unpack_any L Ai nl ci a _ (sl_front ((HX.out.later HR.out.up).sl (n := nl + 75) (i := 0) rfl (by rw [List.length_append, mkL_len, HN.out.1])) HN.out.1) (by have := HN.out; omega)).mono ?_); rw [HP.out]; rintro r y1 ⟨A1, c1, B1, d1, D1, q1, rfl, hr, hb⟩; replace HR := Lib.hid (HR.out.app hb hr); clear hr hb tok1)
    | (have _t := tok2; refine wpList_alloc_st rfl 27 rfl HR.out zeroL ent_zero ?_; intro g1 w1 hst _; replace HR := Lib.hid hst; clear hst tok2)
    | (have _t := tok3; refine wpList_store_st rfl 27 (.tmp 7) (.tmp 26) rfl HR.out 0 (g := g1) rfl rfl (entL A1 E.row.length c1 B1 E.qual.length d1 D1 E.val.length q1 E) rfl rfl ent_size (entL_one _ _ _ _ _ _ _ _ _ _) ?_; intro v1 hst hcg; replace HR := Lib.hid hst; clear hst hcg tok3)
    | (go_at_call 38; go_must (refine (runpack_any L Ac nl cc a _ ((HX.out.later HR.out.up).sl (i := 1) rfl HN.out.1) (by have := HN.out; omega)).mono ?_); rw [HP.out]; rintro r y2 ⟨A2, c2, B2, d2, D2, q2, rfl, hr, hb⟩; replace HR := Lib.hid (HR.out.app hb hr); clear hr hb)
    | (have _t := tok4; refine wpList_alloc_st rfl 27 rfl HR.out zeroL ent_zero ?_; intro g2 w2 hst _; replace HR := Lib.hid hst; clear hst tok4)
    | (have _t := tok5; refine wpList_store_st rfl 27 (.tmp 10) (.tmp 33) rfl HR.out 1 (g := g2) rfl rfl (entL A2 E.row.length c2 B2 E.qual.length d2 D2 E.val.length q2 E) rfl rfl ent_size (entL_one _ _ _ _ _ _ _ _ _ _) ?_; intro v2 hst hcg; replace HR := Lib.hid hst; clear hst hcg tok5)
    | (refine wpList_load_row7 rfl 27 (.tmp 7) rfl rfl (HR.out.range (i := 0) rfl) ent_row ?_)
    | (refine wpList_load_row7 rfl 27 (.tmp 10) rfl rfl (HR.out.range (i := 1) rfl) ent_row ?_)
    | (go_at_call 17; go_must (refine (sameEntry_any E E A1 E.row.length c1 B1 E.qual.length d1 D1 E.val.length q1 A2 E.row.length c2 B2 E.qual.length d2 D2 E.val.length q2 _ rfl ⟨HR.out.sl (i := 0) rfl rfl, HR.out.sl (i := 1) rfl rfl, HR.out.sl (i := 2) rfl rfl⟩ ⟨HR.out.sl (i := 3) rfl rfl, HR.out.sl (i := 4) rfl rfl, HR.out.sl (i := 5) rfl rfl⟩).mono ?_); rintro r y3 ⟨rfl, hb⟩; replace HR := Lib.hid (HR.out.later hb); clear hb)
    | (go_at_call 18; go_must (refine (intact_any L Ai Ac nl ci cc _ ((HX.out.later HR.out.up).sl (n := nl + 75) (i := 0) rfl (by rw [List.length_append, mkL_len, HN.out.1])) ((HX.out.later HR.out.up).sl (i := 1) rfl HN.out.1).rb (by have := HN.out; omega)).mono ?_); rintro r y4 ⟨rfl, hb⟩; replace HR := Lib.hid (HR.out.later hb); clear hb))
  have HS := Lib.hid (HR.out.range (i := 0) rfl)
  refine lx_start (S := fun x => x.rangeAt g1 0 (entL A1 E.row.length c1 B1 E.qual.length d1 D1 E.val.length q1 E)) (by kernel_rfl) (HR.out.drew.range (i := 0) rfl) ?_
  replace HR := Lib.hid HR.out.drew
  replace HS := Lib.hid (HR.out.range (i := 0) rfl)
  refine lx_take 0 rfl (by kernel_rfl) (by kernel_rfl) (by kernel_rfl) (fun _ _ _ h => h) (v := ?_) (yi_run rfl (fun w => ?_)) HS.out ?_
  rotate_left
  · first | (go_simp; done) | (go_simp; with_reducible rfl)
  simp only [Act.put, List.setIfInBounds_toArray, List.set_cons_zero, List.set_cons_succ]
  refine lx_take 1 rfl (by kernel_rfl) (by kernel_rfl) (by kernel_rfl) (fun _ _ _ h => h) (yi_cell rfl rfl rfl (fun w hS => hS 0 _ rfl) (fun w => Try.isAgg22 w)) HS.out ?_
  simp only [Act.put, List.setIfInBounds_toArray, List.set_cons_zero, List.set_cons_succ]
  refine lx_take 3 rfl (by kernel_rfl) (by kernel_rfl) (by kernel_rfl) (fun _ _ _ h => h) (v := ?_) (yi_run rfl (fun w => ?_)) HS.out ?_
  rotate_left
  · first | (go_simp; done) | (go_simp; with_reducible rfl)
  simp only [Act.put, List.setIfInBounds_toArray, List.set_cons_zero, List.set_cons_succ]
  refine lx_take 4 rfl (by kernel_rfl) (by kernel_rfl) (by kernel_rfl) (fun _ _ _ h => h) (yi_cell rfl rfl rfl (fun w hS => hS 2 _ rfl) (fun w => Try.isAgg22 w)) HS.out ?_
  simp only [Act.put, List.setIfInBounds_toArray, List.set_cons_zero, List.set_cons_succ]
  refine lx_take 6 rfl (by kernel_rfl) (by kernel_rfl) (by kernel_rfl) (fun _ _ _ h => h) (v := ?_) (yi_run rfl (fun w => ?_)) HS.out ?_
  rotate_left
  · first | (go_simp; done) | (go_simp; with_reducible rfl)
  simp only [Act.put, List.setIfInBounds_toArray, List.set_cons_zero, List.set_cons_succ]
  refine lx_take 7 rfl (by kernel_rfl) (by kernel_rfl) (by kernel_rfl) (fun _ _ _ h => h) (yi_cell rfl rfl rfl (fun w hS => hS 6 _ rfl) (fun w => Try.isAgg22 w)) HS.out ?_
  simp only [Act.put, List.setIfInBounds_toArray, List.set_cons_zero, List.set_cons_succ]
  refine lx_call 2 rfl (by kernel_rfl) rfl rfl ⟨_, Try.func19, by decide, by kernel_rfl⟩ [.slice A1 E.row.length c1, .int .u8 17] rfl ?_
  refine (longer_any _ E.row A1 E.row.length c1 17 _ (HR.out.own (i := 0) rfl) rfl (by have := HE.out; omega) HR.out.up.size).mono ?_
  rintro r y5 ⟨h0, rfl, hl, hc⟩
  have HW0 := Lib.hid HR.out
  have HL0 := Lib.hid hl
  replace HR := Lib.hid (HR.out.lng (i := 0) rfl hc)
  replace HS := Lib.hid (HR.out.range (i := 0) rfl)
  clear hl hc
  refine ⟨_, rfl, HS.out, ?_⟩
  simp only [Act.put, List.setIfInBounds_toArray, List.set_cons_zero, List.set_cons_succ]
  refine lx_call 5 rfl (by kernel_rfl) rfl rfl ⟨_, Try.func19, by decide, by kernel_rfl⟩ [.slice B1 E.qual.length d1, .int .u8 18] rfl ?_
  refine (longer_any _ E.qual B1 E.qual.length d1 18 _ (HR.out.own (i := 0) rfl) rfl (by have := HE.out; omega) HR.out.up.size).mono ?_
  rintro r y6 ⟨h1, rfl, hl, hc⟩
  have HW1 := Lib.hid HR.out
  have HL1 := Lib.hid hl
  replace HL0 := Lib.hid (HL0.out.aside (i := 0) (j := 1) HW0.out rfl rfl (by decide) hc)
  replace HR := Lib.hid (HR.out.lng (i := 0) rfl hc)
  replace HS := Lib.hid (HR.out.range (i := 0) rfl)
  clear hl hc
  refine ⟨_, rfl, HS.out, ?_⟩
  simp only [Act.put, List.setIfInBounds_toArray, List.set_cons_zero, List.set_cons_succ]
  refine lx_call 8 rfl (by kernel_rfl) rfl rfl ⟨_, Try.func19, by decide, by kernel_rfl⟩ [.slice D1 E.val.length q1, .int .u8 19] rfl ?_
  refine (longer_any _ E.val D1 E.val.length q1 19 _ (HR.out.own (i := 0) rfl) rfl (by have := HE.out; omega) HR.out.up.size).mono ?_
  rintro r y7 ⟨h2, rfl, hl, hc⟩
  have HW2 := Lib.hid HR.out
  have HL2 := Lib.hid hl
  replace HL0 := Lib.hid (HL0.out.aside (i := 0) (j := 2) HW0.out rfl rfl (by decide) hc)
  replace HL1 := Lib.hid (HL1.out.aside (i := 0) (j := 1) HW1.out rfl rfl (by decide) hc)
  replace HR := Lib.hid (HR.out.lng (i := 0) rfl hc)
  replace HS := Lib.hid (HR.out.range (i := 0) rfl)
  clear hl hc
  refine ⟨_, rfl, HS.out, ?_⟩
  simp only [Act.put, List.setIfInBounds_toArray, List.set_cons_zero, List.set_cons_succ]
  refine lx_take 9 rfl (by kernel_rfl) (by kernel_rfl) (by kernel_rfl) (fun _ _ _ h => h) (v := ?_) (yi_run rfl (fun w => ?_)) HS.out ?_
  rotate_left
  · first | (go_simp; done) | (go_simp; with_reducible rfl)
  simp only [Act.put, List.setIfInBounds_toArray, List.set_cons_zero, List.set_cons_succ]
  refine lx_take 10 rfl (by kernel_rfl) (by kernel_rfl) (by kernel_rfl) (fun _ _ _ h => h) (v := ?_) (yi_run rfl (fun w => ?_)) HS.out ?_
  rotate_left
  · first | (go_simp; done) | (go_simp; with_reducible rfl)
  simp only [Act.put, List.setIfInBounds_toArray, List.set_cons_zero, List.set_cons_succ]
  refine lx_take 11 rfl (by kernel_rfl) (by kernel_rfl) (by kernel_rfl) (fun _ _ _ h => h) (v := ?_) (yi_run rfl (fun w => ?_)) HS.out ?_
  rotate_left
  · first | (go_simp; done) | (go_simp; with_reducible rfl)
  simp only [Act.put, List.setIfInBounds_toArray, List.set_cons_zero, List.set_cons_succ]
  refine lx_done (by kernel_rfl) ?_
  clear HS
  go_wp2_with (first
    | (go_at_call 37; go_must (refine (unpack_any L Ai nl ci a _ (sl_front ((HX.out.later HR.out.up).sl (n := nl + 75) (i := 0) rfl (by rw [List.length_append, mkL_len, HN.out.1])) HN.out.1) (by have := HN.out; omega)).mono ?_); rw [HP.out]; rintro r y9 ⟨A9, c9, B9, d9, D9, q9, rfl, hr, hb⟩; replace HR := Lib.hid (HR.out.app hb hr); replace HL0 := Lib.hid (HL0.out.later hb); replace HL1 := Lib.hid (HL1.out.later hb); replace HL2 := Lib.hid (HL2.out.later hb); clear hr hb)
    | (refine wpList_store_st rfl 27 (.tmp 7) (.tmp 69) rfl HR.out 0 (g := g1) rfl rfl (entL A9 E.row.length c9 B9 E.qual.length d9 D9 E.val.length q9 E) rfl rfl ent_size (entL_one _ _ _ _ _ _ _ _ _ _) ?_; intro v9 hst hcg; replace HR := Lib.hid hst; replace HL0 := Lib.hid (HL0.out.box (k := 0) (i := 0) HW0.out rfl rfl hcg); replace HL1 := Lib.hid (HL1.out.box (k := 0) (i := 0) HW1.out rfl rfl hcg); replace HL2 := Lib.hid (HL2.out.box (k := 0) (i := 0) HW2.out rfl rfl hcg); clear hst hcg)
    | (refine wpList_load_row7 rfl 27 (.tmp 7) rfl rfl (HR.out.range (i := 0) rfl) ent_row ?_)
    | (refine wpList_load_row7 rfl 27 (.tmp 10) rfl rfl (HR.out.range (i := 1) rfl) ent_row ?_)
    | (go_at_call 17; go_must (refine (sameEntry_any E E A9 E.row.length c9 B9 E.qual.length d9 D9 E.val.length q9 A2 E.row.length c2 B2 E.qual.length d2 D2 E.val.length q2 _ rfl ⟨HR.out.sl (i := 3) rfl rfl, HR.out.sl (i := 4) rfl rfl, HR.out.sl (i := 5) rfl rfl⟩ ⟨HR.out.sl (i := 0) rfl rfl, HR.out.sl (i := 1) rfl rfl, HR.out.sl (i := 2) rfl rfl⟩).mono ?_); rintro r z1 ⟨rfl, hb⟩; replace HR := Lib.hid (HR.out.later hb); replace HL0 := Lib.hid (HL0.out.later hb); replace HL1 := Lib.hid (HL1.out.later hb); replace HL2 := Lib.hid (HL2.out.later hb); clear hb)
    | (go_at_call 18; go_must (refine (intact_any L Ai Ac nl ci cc _ ((HX.out.later HR.out.up).sl (n := nl + 75) (i := 0) rfl (by rw [List.length_append, mkL_len, HN.out.1])) ((HX.out.later HR.out.up).sl (i := 1) rfl HN.out.1).rb (by have := HN.out; omega)).mono ?_); rintro r z2 ⟨rfl, hb⟩; replace HR := Lib.hid (HR.out.later hb); replace HL0 := Lib.hid (HL0.out.later hb); replace HL1 := Lib.hid (HL1.out.later hb); replace HL2 := Lib.hid (HL2.out.later hb); clear hb)
    | (go_at_call 20; have _t := tok6; go_must (refine (full_any A1 E.row.length h0 17 _ HL0.out (by have := HE.out; omega)).mono ?_); rintro r _ ⟨rfl, rfl⟩; clear tok6)
    | (go_at_call 20; have _t := tok7; go_must (refine (full_any B1 E.qual.length h1 18 _ HL1.out (by have := HE.out; omega)).mono ?_); rintro r _ ⟨rfl, rfl⟩; clear tok7)
    | (go_at_call 20; go_must (refine (full_any D1 E.val.length h2 19 _ HL2.out (by have := HE.out; omega)).mono ?_); rintro r _ ⟨rfl, rfl⟩))
  have HF := Lib.hid (HX.out.later HR.out.up)
  go_ret
  exact ⟨rfl, HF.out.up⟩
end Go.Proofs.Ytcikhlieaoanoaa

/-
  The frame of a law's proof, over any program: a law that leaves all old memory as it was meets its row; openers for arguments.
-/
namespace Go.Proofs.Ytcikhlieaoanoaa
open Go.RowKit Go.WideShapes Go.ChangeShapes Go.Joins Go.Deep

section
variable {H : Type} {enc : TypeId × Value → H} {P : Program}

theorem trodAll_below (hl : laidOutB P = true) {W W' : World} {sp : Nat → Bool} : ∀ (ts : List TypeId) (vs : List Value) (ds : List (DataW H)) (ps : List MemPlace),
    (∀ t ∈ ts, P.readableRec t = true ∧ t < P.types.size) → DataW.TrodAll enc P W 0 (fun _ => true) true ts vs ds ps → (∀ p ∈ ps, W.sameAt W' p) → (∀ p ∈ ps, sp p.block = true) →
    DataW.TrodAll enc P W' 0 sp true ts vs ds ps
  | [], [], [], ps, _, h, _, _ => h
  | t :: ts, v :: vs, d :: ds, ps, hr, h, hs, hp => by
    obtain ⟨p, q, h1, h2, rfl⟩ := h
    refine ⟨p, q, WideElems.Trod_stays hl (hr t (by simp)).1 (hr t (by simp)).2 h1 (fun x hx => hs x (by simp [hx])) (fun x hx => hp x (by simp [hx])), ?_, rfl⟩
    exact trodAll_below hl ts vs ds q (fun t ht => hr t (by simp [ht])) h2 (fun x hx => hs x (by simp [hx])) (fun x hx => hp x (by simp [hx]))
  | [], _ :: _, _, _, _, h, _, _ => h.elim
  | [], [], _ :: _, _, _, h, _, _ => h.elim
  | _ :: _, [], _, _, _, h, _, _ => h.elim
  | _ :: _, _ :: _, [], _, _, h, _, _ => h.elim

/-- A law that has returned true and left all that was there meets its row. -/
theorem law_post {f : Func} {s : ChangeSpec} {apart fresh handsOn again : Bool} {W W' : World} {args : Array Value} {ds gs : List (DataW H)} {before : List MemPlace} {tb : TypeId}
    (hl : laidOutB P = true) (hr : ∀ t ∈ f.params.toList, P.readableRec t = true ∧ t < P.types.size) (hv : s.vars = [])
    (hW : DataW.Whole enc P f.params.toList s.vars apart W args.toList ds gs before) (hres : f.resultTypes = #[tb]) (htb : P.underlying tb = some .bool)
    (hfn : s.fn H (ds ++ gs) = { results := [.lit (.bool true)], args := ds }) (hb : Below W.heap.size W W') :
    s.post enc P f apart fresh handsOn again W args (.bool true) W' := by
  have hlt : ∀ p ∈ before, p.block < W.heap.size := fun p hp => hW.lt p hp
  obtain ⟨p, q, hA, hV, hpq, hz, hn⟩ := hW
  have hq : gs = [] ∧ q = [] := by rw [hv] at hV; exact trodVars_none hV
  obtain ⟨rfl, rfl⟩ := hq
  rw [List.append_nil] at hpq
  subst hpq
  have hold : ∀ x ∈ before, (fun b => decide (b < W.heap.size)) x.block = true := fun x hx => by simpa using hlt x hx
  have hargs : ∀ sp : Nat → Bool, (∀ x ∈ before, sp x.block = true) → DataW.TrodAll enc P W' 0 sp true f.params.toList args.toList ds before := fun sp hsp =>
    trodAll_below hl _ _ _ _ hr hA (fun x hx => hb.same (hlt x hx)) hsp
  have hvars : ∀ sp : Nat → Bool, DataW.TrodVars enc P W' sp s.vars (s.fn H (ds ++ [])).vars [] := fun sp => by rw [hv, hfn]; rfl
  have hresv : ∀ (b : Nat) (sp : Nat → Bool) (hd : Bool), DataW.TrodAll enc P W' b sp hd f.resultTypes.toList ((Value.bool true).resultList f.resultTypes.size) (s.fn H (ds ++ [])).results [] := by
    intro b sp hd
    rw [hfn, hres]
    exact trodAll_mk1 (shut_bool htb true)
  have hargs' : ∀ sp : Nat → Bool, (∀ x ∈ before, sp x.block = true) → DataW.TrodAll enc P W' 0 sp true f.params.toList args.toList (s.fn H (ds ++ [])).args before := fun sp hsp => by rw [hfn]; exact hargs sp hsp
  refine ⟨ds, [], before, [], before, [], ⟨before, [], hA, hV, by simp, hz, hn⟩, hresv _ _ _, hargs' _ hold, hvars _, World.keptBut_mono (fun x hx => ⟨hx, Or.inr (Or.inl hx)⟩) (hb.frame (· ∈ before)), fun _ => ?_⟩
  refine ⟨?_, _, _, ([] ++ before) ++ [], ⟨[] ++ before, [], trodAll_append (hargs' _ (fun _ _ => rfl)) (hresv _ _ _), hvars _, rfl, ?_, ?_⟩, ?_⟩
  · exact ok_one hres rfl (okWide_bool_mk htb true)
  · intro b off hp
    have hin : MemPlace.cell b off ∈ before := by simpa using hp
    rw [hb.frozen (hlt _ hin)]
    exact hz b off hin
  · intro ha
    have := hn ha
    simpa using this
  · intro x hx _
    simpa using hx

end

theorem list_of {α : Type} {Q : Nat → α → Prop} : ∀ (n : Nat), (∀ i, i < n → ∃ x, Q i x) → ∃ l : List α, l.length = n ∧ ∀ i x, l[i]? = some x → Q i x
  | 0, _ => ⟨[], rfl, fun i x h => by simp at h⟩
  | n + 1, h => by
    obtain ⟨l, hl, hq⟩ := list_of n (fun i hi => h i (by omega))
    obtain ⟨x, hx⟩ := h n (by omega)
    refine ⟨l ++ [x], by simp [hl], fun i y hy => ?_⟩
    rcases Nat.lt_or_ge i n with hi | hi
    · rw [List.getElem?_append_left (by omega)] at hy
      exact hq i y hy
    · have : i = n := by
        have := (List.getElem?_eq_some_iff.1 hy).1
        simp [hl] at this; omega
      subst this
      rw [List.getElem?_append_right (by omega)] at hy
      simp [hl] at hy
      subst hy; exact hx

theorem addr_add (a : Addr) (j : Nat) (ha : a.spot = none) : a.add j = ⟨a.block, a.off + j, none⟩ := by
  obtain ⟨b, o, sp⟩ := a
  simp at ha; subst ha
  unfold Addr.add
  split
  · rename_i h; subst h; rfl
  · rfl
theorem spot_none {w : World} {a : Addr} {v : Value} (h : w.cell? a = some v) : a.spot = none := by
  unfold World.cell? at h
  split at h
  · split at h
    · cases h
    · rename_i h'; simpa using h'
  · cases h

/-- Cells in a row at an address that came in: the slice reads. -/
theorem reads_of {w : World} {size n : Nat} {a : Addr} {xs : List Value} (hl : xs.length = n * size) (hs : 0 < size) (h : ∀ j u, xs[j]? = some u → w.cell? (a.add j) = some u) : Reads w w.heap.size size (some a) n xs := by
  refine ⟨hl, fun hn => ?_⟩
  have h0 : 0 < xs.length := by rw [hl]; exact Nat.mul_pos hn hs
  have hc := h 0 _ (List.getElem?_eq_getElem h0)
  have e0 : a.add 0 = a := by simp [Addr.add]
  rw [e0] at hc
  have hsp := spot_none hc
  refine ⟨a.block, a.off, by obtain ⟨b, o, sp⟩ := a; simp at hsp; subst hsp; rfl, World.block_lt_of_cell? w a hc, fun j u hu => ?_⟩
  rw [← addr_add a j hsp]
  exact h j u hu

section
variable {H : Type} {enc : TypeId × Value → H} {P : Program} {w : World} {base : Nat} {spare : Nat → Bool} {held : Bool}
theorem open_agg1 {r : Reach} {b0 : Nat} {t : TypeId} {f0 : Field} {v : Value} {d : DataW H} {p : List MemPlace} (hs : P.underlying t = some (.struct #[f0])) (hone : oneCellFields P #[f0] = true) (hC : P.cellsOf t = 1)
    (hv : Value.okWide P w r b0 t v) (h : DataW.Trod enc P w base spare held t v d p) :
    ∃ (v0 : Value) (y0 : DataW H × List MemPlace) (n : Nat), v = .agg #[v0] ∧ d = .agg [y0.1] ∧ p = y0.2 ∧ DataW.trod enc P w base spare held n f0.type [v0] = some y0 := by
  obtain ⟨cs, rfl, hsz⟩ := okWide_struct hs hv
  obtain ⟨l⟩ := cs
  match l, hsz.trans hC with
  | [c0], _ =>
    obtain ⟨fuel, hf⟩ := h
    obtain ⟨xs, n, _, hx, _, hlen, hg⟩ := DataW.trod_struct hs hf
    obtain ⟨o0, k0⟩ := hone_of hone 0 f0 rfl
    match xs, hlen with
    | [y0], _ =>
      simp only [Prod.mk.injEq] at hx
      exact ⟨c0, y0, n, rfl, by simpa using hx.1, by simpa using hx.2, by simpa [Value.cells, o0, k0] using hg 0 f0 rfl⟩
end

section
variable {H : Type} {enc : TypeId × Value → H} {P : Program} {w : World} {base : Nat} {spare : Nat → Bool} {held : Bool}
theorem open_slice_fields {t e : TypeId} {fs : Array Field} {fuel : Nat} {cs : List Value} {x : DataW H × List MemPlace} (ht : P.underlying t = some (.slice e)) (he : P.underlying e = some (.struct fs))
    (hone : oneCellFields P fs = true) (hC : P.cellsOf e = fs.size) (h : DataW.trod enc P w base spare held fuel t cs = some x) :
    (cs = [.slice none 0 0] ∧ x = (.nil, [])) ∨
    ∃ (a : Addr) (len cap m : Nat) (D : Nat → DataW H) (Pl : Nat → List MemPlace), cs = [.slice (some a) len cap] ∧ base ≤ a.block ∧ len ≤ cap ∧ cap ≤ maxLen ∧ m = (if spare a.block then cap else len) ∧
      x = (.slice ((List.range len).map D) ((List.range (m - len)).map fun j => D (len + j)), MemPlace.row a (m * fs.size) ++ (List.range m).flatMap Pl) ∧
      ∀ i, i < m → ∃ (ys : List (DataW H × List MemPlace)) (n : Nat), D i = .agg (ys.map (·.1)) ∧ Pl i = ys.flatMap (·.2) ∧ ys.length = fs.size ∧
        ∀ (j : Nat) (f : Field), fs[j]? = some f → ∃ (v : Value) (y : DataW H × List MemPlace), w.cell? (a.add (i * fs.size + j)) = some v ∧ ys[j]? = some y ∧ DataW.trod enc P w base spare held n f.type [v] = some y := by
  rcases open_slice ht h with h0 | ⟨a, len, cap, m, n, D, Pl, hcs, hb, hl, hm, hmm, hx, hi⟩
  · exact .inl h0
  · refine .inr ⟨a, len, cap, m, D, Pl, hcs, hb, hl, hm, hmm, by rw [hC] at hx; exact hx, fun i him => ?_⟩
    obtain ⟨cs', hc, ht'⟩ := hi i him
    rw [hC] at hc
    obtain ⟨ys, n', hn', hy, hlen, hyl, hf⟩ := DataW.trod_struct he ht'
    obtain ⟨_, hcl, hat⟩ := World.cells?_some hc
    simp only [Prod.mk.injEq] at hy
    refine ⟨ys, n', hy.1, hy.2, hyl, fun j f hj => ?_⟩
    obtain ⟨ho, hk⟩ := hone_of hone j f hj
    have hjl : j < fs.size := (Array.getElem?_eq_some_iff.1 hj).1
    have hcell := hat j hjl
    have hv : cs'[j]? = some (cs'[j]'(by omega)) := List.getElem?_eq_getElem (by omega)
    have h1 := hf j f hj
    rw [ho, hk] at h1
    have hone' : (cs'.drop j).take 1 = [cs'[j]'(by omega)] := by
      rw [List.drop_eq_getElem_cons (by omega)]
      rfl
    rw [hone'] at h1
    have hys : ys[j]? = some (ys[j]'(by omega)) := List.getElem?_eq_getElem (by omega)
    refine ⟨_, _, ?_, hys, h1.trans hys⟩
    rw [← Go.Deep.add_add, hcell, hv]
end

end Go.Proofs.Ytcikhlieaoanoaa

/-
  Openers for arguments: bytes, lists of bytes. Over any program.
-/
namespace Go.Proofs.Ytcikhlieaoanoaa
open Go.RowKit Go.WideShapes Go.ChangeShapes Go.Joins Go.Deep

section
variable {H : Type} {enc : TypeId × Value → H} {P : Program} {w : World} {base : Nat} {spare : Nat → Bool} {held : Bool}
theorem open_bytes {t e : TypeId} {fuel : Nat} {cs : List Value} {x : DataW H × List MemPlace} (ht : P.underlying t = some (.slice e)) (he : P.underlying e = some (.int .u8)) (hC : P.cellsOf e = 1)
    (h : DataW.trod enc P w base spare held fuel t cs = some x) :
    ∃ (A : Option Addr) (c : Nat) (l : List UInt8), cs = [.slice A l.length c] ∧ l.length ≤ c ∧ c ≤ 9223372036854775807 ∧ (A = none → c = 0) ∧ RB w w.heap.size A l.length l := by
  rcases open_slice1 ht hC h with ⟨rfl, _⟩ | ⟨a, len, cap, m, n, V, D, Pl, rfl, _, hl, hm, hmm, _, hi⟩
  · exact ⟨none, 0, [], rfl, by simp, by omega, fun _ => rfl, RB.nil⟩
  · have hlm : len ≤ m := by rw [hmm]; split <;> omega
    obtain ⟨l, hll, hq⟩ := list_of (Q := fun i (b : UInt8) => w.cell? (a.add i) = some (.int .u8 (b.toNat : Int))) len (fun i hi' => by
      obtain ⟨h1, h2⟩ := hi i (by omega)
      obtain ⟨v, e0, _, hw⟩ := DataW.trod_int he h2
      injection e0 with e0 _
      have hw : 0 ≤ v ∧ v ≤ 255 := by
        simp [Lit.wf, IntKind.min, IntKind.max, IntKind.signed, IntKind.bits] at hw
        omega
      refine ⟨UInt8.ofNat v.toNat, ?_⟩
      rw [h1, e0, UInt8.toNat_ofNat', Nat.mod_eq_of_lt (by omega), Int.toNat_of_nonneg hw.1])
    subst hll
    exact ⟨some a, cap, l, rfl, hl, hm, (fun e => nomatch e), reads_of (by simp [u8s_length]) (by decide) fun j u hu => by
      simp only [u8s, List.getElem?_map, Option.map_eq_some_iff] at hu
      obtain ⟨b, hb, rfl⟩ := hu
      exact hq j b hb⟩

theorem open_keys {t t1 e : TypeId} {fuel : Nat} {cs : List Value} {x : DataW H × List MemPlace} (ht : P.underlying t = some (.slice t1)) (ht1 : P.underlying t1 = some (.slice e)) (he : P.underlying e = some (.int .u8)) (hC1 : P.cellsOf t1 = 1) (hC : P.cellsOf e = 1)
    (h : DataW.trod enc P w base spare held fuel t cs = some x) :
    ∃ (A : Option Addr) (c : Nat) (ks : List (List UInt8)), cs = [.slice A ks.length c] ∧ ks.length ≤ c ∧ c ≤ 9223372036854775807 ∧ (A = none → c = 0) ∧ RBs w w.heap.size A ks.length ks := by
  rcases open_slice1 ht hC1 h with ⟨rfl, _⟩ | ⟨a, len, cap, m, n, V, D, Pl, rfl, _, hl, hm, hmm, _, hi⟩
  · exact ⟨none, 0, [], rfl, by simp, by omega, fun _ => rfl, KV.nil.rbs Reads.nil⟩
  · have hlm : len ≤ m := by rw [hmm]; split <;> omega
    obtain ⟨ps, hpl, hq⟩ := list_of (Q := fun i (p : Value × List UInt8) => w.cell? (a.add i) = some p.1 ∧ ∃ (A : Option Addr) (c : Nat), p.1 = .slice A p.2.length c ∧ p.2.length ≤ c ∧ c ≤ 9223372036854775807 ∧ (A = none → c = 0) ∧ RB w w.heap.size A p.2.length p.2) len (fun i hi' => by
      obtain ⟨h1, h2⟩ := hi i (by omega)
      obtain ⟨A, c, l, e0, q1, q2, q3, q4⟩ := open_bytes ht1 he hC h2
      injection e0 with e0 _
      exact ⟨(V i, l), h1, A, c, e0, q1, q2, q3, q4⟩)
    subst hpl
    refine ⟨some a, cap, ps.map (·.2), by simp, by simpa using hl, hm, (fun e => nomatch e), ?_⟩
    have hk : KV w w.heap.size (ps.map (·.1)) (ps.map (·.2)) := by
      refine ⟨by simp, fun i k hk => ?_⟩
      rw [List.getElem?_map, Option.map_eq_some_iff] at hk
      obtain ⟨p, hp, rfl⟩ := hk
      obtain ⟨_, A, c, e1, q⟩ := hq i p hp
      exact ⟨A, c, by rw [List.getElem?_map, hp, Option.map_some, e1], q⟩
    refine hk.rbs (reads_of (by simp) (by decide) fun j u hu => ?_)
    rw [List.getElem?_map, Option.map_eq_some_iff] at hu
    obtain ⟨p, hp, rfl⟩ := hu
    exact (hq j p hp).1
/-- The same, an argument's value. -/
theorem open_slice_top {r : Reach} {b0 : Nat} {t e : TypeId} {v : Value} {d : DataW H} {ps : List MemPlace} (ht : P.underlying t = some (.slice e)) (hval : Value.okWide P w r b0 t v) (h : DataW.Trod enc P w base spare held t v d ps) :
    ∃ fuel, DataW.trod enc P w base spare held fuel t [v] = some (d, ps) := by
  obtain ⟨a, n, c, rfl⟩ := okWide_slice ht hval
  obtain ⟨fuel, hf⟩ := h
  exact ⟨fuel, hf⟩
theorem open_bytes_top {r : Reach} {b0 : Nat} {t e : TypeId} {v : Value} {d : DataW H} {ps : List MemPlace} (ht : P.underlying t = some (.slice e)) (he : P.underlying e = some (.int .u8)) (hC : P.cellsOf e = 1)
    (hval : Value.okWide P w r b0 t v) (h : DataW.Trod enc P w base spare held t v d ps) :
    ∃ (A : Option Addr) (c : Nat) (l : List UInt8), v = .slice A l.length c ∧ l.length ≤ c ∧ c ≤ 9223372036854775807 ∧ (A = none → c = 0) ∧ RB w w.heap.size A l.length l := by
  obtain ⟨fuel, hf⟩ := open_slice_top ht hval h
  obtain ⟨A, c, l, h1, h2⟩ := open_bytes ht he hC hf
  injection h1 with h1
  exact ⟨A, c, l, h1, h2⟩
theorem open_keys_top {r : Reach} {b0 : Nat} {t t1 e : TypeId} {v : Value} {d : DataW H} {ps : List MemPlace} (ht : P.underlying t = some (.slice t1)) (ht1 : P.underlying t1 = some (.slice e)) (he : P.underlying e = some (.int .u8)) (hC1 : P.cellsOf t1 = 1) (hC : P.cellsOf e = 1)
    (hval : Value.okWide P w r b0 t v) (h : DataW.Trod enc P w base spare held t v d ps) :
    ∃ (A : Option Addr) (c : Nat) (ks : List (List UInt8)), v = .slice A ks.length c ∧ ks.length ≤ c ∧ c ≤ 9223372036854775807 ∧ (A = none → c = 0) ∧ RBs w w.heap.size A ks.length ks := by
  obtain ⟨fuel, hf⟩ := open_slice_top ht hval h
  obtain ⟨A, c, ks, h1, h2⟩ := open_keys ht ht1 he hC1 hC hf
  injection h1 with h1
  exact ⟨A, c, ks, h1, h2⟩
end

end Go.Proofs.Ytcikhlieaoanoaa

/-
  What the bound on the arguments gives: lengths of bytes and of lists of bytes.
-/
namespace Go.Proofs.Ytcikhlieaoanoaa
open Go.RowKit Go.WideShapes Go.ChangeShapes Go.Joins Go.Deep

theorem bulk_one {H : Type} (d : DataW H) : 1 ≤ Rows.uptoBulk d := by
  cases d with
  | lit l => cases l <;> simp [Rows.uptoBulk]
  | nil => simp [Rows.uptoBulk]
  | ptr d => simp [Rows.uptoBulk]
  | slice elems spare => simp [Rows.uptoBulk]
  | agg parts => simp [Rows.uptoBulk]
  | iface t d => simp [Rows.uptoBulk]
  | map entries => simp [Rows.uptoBulk]
  | held h => simp [Rows.uptoBulk]
theorem bulk_app {H : Type} (l r : List (DataW H)) : Rows.uptoBulkAll (l ++ r) = Rows.uptoBulkAll l + Rows.uptoBulkAll r := by
  induction l with
  | nil => simp [Rows.uptoBulkAll]
  | cons x l ih => simp only [List.cons_append, Rows.uptoBulkAll, ih]; omega
theorem bulk_len {H : Type} (l : List (DataW H)) : l.length ≤ Rows.uptoBulkAll l := by
  induction l with
  | nil => simp [Rows.uptoBulkAll]
  | cons x r ih => have := bulk_one x; simp only [Rows.uptoBulkAll, List.length_cons]; omega
theorem bulk_range {H : Type} (D : Nat → DataW H) (g : Nat → Nat) (n : Nat) (h : ∀ i, i < n → g i ≤ Rows.uptoBulk (D i)) : ((List.range n).map g).sum ≤ Rows.uptoBulkAll ((List.range n).map D) := by
  induction n with
  | zero => simp
  | succ n ih =>
    have h1 := ih fun i hi => h i (by omega)
    have h2 := h n (by omega)
    rw [List.range_succ, List.map_append, List.map_append, List.sum_append, bulk_app]
    simp only [List.map_cons, List.map_nil, List.sum_cons, List.sum_nil, Rows.uptoBulkAll]
    omega

section
variable {H : Type} {enc : TypeId × Value → H} {P : Program} {w : World} {base : Nat} {held : Bool}
theorem upto_bytes {t e : TypeId} {fuel : Nat} {cs : List Value} {x : DataW H × List MemPlace} (ht : P.underlying t = some (.slice e)) (he : P.underlying e = some (.int .u8)) (hC : P.cellsOf e = 1)
    (h : DataW.trod enc P w base (fun _ => true) held fuel t cs = some x) :
    ∃ (A : Option Addr) (c : Nat) (l : List UInt8), cs = [.slice A l.length c] ∧ Sl w A l.length c l ∧ c + 1 ≤ Rows.uptoBulk x.1 := by
  obtain ⟨A, c, l, h1, h2, h3, h4, h5⟩ := open_bytes ht he hC h
  refine ⟨A, c, l, h1, ⟨h5, h2, h3, h4⟩, ?_⟩
  rcases open_slice1 ht hC h with ⟨rfl, rfl⟩ | ⟨a, len, cap, m, n, V, D, Pl, rfl, _, hl, hm, hmm, hx, hi⟩
  · injection h1 with h1
    injection h1 with _ _ h1
    subst h1
    simp [Rows.uptoBulk]
  · injection h1 with h1
    injection h1 with _ _ h1
    subst h1
    rw [if_pos rfl] at hmm
    subst hmm
    rw [hx]
    simp only [Rows.uptoBulk]
    have e1 := bulk_len (H := H) ((List.range len).map D)
    have e2 := bulk_len (H := H) ((List.range (m - len)).map fun j => D (len + j))
    simp only [List.length_map, List.length_range] at e1 e2
    omega

theorem flat_sum {α : Type} (ks : List (List α)) : ks.flatten.length + ks.length = ((List.range ks.length).map fun i => (ks[i]?.getD []).length + 1).sum := by
  induction ks with
  | nil => rfl
  | cons k ks ih =>
    rw [List.length_cons, List.range_succ_eq_map, List.map_cons, List.sum_cons, List.map_map]
    have : ((fun i => ((k :: ks)[i]?.getD []).length + 1) ∘ Nat.succ) = fun i => (ks[i]?.getD []).length + 1 := by
      funext i; simp
    rw [this, ← ih, List.flatten_cons, List.length_append]
    simp only [List.getElem?_cons_zero, Option.getD_some]
    omega

theorem upto_keys {t t1 e : TypeId} {fuel : Nat} {cs : List Value} {x : DataW H × List MemPlace} (ht : P.underlying t = some (.slice t1)) (ht1 : P.underlying t1 = some (.slice e)) (he : P.underlying e = some (.int .u8)) (hC1 : P.cellsOf t1 = 1) (hC : P.cellsOf e = 1)
    (h : DataW.trod enc P w base (fun _ => true) held fuel t cs = some x) :
    ∃ (A : Option Addr) (c : Nat) (ks : List (List UInt8)), cs = [.slice A ks.length c] ∧ ks.length ≤ c ∧ c ≤ 9223372036854775807 ∧ (A = none → c = 0) ∧ RBs w w.heap.size A ks.length ks ∧ ks.flatten.length + c + 1 ≤ Rows.uptoBulk x.1 := by
  rcases open_slice1 ht hC1 h with ⟨rfl, rfl⟩ | ⟨a, len, cap, m, n, V, D, Pl, rfl, _, hl, hm, hmm, hx, hi⟩
  · exact ⟨none, 0, [], rfl, by simp, by omega, fun _ => rfl, KV.nil.rbs Reads.nil, by simp [Rows.uptoBulk]⟩
  · rw [if_pos rfl] at hmm
    subst hmm
    obtain ⟨ps, hpl, hq⟩ := list_of (Q := fun i (p : Value × List UInt8) => w.cell? (a.add i) = some p.1 ∧ (∃ (A : Option Addr) (c : Nat), p.1 = .slice A p.2.length c ∧ p.2.length ≤ c ∧ c ≤ 9223372036854775807 ∧ (A = none → c = 0) ∧ RB w w.heap.size A p.2.length p.2) ∧ p.2.length + 1 ≤ Rows.uptoBulk (D i)) len (fun i hi' => by
      obtain ⟨h1, h2⟩ := hi i (by omega)
      obtain ⟨A, c, l, e0, q1, q2⟩ := upto_bytes ht1 he hC h2
      injection e0 with e0 _
      exact ⟨(V i, l), h1, ⟨A, c, e0, q1.cap, q1.lim, q1.nil, q1.rb⟩, by have h9 := q1.cap; have h8 : c + 1 ≤ Rows.uptoBulk (D i) := q2; exact Nat.le_trans (Nat.add_le_add_right h9 1) h8⟩)
    subst hpl
    have hk : KV w w.heap.size (ps.map (·.1)) (ps.map (·.2)) := by
      refine ⟨by simp, fun i k hk => ?_⟩
      rw [List.getElem?_map, Option.map_eq_some_iff] at hk
      obtain ⟨p, hp, rfl⟩ := hk
      obtain ⟨_, ⟨A, c, e1, q⟩, _⟩ := hq i p hp
      exact ⟨A, c, by rw [List.getElem?_map, hp, Option.map_some, e1], q⟩
    refine ⟨some a, m, ps.map (·.2), by simp, by simpa using hl, hm, (fun e => nomatch e), hk.rbs (reads_of (by simp) (by decide) fun j u hu => ?_), ?_⟩
    · rw [List.getElem?_map, Option.map_eq_some_iff] at hu
      obtain ⟨p, hp, rfl⟩ := hu
      exact (hq j p hp).1
    · rw [hx]
      simp only [Rows.uptoBulk]
      have e1 := bulk_range D (fun i => ((ps.map (·.2))[i]?.getD []).length + 1) ps.length fun i hi' => by
        have hp : ps[i]? = some ps[i] := List.getElem?_eq_getElem hi'
        have := (hq i _ hp).2.2
        rw [List.getElem?_map, hp]
        exact this
      have e2 := bulk_len (H := H) ((List.range (m - ps.length)).map fun j => D (ps.length + j))
      simp only [List.length_map, List.length_range] at e2
      have e3 := flat_sum (ps.map (·.2))
      rw [List.length_map] at e3
      omega

theorem upto_bytes_top {r : Reach} {b0 : Nat} {t e : TypeId} {v : Value} {d : DataW H} {ps : List MemPlace} (ht : P.underlying t = some (.slice e)) (he : P.underlying e = some (.int .u8)) (hC : P.cellsOf e = 1)
    (hval : Value.okWide P w r b0 t v) (h : DataW.Trod enc P w base (fun _ => true) held t v d ps) :
    ∃ (A : Option Addr) (c : Nat) (l : List UInt8), v = .slice A l.length c ∧ Sl w A l.length c l ∧ c + 1 ≤ Rows.uptoBulk d := by
  obtain ⟨fuel, hf⟩ := open_slice_top ht hval h
  obtain ⟨A, c, l, h1, h2⟩ := upto_bytes ht he hC hf
  injection h1 with h1
  exact ⟨A, c, l, h1, h2⟩
theorem upto_keys_top {r : Reach} {b0 : Nat} {t t1 e : TypeId} {v : Value} {d : DataW H} {ps : List MemPlace} (ht : P.underlying t = some (.slice t1)) (ht1 : P.underlying t1 = some (.slice e)) (he : P.underlying e = some (.int .u8)) (hC1 : P.cellsOf t1 = 1) (hC : P.cellsOf e = 1)
    (hval : Value.okWide P w r b0 t v) (h : DataW.Trod enc P w base (fun _ => true) held t v d ps) :
    ∃ (A : Option Addr) (c : Nat) (ks : List (List UInt8)), v = .slice A ks.length c ∧ ks.length ≤ c ∧ c ≤ 9223372036854775807 ∧ (A = none → c = 0) ∧ RBs w w.heap.size A ks.length ks ∧ ks.flatten.length + c + 1 ≤ Rows.uptoBulk d := by
  obtain ⟨fuel, hf⟩ := open_slice_top ht hval h
  obtain ⟨A, c, ks, h1, h2⟩ := upto_keys ht ht1 he hC1 hC hf
  injection h1 with h1
  exact ⟨A, c, ks, h1, h2⟩
end
end Go.Proofs.Ytcikhlieaoanoaa

/-
  An entry as an argument, opened.
-/
namespace Go.Proofs.Ytcikhlieaoanoaa
open Go.RowKit Go.WideShapes Go.ChangeShapes Go.Joins Go.Deep

section
variable {H : Type} {enc : TypeId × Value → H} {w : World} {base : Nat} {spare : Nat → Bool} {held : Bool}
theorem sl_of {A : Option Addr} {c : Nat} {l : List UInt8} (h1 : l.length ≤ c) (h2 : c ≤ 9223372036854775807) (h3 : A = none → c = 0) (h4 : RB w w.heap.size A l.length l) : Sl w A l.length c l := ⟨h4, h1, h2, h3⟩
set_option maxRecDepth 100000 in
theorem open_entry {r : Reach} {b0 : Nat} {v : Value} {d : DataW H} {ps : List MemPlace} (hval : Value.okWide Try.prog w r b0 27 v) (h : DataW.Trod enc Try.prog w base spare held 27 v d ps) :
    ∃ (A : Option Addr) (n c : Nat) (B : Option Addr) (m z : Nat) (D : Option Addr) (y q : Nat) (e : Ent), v = entV A n c B m z D y q e ∧ En w A n c B m z D y q e := by
  obtain ⟨cs, rfl, hsz⟩ := okWide_struct Try.underlying27 hval
  obtain ⟨fuel, hf⟩ := h
  have hC : Try.prog.cellsOf 27 = 7 := by kernel_rfl
  have hB : Try.prog.cellsOf 22 = 1 := by kernel_rfl
  have hI : Try.prog.cellsOf 3 = 1 := by kernel_rfl
  have hU : Try.prog.cellsOf 5 = 1 := by kernel_rfl
  rw [hC] at hsz
  obtain ⟨l⟩ := cs
  match l, hsz with
  | [v0, v1, v2, v3, v4, v5, v6], _ =>
    obtain ⟨xs, k, rfl, _, _, hlen, hi⟩ := DataW.trod_struct Try.underlying27 hf
    match xs, hlen with
    | [x0, x1, x2, x3, x4, x5, x6], _ =>
      have t0 : DataW.trod enc Try.prog w base spare held k 22 (([v0, v1, v2, v3, v4, v5, v6].drop 0).take (Try.prog.cellsOf 22)) = some x0 := hi 0 _ rfl
      have t1 : DataW.trod enc Try.prog w base spare held k 3 (([v0, v1, v2, v3, v4, v5, v6].drop 1).take (Try.prog.cellsOf 3)) = some x1 := hi 1 _ rfl
      have t2 : DataW.trod enc Try.prog w base spare held k 22 (([v0, v1, v2, v3, v4, v5, v6].drop 2).take (Try.prog.cellsOf 22)) = some x2 := hi 2 _ rfl
      have t3 : DataW.trod enc Try.prog w base spare held k 3 (([v0, v1, v2, v3, v4, v5, v6].drop 3).take (Try.prog.cellsOf 3)) = some x3 := hi 3 _ rfl
      have t4 : DataW.trod enc Try.prog w base spare held k 3 (([v0, v1, v2, v3, v4, v5, v6].drop 4).take (Try.prog.cellsOf 3)) = some x4 := hi 4 _ rfl
      have t5 : DataW.trod enc Try.prog w base spare held k 3 (([v0, v1, v2, v3, v4, v5, v6].drop 5).take (Try.prog.cellsOf 3)) = some x5 := hi 5 _ rfl
      have t6 : DataW.trod enc Try.prog w base spare held k 22 (([v0, v1, v2, v3, v4, v5, v6].drop 6).take (Try.prog.cellsOf 22)) = some x6 := hi 6 _ rfl
      rw [hB] at t0 t2 t6
      rw [hI] at t1 t3 t4 t5
      obtain ⟨A, c, l0, e0, p1, p2, p3, p4⟩ := open_bytes Try.underlying22 Try.underlying5 hU t0
      obtain ⟨B, z, l2, e2, q1, q2, q3, q4⟩ := open_bytes Try.underlying22 Try.underlying5 hU t2
      obtain ⟨D, q, l6, e6, s1, s2, s3, s4⟩ := open_bytes Try.underlying22 Try.underlying5 hU t6
      obtain ⟨i1, e1, _, _⟩ := DataW.trod_int Try.underlying3 t1
      obtain ⟨i3, e3, _, _⟩ := DataW.trod_int Try.underlying3 t3
      obtain ⟨i4, e4, _, _⟩ := DataW.trod_int Try.underlying3 t4
      obtain ⟨i5, e5, _, _⟩ := DataW.trod_int Try.underlying3 t5
      injection e0 with e0 _; injection e1 with e1 _; injection e2 with e2 _; injection e3 with e3 _; injection e4 with e4 _; injection e5 with e5 _; injection e6 with e6 _
      have e0 : v0 = _ := e0
      have e1 : v1 = _ := e1
      have e2 : v2 = _ := e2
      have e3 : v3 = _ := e3
      have e4 : v4 = _ := e4
      have e5 : v5 = _ := e5
      have e6 : v6 = _ := e6
      subst e0 e1 e2 e3 e4 e5 e6
      exact ⟨A, l0.length, c, B, l2.length, z, D, l6.length, q, ⟨l0, i1, l2, i3, i4, i5, l6⟩, rfl, ⟨sl_of p1 p2 p3 p4, sl_of q1 q2 q3 q4, sl_of s1 s2 s3 s4⟩⟩
end
end Go.Proofs.Ytcikhlieaoanoaa

/-
  CellRows walked. (Printed by gen_rows.py.)
-/
namespace Go.Proofs.Ytcikhlieaoanoaa
open Go.RowKit

theorem start_len (L : List UInt8) : (StartE L).1.length ≤ 1000 := by
  unfold StartE
  split
  · simp
  · have := ordB_len L; simp only; omega
theorem behind_len (L : List UInt8) : (BehindE L).1.length ≤ 1000 := by
  unfold BehindE
  split
  · simp
  · have := ordB_len L; simp only [List.length_append, List.length_singleton]; omega
theorem key_len (e : Ent) : (KeyE e).1.length ≤ 1048 := by
  unfold KeyE
  split
  · rename_i h; exact keyE_len (ok_of h)
  · simp
theorem behind_same (L : List UInt8) : (BehindE L).2 = (StartE L).2 := by unfold BehindE StartE; split <;> rfl
theorem start_ok {L : List UInt8} (h : (StartE L).2 = 0) : (StartE L).1 = ordB L := by
  unfold StartE at *
  split at h
  · cases h
  · rename_i hn; rw [if_neg hn]
theorem behind_ok {L : List UInt8} (h : (StartE L).2 = 0) : (BehindE L).1 = ordB L ++ [255] := by
  unfold StartE at h
  unfold BehindE
  split at h
  · cases h
  · rename_i hn; rw [if_neg hn]
theorem key_ok {e : Ent} (h : (KeyE e).2 = 0) : OkE e := by
  unfold KeyE at h
  split at h
  · rename_i hz; exact ok_of hz
  · rename_i hz; exact absurd h hz
theorem key_is {e : Ent} (h : (KeyE e).2 = 0) : (KeyE e).1 = keyE e := by
  unfold KeyE at *
  split at h
  · rename_i hz; rw [if_pos hz]
  · rename_i hz; exact absurd h hz
theorem rows_facts {e : Ent} (h : OkE e) (d : List UInt8) : ((e.row == d) = true → (ordB d).length ≤ (keyE e).length ∧ ((keyE e).take (ordB d).length == ordB d) = true ∧ cmpB (ordB d) (keyE e) ≤ 0 ∧ cmpB (keyE e) (ordB d ++ [255]) < 0) ∧
    ((e.row == d) = false → ((ordB d).length ≤ (keyE e).length → ((keyE e).take (ordB d).length == ordB d) = false) ∧ (cmpB (ordB d) (keyE e) ≤ 0 → 0 ≤ cmpB (keyE e) (ordB d ++ [255]))) := by
  obtain ⟨h1, h2⟩ := rows_law h d
  unfold begB at h1
  refine ⟨fun he => ?_, fun he => ?_⟩
  · have he : e.row = d := by simpa using he
    rw [decide_eq_true he] at h1 h2
    simp only [Bool.and_eq_true, decide_eq_true_eq, beq_iff_eq] at h1 h2
    exact ⟨h1.1, by rw [← h1.2]; simp, h2.1, h2.2⟩
  · have he : ¬ e.row = d := by simpa using he
    rw [decide_eq_false he] at h1 h2
    simp only [Bool.and_eq_false_iff, decide_eq_false_iff_not, beq_eq_false_iff_ne] at h1 h2
    refine ⟨fun hl => ?_, fun hc => ?_⟩
    · rcases h1 with h1 | h1
      · exact absurd hl h1
      · rw [beq_eq_false_iff_ne]; exact fun e => h1 e.symm
    · rcases h2 with h2 | h2
      · exact absurd hc h2
      · omega
set_option maxRecDepth 100000 in
set_option maxHeartbeats 4000000 in
theorem rows_a (b : List UInt8) (A0 : Option Addr) (n0 c0 : Nat) (e : Ent) (A : Option Addr) (n c : Nat) (B : Option Addr) (m d : Nat) (D : Option Addr) (v q : Nat) (w : World) (hs : Sl w A0 n0 c0 b) (he : En w A n c B m d D v q e) (hk : (KeyE e).2 ≠ 0) :
    Calls Try.prog 6 #[.slice A0 n0 c0, entV A n c B m d D v q e] w fun r w' => r = .returned (.bool true) ∧ Below w.heap.size w w' := by
  have HB := Lib.hid hs
  have HE := Lib.hid he
  have HX : Hid (St 5 w [some (w.heap.size, entL A n c B m d D v q e)] [] (w.alloc (.cells (entL A n c B m d D v q e).toArray 27))) := Lib.hid ((St.nil 5 w).push _)
  obtain ⟨L, hL⟩ : ∃ L, L = b.take 5000 := ⟨_, rfl⟩
  obtain ⟨nl, hnl⟩ : ∃ n, n = L.length := ⟨_, rfl⟩
  have HL := Lib.hid hL.symm
  have HN : Hid (L.length = nl ∧ nl ≤ 5000) := Lib.hid ⟨hnl.symm, by rw [hnl, hL, List.length_take]; omega⟩
  obtain ⟨S, hS⟩ : ∃ S, S = (StartE L).1 := ⟨_, rfl⟩
  obtain ⟨V, hV⟩ : ∃ S, S = (BehindE L).1 := ⟨_, rfl⟩
  obtain ⟨K, hK⟩ : ∃ S, S = (KeyE e).1 := ⟨_, rfl⟩
  obtain ⟨sn, hsn⟩ : ∃ n, n = S.length := ⟨_, rfl⟩
  obtain ⟨vn, hvn⟩ : ∃ n, n = V.length := ⟨_, rfl⟩
  obtain ⟨kn, hkn⟩ : ∃ n, n = K.length := ⟨_, rfl⟩
  have HSL : Hid ((S.length = sn ∧ V.length = vn ∧ K.length = kn) ∧ sn ≤ 1000 ∧ vn ≤ 1000 ∧ kn ≤ 1048) := Lib.hid ⟨⟨hsn.symm, hvn.symm, hkn.symm⟩, by rw [hsn, hS]; exact start_len L, by rw [hvn, hV]; exact behind_len L, by rw [hkn, hK]; exact key_len e⟩
  obtain ⟨sz, hsz⟩ : ∃ z, z = (StartE L).2 := ⟨_, rfl⟩
  have HS : Hid (StartE L = (S, sz)) := Lib.hid (by rw [hS, hsz])
  have HV : Hid (BehindE L = (V, sz)) := Lib.hid (by rw [hV, hsz, ← behind_same])
  obtain ⟨kz, hkz⟩ : ∃ z, z = (KeyE e).2 := ⟨_, rfl⟩
  have HK : Hid (KeyE e = (K, kz)) := Lib.hid (by rw [hK, hkz])
  have hd : (kz == 0) = false := by rw [beq_eq_false_iff_ne, hkz]; exact hk
  clear hkz
  clear hL hnl hS hV hK hsn hvn hkn hs he hk hsz
  have HSS : Hid ((S == S) = true) := Lib.hid (by simp)
  have HVV : Hid ((V == V) = true) := Lib.hid (by simp)
  have tok1 : True := trivial
  have tok2 : True := trivial
  have tok3 : True := trivial
  have tok4 : True := trivial
  have tok5 : True := trivial
  have tok6 : True := trivial
  have tok7 : True := trivial
  have tok8 : True := trivial
  have tok9 : True := trivial
  have tok10 : True := trivial
  unfold entV
  go_enter Try.func6, Try.ntmps6
  go_wp2_with (first
    | (go_at_call 13; go_must (refine (laid_any b A0 n0 c0 5000 _ (HB.out.later HX.out.up) (by decide)).mono ?_); rw [HL.out]; rintro r x2 hp; obtain ⟨Ai, ci, rfl, ho, hb⟩ := laid_n hp HN.out.1; replace HX := Lib.hid (HX.out.fresh hb ho); clear hp ho hb)
    | (go_at_call 14; go_must (refine (copied_any L Ai nl ci _ (by have := HN.out; omega) (sl_front (HX.out.sl (n := nl + 75) (i := 0) rfl (by rw [List.length_append, mkL_len, HN.out.1])) HN.out.1).rb).mono ?_); rintro r x3 hp; obtain ⟨Ac, cc, rfl, _, ho, hb⟩ := hp.at_ HN.out.1; replace HX := Lib.hid (HX.out.fresh hb ho); have HR := Lib.hid (St.nil 5 x3); clear hp ho hb)
    | (go_at_call 26; have _t := tok1; go_must (refine (cstart_any L Ai nl ci _ (sl_front ((HX.out.later HR.out.up).sl (n := nl + 75) (i := 0) rfl (by rw [List.length_append, mkL_len, HN.out.1])) HN.out.1) (by have := HN.out; omega)).mono ?_); rw [HS.out]; rintro r y1 hp; obtain ⟨As, cs, rfl, _, ho, hb⟩ := hp.at_ (n := sn) HSL.out.1.1 rfl; replace HR := Lib.hid (HR.out.fresh hb ho); clear hp ho hb tok1)
    | (go_at_call 27; have _t := tok2; go_must (refine (cbehind_any L Ai nl ci _ (sl_front ((HX.out.later HR.out.up).sl (n := nl + 75) (i := 0) rfl (by rw [List.length_append, mkL_len, HN.out.1])) HN.out.1) (by have := HN.out; omega)).mono ?_); rw [HV.out]; rintro r y2 hp; obtain ⟨Ab, cb, rfl, _, ho, hb⟩ := hp.at_ (n := vn) HSL.out.1.2.1 rfl; replace HR := Lib.hid (HR.out.fresh hb ho); clear hp ho hb tok2)
    | (go_at_call 28; go_must (refine (rstart_any L Ac nl cc _ ((HX.out.later HR.out.up).sl (i := 1) rfl HN.out.1) (by have := HN.out; omega)).mono ?_); rw [HS.out]; rintro r y3 hp; obtain ⟨Aw, cw, rfl, _, ho, hb⟩ := hp.at_ (n := sn) HSL.out.1.1 rfl; replace HR := Lib.hid (HR.out.fresh hb ho); clear hp ho hb)
    | (go_at_call 29; go_must (refine (rbehind_any L Ac nl cc _ ((HX.out.later HR.out.up).sl (i := 1) rfl HN.out.1) (by have := HN.out; omega)).mono ?_); rw [HV.out]; rintro r y4 hp; obtain ⟨Av, cv, rfl, _, ho, hb⟩ := hp.at_ (n := vn) HSL.out.1.2.1 rfl; replace HR := Lib.hid (HR.out.fresh hb ho); clear hp ho hb)
    | (go_at_call 12; go_must (refine (told_any _).mono ?_); rintro r y7 ⟨rfl, hb⟩; replace HR := Lib.hid (HR.out.later hb); clear hb)
    | (go_at_call 30; have _t := tok3; go_must (refine (same_any S S As Aw sn cs sn cw _ (by have := HSL.out; omega) (HR.out.sl (i := 0) rfl HSL.out.1.1).rb (HR.out.sl (i := 2) rfl HSL.out.1.1).rb).mono ?_); rw [HSS.out]; rintro r y5 ⟨rfl, hb⟩; replace HR := Lib.hid (HR.out.later hb); clear hb tok3)
    | (go_at_call 30; have _t := tok4; go_must (refine (same_any V V Ab Av vn cb vn cv _ (by have := HSL.out; omega) (HR.out.sl (i := 1) rfl HSL.out.1.2.1).rb (HR.out.sl (i := 3) rfl HSL.out.1.2.1).rb).mono ?_); rw [HVV.out]; rintro r y6 ⟨rfl, hb⟩; replace HR := Lib.hid (HR.out.later hb); clear hb tok4)
    | (go_at_call 18; have _t := tok5; go_must (refine (intact_any L Ai Ac nl ci cc _ ((HX.out.later HR.out.up).sl (n := nl + 75) (i := 0) rfl (by rw [List.length_append, mkL_len, HN.out.1])) ((HX.out.later HR.out.up).sl (i := 1) rfl HN.out.1).rb (by have := HN.out; omega)).mono ?_); rintro r y8 ⟨rfl, hb⟩; replace HR := Lib.hid (HR.out.later hb); clear hb tok5)
    | (refine wpList_load_row7 rfl 27 (.tmp 3) rfl rfl ((HX.out.later HR.out.up).range (i := 0) rfl) ent_row ?_)
    | (go_at_call 25; go_must (refine (key_any e A n c B m d D v q _ (HE.out.later (HX.out.later HR.out.up).up)).mono ?_); rw [HK.out]; rintro r y9 hp; obtain ⟨Ak, ck, rfl, _, ho, hb⟩ := hp.at_ (n := kn) HSL.out.1.2.2 rfl; replace HR := Lib.hid (HR.out.fresh hb ho); clear hp ho hb)
    | (go_at_call 19; have _t := tok6; go_must (refine (longer_any _ S As sn cs 17 _ (HR.out.own (i := 0) rfl) HSL.out.1.1 (by have := HSL.out; omega) HR.out.up.size).mono ?_); rintro r z1 ⟨h0, rfl, hl, hc⟩; have HW0 := Lib.hid HR.out; have HL0 := Lib.hid hl; replace HR := Lib.hid (HR.out.lng (i := 0) rfl hc); clear hl hc tok6)
    | (go_at_call 19; go_must (refine (longer_any _ V Ab vn cb 18 _ (HR.out.own (i := 0) rfl) HSL.out.1.2.1 (by have := HSL.out; omega) HR.out.up.size).mono ?_); rintro r z2 ⟨h1, rfl, hl, hc⟩; have HL1 := Lib.hid hl; replace HL0 := Lib.hid (HL0.out.aside (i := 0) (j := 1) HW0.out rfl rfl (by decide) hc); replace HR := Lib.hid (HR.out.lng (i := 0) rfl hc); clear hl hc HW0)
    | (go_at_call 26; go_must (refine (cstart_any L Ai nl ci _ (sl_front ((HX.out.later HR.out.up).sl (n := nl + 75) (i := 0) rfl (by rw [List.length_append, mkL_len, HN.out.1])) HN.out.1) (by have := HN.out; omega)).mono ?_); rw [HS.out]; rintro r y11 hp; obtain ⟨At, ct, rfl, _, ho, hb⟩ := hp.at_ (n := sn) HSL.out.1.1 rfl; replace HR := Lib.hid (HR.out.fresh hb ho); replace HL0 := Lib.hid (HL0.out.later hb); replace HL1 := Lib.hid (HL1.out.later hb); clear hp ho hb)
    | (go_at_call 27; go_must (refine (cbehind_any L Ai nl ci _ (sl_front ((HX.out.later HR.out.up).sl (n := nl + 75) (i := 0) rfl (by rw [List.length_append, mkL_len, HN.out.1])) HN.out.1) (by have := HN.out; omega)).mono ?_); rw [HV.out]; rintro r y12 hp; obtain ⟨Au, cu, rfl, _, ho, hb⟩ := hp.at_ (n := vn) HSL.out.1.2.1 rfl; replace HR := Lib.hid (HR.out.fresh hb ho); replace HL0 := Lib.hid (HL0.out.later hb); replace HL1 := Lib.hid (HL1.out.later hb); clear hp ho hb)
    | (go_at_call 30; have _t := tok7; go_must (refine (same_any S S At Aw sn ct sn cw _ (by have := HSL.out; omega) (HR.out.sl (i := 3) rfl HSL.out.1.1).rb (HR.out.sl (i := 0) rfl HSL.out.1.1).rb).mono ?_); rw [HSS.out]; rintro r y13 ⟨rfl, hb⟩; replace HR := Lib.hid (HR.out.later hb); replace HL0 := Lib.hid (HL0.out.later hb); replace HL1 := Lib.hid (HL1.out.later hb); clear hb tok7)
    | (go_at_call 30; go_must (refine (same_any V V Au Av vn cu vn cv _ (by have := HSL.out; omega) (HR.out.sl (i := 4) rfl HSL.out.1.2.1).rb (HR.out.sl (i := 1) rfl HSL.out.1.2.1).rb).mono ?_); rw [HVV.out]; rintro r y14 ⟨rfl, hb⟩; replace HR := Lib.hid (HR.out.later hb); replace HL0 := Lib.hid (HL0.out.later hb); replace HL1 := Lib.hid (HL1.out.later hb); clear hb)
    | (go_at_call 20; have _t := tok8; go_must (refine (full_any As sn h0 17 _ HL0.out (by have := HSL.out; omega)).mono ?_); rintro r _ ⟨rfl, rfl⟩; clear tok8)
    | (go_at_call 20; go_must (refine (full_any Ab vn h1 18 _ HL1.out (by have := HSL.out; omega)).mono ?_); rintro r _ ⟨rfl, rfl⟩)
    | (go_at_call 18; go_must (refine (intact_any L Ai Ac nl ci cc _ ((HX.out.later HR.out.up).sl (n := nl + 75) (i := 0) rfl (by rw [List.length_append, mkL_len, HN.out.1])) ((HX.out.later HR.out.up).sl (i := 1) rfl HN.out.1).rb (by have := HN.out; omega)).mono ?_); rintro r y15 ⟨rfl, hb⟩; replace HR := Lib.hid (HR.out.later hb); clear hb))
  have HF := Lib.hid (HX.out.later HR.out.up)
  go_ret
  exact ⟨rfl, HF.out.up⟩

set_option maxRecDepth 100000 in
set_option maxHeartbeats 4000000 in
theorem rows_b (b : List UInt8) (A0 : Option Addr) (n0 c0 : Nat) (e : Ent) (A : Option Addr) (n c : Nat) (B : Option Addr) (m d : Nat) (D : Option Addr) (v q : Nat) (w : World) (hs : Sl w A0 n0 c0 b) (he : En w A n c B m d D v q e) (hk : (KeyE e).2 = 0) (hz : (StartE (b.take 5000)).2 ≠ 0) :
    Calls Try.prog 6 #[.slice A0 n0 c0, entV A n c B m d D v q e] w fun r w' => r = .returned (.bool true) ∧ Below w.heap.size w w' := by
  have HB := Lib.hid hs
  have HE := Lib.hid he
  have HX : Hid (St 5 w [some (w.heap.size, entL A n c B m d D v q e)] [] (w.alloc (.cells (entL A n c B m d D v q e).toArray 27))) := Lib.hid ((St.nil 5 w).push _)
  obtain ⟨L, hL⟩ : ∃ L, L = b.take 5000 := ⟨_, rfl⟩
  obtain ⟨nl, hnl⟩ : ∃ n, n = L.length := ⟨_, rfl⟩
  have HL := Lib.hid hL.symm
  have HN : Hid (L.length = nl ∧ nl ≤ 5000) := Lib.hid ⟨hnl.symm, by rw [hnl, hL, List.length_take]; omega⟩
  obtain ⟨S, hS⟩ : ∃ S, S = (StartE L).1 := ⟨_, rfl⟩
  obtain ⟨V, hV⟩ : ∃ S, S = (BehindE L).1 := ⟨_, rfl⟩
  obtain ⟨K, hK⟩ : ∃ S, S = (KeyE e).1 := ⟨_, rfl⟩
  obtain ⟨sn, hsn⟩ : ∃ n, n = S.length := ⟨_, rfl⟩
  obtain ⟨vn, hvn⟩ : ∃ n, n = V.length := ⟨_, rfl⟩
  obtain ⟨kn, hkn⟩ : ∃ n, n = K.length := ⟨_, rfl⟩
  have HSL : Hid ((S.length = sn ∧ V.length = vn ∧ K.length = kn) ∧ sn ≤ 1000 ∧ vn ≤ 1000 ∧ kn ≤ 1048) := Lib.hid ⟨⟨hsn.symm, hvn.symm, hkn.symm⟩, by rw [hsn, hS]; exact start_len L, by rw [hvn, hV]; exact behind_len L, by rw [hkn, hK]; exact key_len e⟩
  obtain ⟨sz, hsz⟩ : ∃ z, z = (StartE L).2 := ⟨_, rfl⟩
  have HS : Hid (StartE L = (S, sz)) := Lib.hid (by rw [hS, hsz])
  have HV : Hid (BehindE L = (V, sz)) := Lib.hid (by rw [hV, hsz, ← behind_same])
  have HK : Hid (KeyE e = (K, 0)) := Lib.hid (by rw [hK, ← hk])
  have hd : (sz == 0) = false := by rw [beq_eq_false_iff_ne, hsz, hL]; exact hz
  clear hL hnl hS hV hK hsn hvn hkn hs he hk hz hsz
  have HSS : Hid ((S == S) = true) := Lib.hid (by simp)
  have HVV : Hid ((V == V) = true) := Lib.hid (by simp)
  have tok1 : True := trivial
  have tok2 : True := trivial
  have tok3 : True := trivial
  have tok4 : True := trivial
  have tok5 : True := trivial
  have tok6 : True := trivial
  have tok7 : True := trivial
  have tok8 : True := trivial
  have tok9 : True := trivial
  have tok10 : True := trivial
  unfold entV
  go_enter Try.func6, Try.ntmps6
  go_wp2_with (first
    | (go_at_call 13; go_must (refine (laid_any b A0 n0 c0 5000 _ (HB.out.later HX.out.up) (by decide)).mono ?_); rw [HL.out]; rintro r x2 hp; obtain ⟨Ai, ci, rfl, ho, hb⟩ := laid_n hp HN.out.1; replace HX := Lib.hid (HX.out.fresh hb ho); clear hp ho hb)
    | (go_at_call 14; go_must (refine (copied_any L Ai nl ci _ (by have := HN.out; omega) (sl_front (HX.out.sl (n := nl + 75) (i := 0) rfl (by rw [List.length_append, mkL_len, HN.out.1])) HN.out.1).rb).mono ?_); rintro r x3 hp; obtain ⟨Ac, cc, rfl, _, ho, hb⟩ := hp.at_ HN.out.1; replace HX := Lib.hid (HX.out.fresh hb ho); have HR := Lib.hid (St.nil 5 x3); clear hp ho hb)
    | (go_at_call 26; have _t := tok1; go_must (refine (cstart_any L Ai nl ci _ (sl_front ((HX.out.later HR.out.up).sl (n := nl + 75) (i := 0) rfl (by rw [List.length_append, mkL_len, HN.out.1])) HN.out.1) (by have := HN.out; omega)).mono ?_); rw [HS.out]; rintro r y1 hp; obtain ⟨As, cs, rfl, _, ho, hb⟩ := hp.at_ (n := sn) HSL.out.1.1 rfl; replace HR := Lib.hid (HR.out.fresh hb ho); clear hp ho hb tok1)
    | (go_at_call 27; have _t := tok2; go_must (refine (cbehind_any L Ai nl ci _ (sl_front ((HX.out.later HR.out.up).sl (n := nl + 75) (i := 0) rfl (by rw [List.length_append, mkL_len, HN.out.1])) HN.out.1) (by have := HN.out; omega)).mono ?_); rw [HV.out]; rintro r y2 hp; obtain ⟨Ab, cb, rfl, _, ho, hb⟩ := hp.at_ (n := vn) HSL.out.1.2.1 rfl; replace HR := Lib.hid (HR.out.fresh hb ho); clear hp ho hb tok2)
    | (go_at_call 28; go_must (refine (rstart_any L Ac nl cc _ ((HX.out.later HR.out.up).sl (i := 1) rfl HN.out.1) (by have := HN.out; omega)).mono ?_); rw [HS.out]; rintro r y3 hp; obtain ⟨Aw, cw, rfl, _, ho, hb⟩ := hp.at_ (n := sn) HSL.out.1.1 rfl; replace HR := Lib.hid (HR.out.fresh hb ho); clear hp ho hb)
    | (go_at_call 29; go_must (refine (rbehind_any L Ac nl cc _ ((HX.out.later HR.out.up).sl (i := 1) rfl HN.out.1) (by have := HN.out; omega)).mono ?_); rw [HV.out]; rintro r y4 hp; obtain ⟨Av, cv, rfl, _, ho, hb⟩ := hp.at_ (n := vn) HSL.out.1.2.1 rfl; replace HR := Lib.hid (HR.out.fresh hb ho); clear hp ho hb)
    | (go_at_call 12; go_must (refine (told_any _).mono ?_); rintro r y7 ⟨rfl, hb⟩; replace HR := Lib.hid (HR.out.later hb); clear hb)
    | (go_at_call 30; have _t := tok3; go_must (refine (same_any S S As Aw sn cs sn cw _ (by have := HSL.out; omega) (HR.out.sl (i := 0) rfl HSL.out.1.1).rb (HR.out.sl (i := 2) rfl HSL.out.1.1).rb).mono ?_); rw [HSS.out]; rintro r y5 ⟨rfl, hb⟩; replace HR := Lib.hid (HR.out.later hb); clear hb tok3)
    | (go_at_call 30; have _t := tok4; go_must (refine (same_any V V Ab Av vn cb vn cv _ (by have := HSL.out; omega) (HR.out.sl (i := 1) rfl HSL.out.1.2.1).rb (HR.out.sl (i := 3) rfl HSL.out.1.2.1).rb).mono ?_); rw [HVV.out]; rintro r y6 ⟨rfl, hb⟩; replace HR := Lib.hid (HR.out.later hb); clear hb tok4)
    | (go_at_call 18; have _t := tok5; go_must (refine (intact_any L Ai Ac nl ci cc _ ((HX.out.later HR.out.up).sl (n := nl + 75) (i := 0) rfl (by rw [List.length_append, mkL_len, HN.out.1])) ((HX.out.later HR.out.up).sl (i := 1) rfl HN.out.1).rb (by have := HN.out; omega)).mono ?_); rintro r y8 ⟨rfl, hb⟩; replace HR := Lib.hid (HR.out.later hb); clear hb tok5)
    | (refine wpList_load_row7 rfl 27 (.tmp 3) rfl rfl ((HX.out.later HR.out.up).range (i := 0) rfl) ent_row ?_)
    | (go_at_call 25; go_must (refine (key_any e A n c B m d D v q _ (HE.out.later (HX.out.later HR.out.up).up)).mono ?_); rw [HK.out]; rintro r y9 hp; obtain ⟨Ak, ck, rfl, _, ho, hb⟩ := hp.at_ (n := kn) HSL.out.1.2.2 rfl; replace HR := Lib.hid (HR.out.fresh hb ho); clear hp ho hb)
    | (go_at_call 19; have _t := tok6; go_must (refine (longer_any _ S As sn cs 17 _ (HR.out.own (i := 0) rfl) HSL.out.1.1 (by have := HSL.out; omega) HR.out.up.size).mono ?_); rintro r z1 ⟨h0, rfl, hl, hc⟩; have HW0 := Lib.hid HR.out; have HL0 := Lib.hid hl; replace HR := Lib.hid (HR.out.lng (i := 0) rfl hc); clear hl hc tok6)
    | (go_at_call 19; go_must (refine (longer_any _ V Ab vn cb 18 _ (HR.out.own (i := 0) rfl) HSL.out.1.2.1 (by have := HSL.out; omega) HR.out.up.size).mono ?_); rintro r z2 ⟨h1, rfl, hl, hc⟩; have HL1 := Lib.hid hl; replace HL0 := Lib.hid (HL0.out.aside (i := 0) (j := 1) HW0.out rfl rfl (by decide) hc); replace HR := Lib.hid (HR.out.lng (i := 0) rfl hc); clear hl hc HW0)
    | (go_at_call 26; go_must (refine (cstart_any L Ai nl ci _ (sl_front ((HX.out.later HR.out.up).sl (n := nl + 75) (i := 0) rfl (by rw [List.length_append, mkL_len, HN.out.1])) HN.out.1) (by have := HN.out; omega)).mono ?_); rw [HS.out]; rintro r y11 hp; obtain ⟨At, ct, rfl, _, ho, hb⟩ := hp.at_ (n := sn) HSL.out.1.1 rfl; replace HR := Lib.hid (HR.out.fresh hb ho); replace HL0 := Lib.hid (HL0.out.later hb); replace HL1 := Lib.hid (HL1.out.later hb); clear hp ho hb)
    | (go_at_call 27; go_must (refine (cbehind_any L Ai nl ci _ (sl_front ((HX.out.later HR.out.up).sl (n := nl + 75) (i := 0) rfl (by rw [List.length_append, mkL_len, HN.out.1])) HN.out.1) (by have := HN.out; omega)).mono ?_); rw [HV.out]; rintro r y12 hp; obtain ⟨Au, cu, rfl, _, ho, hb⟩ := hp.at_ (n := vn) HSL.out.1.2.1 rfl; replace HR := Lib.hid (HR.out.fresh hb ho); replace HL0 := Lib.hid (HL0.out.later hb); replace HL1 := Lib.hid (HL1.out.later hb); clear hp ho hb)
    | (go_at_call 30; have _t := tok7; go_must (refine (same_any S S At Aw sn ct sn cw _ (by have := HSL.out; omega) (HR.out.sl (i := 3) rfl HSL.out.1.1).rb (HR.out.sl (i := 0) rfl HSL.out.1.1).rb).mono ?_); rw [HSS.out]; rintro r y13 ⟨rfl, hb⟩; replace HR := Lib.hid (HR.out.later hb); replace HL0 := Lib.hid (HL0.out.later hb); replace HL1 := Lib.hid (HL1.out.later hb); clear hb tok7)
    | (go_at_call 30; go_must (refine (same_any V V Au Av vn cu vn cv _ (by have := HSL.out; omega) (HR.out.sl (i := 4) rfl HSL.out.1.2.1).rb (HR.out.sl (i := 1) rfl HSL.out.1.2.1).rb).mono ?_); rw [HVV.out]; rintro r y14 ⟨rfl, hb⟩; replace HR := Lib.hid (HR.out.later hb); replace HL0 := Lib.hid (HL0.out.later hb); replace HL1 := Lib.hid (HL1.out.later hb); clear hb)
    | (go_at_call 20; have _t := tok8; go_must (refine (full_any As sn h0 17 _ HL0.out (by have := HSL.out; omega)).mono ?_); rintro r _ ⟨rfl, rfl⟩; clear tok8)
    | (go_at_call 20; go_must (refine (full_any Ab vn h1 18 _ HL1.out (by have := HSL.out; omega)).mono ?_); rintro r _ ⟨rfl, rfl⟩)
    | (go_at_call 18; go_must (refine (intact_any L Ai Ac nl ci cc _ ((HX.out.later HR.out.up).sl (n := nl + 75) (i := 0) rfl (by rw [List.length_append, mkL_len, HN.out.1])) ((HX.out.later HR.out.up).sl (i := 1) rfl HN.out.1).rb (by have := HN.out; omega)).mono ?_); rintro r y15 ⟨rfl, hb⟩; replace HR := Lib.hid (HR.out.later hb); clear hb))
  have HF := Lib.hid (HX.out.later HR.out.up)
  go_ret
  exact ⟨rfl, HF.out.up⟩

set_option maxRecDepth 100000 in
set_option maxHeartbeats 4000000 in
theorem rows_c (b : List UInt8) (A0 : Option Addr) (n0 c0 : Nat) (e : Ent) (A : Option Addr) (n c : Nat) (B : Option Addr) (m d : Nat) (D : Option Addr) (v q : Nat) (w : World) (hs : Sl w A0 n0 c0 b) (he : En w A n c B m d D v q e) (hk : (KeyE e).2 = 0) (hz : (StartE (b.take 5000)).2 = 0) :
    Calls Try.prog 6 #[.slice A0 n0 c0, entV A n c B m d D v q e] w fun r w' => r = .returned (.bool true) ∧ Below w.heap.size w w' := by
  have HB := Lib.hid hs
  have HE := Lib.hid he
  have HX : Hid (St 5 w [some (w.heap.size, entL A n c B m d D v q e)] [] (w.alloc (.cells (entL A n c B m d D v q e).toArray 27))) := Lib.hid ((St.nil 5 w).push _)
  obtain ⟨L, hL⟩ : ∃ L, L = b.take 5000 := ⟨_, rfl⟩
  obtain ⟨nl, hnl⟩ : ∃ n, n = L.length := ⟨_, rfl⟩
  have HL := Lib.hid hL.symm
  have HN : Hid (L.length = nl ∧ nl ≤ 5000) := Lib.hid ⟨hnl.symm, by rw [hnl, hL, List.length_take]; omega⟩
  obtain ⟨S, hS⟩ : ∃ S, S = (StartE L).1 := ⟨_, rfl⟩
  obtain ⟨V, hV⟩ : ∃ S, S = (BehindE L).1 := ⟨_, rfl⟩
  obtain ⟨K, hK⟩ : ∃ S, S = (KeyE e).1 := ⟨_, rfl⟩
  obtain ⟨sn, hsn⟩ : ∃ n, n = S.length := ⟨_, rfl⟩
  obtain ⟨vn, hvn⟩ : ∃ n, n = V.length := ⟨_, rfl⟩
  obtain ⟨kn, hkn⟩ : ∃ n, n = K.length := ⟨_, rfl⟩
  have HSL : Hid ((S.length = sn ∧ V.length = vn ∧ K.length = kn) ∧ sn ≤ 1000 ∧ vn ≤ 1000 ∧ kn ≤ 1048) := Lib.hid ⟨⟨hsn.symm, hvn.symm, hkn.symm⟩, by rw [hsn, hS]; exact start_len L, by rw [hvn, hV]; exact behind_len L, by rw [hkn, hK]; exact key_len e⟩
  have HS : Hid (StartE L = (S, 0)) := Lib.hid (by rw [hS]; have h := hz; rw [← hL] at h; rw [← h])
  have HV : Hid (BehindE L = (V, 0)) := Lib.hid (by rw [hV]; have h := hz; rw [← hL] at h; rw [← h, ← behind_same])
  have HK : Hid (KeyE e = (K, 0)) := Lib.hid (by rw [hK, ← hk])
  have HEQ : Hid (OkE e ∧ S = ordB L ∧ V = ordB L ++ [255] ∧ K = keyE e) := Lib.hid (by
    have h := hz
    rw [← hL] at h
    refine ⟨key_ok hk, ?_, ?_, ?_⟩
    · rw [hS]; exact start_ok h
    · rw [hV]; exact behind_ok h
    · rw [hK]; exact key_is hk)
  clear hL hnl hS hV hK hsn hvn hkn hs he hk hz
  have HSS : Hid ((S == S) = true) := Lib.hid (by simp)
  have HVV : Hid ((V == V) = true) := Lib.hid (by simp)
  have tok1 : True := trivial
  have tok2 : True := trivial
  have tok3 : True := trivial
  have tok4 : True := trivial
  have tok5 : True := trivial
  have tok6 : True := trivial
  have tok7 : True := trivial
  have tok8 : True := trivial
  have tok9 : True := trivial
  have tok10 : True := trivial
  have tok11 : True := trivial
  unfold entV
  go_enter Try.func6, Try.ntmps6
  go_wp2_with (first
    | (go_at_call 13; go_must (refine (laid_any b A0 n0 c0 5000 _ (HB.out.later HX.out.up) (by decide)).mono ?_); rw [HL.out]; rintro r x2 hp; obtain ⟨Ai, ci, rfl, ho, hb⟩ := laid_n hp HN.out.1; replace HX := Lib.hid (HX.out.fresh hb ho); clear hp ho hb)
    | (go_at_call 14; go_must (refine (copied_any L Ai nl ci _ (by have := HN.out; omega) (sl_front (HX.out.sl (n := nl + 75) (i := 0) rfl (by rw [List.length_append, mkL_len, HN.out.1])) HN.out.1).rb).mono ?_); rintro r x3 hp; obtain ⟨Ac, cc, rfl, _, ho, hb⟩ := hp.at_ HN.out.1; replace HX := Lib.hid (HX.out.fresh hb ho); have HR := Lib.hid (St.nil 5 x3); clear hp ho hb)
    | (go_at_call 26; have _t := tok1; go_must (refine (cstart_any L Ai nl ci _ (sl_front ((HX.out.later HR.out.up).sl (n := nl + 75) (i := 0) rfl (by rw [List.length_append, mkL_len, HN.out.1])) HN.out.1) (by have := HN.out; omega)).mono ?_); rw [HS.out]; rintro r y1 hp; obtain ⟨As, cs, rfl, _, ho, hb⟩ := hp.at_ (n := sn) HSL.out.1.1 rfl; replace HR := Lib.hid (HR.out.fresh hb ho); clear hp ho hb tok1)
    | (go_at_call 27; have _t := tok2; go_must (refine (cbehind_any L Ai nl ci _ (sl_front ((HX.out.later HR.out.up).sl (n := nl + 75) (i := 0) rfl (by rw [List.length_append, mkL_len, HN.out.1])) HN.out.1) (by have := HN.out; omega)).mono ?_); rw [HV.out]; rintro r y2 hp; obtain ⟨Ab, cb, rfl, _, ho, hb⟩ := hp.at_ (n := vn) HSL.out.1.2.1 rfl; replace HR := Lib.hid (HR.out.fresh hb ho); clear hp ho hb tok2)
    | (go_at_call 28; go_must (refine (rstart_any L Ac nl cc _ ((HX.out.later HR.out.up).sl (i := 1) rfl HN.out.1) (by have := HN.out; omega)).mono ?_); rw [HS.out]; rintro r y3 hp; obtain ⟨Aw, cw, rfl, _, ho, hb⟩ := hp.at_ (n := sn) HSL.out.1.1 rfl; replace HR := Lib.hid (HR.out.fresh hb ho); clear hp ho hb)
    | (go_at_call 29; go_must (refine (rbehind_any L Ac nl cc _ ((HX.out.later HR.out.up).sl (i := 1) rfl HN.out.1) (by have := HN.out; omega)).mono ?_); rw [HV.out]; rintro r y4 hp; obtain ⟨Av, cv, rfl, _, ho, hb⟩ := hp.at_ (n := vn) HSL.out.1.2.1 rfl; replace HR := Lib.hid (HR.out.fresh hb ho); clear hp ho hb)
    | (go_at_call 12; go_must (refine (told_any _).mono ?_); rintro r y7 ⟨rfl, hb⟩; replace HR := Lib.hid (HR.out.later hb); clear hb)
    | (go_at_call 30; have _t := tok3; go_must (refine (same_any S S As Aw sn cs sn cw _ (by have := HSL.out; omega) (HR.out.sl (i := 0) rfl HSL.out.1.1).rb (HR.out.sl (i := 2) rfl HSL.out.1.1).rb).mono ?_); rw [HSS.out]; rintro r y5 ⟨rfl, hb⟩; replace HR := Lib.hid (HR.out.later hb); clear hb tok3)
    | (go_at_call 30; have _t := tok4; go_must (refine (same_any V V Ab Av vn cb vn cv _ (by have := HSL.out; omega) (HR.out.sl (i := 1) rfl HSL.out.1.2.1).rb (HR.out.sl (i := 3) rfl HSL.out.1.2.1).rb).mono ?_); rw [HVV.out]; rintro r y6 ⟨rfl, hb⟩; replace HR := Lib.hid (HR.out.later hb); clear hb tok4)
    | (go_at_call 18; have _t := tok5; go_must (refine (intact_any L Ai Ac nl ci cc _ ((HX.out.later HR.out.up).sl (n := nl + 75) (i := 0) rfl (by rw [List.length_append, mkL_len, HN.out.1])) ((HX.out.later HR.out.up).sl (i := 1) rfl HN.out.1).rb (by have := HN.out; omega)).mono ?_); rintro r y8 ⟨rfl, hb⟩; replace HR := Lib.hid (HR.out.later hb); clear hb tok5)
    | (refine wpList_load_row7 rfl 27 (.tmp 3) rfl rfl ((HX.out.later HR.out.up).range (i := 0) rfl) ent_row ?_)
    | (go_at_call 25; go_must (refine (key_any e A n c B m d D v q _ (HE.out.later (HX.out.later HR.out.up).up)).mono ?_); rw [HK.out]; rintro r y9 hp; obtain ⟨Ak, ck, rfl, _, ho, hb⟩ := hp.at_ (n := kn) HSL.out.1.2.2 rfl; replace HR := Lib.hid (HR.out.fresh hb ho); have f0 := (HX.out.later HR.out.up).cell (i := 0) rfl (j := 0) (v := .slice A n c) rfl; clear hp ho hb))
  obtain ⟨ob, hob⟩ : ∃ o, o = (e.row == L) := ⟨_, rfl⟩
  obtain ⟨t1, ht1⟩ : ∃ z, z = cmpB S K := ⟨_, rfl⟩
  obtain ⟨t2, ht2⟩ : ∃ z, z = cmpB K V := ⟨_, rfl⟩
  have HFA : Hid ((ob = true → sn ≤ kn ∧ (K.take sn == S) = true ∧ t1 ≤ 0 ∧ t2 < 0) ∧ (ob = false → (sn ≤ kn → (K.take sn == S) = false) ∧ (t1 ≤ 0 → 0 ≤ t2))) := Lib.hid (by
    obtain ⟨g1, g2, g3, g4⟩ := HEQ.out
    have q := HSL.out.1
    rw [ht1, ht2, hob, ← q.1, ← q.2.2]
    subst g2; subst g3; subst g4
    exact rows_facts g1 L)
  have HO : Hid ((e.row == L) = ob) := Lib.hid hob.symm
  have HC : Hid (cmpB S K = t1 ∧ cmpB K V = t2) := Lib.hid ⟨ht1.symm, ht2.symm⟩
  clear hob ht1 ht2
  have hcase : (ob = true) ∨ (ob = false ∧ sn ≤ kn ∧ t1 ≤ 0) ∨ (ob = false ∧ sn ≤ kn ∧ ¬ t1 ≤ 0) ∨ (ob = false ∧ ¬ sn ≤ kn ∧ t1 ≤ 0) ∨ (ob = false ∧ ¬ sn ≤ kn ∧ ¬ t1 ≤ 0) := by
    cases ob
    · by_cases q1 : sn ≤ kn <;> by_cases q2 : t1 ≤ 0 <;> simp [q1, q2]
    · exact .inl rfl
  have hkc : kn ≤ ck := (HR.out.sl (i := 4) rfl HSL.out.1.2.2).cap
  have hkl : kn ≤ 1048 := HSL.out.2.2.2
  rcases hcase with rfl | ⟨rfl, hle, ht⟩ | ⟨rfl, hle, ht⟩ | ⟨rfl, hle, ht⟩ | ⟨rfl, hle, ht⟩
  · have hq := HFA.out.1 rfl
    have HT := Lib.hid hq.2.1
    have hle : sn ≤ kn := hq.1
    have hd1 : decide ((sn : Int) ≤ (kn : Int)) = true := decide_eq_true (by omega)
    have hd2 : decide (sn ≤ kn) = true := decide_eq_true hle
    have hd3 : decide (t1 ≤ 0) = true := decide_eq_true hq.2.2.1
    have hd4 : decide (t2 < 0) = true := decide_eq_true hq.2.2.2
    clear hq
    clear HFA HEQ
    go_wp2_with (first
        | (go_at_call 30; have _t := tok9; go_must (refine (same_any e.row L A Ac n c nl cc _ (HE.out.row.le) (HE.out.later (HX.out.later HR.out.up).up).row.rb ((HX.out.later HR.out.up).sl (i := 1) rfl HN.out.1).rb).mono ?_); rw [HO.out]; rintro r u1 ⟨rfl, hb⟩; replace HR := Lib.hid (HR.out.later hb); clear hb tok9 f0)
        | (go_at_call 30; have _t := tok10; go_must (refine (same_any (K.take sn) S Ak As sn ck sn cs _ (by have := HSL.out; omega) ((HR.out.sl (i := 4) rfl HSL.out.1.2.2).take (by assumption)).rb (HR.out.sl (i := 0) rfl HSL.out.1.1).rb).mono ?_); rw [HT.out]; rintro r u2 ⟨rfl, hb⟩; replace HR := Lib.hid (HR.out.later hb); clear hb tok10)
        | (go_at_call 31; have _t := tok8; go_must (refine (rBcmp_any S K As Ak sn cs kn ck _ (by have := HSL.out; omega) (by have := HSL.out; omega) (HR.out.sl (i := 0) rfl HSL.out.1.1).rb (HR.out.sl (i := 4) rfl HSL.out.1.2.2).rb).mono ?_); rw [HC.out.1]; rintro r u3 ⟨rfl, hb⟩; replace HR := Lib.hid (HR.out.later hb); clear hb tok8)
        | (go_at_call 31; go_must (refine (rBcmp_any K V Ak Ab kn ck vn cb _ (by have := HSL.out; omega) (by have := HSL.out; omega) (HR.out.sl (i := 4) rfl HSL.out.1.2.2).rb (HR.out.sl (i := 1) rfl HSL.out.1.2.1).rb).mono ?_); rw [HC.out.2]; rintro r u4 ⟨rfl, hb⟩; replace HR := Lib.hid (HR.out.later hb); clear hb)
        | (go_at_call 19; have _t := tok6; go_must (refine (longer_any _ S As sn cs 17 _ (HR.out.own (i := 0) rfl) HSL.out.1.1 (by have := HSL.out; omega) HR.out.up.size).mono ?_); rintro r z1 ⟨h0, rfl, hl, hc⟩; have HW0 := Lib.hid HR.out; have HL0 := Lib.hid hl; replace HR := Lib.hid (HR.out.lng (i := 0) rfl hc); clear hl hc tok6)
        | (go_at_call 19; go_must (refine (longer_any _ V Ab vn cb 18 _ (HR.out.own (i := 0) rfl) HSL.out.1.2.1 (by have := HSL.out; omega) HR.out.up.size).mono ?_); rintro r z2 ⟨h1, rfl, hl, hc⟩; have HL1 := Lib.hid hl; replace HL0 := Lib.hid (HL0.out.aside (i := 0) (j := 1) HW0.out rfl rfl (by decide) hc); replace HR := Lib.hid (HR.out.lng (i := 0) rfl hc); clear hl hc HW0)
        | (go_at_call 26; go_must (refine (cstart_any L Ai nl ci _ (sl_front ((HX.out.later HR.out.up).sl (n := nl + 75) (i := 0) rfl (by rw [List.length_append, mkL_len, HN.out.1])) HN.out.1) (by have := HN.out; omega)).mono ?_); rw [HS.out]; rintro r y11 hp; obtain ⟨At, ct, rfl, _, ho, hb⟩ := hp.at_ (n := sn) HSL.out.1.1 rfl; replace HR := Lib.hid (HR.out.fresh hb ho); replace HL0 := Lib.hid (HL0.out.later hb); replace HL1 := Lib.hid (HL1.out.later hb); clear hp ho hb)
        | (go_at_call 27; go_must (refine (cbehind_any L Ai nl ci _ (sl_front ((HX.out.later HR.out.up).sl (n := nl + 75) (i := 0) rfl (by rw [List.length_append, mkL_len, HN.out.1])) HN.out.1) (by have := HN.out; omega)).mono ?_); rw [HV.out]; rintro r y12 hp; obtain ⟨Au, cu, rfl, _, ho, hb⟩ := hp.at_ (n := vn) HSL.out.1.2.1 rfl; replace HR := Lib.hid (HR.out.fresh hb ho); replace HL0 := Lib.hid (HL0.out.later hb); replace HL1 := Lib.hid (HL1.out.later hb); clear hp ho hb)
        | (go_at_call 30; have _t := tok7; go_must (refine (same_any S S At Aw sn ct sn cw _ (by have := HSL.out; omega) (HR.out.sl (i := 3) rfl HSL.out.1.1).rb (HR.out.sl (i := 0) rfl HSL.out.1.1).rb).mono ?_); rw [HSS.out]; rintro r y13 ⟨rfl, hb⟩; replace HR := Lib.hid (HR.out.later hb); replace HL0 := Lib.hid (HL0.out.later hb); replace HL1 := Lib.hid (HL1.out.later hb); clear hb tok7)
        | (go_at_call 30; go_must (refine (same_any V V Au Av vn cu vn cv _ (by have := HSL.out; omega) (HR.out.sl (i := 4) rfl HSL.out.1.2.1).rb (HR.out.sl (i := 1) rfl HSL.out.1.2.1).rb).mono ?_); rw [HVV.out]; rintro r y14 ⟨rfl, hb⟩; replace HR := Lib.hid (HR.out.later hb); replace HL0 := Lib.hid (HL0.out.later hb); replace HL1 := Lib.hid (HL1.out.later hb); clear hb)
        | (go_at_call 20; have _t := tok11; go_must (refine (full_any As sn h0 17 _ HL0.out (by have := HSL.out; omega)).mono ?_); rintro r _ ⟨rfl, rfl⟩; clear tok11)
        | (go_at_call 20; go_must (refine (full_any Ab vn h1 18 _ HL1.out (by have := HSL.out; omega)).mono ?_); rintro r _ ⟨rfl, rfl⟩)
        | (go_at_call 18; go_must (refine (intact_any L Ai Ac nl ci cc _ ((HX.out.later HR.out.up).sl (n := nl + 75) (i := 0) rfl (by rw [List.length_append, mkL_len, HN.out.1])) ((HX.out.later HR.out.up).sl (i := 1) rfl HN.out.1).rb (by have := HN.out; omega)).mono ?_); rintro r y15 ⟨rfl, hb⟩; replace HR := Lib.hid (HR.out.later hb); clear hb))
    have HF := Lib.hid (HX.out.later HR.out.up)
    go_ret
    exact ⟨rfl, HF.out.up⟩
  · have hq := HFA.out.2 rfl
    have HT := Lib.hid (hq.1 hle)
    have hd1 : decide ((sn : Int) ≤ (kn : Int)) = true := decide_eq_true (by omega)
    have hd2 : decide (sn ≤ kn) = true := decide_eq_true hle
    have hd3 : decide (t1 ≤ 0) = true := decide_eq_true ht
    have hd4 : decide (t2 < 0) = false := decide_eq_false (by have := hq.2 ht; omega)
    clear hq ht
    clear HFA HEQ
    go_wp2_with (first
        | (go_at_call 30; have _t := tok9; go_must (refine (same_any e.row L A Ac n c nl cc _ (HE.out.row.le) (HE.out.later (HX.out.later HR.out.up).up).row.rb ((HX.out.later HR.out.up).sl (i := 1) rfl HN.out.1).rb).mono ?_); rw [HO.out]; rintro r u1 ⟨rfl, hb⟩; replace HR := Lib.hid (HR.out.later hb); clear hb tok9 f0)
        | (go_at_call 30; have _t := tok10; go_must (refine (same_any (K.take sn) S Ak As sn ck sn cs _ (by have := HSL.out; omega) ((HR.out.sl (i := 4) rfl HSL.out.1.2.2).take (by assumption)).rb (HR.out.sl (i := 0) rfl HSL.out.1.1).rb).mono ?_); rw [HT.out]; rintro r u2 ⟨rfl, hb⟩; replace HR := Lib.hid (HR.out.later hb); clear hb tok10)
        | (go_at_call 31; have _t := tok8; go_must (refine (rBcmp_any S K As Ak sn cs kn ck _ (by have := HSL.out; omega) (by have := HSL.out; omega) (HR.out.sl (i := 0) rfl HSL.out.1.1).rb (HR.out.sl (i := 4) rfl HSL.out.1.2.2).rb).mono ?_); rw [HC.out.1]; rintro r u3 ⟨rfl, hb⟩; replace HR := Lib.hid (HR.out.later hb); clear hb tok8)
        | (go_at_call 31; go_must (refine (rBcmp_any K V Ak Ab kn ck vn cb _ (by have := HSL.out; omega) (by have := HSL.out; omega) (HR.out.sl (i := 4) rfl HSL.out.1.2.2).rb (HR.out.sl (i := 1) rfl HSL.out.1.2.1).rb).mono ?_); rw [HC.out.2]; rintro r u4 ⟨rfl, hb⟩; replace HR := Lib.hid (HR.out.later hb); clear hb)
        | (go_at_call 19; have _t := tok6; go_must (refine (longer_any _ S As sn cs 17 _ (HR.out.own (i := 0) rfl) HSL.out.1.1 (by have := HSL.out; omega) HR.out.up.size).mono ?_); rintro r z1 ⟨h0, rfl, hl, hc⟩; have HW0 := Lib.hid HR.out; have HL0 := Lib.hid hl; replace HR := Lib.hid (HR.out.lng (i := 0) rfl hc); clear hl hc tok6)
        | (go_at_call 19; go_must (refine (longer_any _ V Ab vn cb 18 _ (HR.out.own (i := 0) rfl) HSL.out.1.2.1 (by have := HSL.out; omega) HR.out.up.size).mono ?_); rintro r z2 ⟨h1, rfl, hl, hc⟩; have HL1 := Lib.hid hl; replace HL0 := Lib.hid (HL0.out.aside (i := 0) (j := 1) HW0.out rfl rfl (by decide) hc); replace HR := Lib.hid (HR.out.lng (i := 0) rfl hc); clear hl hc HW0)
        | (go_at_call 26; go_must (refine (cstart_any L Ai nl ci _ (sl_front ((HX.out.later HR.out.up).sl (n := nl + 75) (i := 0) rfl (by rw [List.length_append, mkL_len, HN.out.1])) HN.out.1) (by have := HN.out; omega)).mono ?_); rw [HS.out]; rintro r y11 hp; obtain ⟨At, ct, rfl, _, ho, hb⟩ := hp.at_ (n := sn) HSL.out.1.1 rfl; replace HR := Lib.hid (HR.out.fresh hb ho); replace HL0 := Lib.hid (HL0.out.later hb); replace HL1 := Lib.hid (HL1.out.later hb); clear hp ho hb)
        | (go_at_call 27; go_must (refine (cbehind_any L Ai nl ci _ (sl_front ((HX.out.later HR.out.up).sl (n := nl + 75) (i := 0) rfl (by rw [List.length_append, mkL_len, HN.out.1])) HN.out.1) (by have := HN.out; omega)).mono ?_); rw [HV.out]; rintro r y12 hp; obtain ⟨Au, cu, rfl, _, ho, hb⟩ := hp.at_ (n := vn) HSL.out.1.2.1 rfl; replace HR := Lib.hid (HR.out.fresh hb ho); replace HL0 := Lib.hid (HL0.out.later hb); replace HL1 := Lib.hid (HL1.out.later hb); clear hp ho hb)
        | (go_at_call 30; have _t := tok7; go_must (refine (same_any S S At Aw sn ct sn cw _ (by have := HSL.out; omega) (HR.out.sl (i := 3) rfl HSL.out.1.1).rb (HR.out.sl (i := 0) rfl HSL.out.1.1).rb).mono ?_); rw [HSS.out]; rintro r y13 ⟨rfl, hb⟩; replace HR := Lib.hid (HR.out.later hb); replace HL0 := Lib.hid (HL0.out.later hb); replace HL1 := Lib.hid (HL1.out.later hb); clear hb tok7)
        | (go_at_call 30; go_must (refine (same_any V V Au Av vn cu vn cv _ (by have := HSL.out; omega) (HR.out.sl (i := 4) rfl HSL.out.1.2.1).rb (HR.out.sl (i := 1) rfl HSL.out.1.2.1).rb).mono ?_); rw [HVV.out]; rintro r y14 ⟨rfl, hb⟩; replace HR := Lib.hid (HR.out.later hb); replace HL0 := Lib.hid (HL0.out.later hb); replace HL1 := Lib.hid (HL1.out.later hb); clear hb)
        | (go_at_call 20; have _t := tok11; go_must (refine (full_any As sn h0 17 _ HL0.out (by have := HSL.out; omega)).mono ?_); rintro r _ ⟨rfl, rfl⟩; clear tok11)
        | (go_at_call 20; go_must (refine (full_any Ab vn h1 18 _ HL1.out (by have := HSL.out; omega)).mono ?_); rintro r _ ⟨rfl, rfl⟩)
        | (go_at_call 18; go_must (refine (intact_any L Ai Ac nl ci cc _ ((HX.out.later HR.out.up).sl (n := nl + 75) (i := 0) rfl (by rw [List.length_append, mkL_len, HN.out.1])) ((HX.out.later HR.out.up).sl (i := 1) rfl HN.out.1).rb (by have := HN.out; omega)).mono ?_); rintro r y15 ⟨rfl, hb⟩; replace HR := Lib.hid (HR.out.later hb); clear hb))
    have HF := Lib.hid (HX.out.later HR.out.up)
    go_ret
    exact ⟨rfl, HF.out.up⟩
  · have hq := HFA.out.2 rfl
    have HT := Lib.hid (hq.1 hle)
    have hd1 : decide ((sn : Int) ≤ (kn : Int)) = true := decide_eq_true (by omega)
    have hd2 : decide (sn ≤ kn) = true := decide_eq_true hle
    have hd3 : decide (t1 ≤ 0) = false := decide_eq_false ht
    clear hq ht
    clear HFA HEQ
    go_wp2_with (first
        | (go_at_call 30; have _t := tok9; go_must (refine (same_any e.row L A Ac n c nl cc _ (HE.out.row.le) (HE.out.later (HX.out.later HR.out.up).up).row.rb ((HX.out.later HR.out.up).sl (i := 1) rfl HN.out.1).rb).mono ?_); rw [HO.out]; rintro r u1 ⟨rfl, hb⟩; replace HR := Lib.hid (HR.out.later hb); clear hb tok9 f0)
        | (go_at_call 30; have _t := tok10; go_must (refine (same_any (K.take sn) S Ak As sn ck sn cs _ (by have := HSL.out; omega) ((HR.out.sl (i := 4) rfl HSL.out.1.2.2).take (by assumption)).rb (HR.out.sl (i := 0) rfl HSL.out.1.1).rb).mono ?_); rw [HT.out]; rintro r u2 ⟨rfl, hb⟩; replace HR := Lib.hid (HR.out.later hb); clear hb tok10)
        | (go_at_call 31; have _t := tok8; go_must (refine (rBcmp_any S K As Ak sn cs kn ck _ (by have := HSL.out; omega) (by have := HSL.out; omega) (HR.out.sl (i := 0) rfl HSL.out.1.1).rb (HR.out.sl (i := 4) rfl HSL.out.1.2.2).rb).mono ?_); rw [HC.out.1]; rintro r u3 ⟨rfl, hb⟩; replace HR := Lib.hid (HR.out.later hb); clear hb tok8)
        | (go_at_call 31; go_must (refine (rBcmp_any K V Ak Ab kn ck vn cb _ (by have := HSL.out; omega) (by have := HSL.out; omega) (HR.out.sl (i := 4) rfl HSL.out.1.2.2).rb (HR.out.sl (i := 1) rfl HSL.out.1.2.1).rb).mono ?_); rw [HC.out.2]; rintro r u4 ⟨rfl, hb⟩; replace HR := Lib.hid (HR.out.later hb); clear hb)
        | (go_at_call 19; have _t := tok6; go_must (refine (longer_any _ S As sn cs 17 _ (HR.out.own (i := 0) rfl) HSL.out.1.1 (by have := HSL.out; omega) HR.out.up.size).mono ?_); rintro r z1 ⟨h0, rfl, hl, hc⟩; have HW0 := Lib.hid HR.out; have HL0 := Lib.hid hl; replace HR := Lib.hid (HR.out.lng (i := 0) rfl hc); clear hl hc tok6)
        | (go_at_call 19; go_must (refine (longer_any _ V Ab vn cb 18 _ (HR.out.own (i := 0) rfl) HSL.out.1.2.1 (by have := HSL.out; omega) HR.out.up.size).mono ?_); rintro r z2 ⟨h1, rfl, hl, hc⟩; have HL1 := Lib.hid hl; replace HL0 := Lib.hid (HL0.out.aside (i := 0) (j := 1) HW0.out rfl rfl (by decide) hc); replace HR := Lib.hid (HR.out.lng (i := 0) rfl hc); clear hl hc HW0)
        | (go_at_call 26; go_must (refine (cstart_any L Ai nl ci _ (sl_front ((HX.out.later HR.out.up).sl (n := nl + 75) (i := 0) rfl (by rw [List.length_append, mkL_len, HN.out.1])) HN.out.1) (by have := HN.out; omega)).mono ?_); rw [HS.out]; rintro r y11 hp; obtain ⟨At, ct, rfl, _, ho, hb⟩ := hp.at_ (n := sn) HSL.out.1.1 rfl; replace HR := Lib.hid (HR.out.fresh hb ho); replace HL0 := Lib.hid (HL0.out.later hb); replace HL1 := Lib.hid (HL1.out.later hb); clear hp ho hb)
        | (go_at_call 27; go_must (refine (cbehind_any L Ai nl ci _ (sl_front ((HX.out.later HR.out.up).sl (n := nl + 75) (i := 0) rfl (by rw [List.length_append, mkL_len, HN.out.1])) HN.out.1) (by have := HN.out; omega)).mono ?_); rw [HV.out]; rintro r y12 hp; obtain ⟨Au, cu, rfl, _, ho, hb⟩ := hp.at_ (n := vn) HSL.out.1.2.1 rfl; replace HR := Lib.hid (HR.out.fresh hb ho); replace HL0 := Lib.hid (HL0.out.later hb); replace HL1 := Lib.hid (HL1.out.later hb); clear hp ho hb)
        | (go_at_call 30; have _t := tok7; go_must (refine (same_any S S At Aw sn ct sn cw _ (by have := HSL.out; omega) (HR.out.sl (i := 3) rfl HSL.out.1.1).rb (HR.out.sl (i := 0) rfl HSL.out.1.1).rb).mono ?_); rw [HSS.out]; rintro r y13 ⟨rfl, hb⟩; replace HR := Lib.hid (HR.out.later hb); replace HL0 := Lib.hid (HL0.out.later hb); replace HL1 := Lib.hid (HL1.out.later hb); clear hb tok7)
        | (go_at_call 30; go_must (refine (same_any V V Au Av vn cu vn cv _ (by have := HSL.out; omega) (HR.out.sl (i := 4) rfl HSL.out.1.2.1).rb (HR.out.sl (i := 1) rfl HSL.out.1.2.1).rb).mono ?_); rw [HVV.out]; rintro r y14 ⟨rfl, hb⟩; replace HR := Lib.hid (HR.out.later hb); replace HL0 := Lib.hid (HL0.out.later hb); replace HL1 := Lib.hid (HL1.out.later hb); clear hb)
        | (go_at_call 20; have _t := tok11; go_must (refine (full_any As sn h0 17 _ HL0.out (by have := HSL.out; omega)).mono ?_); rintro r _ ⟨rfl, rfl⟩; clear tok11)
        | (go_at_call 20; go_must (refine (full_any Ab vn h1 18 _ HL1.out (by have := HSL.out; omega)).mono ?_); rintro r _ ⟨rfl, rfl⟩)
        | (go_at_call 18; go_must (refine (intact_any L Ai Ac nl ci cc _ ((HX.out.later HR.out.up).sl (n := nl + 75) (i := 0) rfl (by rw [List.length_append, mkL_len, HN.out.1])) ((HX.out.later HR.out.up).sl (i := 1) rfl HN.out.1).rb (by have := HN.out; omega)).mono ?_); rintro r y15 ⟨rfl, hb⟩; replace HR := Lib.hid (HR.out.later hb); clear hb))
    have HF := Lib.hid (HX.out.later HR.out.up)
    go_ret
    exact ⟨rfl, HF.out.up⟩
  · have hq := HFA.out.2 rfl
    have hd1 : decide ((sn : Int) ≤ (kn : Int)) = false := decide_eq_false (by omega)
    have hd2 : decide (sn ≤ kn) = false := decide_eq_false hle
    have hd3 : decide (t1 ≤ 0) = true := decide_eq_true ht
    have hd4 : decide (t2 < 0) = false := decide_eq_false (by have := hq.2 ht; omega)
    clear hq ht tok10
    clear HFA HEQ
    go_wp2_with (first
        | (go_at_call 30; have _t := tok9; go_must (refine (same_any e.row L A Ac n c nl cc _ (HE.out.row.le) (HE.out.later (HX.out.later HR.out.up).up).row.rb ((HX.out.later HR.out.up).sl (i := 1) rfl HN.out.1).rb).mono ?_); rw [HO.out]; rintro r u1 ⟨rfl, hb⟩; replace HR := Lib.hid (HR.out.later hb); clear hb tok9 f0)
        | (go_at_call 30; have _t := tok10; go_must (refine (same_any (K.take sn) S Ak As sn ck sn cs _ (by have := HSL.out; omega) ((HR.out.sl (i := 4) rfl HSL.out.1.2.2).take (by assumption)).rb (HR.out.sl (i := 0) rfl HSL.out.1.1).rb).mono ?_); rw [HT.out]; rintro r u2 ⟨rfl, hb⟩; replace HR := Lib.hid (HR.out.later hb); clear hb tok10)
        | (go_at_call 31; have _t := tok8; go_must (refine (rBcmp_any S K As Ak sn cs kn ck _ (by have := HSL.out; omega) (by have := HSL.out; omega) (HR.out.sl (i := 0) rfl HSL.out.1.1).rb (HR.out.sl (i := 4) rfl HSL.out.1.2.2).rb).mono ?_); rw [HC.out.1]; rintro r u3 ⟨rfl, hb⟩; replace HR := Lib.hid (HR.out.later hb); clear hb tok8)
        | (go_at_call 31; go_must (refine (rBcmp_any K V Ak Ab kn ck vn cb _ (by have := HSL.out; omega) (by have := HSL.out; omega) (HR.out.sl (i := 4) rfl HSL.out.1.2.2).rb (HR.out.sl (i := 1) rfl HSL.out.1.2.1).rb).mono ?_); rw [HC.out.2]; rintro r u4 ⟨rfl, hb⟩; replace HR := Lib.hid (HR.out.later hb); clear hb)
        | (go_at_call 19; have _t := tok6; go_must (refine (longer_any _ S As sn cs 17 _ (HR.out.own (i := 0) rfl) HSL.out.1.1 (by have := HSL.out; omega) HR.out.up.size).mono ?_); rintro r z1 ⟨h0, rfl, hl, hc⟩; have HW0 := Lib.hid HR.out; have HL0 := Lib.hid hl; replace HR := Lib.hid (HR.out.lng (i := 0) rfl hc); clear hl hc tok6)
        | (go_at_call 19; go_must (refine (longer_any _ V Ab vn cb 18 _ (HR.out.own (i := 0) rfl) HSL.out.1.2.1 (by have := HSL.out; omega) HR.out.up.size).mono ?_); rintro r z2 ⟨h1, rfl, hl, hc⟩; have HL1 := Lib.hid hl; replace HL0 := Lib.hid (HL0.out.aside (i := 0) (j := 1) HW0.out rfl rfl (by decide) hc); replace HR := Lib.hid (HR.out.lng (i := 0) rfl hc); clear hl hc HW0)
        | (go_at_call 26; go_must (refine (cstart_any L Ai nl ci _ (sl_front ((HX.out.later HR.out.up).sl (n := nl + 75) (i := 0) rfl (by rw [List.length_append, mkL_len, HN.out.1])) HN.out.1) (by have := HN.out; omega)).mono ?_); rw [HS.out]; rintro r y11 hp; obtain ⟨At, ct, rfl, _, ho, hb⟩ := hp.at_ (n := sn) HSL.out.1.1 rfl; replace HR := Lib.hid (HR.out.fresh hb ho); replace HL0 := Lib.hid (HL0.out.later hb); replace HL1 := Lib.hid (HL1.out.later hb); clear hp ho hb)
        | (go_at_call 27; go_must (refine (cbehind_any L Ai nl ci _ (sl_front ((HX.out.later HR.out.up).sl (n := nl + 75) (i := 0) rfl (by rw [List.length_append, mkL_len, HN.out.1])) HN.out.1) (by have := HN.out; omega)).mono ?_); rw [HV.out]; rintro r y12 hp; obtain ⟨Au, cu, rfl, _, ho, hb⟩ := hp.at_ (n := vn) HSL.out.1.2.1 rfl; replace HR := Lib.hid (HR.out.fresh hb ho); replace HL0 := Lib.hid (HL0.out.later hb); replace HL1 := Lib.hid (HL1.out.later hb); clear hp ho hb)
        | (go_at_call 30; have _t := tok7; go_must (refine (same_any S S At Aw sn ct sn cw _ (by have := HSL.out; omega) (HR.out.sl (i := 3) rfl HSL.out.1.1).rb (HR.out.sl (i := 0) rfl HSL.out.1.1).rb).mono ?_); rw [HSS.out]; rintro r y13 ⟨rfl, hb⟩; replace HR := Lib.hid (HR.out.later hb); replace HL0 := Lib.hid (HL0.out.later hb); replace HL1 := Lib.hid (HL1.out.later hb); clear hb tok7)
        | (go_at_call 30; go_must (refine (same_any V V Au Av vn cu vn cv _ (by have := HSL.out; omega) (HR.out.sl (i := 4) rfl HSL.out.1.2.1).rb (HR.out.sl (i := 1) rfl HSL.out.1.2.1).rb).mono ?_); rw [HVV.out]; rintro r y14 ⟨rfl, hb⟩; replace HR := Lib.hid (HR.out.later hb); replace HL0 := Lib.hid (HL0.out.later hb); replace HL1 := Lib.hid (HL1.out.later hb); clear hb)
        | (go_at_call 20; have _t := tok11; go_must (refine (full_any As sn h0 17 _ HL0.out (by have := HSL.out; omega)).mono ?_); rintro r _ ⟨rfl, rfl⟩; clear tok11)
        | (go_at_call 20; go_must (refine (full_any Ab vn h1 18 _ HL1.out (by have := HSL.out; omega)).mono ?_); rintro r _ ⟨rfl, rfl⟩)
        | (go_at_call 18; go_must (refine (intact_any L Ai Ac nl ci cc _ ((HX.out.later HR.out.up).sl (n := nl + 75) (i := 0) rfl (by rw [List.length_append, mkL_len, HN.out.1])) ((HX.out.later HR.out.up).sl (i := 1) rfl HN.out.1).rb (by have := HN.out; omega)).mono ?_); rintro r y15 ⟨rfl, hb⟩; replace HR := Lib.hid (HR.out.later hb); clear hb))
    have HF := Lib.hid (HX.out.later HR.out.up)
    go_ret
    exact ⟨rfl, HF.out.up⟩
  · have hd1 : decide ((sn : Int) ≤ (kn : Int)) = false := decide_eq_false (by omega)
    have hd2 : decide (sn ≤ kn) = false := decide_eq_false hle
    have hd3 : decide (t1 ≤ 0) = false := decide_eq_false ht
    clear ht tok10
    clear HFA HEQ
    go_wp2_with (first
        | (go_at_call 30; have _t := tok9; go_must (refine (same_any e.row L A Ac n c nl cc _ (HE.out.row.le) (HE.out.later (HX.out.later HR.out.up).up).row.rb ((HX.out.later HR.out.up).sl (i := 1) rfl HN.out.1).rb).mono ?_); rw [HO.out]; rintro r u1 ⟨rfl, hb⟩; replace HR := Lib.hid (HR.out.later hb); clear hb tok9 f0)
        | (go_at_call 30; have _t := tok10; go_must (refine (same_any (K.take sn) S Ak As sn ck sn cs _ (by have := HSL.out; omega) ((HR.out.sl (i := 4) rfl HSL.out.1.2.2).take (by assumption)).rb (HR.out.sl (i := 0) rfl HSL.out.1.1).rb).mono ?_); rw [HT.out]; rintro r u2 ⟨rfl, hb⟩; replace HR := Lib.hid (HR.out.later hb); clear hb tok10)
        | (go_at_call 31; have _t := tok8; go_must (refine (rBcmp_any S K As Ak sn cs kn ck _ (by have := HSL.out; omega) (by have := HSL.out; omega) (HR.out.sl (i := 0) rfl HSL.out.1.1).rb (HR.out.sl (i := 4) rfl HSL.out.1.2.2).rb).mono ?_); rw [HC.out.1]; rintro r u3 ⟨rfl, hb⟩; replace HR := Lib.hid (HR.out.later hb); clear hb tok8)
        | (go_at_call 31; go_must (refine (rBcmp_any K V Ak Ab kn ck vn cb _ (by have := HSL.out; omega) (by have := HSL.out; omega) (HR.out.sl (i := 4) rfl HSL.out.1.2.2).rb (HR.out.sl (i := 1) rfl HSL.out.1.2.1).rb).mono ?_); rw [HC.out.2]; rintro r u4 ⟨rfl, hb⟩; replace HR := Lib.hid (HR.out.later hb); clear hb)
        | (go_at_call 19; have _t := tok6; go_must (refine (longer_any _ S As sn cs 17 _ (HR.out.own (i := 0) rfl) HSL.out.1.1 (by have := HSL.out; omega) HR.out.up.size).mono ?_); rintro r z1 ⟨h0, rfl, hl, hc⟩; have HW0 := Lib.hid HR.out; have HL0 := Lib.hid hl; replace HR := Lib.hid (HR.out.lng (i := 0) rfl hc); clear hl hc tok6)
        | (go_at_call 19; go_must (refine (longer_any _ V Ab vn cb 18 _ (HR.out.own (i := 0) rfl) HSL.out.1.2.1 (by have := HSL.out; omega) HR.out.up.size).mono ?_); rintro r z2 ⟨h1, rfl, hl, hc⟩; have HL1 := Lib.hid hl; replace HL0 := Lib.hid (HL0.out.aside (i := 0) (j := 1) HW0.out rfl rfl (by decide) hc); replace HR := Lib.hid (HR.out.lng (i := 0) rfl hc); clear hl hc HW0)
        | (go_at_call 26; go_must (refine (cstart_any L Ai nl ci _ (sl_front ((HX.out.later HR.out.up).sl (n := nl + 75) (i := 0) rfl (by rw [List.length_append, mkL_len, HN.out.1])) HN.out.1) (by have := HN.out; omega)).mono ?_); rw [HS.out]; rintro r y11 hp; obtain ⟨At, ct, rfl, _, ho, hb⟩ := hp.at_ (n := sn) HSL.out.1.1 rfl; replace HR := Lib.hid (HR.out.fresh hb ho); replace HL0 := Lib.hid (HL0.out.later hb); replace HL1 := Lib.hid (HL1.out.later hb); clear hp ho hb)
        | (go_at_call 27; go_must (refine (cbehind_any L Ai nl ci _ (sl_front ((HX.out.later HR.out.up).sl (n := nl + 75) (i := 0) rfl (by rw [List.length_append, mkL_len, HN.out.1])) HN.out.1) (by have := HN.out; omega)).mono ?_); rw [HV.out]; rintro r y12 hp; obtain ⟨Au, cu, rfl, _, ho, hb⟩ := hp.at_ (n := vn) HSL.out.1.2.1 rfl; replace HR := Lib.hid (HR.out.fresh hb ho); replace HL0 := Lib.hid (HL0.out.later hb); replace HL1 := Lib.hid (HL1.out.later hb); clear hp ho hb)
        | (go_at_call 30; have _t := tok7; go_must (refine (same_any S S At Aw sn ct sn cw _ (by have := HSL.out; omega) (HR.out.sl (i := 3) rfl HSL.out.1.1).rb (HR.out.sl (i := 0) rfl HSL.out.1.1).rb).mono ?_); rw [HSS.out]; rintro r y13 ⟨rfl, hb⟩; replace HR := Lib.hid (HR.out.later hb); replace HL0 := Lib.hid (HL0.out.later hb); replace HL1 := Lib.hid (HL1.out.later hb); clear hb tok7)
        | (go_at_call 30; go_must (refine (same_any V V Au Av vn cu vn cv _ (by have := HSL.out; omega) (HR.out.sl (i := 4) rfl HSL.out.1.2.1).rb (HR.out.sl (i := 1) rfl HSL.out.1.2.1).rb).mono ?_); rw [HVV.out]; rintro r y14 ⟨rfl, hb⟩; replace HR := Lib.hid (HR.out.later hb); replace HL0 := Lib.hid (HL0.out.later hb); replace HL1 := Lib.hid (HL1.out.later hb); clear hb)
        | (go_at_call 20; have _t := tok11; go_must (refine (full_any As sn h0 17 _ HL0.out (by have := HSL.out; omega)).mono ?_); rintro r _ ⟨rfl, rfl⟩; clear tok11)
        | (go_at_call 20; go_must (refine (full_any Ab vn h1 18 _ HL1.out (by have := HSL.out; omega)).mono ?_); rintro r _ ⟨rfl, rfl⟩)
        | (go_at_call 18; go_must (refine (intact_any L Ai Ac nl ci cc _ ((HX.out.later HR.out.up).sl (n := nl + 75) (i := 0) rfl (by rw [List.length_append, mkL_len, HN.out.1])) ((HX.out.later HR.out.up).sl (i := 1) rfl HN.out.1).rb (by have := HN.out; omega)).mono ?_); rintro r y15 ⟨rfl, hb⟩; replace HR := Lib.hid (HR.out.later hb); clear hb))
    have HF := Lib.hid (HX.out.later HR.out.up)
    go_ret
    exact ⟨rfl, HF.out.up⟩
theorem rows_any (b : List UInt8) (A0 : Option Addr) (n0 c0 : Nat) (e : Ent) (A : Option Addr) (n c : Nat) (B : Option Addr) (m d : Nat) (D : Option Addr) (v q : Nat) (w : World) (hs : Sl w A0 n0 c0 b) (he : En w A n c B m d D v q e) :
    Calls Try.prog 6 #[.slice A0 n0 c0, entV A n c B m d D v q e] w fun r w' => r = .returned (.bool true) ∧ Below w.heap.size w w' := by
  by_cases hk : (KeyE e).2 = 0
  · by_cases hz : (StartE (b.take 5000)).2 = 0
    · exact rows_c b A0 n0 c0 e A n c B m d D v q w hs he hk hz
    · exact rows_b b A0 n0 c0 e A n c B m d D v q w hs he hk hz
  · exact rows_a b A0 n0 c0 e A n c B m d D v q w hs he hk
end Go.Proofs.Ytcikhlieaoanoaa

/-
  Boxes written cell by cell. Over any program.
-/
namespace Go.Proofs.Ytcikhlieaoanoaa
open Go.RowKit

section
variable {T : TypeId} {w x y : World} {bs : List Bx1} {rs : RowL} {i g : Nat} {cs vs : List Value}
/-- A box is written. -/
theorem St.write (h : St T w bs rs x) (hb : bs[i]? = some (some (g, cs))) (hc : Chg (fun b => b = g) x y) (hr' : y.rangeAt g 0 vs) (hfz : ∀ q, y.frozen? q = x.frozen? q) : St T w (bs.set i (some (g, vs))) rs y := by
  obtain ⟨hw, hx, hr, hf⟩ := h.box i g cs hb
  refine ⟨h.up.trans (hc.below h.up.size fun k _ hk => by rw [hk]; exact hw), fun j g' ds hj => ?_, fun j q g' ds g'' ds' hj hq hne => ?_, h.rows.chg hc fun q r hq a ha => h.off i q g cs r a hb hq ha, fun j q g' ds r a hj hq ha => ?_⟩
  · rcases set_get hj with ⟨rfl, e⟩ | ⟨h1, hj⟩
    · injection e with e; injection e with e1 e2; subst e1; subst e2
      exact ⟨hw, Nat.lt_of_lt_of_le hx hc.size, hr', fun j => (hfz _).trans (hf j)⟩
    · obtain ⟨a1, a2, a3, a4⟩ := h.box j g' ds hj
      exact ⟨a1, Nat.lt_of_lt_of_le a2 hc.size, fun k v hk => hc.cell (a3 k v hk) (h.ne j i g' ds g cs hj hb h1), fun j => (hfz _).trans (a4 j)⟩
  · rcases set_get hj with ⟨rfl, e⟩ | ⟨h1, hj1⟩ <;> rcases set_get hq with ⟨rfl, e'⟩ | ⟨h2, hq1⟩
    · exact absurd rfl hne
    · injection e with e; injection e with e1 _; subst e1
      exact h.ne j q g cs g'' ds' hb hq1 hne
    · injection e' with e'; injection e' with e1 _; subst e1
      exact h.ne j q g' ds g cs hj1 hb hne
    · exact h.ne j q g' ds g'' ds' hj1 hq1 hne
  · rcases set_get hj with ⟨rfl, e⟩ | ⟨h1, hj⟩
    · injection e with e; injection e with e1 _; subst e1
      exact h.off _ q g cs r a hb hq ha
    · exact h.off j q g' ds r a hj hq ha
/-- One cell of a box is written. -/
theorem St.put1 (h : St T w bs rs x) (hb : bs[i]? = some (some (g, cs))) (j : Nat) (v : Value) : St T w (bs.set i (some (g, cs.set j v))) rs (x.setCells g j [v]) ∧ Chg (fun b => b = g) x (x.setCells g j [v]) := by
  have hc := setCells_chg g [v] j x
  obtain ⟨hw, hx, hr, hf⟩ := h.box i g cs hb
  refine ⟨h.write hb hc (fun k u hk => ?_) fun q => World.frozen?_setCells _ _ _ _ _, hc⟩
  show (x.setCell ⟨g, j, none⟩ v).cell? ⟨g, 0 + k, none⟩ = some u
  rw [Nat.zero_add]
  rw [List.getElem?_set] at hk
  by_cases e : j = k
  · subst e
    rw [if_pos rfl] at hk
    split at hk
    · rename_i hlt
      injection hk with hk; subst hk
      have := hr j _ (List.getElem?_eq_getElem hlt)
      rw [Nat.zero_add] at this
      exact World.cell?_setCell_same _ _ _ this
    · cases hk
  · rw [if_neg e] at hk
    rw [World.cell?_setCell_other _ _ _ _ (fun e' => by injection e' with _ e' _; exact e e')]
    have := hr k u hk
    rwa [Nat.zero_add] at this
end
section
variable {P : Program} {ops : Array Oper} {Q : Exit → Act → World → Prop}
theorem one_cells {v : Value} (h : v.oneCell' = true) : v.cells = #[v] := by cases v <;> first | rfl | simp_all [Value.oneCell']
theorem run_storeVar_one (w : World) (b o : Nat) (ty : TypeId) (v : Value) (hs : (w.cell? ⟨b, o, none⟩).isSome = true) (hf : w.frozen? ⟨b, o, none⟩ = false) (h1 : v.oneCell' = true) (hi : (P.info? ty).map (·.size) = some 1) :
    (storeVar ty ⟨b, o, none⟩ v).run P w = .ok () (w.setCells b o [v]) := by
  have := run_storeCells_cells (P := P) b o [v] 0 w (fun j hj => by
    obtain rfl : j = 0 := (by simpa using hj)
    simpa using hs) (fun j hj => by
    obtain rfl : j = 0 := (by simpa using hj)
    simpa using hf) (fun u hu => by
    obtain rfl : u = v := (by simpa using hu)
    exact h1)
  cases hq : P.info? ty with
  | none => simp [hq] at hi
  | some i =>
    have hs : i.size = 1 := by simpa [hq] using hi
    simp only [Nat.add_zero] at this
    simp [storeVar, sizeOf, typeInfo, hq, one_cells h1, hs, this]
theorem wpList_store_cell {rest : List Oper} {o : Oper} {a : Act} {W : World} (hgd : Region.wanted o (yielded ops a.tmps) = true) (ty : TypeId) (x y : Operand) (ho : o.op = .store ty x y) {T : TypeId} {w : World} {bs : List Bx1} {rs : RowL} (h : St T w bs rs W) (i : Nat) {g : Nat} {cs : List Value} (hb : bs[i]? = some (some (g, cs)))
    (j : Nat) (hx : a.eval x = .pointer (some ⟨g, j, none⟩)) (hj : j < cs.length) (v : Value) (hy : a.eval y = v) (ht : (P.info? ty).map (·.size) = some 1) (h1 : v.oneCell' = true)
    (hK : ∀ W', St T w (bs.set i (some (g, cs.set j v))) rs W' → Chg (fun b => b = g) W W' → wpList P ops Q rest (a.put o.dst undef) W') : wpList P ops Q (o :: rest) a W := by
  refine BigFrame.wpList_want hgd fun _ hk => ?_
  have hp := h.put1 hb j v
  unfold Oper.wp execOp
  have hs : (W.cell? ⟨g, j, none⟩).isSome = true := by
    rw [h.cell hb (List.getElem?_eq_getElem hj)]; rfl
  simp only [ho, hx, hy, Instr.storeAt, Instr.sureAddr, Sem.run_bind, Sem.run_pure, Result.andThen_ok, run_storeVar_one W g j ty v hs (h.fz hb j) h1 ht]
  exact hk _ _ (hK _ hp.1 hp.2)
end
end Go.Proofs.Ytcikhlieaoanoaa

/-
  CellBack walked. (Printed by gen_back.py.)
-/
namespace Go.Proofs.Ytcikhlieaoanoaa
open Go.RowKit

theorem en_check {w : World} {A B D : Option Addr} {n c m d v q : Nat} {e : Ent} (h : En w A n c B m d D v q e) : checkN n e.fam m e.ts e.seq e.kind v = checkE e := by
  unfold checkE
  rw [h.row.len, h.qual.len, h.val.len]
set_option maxRecDepth 100000 in
set_option maxHeartbeats 4000000 in
theorem back_a (e : Ent) (A : Option Addr) (n c : Nat) (B : Option Addr) (m d : Nat) (D : Option Addr) (v q : Nat) (A1 : Option Addr) (n1 c1 : Nat) (l1 : List UInt8) (A2 : Option Addr) (n2 c2 : Nat) (l2 : List UInt8) (A3 : Option Addr) (n3 c3 : Nat) (l3 : List UInt8) (hk : checkE e ≠ 0) (w : World) (he : En w A n c B m d D v q e) (_h1 : Sl w A1 n1 c1 l1) (_h2 : Sl w A2 n2 c2 l2) (ha : Sl w A3 n3 c3 l3) (hn : n3 ≤ 140737488355000) :
    Calls Try.prog 9 #[entV A n c B m d D v q e, .slice A1 n1 c1, .slice A2 n2 c2, .slice A3 n3 c3] w fun r w' => r = .returned (.bool true) ∧ Below w.heap.size w w' := by
  obtain ⟨zc, hzc⟩ : ∃ z, z = checkE e := ⟨_, rfl⟩
  have HK : Hid (KeyE e = ([], zc)) := Lib.hid (by rw [hzc]; exact keyE_bad hk)
  have HCK : Hid (checkN n e.fam m e.ts e.seq e.kind v = zc) := Lib.hid (by rw [hzc]; exact en_check he)
  have hd : (zc == 0) = false := by rw [beq_eq_false_iff_ne, hzc]; exact hk
  have HZ := Lib.hid hd
  have HX : Hid (St 5 w [some (w.heap.size, entL A n c B m d D v q e)] [] (w.alloc (.cells (entL A n c B m d D v q e).toArray 27))) := Lib.hid ((St.nil 5 w).push _)
  have HE := Lib.hid he
  obtain ⟨E2, hE2⟩ : ∃ E, E = (ParseKeyE l3).1 := ⟨_, rfl⟩
  obtain ⟨z2, hz2⟩ : ∃ z, z = (ParseKeyE l3).2 := ⟨_, rfl⟩
  obtain ⟨E3, hE3⟩ : ∃ E, E = (UnpackE l3 0).1 := ⟨_, rfl⟩
  obtain ⟨p3, hp3'⟩ : ∃ p, p = (UnpackE l3 0).2.1 := ⟨_, rfl⟩
  obtain ⟨z3, hz3⟩ : ∃ z, z = (UnpackE l3 0).2.2 := ⟨_, rfl⟩
  obtain ⟨G3, hG3⟩ : ∃ G, G = packB E3 := ⟨_, rfl⟩
  have HP2 : Hid (ParseKeyE l3 = (E2, z2)) := Lib.hid (by rw [hE2, hz2])
  have HU3 : Hid (UnpackE l3 0 = (E3, p3, z3)) := Lib.hid (by rw [hE3, hp3', hz3])
  have HQ2 : Hid (z2 = 0 → KeyE E2 = (l3, 0) ∧ E2.val.length = 0) := Lib.hid (fun h => by
    obtain ⟨k1, k2, k3⟩ := ParseKey_is (b := l3) (by rw [← hz2]; exact h)
    rw [← hE2] at k1 k2 k3
    exact ⟨by rw [keyE_ok (of_ok k1), k2], by rw [k3]; rfl⟩)
  have HQ3 : Hid (z3 = 0 → PackE E3 = (G3, 0) ∧ p3 ≤ n3 ∧ G3.length = p3 ∧ (G3 == l3.take p3) = true) := Lib.hid (fun h => by
    obtain ⟨k1, k2, k3⟩ := unpack_is (b := l3) (by rw [← hz3]; exact h)
    rw [← hE3] at k1 k3
    rw [← hp3'] at k2 k3
    have hl := ha.len
    rw [hG3]
    exact ⟨by unfold PackE; rw [if_pos (of_ok k1)], by omega, by rw [k3, List.length_take]; omega, by rw [k3]; simp⟩)
  have HAN : Hid (n3 ≤ 140737488355000) := Lib.hid hn
  have HLA : Hid (l3.length = n3) := Lib.hid ha.len
  have HSA : Hid ((l3 == l3) = true) := Lib.hid (by simp)
  have HA := Lib.hid ha
  have hcap3 := ha.cap
  clear hE2 hz2 hE3 hp3' hz3 hG3 ha hn
  have tok1 : True := trivial
  clear he hk hzc _h1 _h2
  unfold entV
  go_enter Try.func9, Try.ntmps9
  go_wp2_with (first
    | (go_at_call 12; go_must (refine (told_any _).mono ?_); rintro r x1 ⟨rfl, hb⟩; replace HX := Lib.hid (HX.out.later hb); have HR := Lib.hid (St.nil 5 x1); clear hb)
    | (refine wpList_load_row7 rfl 27 (.tmp 4) rfl rfl ((HX.out.later HR.out.up).range (i := 0) rfl) ent_row ?_)
    | (go_at_call 25; have _t := tok1; go_must (refine (key_any e A n c B m d D v q _ (HE.out.later (HX.out.later HR.out.up).up)).mono ?_); rw [HK.out]; rintro r x2 hp; obtain ⟨Ak, ck, rfl, _, ho, hb⟩ := hp.at_ (n := 0) rfl rfl; replace HR := Lib.hid (HR.out.fresh hb ho); clear hp ho hb tok1)
    | (go_at_call 32; go_must (refine (check_any A n c e.fam B m d e.ts e.seq e.kind D v q _).mono ?_); rw [HCK.out]; rintro r x3 ⟨rfl, hb⟩; replace HR := Lib.hid (HR.out.later hb); clear hb))
  have HW : Hid (Below w.heap.size w x3) := Lib.hid (HX.out.later HR.out.up).up
  replace HR : Hid (St 5 x3 [] [] x3) := Lib.hid (St.nil _ _)
  clear HX HE HK HCK HZ hd
  have tk1 : True := trivial
  have tk2 : True := trivial
  have tk3 : True := trivial
  have tk4 : True := trivial
  by_cases hz2 : z2 = 0 <;> by_cases hz3 : z3 = 0
  · as_aux_lemma =>
    subst hz2
    have q2 := HQ2.out rfl
    have HK2 := Lib.hid q2.1
    have hv0 : decide (0 < (E2.val.length : Int)) = false := decide_eq_false (by have := q2.2; omega)
    have hv1 : decide (0 < E2.val.length) = false := decide_eq_false (by have := q2.2; omega)
    have hv2 : E2.val.length ≤ 0 := by have := q2.2; omega
    clear q2
    subst hz3
    have q3 := HQ3.out rfl
    have HK3 := Lib.hid q3.1
    have hp3 : p3 ≤ n3 := q3.2.1
    have HG3 := Lib.hid q3.2.2
    have hd4 : decide ((p3 : Int) ≤ (n3 : Int)) = true := decide_eq_true (by omega)
    have hd5 : decide (p3 ≤ n3) = true := decide_eq_true hp3
    have hd6 : p3 ≤ c3 := by omega
    clear q3
    clear HQ2 HQ3
    go_wp2_with (first
        | (go_at_call 15; go_must (refine (parsekey_any l3 A3 n3 c3 _ (HA.out.later (below_up HW.out HR.out.up)) (by have := HAN.out; omega)).mono ?_); rw [HP2.out]; rintro r y1 ⟨A21, c21, B21, d21, D21, q21, rfl, hr, hb⟩; replace HR := Lib.hid (HR.out.app hb hr); clear hr hb)
        | (have _t := tk1; refine wpList_alloc_st rfl 27 rfl HR.out zeroL ent_zero ?_; intro g21 w21 hst hgw; replace HR := Lib.hid hst; clear hst hgw tk1)
        | (have _t := tk2; refine wpList_store_st rfl 27 (.tmp 19) (.tmp 113) rfl HR.out 0 (g := g21) rfl rfl (entL A21 E2.row.length c21 B21 E2.qual.length d21 D21 E2.val.length q21 E2) rfl rfl ent_size (entL_one _ _ _ _ _ _ _ _ _ _) ?_; intro v21 hst hcg; replace HR := Lib.hid hst; clear hst hcg tk2)
        | (refine wpList_load_row7 rfl 27 (.tmp 19) rfl rfl (HR.out.range (i := 0) rfl) ent_row ?_)
        | (go_at_call 25; go_must (refine (key_any E2 A21 E2.row.length c21 B21 E2.qual.length d21 D21 E2.val.length q21 _ ⟨HR.out.sl (i := 0) rfl rfl, HR.out.sl (i := 1) rfl rfl, HR.out.sl (i := 2) rfl rfl⟩).mono ?_); rw [HK2.out]; rintro r y2 hp; obtain ⟨Ak2, ck2, rfl, _, ho, hb⟩ := hp.at_ (n := n3) HLA.out rfl; replace HR := Lib.hid (HR.out.fresh hb ho); clear hp ho hb)
        | (go_at_call 30; have _t := tk3; go_must (refine (same_any l3 l3 Ak2 A3 n3 ck2 n3 c3 _ (by have := HAN.out; omega) (HR.out.sl (i := 3) rfl HLA.out).rb (HA.out.later (below_up HW.out HR.out.up)).rb).mono ?_); rw [HSA.out]; rintro r y3 ⟨rfl, hb⟩; replace HR := Lib.hid (HR.out.later hb); have f6 := HR.out.cell (i := 0) rfl (j := 6) (v := .slice D21 E2.val.length q21) rfl; clear hb tk3)
        | (go_at_call 37; go_must (refine (unpack_any l3 A3 n3 c3 0 _ (HA.out.later (below_up HW.out HR.out.up)) (by have := HAN.out; omega)).mono ?_); rw [HU3.out]; rintro r y4 ⟨A23, c23, B23, d23, D23, q23, rfl, hr, hb⟩; replace HR := Lib.hid (HR.out.app hb hr); clear hr hb f6)
        | (have _t := tk4; refine wpList_alloc_st rfl 27 rfl HR.out zeroL ent_zero ?_; intro g23 w23 hst hgw; replace HR := Lib.hid hst; clear hst hgw tk4)
        | (refine wpList_store_st rfl 27 (.tmp 23) (.tmp 139) rfl HR.out 1 (g := g23) rfl rfl (entL A23 E3.row.length c23 B23 E3.qual.length d23 D23 E3.val.length q23 E3) rfl rfl ent_size (entL_one _ _ _ _ _ _ _ _ _ _) ?_; intro v23 hst hcg; replace HR := Lib.hid hst; clear hst hcg)
        | (refine wpList_load_row7 rfl 27 (.tmp 23) rfl rfl (HR.out.range (i := 1) rfl) ent_row ?_)
        | (go_at_call 35; go_must (refine (pack_any E3 A23 E3.row.length c23 B23 E3.qual.length d23 D23 E3.val.length q23 _ ⟨HR.out.sl (i := 4) rfl rfl, HR.out.sl (i := 5) rfl rfl, HR.out.sl (i := 6) rfl rfl⟩).mono ?_); rw [HK3.out]; rintro r y5 hp; obtain ⟨Ap3, cp3, rfl, _, ho, hb⟩ := hp.at_ (n := p3) HG3.out.1 rfl; replace HR := Lib.hid (HR.out.fresh hb ho); clear hp ho hb)
        | (go_at_call 30; go_must (refine (same_any G3 (l3.take p3) Ap3 A3 p3 cp3 p3 c3 _ (by have := HAN.out; omega) (HR.out.sl (i := 7) rfl HG3.out.1).rb ((HA.out.later (below_up HW.out HR.out.up)).take hp3).rb).mono ?_); rw [HG3.out.2]; rintro r y6 ⟨rfl, hb⟩; replace HR := Lib.hid (HR.out.later hb); clear hb))
    have HF := Lib.hid (below_up HW.out HR.out.up)
    go_ret
    exact ⟨rfl, HF.out⟩
  · as_aux_lemma =>
    subst hz2
    have q2 := HQ2.out rfl
    have HK2 := Lib.hid q2.1
    have hv0 : decide (0 < (E2.val.length : Int)) = false := decide_eq_false (by have := q2.2; omega)
    have hv1 : decide (0 < E2.val.length) = false := decide_eq_false (by have := q2.2; omega)
    have hv2 : E2.val.length ≤ 0 := by have := q2.2; omega
    clear q2
    have hd3 : (z3 != 0) = true := by rw [bne_iff_ne]; exact hz3
    clear hz3
    clear HQ2 HQ3
    go_wp2_with (first
        | (go_at_call 15; go_must (refine (parsekey_any l3 A3 n3 c3 _ (HA.out.later (below_up HW.out HR.out.up)) (by have := HAN.out; omega)).mono ?_); rw [HP2.out]; rintro r y1 ⟨A21, c21, B21, d21, D21, q21, rfl, hr, hb⟩; replace HR := Lib.hid (HR.out.app hb hr); clear hr hb)
        | (have _t := tk1; refine wpList_alloc_st rfl 27 rfl HR.out zeroL ent_zero ?_; intro g21 w21 hst hgw; replace HR := Lib.hid hst; clear hst hgw tk1)
        | (have _t := tk2; refine wpList_store_st rfl 27 (.tmp 19) (.tmp 113) rfl HR.out 0 (g := g21) rfl rfl (entL A21 E2.row.length c21 B21 E2.qual.length d21 D21 E2.val.length q21 E2) rfl rfl ent_size (entL_one _ _ _ _ _ _ _ _ _ _) ?_; intro v21 hst hcg; replace HR := Lib.hid hst; clear hst hcg tk2)
        | (refine wpList_load_row7 rfl 27 (.tmp 19) rfl rfl (HR.out.range (i := 0) rfl) ent_row ?_)
        | (go_at_call 25; go_must (refine (key_any E2 A21 E2.row.length c21 B21 E2.qual.length d21 D21 E2.val.length q21 _ ⟨HR.out.sl (i := 0) rfl rfl, HR.out.sl (i := 1) rfl rfl, HR.out.sl (i := 2) rfl rfl⟩).mono ?_); rw [HK2.out]; rintro r y2 hp; obtain ⟨Ak2, ck2, rfl, _, ho, hb⟩ := hp.at_ (n := n3) HLA.out rfl; replace HR := Lib.hid (HR.out.fresh hb ho); clear hp ho hb)
        | (go_at_call 30; have _t := tk3; go_must (refine (same_any l3 l3 Ak2 A3 n3 ck2 n3 c3 _ (by have := HAN.out; omega) (HR.out.sl (i := 3) rfl HLA.out).rb (HA.out.later (below_up HW.out HR.out.up)).rb).mono ?_); rw [HSA.out]; rintro r y3 ⟨rfl, hb⟩; replace HR := Lib.hid (HR.out.later hb); have f6 := HR.out.cell (i := 0) rfl (j := 6) (v := .slice D21 E2.val.length q21) rfl; clear hb tk3)
        | (go_at_call 37; go_must (refine (unpack_any l3 A3 n3 c3 0 _ (HA.out.later (below_up HW.out HR.out.up)) (by have := HAN.out; omega)).mono ?_); rw [HU3.out]; rintro r y4 ⟨A23, c23, B23, d23, D23, q23, rfl, hr, hb⟩; replace HR := Lib.hid (HR.out.app hb hr); clear hr hb f6)
        | (have _t := tk4; refine wpList_alloc_st rfl 27 rfl HR.out zeroL ent_zero ?_; intro g23 w23 hst hgw; replace HR := Lib.hid hst; clear hst hgw tk4)
        | (refine wpList_store_st rfl 27 (.tmp 23) (.tmp 139) rfl HR.out 1 (g := g23) rfl rfl (entL A23 E3.row.length c23 B23 E3.qual.length d23 D23 E3.val.length q23 E3) rfl rfl ent_size (entL_one _ _ _ _ _ _ _ _ _ _) ?_; intro v23 hst hcg; replace HR := Lib.hid hst; clear hst hcg))
    have HF := Lib.hid (below_up HW.out HR.out.up)
    go_ret
    exact ⟨rfl, HF.out⟩
  · as_aux_lemma =>
    have hd2 : (z2 == 0) = false := by rw [beq_eq_false_iff_ne]; exact hz2
    clear hz2
    subst hz3
    have q3 := HQ3.out rfl
    have HK3 := Lib.hid q3.1
    have hp3 : p3 ≤ n3 := q3.2.1
    have HG3 := Lib.hid q3.2.2
    have hd4 : decide ((p3 : Int) ≤ (n3 : Int)) = true := decide_eq_true (by omega)
    have hd5 : decide (p3 ≤ n3) = true := decide_eq_true hp3
    have hd6 : p3 ≤ c3 := by omega
    clear q3
    clear HQ2 HQ3
    go_wp2_with (first
        | (go_at_call 15; go_must (refine (parsekey_any l3 A3 n3 c3 _ (HA.out.later (below_up HW.out HR.out.up)) (by have := HAN.out; omega)).mono ?_); rw [HP2.out]; rintro r y1 ⟨A21, c21, B21, d21, D21, q21, rfl, hr, hb⟩; replace HR := Lib.hid (HR.out.app hb hr); clear hr hb)
        | (have _t := tk1; refine wpList_alloc_st rfl 27 rfl HR.out zeroL ent_zero ?_; intro g21 w21 hst hgw; replace HR := Lib.hid hst; clear hst hgw tk1)
        | (have _t := tk2; refine wpList_store_st rfl 27 (.tmp 19) (.tmp 113) rfl HR.out 0 (g := g21) rfl rfl (entL A21 E2.row.length c21 B21 E2.qual.length d21 D21 E2.val.length q21 E2) rfl rfl ent_size (entL_one _ _ _ _ _ _ _ _ _ _) ?_; intro v21 hst hcg; replace HR := Lib.hid hst; clear hst hcg tk2)
        | (go_at_call 37; go_must (refine (unpack_any l3 A3 n3 c3 0 _ (HA.out.later (below_up HW.out HR.out.up)) (by have := HAN.out; omega)).mono ?_); rw [HU3.out]; rintro r y4 ⟨A23, c23, B23, d23, D23, q23, rfl, hr, hb⟩; replace HR := Lib.hid (HR.out.app hb hr); clear hr hb)
        | (have _t := tk4; refine wpList_alloc_st rfl 27 rfl HR.out zeroL ent_zero ?_; intro g23 w23 hst hgw; replace HR := Lib.hid hst; clear hst hgw tk4)
        | (refine wpList_store_st rfl 27 (.tmp 23) (.tmp 139) rfl HR.out 1 (g := g23) rfl rfl (entL A23 E3.row.length c23 B23 E3.qual.length d23 D23 E3.val.length q23 E3) rfl rfl ent_size (entL_one _ _ _ _ _ _ _ _ _ _) ?_; intro v23 hst hcg; replace HR := Lib.hid hst; clear hst hcg)
        | (refine wpList_load_row7 rfl 27 (.tmp 23) rfl rfl (HR.out.range (i := 1) rfl) ent_row ?_)
        | (go_at_call 35; go_must (refine (pack_any E3 A23 E3.row.length c23 B23 E3.qual.length d23 D23 E3.val.length q23 _ ⟨HR.out.sl (i := 3) rfl rfl, HR.out.sl (i := 4) rfl rfl, HR.out.sl (i := 5) rfl rfl⟩).mono ?_); rw [HK3.out]; rintro r y5 hp; obtain ⟨Ap3, cp3, rfl, _, ho, hb⟩ := hp.at_ (n := p3) HG3.out.1 rfl; replace HR := Lib.hid (HR.out.fresh hb ho); clear hp ho hb)
        | (go_at_call 30; go_must (refine (same_any G3 (l3.take p3) Ap3 A3 p3 cp3 p3 c3 _ (by have := HAN.out; omega) (HR.out.sl (i := 6) rfl HG3.out.1).rb ((HA.out.later (below_up HW.out HR.out.up)).take hp3).rb).mono ?_); rw [HG3.out.2]; rintro r y6 ⟨rfl, hb⟩; replace HR := Lib.hid (HR.out.later hb); clear hb))
    have HF := Lib.hid (below_up HW.out HR.out.up)
    go_ret
    exact ⟨rfl, HF.out⟩
  · as_aux_lemma =>
    have hd2 : (z2 == 0) = false := by rw [beq_eq_false_iff_ne]; exact hz2
    clear hz2
    have hd3 : (z3 != 0) = true := by rw [bne_iff_ne]; exact hz3
    clear hz3
    clear HQ2 HQ3
    go_wp2_with (first
        | (go_at_call 15; go_must (refine (parsekey_any l3 A3 n3 c3 _ (HA.out.later (below_up HW.out HR.out.up)) (by have := HAN.out; omega)).mono ?_); rw [HP2.out]; rintro r y1 ⟨A21, c21, B21, d21, D21, q21, rfl, hr, hb⟩; replace HR := Lib.hid (HR.out.app hb hr); clear hr hb)
        | (have _t := tk1; refine wpList_alloc_st rfl 27 rfl HR.out zeroL ent_zero ?_; intro g21 w21 hst hgw; replace HR := Lib.hid hst; clear hst hgw tk1)
        | (have _t := tk2; refine wpList_store_st rfl 27 (.tmp 19) (.tmp 113) rfl HR.out 0 (g := g21) rfl rfl (entL A21 E2.row.length c21 B21 E2.qual.length d21 D21 E2.val.length q21 E2) rfl rfl ent_size (entL_one _ _ _ _ _ _ _ _ _ _) ?_; intro v21 hst hcg; replace HR := Lib.hid hst; clear hst hcg tk2)
        | (go_at_call 37; go_must (refine (unpack_any l3 A3 n3 c3 0 _ (HA.out.later (below_up HW.out HR.out.up)) (by have := HAN.out; omega)).mono ?_); rw [HU3.out]; rintro r y4 ⟨A23, c23, B23, d23, D23, q23, rfl, hr, hb⟩; replace HR := Lib.hid (HR.out.app hb hr); clear hr hb)
        | (have _t := tk4; refine wpList_alloc_st rfl 27 rfl HR.out zeroL ent_zero ?_; intro g23 w23 hst hgw; replace HR := Lib.hid hst; clear hst hgw tk4)
        | (refine wpList_store_st rfl 27 (.tmp 23) (.tmp 139) rfl HR.out 1 (g := g23) rfl rfl (entL A23 E3.row.length c23 B23 E3.qual.length d23 D23 E3.val.length q23 E3) rfl rfl ent_size (entL_one _ _ _ _ _ _ _ _ _ _) ?_; intro v23 hst hcg; replace HR := Lib.hid hst; clear hst hcg))
    have HF := Lib.hid (below_up HW.out HR.out.up)
    go_ret
    exact ⟨rfl, HF.out⟩
end Go.Proofs.Ytcikhlieaoanoaa

/-
  CellBack, the other half. (Printed by gen_back.py.)
-/
namespace Go.Proofs.Ytcikhlieaoanoaa
open Go.RowKit

def bareE (e : Ent) : Ent := { e with val := [] }
theorem slice_size : (Try.prog.info? 22).map (·.size) = some 1 := by kernel_rfl
theorem sl_own {base n c : Nat} {w : World} {A : Option Addr} {l : List UInt8} (h : w.ownsRow base 5 1 (.slice A n c) n (u8s l)) (hn : l.length = n) : Sl w A n c l := by
  subst hn; exact Sl.own h
theorem back_len {e : Ent} (h : checkE e = 0) : (packB e).length ≤ 100000 ∧ (keyE e).length ≤ 1048 := by
  have h1 := keys_len e
  unfold PackE KeyE at h1
  rw [if_pos h, if_pos h] at h1
  exact ⟨h1.2, keyE_len (ok_of h)⟩
set_option maxRecDepth 100000 in
set_option maxHeartbeats 4000000 in
theorem back_b (e : Ent) (A : Option Addr) (n c : Nat) (B : Option Addr) (m d : Nat) (D : Option Addr) (v q : Nat) (A1 : Option Addr) (n1 c1 : Nat) (l1 : List UInt8) (A2 : Option Addr) (n2 c2 : Nat) (l2 : List UInt8) (A3 : Option Addr) (n3 c3 : Nat) (l3 : List UInt8) (hk : checkE e = 0) (w : World) (he : En w A n c B m d D v q e) (h1 : Sl w A1 n1 c1 l1) (h2 : Sl w A2 n2 c2 l2) (ha : Sl w A3 n3 c3 l3) (hn : n3 ≤ 140737488355000) :
    Calls Try.prog 9 #[entV A n c B m d D v q e, .slice A1 n1 c1, .slice A2 n2 c2, .slice A3 n3 c3] w fun r w' => r = .returned (.bool true) ∧ Below w.heap.size w w' := by
  obtain ⟨K, hK⟩ : ∃ K, K = keyE e := ⟨_, rfl⟩
  obtain ⟨kn, hkn⟩ : ∃ n, n = K.length := ⟨_, rfl⟩
  obtain ⟨G, hG⟩ : ∃ K, K = packB e := ⟨_, rfl⟩
  obtain ⟨gn, hgn⟩ : ∃ n, n = G.length := ⟨_, rfl⟩
  have HK : Hid (KeyE e = (K, 0)) := Lib.hid (by rw [hK]; exact keyE_ok hk)
  have HG : Hid (PackE e = (G, 0)) := Lib.hid (by rw [hG]; unfold PackE; rw [if_pos hk])
  have HPB : Hid (ParseKeyE K = (bareE e, 0)) := Lib.hid (by rw [hK]; exact ParseKey_back (ok_of hk))
  have HKN : Hid (K.length = kn ∧ G.length = gn) := Lib.hid ⟨hkn.symm, hgn.symm⟩
  have HCK : Hid (checkN n e.fam m e.ts e.seq e.kind v = 0) := Lib.hid (by rw [← hk]; exact en_check he)
  obtain ⟨na, hna⟩ : ∃ x, x = min n1 1048576 := ⟨_, rfl⟩
  obtain ⟨nb, hnb⟩ : ∃ x, x = min n2 1048576 := ⟨_, rfl⟩
  obtain ⟨a, haa⟩ : ∃ x, x = l1.take na := ⟨_, rfl⟩
  obtain ⟨b, hbb⟩ : ∃ x, x = l2.take nb := ⟨_, rfl⟩
  have HBD : Hid (na ≤ 1048576 ∧ nb ≤ 1048576 ∧ gn ≤ 100000 ∧ kn ≤ 1048) := Lib.hid (by
    have h := back_len hk
    rw [← hG, ← hK] at h
    omega)
  have HNA : Hid ((n1 ≤ 1048576 ∧ na = n1) ∨ (1048576 < n1 ∧ na = 1048576 ∧ 1048576 ≤ c1)) := Lib.hid (by have := h1.cap; omega)
  have HNB : Hid ((n2 ≤ 1048576 ∧ nb = n2) ∨ (1048576 < n2 ∧ nb = 1048576 ∧ 1048576 ≤ c2)) := Lib.hid (by have := h2.cap; omega)
  have H1 : Hid (∀ x, Below w.heap.size w x → Sl x A1 na c1 a) := Lib.hid fun x hx => by rw [haa]; exact (h1.later hx).take (by omega)
  have H2 : Hid (∀ x, Below w.heap.size w x → Sl x A2 nb c2 b) := Lib.hid fun x hx => by rw [hbb]; exact (h2.later hx).take (by omega)
  have hal : a.length = na := by rw [haa, List.length_take, h1.len]; omega
  have hbl : b.length = nb := by rw [hbb, List.length_take, h2.len]; omega
  obtain ⟨pu, hpu⟩ : ∃ p, p = na + gn := ⟨_, rfl⟩
  have HUB : Hid (UnpackE (a ++ (G ++ b)) (na : Int) = (e, pu, 0)) := Lib.hid (by
    have h := unpack_back (ok_of hk) a b
    rw [← hG, hal, ← hgn, ← hpu] at h
    exact h)
  have hdu : ((pu : Int) != (na : Int) + (gn : Int)) = false := by rw [hpu]; simp
  have HDU := Lib.hid hdu
  have HBL : Hid (a.length = na ∧ b.length = nb) := Lib.hid ⟨hal, hbl⟩
  have HX : Hid (St 5 w [some (w.heap.size, entL A n c B m d D v q e)] [] (w.alloc (.cells (entL A n c B m d D v q e).toArray 27))) := Lib.hid ((St.nil 5 w).push _)
  have HE := Lib.hid he
  obtain ⟨E2, hE2⟩ : ∃ E, E = (ParseKeyE l3).1 := ⟨_, rfl⟩
  obtain ⟨z2, hz2⟩ : ∃ z, z = (ParseKeyE l3).2 := ⟨_, rfl⟩
  obtain ⟨E3, hE3⟩ : ∃ E, E = (UnpackE l3 0).1 := ⟨_, rfl⟩
  obtain ⟨p3, hp3'⟩ : ∃ p, p = (UnpackE l3 0).2.1 := ⟨_, rfl⟩
  obtain ⟨z3, hz3⟩ : ∃ z, z = (UnpackE l3 0).2.2 := ⟨_, rfl⟩
  obtain ⟨G3, hG3⟩ : ∃ G, G = packB E3 := ⟨_, rfl⟩
  have HP2 : Hid (ParseKeyE l3 = (E2, z2)) := Lib.hid (by rw [hE2, hz2])
  have HU3 : Hid (UnpackE l3 0 = (E3, p3, z3)) := Lib.hid (by rw [hE3, hp3', hz3])
  have HQ2 : Hid (z2 = 0 → KeyE E2 = (l3, 0) ∧ E2.val.length = 0) := Lib.hid (fun h => by
    obtain ⟨k1, k2, k3⟩ := ParseKey_is (b := l3) (by rw [← hz2]; exact h)
    rw [← hE2] at k1 k2 k3
    exact ⟨by rw [keyE_ok (of_ok k1), k2], by rw [k3]; rfl⟩)
  have HQ3 : Hid (z3 = 0 → PackE E3 = (G3, 0) ∧ p3 ≤ n3 ∧ G3.length = p3 ∧ (G3 == l3.take p3) = true) := Lib.hid (fun h => by
    obtain ⟨k1, k2, k3⟩ := unpack_is (b := l3) (by rw [← hz3]; exact h)
    rw [← hE3] at k1 k3
    rw [← hp3'] at k2 k3
    have hl := ha.len
    rw [hG3]
    exact ⟨by unfold PackE; rw [if_pos (of_ok k1)], by omega, by rw [k3, List.length_take]; omega, by rw [k3]; simp⟩)
  have HAN : Hid (n3 ≤ 140737488355000) := Lib.hid hn
  have HLA : Hid (l3.length = n3) := Lib.hid ha.len
  have HSA : Hid ((l3 == l3) = true) := Lib.hid (by simp)
  have HA := Lib.hid ha
  have hcap3 := ha.cap
  clear hE2 hz2 hE3 hp3' hz3 hG3 ha hn
  clear hK hkn hG hgn hna hnb haa hbb hal hbl hpu hdu he hk h1 h2
  have tok1 : True := trivial
  have tok2 : True := trivial
  have tok3 : True := trivial
  have tok4 : True := trivial
  have tok5 : True := trivial
  have tok6 : True := trivial
  have ta1 : True := trivial
  have ta2 : True := trivial
  have tok1b : True := trivial
  unfold entV
  go_enter Try.func9, Try.ntmps9
  go_wp2_with (first
    | (go_at_call 12; go_must (refine (told_any _).mono ?_); rintro r x1 ⟨rfl, hb⟩; replace HX := Lib.hid (HX.out.later hb); have HR := Lib.hid (St.nil 5 x1); clear hb)
    | (refine wpList_load_row7 rfl 27 (.tmp 4) rfl rfl ((HX.out.later HR.out.up).range (i := 0) rfl) ent_row ?_)
    | (go_at_call 25; have _t := tok1; go_must (refine (key_any e A n c B m d D v q _ (HE.out.later (HX.out.later HR.out.up).up)).mono ?_); rw [HK.out]; rintro r x2 hp; obtain ⟨Ak, ck, rfl, _, ho, hb⟩ := hp.at_ (n := kn) HKN.out.1 rfl; replace HR := Lib.hid (HR.out.fresh hb ho); clear hp ho hb tok1)
    | (go_at_call 32; go_must (refine (check_any A n c e.fam B m d e.ts e.seq e.kind D v q _).mono ?_); rw [HCK.out]; rintro r x3 ⟨rfl, hb⟩; replace HR := Lib.hid (HR.out.later hb); clear hb))
  go_wp2_with (first
    | (go_at_call 15; have _t := tok2; go_must (refine (parsekey_any K Ak kn ck _ (HR.out.sl (i := 0) rfl HKN.out.1) (by have := HBD.out; omega)).mono ?_); rw [HPB.out]; rintro r x4 ⟨A11, c11, B11, d11, D11, q11, rfl, hr, hb⟩; replace HR := Lib.hid (HR.out.app hb hr); clear hr hb tok2)
    | (have _t := tok3; refine wpList_alloc_st rfl 27 rfl HR.out zeroL ent_zero ?_; intro g11 w11 hst hgw; replace HR := Lib.hid hst; clear hst hgw tok3)
    | (have _t := tok4; refine wpList_store_st rfl 27 (.tmp 11) (.tmp 45) rfl HR.out 0 (g := g11) rfl rfl (entL A11 (bareE e).row.length c11 B11 (bareE e).qual.length d11 D11 (bareE e).val.length q11 (bareE e)) rfl rfl ent_size (entL_one _ _ _ _ _ _ _ _ _ _) ?_; intro v11 hst hcg; replace HR := Lib.hid hst; clear hst hcg tok4)
    | (refine wpList_load_row7 rfl 27 (.tmp 4) rfl rfl ((HX.out.later HR.out.up).range (i := 0) rfl) ent_row ?_)
    | (have _t := tok5; refine wpList_alloc_st rfl 27 rfl HR.out zeroL ent_zero ?_; intro g13 w13 hst hgw; replace HR := Lib.hid hst; clear hst hgw tok5)
    | (refine wpList_store_st rfl 27 (.tmp 13) (.tmp 47) rfl HR.out 1 (g := g13) rfl rfl (entL A n c B m d D v q e) rfl rfl ent_size (entL_one _ _ _ _ _ _ _ _ _ _) ?_; intro v13 hst hcg; replace HR := Lib.hid hst; clear hst hcg)
    | (refine wpList_store_cell rfl 22 (.tmp 48) (.const (.slice none 0 0)) rfl HR.out 1 (g := g13) rfl 6 rfl (by show 6 < 7; decide) (.slice none 0 0) rfl slice_size rfl ?_; intro v14 hst hcg; replace HR := Lib.hid hst; clear hst hcg)
    | (refine wpList_load_row7 rfl 27 (.tmp 11) rfl rfl (HR.out.range (i := 0) rfl) ent_row ?_)
    | (refine wpList_load_row7 rfl 27 (.tmp 13) rfl rfl (HR.out.range (i := 1) rfl) ent_row ?_))
  go_wp2_with (first
    | (go_at_call 17; have _t := tok6; go_must (refine (sameEntry_any (bareE e) (bareE e) A11 (bareE e).row.length c11 B11 (bareE e).qual.length d11 D11 (bareE e).val.length q11 A n c B m d none 0 0 _ rfl ⟨HR.out.sl (i := 1) rfl rfl, HR.out.sl (i := 2) rfl rfl, HR.out.sl (i := 3) rfl rfl⟩ ⟨(HE.out.later (HX.out.later HR.out.up).up).row, (HE.out.later (HX.out.later HR.out.up).up).qual, Sl.none _⟩).mono ?_); rintro r x5 ⟨rfl, hb⟩; replace HR := Lib.hid (HR.out.later hb); clear hb tok6)
    | (refine wpList_load_row7 rfl 27 (.tmp 4) rfl rfl ((HX.out.later HR.out.up).range (i := 0) rfl) ent_row ?_))
  go_upto_if 64 with (go_at_call 35; go_must (refine (pack_any e A n c B m d D v q _ (HE.out.later (HX.out.later HR.out.up).up)).mono ?_); rw [HG.out]; rintro r y5 hp; obtain ⟨Ap, cp, rfl, _, ho, hb⟩ := hp.at_ (n := gn) HKN.out.2 rfl; replace HR := Lib.hid (HR.out.fresh hb ho); clear hp ho hb)
  go_cut [1] (fun s wx => s = .slice A1 na c1 ∧ y5 = wx)
  case first => as_aux_lemma =>
    rcases HNA.out with ⟨h, e'⟩ | ⟨h, e', h'⟩
    · have E := Lib.hid e'
      clear e'
      have hq : decide ((1048576 : Int) < (n1 : Int)) = false := decide_eq_false (by omega)
      go_wp2
      go_meet
      exact ⟨by rw [E.out], rfl⟩
    · have E := Lib.hid e'
      clear e'
      have hq : decide ((1048576 : Int) < (n1 : Int)) = true := decide_eq_true (by omega)
      have hq2 : (1048576 : Int) ≤ (n1 : Int) := by omega
      have hq3 : (1048576 : Int) ≤ (c1 : Int) := by omega
      go_wp2
      go_meet
      exact ⟨by rw [E.out], rfl⟩
  obtain ⟨rfl, rfl⟩ := hcut
  go_upto_if 69 with fail
  go_cut [2] (fun s wx => s = .slice A2 nb c2 ∧ y5 = wx)
  case first => as_aux_lemma =>
    rcases HNB.out with ⟨h, e'⟩ | ⟨h, e', h'⟩
    · have E := Lib.hid e'
      clear e'
      have hq : decide ((1048576 : Int) < (n2 : Int)) = false := decide_eq_false (by omega)
      go_wp2
      go_meet
      exact ⟨by rw [E.out], rfl⟩
    · have E := Lib.hid e'
      clear e'
      have hq : decide ((1048576 : Int) < (n2 : Int)) = true := decide_eq_true (by omega)
      have hq2 : (1048576 : Int) ≤ (n2 : Int) := by omega
      have hq3 : (1048576 : Int) ≤ (c2 : Int) := by omega
      go_wp2
      go_meet
      exact ⟨by rw [E.out], rfl⟩
  obtain ⟨rfl, rfl⟩ := hcut
  as_aux_lemma =>
    have HAA : Hid (Sl y5 A1 na c1 a) := Lib.hid (H1.out _ (HX.out.later HR.out.up).up)
    have HBB : Hid (∀ x, Below y5.heap.size y5 x → Sl x A2 nb c2 b) := Lib.hid fun x hx => H2.out _ (below_up (HX.out.later HR.out.up).up hx)
    clear H1 H2 HNA HNB
    have hdu := HDU.out
    have b1 : na ≤ 1048576 := HBD.out.1
    have b2 : gn ≤ 100000 := HBD.out.2.2.1
    go_wp2_with (first
      | (at_builtin; have _t := ta1; go_must (refine wpList_append_reads _ rfl (.tmp 72) (.tmp 73) rfl Try.u8s' y5.heap.size (.slice none 0 0) 0 [] rfl (own_nil _ _ _ _) _ A1 na c1 (u8s a) rfl HAA.out.rb (u8s_one _) (by have := HBD.out; unfold maxLen; omega) (by have := HBD.out; omega) (Nat.le_refl _) ?_); intro v1 u1 hown hg hat; have HZ1 := Lib.hid (below_app (Below.refl y5.heap.size y5) (own_nil _ y5.heap.size 5 1) hg (Nat.le_refl _) (Nat.le_refl _)); rw [List.nil_append, Nat.zero_add] at hown; have HO1 := Lib.hid hown; clear hown hg hat; clear ta1)
      | (at_builtin; have _t := ta2; go_must (refine wpList_append_reads _ rfl (.tmp 75) (.tmp 76) rfl Try.u8s' y5.heap.size v1 na (u8s a) rfl HO1.out _ Ap gn cp (u8s G) rfl ((HR.out.later HZ1.out).sl (i := 4) rfl HKN.out.2).rb (u8s_one _) (by have := HBD.out; unfold maxLen; omega) (by have := HBD.out; omega) HZ1.out.size ?_); intro v2 u2 hown hg hat; have HZ2 := Lib.hid (below_app HZ1.out HO1.out hg HZ1.out.size (Nat.le_refl _)); rw [← u8s_append] at hown; have HO2 := Lib.hid hown; clear hown hg hat; clear ta2)
      | (at_builtin; go_must (refine wpList_append_reads _ rfl (.tmp 78) (.tmp 79) rfl Try.u8s' y5.heap.size v2 (na + gn) (u8s (a ++ G)) rfl HO2.out _ A2 nb c2 (u8s b) rfl (HBB.out _ HZ2.out).rb (u8s_one _) (by have := HBD.out; unfold maxLen; omega) (by have := HBD.out; omega) HZ2.out.size ?_); intro v3 u3 hown hg hat; have HZ3 := Lib.hid (below_app HZ2.out HO2.out hg HZ2.out.size (Nat.le_refl _)); rw [← u8s_append, List.append_assoc] at hown; obtain ⟨Ab, cb, rfl, _⟩ := own_slice hown; have HSB : Hid (Sl u3 Ab (na + gn + nb) cb (a ++ (G ++ b))) := Lib.hid (sl_own hown (by have h1 := HBL.out; have h2 := HKN.out; simp only [List.length_append]; omega)); replace HR := Lib.hid (HR.out.later HZ3.out); clear hown hg hat))
    go_wp2_with (first
      | (go_at_call 37; go_must (refine (unpack_any (a ++ (G ++ b)) Ab (na + gn + nb) cb (na : Int) _ HSB.out (by have := HBD.out; omega)).mono ?_); rw [HUB.out]; rintro r y6 ⟨A16, c16, B16, d16, D16, q16, rfl, hr, hb⟩; replace HR := Lib.hid (HR.out.app hb hr); clear hr hb)
      | (have _t := tok1b; refine wpList_alloc_st rfl 27 rfl HR.out zeroL ent_zero ?_; intro g16 w16 hst hgw; replace HR := Lib.hid hst; clear hst hgw tok1b)
      | (refine wpList_store_st rfl 27 (.tmp 16) (.tmp 86) rfl HR.out 2 (g := g16) rfl rfl (entL A16 e.row.length c16 B16 e.qual.length d16 D16 e.val.length q16 e) rfl rfl ent_size (entL_one _ _ _ _ _ _ _ _ _ _) ?_; intro v16 hst hcg; replace HR := Lib.hid hst; clear hst hcg)
      | (refine wpList_load_row7 rfl 27 (.tmp 16) rfl rfl (HR.out.range (i := 2) rfl) ent_row ?_)
      | (refine wpList_load_row7 rfl 27 (.tmp 4) rfl rfl ((HX.out.later HR.out.up).range (i := 0) rfl) ent_row ?_))
    go_wp2_with (first
      | (go_at_call 17; go_must (refine (sameEntry_any e e A16 e.row.length c16 B16 e.qual.length d16 D16 e.val.length q16 A n c B m d D v q _ rfl ⟨HR.out.sl (i := 5) rfl rfl, HR.out.sl (i := 6) rfl rfl, HR.out.sl (i := 7) rfl rfl⟩ (HE.out.later (HX.out.later HR.out.up).up)).mono ?_); rintro r x3 ⟨rfl, hb⟩; replace HR := Lib.hid (HR.out.later hb); clear hb))
    have HW : Hid (Below w.heap.size w x3) := Lib.hid (HX.out.later HR.out.up).up
    clear HX HE HK HG HPB HKN HCK HBD HUB HDU HBL HAA HBB HZ1 HZ2 HZ3 HO1 HO2 HSB hdu b1 b2
    replace HR : Hid (St 5 x3 [] [] x3) := Lib.hid (St.nil _ _)
    have tk1 : True := trivial
    have tk2 : True := trivial
    have tk3 : True := trivial
    have tk4 : True := trivial
    as_aux_lemma =>
      by_cases hz2 : z2 = 0 <;> by_cases hz3 : z3 = 0
      · as_aux_lemma =>
        subst hz2
        have q2 := HQ2.out rfl
        have HK2 := Lib.hid q2.1
        have hv0 : decide (0 < (E2.val.length : Int)) = false := decide_eq_false (by have := q2.2; omega)
        have hv1 : decide (0 < E2.val.length) = false := decide_eq_false (by have := q2.2; omega)
        have hv2 : E2.val.length ≤ 0 := by have := q2.2; omega
        clear q2
        subst hz3
        have q3 := HQ3.out rfl
        have HK3 := Lib.hid q3.1
        have hp3 : p3 ≤ n3 := q3.2.1
        have HG3 := Lib.hid q3.2.2
        have hd4 : decide ((p3 : Int) ≤ (n3 : Int)) = true := decide_eq_true (by omega)
        have hd5 : decide (p3 ≤ n3) = true := decide_eq_true hp3
        have hd6 : p3 ≤ c3 := by omega
        clear q3
        clear HQ2 HQ3
        go_wp2_with (first
            | (go_at_call 15; go_must (refine (parsekey_any l3 A3 n3 c3 _ (HA.out.later (below_up HW.out HR.out.up)) (by have := HAN.out; omega)).mono ?_); rw [HP2.out]; rintro r y1 ⟨A21, c21, B21, d21, D21, q21, rfl, hr, hb⟩; replace HR := Lib.hid (HR.out.app hb hr); clear hr hb)
            | (have _t := tk1; refine wpList_alloc_st rfl 27 rfl HR.out zeroL ent_zero ?_; intro g21 w21 hst hgw; replace HR := Lib.hid hst; clear hst hgw tk1)
            | (have _t := tk2; refine wpList_store_st rfl 27 (.tmp 19) (.tmp 113) rfl HR.out 0 (g := g21) rfl rfl (entL A21 E2.row.length c21 B21 E2.qual.length d21 D21 E2.val.length q21 E2) rfl rfl ent_size (entL_one _ _ _ _ _ _ _ _ _ _) ?_; intro v21 hst hcg; replace HR := Lib.hid hst; clear hst hcg tk2)
            | (refine wpList_load_row7 rfl 27 (.tmp 19) rfl rfl (HR.out.range (i := 0) rfl) ent_row ?_)
            | (go_at_call 25; go_must (refine (key_any E2 A21 E2.row.length c21 B21 E2.qual.length d21 D21 E2.val.length q21 _ ⟨HR.out.sl (i := 0) rfl rfl, HR.out.sl (i := 1) rfl rfl, HR.out.sl (i := 2) rfl rfl⟩).mono ?_); rw [HK2.out]; rintro r y2 hp; obtain ⟨Ak2, ck2, rfl, _, ho, hb⟩ := hp.at_ (n := n3) HLA.out rfl; replace HR := Lib.hid (HR.out.fresh hb ho); clear hp ho hb)
            | (go_at_call 30; have _t := tk3; go_must (refine (same_any l3 l3 Ak2 A3 n3 ck2 n3 c3 _ (by have := HAN.out; omega) (HR.out.sl (i := 3) rfl HLA.out).rb (HA.out.later (below_up HW.out HR.out.up)).rb).mono ?_); rw [HSA.out]; rintro r y3 ⟨rfl, hb⟩; replace HR := Lib.hid (HR.out.later hb); have f6 := HR.out.cell (i := 0) rfl (j := 6) (v := .slice D21 E2.val.length q21) rfl; clear hb tk3)
            | (go_at_call 37; go_must (refine (unpack_any l3 A3 n3 c3 0 _ (HA.out.later (below_up HW.out HR.out.up)) (by have := HAN.out; omega)).mono ?_); rw [HU3.out]; rintro r y4 ⟨A23, c23, B23, d23, D23, q23, rfl, hr, hb⟩; replace HR := Lib.hid (HR.out.app hb hr); clear hr hb f6)
            | (have _t := tk4; refine wpList_alloc_st rfl 27 rfl HR.out zeroL ent_zero ?_; intro g23 w23 hst hgw; replace HR := Lib.hid hst; clear hst hgw tk4)
            | (refine wpList_store_st rfl 27 (.tmp 23) (.tmp 139) rfl HR.out 1 (g := g23) rfl rfl (entL A23 E3.row.length c23 B23 E3.qual.length d23 D23 E3.val.length q23 E3) rfl rfl ent_size (entL_one _ _ _ _ _ _ _ _ _ _) ?_; intro v23 hst hcg; replace HR := Lib.hid hst; clear hst hcg)
            | (refine wpList_load_row7 rfl 27 (.tmp 23) rfl rfl (HR.out.range (i := 1) rfl) ent_row ?_)
            | (go_at_call 35; go_must (refine (pack_any E3 A23 E3.row.length c23 B23 E3.qual.length d23 D23 E3.val.length q23 _ ⟨HR.out.sl (i := 4) rfl rfl, HR.out.sl (i := 5) rfl rfl, HR.out.sl (i := 6) rfl rfl⟩).mono ?_); rw [HK3.out]; rintro r y5 hp; obtain ⟨Ap3, cp3, rfl, _, ho, hb⟩ := hp.at_ (n := p3) HG3.out.1 rfl; replace HR := Lib.hid (HR.out.fresh hb ho); clear hp ho hb)
            | (go_at_call 30; go_must (refine (same_any G3 (l3.take p3) Ap3 A3 p3 cp3 p3 c3 _ (by have := HAN.out; omega) (HR.out.sl (i := 7) rfl HG3.out.1).rb ((HA.out.later (below_up HW.out HR.out.up)).take hp3).rb).mono ?_); rw [HG3.out.2]; rintro r y6 ⟨rfl, hb⟩; replace HR := Lib.hid (HR.out.later hb); clear hb))
        have HF := Lib.hid (below_up HW.out HR.out.up)
        go_ret
        exact ⟨rfl, HF.out⟩
      · as_aux_lemma =>
        subst hz2
        have q2 := HQ2.out rfl
        have HK2 := Lib.hid q2.1
        have hv0 : decide (0 < (E2.val.length : Int)) = false := decide_eq_false (by have := q2.2; omega)
        have hv1 : decide (0 < E2.val.length) = false := decide_eq_false (by have := q2.2; omega)
        have hv2 : E2.val.length ≤ 0 := by have := q2.2; omega
        clear q2
        have hd3 : (z3 != 0) = true := by rw [bne_iff_ne]; exact hz3
        clear hz3
        clear HQ2 HQ3
        go_wp2_with (first
            | (go_at_call 15; go_must (refine (parsekey_any l3 A3 n3 c3 _ (HA.out.later (below_up HW.out HR.out.up)) (by have := HAN.out; omega)).mono ?_); rw [HP2.out]; rintro r y1 ⟨A21, c21, B21, d21, D21, q21, rfl, hr, hb⟩; replace HR := Lib.hid (HR.out.app hb hr); clear hr hb)
            | (have _t := tk1; refine wpList_alloc_st rfl 27 rfl HR.out zeroL ent_zero ?_; intro g21 w21 hst hgw; replace HR := Lib.hid hst; clear hst hgw tk1)
            | (have _t := tk2; refine wpList_store_st rfl 27 (.tmp 19) (.tmp 113) rfl HR.out 0 (g := g21) rfl rfl (entL A21 E2.row.length c21 B21 E2.qual.length d21 D21 E2.val.length q21 E2) rfl rfl ent_size (entL_one _ _ _ _ _ _ _ _ _ _) ?_; intro v21 hst hcg; replace HR := Lib.hid hst; clear hst hcg tk2)
            | (refine wpList_load_row7 rfl 27 (.tmp 19) rfl rfl (HR.out.range (i := 0) rfl) ent_row ?_)
            | (go_at_call 25; go_must (refine (key_any E2 A21 E2.row.length c21 B21 E2.qual.length d21 D21 E2.val.length q21 _ ⟨HR.out.sl (i := 0) rfl rfl, HR.out.sl (i := 1) rfl rfl, HR.out.sl (i := 2) rfl rfl⟩).mono ?_); rw [HK2.out]; rintro r y2 hp; obtain ⟨Ak2, ck2, rfl, _, ho, hb⟩ := hp.at_ (n := n3) HLA.out rfl; replace HR := Lib.hid (HR.out.fresh hb ho); clear hp ho hb)
            | (go_at_call 30; have _t := tk3; go_must (refine (same_any l3 l3 Ak2 A3 n3 ck2 n3 c3 _ (by have := HAN.out; omega) (HR.out.sl (i := 3) rfl HLA.out).rb (HA.out.later (below_up HW.out HR.out.up)).rb).mono ?_); rw [HSA.out]; rintro r y3 ⟨rfl, hb⟩; replace HR := Lib.hid (HR.out.later hb); have f6 := HR.out.cell (i := 0) rfl (j := 6) (v := .slice D21 E2.val.length q21) rfl; clear hb tk3)
            | (go_at_call 37; go_must (refine (unpack_any l3 A3 n3 c3 0 _ (HA.out.later (below_up HW.out HR.out.up)) (by have := HAN.out; omega)).mono ?_); rw [HU3.out]; rintro r y4 ⟨A23, c23, B23, d23, D23, q23, rfl, hr, hb⟩; replace HR := Lib.hid (HR.out.app hb hr); clear hr hb f6)
            | (have _t := tk4; refine wpList_alloc_st rfl 27 rfl HR.out zeroL ent_zero ?_; intro g23 w23 hst hgw; replace HR := Lib.hid hst; clear hst hgw tk4)
            | (refine wpList_store_st rfl 27 (.tmp 23) (.tmp 139) rfl HR.out 1 (g := g23) rfl rfl (entL A23 E3.row.length c23 B23 E3.qual.length d23 D23 E3.val.length q23 E3) rfl rfl ent_size (entL_one _ _ _ _ _ _ _ _ _ _) ?_; intro v23 hst hcg; replace HR := Lib.hid hst; clear hst hcg))
        have HF := Lib.hid (below_up HW.out HR.out.up)
        go_ret
        exact ⟨rfl, HF.out⟩
      · as_aux_lemma =>
        have hd2 : (z2 == 0) = false := by rw [beq_eq_false_iff_ne]; exact hz2
        clear hz2
        subst hz3
        have q3 := HQ3.out rfl
        have HK3 := Lib.hid q3.1
        have hp3 : p3 ≤ n3 := q3.2.1
        have HG3 := Lib.hid q3.2.2
        have hd4 : decide ((p3 : Int) ≤ (n3 : Int)) = true := decide_eq_true (by omega)
        have hd5 : decide (p3 ≤ n3) = true := decide_eq_true hp3
        have hd6 : p3 ≤ c3 := by omega
        clear q3
        clear HQ2 HQ3
        go_wp2_with (first
            | (go_at_call 15; go_must (refine (parsekey_any l3 A3 n3 c3 _ (HA.out.later (below_up HW.out HR.out.up)) (by have := HAN.out; omega)).mono ?_); rw [HP2.out]; rintro r y1 ⟨A21, c21, B21, d21, D21, q21, rfl, hr, hb⟩; replace HR := Lib.hid (HR.out.app hb hr); clear hr hb)
            | (have _t := tk1; refine wpList_alloc_st rfl 27 rfl HR.out zeroL ent_zero ?_; intro g21 w21 hst hgw; replace HR := Lib.hid hst; clear hst hgw tk1)
            | (have _t := tk2; refine wpList_store_st rfl 27 (.tmp 19) (.tmp 113) rfl HR.out 0 (g := g21) rfl rfl (entL A21 E2.row.length c21 B21 E2.qual.length d21 D21 E2.val.length q21 E2) rfl rfl ent_size (entL_one _ _ _ _ _ _ _ _ _ _) ?_; intro v21 hst hcg; replace HR := Lib.hid hst; clear hst hcg tk2)
            | (go_at_call 37; go_must (refine (unpack_any l3 A3 n3 c3 0 _ (HA.out.later (below_up HW.out HR.out.up)) (by have := HAN.out; omega)).mono ?_); rw [HU3.out]; rintro r y4 ⟨A23, c23, B23, d23, D23, q23, rfl, hr, hb⟩; replace HR := Lib.hid (HR.out.app hb hr); clear hr hb)
            | (have _t := tk4; refine wpList_alloc_st rfl 27 rfl HR.out zeroL ent_zero ?_; intro g23 w23 hst hgw; replace HR := Lib.hid hst; clear hst hgw tk4)
            | (refine wpList_store_st rfl 27 (.tmp 23) (.tmp 139) rfl HR.out 1 (g := g23) rfl rfl (entL A23 E3.row.length c23 B23 E3.qual.length d23 D23 E3.val.length q23 E3) rfl rfl ent_size (entL_one _ _ _ _ _ _ _ _ _ _) ?_; intro v23 hst hcg; replace HR := Lib.hid hst; clear hst hcg)
            | (refine wpList_load_row7 rfl 27 (.tmp 23) rfl rfl (HR.out.range (i := 1) rfl) ent_row ?_)
            | (go_at_call 35; go_must (refine (pack_any E3 A23 E3.row.length c23 B23 E3.qual.length d23 D23 E3.val.length q23 _ ⟨HR.out.sl (i := 3) rfl rfl, HR.out.sl (i := 4) rfl rfl, HR.out.sl (i := 5) rfl rfl⟩).mono ?_); rw [HK3.out]; rintro r y5 hp; obtain ⟨Ap3, cp3, rfl, _, ho, hb⟩ := hp.at_ (n := p3) HG3.out.1 rfl; replace HR := Lib.hid (HR.out.fresh hb ho); clear hp ho hb)
            | (go_at_call 30; go_must (refine (same_any G3 (l3.take p3) Ap3 A3 p3 cp3 p3 c3 _ (by have := HAN.out; omega) (HR.out.sl (i := 6) rfl HG3.out.1).rb ((HA.out.later (below_up HW.out HR.out.up)).take hp3).rb).mono ?_); rw [HG3.out.2]; rintro r y6 ⟨rfl, hb⟩; replace HR := Lib.hid (HR.out.later hb); clear hb))
        have HF := Lib.hid (below_up HW.out HR.out.up)
        go_ret
        exact ⟨rfl, HF.out⟩
      · as_aux_lemma =>
        have hd2 : (z2 == 0) = false := by rw [beq_eq_false_iff_ne]; exact hz2
        clear hz2
        have hd3 : (z3 != 0) = true := by rw [bne_iff_ne]; exact hz3
        clear hz3
        clear HQ2 HQ3
        go_wp2_with (first
            | (go_at_call 15; go_must (refine (parsekey_any l3 A3 n3 c3 _ (HA.out.later (below_up HW.out HR.out.up)) (by have := HAN.out; omega)).mono ?_); rw [HP2.out]; rintro r y1 ⟨A21, c21, B21, d21, D21, q21, rfl, hr, hb⟩; replace HR := Lib.hid (HR.out.app hb hr); clear hr hb)
            | (have _t := tk1; refine wpList_alloc_st rfl 27 rfl HR.out zeroL ent_zero ?_; intro g21 w21 hst hgw; replace HR := Lib.hid hst; clear hst hgw tk1)
            | (have _t := tk2; refine wpList_store_st rfl 27 (.tmp 19) (.tmp 113) rfl HR.out 0 (g := g21) rfl rfl (entL A21 E2.row.length c21 B21 E2.qual.length d21 D21 E2.val.length q21 E2) rfl rfl ent_size (entL_one _ _ _ _ _ _ _ _ _ _) ?_; intro v21 hst hcg; replace HR := Lib.hid hst; clear hst hcg tk2)
            | (go_at_call 37; go_must (refine (unpack_any l3 A3 n3 c3 0 _ (HA.out.later (below_up HW.out HR.out.up)) (by have := HAN.out; omega)).mono ?_); rw [HU3.out]; rintro r y4 ⟨A23, c23, B23, d23, D23, q23, rfl, hr, hb⟩; replace HR := Lib.hid (HR.out.app hb hr); clear hr hb)
            | (have _t := tk4; refine wpList_alloc_st rfl 27 rfl HR.out zeroL ent_zero ?_; intro g23 w23 hst hgw; replace HR := Lib.hid hst; clear hst hgw tk4)
            | (refine wpList_store_st rfl 27 (.tmp 23) (.tmp 139) rfl HR.out 1 (g := g23) rfl rfl (entL A23 E3.row.length c23 B23 E3.qual.length d23 D23 E3.val.length q23 E3) rfl rfl ent_size (entL_one _ _ _ _ _ _ _ _ _ _) ?_; intro v23 hst hcg; replace HR := Lib.hid hst; clear hst hcg))
        have HF := Lib.hid (below_up HW.out HR.out.up)
        go_ret
        exact ⟨rfl, HF.out⟩
theorem back_any (e : Ent) (A : Option Addr) (n c : Nat) (B : Option Addr) (m d : Nat) (D : Option Addr) (v q : Nat) (A1 : Option Addr) (n1 c1 : Nat) (l1 : List UInt8) (A2 : Option Addr) (n2 c2 : Nat) (l2 : List UInt8) (A3 : Option Addr) (n3 c3 : Nat) (l3 : List UInt8) (w : World) (he : En w A n c B m d D v q e) (h1 : Sl w A1 n1 c1 l1) (h2 : Sl w A2 n2 c2 l2) (ha : Sl w A3 n3 c3 l3) (hn : n3 ≤ 140737488355000) :
    Calls Try.prog 9 #[entV A n c B m d D v q e, .slice A1 n1 c1, .slice A2 n2 c2, .slice A3 n3 c3] w fun r w' => r = .returned (.bool true) ∧ Below w.heap.size w w' := by
  by_cases hk : checkE e = 0
  · exact back_b e A n c B m d D v q A1 n1 c1 l1 A2 n2 c2 l2 A3 n3 c3 l3 hk w he h1 h2 ha hn
  · exact back_a e A n c B m d D v q A1 n1 c1 l1 A2 n2 c2 l2 A3 n3 c3 l3 hk w he h1 h2 ha hn
end Go.Proofs.Ytcikhlieaoanoaa

/-
  As Kit19, where some of the parts are no boxes ('b, x, y := laid(..), entry(..), entry(..)'). Over any program.
-/
namespace Go.Proofs.Ytcikhlieaoanoaa
open Go.RowKit

section
variable {P : Program} {Q : Exit → Act → World → Prop} {T : TypeId} {w : World} {bs : List Bx1} {rs : RowL}
/-- What holds of one part. bx: is it a box? -/
structure PartG (p : Parts) (bx : Bool) (n : Nat) (av : Value) (Pst : Value → RowL → Prop) (j : Nat) (D : Nat → Bool) (v : Nat → Value) (b : Bx1) (R : RowL) : Prop where
  load : D (p.L j) = true → v (p.s j) = av
  no : D (p.C j) = false → R = []
  call : D (p.C j) = true → Pst (v (p.u j)) R
  nob : bx = true → D (p.A j) = false → b = none
  nob0 : bx = false → b = none
  box : bx = true → D (p.A j) = true → ∃ g cs, v (p.t j) = .pointer (some ⟨g, 0, none⟩) ∧ b = some (g, cs) ∧ cs.length = n ∧ (D (p.X j) = true → v (p.u j) = .agg cs.toArray)
  asg : bx = false → D (p.X j) = true → v (p.t j) = v (p.u j)
theorem PartG.other {p : Parts} {bx : Bool} {n : Nat} {av : Value} {Pst : Value → RowL → Prop} {j : Nat} {D D' : Nat → Bool} {v v' : Nat → Value} {b : Bx1} {R : RowL} (h : PartG p bx n av Pst j D v b R)
    (hD : D' (p.L j) = D (p.L j) ∧ D' (p.C j) = D (p.C j) ∧ D' (p.A j) = D (p.A j) ∧ D' (p.X j) = D (p.X j)) (hv : v' (p.s j) = v (p.s j) ∧ v' (p.u j) = v (p.u j) ∧ v' (p.t j) = v (p.t j)) : PartG p bx n av Pst j D' v' b R := by
  obtain ⟨d1, d2, d3, d4⟩ := hD
  obtain ⟨v1, v2, v3⟩ := hv
  refine ⟨fun e => ?_, fun e => ?_, fun e => ?_, fun hb e => ?_, h.nob0, fun hb e => ?_, fun hb e => ?_⟩
  · rw [v1]; exact h.load (d1 ▸ e)
  · exact h.no (d2 ▸ e)
  · rw [v2]; exact h.call (d2 ▸ e)
  · exact h.nob hb (d3 ▸ e)
  · rw [v2, v3, d4]; exact h.box hb (d3 ▸ e)
  · rw [v2, v3]; exact h.asg hb (d4 ▸ e)
def PartRG (p : Parts) (bx : Nat → Bool) (T : TypeId) (w : World) (bs : List Bx1) (rs : RowL) (n : Nat) (av : Nat → Value) (Pst : Nat → Value → RowL → Prop) (D : Nat → Bool) (v : Nat → Value) (x : World) : Prop :=
  ∃ (b : Nat → Bx1) (R : Nat → RowL), St T w (bs ++ Boxes1 b p.k) (rs ++ Rows1 R p.k) x ∧ ∀ j, j < p.k → PartG p (bx j) n (av j) (Pst j) j D v (b j) (R j)
variable {p : Parts} {bx : Nat → Bool} {n m : Nat} {av : Nat → Value} {Pst : Nat → Value → RowL → Prop} {l : List Oper} {f0 : Act} {o : Oper} {j : Nat}
/-- The others stay. -/
theorem othersG {D : Nat → Bool} {a : Act} {b : Nat → Bx1} {R : Nat → RowL} (hok : p.ok m = true) (hj : j < p.k) (h : ∀ i, i < p.k → PartG p (bx i) n (av i) (Pst i) i D (fun q => a.eval (.tmp q)) (b i) (R i)) {c d : Nat} {x : Value}
    (hc : c ∈ [p.L j, p.C j, p.A j, p.X j]) (hd : d = p.s j ∨ d = p.u j ∨ d = p.t j) {i : Nat} (hi : i < p.k) (hne : i ≠ j) : PartG p (bx i) n (av i) (Pst i) i (fun q => q == c || D q) (fun q => (a.put (some d) x).eval (.tmp q)) (b i) (R i) := by
  have h1 := oper_ne hok hi hj hne
  obtain ⟨n1, n2, n3, n4, n5, n6, n7, n8, n9⟩ := slot_ne hok hi hj hne
  refine (h i hi).other ⟨done_other (h1 _ (by simp) c hc), done_other (h1 _ (by simp) c hc), done_other (h1 _ (by simp) c hc), done_other (h1 _ (by simp) c hc)⟩ ?_
  rcases hd with rfl | rfl | rfl
  · exact ⟨put_other n1.symm x, put_other n4.symm x, put_other n7.symm x⟩
  · exact ⟨put_other n2.symm x, put_other n5.symm x, put_other n8.symm x⟩
  · exact ⟨put_other n3.symm x, put_other n6.symm x, put_other n9.symm x⟩
theorem partG_load {ty : TypeId} {q i g : Nat} {cs : List Value} (hok : p.ok f0.tmps.size = true) (hj : j < p.k) (ho : o.op = .load ty (.tmp q)) (hd : o.dst = some (p.s j)) (hq : q ∉ p.slots) (he : f0.eval (.tmp q) = .pointer (some ⟨g, 0, none⟩)) (hb : bs[i]? = some (some (g, cs))) (ht : RowTy P ty cs.length) (ha : av j = .agg cs.toArray) :
    RegStep P Q l p.slots f0 (PartRG p bx T w bs rs n av Pst) (p.L j) o := by
  intro D a x hcl hs ⟨b, R, hst, hp⟩ hD hpre
  obtain ⟨⟨o1, o2, o3⟩, ⟨e1, e2, e3, e4, e5, e6⟩, ⟨m1, m2, m3⟩⟩ := own_ne hok hj
  refine wp_load_row7 ho ((hs.eval hq).trans he) (hst.range (i := i) (by rw [List.getElem?_append_left (List.getElem?_eq_some_iff.1 hb).1]; exact hb)) ht ?_
  rw [hd]
  refine ⟨hs.put (slot_in hj).1 _, b, R, hst, fun i hi => ?_⟩
  by_cases e : i = j
  · subst e
    have h := hp i hi
    refine ⟨fun _ => (put_same (by rw [hs.size]; exact m1) _).trans ha.symm, fun e => h.no (by rwa [done_other e1.symm] at e), fun e => ?_, fun hb e => h.nob hb (by rwa [done_other e2.symm] at e), h.nob0, fun hb e => ?_, fun hb e => ?_⟩
    · rw [put_other o1]; exact h.call (by rwa [done_other e1.symm] at e)
    · rw [put_other o1, put_other o2, done_other e3.symm]; exact h.box hb (by rwa [done_other e2.symm] at e)
    · rw [put_other o1, put_other o2]; exact h.asg hb (by rwa [done_other e3.symm] at e)
  · exact othersG hok hj hp (by simp) (.inl rfl) hi e
theorem partG_move {q : Nat} (hok : p.ok f0.tmps.size = true) (hj : j < p.k) (ho : o.op = .move (.tmp q)) (hd : o.dst = some (p.s j)) (hq : q ∉ p.slots) (he : f0.eval (.tmp q) = av j) :
    RegStep P Q l p.slots f0 (PartRG p bx T w bs rs n av Pst) (p.L j) o := by
  intro D a x hcl hs ⟨b, R, hst, hp⟩ hD hpre
  obtain ⟨⟨o1, o2, o3⟩, ⟨e1, e2, e3, e4, e5, e6⟩, ⟨m1, m2, m3⟩⟩ := own_ne hok hj
  have hrun : (execOp a.eval o).run P x = .ok (.value (av j)) x := by
    unfold execOp
    simp only [ho, Sem.run_pure]
    rw [hs.eval hq, he]
  unfold Oper.wp
  rw [hrun, Oper.upon_value, hd]
  refine ⟨hs.put (slot_in hj).1 _, b, R, hst, fun i hi => ?_⟩
  by_cases e : i = j
  · subst e
    have h := hp i hi
    refine ⟨fun _ => put_same (by rw [hs.size]; exact m1) _, fun e => h.no (by rwa [done_other e1.symm] at e), fun e => ?_, fun hb e => h.nob hb (by rwa [done_other e2.symm] at e), h.nob0, fun hb e => ?_, fun hb e => ?_⟩
    · rw [put_other o1]; exact h.call (by rwa [done_other e1.symm] at e)
    · rw [put_other o1, put_other o2, done_other e3.symm]; exact h.box hb (by rwa [done_other e2.symm] at e)
    · rw [put_other o1, put_other o2]; exact h.asg hb (by rwa [done_other e3.symm] at e)
  · exact othersG hok hj hp (by simp) (.inl rfl) hi e
theorem partG_call {f : FuncId} {xs : List Operand} {vals : List Value} {ats : Array TypeId} (hok : p.ok f0.tmps.size = true) (hj : j < p.k) (ho : o.op = .call { callee := .value (.func f), args := (Operand.tmp (p.s j) :: xs).toArray, argTypes := ats }) (hxs : ∀ a : Act, xs.map a.eval = vals) (hd : o.dst = some (p.u j)) (hf : GoFn P f)
    (hL : edgeB o (p.L j) = true) (hch : chainB l p.C p.k = true) (hX : ∃ ox, l[p.X j]? = some ox ∧ edgeB ox (p.C j) = true)
    (hc : ∀ x, Below w.heap.size w x → Calls P f (av j :: vals).toArray x fun e y => ∃ v R, e = .returned v ∧ Pst j v R ∧ RowsB T x.heap.size y R ∧ Below x.heap.size x y) :
    RegStep P Q l p.slots f0 (PartRG p bx T w bs rs n av Pst) (p.C j) o := by
  intro D a x hcl hs ⟨b, R, hst, hp⟩ hD hpre
  obtain ⟨⟨o1, o2, o3⟩, ⟨e1, e2, e3, e4, e5, e6⟩, ⟨m1, m2, m3⟩⟩ := own_ne hok hj
  have hl := (hp j hj).load (edge_on hL hpre)
  refine wp_call_go ho hf (av j :: vals).toArray (by rw [List.map_toArray, List.map_cons, hxs a, show a.eval (.tmp (p.s j)) = _ from hl]) ((hc x hst.up).mono fun e y ⟨v, R', he, hP, hR, hB⟩ => ⟨v, he, ?_⟩)
  rw [hd]
  have hno := chain_down hch hcl hD
  have hXf : D (p.X j) = false := by
    obtain ⟨ox, hox, hoe⟩ := hX
    cases h : D (p.X j) with
    | false => rfl
    | true => have := edge_on hoe (hcl _ _ hox h); rw [hD] at this; cases this
  refine ⟨hs.put (slot_in hj).2.1 _, b, upd R j R', ?_, fun i hi => ?_⟩
  · rw [rows_upd hj fun i h1 h2 => (hp i h2).no (hno i h1 h2), ← List.append_assoc]
    exact hst.app hB hR
  · by_cases e : i = j
    · subst e
      have h := hp i hi
      rw [upd_same]
      refine ⟨fun e => ?_, fun e => ?_, fun _ => ?_, fun hb e => h.nob hb (by rwa [done_other e4.symm] at e), h.nob0, fun hb e => ?_, fun hb e => ?_⟩
      · rw [put_other o1.symm]; exact h.load (by rwa [done_other e1] at e)
      · rw [done_same] at e; cases e
      · rw [put_same (by rw [hs.size]; exact m2)]; exact hP
      · obtain ⟨g, cs, h1, h2, h3, h4⟩ := h.box hb (by rwa [done_other e4.symm] at e)
        refine ⟨g, cs, by rw [put_other o3]; exact h1, h2, h3, fun e => ?_⟩
        rw [done_other e5.symm, hXf] at e; cases e
      · rw [done_other e5.symm, hXf] at e; cases e
    · rw [upd_other e]
      exact othersG hok hj hp (by simp) (.inr (.inl rfl)) hi e
theorem partG_alloc {ty : TypeId} {cs : List Value} (hok : p.ok f0.tmps.size = true) (hj : j < p.k) (hbx : bx j = true) (ho : o.op = .alloc ty) (hd : o.dst = some (p.t j)) (hz : (P.info? ty).bind (·.zero) = some (.agg cs.toArray)) (hn : cs.length = n)
    (hX : ∃ ox, l[p.X j]? = some ox ∧ edgeB ox (p.A j) = true) : RegStep P Q l p.slots f0 (PartRG p bx T w bs rs n av Pst) (p.A j) o := by
  intro D a x hcl hs ⟨b, R, hst, hp⟩ hD hpre
  obtain ⟨⟨o1, o2, o3⟩, ⟨e1, e2, e3, e4, e5, e6⟩, ⟨m1, m2, m3⟩⟩ := own_ne hok hj
  refine wp_alloc_row ho hz ?_
  rw [hd]
  have hXf : D (p.X j) = false := by
    obtain ⟨ox, hox, hoe⟩ := hX
    cases h : D (p.X j) with
    | false => rfl
    | true => have := edge_on hoe (hcl _ _ hox h); rw [hD] at this; cases this
  refine ⟨hs.put (slot_in hj).2.2 _, upd b j (some (x.heap.size, cs)), R, ?_, fun i hi => ?_⟩
  · have h := hst.fill (t := ty) (bs.length + j) cs (by rw [boxes_at hj, (hp j hj).nob hbx hD])
    rw [boxes_upd]
    rw [List.set_append_right _ _ (by omega), show bs.length + j - bs.length = j from by omega] at h
    exact h
  · by_cases e : i = j
    · subst e
      have h := hp i hi
      rw [upd_same]
      refine ⟨fun e => ?_, fun e => h.no (by rwa [done_other e4] at e), fun e => ?_, fun hb e => ?_, fun hb => absurd (hbx.symm.trans hb) (by simp), fun _ _ => ⟨_, cs, put_same (by rw [hs.size]; exact m3) _, rfl, hn, fun e => ?_⟩, fun hb => absurd (hbx.symm.trans hb) (by simp)⟩
      · rw [put_other o2.symm]; exact h.load (by rwa [done_other e2] at e)
      · rw [put_other o3.symm]; exact h.call (by rwa [done_other e4] at e)
      · rw [done_same] at e; cases e
      · rw [done_other e6.symm, hXf] at e; cases e
    · rw [upd_other e]
      exact othersG hok hj hp (by simp) (.inr (.inr rfl)) hi e
theorem partG_store {ty : TypeId} (hok : p.ok f0.tmps.size = true) (hj : j < p.k) (hbx : bx j = true) (ho : o.op = .store ty (.tmp (p.t j)) (.tmp (p.u j))) (hd : o.dst = none) (hA : edgeB o (p.A j) = true) (hC : edgeB o (p.C j) = true)
    (hP : ∀ v R, Pst j v R → ∃ cs : List Value, v = .agg cs.toArray ∧ cs.length = n ∧ ∀ u ∈ cs, u.oneCell' = true) (ht : (P.info? ty).map (·.size) = some n) : RegStep P Q l p.slots f0 (PartRG p bx T w bs rs n av Pst) (p.X j) o := by
  intro D a x hcl hs ⟨b, R, hst, hp⟩ hD hpre
  obtain ⟨⟨o1, o2, o3⟩, ⟨e1, e2, e3, e4, e5, e6⟩, ⟨m1, m2, m3⟩⟩ := own_ne hok hj
  obtain ⟨g, cs, h1, h2, h3, _⟩ := (hp j hj).box hbx (edge_on hA hpre)
  have hc := (hp j hj).call (edge_on hC hpre)
  obtain ⟨vs, k1, k2, k3⟩ := hP _ _ hc
  have hb : (bs ++ Boxes1 b p.k)[bs.length + j]? = some (some (g, cs)) := by rw [boxes_at hj, h2]
  refine wp_store_row ho h1 k1 (hst.range hb) (hst.fz hb) (by rw [k2, h3]) (by rw [k2]; exact ht) k3 ?_
  rw [hd]
  refine ⟨hs, upd b j (some (g, vs)), R, ?_, fun i hi => ?_⟩
  · have h := (hst.put (vs := vs) hb (by rw [k2, h3])).1
    rw [boxes_upd]
    rw [List.set_append_right _ _ (by omega), show bs.length + j - bs.length = j from by omega] at h
    exact h
  · by_cases e : i = j
    · subst e
      have h := hp i hi
      rw [upd_same]
      refine ⟨fun e => h.load (by rwa [done_other e3] at e), fun e => h.no (by rwa [done_other e5] at e), fun e => h.call (by rwa [done_other e5] at e), fun hb e => ?_, fun hb => absurd (hbx.symm.trans hb) (by simp), fun _ e => ⟨g, vs, h1, rfl, k2, fun _ => k1⟩, fun hb => absurd (hbx.symm.trans hb) (by simp)⟩
      rw [done_other e6, edge_on hA hpre] at e; cases e
    · rw [upd_other e]
      have q := oper_ne hok hi hj e
      exact (hp i hi).other ⟨done_other (q _ (by simp) _ (by simp)), done_other (q _ (by simp) _ (by simp)), done_other (q _ (by simp) _ (by simp)), done_other (q _ (by simp) _ (by simp))⟩ ⟨rfl, rfl, rfl⟩
/-- No box: the answer is moved into its variable. -/
theorem partG_asg (hok : p.ok f0.tmps.size = true) (hj : j < p.k) (hbx : bx j = false) (ho : o.op = .assign (.tmp (p.u j))) (hd : o.dst = some (p.t j)) : RegStep P Q l p.slots f0 (PartRG p bx T w bs rs n av Pst) (p.X j) o := by
  intro D a x hcl hs ⟨b, R, hst, hp⟩ hD hpre
  obtain ⟨⟨o1, o2, o3⟩, ⟨e1, e2, e3, e4, e5, e6⟩, ⟨m1, m2, m3⟩⟩ := own_ne hok hj
  have hrun : (execOp a.eval o).run P x = .ok (.value (a.eval (.tmp (p.u j)))) x := by
    unfold execOp
    simp only [ho, Sem.run_pure]
  unfold Oper.wp
  rw [hrun, Oper.upon_value, hd]
  refine ⟨hs.put (slot_in hj).2.2 _, b, R, hst, fun i hi => ?_⟩
  by_cases e : i = j
  · subst e
    have h := hp i hi
    refine ⟨fun e => ?_, fun e => h.no (by rwa [done_other e5] at e), fun e => ?_, fun hb => absurd (hbx.symm.trans hb) (by simp), h.nob0, fun hb => absurd (hbx.symm.trans hb) (by simp), fun _ _ => ?_⟩
    · rw [put_other o2.symm]; exact h.load (by rwa [done_other e3] at e)
    · rw [put_other o3.symm]; exact h.call (by rwa [done_other e5] at e)
    · rw [put_same (by rw [hs.size]; exact m3), put_other o3.symm]
  · exact othersG hok hj hp (by simp) (.inr (.inr rfl)) hi e
theorem partRG_start {v : Nat → Value} {x : World} (h : St T w bs rs x) : PartRG p bx T w bs rs n av Pst (fun _ => false) v x := by
  refine ⟨fun _ => none, fun _ => [], ?_, fun j _ => ⟨(fun e => nomatch e), fun _ => rfl, (fun e => nomatch e), fun _ _ => rfl, fun _ => rfl, (fun _ e => nomatch e), (fun _ e => nomatch e)⟩⟩
  have e1 : Rows1 (fun _ => []) p.k = [] := by unfold Rows1; simp
  have e2 : ∀ k, St T w (bs ++ Boxes1 (fun _ => none) k) rs x := by
    intro k
    induction k with
    | zero => simpa [Boxes1] using h
    | succ k ih =>
      have := ih.more
      simpa [Boxes1, List.range_succ] using this
  rw [e1, List.append_nil]
  exact e2 p.k
/-- Places that were kept free and stayed so are struck. -/
theorem St.cut {bs' : List Bx1} {x : World} (h : St T w (bs ++ bs') rs x) : St T w bs rs x :=
  ⟨h.up, fun i g cs hb => h.box i g cs (by rw [List.getElem?_append_left (List.getElem?_eq_some_iff.1 hb).1]; exact hb), fun i j g cs g' ds h1 h2 => h.ne i j g cs g' ds (by rw [List.getElem?_append_left (List.getElem?_eq_some_iff.1 h1).1]; exact h1) (by rw [List.getElem?_append_left (List.getElem?_eq_some_iff.1 h2).1]; exact h2), h.rows, fun i j g cs r a hb => h.off i j g cs r a (by rw [List.getElem?_append_left (List.getElem?_eq_some_iff.1 hb).1]; exact hb)⟩
theorem wpList_load_cell {ops : Array Oper} {rest : List Oper} {o : Oper} {a : Act} {W : World} (hgd : Region.wanted o (yielded ops a.tmps) = true) (ty : TypeId) (x : Operand) (ho : o.op = .load ty x) {g k : Nat} {v : Value} (hx : a.eval x = .pointer (some ⟨g, k, none⟩)) (hr : W.cell? ⟨g, k, none⟩ = some v) (ha : ∀ w, (isAgg ty).run P w = .ok false w)
    (hK : wpList P ops Q rest (a.put o.dst v) W) : wpList P ops Q (o :: rest) a W := by
  refine BigFrame.wpList_want hgd fun _ hk => ?_
  have hrun : (execOp a.eval o).run P W = .ok (.value v) W := by
    unfold execOp
    simp only [ho, hx, Instr.loadAt, Instr.sureAddr, loadVar, Sem.run_bind, Sem.run_pure, Result.andThen_ok, ha W, Bool.false_eq_true, if_false]
    simp [go_sem, hr]
  unfold Oper.wp
  rw [hrun, Oper.upon_value]
  exact hk _ _ hK
end
end Go.Proofs.Ytcikhlieaoanoaa

/-
  CellAgain's written, walked. (Printed by gen_again.py.)
-/
namespace Go.Proofs.Ytcikhlieaoanoaa
open Go.RowKit

set_option maxRecDepth 100000 in
set_option maxHeartbeats 4000000 in
theorem written_any (e f : Ent) (A1 : Option Addr) (n1 c1 : Nat) (B1 : Option Addr) (m1 d1 : Nat) (D1 : Option Addr) (v1 q1 : Nat) (A2 : Option Addr) (n2 c2 : Nat) (B2 : Option Addr) (m2 d2 : Nat) (D2 : Option Addr) (v2 q2 : Nat) (A3 : Option Addr) (n3 c3 : Nat) (B3 : Option Addr) (m3 d3 : Nat) (D3 : Option Addr) (v3 q3 : Nat) (w : World) (h1 : En w A1 n1 c1 B1 m1 d1 D1 v1 q1 e) (h2 : En w A2 n2 c2 B2 m2 d2 D2 v2 q2 e) (h3 : En w A3 n3 c3 B3 m3 d3 D3 v3 q3 f) (hl : n1 ≤ 1000000 ∧ n2 ≤ 1000000) :
    Calls Try.prog 39 #[entV A1 n1 c1 B1 m1 d1 D1 v1 q1 e, entV A2 n2 c2 B2 m2 d2 D2 v2 q2 e, entV A3 n3 c3 B3 m3 d3 D3 v3 q3 f] w fun r w' => r = .returned (.bool true) ∧ Below w.heap.size w w' := by
  have H1 := Lib.hid h1
  have H2 := Lib.hid h2
  have H3 := Lib.hid h3
  have HL := Lib.hid hl
  have HX : Hid (St 5 w [some (w.heap.size, (entL A1 n1 c1 B1 m1 d1 D1 v1 q1 e)), some (w.heap.size + 1, (entL A2 n2 c2 B2 m2 d2 D2 v2 q2 e)), some (w.heap.size + 1 + 1, (entL A3 n3 c3 B3 m3 d3 D3 v3 q3 f))] [] (((w.alloc (.cells (entL A1 n1 c1 B1 m1 d1 D1 v1 q1 e).toArray 27)).alloc (.cells (entL A2 n2 c2 B2 m2 d2 D2 v2 q2 e).toArray 27)).alloc (.cells (entL A3 n3 c3 B3 m3 d3 D3 v3 q3 f).toArray 27))) := Lib.hid (by
    have h := (((St.nil 5 w).push (t := 27) (entL A1 n1 c1 B1 m1 d1 D1 v1 q1 e)).push (t := 27) (entL A2 n2 c2 B2 m2 d2 D2 v2 q2 e)).push (t := 27) (entL A3 n3 c3 B3 m3 d3 D3 v3 q3 f)
    have e1 : ∀ (x : World) o, (x.alloc o).heap.size = x.heap.size + 1 := fun x o => by show (x.heap.push o).size = _; simp
    rw [e1, e1, e1] at h
    exact h)
  obtain ⟨K, hK⟩ : ∃ x, x = (KeyE e).1 := ⟨_, rfl⟩
  obtain ⟨kz, hkz⟩ : ∃ x, x = (KeyE e).2 := ⟨_, rfl⟩
  obtain ⟨kn, hkn⟩ : ∃ x, x = K.length := ⟨_, rfl⟩
  have HK : Hid (KeyE e = (K, kz)) := Lib.hid (by rw [hK, hkz])
  obtain ⟨G, hG⟩ : ∃ x, x = (PackE e).1 := ⟨_, rfl⟩
  obtain ⟨gz, hgz⟩ : ∃ x, x = (PackE e).2 := ⟨_, rfl⟩
  obtain ⟨gn, hgn⟩ : ∃ x, x = G.length := ⟨_, rfl⟩
  have HG : Hid (PackE e = (G, gz)) := Lib.hid (by rw [hG, hgz])
  obtain ⟨J, hJ⟩ : ∃ x, x = (StartE e.row).1 := ⟨_, rfl⟩
  obtain ⟨jz, hjz⟩ : ∃ x, x = (StartE e.row).2 := ⟨_, rfl⟩
  obtain ⟨sn, hsn⟩ : ∃ x, x = J.length := ⟨_, rfl⟩
  have HJ : Hid (StartE e.row = (J, jz)) := Lib.hid (by rw [hJ, hjz])
  obtain ⟨V, hV⟩ : ∃ x, x = (BehindE e.row).1 := ⟨_, rfl⟩
  obtain ⟨vz, hvz⟩ : ∃ x, x = (BehindE e.row).2 := ⟨_, rfl⟩
  obtain ⟨vn, hvn⟩ : ∃ x, x = V.length := ⟨_, rfl⟩
  have HV : Hid (BehindE e.row = (V, vz)) := Lib.hid (by rw [hV, hvz])
  have HN : Hid (K.length = kn ∧ G.length = gn ∧ J.length = sn ∧ V.length = vn) := Lib.hid ⟨hkn.symm, hgn.symm, hsn.symm, hvn.symm⟩
  have HNL : Hid (kn ≤ 100000 ∧ gn ≤ 100000 ∧ sn ≤ 100000 ∧ vn ≤ 100000) := Lib.hid (by
    rw [hkn, hgn, hsn, hvn, hK, hG, hJ, hV]
    have q1 := keys_len e
    have q2 := start_len e.row
    have q3 := behind_len e.row
    exact ⟨q1.1, q1.2, by omega, by omega⟩)
  obtain ⟨tc, htc⟩ : ∃ z, z = cmpE e f := ⟨_, rfl⟩
  obtain ⟨zc, hzc⟩ : ∃ z, z = checkE e := ⟨_, rfl⟩
  have HTC : Hid (cmpE e f = tc) := Lib.hid htc.symm
  have HZ1 : Hid (checkN n1 e.fam m1 e.ts e.seq e.kind v1 = zc) := Lib.hid (by rw [hzc, en_check h1])
  have HZ2 : Hid (checkN n2 e.fam m2 e.ts e.seq e.kind v2 = zc) := Lib.hid (by rw [hzc, en_check h2])
  have HSS : Hid ((K == K) = true ∧ (G == G) = true ∧ (J == J) = true ∧ (V == V) = true) := Lib.hid (by simp)
  clear hK hG hJ hV hkz hgz hjz hvz hkn hgn hsn hvn htc hzc h1 h2 h3 hl
  unfold entV
  go_enter Try.func39, Try.ntmps39
  go_wp2_with (first | (go_at_call 25; go_must (refine (key_any e A1 n1 c1 B1 m1 d1 D1 v1 q1 _ (H1.out.later HX.out.up)).mono ?_); rw [HK.out]; rintro r x1 hp; obtain ⟨Ak, ck, rfl, _, ho, hb⟩ := hp.at_ (n := kn) HN.out.1 rfl; replace HX := Lib.hid (HX.out.fresh hb ho); clear hp ho hb) | (refine wpList_load_row7 rfl 27 (.tmp 3) rfl rfl (HX.out.range (i := 0) rfl) ent_row ?_) | (refine wpList_load_row7 rfl 27 (.tmp 4) rfl rfl (HX.out.range (i := 1) rfl) ent_row ?_) | (refine wpList_load_cell rfl 22 (.tmp 44) rfl rfl (HX.out.cell (i := 0) rfl (j := 0) rfl) (fun w => Try.isAgg22 w) ?_) | (refine wpList_load_cell rfl 22 (.tmp 50) rfl rfl (HX.out.cell (i := 1) rfl (j := 0) rfl) (fun w => Try.isAgg22 w) ?_) | (refine wpList_load_cell rfl 22 (.tmp 56) rfl rfl (HX.out.cell (i := 0) rfl (j := 0) rfl) (fun w => Try.isAgg22 w) ?_) | (refine wpList_load_cell rfl 22 (.tmp 62) rfl rfl (HX.out.cell (i := 1) rfl (j := 0) rfl) (fun w => Try.isAgg22 w) ?_))
  go_wp2_with (first | (go_at_call 34; go_must (refine (rKey_any e A2 n2 c2 B2 m2 d2 D2 v2 q2 _ (H2.out.later HX.out.up)).mono ?_); rw [HK.out]; rintro r x2 hp; obtain ⟨Aw, cw, rfl, _, ho, hb⟩ := hp.at_ (n := kn) HN.out.1 rfl; replace HX := Lib.hid (HX.out.fresh hb ho); clear hp ho hb) | (refine wpList_load_row7 rfl 27 (.tmp 3) rfl rfl (HX.out.range (i := 0) rfl) ent_row ?_) | (refine wpList_load_row7 rfl 27 (.tmp 4) rfl rfl (HX.out.range (i := 1) rfl) ent_row ?_) | (refine wpList_load_cell rfl 22 (.tmp 44) rfl rfl (HX.out.cell (i := 0) rfl (j := 0) rfl) (fun w => Try.isAgg22 w) ?_) | (refine wpList_load_cell rfl 22 (.tmp 50) rfl rfl (HX.out.cell (i := 1) rfl (j := 0) rfl) (fun w => Try.isAgg22 w) ?_) | (refine wpList_load_cell rfl 22 (.tmp 56) rfl rfl (HX.out.cell (i := 0) rfl (j := 0) rfl) (fun w => Try.isAgg22 w) ?_) | (refine wpList_load_cell rfl 22 (.tmp 62) rfl rfl (HX.out.cell (i := 1) rfl (j := 0) rfl) (fun w => Try.isAgg22 w) ?_))
  go_wp2_with (first | (go_at_call 35; go_must (refine (pack_any e A1 n1 c1 B1 m1 d1 D1 v1 q1 _ (H1.out.later HX.out.up)).mono ?_); rw [HG.out]; rintro r x3 hp; obtain ⟨Ap, cp, rfl, _, ho, hb⟩ := hp.at_ (n := gn) HN.out.2.1 rfl; replace HX := Lib.hid (HX.out.fresh hb ho); clear hp ho hb) | (refine wpList_load_row7 rfl 27 (.tmp 3) rfl rfl (HX.out.range (i := 0) rfl) ent_row ?_) | (refine wpList_load_row7 rfl 27 (.tmp 4) rfl rfl (HX.out.range (i := 1) rfl) ent_row ?_) | (refine wpList_load_cell rfl 22 (.tmp 44) rfl rfl (HX.out.cell (i := 0) rfl (j := 0) rfl) (fun w => Try.isAgg22 w) ?_) | (refine wpList_load_cell rfl 22 (.tmp 50) rfl rfl (HX.out.cell (i := 1) rfl (j := 0) rfl) (fun w => Try.isAgg22 w) ?_) | (refine wpList_load_cell rfl 22 (.tmp 56) rfl rfl (HX.out.cell (i := 0) rfl (j := 0) rfl) (fun w => Try.isAgg22 w) ?_) | (refine wpList_load_cell rfl 22 (.tmp 62) rfl rfl (HX.out.cell (i := 1) rfl (j := 0) rfl) (fun w => Try.isAgg22 w) ?_))
  go_wp2_with (first | (go_at_call 36; go_must (refine (rpack_any e A2 n2 c2 B2 m2 d2 D2 v2 q2 _ (H2.out.later HX.out.up)).mono ?_); rw [HG.out]; rintro r x4 hp; obtain ⟨Av, cv, rfl, _, ho, hb⟩ := hp.at_ (n := gn) HN.out.2.1 rfl; replace HX := Lib.hid (HX.out.fresh hb ho); clear hp ho hb) | (refine wpList_load_row7 rfl 27 (.tmp 3) rfl rfl (HX.out.range (i := 0) rfl) ent_row ?_) | (refine wpList_load_row7 rfl 27 (.tmp 4) rfl rfl (HX.out.range (i := 1) rfl) ent_row ?_) | (refine wpList_load_cell rfl 22 (.tmp 44) rfl rfl (HX.out.cell (i := 0) rfl (j := 0) rfl) (fun w => Try.isAgg22 w) ?_) | (refine wpList_load_cell rfl 22 (.tmp 50) rfl rfl (HX.out.cell (i := 1) rfl (j := 0) rfl) (fun w => Try.isAgg22 w) ?_) | (refine wpList_load_cell rfl 22 (.tmp 56) rfl rfl (HX.out.cell (i := 0) rfl (j := 0) rfl) (fun w => Try.isAgg22 w) ?_) | (refine wpList_load_cell rfl 22 (.tmp 62) rfl rfl (HX.out.cell (i := 1) rfl (j := 0) rfl) (fun w => Try.isAgg22 w) ?_))
  go_wp2_with (first | (go_at_call 26; go_must (refine (cstart_any e.row A1 n1 c1 _ (H1.out.later HX.out.up).row (by have := HL.out; omega)).mono ?_); rw [HJ.out]; rintro r x5 hp; obtain ⟨As, cs, rfl, _, ho, hb⟩ := hp.at_ (n := sn) HN.out.2.2.1 rfl; replace HX := Lib.hid (HX.out.fresh hb ho); clear hp ho hb) | (refine wpList_load_row7 rfl 27 (.tmp 3) rfl rfl (HX.out.range (i := 0) rfl) ent_row ?_) | (refine wpList_load_row7 rfl 27 (.tmp 4) rfl rfl (HX.out.range (i := 1) rfl) ent_row ?_) | (refine wpList_load_cell rfl 22 (.tmp 44) rfl rfl (HX.out.cell (i := 0) rfl (j := 0) rfl) (fun w => Try.isAgg22 w) ?_) | (refine wpList_load_cell rfl 22 (.tmp 50) rfl rfl (HX.out.cell (i := 1) rfl (j := 0) rfl) (fun w => Try.isAgg22 w) ?_) | (refine wpList_load_cell rfl 22 (.tmp 56) rfl rfl (HX.out.cell (i := 0) rfl (j := 0) rfl) (fun w => Try.isAgg22 w) ?_) | (refine wpList_load_cell rfl 22 (.tmp 62) rfl rfl (HX.out.cell (i := 1) rfl (j := 0) rfl) (fun w => Try.isAgg22 w) ?_))
  go_wp2_with (first | (go_at_call 28; go_must (refine (rstart_any e.row A2 n2 c2 _ (H2.out.later HX.out.up).row (by have := HL.out; omega)).mono ?_); rw [HJ.out]; rintro r x6 hp; obtain ⟨At, ct, rfl, _, ho, hb⟩ := hp.at_ (n := sn) HN.out.2.2.1 rfl; replace HX := Lib.hid (HX.out.fresh hb ho); clear hp ho hb) | (refine wpList_load_row7 rfl 27 (.tmp 3) rfl rfl (HX.out.range (i := 0) rfl) ent_row ?_) | (refine wpList_load_row7 rfl 27 (.tmp 4) rfl rfl (HX.out.range (i := 1) rfl) ent_row ?_) | (refine wpList_load_cell rfl 22 (.tmp 44) rfl rfl (HX.out.cell (i := 0) rfl (j := 0) rfl) (fun w => Try.isAgg22 w) ?_) | (refine wpList_load_cell rfl 22 (.tmp 50) rfl rfl (HX.out.cell (i := 1) rfl (j := 0) rfl) (fun w => Try.isAgg22 w) ?_) | (refine wpList_load_cell rfl 22 (.tmp 56) rfl rfl (HX.out.cell (i := 0) rfl (j := 0) rfl) (fun w => Try.isAgg22 w) ?_) | (refine wpList_load_cell rfl 22 (.tmp 62) rfl rfl (HX.out.cell (i := 1) rfl (j := 0) rfl) (fun w => Try.isAgg22 w) ?_))
  go_wp2_with (first | (go_at_call 27; go_must (refine (cbehind_any e.row A1 n1 c1 _ (H1.out.later HX.out.up).row (by have := HL.out; omega)).mono ?_); rw [HV.out]; rintro r x7 hp; obtain ⟨An, cn, rfl, _, ho, hb⟩ := hp.at_ (n := vn) HN.out.2.2.2 rfl; replace HX := Lib.hid (HX.out.fresh hb ho); clear hp ho hb) | (refine wpList_load_row7 rfl 27 (.tmp 3) rfl rfl (HX.out.range (i := 0) rfl) ent_row ?_) | (refine wpList_load_row7 rfl 27 (.tmp 4) rfl rfl (HX.out.range (i := 1) rfl) ent_row ?_) | (refine wpList_load_cell rfl 22 (.tmp 44) rfl rfl (HX.out.cell (i := 0) rfl (j := 0) rfl) (fun w => Try.isAgg22 w) ?_) | (refine wpList_load_cell rfl 22 (.tmp 50) rfl rfl (HX.out.cell (i := 1) rfl (j := 0) rfl) (fun w => Try.isAgg22 w) ?_) | (refine wpList_load_cell rfl 22 (.tmp 56) rfl rfl (HX.out.cell (i := 0) rfl (j := 0) rfl) (fun w => Try.isAgg22 w) ?_) | (refine wpList_load_cell rfl 22 (.tmp 62) rfl rfl (HX.out.cell (i := 1) rfl (j := 0) rfl) (fun w => Try.isAgg22 w) ?_))
  go_wp2_with (first | (go_at_call 29; go_must (refine (rbehind_any e.row A2 n2 c2 _ (H2.out.later HX.out.up).row (by have := HL.out; omega)).mono ?_); rw [HV.out]; rintro r x8 hp; obtain ⟨Am, cm, rfl, _, ho, hb⟩ := hp.at_ (n := vn) HN.out.2.2.2 rfl; replace HX := Lib.hid (HX.out.fresh hb ho); clear hp ho hb) | (refine wpList_load_row7 rfl 27 (.tmp 3) rfl rfl (HX.out.range (i := 0) rfl) ent_row ?_) | (refine wpList_load_row7 rfl 27 (.tmp 4) rfl rfl (HX.out.range (i := 1) rfl) ent_row ?_) | (refine wpList_load_cell rfl 22 (.tmp 44) rfl rfl (HX.out.cell (i := 0) rfl (j := 0) rfl) (fun w => Try.isAgg22 w) ?_) | (refine wpList_load_cell rfl 22 (.tmp 50) rfl rfl (HX.out.cell (i := 1) rfl (j := 0) rfl) (fun w => Try.isAgg22 w) ?_) | (refine wpList_load_cell rfl 22 (.tmp 56) rfl rfl (HX.out.cell (i := 0) rfl (j := 0) rfl) (fun w => Try.isAgg22 w) ?_) | (refine wpList_load_cell rfl 22 (.tmp 62) rfl rfl (HX.out.cell (i := 1) rfl (j := 0) rfl) (fun w => Try.isAgg22 w) ?_))
  have HS := Lib.hid (Below.refl x8.heap.size x8).drew
  go_wp2
  refine lx_start (S := fun x => Below x8.heap.size x8 x) (by kernel_rfl) HS.out ?_
  refine lx_take 0 rfl (by kernel_rfl) (by kernel_rfl) (by kernel_rfl) (fun _ _ _ h => h) (yi_row rfl rfl rfl (fun w hS => (HX.out.later hS).range (i := 0) rfl) ent_row) HS.out ?_
  simp only [Act.put, List.setIfInBounds_toArray, List.set_cons_zero, List.set_cons_succ]
  refine lx_take 2 rfl (by kernel_rfl) (by kernel_rfl) (by kernel_rfl) (fun _ _ _ h => h) (yi_row rfl rfl rfl (fun w hS => (HX.out.later hS).range (i := 1) rfl) ent_row) HS.out ?_
  simp only [Act.put, List.setIfInBounds_toArray, List.set_cons_zero, List.set_cons_succ]
  refine lx_call 1 rfl (by kernel_rfl) rfl rfl ⟨_, Try.func32, by decide, by kernel_rfl⟩ [.agg (entL A1 n1 c1 B1 m1 d1 D1 v1 q1 e).toArray] rfl ?_
  refine (check_any A1 n1 c1 e.fam B1 m1 d1 e.ts e.seq e.kind D1 v1 q1 _).mono ?_
  rw [HZ1.out]
  rintro r x9 ⟨rfl, hb9⟩
  replace HS := Lib.hid (below_up HS.out hb9)
  clear hb9
  refine ⟨_, rfl, HS.out, ?_⟩
  simp only [Act.put, List.setIfInBounds_toArray, List.set_cons_zero, List.set_cons_succ]
  refine lx_call 3 rfl (by kernel_rfl) rfl rfl ⟨_, Try.func33, by decide, by kernel_rfl⟩ [.agg (entL A2 n2 c2 B2 m2 d2 D2 v2 q2 e).toArray] rfl ?_
  refine (rCheck_any A2 n2 c2 e.fam B2 m2 d2 e.ts e.seq e.kind D2 v2 q2 _).mono ?_
  rw [HZ2.out]
  rintro r x10 ⟨rfl, hb10⟩
  replace HS := Lib.hid (below_up HS.out hb10)
  clear hb10
  refine ⟨_, rfl, HS.out, ?_⟩
  simp only [Act.put, List.setIfInBounds_toArray, List.set_cons_zero, List.set_cons_succ]
  refine lx_take 4 rfl (by kernel_rfl) (by kernel_rfl) (by kernel_rfl) (fun _ _ _ h => h) (v := ?_) (yi_run rfl (fun w => ?_)) HS.out ?_
  rotate_left
  · first | (go_simp; done) | (go_simp; with_reducible rfl)
  simp only [Act.put, List.setIfInBounds_toArray, List.set_cons_zero, List.set_cons_succ]
  refine lx_take 5 rfl (by kernel_rfl) (by kernel_rfl) (by kernel_rfl) (fun _ _ _ h => h) (v := ?_) (yi_run rfl (fun w => ?_)) HS.out ?_
  rotate_left
  · first | (go_simp; done) | (go_simp; with_reducible rfl)
  simp only [Act.put, List.setIfInBounds_toArray, List.set_cons_zero, List.set_cons_succ]
  refine lx_take 6 rfl (by kernel_rfl) (by kernel_rfl) (by kernel_rfl) (fun _ _ _ h => h) (yi_row rfl rfl rfl (fun w hS => (HX.out.later hS).range (i := 0) rfl) ent_row) HS.out ?_
  simp only [Act.put, List.setIfInBounds_toArray, List.set_cons_zero, List.set_cons_succ]
  refine lx_take 7 rfl (by kernel_rfl) (by kernel_rfl) (by kernel_rfl) (fun _ _ _ h => h) (yi_row rfl rfl rfl (fun w hS => (HX.out.later hS).range (i := 2) rfl) ent_row) HS.out ?_
  simp only [Act.put, List.setIfInBounds_toArray, List.set_cons_zero, List.set_cons_succ]
  refine lx_take 9 rfl (by kernel_rfl) (by kernel_rfl) (by kernel_rfl) (fun _ _ _ h => h) (yi_row rfl rfl rfl (fun w hS => (HX.out.later hS).range (i := 1) rfl) ent_row) HS.out ?_
  simp only [Act.put, List.setIfInBounds_toArray, List.set_cons_zero, List.set_cons_succ]
  refine lx_take 10 rfl (by kernel_rfl) (by kernel_rfl) (by kernel_rfl) (fun _ _ _ h => h) (yi_row rfl rfl rfl (fun w hS => (HX.out.later hS).range (i := 2) rfl) ent_row) HS.out ?_
  simp only [Act.put, List.setIfInBounds_toArray, List.set_cons_zero, List.set_cons_succ]
  refine lx_call 8 rfl (by kernel_rfl) rfl rfl ⟨_, Try.func22, by decide, by kernel_rfl⟩ [.agg (entL A1 n1 c1 B1 m1 d1 D1 v1 q1 e).toArray, .agg (entL A3 n3 c3 B3 m3 d3 D3 v3 q3 f).toArray] rfl ?_
  refine (compare_any e f A1 n1 c1 B1 m1 d1 D1 v1 q1 A3 n3 c3 B3 m3 d3 D3 v3 q3 _ (H1.out.later (below_up HX.out.up HS.out)) (H3.out.later (below_up HX.out.up HS.out))).mono ?_
  rw [HTC.out]
  rintro r x11 ⟨rfl, hb11⟩
  replace HS := Lib.hid (below_up HS.out hb11)
  clear hb11
  refine ⟨_, rfl, HS.out, ?_⟩
  simp only [Act.put, List.setIfInBounds_toArray, List.set_cons_zero, List.set_cons_succ]
  refine lx_call 11 rfl (by kernel_rfl) rfl rfl ⟨_, Try.func23, by decide, by kernel_rfl⟩ [.agg (entL A2 n2 c2 B2 m2 d2 D2 v2 q2 e).toArray, .agg (entL A3 n3 c3 B3 m3 d3 D3 v3 q3 f).toArray] rfl ?_
  refine (rcompare_any e f A2 n2 c2 B2 m2 d2 D2 v2 q2 A3 n3 c3 B3 m3 d3 D3 v3 q3 _ (H2.out.later (below_up HX.out.up HS.out)) (H3.out.later (below_up HX.out.up HS.out))).mono ?_
  rw [HTC.out]
  rintro r x12 ⟨rfl, hb12⟩
  replace HS := Lib.hid (below_up HS.out hb12)
  clear hb12
  refine ⟨_, rfl, HS.out, ?_⟩
  simp only [Act.put, List.setIfInBounds_toArray, List.set_cons_zero, List.set_cons_succ]
  refine lx_take 12 rfl (by kernel_rfl) (by kernel_rfl) (by kernel_rfl) (fun _ _ _ h => h) (v := ?_) (yi_run rfl (fun w => ?_)) HS.out ?_
  rotate_left
  · first | (go_simp; done) | (go_simp; with_reducible rfl)
  simp only [Act.put, List.setIfInBounds_toArray, List.set_cons_zero, List.set_cons_succ]
  refine lx_take 13 rfl (by kernel_rfl) (by kernel_rfl) (by kernel_rfl) (fun _ _ _ h => h) (v := ?_) (yi_run rfl (fun w => ?_)) HS.out ?_
  rotate_left
  · first | (go_simp; done) | (go_simp; with_reducible rfl)
  simp only [Act.put, List.setIfInBounds_toArray, List.set_cons_zero, List.set_cons_succ]
  refine lx_done (by kernel_rfl) ?_
  replace HX := Lib.hid (HX.out.later HS.out)
  have tk : True := trivial
  go_wp2_with (go_at_call 30; have _t := tk; go_must (refine (same_any K K Ak Aw kn ck kn cw _ (by have := HNL.out; omega) (HX.out.sl (i := 0) rfl HN.out.1).rb (HX.out.sl (i := 1) rfl HN.out.1).rb).mono ?_); rw [HSS.out.1]; rintro r y1 ⟨rfl, hb⟩; replace HX := Lib.hid (HX.out.later hb); clear hb tk)
  have tk : True := trivial
  go_wp2_with (go_at_call 30; have _t := tk; go_must (refine (same_any G G Ap Av gn cp gn cv _ (by have := HNL.out; omega) (HX.out.sl (i := 2) rfl HN.out.2.1).rb (HX.out.sl (i := 3) rfl HN.out.2.1).rb).mono ?_); rw [HSS.out.2.1]; rintro r y2 ⟨rfl, hb⟩; replace HX := Lib.hid (HX.out.later hb); clear hb tk)
  have tk : True := trivial
  go_wp2_with (go_at_call 30; have _t := tk; go_must (refine (same_any J J As At sn cs sn ct _ (by have := HNL.out; omega) (HX.out.sl (i := 4) rfl HN.out.2.2.1).rb (HX.out.sl (i := 5) rfl HN.out.2.2.1).rb).mono ?_); rw [HSS.out.2.2.1]; rintro r y3 ⟨rfl, hb⟩; replace HX := Lib.hid (HX.out.later hb); clear hb tk)
  have tk : True := trivial
  go_wp2_with (go_at_call 30; have _t := tk; go_must (refine (same_any V V An Am vn cn vn cm _ (by have := HNL.out; omega) (HX.out.sl (i := 6) rfl HN.out.2.2.2).rb (HX.out.sl (i := 7) rfl HN.out.2.2.2).rb).mono ?_); rw [HSS.out.2.2.2]; rintro r y4 ⟨rfl, hb⟩; replace HX := Lib.hid (HX.out.later hb); clear hb tk)
  go_ret
  exact ⟨rfl, HX.out.up⟩
end Go.Proofs.Ytcikhlieaoanoaa

/-
  The law's put, walked: some byte of the row is another one.
-/
namespace Go.Proofs.Ytcikhlieaoanoaa
open Go.RowKit

theorem wrap_u8 (x : Int) : ∃ u : UInt8, IntKind.u8.wrap x = (u.toNat : Int) := by
  refine ⟨UInt8.ofNat (x % 256).toNat, ?_⟩
  rw [UInt8.toNat_ofNat']
  have h : IntKind.u8.wrap x = x % 256 := by simp [IntKind.wrap, IntKind.signed, IntKind.bits]
  rw [h]
  omega
theorem own_put {T : TypeId} {base : Nat} {w : World} {g c k n : Nat} {l mk : List UInt8} (h : OwnB T base w (some ⟨g, 0, none⟩) c (l ++ mk)) (hl : l.length = n) (hk : k < n) (u : UInt8) :
    ∃ l', l'.length = n ∧ OwnB T base (w.setCell ⟨g, k, none⟩ (u8v u)) (some ⟨g, 0, none⟩) c (l' ++ mk) := by
  refine ⟨l.set k u, by rw [List.length_set, hl], ?_⟩
  have := own_store h k u
  rwa [List.set_append_left _ _ (by omega)] at this
def PutPost (T : TypeId) (base : Nat) (A : Option Addr) (n c : Nat) (mk : List UInt8) (w w' : World) : Prop := ∃ l', l'.length = n ∧ OwnB T base w' A c (l' ++ mk) ∧ Chg (fun b => A.map (·.block) = some b) w w'
set_option maxRecDepth 100000 in
set_option maxHeartbeats 1000000 in
theorem put_any (base : Nat) (l mk : List UInt8) (A : Option Addr) (n c : Nat) (a y : Int) (w : World) (ho : OwnB 5 base w A c (l ++ mk)) (hl : l.length = n) (hn : n ≤ 1000000) :
    Calls Try.prog 66 #[.slice A n c, .int .i64 a, .int .i64 y] w fun r w' => r = .returned (.tuple #[]) ∧ PutPost 5 base A n c mk w w' := by
  by_cases h0 : n = 0
  · subst h0
    have HO := Lib.hid ho
    have HL := Lib.hid hl
    clear ho hl
    go_enter Try.func66, Try.ntmps66
    go_wp2
    exact bodyPost_ret (v := .tuple #[]) (by simp [results, Try.results66, go_sem]) rfl ⟨rfl, l, HL.out, HO.out, Chg.refl _ _⟩
  have hd0 : ((n : Int) == 0) = false := by rw [beq_eq_false_iff_ne]; omega
  obtain ⟨r, hr⟩ : ∃ r, r = Int.tmod a n := ⟨_, rfl⟩
  have hr1 : -(n : Int) < r := by rw [hr]; have := Int.tmod_lt_of_pos (-a) (show (0 : Int) < n by omega); have h2 := Int.neg_tmod a n; omega
  have hr2 : r < (n : Int) := by rw [hr]; exact Int.tmod_lt_of_pos a (by omega)
  obtain ⟨g, cap, hg, _, _, hcap⟩ := own_form ho (by rw [List.length_append]; omega)
  injection hg with hg _ hcc
  subst hg hcc
  obtain ⟨u, hu⟩ := wrap_u8 y
  have HO := Lib.hid ho
  have HL := Lib.hid hl
  have hlen : n ≤ (l ++ mk).length := by rw [List.length_append]; omega
  obtain ⟨k, hk⟩ : ∃ k : Nat, (k : Int) = if r < 0 then r + n else r := by
    refine ⟨(if r < 0 then r + n else r).toNat, ?_⟩
    split <;> omega
  have hkn : k < n := by split at hk <;> omega
  obtain ⟨x, hx⟩ := get_of (b := l ++ mk) (k := k) (by omega)
  obtain ⟨q1, q2⟩ := own_cell HO.out hx
  have hE : Int.tmod a n = r := hr.symm
  have HP := Lib.hid (own_put HO.out HL.out hkn u)
  have hk1 : (k : Int) < (n : Int) := by omega
  clear ho hl hlen hx hr h0
  by_cases hneg : r < 0
  · have hd1 : decide (r < 0) = true := decide_eq_true hneg
    rw [if_pos hneg] at hk
    have hs : r + (n : Int) = (k : Int) := hk.symm
    have hw : IntKind.i64.wrap (r + (n : Int)) = (k : Int) := by rw [hs]; exact i64_sum (by omega) (by omega)
    clear hk
    go_enter Try.func66, Try.ntmps66
    go_wp2
    obtain ⟨l', z1, z2⟩ := HP.out
    go_end0
    exact ⟨rfl, l', z1, z2, (Chg.setCell w ⟨g, k, none⟩ _).mono fun b _ e => by rw [e]; rfl⟩
  · have hd1 : decide (r < 0) = false := decide_eq_false hneg
    rw [if_neg hneg] at hk
    obtain rfl : r = (k : Int) := hk.symm
    clear hk
    go_enter Try.func66, Try.ntmps66
    go_wp2
    obtain ⟨l', z1, z2⟩ := HP.out
    go_end0
    exact ⟨rfl, l', z1, z2, (Chg.setCell w ⟨g, k, none⟩ _).mono fun b _ e => by rw [e]; rfl⟩
end Go.Proofs.Ytcikhlieaoanoaa
