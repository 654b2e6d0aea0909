/-
  Laid together by merge.py: CellL4, CellL10, Law, Law2, Law3, CellLaw.
-/
import Derived.Test.YtcikhlieaoanoaaCm4
import Derived.Deep.DeepCutAuto
import Derived.Test.YtcikhlieaoanoaaCm3
import Derived.Test.YtcikhlieaoanoaaCm1
import Derived.ProofKit
import Derived.SizedLaws
import Derived.Lib.SmallJoins
import Derived.Deep.Slices
import Derived.Deep.Fields
import Derived.Test.YtcikhlieaoanoaaRows

/-
  CellOrder walked. (Printed by gen_order.py.)
-/
namespace Go.Proofs.Ytcikhlieaoanoaa
open Go.RowKit

theorem cmp_bd (x y : Ent) : -1 ≤ cmpE x y ∧ cmpE x y ≤ 1 := by
  have hI : ∀ a b : Int, -1 ≤ cmpI a b ∧ cmpI a b ≤ 1 := fun a b => by unfold cmpI; (repeat' split) <;> omega
  have hF : ∀ a b : Bool, -1 ≤ firstI a b ∧ firstI a b ≤ 1 := fun a b => by unfold firstI; (repeat' split) <;> omega
  have hB : ∀ a b : List UInt8, -1 ≤ cmpB a b ∧ cmpB a b ≤ 1 := by
    intro a
    induction a with
    | nil => intro b; cases b <;> simp [cmpB]
    | cons u a ih => intro b; cases b with
      | nil => simp [cmpB]
      | cons v b => unfold cmpB; split; · omega
                    split; · omega
                    exact ih b
  have hS : ∀ a b : Int, (-1 ≤ a ∧ a ≤ 1) → (-1 ≤ b ∧ b ≤ 1) → -1 ≤ seqC a b ∧ seqC a b ≤ 1 := fun a b h1 h2 => by unfold seqC; split <;> assumption
  unfold cmpE
  exact hS _ _ (hB _ _) (hS _ _ (hI _ _) (hS _ _ (hF _ _) (hS _ _ (hB _ _) (hS _ _ (hF _ _) (hS _ _ (hI _ _) (hS _ _ (hI _ _) (hI _ _)))))))
set_option maxRecDepth 100000 in
set_option maxHeartbeats 4000000 in
theorem order_any (a b f : Ent) (Ap1 : Option Addr) (np1 cp1 : Nat) (Bp1 : Option Addr) (mp1 dp1 : Nat) (Dp1 : Option Addr) (vp1 qp1 : Nat) (Ap2 : Option Addr) (np2 cp2 : Nat) (Bp2 : Option Addr) (mp2 dp2 : Nat) (Dp2 : Option Addr) (vp2 qp2 : Nat) (Ap3 : Option Addr) (np3 cp3 : Nat) (Bp3 : Option Addr) (mp3 dp3 : Nat) (Dp3 : Option Addr) (vp3 qp3 : Nat) (w : World) (ha : En w Ap1 np1 cp1 Bp1 mp1 dp1 Dp1 vp1 qp1 a) (hb : En w Ap2 np2 cp2 Bp2 mp2 dp2 Dp2 vp2 qp2 b) (hf : En w Ap3 np3 cp3 Bp3 mp3 dp3 Dp3 vp3 qp3 f) :
    Calls Try.prog 4 #[entV Ap1 np1 cp1 Bp1 mp1 dp1 Dp1 vp1 qp1 a, entV Ap2 np2 cp2 Bp2 mp2 dp2 Dp2 vp2 qp2 b, entV Ap3 np3 cp3 Bp3 mp3 dp3 Dp3 vp3 qp3 f] w fun e w' => e = .returned (.bool true) ∧ Below w.heap.size w w' := by
  have HA := Lib.hid ha
  have HB := Lib.hid hb
  have HF := Lib.hid hf
  have HX : Hid (St 5 w [some (w.heap.size, (entL Ap1 np1 cp1 Bp1 mp1 dp1 Dp1 vp1 qp1 a)), some (w.heap.size + 1, (entL Ap2 np2 cp2 Bp2 mp2 dp2 Dp2 vp2 qp2 b)), some (w.heap.size + 1 + 1, (entL Ap3 np3 cp3 Bp3 mp3 dp3 Dp3 vp3 qp3 f))] [] (((w.alloc (.cells (entL Ap1 np1 cp1 Bp1 mp1 dp1 Dp1 vp1 qp1 a).toArray 27)).alloc (.cells (entL Ap2 np2 cp2 Bp2 mp2 dp2 Dp2 vp2 qp2 b).toArray 27)).alloc (.cells (entL Ap3 np3 cp3 Bp3 mp3 dp3 Dp3 vp3 qp3 f).toArray 27))) := Lib.hid (by
    have h := (((St.nil 5 w).push (t := 27) (entL Ap1 np1 cp1 Bp1 mp1 dp1 Dp1 vp1 qp1 a)).push (t := 27) (entL Ap2 np2 cp2 Bp2 mp2 dp2 Dp2 vp2 qp2 b)).push (t := 27) (entL Ap3 np3 cp3 Bp3 mp3 dp3 Dp3 vp3 qp3 f)
    have e1 : ∀ (x : World) o, (x.alloc o).heap.size = x.heap.size + 1 := fun x o => by show (x.heap.push o).size = _; simp
    rw [e1, e1, e1] at h
    exact h)
  obtain ⟨X, hX⟩ : ∃ E, E = cutE a := ⟨_, rfl⟩
  obtain ⟨Y, hY⟩ : ∃ E, E = cutE b := ⟨_, rfl⟩
  obtain ⟨Z, hZ⟩ : ∃ E, E = cutE f := ⟨_, rfl⟩
  have HXL : Hid (X.row.length ≤ 5000 ∧ X.qual.length ≤ 5000 ∧ X.val.length ≤ 5000) := Lib.hid (by rw [hX]; exact cutE_len a)
  have HYL : Hid (Y.row.length ≤ 5000 ∧ Y.qual.length ≤ 5000 ∧ Y.val.length ≤ 5000) := Lib.hid (by rw [hY]; exact cutE_len b)
  have HZL : Hid (Z.row.length ≤ 5000 ∧ Z.qual.length ≤ 5000 ∧ Z.val.length ≤ 5000) := Lib.hid (by rw [hZ]; exact cutE_len f)
  have HCE : Hid (cutE a = X ∧ cutE b = Y ∧ cutE f = Z) := Lib.hid ⟨hX.symm, hY.symm, hZ.symm⟩
  clear hX hY hZ ha hb hf
  unfold entV
  go_enter Try.func4, Try.ntmps4
  go_wp2_with (go_at_call 12; go_must (refine (told_any _).mono ?_); rintro r x1 ⟨rfl, hb1⟩; replace HX := Lib.hid (HX.out.later hb1); clear hb1)
  refine wp_region_reg (by kernel_rfl) (by kernel_rfl) (Parts.slots (⟨3, fun j => 15 + 2 * j, fun j => 16 + 2 * j, fun j => 7 + j, fun j => 2 * j, fun j => 2 * j + 1, fun j => 6 + j, fun j => 9 + j⟩ : Parts)) (PartR (⟨3, fun j => 15 + 2 * j, fun j => 16 + 2 * j, fun j => 7 + j, fun j => 2 * j, fun j => 2 * j + 1, fun j => 6 + j, fun j => 9 + j⟩ : Parts) 5 w [some (w.heap.size, (entL Ap1 np1 cp1 Bp1 mp1 dp1 Dp1 vp1 qp1 a)), some (w.heap.size + 1, (entL Ap2 np2 cp2 Bp2 mp2 dp2 Dp2 vp2 qp2 b)), some (w.heap.size + 1 + 1, (entL Ap3 np3 cp3 Bp3 mp3 dp3 Dp3 vp3 qp3 f))] [] 7 (fun j => match j with | 0 => (entL Ap1 np1 cp1 Bp1 mp1 dp1 Dp1 vp1 qp1 a) | 1 => (entL Ap2 np2 cp2 Bp2 mp2 dp2 Dp2 vp2 qp2 b) | _ => (entL Ap3 np3 cp3 Bp3 mp3 dp3 Dp3 vp3 qp3 f)) (fun j => LPst ((fun j => match j with | 0 => cutE a | 1 => cutE b | _ => cutE f) j))) (partR_start HX.out.drew) ⟨part_load (j := 0) (i := 0) rfl (by decide) rfl rfl (by decide) rfl rfl ent_row, part_call (j := 0) rfl (by decide) rfl rfl go_entry (by kernel_rfl) (by kernel_rfl) ⟨_, rfl, by kernel_rfl⟩ (entry_part HA.out), part_load (j := 1) (i := 1) rfl (by decide) rfl rfl (by decide) rfl rfl ent_row, part_call (j := 1) rfl (by decide) rfl rfl go_entry (by kernel_rfl) (by kernel_rfl) ⟨_, rfl, by kernel_rfl⟩ (entry_part HB.out), part_load (j := 2) (i := 2) rfl (by decide) rfl rfl (by decide) rfl rfl ent_row, part_call (j := 2) rfl (by decide) rfl rfl go_entry (by kernel_rfl) (by kernel_rfl) ⟨_, rfl, by kernel_rfl⟩ (entry_part HF.out), part_alloc (j := 0) (cs := zeroL) rfl (by decide) rfl rfl ent_zero rfl ⟨_, rfl, by kernel_rfl⟩, part_alloc (j := 1) (cs := zeroL) rfl (by decide) rfl rfl ent_zero rfl ⟨_, rfl, by kernel_rfl⟩, part_alloc (j := 2) (cs := zeroL) rfl (by decide) rfl rfl ent_zero rfl ⟨_, rfl, by kernel_rfl⟩, part_store (j := 0) rfl (by decide) rfl rfl (by kernel_rfl) (by kernel_rfl) lpst_cells ent_size, part_store (j := 1) rfl (by decide) rfl rfl (by kernel_rfl) (by kernel_rfl) lpst_cells ent_size, part_store (j := 2) rfl (by decide) rfl rfl (by kernel_rfl) (by kernel_rfl) lpst_cells ent_size, trivial⟩ ?_
  intro Dn sv x2 hall hR
  obtain ⟨A1, c1, B1, d1, D1, q1, g1, A2, c2, B2, d2, D2, q2, g2, A3, c3, B3, d3, D3, q3, g3, h1, h2, h3, hst⟩ := ents3 (es := (fun j => match j with | 0 => cutE a | 1 => cutE b | _ => cutE f)) rfl hR (by
    intro j hj i hi
    have : i < 12 := by
      match j, hj with
      | 0, _ => revert i; decide
      | 1, _ => revert i; decide
      | 2, _ => revert i; decide
    exact hall i this)
  have h1 : sv 7 = .pointer (some ⟨g1, 0, none⟩) := h1
  have h2 : sv 8 = .pointer (some ⟨g2, 0, none⟩) := h2
  have h3 : sv 9 = .pointer (some ⟨g3, 0, none⟩) := h3
  simp only [show Parts.slots (⟨3, fun j => 15 + 2 * j, fun j => 16 + 2 * j, fun j => 7 + j, fun j => 2 * j, fun j => 2 * j + 1, fun j => 6 + j, fun j => 9 + j⟩ : Parts) = [15, 16, 7, 17, 18, 8, 19, 20, 9] from rfl, putsF, List.foldl_cons, List.foldl_nil, Act.put, List.setIfInBounds_toArray, List.set_cons_zero, List.set_cons_succ, h1, h2, h3]
  have hst : St 5 w [some (w.heap.size, (entL Ap1 np1 cp1 Bp1 mp1 dp1 Dp1 vp1 qp1 a)), some (w.heap.size + 1, (entL Ap2 np2 cp2 Bp2 mp2 dp2 Dp2 vp2 qp2 b)), some (w.heap.size + 1 + 1, (entL Ap3 np3 cp3 Bp3 mp3 dp3 Dp3 vp3 qp3 f)), some (g1, (entL A1 X.row.length c1 B1 X.qual.length d1 D1 X.val.length q1 X)), some (g2, (entL A2 Y.row.length c2 B2 Y.qual.length d2 D2 Y.val.length q2 Y)), some (g3, (entL A3 Z.row.length c3 B3 Z.qual.length d3 D3 Z.val.length q3 Z))] [(A1, c1, X.row ++ mkL 70), (B1, d1, X.qual ++ mkL 70), (D1, q1, X.val ++ mkL 70), (A2, c2, Y.row ++ mkL 70), (B2, d2, Y.qual ++ mkL 70), (D2, q2, Y.val ++ mkL 70), (A3, c3, Z.row ++ mkL 70), (B3, d3, Z.qual ++ mkL 70), (D3, q3, Z.val ++ mkL 70)] x2 := by
    have h : St 5 w ([some (w.heap.size, (entL Ap1 np1 cp1 Bp1 mp1 dp1 Dp1 vp1 qp1 a)), some (w.heap.size + 1, (entL Ap2 np2 cp2 Bp2 mp2 dp2 Dp2 vp2 qp2 b)), some (w.heap.size + 1 + 1, (entL Ap3 np3 cp3 Bp3 mp3 dp3 Dp3 vp3 qp3 f))] ++ [some (g1, (entL A1 (cutE a).row.length c1 B1 (cutE a).qual.length d1 D1 (cutE a).val.length q1 (cutE a))), some (g2, (entL A2 (cutE b).row.length c2 B2 (cutE b).qual.length d2 D2 (cutE b).val.length q2 (cutE b))), some (g3, (entL A3 (cutE f).row.length c3 B3 (cutE f).qual.length d3 D3 (cutE f).val.length q3 (cutE f)))]) ([] ++ [(A1, c1, (cutE a).row ++ mkL 70), (B1, d1, (cutE a).qual ++ mkL 70), (D1, q1, (cutE a).val ++ mkL 70), (A2, c2, (cutE b).row ++ mkL 70), (B2, d2, (cutE b).qual ++ mkL 70), (D2, q2, (cutE b).val ++ mkL 70), (A3, c3, (cutE f).row ++ mkL 70), (B3, d3, (cutE f).qual ++ mkL 70), (D3, q3, (cutE f).val ++ mkL 70)]) x2 := hst
    rw [HCE.out.1, HCE.out.2.1, HCE.out.2.2] at h
    exact h
  replace HX := Lib.hid hst
  have HM1 : Hid (∀ x, Below x2.heap.size x2 x → EnM x A1 X.row.length c1 B1 X.qual.length d1 D1 X.val.length q1 X) := Lib.hid fun x hx => (enm_of (i := 0) HX.out rfl rfl rfl HXL.out).later hx
  have HM2 : Hid (∀ x, Below x2.heap.size x2 x → EnM x A2 Y.row.length c2 B2 Y.qual.length d2 D2 Y.val.length q2 Y) := Lib.hid fun x hx => (enm_of (i := 3) HX.out rfl rfl rfl HYL.out).later hx
  have HM3 : Hid (∀ x, Below x2.heap.size x2 x → EnM x A3 Z.row.length c3 B3 Z.qual.length d3 D3 Z.val.length q3 Z) := Lib.hid fun x hx => (enm_of (i := 6) HX.out rfl rfl rfl HZL.out).later hx
  clear hst hR hall h1 h2 h3
  have HS := Lib.hid (Below.refl x2.heap.size x2).drew
  obtain ⟨xy, hxy⟩ : ∃ z, z = cmpE X Y := ⟨_, rfl⟩
  obtain ⟨yx, hyx⟩ : ∃ z, z = cmpE Y X := ⟨_, rfl⟩
  obtain ⟨yz, hyz⟩ : ∃ z, z = cmpE Y Z := ⟨_, rfl⟩
  obtain ⟨xz, hxz⟩ : ∃ z, z = cmpE X Z := ⟨_, rfl⟩
  have bxy : -1 ≤ xy ∧ xy ≤ 1 := by rw [hxy]; exact cmp_bd X Y
  have bneg : IntKind.i64.wrap (-yx) = xy := by
    have e : -yx = xy := by rw [hyx, hxy]; have := ord_E.swap X Y; omega
    rw [e]; exact i64_sum (by omega) (by omega)
  have HTR : Hid (xy ≤ 0 → yz ≤ 0 → xz ≤ 0) := Lib.hid (by rw [hxy, hyz, hxz]; exact ord_E.trans X Y Z)
  have HEQ : Hid (xy = 0 → xz = yz) := Lib.hid (by rw [hxy, hyz, hxz]; exact ord_E.eq X Y Z)
  have HC : Hid (cmpE X Y = xy ∧ cmpE Y X = yx ∧ cmpE Y Z = yz ∧ cmpE X Z = xz) := Lib.hid ⟨hxy.symm, hyx.symm, hyz.symm, hxz.symm⟩
  have HBN := Lib.hid bneg
  have HBX := Lib.hid bxy
  clear hxy hyx hyz hxz bxy bneg
  go_wp2
  refine lx_start (S := fun x => Below x2.heap.size x2 x) (by kernel_rfl) HS.out ?_
  refine lx_take 0 rfl (by kernel_rfl) (by kernel_rfl) (by kernel_rfl) (fun _ _ _ h => h) (yi_row rfl rfl rfl (fun w hS => (HX.out.later hS).range (i := 3) rfl) ent_row) HS.out ?_
  simp only [Act.put, List.setIfInBounds_toArray, List.set_cons_zero, List.set_cons_succ]
  refine lx_take 1 rfl (by kernel_rfl) (by kernel_rfl) (by kernel_rfl) (fun _ _ _ h => h) (yi_row rfl rfl rfl (fun w hS => (HX.out.later hS).range (i := 4) rfl) ent_row) HS.out ?_
  simp only [Act.put, List.setIfInBounds_toArray, List.set_cons_zero, List.set_cons_succ]
  refine lx_take 3 rfl (by kernel_rfl) (by kernel_rfl) (by kernel_rfl) (fun _ _ _ h => h) (yi_row rfl rfl rfl (fun w hS => (HX.out.later hS).range (i := 4) rfl) ent_row) HS.out ?_
  simp only [Act.put, List.setIfInBounds_toArray, List.set_cons_zero, List.set_cons_succ]
  refine lx_take 4 rfl (by kernel_rfl) (by kernel_rfl) (by kernel_rfl) (fun _ _ _ h => h) (yi_row rfl rfl rfl (fun w hS => (HX.out.later hS).range (i := 5) rfl) ent_row) HS.out ?_
  simp only [Act.put, List.setIfInBounds_toArray, List.set_cons_zero, List.set_cons_succ]
  refine lx_take 6 rfl (by kernel_rfl) (by kernel_rfl) (by kernel_rfl) (fun _ _ _ h => h) (yi_row rfl rfl rfl (fun w hS => (HX.out.later hS).range (i := 3) rfl) ent_row) HS.out ?_
  simp only [Act.put, List.setIfInBounds_toArray, List.set_cons_zero, List.set_cons_succ]
  refine lx_take 7 rfl (by kernel_rfl) (by kernel_rfl) (by kernel_rfl) (fun _ _ _ h => h) (yi_row rfl rfl rfl (fun w hS => (HX.out.later hS).range (i := 5) rfl) ent_row) HS.out ?_
  simp only [Act.put, List.setIfInBounds_toArray, List.set_cons_zero, List.set_cons_succ]
  refine lx_call 2 rfl (by kernel_rfl) rfl rfl ⟨_, Try.func22, by decide, by kernel_rfl⟩ [.agg (entL A1 X.row.length c1 B1 X.qual.length d1 D1 X.val.length q1 X).toArray, .agg (entL A2 Y.row.length c2 B2 Y.qual.length d2 D2 Y.val.length q2 Y).toArray] rfl ?_
  refine (compare_any X Y A1 X.row.length c1 B1 X.qual.length d1 D1 X.val.length q1 A2 Y.row.length c2 B2 Y.qual.length d2 D2 Y.val.length q2 _ (HM1.out _ HS.out).en (HM2.out _ HS.out).en).mono ?_
  rw [HC.out.1]
  rintro r x3 ⟨rfl, hb3⟩
  replace HS := Lib.hid (below_up HS.out hb3)
  clear hb3
  refine ⟨_, rfl, HS.out, ?_⟩
  simp only [Act.put, List.setIfInBounds_toArray, List.set_cons_zero, List.set_cons_succ]
  refine lx_call 5 rfl (by kernel_rfl) rfl rfl ⟨_, Try.func22, by decide, by kernel_rfl⟩ [.agg (entL A2 Y.row.length c2 B2 Y.qual.length d2 D2 Y.val.length q2 Y).toArray, .agg (entL A3 Z.row.length c3 B3 Z.qual.length d3 D3 Z.val.length q3 Z).toArray] rfl ?_
  refine (compare_any Y Z A2 Y.row.length c2 B2 Y.qual.length d2 D2 Y.val.length q2 A3 Z.row.length c3 B3 Z.qual.length d3 D3 Z.val.length q3 _ (HM2.out _ HS.out).en (HM3.out _ HS.out).en).mono ?_
  rw [HC.out.2.2.1]
  rintro r x4 ⟨rfl, hb4⟩
  replace HS := Lib.hid (below_up HS.out hb4)
  clear hb4
  refine ⟨_, rfl, HS.out, ?_⟩
  simp only [Act.put, List.setIfInBounds_toArray, List.set_cons_zero, List.set_cons_succ]
  refine lx_call 8 rfl (by kernel_rfl) rfl rfl ⟨_, Try.func22, by decide, by kernel_rfl⟩ [.agg (entL A1 X.row.length c1 B1 X.qual.length d1 D1 X.val.length q1 X).toArray, .agg (entL A3 Z.row.length c3 B3 Z.qual.length d3 D3 Z.val.length q3 Z).toArray] rfl ?_
  refine (compare_any X Z A1 X.row.length c1 B1 X.qual.length d1 D1 X.val.length q1 A3 Z.row.length c3 B3 Z.qual.length d3 D3 Z.val.length q3 _ (HM1.out _ HS.out).en (HM3.out _ HS.out).en).mono ?_
  rw [HC.out.2.2.2]
  rintro r x5 ⟨rfl, hb5⟩
  replace HS := Lib.hid (below_up HS.out hb5)
  clear hb5
  refine ⟨_, rfl, HS.out, ?_⟩
  simp only [Act.put, List.setIfInBounds_toArray, List.set_cons_zero, List.set_cons_succ]
  refine lx_take 9 rfl (by kernel_rfl) (by kernel_rfl) (by kernel_rfl) (fun _ _ _ h => h) (v := ?_) (yi_run rfl (fun w => ?_)) HS.out ?_
  rotate_left
  · first | (go_simp; done) | (go_simp; with_reducible rfl)
  simp only [Act.put, List.setIfInBounds_toArray, List.set_cons_zero, List.set_cons_succ]
  refine lx_take 10 rfl (by kernel_rfl) (by kernel_rfl) (by kernel_rfl) (fun _ _ _ h => h) (v := ?_) (yi_run rfl (fun w => ?_)) HS.out ?_
  rotate_left
  · first | (go_simp; done) | (go_simp; with_reducible rfl)
  simp only [Act.put, List.setIfInBounds_toArray, List.set_cons_zero, List.set_cons_succ]
  refine lx_take 11 rfl (by kernel_rfl) (by kernel_rfl) (by kernel_rfl) (fun _ _ _ h => h) (v := ?_) (yi_run rfl (fun w => ?_)) HS.out ?_
  rotate_left
  · first | (go_simp; done) | (go_simp; with_reducible rfl)
  simp only [Act.put, List.setIfInBounds_toArray, List.set_cons_zero, List.set_cons_succ]
  refine lx_done (by kernel_rfl) ?_
  replace HX := Lib.hid (HX.out.later HS.out)
  replace HM1 : Hid (∀ x, Below x5.heap.size x5 x → EnM x A1 X.row.length c1 B1 X.qual.length d1 D1 X.val.length q1 X) := Lib.hid fun x hx => (HM1.out x5 HS.out).later hx
  replace HM2 : Hid (∀ x, Below x5.heap.size x5 x → EnM x A2 Y.row.length c2 B2 Y.qual.length d2 D2 Y.val.length q2 Y) := Lib.hid fun x hx => (HM2.out x5 HS.out).later hx
  replace HM3 : Hid (∀ x, Below x5.heap.size x5 x → EnM x A3 Z.row.length c3 B3 Z.qual.length d3 D3 Z.val.length q3 Z) := Lib.hid fun x hx => (HM3.out x5 HS.out).later hx
  replace HS := Lib.hid (Below.refl x5.heap.size x5).drew
  have hXY : (xy != xy) = false := by simp
  go_wp2
  refine lx_start (S := fun x => Below x5.heap.size x5 x) (by kernel_rfl) HS.out ?_
  refine lx_take 0 rfl (by kernel_rfl) (by kernel_rfl) (by kernel_rfl) (fun _ _ _ h => h) (v := ?_) (yi_run rfl (fun w => ?_)) HS.out ?_
  rotate_left
  · first | (go_simp; done) | (go_simp; with_reducible rfl)
  simp only [Act.put, List.setIfInBounds_toArray, List.set_cons_zero, List.set_cons_succ]
  refine lx_take 1 rfl (by kernel_rfl) (by kernel_rfl) (by kernel_rfl) (fun _ _ _ h => h) (yi_row rfl rfl rfl (fun w hS => (HX.out.later hS).range (i := 0) rfl) ent_row) HS.out ?_
  simp only [Act.put, List.setIfInBounds_toArray, List.set_cons_zero, List.set_cons_succ]
  refine lx_take 3 rfl (by kernel_rfl) (by kernel_rfl) (by kernel_rfl) (fun _ _ _ h => h) (yi_row rfl rfl rfl (fun w hS => (HX.out.later hS).range (i := 1) rfl) ent_row) HS.out ?_
  simp only [Act.put, List.setIfInBounds_toArray, List.set_cons_zero, List.set_cons_succ]
  refine lx_call 2 rfl (by kernel_rfl) rfl rfl ⟨_, Try.func21, by decide, by kernel_rfl⟩ [.agg (entL Ap1 np1 cp1 Bp1 mp1 dp1 Dp1 vp1 qp1 a).toArray] rfl ?_
  refine (entry_any a Ap1 np1 cp1 Bp1 mp1 dp1 Dp1 vp1 qp1 _ (HA.out.later (below_up HX.out.up HS.out))).mono ?_
  rw [HCE.out.1]
  rintro r x6 ⟨A6, c6, B6, d6, D6, q6, rfl, hr6, hb6⟩
  have HM6 : Hid (∀ x, Below x6.heap.size x6 x → EnM x A6 X.row.length c6 B6 X.qual.length d6 D6 X.val.length q6 X) := Lib.hid fun x hx => (LaidE.enm hr6 HXL.out.1 HXL.out.2.1 HXL.out.2.2).later hx
  replace HS := Lib.hid (below_up HS.out hb6)
  clear hb6
  clear hr6
  refine ⟨_, rfl, HS.out, ?_⟩
  simp only [Act.put, List.setIfInBounds_toArray, List.set_cons_zero, List.set_cons_succ]
  refine lx_call 4 rfl (by kernel_rfl) rfl rfl ⟨_, Try.func21, by decide, by kernel_rfl⟩ [.agg (entL Ap2 np2 cp2 Bp2 mp2 dp2 Dp2 vp2 qp2 b).toArray] rfl ?_
  refine (entry_any b Ap2 np2 cp2 Bp2 mp2 dp2 Dp2 vp2 qp2 _ (HB.out.later (below_up HX.out.up HS.out))).mono ?_
  rw [HCE.out.2.1]
  rintro r x7 ⟨A7, c7, B7, d7, D7, q7, rfl, hr7, hb7⟩
  have HM7 : Hid (∀ x, Below x7.heap.size x7 x → EnM x A7 Y.row.length c7 B7 Y.qual.length d7 D7 Y.val.length q7 Y) := Lib.hid fun x hx => (LaidE.enm hr7 HYL.out.1 HYL.out.2.1 HYL.out.2.2).later hx
  have hb7x := Lib.hid hb7
  replace HS := Lib.hid (below_up HS.out hb7)
  clear hb7
  clear hr7
  refine ⟨_, rfl, HS.out, ?_⟩
  simp only [Act.put, List.setIfInBounds_toArray, List.set_cons_zero, List.set_cons_succ]
  refine lx_call 5 rfl (by kernel_rfl) rfl rfl ⟨_, Try.func23, by decide, by kernel_rfl⟩ [entV A6 X.row.length c6 B6 X.qual.length d6 D6 X.val.length q6 X, entV A7 Y.row.length c7 B7 Y.qual.length d7 D7 Y.val.length q7 Y] rfl ?_
  refine (rcompare_any X Y A6 X.row.length c6 B6 X.qual.length d6 D6 X.val.length q6 A7 Y.row.length c7 B7 Y.qual.length d7 D7 Y.val.length q7 _ (HM6.out _ hb7x.out).en (HM7.out _ (Below.refl _ _)).en).mono ?_
  rw [HC.out.1]
  rintro r x8 ⟨rfl, hb8⟩
  replace HS := Lib.hid (below_up HS.out hb8)
  clear hb8
  refine ⟨_, rfl, HS.out, ?_⟩
  simp only [Act.put, List.setIfInBounds_toArray, List.set_cons_zero, List.set_cons_succ]
  refine lx_take 6 rfl (by kernel_rfl) (by kernel_rfl) (by kernel_rfl) (fun _ _ _ h => h) (v := ?_) (yi_run rfl (fun w => ?_)) HS.out ?_
  rotate_left
  · first | (go_simp; done) | (go_simp; with_reducible rfl)
  simp only [Act.put, List.setIfInBounds_toArray, List.set_cons_zero, List.set_cons_succ]
  refine lx_take 7 rfl (by kernel_rfl) (by kernel_rfl) (by kernel_rfl) (fun _ _ _ h => h) (v := ?_) (yi_run rfl (fun w => ?_)) HS.out ?_
  rotate_left
  · first | (go_simp; done) | (go_simp; with_reducible rfl)
  simp only [Act.put, List.setIfInBounds_toArray, List.set_cons_zero, List.set_cons_succ]
  refine lx_take 8 rfl (by kernel_rfl) (by kernel_rfl) (by kernel_rfl) (fun _ _ _ h => h) (v := ?_) (yi_run rfl (fun w => ?_)) HS.out ?_
  rotate_left
  · first | (go_simp; done) | (go_simp; with_reducible rfl)
  simp only [Act.put, List.setIfInBounds_toArray, List.set_cons_zero, List.set_cons_succ]
  refine lx_take 9 rfl (by kernel_rfl) (by kernel_rfl) (by kernel_rfl) (fun _ _ _ h => h) (yi_row rfl rfl rfl (fun w hS => (HX.out.later hS).range (i := 4) rfl) ent_row) HS.out ?_
  simp only [Act.put, List.setIfInBounds_toArray, List.set_cons_zero, List.set_cons_succ]
  refine lx_take 10 rfl (by kernel_rfl) (by kernel_rfl) (by kernel_rfl) (fun _ _ _ h => h) (yi_row rfl rfl rfl (fun w hS => (HX.out.later hS).range (i := 3) rfl) ent_row) HS.out ?_
  simp only [Act.put, List.setIfInBounds_toArray, List.set_cons_zero, List.set_cons_succ]
  refine lx_call 11 rfl (by kernel_rfl) rfl rfl ⟨_, Try.func22, by decide, by kernel_rfl⟩ [.agg (entL A2 Y.row.length c2 B2 Y.qual.length d2 D2 Y.val.length q2 Y).toArray, .agg (entL A1 X.row.length c1 B1 X.qual.length d1 D1 X.val.length q1 X).toArray] rfl ?_
  refine (compare_any Y X A2 Y.row.length c2 B2 Y.qual.length d2 D2 Y.val.length q2 A1 X.row.length c1 B1 X.qual.length d1 D1 X.val.length q1 _ (HM2.out _ HS.out).en (HM1.out _ HS.out).en).mono ?_
  rw [HC.out.2.1]
  rintro r x9 ⟨rfl, hb9⟩
  replace HS := Lib.hid (below_up HS.out hb9)
  clear hb9
  refine ⟨_, rfl, HS.out, ?_⟩
  simp only [Act.put, List.setIfInBounds_toArray, List.set_cons_zero, List.set_cons_succ]
  have bneg := HBN.out
  refine lx_take 12 rfl (by kernel_rfl) (by kernel_rfl) (by kernel_rfl) (fun _ _ _ h => h) (v := ?_) (yi_run rfl (fun w => ?_)) HS.out ?_
  rotate_left
  · first | (go_simp; done) | (go_simp; with_reducible rfl)
  simp only [Act.put, List.setIfInBounds_toArray, List.set_cons_zero, List.set_cons_succ]
  refine lx_take 13 rfl (by kernel_rfl) (by kernel_rfl) (by kernel_rfl) (fun _ _ _ h => h) (v := ?_) (yi_run rfl (fun w => ?_)) HS.out ?_
  rotate_left
  · first | (go_simp; done) | (go_simp; with_reducible rfl)
  simp only [Act.put, List.setIfInBounds_toArray, List.set_cons_zero, List.set_cons_succ]
  refine lx_take 14 rfl (by kernel_rfl) (by kernel_rfl) (by kernel_rfl) (fun _ _ _ h => h) (v := ?_) (yi_run rfl (fun w => ?_)) HS.out ?_
  rotate_left
  · first | (go_simp; done) | (go_simp; with_reducible rfl)
  simp only [Act.put, List.setIfInBounds_toArray, List.set_cons_zero, List.set_cons_succ]
  refine lx_take 15 rfl (by kernel_rfl) (by kernel_rfl) (by kernel_rfl) (fun _ _ _ h => h) (v := ?_) (yi_run rfl (fun w => ?_)) HS.out ?_
  rotate_left
  · first | (go_simp; done) | (go_simp; with_reducible rfl)
  simp only [Act.put, List.setIfInBounds_toArray, List.set_cons_zero, List.set_cons_succ]
  refine lx_take 16 rfl (by kernel_rfl) (by kernel_rfl) (by kernel_rfl) (fun _ _ _ h => h) (yi_row rfl rfl rfl (fun w hS => (HX.out.later hS).range (i := 3) rfl) ent_row) HS.out ?_
  simp only [Act.put, List.setIfInBounds_toArray, List.set_cons_zero, List.set_cons_succ]
  refine lx_take 17 rfl (by kernel_rfl) (by kernel_rfl) (by kernel_rfl) (fun _ _ _ h => h) (yi_row rfl rfl rfl (fun w hS => (HX.out.later hS).range (i := 3) rfl) ent_row) HS.out ?_
  simp only [Act.put, List.setIfInBounds_toArray, List.set_cons_zero, List.set_cons_succ]
  refine lx_call 18 rfl (by kernel_rfl) rfl rfl ⟨_, Try.func22, by decide, by kernel_rfl⟩ [.agg (entL A1 X.row.length c1 B1 X.qual.length d1 D1 X.val.length q1 X).toArray, .agg (entL A1 X.row.length c1 B1 X.qual.length d1 D1 X.val.length q1 X).toArray] rfl ?_
  refine (compare_any X X A1 X.row.length c1 B1 X.qual.length d1 D1 X.val.length q1 A1 X.row.length c1 B1 X.qual.length d1 D1 X.val.length q1 _ (HM1.out _ HS.out).en (HM1.out _ HS.out).en).mono ?_
  rw [cmpE_self]
  rintro r x10 ⟨rfl, hb10⟩
  replace HS := Lib.hid (below_up HS.out hb10)
  clear hb10
  refine ⟨_, rfl, HS.out, ?_⟩
  simp only [Act.put, List.setIfInBounds_toArray, List.set_cons_zero, List.set_cons_succ]
  refine lx_take 19 rfl (by kernel_rfl) (by kernel_rfl) (by kernel_rfl) (fun _ _ _ h => h) (v := ?_) (yi_run rfl (fun w => ?_)) HS.out ?_
  rotate_left
  · first | (go_simp; done) | (go_simp; with_reducible rfl)
  simp only [Act.put, List.setIfInBounds_toArray, List.set_cons_zero, List.set_cons_succ]
  refine lx_take 20 rfl (by kernel_rfl) (by kernel_rfl) (by kernel_rfl) (fun _ _ _ h => h) (v := ?_) (yi_run rfl (fun w => ?_)) HS.out ?_
  rotate_left
  · first | (go_simp; done) | (go_simp; with_reducible rfl)
  simp only [Act.put, List.setIfInBounds_toArray, List.set_cons_zero, List.set_cons_succ]
  refine lx_done (by kernel_rfl) ?_
  clear bneg
  replace HX := Lib.hid (HX.out.later HS.out)
  replace HM1 : Hid (∀ x, Below x10.heap.size x10 x → EnM x A1 X.row.length c1 B1 X.qual.length d1 D1 X.val.length q1 X) := Lib.hid fun x hx => (HM1.out x10 HS.out).later hx
  replace HM2 : Hid (∀ x, Below x10.heap.size x10 x → EnM x A2 Y.row.length c2 B2 Y.qual.length d2 D2 Y.val.length q2 Y) := Lib.hid fun x hx => (HM2.out x10 HS.out).later hx
  replace HM3 : Hid (∀ x, Below x10.heap.size x10 x → EnM x A3 Z.row.length c3 B3 Z.qual.length d3 D3 Z.val.length q3 Z) := Lib.hid fun x hx => (HM3.out x10 HS.out).later hx
  clear HM6 HM7 hb7x
  replace HS := Lib.hid (Below.refl x10.heap.size x10).drew
  have HS10 := Lib.hid HS.out
  go_wp2
  all_goals (try (exfalso; have t1 := HTR.out; have t2 := HEQ.out; simp only [bne_iff_ne, ne_eq, bne_eq_false_iff_eq] at *; omega))
  all_goals
    clear HTR HEQ HBN HBX HC
    refine lx_start (S := fun x => Below x10.heap.size x10 x) (by kernel_rfl) HS10.out ?_
    refine lx_take 0 rfl (by kernel_rfl) (by kernel_rfl) (by kernel_rfl) (fun _ _ _ h => h) (yi_row rfl rfl rfl (fun w hS => (HX.out.later hS).range (i := 3) rfl) ent_row) HS.out ?_
    simp only [Act.put, List.setIfInBounds_toArray, List.set_cons_zero, List.set_cons_succ]
    refine lx_take 1 rfl (by kernel_rfl) (by kernel_rfl) (by kernel_rfl) (fun _ _ _ h => h) (yi_row rfl rfl rfl (fun w hS => (HX.out.later hS).range (i := 0) rfl) ent_row) HS.out ?_
    simp only [Act.put, List.setIfInBounds_toArray, List.set_cons_zero, List.set_cons_succ]
    refine lx_call 2 rfl (by kernel_rfl) rfl rfl ⟨_, Try.func21, by decide, by kernel_rfl⟩ [.agg (entL Ap1 np1 cp1 Bp1 mp1 dp1 Dp1 vp1 qp1 a).toArray] rfl ?_
    refine (entry_any a Ap1 np1 cp1 Bp1 mp1 dp1 Dp1 vp1 qp1 _ (HA.out.later (below_up HX.out.up HS.out))).mono ?_
    rw [HCE.out.1]
    rintro r x11 ⟨A11, c11, B11, d11, D11, q11, rfl, hr11, hb11⟩
    have HM11 : Hid (∀ x, Below x11.heap.size x11 x → EnM x A11 X.row.length c11 B11 X.qual.length d11 D11 X.val.length q11 X) := Lib.hid fun x hx => (LaidE.enm hr11 HXL.out.1 HXL.out.2.1 HXL.out.2.2).later hx
    replace HS := Lib.hid (below_up HS.out hb11)
    clear hb11
    clear hr11
    refine ⟨_, rfl, HS.out, ?_⟩
    simp only [Act.put, List.setIfInBounds_toArray, List.set_cons_zero, List.set_cons_succ]
    refine lx_call 3 rfl (by kernel_rfl) rfl rfl ⟨_, Try.func24, by decide, by kernel_rfl⟩ [.agg (entL A1 X.row.length c1 B1 X.qual.length d1 D1 X.val.length q1 X).toArray, entV A11 X.row.length c11 B11 X.qual.length d11 D11 X.val.length q11 X] rfl ?_
    refine (stands_any X A1 X.row.length c1 B1 X.qual.length d1 D1 X.val.length q1 A11 c11 B11 d11 D11 q11 _ (HM1.out _ HS.out) (HM11.out _ (Below.refl _ _)).en).mono ?_
    rintro r x12 ⟨rfl, hb12⟩
    replace HS := Lib.hid (below_up HS.out hb12)
    clear hb12
    clear HM11
    refine ⟨_, rfl, HS.out, ?_⟩
    simp only [Act.put, List.setIfInBounds_toArray, List.set_cons_zero, List.set_cons_succ]
    refine lx_take 4 rfl (by kernel_rfl) (by kernel_rfl) (by kernel_rfl) (fun _ _ _ h => h) (v := ?_) (yi_run rfl (fun w => ?_)) HS.out ?_
    rotate_left
    · first | (go_simp; done) | (go_simp; with_reducible rfl)
    simp only [Act.put, List.setIfInBounds_toArray, List.set_cons_zero, List.set_cons_succ]
    refine lx_take 5 rfl (by kernel_rfl) (by kernel_rfl) (by kernel_rfl) (fun _ _ _ h => h) (yi_row rfl rfl rfl (fun w hS => (HX.out.later hS).range (i := 4) rfl) ent_row) HS.out ?_
    simp only [Act.put, List.setIfInBounds_toArray, List.set_cons_zero, List.set_cons_succ]
    refine lx_take 6 rfl (by kernel_rfl) (by kernel_rfl) (by kernel_rfl) (fun _ _ _ h => h) (yi_row rfl rfl rfl (fun w hS => (HX.out.later hS).range (i := 1) rfl) ent_row) HS.out ?_
    simp only [Act.put, List.setIfInBounds_toArray, List.set_cons_zero, List.set_cons_succ]
    refine lx_call 7 rfl (by kernel_rfl) rfl rfl ⟨_, Try.func21, by decide, by kernel_rfl⟩ [.agg (entL Ap2 np2 cp2 Bp2 mp2 dp2 Dp2 vp2 qp2 b).toArray] rfl ?_
    refine (entry_any b Ap2 np2 cp2 Bp2 mp2 dp2 Dp2 vp2 qp2 _ (HB.out.later (below_up HX.out.up HS.out))).mono ?_
    rw [HCE.out.2.1]
    rintro r x13 ⟨A13, c13, B13, d13, D13, q13, rfl, hr13, hb13⟩
    have HM13 : Hid (∀ x, Below x13.heap.size x13 x → EnM x A13 Y.row.length c13 B13 Y.qual.length d13 D13 Y.val.length q13 Y) := Lib.hid fun x hx => (LaidE.enm hr13 HYL.out.1 HYL.out.2.1 HYL.out.2.2).later hx
    replace HS := Lib.hid (below_up HS.out hb13)
    clear hb13
    clear hr13
    refine ⟨_, rfl, HS.out, ?_⟩
    simp only [Act.put, List.setIfInBounds_toArray, List.set_cons_zero, List.set_cons_succ]
    refine lx_call 8 rfl (by kernel_rfl) rfl rfl ⟨_, Try.func24, by decide, by kernel_rfl⟩ [.agg (entL A2 Y.row.length c2 B2 Y.qual.length d2 D2 Y.val.length q2 Y).toArray, entV A13 Y.row.length c13 B13 Y.qual.length d13 D13 Y.val.length q13 Y] rfl ?_
    refine (stands_any Y A2 Y.row.length c2 B2 Y.qual.length d2 D2 Y.val.length q2 A13 c13 B13 d13 D13 q13 _ (HM2.out _ HS.out) (HM13.out _ (Below.refl _ _)).en).mono ?_
    rintro r x14 ⟨rfl, hb14⟩
    replace HS := Lib.hid (below_up HS.out hb14)
    clear hb14
    clear HM13
    refine ⟨_, rfl, HS.out, ?_⟩
    simp only [Act.put, List.setIfInBounds_toArray, List.set_cons_zero, List.set_cons_succ]
    refine lx_take 9 rfl (by kernel_rfl) (by kernel_rfl) (by kernel_rfl) (fun _ _ _ h => h) (v := ?_) (yi_run rfl (fun w => ?_)) HS.out ?_
    rotate_left
    · first | (go_simp; done) | (go_simp; with_reducible rfl)
    simp only [Act.put, List.setIfInBounds_toArray, List.set_cons_zero, List.set_cons_succ]
    refine lx_take 10 rfl (by kernel_rfl) (by kernel_rfl) (by kernel_rfl) (fun _ _ _ h => h) (v := ?_) (yi_run rfl (fun w => ?_)) HS.out ?_
    rotate_left
    · first | (go_simp; done) | (go_simp; with_reducible rfl)
    simp only [Act.put, List.setIfInBounds_toArray, List.set_cons_zero, List.set_cons_succ]
    refine lx_take 11 rfl (by kernel_rfl) (by kernel_rfl) (by kernel_rfl) (fun _ _ _ h => h) (yi_row rfl rfl rfl (fun w hS => (HX.out.later hS).range (i := 5) rfl) ent_row) HS.out ?_
    simp only [Act.put, List.setIfInBounds_toArray, List.set_cons_zero, List.set_cons_succ]
    refine lx_take 12 rfl (by kernel_rfl) (by kernel_rfl) (by kernel_rfl) (fun _ _ _ h => h) (yi_row rfl rfl rfl (fun w hS => (HX.out.later hS).range (i := 2) rfl) ent_row) HS.out ?_
    simp only [Act.put, List.setIfInBounds_toArray, List.set_cons_zero, List.set_cons_succ]
    refine lx_call 13 rfl (by kernel_rfl) rfl rfl ⟨_, Try.func21, by decide, by kernel_rfl⟩ [.agg (entL Ap3 np3 cp3 Bp3 mp3 dp3 Dp3 vp3 qp3 f).toArray] rfl ?_
    refine (entry_any f Ap3 np3 cp3 Bp3 mp3 dp3 Dp3 vp3 qp3 _ (HF.out.later (below_up HX.out.up HS.out))).mono ?_
    rw [HCE.out.2.2]
    rintro r x15 ⟨A15, c15, B15, d15, D15, q15, rfl, hr15, hb15⟩
    have HM15 : Hid (∀ x, Below x15.heap.size x15 x → EnM x A15 Z.row.length c15 B15 Z.qual.length d15 D15 Z.val.length q15 Z) := Lib.hid fun x hx => (LaidE.enm hr15 HZL.out.1 HZL.out.2.1 HZL.out.2.2).later hx
    replace HS := Lib.hid (below_up HS.out hb15)
    clear hb15
    clear hr15
    refine ⟨_, rfl, HS.out, ?_⟩
    simp only [Act.put, List.setIfInBounds_toArray, List.set_cons_zero, List.set_cons_succ]
    refine lx_call 14 rfl (by kernel_rfl) rfl rfl ⟨_, Try.func24, by decide, by kernel_rfl⟩ [.agg (entL A3 Z.row.length c3 B3 Z.qual.length d3 D3 Z.val.length q3 Z).toArray, entV A15 Z.row.length c15 B15 Z.qual.length d15 D15 Z.val.length q15 Z] rfl ?_
    refine (stands_any Z A3 Z.row.length c3 B3 Z.qual.length d3 D3 Z.val.length q3 A15 c15 B15 d15 D15 q15 _ (HM3.out _ HS.out) (HM15.out _ (Below.refl _ _)).en).mono ?_
    rintro r x16 ⟨rfl, hb16⟩
    replace HS := Lib.hid (below_up HS.out hb16)
    clear hb16
    clear HM15
    refine ⟨_, rfl, HS.out, ?_⟩
    simp only [Act.put, List.setIfInBounds_toArray, List.set_cons_zero, List.set_cons_succ]
    refine lx_take 15 rfl (by kernel_rfl) (by kernel_rfl) (by kernel_rfl) (fun _ _ _ h => h) (v := ?_) (yi_run rfl (fun w => ?_)) HS.out ?_
    rotate_left
    · first | (go_simp; done) | (go_simp; with_reducible rfl)
    simp only [Act.put, List.setIfInBounds_toArray, List.set_cons_zero, List.set_cons_succ]
    refine lx_take 16 rfl (by kernel_rfl) (by kernel_rfl) (by kernel_rfl) (fun _ _ _ h => h) (v := ?_) (yi_run rfl (fun w => ?_)) HS.out ?_
    rotate_left
    · first | (go_simp; done) | (go_simp; with_reducible rfl)
    simp only [Act.put, List.setIfInBounds_toArray, List.set_cons_zero, List.set_cons_succ]
    refine lx_done (by kernel_rfl) ?_
    replace HX := Lib.hid (HX.out.later HS.out)
    go_wp2
    go_ret
    exact ⟨rfl, HX.out.up⟩
end Go.Proofs.Ytcikhlieaoanoaa

/-
  CellParses and CellUnpacks walked. (Printed by gen_parses.py.)
-/
namespace Go.Proofs.Ytcikhlieaoanoaa
open Go.RowKit

theorem laid_n {l : List UInt8} {w w' : World} {r : Ending} {n : Nat} (h : LaidPost l w r w') (hn : l.length = n) : ∃ A c, r = .returned (.slice A n c) ∧ OwnB 5 w.heap.size w' A c (l ++ mkL 70) ∧ Below w.heap.size w w' := by
  subst hn; exact h
theorem ok_len {e : Ent} (h : OkE e) : e.row.length ≤ 256 ∧ e.qual.length ≤ 256 ∧ e.val.length ≤ 4096 := ⟨h.row.2, h.qual.1, h.val.1⟩
theorem parse_len (b : List UInt8) : (ParseKeyE b).1.row.length ≤ 256 ∧ (ParseKeyE b).1.qual.length ≤ 256 ∧ (ParseKeyE b).1.val.length ≤ 4096 := by
  rcases ParseKey_err b with h | h
  · exact ok_len (ParseKey_is h).1
  · rw [h]; decide
theorem unpack_len (b : List UInt8) (a : Int) : (UnpackE b a).1.row.length ≤ 256 ∧ (UnpackE b a).1.qual.length ≤ 256 ∧ (UnpackE b a).1.val.length ≤ 4096 := by
  have h0 : ∀ (p : Nat) (z : Int), (fun r : Ent × Nat × Int => r.1.row.length ≤ 256 ∧ r.1.qual.length ≤ 256 ∧ r.1.val.length ≤ 4096) (noEnt, p, z) := fun _ _ => ⟨by simp [noEnt], by simp [noEnt], by simp [noEnt]⟩
  refine unpack_cases b a (C := fun r => r.1.row.length ≤ 256 ∧ r.1.qual.length ≤ 256 ∧ r.1.val.length ≤ 4096) ?_ ?_ ?_ ?_ ?_
  · intros; exact h0 _ _
  · intros; exact h0 _ _
  · intros; exact h0 _ _
  · intros; exact h0 _ _
  · intro K p E V p2 hK h1 hp h3 hV hh
    have h := ParseKey_is (b := K) (by rw [hp])
    rw [hp] at h
    exact ⟨h.1.row.2, h.1.qual.1, hV⟩
set_option maxRecDepth 100000 in
set_option maxHeartbeats 4000000 in
theorem parses_any (b : List UInt8) (A : Option Addr) (n c : Nat) (w : World) (hs : Sl w A n c b) :
    Calls Try.prog 3 #[.slice A n c] w fun r w' => r = .returned (.bool true) ∧ Below w.heap.size w w' := by
  have HB := Lib.hid hs
  obtain ⟨L, hL⟩ : ∃ L, L = b.take 5000 := ⟨_, rfl⟩
  obtain ⟨nl, hnl⟩ : ∃ n, n = L.length := ⟨_, rfl⟩
  have HL := Lib.hid hL.symm
  have HN : Hid (L.length = nl ∧ nl ≤ 5000) := Lib.hid ⟨hnl.symm, by rw [hnl, hL, List.length_take]; omega⟩
  obtain ⟨E, hE⟩ : ∃ E, E = (ParseKeyE L).1 := ⟨_, rfl⟩
  obtain ⟨z, hz⟩ : ∃ z, z = (ParseKeyE L).2 := ⟨_, rfl⟩
  have HP : Hid (ParseKeyE L = (E, z)) := Lib.hid (by rw [hE, hz])
  have HE : Hid (E.row.length ≤ 256 ∧ E.qual.length ≤ 256 ∧ E.val.length ≤ 4096) := Lib.hid (by rw [hE]; exact parse_len L)
  clear hL hnl hE hz hs
  have tok1 : True := trivial
  have tok2 : True := trivial
  have tok3 : True := trivial
  have tok4 : True := trivial
  have tok5 : True := trivial
  have tok6 : True := trivial
  have HX := Lib.hid (St.nil 5 w)
  go_enter Try.func3, Try.ntmps3
  go_wp2_with (first
    | (go_at_call 12; go_must (refine (told_any _).mono ?_); rintro r x1 ⟨rfl, hb⟩; replace HX := Lib.hid (HX.out.later hb); clear hb)
    | (go_at_call 13; go_must (refine (laid_any b A n c 5000 _ (HB.out.later HX.out.up) (by decide)).mono ?_); rw [HL.out]; rintro r x2 hp; obtain ⟨Ai, ci, rfl, ho, hb⟩ := laid_n hp HN.out.1; replace HX := Lib.hid (HX.out.fresh hb ho); clear hp ho hb)
    | (go_at_call 14; go_must (refine (copied_any L Ai nl ci _ (by have := HN.out; omega) (sl_front (HX.out.sl (n := nl + 75) (i := 0) rfl (by rw [List.length_append, mkL_len, HN.out.1])) HN.out.1).rb).mono ?_); rintro r x3 hp; obtain ⟨Ac, cc, rfl, _, ho, hb⟩ := hp.at_ HN.out.1; replace HX := Lib.hid (HX.out.fresh hb ho); have HR := Lib.hid (St.nil 5 x3); clear hp ho hb)
    | (go_at_call 15; have _t := tok1; go_must (refine (parsekey_any L Ai nl ci _ (sl_front ((HX.out.later HR.out.up).sl (n := nl + 75) (i := 0) rfl (by rw [List.length_append, mkL_len, HN.out.1])) HN.out.1) (by have := HN.out; omega)).mono ?_); rw [HP.out]; rintro r y1 ⟨A1, c1, B1, d1, D1, q1, rfl, hr, hb⟩; replace HR := Lib.hid (HR.out.app hb hr); clear hr hb tok1)
    | (have _t := tok2; refine wpList_alloc_st rfl 27 rfl HR.out zeroL ent_zero ?_; intro g1 w1 hst _; replace HR := Lib.hid hst; clear hst tok2)
    | (have _t := tok3; refine wpList_store_st rfl 27 (.tmp 5) (.tmp 20) rfl HR.out 0 (g := g1) rfl rfl (entL A1 E.row.length c1 B1 E.qual.length d1 D1 E.val.length q1 E) rfl rfl ent_size (entL_one _ _ _ _ _ _ _ _ _ _) ?_; intro v1 hst hcg; replace HR := Lib.hid hst; clear hst hcg tok3)
    | (go_at_call 16; go_must (refine (rparsekey_any L Ac nl cc _ ((HX.out.later HR.out.up).sl (i := 1) rfl HN.out.1) (by have := HN.out; omega)).mono ?_); rw [HP.out]; rintro r y2 ⟨A2, c2, B2, d2, D2, q2, rfl, hr, hb⟩; replace HR := Lib.hid (HR.out.app hb hr); clear hr hb)
    | (have _t := tok4; refine wpList_alloc_st rfl 27 rfl HR.out zeroL ent_zero ?_; intro g2 w2 hst _; replace HR := Lib.hid hst; clear hst tok4)
    | (have _t := tok5; refine wpList_store_st rfl 27 (.tmp 7) (.tmp 25) rfl HR.out 1 (g := g2) rfl rfl (entL A2 E.row.length c2 B2 E.qual.length d2 D2 E.val.length q2 E) rfl rfl ent_size (entL_one _ _ _ _ _ _ _ _ _ _) ?_; intro v2 hst hcg; replace HR := Lib.hid hst; clear hst hcg tok5)
    | (refine wpList_load_row7 rfl 27 (.tmp 5) rfl rfl (HR.out.range (i := 0) rfl) ent_row ?_)
    | (refine wpList_load_row7 rfl 27 (.tmp 7) rfl rfl (HR.out.range (i := 1) rfl) ent_row ?_)
    | (go_at_call 17; go_must (refine (sameEntry_any E E A1 E.row.length c1 B1 E.qual.length d1 D1 E.val.length q1 A2 E.row.length c2 B2 E.qual.length d2 D2 E.val.length q2 _ rfl ⟨HR.out.sl (i := 0) rfl rfl, HR.out.sl (i := 1) rfl rfl, HR.out.sl (i := 2) rfl rfl⟩ ⟨HR.out.sl (i := 3) rfl rfl, HR.out.sl (i := 4) rfl rfl, HR.out.sl (i := 5) rfl rfl⟩).mono ?_); rintro r y3 ⟨rfl, hb⟩; replace HR := Lib.hid (HR.out.later hb); clear hb)
    | (go_at_call 18; go_must (refine (intact_any L Ai Ac nl ci cc _ ((HX.out.later HR.out.up).sl (n := nl + 75) (i := 0) rfl (by rw [List.length_append, mkL_len, HN.out.1])) ((HX.out.later HR.out.up).sl (i := 1) rfl HN.out.1).rb (by have := HN.out; omega)).mono ?_); rintro r y4 ⟨rfl, hb⟩; replace HR := Lib.hid (HR.out.later hb); clear hb))
  have HS := Lib.hid (HR.out.range (i := 0) rfl)
  refine lx_start (S := fun x => x.rangeAt g1 0 (entL A1 E.row.length c1 B1 E.qual.length d1 D1 E.val.length q1 E)) (by kernel_rfl) (HR.out.drew.range (i := 0) rfl) ?_
  replace HR := Lib.hid HR.out.drew
  replace HS := Lib.hid (HR.out.range (i := 0) rfl)
  refine lx_take 0 rfl (by kernel_rfl) (by kernel_rfl) (by kernel_rfl) (fun _ _ _ h => h) (v := ?_) (yi_run rfl (fun w => ?_)) HS.out ?_
  rotate_left
  · first | (go_simp; done) | (go_simp; with_reducible rfl)
  simp only [Act.put, List.setIfInBounds_toArray, List.set_cons_zero, List.set_cons_succ]
  refine lx_take 1 rfl (by kernel_rfl) (by kernel_rfl) (by kernel_rfl) (fun _ _ _ h => h) (yi_cell rfl rfl rfl (fun w hS => hS 0 _ rfl) (fun w => Try.isAgg22 w)) HS.out ?_
  simp only [Act.put, List.setIfInBounds_toArray, List.set_cons_zero, List.set_cons_succ]
  refine lx_take 3 rfl (by kernel_rfl) (by kernel_rfl) (by kernel_rfl) (fun _ _ _ h => h) (v := ?_) (yi_run rfl (fun w => ?_)) HS.out ?_
  rotate_left
  · first | (go_simp; done) | (go_simp; with_reducible rfl)
  simp only [Act.put, List.setIfInBounds_toArray, List.set_cons_zero, List.set_cons_succ]
  refine lx_take 4 rfl (by kernel_rfl) (by kernel_rfl) (by kernel_rfl) (fun _ _ _ h => h) (yi_cell rfl rfl rfl (fun w hS => hS 2 _ rfl) (fun w => Try.isAgg22 w)) HS.out ?_
  simp only [Act.put, List.setIfInBounds_toArray, List.set_cons_zero, List.set_cons_succ]
  refine lx_call 2 rfl (by kernel_rfl) rfl rfl ⟨_, Try.func19, by decide, by kernel_rfl⟩ [.slice A1 E.row.length c1, .int .u8 17] rfl ?_
  refine (longer_any _ E.row A1 E.row.length c1 17 _ (HR.out.own (i := 0) rfl) rfl (by have := HE.out; omega) HR.out.up.size).mono ?_
  rintro r y5 ⟨h0, rfl, hl, hc⟩
  have HW0 := Lib.hid HR.out
  have HL0 := Lib.hid hl
  replace HR := Lib.hid (HR.out.lng (i := 0) rfl hc)
  replace HS := Lib.hid (HR.out.range (i := 0) rfl)
  clear hl hc
  refine ⟨_, rfl, HS.out, ?_⟩
  simp only [Act.put, List.setIfInBounds_toArray, List.set_cons_zero, List.set_cons_succ]
  refine lx_call 5 rfl (by kernel_rfl) rfl rfl ⟨_, Try.func19, by decide, by kernel_rfl⟩ [.slice B1 E.qual.length d1, .int .u8 18] rfl ?_
  refine (longer_any _ E.qual B1 E.qual.length d1 18 _ (HR.out.own (i := 0) rfl) rfl (by have := HE.out; omega) HR.out.up.size).mono ?_
  rintro r y6 ⟨h1, rfl, hl, hc⟩
  have HW1 := Lib.hid HR.out
  have HL1 := Lib.hid hl
  replace HL0 := Lib.hid (HL0.out.aside (i := 0) (j := 1) HW0.out rfl rfl (by decide) hc)
  replace HR := Lib.hid (HR.out.lng (i := 0) rfl hc)
  replace HS := Lib.hid (HR.out.range (i := 0) rfl)
  clear hl hc
  refine ⟨_, rfl, HS.out, ?_⟩
  simp only [Act.put, List.setIfInBounds_toArray, List.set_cons_zero, List.set_cons_succ]
  refine lx_take 6 rfl (by kernel_rfl) (by kernel_rfl) (by kernel_rfl) (fun _ _ _ h => h) (v := ?_) (yi_run rfl (fun w => ?_)) HS.out ?_
  rotate_left
  · first | (go_simp; done) | (go_simp; with_reducible rfl)
  simp only [Act.put, List.setIfInBounds_toArray, List.set_cons_zero, List.set_cons_succ]
  refine lx_take 7 rfl (by kernel_rfl) (by kernel_rfl) (by kernel_rfl) (fun _ _ _ h => h) (v := ?_) (yi_run rfl (fun w => ?_)) HS.out ?_
  rotate_left
  · first | (go_simp; done) | (go_simp; with_reducible rfl)
  simp only [Act.put, List.setIfInBounds_toArray, List.set_cons_zero, List.set_cons_succ]
  refine lx_done (by kernel_rfl) ?_
  clear HS
  go_wp2_with (first
    | (go_at_call 15; go_must (refine (parsekey_any L Ai nl ci _ (sl_front ((HX.out.later HR.out.up).sl (n := nl + 75) (i := 0) rfl (by rw [List.length_append, mkL_len, HN.out.1])) HN.out.1) (by have := HN.out; omega)).mono ?_); rw [HP.out]; rintro r y9 ⟨A9, c9, B9, d9, D9, q9, rfl, hr, hb⟩; replace HR := Lib.hid (HR.out.app hb hr); replace HL0 := Lib.hid (HL0.out.later hb); replace HL1 := Lib.hid (HL1.out.later hb); clear hr hb)
    | (refine wpList_store_st rfl 27 (.tmp 5) (.tmp 51) rfl HR.out 0 (g := g1) rfl rfl (entL A9 E.row.length c9 B9 E.qual.length d9 D9 E.val.length q9 E) rfl rfl ent_size (entL_one _ _ _ _ _ _ _ _ _ _) ?_; intro v9 hst hcg; replace HR := Lib.hid hst; replace HL0 := Lib.hid (HL0.out.box (k := 0) (i := 0) HW0.out rfl rfl hcg); replace HL1 := Lib.hid (HL1.out.box (k := 0) (i := 0) HW1.out rfl rfl hcg); clear hst hcg)
    | (refine wpList_load_row7 rfl 27 (.tmp 5) rfl rfl (HR.out.range (i := 0) rfl) ent_row ?_)
    | (refine wpList_load_row7 rfl 27 (.tmp 7) rfl rfl (HR.out.range (i := 1) rfl) ent_row ?_)
    | (go_at_call 17; go_must (refine (sameEntry_any E E A9 E.row.length c9 B9 E.qual.length d9 D9 E.val.length q9 A2 E.row.length c2 B2 E.qual.length d2 D2 E.val.length q2 _ rfl ⟨HR.out.sl (i := 4) rfl rfl, HR.out.sl (i := 5) rfl rfl, HR.out.sl (i := 6) rfl rfl⟩ ⟨HR.out.sl (i := 1) rfl rfl, HR.out.sl (i := 2) rfl rfl, HR.out.sl (i := 3) rfl rfl⟩).mono ?_); rintro r z1 ⟨rfl, hb⟩; replace HR := Lib.hid (HR.out.later hb); replace HL0 := Lib.hid (HL0.out.later hb); replace HL1 := Lib.hid (HL1.out.later hb); clear hb)
    | (go_at_call 18; go_must (refine (intact_any L Ai Ac nl ci cc _ ((HX.out.later HR.out.up).sl (n := nl + 75) (i := 0) rfl (by rw [List.length_append, mkL_len, HN.out.1])) ((HX.out.later HR.out.up).sl (i := 1) rfl HN.out.1).rb (by have := HN.out; omega)).mono ?_); rintro r z2 ⟨rfl, hb⟩; replace HR := Lib.hid (HR.out.later hb); replace HL0 := Lib.hid (HL0.out.later hb); replace HL1 := Lib.hid (HL1.out.later hb); clear hb)
    | (go_at_call 20; have _t := tok6; go_must (refine (full_any A1 E.row.length h0 17 _ HL0.out (by have := HE.out; omega)).mono ?_); rintro r _ ⟨rfl, rfl⟩; clear tok6)
    | (go_at_call 20; go_must (refine (full_any B1 E.qual.length h1 18 _ HL1.out (by have := HE.out; omega)).mono ?_); rintro r _ ⟨rfl, rfl⟩))
  have HF := Lib.hid (HX.out.later HR.out.up)
  go_ret
  exact ⟨rfl, HF.out.up⟩

set_option maxRecDepth 100000 in
set_option maxHeartbeats 4000000 in
theorem unpacks_any (b : List UInt8) (A : Option Addr) (n c : Nat) (a : Int) (w : World) (hs : Sl w A n c b) :
    Calls Try.prog 8 #[.slice A n c, .int .i64 a] w fun r w' => r = .returned (.bool true) ∧ Below w.heap.size w w' := by
  have HB := Lib.hid hs
  obtain ⟨L, hL⟩ : ∃ L, L = b.take 20000 := ⟨_, rfl⟩
  obtain ⟨nl, hnl⟩ : ∃ n, n = L.length := ⟨_, rfl⟩
  have HL := Lib.hid hL.symm
  have HN : Hid (L.length = nl ∧ nl ≤ 20000) := Lib.hid ⟨hnl.symm, by rw [hnl, hL, List.length_take]; omega⟩
  obtain ⟨E, hE⟩ : ∃ E, E = (UnpackE L a).1 := ⟨_, rfl⟩
  obtain ⟨p, hp⟩ : ∃ p, p = (UnpackE L a).2.1 := ⟨_, rfl⟩
  obtain ⟨z, hz⟩ : ∃ z, z = (UnpackE L a).2.2 := ⟨_, rfl⟩
  have HP : Hid (UnpackE L a = (E, p, z)) := Lib.hid (by rw [hE, hp, hz])
  have HE : Hid (E.row.length ≤ 256 ∧ E.qual.length ≤ 256 ∧ E.val.length ≤ 4096) := Lib.hid (by rw [hE]; exact unpack_len L a)
  clear hL hnl hE hp hz hs
  have tok1 : True := trivial
  have tok2 : True := trivial
  have tok3 : True := trivial
  have tok4 : True := trivial
  have tok5 : True := trivial
  have tok6 : True := trivial
  have tok7 : True := trivial
  have HX := Lib.hid (St.nil 5 w)
  go_enter Try.func8, Try.ntmps8
  go_wp2_with (first
    | (go_at_call 12; go_must (refine (told_any _).mono ?_); rintro r x1 ⟨rfl, hb⟩; replace HX := Lib.hid (HX.out.later hb); clear hb)
    | (go_at_call 13; go_must (refine (laid_any b A n c 20000 _ (HB.out.later HX.out.up) (by decide)).mono ?_); rw [HL.out]; rintro r x2 hp; obtain ⟨Ai, ci, rfl, ho, hb⟩ := laid_n hp HN.out.1; replace HX := Lib.hid (HX.out.fresh hb ho); clear hp ho hb)
    | (go_at_call 14; go_must (refine (copied_any L Ai nl ci _ (by have := HN.out; omega) (sl_front (HX.out.sl (n := nl + 75) (i := 0) rfl (by rw [List.length_append, mkL_len, HN.out.1])) HN.out.1).rb).mono ?_); rintro r x3 hp; obtain ⟨Ac, cc, rfl, _, ho, hb⟩ := hp.at_ HN.out.1; replace HX := Lib.hid (HX.out.fresh hb ho); have HR := Lib.hid (St.nil 5 x3); clear hp ho hb)
    | (go_at_call 37; have _t := tok1; go_must (refine (unpack_any L Ai nl ci a _ (sl_front ((HX.out.later HR.out.up).sl (n := nl + 75) (i := 0) rfl (by rw [List.length_append, mkL_len, HN.out.1])) HN.out.1) (by have := HN.out; omega)).mono ?_); rw [HP.out]; rintro r y1 ⟨A1, c1, B1, d1, D1, q1, rfl, hr, hb⟩; replace HR := Lib.hid (HR.out.app hb hr); clear hr hb tok1)
    | (have _t := tok2; refine wpList_alloc_st rfl 27 rfl HR.out zeroL ent_zero ?_; intro g1 w1 hst _; replace HR := Lib.hid hst; clear hst tok2)
    | (have _t := tok3; refine wpList_store_st rfl 27 (.tmp 7) (.tmp 26) rfl HR.out 0 (g := g1) rfl rfl (entL A1 E.row.length c1 B1 E.qual.length d1 D1 E.val.length q1 E) rfl rfl ent_size (entL_one _ _ _ _ _ _ _ _ _ _) ?_; intro v1 hst hcg; replace HR := Lib.hid hst; clear hst hcg tok3)
    | (go_at_call 38; go_must (refine (runpack_any L Ac nl cc a _ ((HX.out.later HR.out.up).sl (i := 1) rfl HN.out.1) (by have := HN.out; omega)).mono ?_); rw [HP.out]; rintro r y2 ⟨A2, c2, B2, d2, D2, q2, rfl, hr, hb⟩; replace HR := Lib.hid (HR.out.app hb hr); clear hr hb)
    | (have _t := tok4; refine wpList_alloc_st rfl 27 rfl HR.out zeroL ent_zero ?_; intro g2 w2 hst _; replace HR := Lib.hid hst; clear hst tok4)
    | (have _t := tok5; refine wpList_store_st rfl 27 (.tmp 10) (.tmp 33) rfl HR.out 1 (g := g2) rfl rfl (entL A2 E.row.length c2 B2 E.qual.length d2 D2 E.val.length q2 E) rfl rfl ent_size (entL_one _ _ _ _ _ _ _ _ _ _) ?_; intro v2 hst hcg; replace HR := Lib.hid hst; clear hst hcg tok5)
    | (refine wpList_load_row7 rfl 27 (.tmp 7) rfl rfl (HR.out.range (i := 0) rfl) ent_row ?_)
    | (refine wpList_load_row7 rfl 27 (.tmp 10) rfl rfl (HR.out.range (i := 1) rfl) ent_row ?_)
    | (go_at_call 17; go_must (refine (sameEntry_any E E A1 E.row.length c1 B1 E.qual.length d1 D1 E.val.length q1 A2 E.row.length c2 B2 E.qual.length d2 D2 E.val.length q2 _ rfl ⟨HR.out.sl (i := 0) rfl rfl, HR.out.sl (i := 1) rfl rfl, HR.out.sl (i := 2) rfl rfl⟩ ⟨HR.out.sl (i := 3) rfl rfl, HR.out.sl (i := 4) rfl rfl, HR.out.sl (i := 5) rfl rfl⟩).mono ?_); rintro r y3 ⟨rfl, hb⟩; replace HR := Lib.hid (HR.out.later hb); clear hb)
    | (go_at_call 18; go_must (refine (intact_any L Ai Ac nl ci cc _ ((HX.out.later HR.out.up).sl (n := nl + 75) (i := 0) rfl (by rw [List.length_append, mkL_len, HN.out.1])) ((HX.out.later HR.out.up).sl (i := 1) rfl HN.out.1).rb (by have := HN.out; omega)).mono ?_); rintro r y4 ⟨rfl, hb⟩; replace HR := Lib.hid (HR.out.later hb); clear hb))
  have HS := Lib.hid (HR.out.range (i := 0) rfl)
  refine lx_start (S := fun x => x.rangeAt g1 0 (entL A1 E.row.length c1 B1 E.qual.length d1 D1 E.val.length q1 E)) (by kernel_rfl) (HR.out.drew.range (i := 0) rfl) ?_
  replace HR := Lib.hid HR.out.drew
  replace HS := Lib.hid (HR.out.range (i := 0) rfl)
  refine lx_take 0 rfl (by kernel_rfl) (by kernel_rfl) (by kernel_rfl) (fun _ _ _ h => h) (v := ?_) (yi_run rfl (fun w => ?_)) HS.out ?_
  rotate_left
  · first | (go_simp; done) | (go_simp; with_reducible rfl)
  simp only [Act.put, List.setIfInBounds_toArray, List.set_cons_zero, List.set_cons_succ]
  refine lx_take 1 rfl (by kernel_rfl) (by kernel_rfl) (by kernel_rfl) (fun _ _ _ h => h) (yi_cell rfl rfl rfl (fun w hS => hS 0 _ rfl) (fun w => Try.isAgg22 w)) HS.out ?_
  simp only [Act.put, List.setIfInBounds_toArray, List.set_cons_zero, List.set_cons_succ]
  refine lx_take 3 rfl (by kernel_rfl) (by kernel_rfl) (by kernel_rfl) (fun _ _ _ h => h) (v := ?_) (yi_run rfl (fun w => ?_)) HS.out ?_
  rotate_left
  · first | (go_simp; done) | (go_simp; with_reducible rfl)
  simp only [Act.put, List.setIfInBounds_toArray, List.set_cons_zero, List.set_cons_succ]
  refine lx_take 4 rfl (by kernel_rfl) (by kernel_rfl) (by kernel_rfl) (fun _ _ _ h => h) (yi_cell rfl rfl rfl (fun w hS => hS 2 _ rfl) (fun w => Try.isAgg22 w)) HS.out ?_
  simp only [Act.put, List.setIfInBounds_toArray, List.set_cons_zero, List.set_cons_succ]
  refine lx_take 6 rfl (by kernel_rfl) (by kernel_rfl) (by kernel_rfl) (fun _ _ _ h => h) (v := ?_) (yi_run rfl (fun w => ?_)) HS.out ?_
  rotate_left
  · first | (go_simp; done) | (go_simp; with_reducible rfl)
  simp only [Act.put, List.setIfInBounds_toArray, List.set_cons_zero, List.set_cons_succ]
  refine lx_take 7 rfl (by kernel_rfl) (by kernel_rfl) (by kernel_rfl) (fun _ _ _ h => h) (yi_cell rfl rfl rfl (fun w hS => hS 6 _ rfl) (fun w => Try.isAgg22 w)) HS.out ?_
  simp only [Act.put, List.setIfInBounds_toArray, List.set_cons_zero, List.set_cons_succ]
  refine lx_call 2 rfl (by kernel_rfl) rfl rfl ⟨_, Try.func19, by decide, by kernel_rfl⟩ [.slice A1 E.row.length c1, .int .u8 17] rfl ?_
  refine (longer_any _ E.row A1 E.row.length c1 17 _ (HR.out.own (i := 0) rfl) rfl (by have := HE.out; omega) HR.out.up.size).mono ?_
  rintro r y5 ⟨h0, rfl, hl, hc⟩
  have HW0 := Lib.hid HR.out
  have HL0 := Lib.hid hl
  replace HR := Lib.hid (HR.out.lng (i := 0) rfl hc)
  replace HS := Lib.hid (HR.out.range (i := 0) rfl)
  clear hl hc
  refine ⟨_, rfl, HS.out, ?_⟩
  simp only [Act.put, List.setIfInBounds_toArray, List.set_cons_zero, List.set_cons_succ]
  refine lx_call 5 rfl (by kernel_rfl) rfl rfl ⟨_, Try.func19, by decide, by kernel_rfl⟩ [.slice B1 E.qual.length d1, .int .u8 18] rfl ?_
  refine (longer_any _ E.qual B1 E.qual.length d1 18 _ (HR.out.own (i := 0) rfl) rfl (by have := HE.out; omega) HR.out.up.size).mono ?_
  rintro r y6 ⟨h1, rfl, hl, hc⟩
  have HW1 := Lib.hid HR.out
  have HL1 := Lib.hid hl
  replace HL0 := Lib.hid (HL0.out.aside (i := 0) (j := 1) HW0.out rfl rfl (by decide) hc)
  replace HR := Lib.hid (HR.out.lng (i := 0) rfl hc)
  replace HS := Lib.hid (HR.out.range (i := 0) rfl)
  clear hl hc
  refine ⟨_, rfl, HS.out, ?_⟩
  simp only [Act.put, List.setIfInBounds_toArray, List.set_cons_zero, List.set_cons_succ]
  refine lx_call 8 rfl (by kernel_rfl) rfl rfl ⟨_, Try.func19, by decide, by kernel_rfl⟩ [.slice D1 E.val.length q1, .int .u8 19] rfl ?_
  refine (longer_any _ E.val D1 E.val.length q1 19 _ (HR.out.own (i := 0) rfl) rfl (by have := HE.out; omega) HR.out.up.size).mono ?_
  rintro r y7 ⟨h2, rfl, hl, hc⟩
  have HW2 := Lib.hid HR.out
  have HL2 := Lib.hid hl
  replace HL0 := Lib.hid (HL0.out.aside (i := 0) (j := 2) HW0.out rfl rfl (by decide) hc)
  replace HL1 := Lib.hid (HL1.out.aside (i := 0) (j := 1) HW1.out rfl rfl (by decide) hc)
  replace HR := Lib.hid (HR.out.lng (i := 0) rfl hc)
  replace HS := Lib.hid (HR.out.range (i := 0) rfl)
  clear hl hc
  refine ⟨_, rfl, HS.out, ?_⟩
  simp only [Act.put, List.setIfInBounds_toArray, List.set_cons_zero, List.set_cons_succ]
  refine lx_take 9 rfl (by kernel_rfl) (by kernel_rfl) (by kernel_rfl) (fun _ _ _ h => h) (v := ?_) (yi_run rfl (fun w => ?_)) HS.out ?_
  rotate_left
  · first | (go_simp; done) | (go_simp; with_reducible rfl)
  simp only [Act.put, List.setIfInBounds_toArray, List.set_cons_zero, List.set_cons_succ]
  refine lx_take 10 rfl (by kernel_rfl) (by kernel_rfl) (by kernel_rfl) (fun _ _ _ h => h) (v := ?_) (yi_run rfl (fun w => ?_)) HS.out ?_
  rotate_left
  · first | (go_simp; done) | (go_simp; with_reducible rfl)
  simp only [Act.put, List.setIfInBounds_toArray, List.set_cons_zero, List.set_cons_succ]
  refine lx_take 11 rfl (by kernel_rfl) (by kernel_rfl) (by kernel_rfl) (fun _ _ _ h => h) (v := ?_) (yi_run rfl (fun w => ?_)) HS.out ?_
  rotate_left
  · first | (go_simp; done) | (go_simp; with_reducible rfl)
  simp only [Act.put, List.setIfInBounds_toArray, List.set_cons_zero, List.set_cons_succ]
  refine lx_done (by kernel_rfl) ?_
  clear HS
  go_wp2_with (first
    | (go_at_call 37; go_must (refine (unpack_any L Ai nl ci a _ (sl_front ((HX.out.later HR.out.up).sl (n := nl + 75) (i := 0) rfl (by rw [List.length_append, mkL_len, HN.out.1])) HN.out.1) (by have := HN.out; omega)).mono ?_); rw [HP.out]; rintro r y9 ⟨A9, c9, B9, d9, D9, q9, rfl, hr, hb⟩; replace HR := Lib.hid (HR.out.app hb hr); replace HL0 := Lib.hid (HL0.out.later hb); replace HL1 := Lib.hid (HL1.out.later hb); replace HL2 := Lib.hid (HL2.out.later hb); clear hr hb)
    | (refine wpList_store_st rfl 27 (.tmp 7) (.tmp 69) rfl HR.out 0 (g := g1) rfl rfl (entL A9 E.row.length c9 B9 E.qual.length d9 D9 E.val.length q9 E) rfl rfl ent_size (entL_one _ _ _ _ _ _ _ _ _ _) ?_; intro v9 hst hcg; replace HR := Lib.hid hst; replace HL0 := Lib.hid (HL0.out.box (k := 0) (i := 0) HW0.out rfl rfl hcg); replace HL1 := Lib.hid (HL1.out.box (k := 0) (i := 0) HW1.out rfl rfl hcg); replace HL2 := Lib.hid (HL2.out.box (k := 0) (i := 0) HW2.out rfl rfl hcg); clear hst hcg)
    | (refine wpList_load_row7 rfl 27 (.tmp 7) rfl rfl (HR.out.range (i := 0) rfl) ent_row ?_)
    | (refine wpList_load_row7 rfl 27 (.tmp 10) rfl rfl (HR.out.range (i := 1) rfl) ent_row ?_)
    | (go_at_call 17; go_must (refine (sameEntry_any E E A9 E.row.length c9 B9 E.qual.length d9 D9 E.val.length q9 A2 E.row.length c2 B2 E.qual.length d2 D2 E.val.length q2 _ rfl ⟨HR.out.sl (i := 3) rfl rfl, HR.out.sl (i := 4) rfl rfl, HR.out.sl (i := 5) rfl rfl⟩ ⟨HR.out.sl (i := 0) rfl rfl, HR.out.sl (i := 1) rfl rfl, HR.out.sl (i := 2) rfl rfl⟩).mono ?_); rintro r z1 ⟨rfl, hb⟩; replace HR := Lib.hid (HR.out.later hb); replace HL0 := Lib.hid (HL0.out.later hb); replace HL1 := Lib.hid (HL1.out.later hb); replace HL2 := Lib.hid (HL2.out.later hb); clear hb)
    | (go_at_call 18; go_must (refine (intact_any L Ai Ac nl ci cc _ ((HX.out.later HR.out.up).sl (n := nl + 75) (i := 0) rfl (by rw [List.length_append, mkL_len, HN.out.1])) ((HX.out.later HR.out.up).sl (i := 1) rfl HN.out.1).rb (by have := HN.out; omega)).mono ?_); rintro r z2 ⟨rfl, hb⟩; replace HR := Lib.hid (HR.out.later hb); replace HL0 := Lib.hid (HL0.out.later hb); replace HL1 := Lib.hid (HL1.out.later hb); replace HL2 := Lib.hid (HL2.out.later hb); clear hb)
    | (go_at_call 20; have _t := tok6; go_must (refine (full_any A1 E.row.length h0 17 _ HL0.out (by have := HE.out; omega)).mono ?_); rintro r _ ⟨rfl, rfl⟩; clear tok6)
    | (go_at_call 20; have _t := tok7; go_must (refine (full_any B1 E.qual.length h1 18 _ HL1.out (by have := HE.out; omega)).mono ?_); rintro r _ ⟨rfl, rfl⟩; clear tok7)
    | (go_at_call 20; go_must (refine (full_any D1 E.val.length h2 19 _ HL2.out (by have := HE.out; omega)).mono ?_); rintro r _ ⟨rfl, rfl⟩))
  have HF := Lib.hid (HX.out.later HR.out.up)
  go_ret
  exact ⟨rfl, HF.out.up⟩
end Go.Proofs.Ytcikhlieaoanoaa

/-
  The frame of a law's proof, over any program: a law that leaves all old memory as it was meets its row; openers for arguments.
-/
namespace Go.Proofs.Ytcikhlieaoanoaa
open Go.RowKit Go.WideShapes Go.ChangeShapes Go.Joins Go.Deep

section
variable {H : Type} {enc : TypeId × Value → H} {P : Program}

theorem trodAll_below (hl : laidOutB P = true) {W W' : World} {sp : Nat → Bool} : ∀ (ts : List TypeId) (vs : List Value) (ds : List (DataW H)) (ps : List MemPlace),
    (∀ t ∈ ts, P.readableRec t = true ∧ t < P.types.size) → DataW.TrodAll enc P W 0 (fun _ => true) true ts vs ds ps → (∀ p ∈ ps, W.sameAt W' p) → (∀ p ∈ ps, sp p.block = true) →
    DataW.TrodAll enc P W' 0 sp true ts vs ds ps
  | [], [], [], ps, _, h, _, _ => h
  | t :: ts, v :: vs, d :: ds, ps, hr, h, hs, hp => by
    obtain ⟨p, q, h1, h2, rfl⟩ := h
    refine ⟨p, q, WideElems.Trod_stays hl (hr t (by simp)).1 (hr t (by simp)).2 h1 (fun x hx => hs x (by simp [hx])) (fun x hx => hp x (by simp [hx])), ?_, rfl⟩
    exact trodAll_below hl ts vs ds q (fun t ht => hr t (by simp [ht])) h2 (fun x hx => hs x (by simp [hx])) (fun x hx => hp x (by simp [hx]))
  | [], _ :: _, _, _, _, h, _, _ => h.elim
  | [], [], _ :: _, _, _, h, _, _ => h.elim
  | _ :: _, [], _, _, _, h, _, _ => h.elim
  | _ :: _, _ :: _, [], _, _, h, _, _ => h.elim

/-- A law that has returned true and left all that was there meets its row. -/
theorem law_post {f : Func} {s : ChangeSpec} {apart fresh handsOn again : Bool} {W W' : World} {args : Array Value} {ds gs : List (DataW H)} {before : List MemPlace} {tb : TypeId}
    (hl : laidOutB P = true) (hr : ∀ t ∈ f.params.toList, P.readableRec t = true ∧ t < P.types.size) (hv : s.vars = [])
    (hW : DataW.Whole enc P f.params.toList s.vars apart W args.toList ds gs before) (hres : f.resultTypes = #[tb]) (htb : P.underlying tb = some .bool)
    (hfn : s.fn H (ds ++ gs) = { results := [.lit (.bool true)], args := ds }) (hb : Below W.heap.size W W') :
    s.post enc P f apart fresh handsOn again W args (.bool true) W' := by
  have hlt : ∀ p ∈ before, p.block < W.heap.size := fun p hp => hW.lt p hp
  obtain ⟨p, q, hA, hV, hpq, hz, hn⟩ := hW
  have hq : gs = [] ∧ q = [] := by rw [hv] at hV; exact trodVars_none hV
  obtain ⟨rfl, rfl⟩ := hq
  rw [List.append_nil] at hpq
  subst hpq
  have hold : ∀ x ∈ before, (fun b => decide (b < W.heap.size)) x.block = true := fun x hx => by simpa using hlt x hx
  have hargs : ∀ sp : Nat → Bool, (∀ x ∈ before, sp x.block = true) → DataW.TrodAll enc P W' 0 sp true f.params.toList args.toList ds before := fun sp hsp =>
    trodAll_below hl _ _ _ _ hr hA (fun x hx => hb.same (hlt x hx)) hsp
  have hvars : ∀ sp : Nat → Bool, DataW.TrodVars enc P W' sp s.vars (s.fn H (ds ++ [])).vars [] := fun sp => by rw [hv, hfn]; rfl
  have hresv : ∀ (b : Nat) (sp : Nat → Bool) (hd : Bool), DataW.TrodAll enc P W' b sp hd f.resultTypes.toList ((Value.bool true).resultList f.resultTypes.size) (s.fn H (ds ++ [])).results [] := by
    intro b sp hd
    rw [hfn, hres]
    exact trodAll_mk1 (shut_bool htb true)
  have hargs' : ∀ sp : Nat → Bool, (∀ x ∈ before, sp x.block = true) → DataW.TrodAll enc P W' 0 sp true f.params.toList args.toList (s.fn H (ds ++ [])).args before := fun sp hsp => by rw [hfn]; exact hargs sp hsp
  refine ⟨ds, [], before, [], before, [], ⟨before, [], hA, hV, by simp, hz, hn⟩, hresv _ _ _, hargs' _ hold, hvars _, World.keptBut_mono (fun x hx => ⟨hx, Or.inr (Or.inl hx)⟩) (hb.frame (· ∈ before)), fun _ => ?_⟩
  refine ⟨?_, _, _, ([] ++ before) ++ [], ⟨[] ++ before, [], trodAll_append (hargs' _ (fun _ _ => rfl)) (hresv _ _ _), hvars _, rfl, ?_, ?_⟩, ?_⟩
  · exact ok_one hres rfl (okWide_bool_mk htb true)
  · intro b off hp
    have hin : MemPlace.cell b off ∈ before := by simpa using hp
    rw [hb.frozen (hlt _ hin)]
    exact hz b off hin
  · intro ha
    have := hn ha
    simpa using this
  · intro x hx _
    simpa using hx

end

theorem list_of {α : Type} {Q : Nat → α → Prop} : ∀ (n : Nat), (∀ i, i < n → ∃ x, Q i x) → ∃ l : List α, l.length = n ∧ ∀ i x, l[i]? = some x → Q i x
  | 0, _ => ⟨[], rfl, fun i x h => by simp at h⟩
  | n + 1, h => by
    obtain ⟨l, hl, hq⟩ := list_of n (fun i hi => h i (by omega))
    obtain ⟨x, hx⟩ := h n (by omega)
    refine ⟨l ++ [x], by simp [hl], fun i y hy => ?_⟩
    rcases Nat.lt_or_ge i n with hi | hi
    · rw [List.getElem?_append_left (by omega)] at hy
      exact hq i y hy
    · have : i = n := by
        have := (List.getElem?_eq_some_iff.1 hy).1
        simp [hl] at this; omega
      subst this
      rw [List.getElem?_append_right (by omega)] at hy
      simp [hl] at hy
      subst hy; exact hx

theorem addr_add (a : Addr) (j : Nat) (ha : a.spot = none) : a.add j = ⟨a.block, a.off + j, none⟩ := by
  obtain ⟨b, o, sp⟩ := a
  simp at ha; subst ha
  unfold Addr.add
  split
  · rename_i h; subst h; rfl
  · rfl
theorem spot_none {w : World} {a : Addr} {v : Value} (h : w.cell? a = some v) : a.spot = none := by
  unfold World.cell? at h
  split at h
  · split at h
    · cases h
    · rename_i h'; simpa using h'
  · cases h

/-- Cells in a row at an address that came in: the slice reads. -/
theorem reads_of {w : World} {size n : Nat} {a : Addr} {xs : List Value} (hl : xs.length = n * size) (hs : 0 < size) (h : ∀ j u, xs[j]? = some u → w.cell? (a.add j) = some u) : Reads w w.heap.size size (some a) n xs := by
  refine ⟨hl, fun hn => ?_⟩
  have h0 : 0 < xs.length := by rw [hl]; exact Nat.mul_pos hn hs
  have hc := h 0 _ (List.getElem?_eq_getElem h0)
  have e0 : a.add 0 = a := by simp [Addr.add]
  rw [e0] at hc
  have hsp := spot_none hc
  refine ⟨a.block, a.off, by obtain ⟨b, o, sp⟩ := a; simp at hsp; subst hsp; rfl, World.block_lt_of_cell? w a hc, fun j u hu => ?_⟩
  rw [← addr_add a j hsp]
  exact h j u hu

section
variable {H : Type} {enc : TypeId × Value → H} {P : Program} {w : World} {base : Nat} {spare : Nat → Bool} {held : Bool}
theorem open_agg1 {r : Reach} {b0 : Nat} {t : TypeId} {f0 : Field} {v : Value} {d : DataW H} {p : List MemPlace} (hs : P.underlying t = some (.struct #[f0])) (hone : oneCellFields P #[f0] = true) (hC : P.cellsOf t = 1)
    (hv : Value.okWide P w r b0 t v) (h : DataW.Trod enc P w base spare held t v d p) :
    ∃ (v0 : Value) (y0 : DataW H × List MemPlace) (n : Nat), v = .agg #[v0] ∧ d = .agg [y0.1] ∧ p = y0.2 ∧ DataW.trod enc P w base spare held n f0.type [v0] = some y0 := by
  obtain ⟨cs, rfl, hsz⟩ := okWide_struct hs hv
  obtain ⟨l⟩ := cs
  match l, hsz.trans hC with
  | [c0], _ =>
    obtain ⟨fuel, hf⟩ := h
    obtain ⟨xs, n, _, hx, _, hlen, hg⟩ := DataW.trod_struct hs hf
    obtain ⟨o0, k0⟩ := hone_of hone 0 f0 rfl
    match xs, hlen with
    | [y0], _ =>
      simp only [Prod.mk.injEq] at hx
      exact ⟨c0, y0, n, rfl, by simpa using hx.1, by simpa using hx.2, by simpa [Value.cells, o0, k0] using hg 0 f0 rfl⟩
end

section
variable {H : Type} {enc : TypeId × Value → H} {P : Program} {w : World} {base : Nat} {spare : Nat → Bool} {held : Bool}
theorem open_slice_fields {t e : TypeId} {fs : Array Field} {fuel : Nat} {cs : List Value} {x : DataW H × List MemPlace} (ht : P.underlying t = some (.slice e)) (he : P.underlying e = some (.struct fs))
    (hone : oneCellFields P fs = true) (hC : P.cellsOf e = fs.size) (h : DataW.trod enc P w base spare held fuel t cs = some x) :
    (cs = [.slice none 0 0] ∧ x = (.nil, [])) ∨
    ∃ (a : Addr) (len cap m : Nat) (D : Nat → DataW H) (Pl : Nat → List MemPlace), cs = [.slice (some a) len cap] ∧ base ≤ a.block ∧ len ≤ cap ∧ cap ≤ maxLen ∧ m = (if spare a.block then cap else len) ∧
      x = (.slice ((List.range len).map D) ((List.range (m - len)).map fun j => D (len + j)), MemPlace.row a (m * fs.size) ++ (List.range m).flatMap Pl) ∧
      ∀ i, i < m → ∃ (ys : List (DataW H × List MemPlace)) (n : Nat), D i = .agg (ys.map (·.1)) ∧ Pl i = ys.flatMap (·.2) ∧ ys.length = fs.size ∧
        ∀ (j : Nat) (f : Field), fs[j]? = some f → ∃ (v : Value) (y : DataW H × List MemPlace), w.cell? (a.add (i * fs.size + j)) = some v ∧ ys[j]? = some y ∧ DataW.trod enc P w base spare held n f.type [v] = some y := by
  rcases open_slice ht h with h0 | ⟨a, len, cap, m, n, D, Pl, hcs, hb, hl, hm, hmm, hx, hi⟩
  · exact .inl h0
  · refine .inr ⟨a, len, cap, m, D, Pl, hcs, hb, hl, hm, hmm, by rw [hC] at hx; exact hx, fun i him => ?_⟩
    obtain ⟨cs', hc, ht'⟩ := hi i him
    rw [hC] at hc
    obtain ⟨ys, n', hn', hy, hlen, hyl, hf⟩ := DataW.trod_struct he ht'
    obtain ⟨_, hcl, hat⟩ := World.cells?_some hc
    simp only [Prod.mk.injEq] at hy
    refine ⟨ys, n', hy.1, hy.2, hyl, fun j f hj => ?_⟩
    obtain ⟨ho, hk⟩ := hone_of hone j f hj
    have hjl : j < fs.size := (Array.getElem?_eq_some_iff.1 hj).1
    have hcell := hat j hjl
    have hv : cs'[j]? = some (cs'[j]'(by omega)) := List.getElem?_eq_getElem (by omega)
    have h1 := hf j f hj
    rw [ho, hk] at h1
    have hone' : (cs'.drop j).take 1 = [cs'[j]'(by omega)] := by
      rw [List.drop_eq_getElem_cons (by omega)]
      rfl
    rw [hone'] at h1
    have hys : ys[j]? = some (ys[j]'(by omega)) := List.getElem?_eq_getElem (by omega)
    refine ⟨_, _, ?_, hys, h1.trans hys⟩
    rw [← Go.Deep.add_add, hcell, hv]
end

end Go.Proofs.Ytcikhlieaoanoaa

/-
  Openers for arguments: bytes, lists of bytes. Over any program.
-/
namespace Go.Proofs.Ytcikhlieaoanoaa
open Go.RowKit Go.WideShapes Go.ChangeShapes Go.Joins Go.Deep

section
variable {H : Type} {enc : TypeId × Value → H} {P : Program} {w : World} {base : Nat} {spare : Nat → Bool} {held : Bool}
theorem open_bytes {t e : TypeId} {fuel : Nat} {cs : List Value} {x : DataW H × List MemPlace} (ht : P.underlying t = some (.slice e)) (he : P.underlying e = some (.int .u8)) (hC : P.cellsOf e = 1)
    (h : DataW.trod enc P w base spare held fuel t cs = some x) :
    ∃ (A : Option Addr) (c : Nat) (l : List UInt8), cs = [.slice A l.length c] ∧ l.length ≤ c ∧ c ≤ 9223372036854775807 ∧ (A = none → c = 0) ∧ RB w w.heap.size A l.length l := by
  rcases open_slice1 ht hC h with ⟨rfl, _⟩ | ⟨a, len, cap, m, n, V, D, Pl, rfl, _, hl, hm, hmm, _, hi⟩
  · exact ⟨none, 0, [], rfl, by simp, by omega, fun _ => rfl, RB.nil⟩
  · have hlm : len ≤ m := by rw [hmm]; split <;> omega
    obtain ⟨l, hll, hq⟩ := list_of (Q := fun i (b : UInt8) => w.cell? (a.add i) = some (.int .u8 (b.toNat : Int))) len (fun i hi' => by
      obtain ⟨h1, h2⟩ := hi i (by omega)
      obtain ⟨v, e0, _, hw⟩ := DataW.trod_int he h2
      injection e0 with e0 _
      have hw : 0 ≤ v ∧ v ≤ 255 := by
        simp [Lit.wf, IntKind.min, IntKind.max, IntKind.signed, IntKind.bits] at hw
        omega
      refine ⟨UInt8.ofNat v.toNat, ?_⟩
      rw [h1, e0, UInt8.toNat_ofNat', Nat.mod_eq_of_lt (by omega), Int.toNat_of_nonneg hw.1])
    subst hll
    exact ⟨some a, cap, l, rfl, hl, hm, (fun e => nomatch e), reads_of (by simp [u8s_length]) (by decide) fun j u hu => by
      simp only [u8s, List.getElem?_map, Option.map_eq_some_iff] at hu
      obtain ⟨b, hb, rfl⟩ := hu
      exact hq j b hb⟩

theorem open_keys {t t1 e : TypeId} {fuel : Nat} {cs : List Value} {x : DataW H × List MemPlace} (ht : P.underlying t = some (.slice t1)) (ht1 : P.underlying t1 = some (.slice e)) (he : P.underlying e = some (.int .u8)) (hC1 : P.cellsOf t1 = 1) (hC : P.cellsOf e = 1)
    (h : DataW.trod enc P w base spare held fuel t cs = some x) :
    ∃ (A : Option Addr) (c : Nat) (ks : List (List UInt8)), cs = [.slice A ks.length c] ∧ ks.length ≤ c ∧ c ≤ 9223372036854775807 ∧ (A = none → c = 0) ∧ RBs w w.heap.size A ks.length ks := by
  rcases open_slice1 ht hC1 h with ⟨rfl, _⟩ | ⟨a, len, cap, m, n, V, D, Pl, rfl, _, hl, hm, hmm, _, hi⟩
  · exact ⟨none, 0, [], rfl, by simp, by omega, fun _ => rfl, KV.nil.rbs Reads.nil⟩
  · have hlm : len ≤ m := by rw [hmm]; split <;> omega
    obtain ⟨ps, hpl, hq⟩ := list_of (Q := fun i (p : Value × List UInt8) => w.cell? (a.add i) = some p.1 ∧ ∃ (A : Option Addr) (c : Nat), p.1 = .slice A p.2.length c ∧ p.2.length ≤ c ∧ c ≤ 9223372036854775807 ∧ (A = none → c = 0) ∧ RB w w.heap.size A p.2.length p.2) len (fun i hi' => by
      obtain ⟨h1, h2⟩ := hi i (by omega)
      obtain ⟨A, c, l, e0, q1, q2, q3, q4⟩ := open_bytes ht1 he hC h2
      injection e0 with e0 _
      exact ⟨(V i, l), h1, A, c, e0, q1, q2, q3, q4⟩)
    subst hpl
    refine ⟨some a, cap, ps.map (·.2), by simp, by simpa using hl, hm, (fun e => nomatch e), ?_⟩
    have hk : KV w w.heap.size (ps.map (·.1)) (ps.map (·.2)) := by
      refine ⟨by simp, fun i k hk => ?_⟩
      rw [List.getElem?_map, Option.map_eq_some_iff] at hk
      obtain ⟨p, hp, rfl⟩ := hk
      obtain ⟨_, A, c, e1, q⟩ := hq i p hp
      exact ⟨A, c, by rw [List.getElem?_map, hp, Option.map_some, e1], q⟩
    refine hk.rbs (reads_of (by simp) (by decide) fun j u hu => ?_)
    rw [List.getElem?_map, Option.map_eq_some_iff] at hu
    obtain ⟨p, hp, rfl⟩ := hu
    exact (hq j p hp).1
/-- The same, an argument's value. -/
theorem open_slice_top {r : Reach} {b0 : Nat} {t e : TypeId} {v : Value} {d : DataW H} {ps : List MemPlace} (ht : P.underlying t = some (.slice e)) (hval : Value.okWide P w r b0 t v) (h : DataW.Trod enc P w base spare held t v d ps) :
    ∃ fuel, DataW.trod enc P w base spare held fuel t [v] = some (d, ps) := by
  obtain ⟨a, n, c, rfl⟩ := okWide_slice ht hval
  obtain ⟨fuel, hf⟩ := h
  exact ⟨fuel, hf⟩
theorem open_bytes_top {r : Reach} {b0 : Nat} {t e : TypeId} {v : Value} {d : DataW H} {ps : List MemPlace} (ht : P.underlying t = some (.slice e)) (he : P.underlying e = some (.int .u8)) (hC : P.cellsOf e = 1)
    (hval : Value.okWide P w r b0 t v) (h : DataW.Trod enc P w base spare held t v d ps) :
    ∃ (A : Option Addr) (c : Nat) (l : List UInt8), v = .slice A l.length c ∧ l.length ≤ c ∧ c ≤ 9223372036854775807 ∧ (A = none → c = 0) ∧ RB w w.heap.size A l.length l := by
  obtain ⟨fuel, hf⟩ := open_slice_top ht hval h
  obtain ⟨A, c, l, h1, h2⟩ := open_bytes ht he hC hf
  injection h1 with h1
  exact ⟨A, c, l, h1, h2⟩
theorem open_keys_top {r : Reach} {b0 : Nat} {t t1 e : TypeId} {v : Value} {d : DataW H} {ps : List MemPlace} (ht : P.underlying t = some (.slice t1)) (ht1 : P.underlying t1 = some (.slice e)) (he : P.underlying e = some (.int .u8)) (hC1 : P.cellsOf t1 = 1) (hC : P.cellsOf e = 1)
    (hval : Value.okWide P w r b0 t v) (h : DataW.Trod enc P w base spare held t v d ps) :
    ∃ (A : Option Addr) (c : Nat) (ks : List (List UInt8)), v = .slice A ks.length c ∧ ks.length ≤ c ∧ c ≤ 9223372036854775807 ∧ (A = none → c = 0) ∧ RBs w w.heap.size A ks.length ks := by
  obtain ⟨fuel, hf⟩ := open_slice_top ht hval h
  obtain ⟨A, c, ks, h1, h2⟩ := open_keys ht ht1 he hC1 hC hf
  injection h1 with h1
  exact ⟨A, c, ks, h1, h2⟩
end

end Go.Proofs.Ytcikhlieaoanoaa

/-
  What the bound on the arguments gives: lengths of bytes and of lists of bytes.
-/
namespace Go.Proofs.Ytcikhlieaoanoaa
open Go.RowKit Go.WideShapes Go.ChangeShapes Go.Joins Go.Deep

theorem bulk_one {H : Type} (d : DataW H) : 1 ≤ Rows.uptoBulk d := by
  cases d with
  | lit l => cases l <;> simp [Rows.uptoBulk]
  | nil => simp [Rows.uptoBulk]
  | ptr d => simp [Rows.uptoBulk]
  | slice elems spare => simp [Rows.uptoBulk]
  | agg parts => simp [Rows.uptoBulk]
  | iface t d => simp [Rows.uptoBulk]
  | map entries => simp [Rows.uptoBulk]
  | held h => simp [Rows.uptoBulk]
theorem bulk_app {H : Type} (l r : List (DataW H)) : Rows.uptoBulkAll (l ++ r) = Rows.uptoBulkAll l + Rows.uptoBulkAll r := by
  induction l with
  | nil => simp [Rows.uptoBulkAll]
  | cons x l ih => simp only [List.cons_append, Rows.uptoBulkAll, ih]; omega
theorem bulk_len {H : Type} (l : List (DataW H)) : l.length ≤ Rows.uptoBulkAll l := by
  induction l with
  | nil => simp [Rows.uptoBulkAll]
  | cons x r ih => have := bulk_one x; simp only [Rows.uptoBulkAll, List.length_cons]; omega
theorem bulk_range {H : Type} (D : Nat → DataW H) (g : Nat → Nat) (n : Nat) (h : ∀ i, i < n → g i ≤ Rows.uptoBulk (D i)) : ((List.range n).map g).sum ≤ Rows.uptoBulkAll ((List.range n).map D) := by
  induction n with
  | zero => simp
  | succ n ih =>
    have h1 := ih fun i hi => h i (by omega)
    have h2 := h n (by omega)
    rw [List.range_succ, List.map_append, List.map_append, List.sum_append, bulk_app]
    simp only [List.map_cons, List.map_nil, List.sum_cons, List.sum_nil, Rows.uptoBulkAll]
    omega

section
variable {H : Type} {enc : TypeId × Value → H} {P : Program} {w : World} {base : Nat} {held : Bool}
theorem upto_bytes {t e : TypeId} {fuel : Nat} {cs : List Value} {x : DataW H × List MemPlace} (ht : P.underlying t = some (.slice e)) (he : P.underlying e = some (.int .u8)) (hC : P.cellsOf e = 1)
    (h : DataW.trod enc P w base (fun _ => true) held fuel t cs = some x) :
    ∃ (A : Option Addr) (c : Nat) (l : List UInt8), cs = [.slice A l.length c] ∧ Sl w A l.length c l ∧ c + 1 ≤ Rows.uptoBulk x.1 := by
  obtain ⟨A, c, l, h1, h2, h3, h4, h5⟩ := open_bytes ht he hC h
  refine ⟨A, c, l, h1, ⟨h5, h2, h3, h4⟩, ?_⟩
  rcases open_slice1 ht hC h with ⟨rfl, rfl⟩ | ⟨a, len, cap, m, n, V, D, Pl, rfl, _, hl, hm, hmm, hx, hi⟩
  · injection h1 with h1
    injection h1 with _ _ h1
    subst h1
    simp [Rows.uptoBulk]
  · injection h1 with h1
    injection h1 with _ _ h1
    subst h1
    rw [if_pos rfl] at hmm
    subst hmm
    rw [hx]
    simp only [Rows.uptoBulk]
    have e1 := bulk_len (H := H) ((List.range len).map D)
    have e2 := bulk_len (H := H) ((List.range (m - len)).map fun j => D (len + j))
    simp only [List.length_map, List.length_range] at e1 e2
    omega

theorem flat_sum {α : Type} (ks : List (List α)) : ks.flatten.length + ks.length = ((List.range ks.length).map fun i => (ks[i]?.getD []).length + 1).sum := by
  induction ks with
  | nil => rfl
  | cons k ks ih =>
    rw [List.length_cons, List.range_succ_eq_map, List.map_cons, List.sum_cons, List.map_map]
    have : ((fun i => ((k :: ks)[i]?.getD []).length + 1) ∘ Nat.succ) = fun i => (ks[i]?.getD []).length + 1 := by
      funext i; simp
    rw [this, ← ih, List.flatten_cons, List.length_append]
    simp only [List.getElem?_cons_zero, Option.getD_some]
    omega

theorem upto_keys {t t1 e : TypeId} {fuel : Nat} {cs : List Value} {x : DataW H × List MemPlace} (ht : P.underlying t = some (.slice t1)) (ht1 : P.underlying t1 = some (.slice e)) (he : P.underlying e = some (.int .u8)) (hC1 : P.cellsOf t1 = 1) (hC : P.cellsOf e = 1)
    (h : DataW.trod enc P w base (fun _ => true) held fuel t cs = some x) :
    ∃ (A : Option Addr) (c : Nat) (ks : List (List UInt8)), cs = [.slice A ks.length c] ∧ ks.length ≤ c ∧ c ≤ 9223372036854775807 ∧ (A = none → c = 0) ∧ RBs w w.heap.size A ks.length ks ∧ ks.flatten.length + c + 1 ≤ Rows.uptoBulk x.1 := by
  rcases open_slice1 ht hC1 h with ⟨rfl, rfl⟩ | ⟨a, len, cap, m, n, V, D, Pl, rfl, _, hl, hm, hmm, hx, hi⟩
  · exact ⟨none, 0, [], rfl, by simp, by omega, fun _ => rfl, KV.nil.rbs Reads.nil, by simp [Rows.uptoBulk]⟩
  · rw [if_pos rfl] at hmm
    subst hmm
    obtain ⟨ps, hpl, hq⟩ := list_of (Q := fun i (p : Value × List UInt8) => w.cell? (a.add i) = some p.1 ∧ (∃ (A : Option Addr) (c : Nat), p.1 = .slice A p.2.length c ∧ p.2.length ≤ c ∧ c ≤ 9223372036854775807 ∧ (A = none → c = 0) ∧ RB w w.heap.size A p.2.length p.2) ∧ p.2.length + 1 ≤ Rows.uptoBulk (D i)) len (fun i hi' => by
      obtain ⟨h1, h2⟩ := hi i (by omega)
      obtain ⟨A, c, l, e0, q1, q2⟩ := upto_bytes ht1 he hC h2
      injection e0 with e0 _
      exact ⟨(V i, l), h1, ⟨A, c, e0, q1.cap, q1.lim, q1.nil, q1.rb⟩, by have h9 := q1.cap; have h8 : c + 1 ≤ Rows.uptoBulk (D i) := q2; exact Nat.le_trans (Nat.add_le_add_right h9 1) h8⟩)
    subst hpl
    have hk : KV w w.heap.size (ps.map (·.1)) (ps.map (·.2)) := by
      refine ⟨by simp, fun i k hk => ?_⟩
      rw [List.getElem?_map, Option.map_eq_some_iff] at hk
      obtain ⟨p, hp, rfl⟩ := hk
      obtain ⟨_, ⟨A, c, e1, q⟩, _⟩ := hq i p hp
      exact ⟨A, c, by rw [List.getElem?_map, hp, Option.map_some, e1], q⟩
    refine ⟨some a, m, ps.map (·.2), by simp, by simpa using hl, hm, (fun e => nomatch e), hk.rbs (reads_of (by simp) (by decide) fun j u hu => ?_), ?_⟩
    · rw [List.getElem?_map, Option.map_eq_some_iff] at hu
      obtain ⟨p, hp, rfl⟩ := hu
      exact (hq j p hp).1
    · rw [hx]
      simp only [Rows.uptoBulk]
      have e1 := bulk_range D (fun i => ((ps.map (·.2))[i]?.getD []).length + 1) ps.length fun i hi' => by
        have hp : ps[i]? = some ps[i] := List.getElem?_eq_getElem hi'
        have := (hq i _ hp).2.2
        rw [List.getElem?_map, hp]
        exact this
      have e2 := bulk_len (H := H) ((List.range (m - ps.length)).map fun j => D (ps.length + j))
      simp only [List.length_map, List.length_range] at e2
      have e3 := flat_sum (ps.map (·.2))
      rw [List.length_map] at e3
      omega

theorem upto_bytes_top {r : Reach} {b0 : Nat} {t e : TypeId} {v : Value} {d : DataW H} {ps : List MemPlace} (ht : P.underlying t = some (.slice e)) (he : P.underlying e = some (.int .u8)) (hC : P.cellsOf e = 1)
    (hval : Value.okWide P w r b0 t v) (h : DataW.Trod enc P w base (fun _ => true) held t v d ps) :
    ∃ (A : Option Addr) (c : Nat) (l : List UInt8), v = .slice A l.length c ∧ Sl w A l.length c l ∧ c + 1 ≤ Rows.uptoBulk d := by
  obtain ⟨fuel, hf⟩ := open_slice_top ht hval h
  obtain ⟨A, c, l, h1, h2⟩ := upto_bytes ht he hC hf
  injection h1 with h1
  exact ⟨A, c, l, h1, h2⟩
theorem upto_keys_top {r : Reach} {b0 : Nat} {t t1 e : TypeId} {v : Value} {d : DataW H} {ps : List MemPlace} (ht : P.underlying t = some (.slice t1)) (ht1 : P.underlying t1 = some (.slice e)) (he : P.underlying e = some (.int .u8)) (hC1 : P.cellsOf t1 = 1) (hC : P.cellsOf e = 1)
    (hval : Value.okWide P w r b0 t v) (h : DataW.Trod enc P w base (fun _ => true) held t v d ps) :
    ∃ (A : Option Addr) (c : Nat) (ks : List (List UInt8)), v = .slice A ks.length c ∧ ks.length ≤ c ∧ c ≤ 9223372036854775807 ∧ (A = none → c = 0) ∧ RBs w w.heap.size A ks.length ks ∧ ks.flatten.length + c + 1 ≤ Rows.uptoBulk d := by
  obtain ⟨fuel, hf⟩ := open_slice_top ht hval h
  obtain ⟨A, c, ks, h1, h2⟩ := upto_keys ht ht1 he hC1 hC hf
  injection h1 with h1
  exact ⟨A, c, ks, h1, h2⟩
end
end Go.Proofs.Ytcikhlieaoanoaa

/-
  An entry as an argument, opened.
-/
namespace Go.Proofs.Ytcikhlieaoanoaa
open Go.RowKit Go.WideShapes Go.ChangeShapes Go.Joins Go.Deep

section
variable {H : Type} {enc : TypeId × Value → H} {w : World} {base : Nat} {spare : Nat → Bool} {held : Bool}
theorem sl_of {A : Option Addr} {c : Nat} {l : List UInt8} (h1 : l.length ≤ c) (h2 : c ≤ 9223372036854775807) (h3 : A = none → c = 0) (h4 : RB w w.heap.size A l.length l) : Sl w A l.length c l := ⟨h4, h1, h2, h3⟩
set_option maxRecDepth 100000 in
theorem open_entry {r : Reach} {b0 : Nat} {v : Value} {d : DataW H} {ps : List MemPlace} (hval : Value.okWide Try.prog w r b0 27 v) (h : DataW.Trod enc Try.prog w base spare held 27 v d ps) :
    ∃ (A : Option Addr) (n c : Nat) (B : Option Addr) (m z : Nat) (D : Option Addr) (y q : Nat) (e : Ent), v = entV A n c B m z D y q e ∧ En w A n c B m z D y q e := by
  obtain ⟨cs, rfl, hsz⟩ := okWide_struct Try.underlying27 hval
  obtain ⟨fuel, hf⟩ := h
  have hC : Try.prog.cellsOf 27 = 7 := by kernel_rfl
  have hB : Try.prog.cellsOf 22 = 1 := by kernel_rfl
  have hI : Try.prog.cellsOf 3 = 1 := by kernel_rfl
  have hU : Try.prog.cellsOf 5 = 1 := by kernel_rfl
  rw [hC] at hsz
  obtain ⟨l⟩ := cs
  match l, hsz with
  | [v0, v1, v2, v3, v4, v5, v6], _ =>
    obtain ⟨xs, k, rfl, _, _, hlen, hi⟩ := DataW.trod_struct Try.underlying27 hf
    match xs, hlen with
    | [x0, x1, x2, x3, x4, x5, x6], _ =>
      have t0 : DataW.trod enc Try.prog w base spare held k 22 (([v0, v1, v2, v3, v4, v5, v6].drop 0).take (Try.prog.cellsOf 22)) = some x0 := hi 0 _ rfl
      have t1 : DataW.trod enc Try.prog w base spare held k 3 (([v0, v1, v2, v3, v4, v5, v6].drop 1).take (Try.prog.cellsOf 3)) = some x1 := hi 1 _ rfl
      have t2 : DataW.trod enc Try.prog w base spare held k 22 (([v0, v1, v2, v3, v4, v5, v6].drop 2).take (Try.prog.cellsOf 22)) = some x2 := hi 2 _ rfl
      have t3 : DataW.trod enc Try.prog w base spare held k 3 (([v0, v1, v2, v3, v4, v5, v6].drop 3).take (Try.prog.cellsOf 3)) = some x3 := hi 3 _ rfl
      have t4 : DataW.trod enc Try.prog w base spare held k 3 (([v0, v1, v2, v3, v4, v5, v6].drop 4).take (Try.prog.cellsOf 3)) = some x4 := hi 4 _ rfl
      have t5 : DataW.trod enc Try.prog w base spare held k 3 (([v0, v1, v2, v3, v4, v5, v6].drop 5).take (Try.prog.cellsOf 3)) = some x5 := hi 5 _ rfl
      have t6 : DataW.trod enc Try.prog w base spare held k 22 (([v0, v1, v2, v3, v4, v5, v6].drop 6).take (Try.prog.cellsOf 22)) = some x6 := hi 6 _ rfl
      rw [hB] at t0 t2 t6
      rw [hI] at t1 t3 t4 t5
      obtain ⟨A, c, l0, e0, p1, p2, p3, p4⟩ := open_bytes Try.underlying22 Try.underlying5 hU t0
      obtain ⟨B, z, l2, e2, q1, q2, q3, q4⟩ := open_bytes Try.underlying22 Try.underlying5 hU t2
      obtain ⟨D, q, l6, e6, s1, s2, s3, s4⟩ := open_bytes Try.underlying22 Try.underlying5 hU t6
      obtain ⟨i1, e1, _, _⟩ := DataW.trod_int Try.underlying3 t1
      obtain ⟨i3, e3, _, _⟩ := DataW.trod_int Try.underlying3 t3
      obtain ⟨i4, e4, _, _⟩ := DataW.trod_int Try.underlying3 t4
      obtain ⟨i5, e5, _, _⟩ := DataW.trod_int Try.underlying3 t5
      injection e0 with e0 _; injection e1 with e1 _; injection e2 with e2 _; injection e3 with e3 _; injection e4 with e4 _; injection e5 with e5 _; injection e6 with e6 _
      have e0 : v0 = _ := e0
      have e1 : v1 = _ := e1
      have e2 : v2 = _ := e2
      have e3 : v3 = _ := e3
      have e4 : v4 = _ := e4
      have e5 : v5 = _ := e5
      have e6 : v6 = _ := e6
      subst e0 e1 e2 e3 e4 e5 e6
      exact ⟨A, l0.length, c, B, l2.length, z, D, l6.length, q, ⟨l0, i1, l2, i3, i4, i5, l6⟩, rfl, ⟨sl_of p1 p2 p3 p4, sl_of q1 q2 q3 q4, sl_of s1 s2 s3 s4⟩⟩
end
end Go.Proofs.Ytcikhlieaoanoaa
