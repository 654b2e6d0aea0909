/-
  answered, walked: whatever the call, the answer is true.
-/
import Derived.Test.YtbcljgcilbfblaaDoorWireV2
import Derived.Test.YtbcljgcilbfblaaDoorWireG1
namespace Go.Proofs.YtbcljgcilbfblaaDoor
open Go.RowKit

set_option maxRecDepth 100000 in
set_option maxHeartbeats 8000000 in
theorem answered_any (K a N V : Int) (l : List UInt8) (ps : List (List UInt8)) (A PA : Option Addr) (n c pn pc : Nat) (w : World) (hs : Sl w A n c l) (hp : RBs w w.heap.size PA pn ps) (hn : n ≤ 1048576) (hpn : pn ≤ 1048576)
    (hV : 0 ≤ V ∧ V < 18446744073709551616) (hN : -9223372036854775808 ≤ N ∧ N < 9223372036854775808) (ht : TabAt 0 w) :
    Calls Tryd.prog 6 #[.agg #[.int .i64 K, .slice A n c, .int .i64 a, .int .i64 N, .int .u64 V, .slice PA pn pc]] w fun e w' => e = .returned (.bool true) ∧ Below w.heap.size w w' := by
  have HB0 := Lib.hid ((Below.refl w.heap.size w).alloc (Nat.le_refl _) (.cells #[.int .i64 K, .slice A n c, .int .i64 a, .int .i64 N, .int .u64 V, .slice PA pn pc] 32))
  have HX := box_all w #[.int .i64 K, .slice A n c, .int .i64 a, .int .i64 N, .int .u64 V, .slice PA pn pc] 32 _ _ _ _ _ _ rfl
  have HS := Lib.hid (hs.later HB0.out)
  have HP := Lib.hid (hp.later HB0.out)
  have HT := Lib.hid (ht.later HB0.out)
  have HVV := Lib.hid hV
  have hcase : (K = 1 ∨ K = 2 ∨ K = 5 ∨ K = 6 ∨ K = 7 ∨ K = 8) ∨ (K = 3 ∨ K = 4 ∨ K = 9 ∨ K = 10 ∨ K = 11 ∨ K = 12 ∨ K = 13) ∨ ((K == 1) = false ∧ (K == 2) = false ∧ (K == 3) = false ∧ (K == 4) = false ∧ (K == 5) = false ∧ (K == 6) = false ∧ (K == 7) = false ∧ (K == 8) = false ∧ (K == 9) = false ∧ (K == 10) = false ∧ (K == 11) = false ∧ (K == 12) = false ∧ (K == 13) = false) := by
    simp only [beq_eq_false_iff_ne]
    omega
  clear hs hp ht hV
  go_enter Tryd.func6, Tryd.ntmps6
  go_upto_region 1 with fail
  obtain ⟨gb, hgb⟩ : ∃ g, g = w.heap.size := ⟨_, rfl⟩
  have HGB := Lib.hid hgb
  rw [← hgb] at HX ⊢
  clear hgb
  generalize hw5 : w.alloc _ = w5 at *
  clear hw5
  obtain ⟨p0, p1, p2, p3, p4, p5⟩ := HX.out w5 (Below.refl _ _)
  clear HX
  rcases hcase with hK | hK | ⟨k1, k2, k3, k4, k5, k6, k7, k8, k9, k10, k11, k12, k13⟩
  · have HC := Lib.hid (numbers_all K hK l A PA n c pn pc a N V w5 HS.out (by omega) HVV.out hN)
    rcases hK with rfl | rfl | rfl | rfl | rfl | rfl
    all_goals
      go_wp2_with (go_at_call 16; go_must (refine HC.out.mono ?_); rintro e w6 ⟨rfl, hb6⟩; have HB6 := Lib.hid (HB0.out.trans (hb6.mono HB0.out.size)); clear hb6)
      go_ret
      exact ⟨rfl, HB6.out⟩
  · have HC := Lib.hid (strings_all K hK l ps A PA n c pn pc a N V w5 HS.out HP.out (by omega) (by omega) hN HT.out)
    rcases hK with rfl | rfl | rfl | rfl | rfl | rfl | rfl
    all_goals
      go_wp2_with (go_at_call 17; go_must (refine HC.out.mono ?_); rintro e w6 ⟨rfl, hb6⟩; have HB6 := Lib.hid (HB0.out.trans (hb6.mono HB0.out.size)); clear hb6)
      go_ret
      exact ⟨rfl, HB6.out⟩
  · go_wp2_with fail
    go_ret
    exact ⟨rfl, HB0.out⟩
end Go.Proofs.YtbcljgcilbfblaaDoor
