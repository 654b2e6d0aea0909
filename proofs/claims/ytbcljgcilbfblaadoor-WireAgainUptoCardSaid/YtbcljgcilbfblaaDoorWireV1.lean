/-
  The statements' numbers and strings: each call's answer is the reference's. (Printed by gen_kinds.py.)
-/
import Derived.Test.YtbcljgcilbfblaaDoorWireR6
import Derived.Test.YtbcljgcilbfblaaDoorWireW14
import Derived.Deep.RegionHeld3
namespace Go.Proofs.YtbcljgcilbfblaaDoor
open Go.RowKit

theorem keep_below {w x y : World} {p : Addr} {v : Value} (h : x.cell? p = some v ∧ Below w.heap.size w x) (hb : Below x.heap.size x y) : y.cell? p = some v ∧ Below w.heap.size w y :=
  ⟨(hb.cell (World.block_lt_of_cell? x p h.1)).trans h.1, h.2.trans (hb.mono h.2.size)⟩
theorem box_cells (w : World) (C : Array Value) (t : TypeId) (u0 u1 u2 u3 u4 u5 : Value) (h : C = #[u0, u1, u2, u3, u4, u5]) :
    Hid (∀ x, Below (w.alloc (.cells C t)).heap.size (w.alloc (.cells C t)) x → x.cell? ⟨w.heap.size, 1, none⟩ = some u1 ∧ x.cell? ⟨w.heap.size, 2, none⟩ = some u2 ∧ x.cell? ⟨w.heap.size, 3, none⟩ = some u3) := Lib.hid fun x hb => by
  subst h
  exact ⟨(hb.cell (p := ⟨w.heap.size, 1, none⟩) (by simp)).trans (by simp), (hb.cell (p := ⟨w.heap.size, 2, none⟩) (by simp)).trans (by simp), (hb.cell (p := ⟨w.heap.size, 3, none⟩) (by simp)).trans (by simp)⟩
section
variable (l : List UInt8) (ps : List (List UInt8)) (A PA : Option Addr) (n c pn pc v : Nat) (a N V : Int) (w : World)

set_option maxRecDepth 100000 in
set_option maxHeartbeats 2000000 in
theorem numbers_1 (hv : v < 18446744073709551616) :
    Calls Tryd.prog 16 #[.agg #[.int .i64 1, .slice A n c, .int .i64 a, .int .i64 N, .int .u64 v, .slice PA pn pc]] w fun e w' => e = .returned (.bool true) ∧ Below w.heap.size w w' := by
  have HB0 := Lib.hid ((Below.refl w.heap.size w).alloc (Nat.le_refl _) (.cells #[.int .i64 1, .slice A n c, .int .i64 a, .int .i64 N, .int .u64 v, .slice PA pn pc] 32))
  have HX := box_cells w #[.int .i64 1, .slice A n c, .int .i64 a, .int .i64 N, .int .u64 v, .slice PA pn pc] 32 _ _ _ _ _ _ rfl
  have HV := Lib.hid hv
  obtain ⟨B, hB⟩ : ∃ B, B = uintB v := ⟨_, rfl⟩
  obtain ⟨L, hL⟩ : ∃ L, L = B.length := ⟨_, rfl⟩
  have XB := Lib.hid hB
  have XL := Lib.hid hL
  have XS : Hid ((B == B) = true) := Lib.hid (by simp)
  have HCE : (w.alloc (.cells #[.int .i64 1, .slice A n c, .int .i64 a, .int .i64 N, .int .u64 v, .slice PA pn pc] 32)).cell? ⟨w.heap.size, 4, none⟩ = some (.int .u64 v) := by simp
  clear hB hL HX hv
  go_enter Tryd.func16, Tryd.ntmps16
  go_wp2
  generalize hwb : w.alloc _ = wb at *
  obtain ⟨g, hg⟩ : ∃ g, g = w.heap.size := ⟨_, rfl⟩
  rw [← hg] at HCE ⊢
  have HG := Lib.hid hg
  have HWB := Lib.hid hwb
  clear hg hwb
  go_region_held3 (fun w' => w'.cell? ⟨g, 4, none⟩ = some (.int .u64 v) ∧ Below wb.heap.size wb w') (first | assumption | exact ⟨HCE, (Below.refl _ _).drew⟩ | exact keep_below ‹_› hb1 | exact keep_below ‹_› hb2) (first
    | (go_at_call 14; refine (uint_any v _ HV.out).mono ?_; rintro e w1 hp; rw [← XB.out] at hp; obtain ⟨A1, c1, rfl, hS1, _, hb1⟩ := BytesPost.at_ hp XL.out.symm)
    | (go_at_call 23; refine (rUint_any v _ HV.out).mono ?_; rintro e w2 hp; rw [← XB.out] at hp; obtain ⟨A2, c2, rfl, hS2, _, hb2⟩ := BytesPost.at_ hp XL.out.symm)
    | (go_at_call 13; refine (same_any B B A1 A2 L c1 L c2 _ (by first | exact hS1.rb | exact (hS1.later hb2).rb) (by first | exact hS2.rb | exact (hS2.later hb1).rb)).mono ?_; rw [XS.out]; rintro e wn ⟨rfl, rfl⟩))
  all_goals
    go_wp2
    go_ret
    refine ⟨rfl, HB0.out.trans (Below.mono (And.right ‹_ ∧ Below wb.heap.size wb _›) HB0.out.size)⟩

set_option maxRecDepth 100000 in
set_option maxHeartbeats 2000000 in
theorem numbers_2 (hs : Sl w A n c l) (hn : n ≤ 140737488355000) :
    Calls Tryd.prog 16 #[.agg #[.int .i64 2, .slice A n c, .int .i64 a, .int .i64 N, .int .u64 V, .slice PA pn pc]] w fun e w' => e = .returned (.bool true) ∧ Below w.heap.size w w' := by
  have HB0 := Lib.hid ((Below.refl w.heap.size w).alloc (Nat.le_refl _) (.cells #[.int .i64 2, .slice A n c, .int .i64 a, .int .i64 N, .int .u64 V, .slice PA pn pc] 32))
  have HX := box_cells w #[.int .i64 2, .slice A n c, .int .i64 a, .int .i64 N, .int .u64 V, .slice PA pn pc] 32 _ _ _ _ _ _ rfl
  have HS : Hid (∀ w', Below w.heap.size w w' → Sl w' A n c l) := Lib.hid fun w' h => hs.later h
  obtain ⟨x, hx⟩ : ∃ x, x = (readU l a).1 := ⟨_, rfl⟩
  obtain ⟨p, hp⟩ : ∃ p, p = (readU l a).2.1 := ⟨_, rfl⟩
  obtain ⟨k, hk⟩ : ∃ k, k = (readU l a).2.2 := ⟨_, rfl⟩
  have HU : Hid (∀ w', RUPost (readU l a) w' = RUPost (x, p, k) w') := Lib.hid fun w' => by rw [hx, hp, hk]
  have q1 : ((x : Int) == (x : Int)) = true := by simp
  have q2 : ((p : Int) == (p : Int)) = true := by simp
  have q3 : ((k : Int) == (k : Int)) = true := by simp
  clear hx hp hk hs
  go_enter Tryd.func16, Tryd.ntmps16
  go_wp2_with (first
    | (go_at_call 9; go_must (refine (ru_any l A n c a _ (by omega) (HS.out _ HB0.out).rb).mono ?_); rw [HU.out]; rintro e w1 ⟨rfl, rfl⟩)
    | (go_at_call 24; go_must (refine (rRu_any l A n c a _ (by omega) (HS.out _ HB0.out).rb).mono ?_); rw [HU.out]; rintro e w1 ⟨rfl, rfl⟩)
    | (go_at_call 12; refine (num_any _ _).mono ?_; rintro e wn ⟨rfl, rfl⟩))
  go_ret
  exact ⟨rfl, HB0.out⟩

set_option maxRecDepth 100000 in
set_option maxHeartbeats 2000000 in
theorem numbers_6 (hs : Sl w A n c l) (hn : n ≤ 140737488355000) :
    Calls Tryd.prog 16 #[.agg #[.int .i64 6, .slice A n c, .int .i64 a, .int .i64 N, .int .u64 V, .slice PA pn pc]] w fun e w' => e = .returned (.bool true) ∧ Below w.heap.size w w' := by
  have HB0 := Lib.hid ((Below.refl w.heap.size w).alloc (Nat.le_refl _) (.cells #[.int .i64 6, .slice A n c, .int .i64 a, .int .i64 N, .int .u64 V, .slice PA pn pc] 32))
  have HX := box_cells w #[.int .i64 6, .slice A n c, .int .i64 a, .int .i64 N, .int .u64 V, .slice PA pn pc] 32 _ _ _ _ _ _ rfl
  have HS : Hid (∀ w', Below w.heap.size w w' → Sl w' A n c l) := Lib.hid fun w' h => hs.later h
  obtain ⟨x, hx⟩ : ∃ x, x = (readR l a).1 := ⟨_, rfl⟩
  obtain ⟨p, hp⟩ : ∃ p, p = (readR l a).2.1 := ⟨_, rfl⟩
  obtain ⟨k, hk⟩ : ∃ k, k = (readR l a).2.2 := ⟨_, rfl⟩
  have HU : Hid (∀ w', RRPost (readR l a) w' = RRPost (x, p, k) w') := Lib.hid fun w' => by rw [hx, hp, hk]
  have q1 : ((x : Int) == (x : Int)) = true := by simp
  have q2 : ((p : Int) == (p : Int)) = true := by simp
  have q3 : ((k : Int) == (k : Int)) = true := by simp
  clear hx hp hk hs
  go_enter Tryd.func16, Tryd.ntmps16
  go_wp2_with (first
    | (go_at_call 27; go_must (refine (rr_any l A n c a _ (HS.out _ HB0.out) (by omega)).mono ?_); rw [HU.out]; rintro e w1 ⟨rfl, rfl⟩)
    | (go_at_call 28; go_must (refine (rRr_any l A n c a _ (HS.out _ HB0.out) (by omega)).mono ?_); rw [HU.out]; rintro e w1 ⟨rfl, rfl⟩)
    | (go_at_call 12; refine (num_any _ _).mono ?_; rintro e wn ⟨rfl, rfl⟩))
  go_ret
  exact ⟨rfl, HB0.out⟩

set_option maxRecDepth 100000 in
set_option maxHeartbeats 2000000 in
theorem numbers_8 (hs : Sl w A n c l) (hn : n ≤ 140737488355000) :
    Calls Tryd.prog 16 #[.agg #[.int .i64 8, .slice A n c, .int .i64 a, .int .i64 N, .int .u64 V, .slice PA pn pc]] w fun e w' => e = .returned (.bool true) ∧ Below w.heap.size w w' := by
  have HB0 := Lib.hid ((Below.refl w.heap.size w).alloc (Nat.le_refl _) (.cells #[.int .i64 8, .slice A n c, .int .i64 a, .int .i64 N, .int .u64 V, .slice PA pn pc] 32))
  have HX := box_cells w #[.int .i64 8, .slice A n c, .int .i64 a, .int .i64 N, .int .u64 V, .slice PA pn pc] 32 _ _ _ _ _ _ rfl
  have HS : Hid (∀ w', Below w.heap.size w w' → Sl w' A n c l) := Lib.hid fun w' h => hs.later h
  obtain ⟨x, hx⟩ : ∃ x, x = (readFl l a).1 := ⟨_, rfl⟩
  obtain ⟨p, hp⟩ : ∃ p, p = (readFl l a).2.1 := ⟨_, rfl⟩
  obtain ⟨k, hk⟩ : ∃ k, k = (readFl l a).2.2 := ⟨_, rfl⟩
  have HU : Hid (∀ w', RRPost (readFl l a) w' = RRPost (x, p, k) w') := Lib.hid fun w' => by rw [hx, hp, hk]
  have q1 : ((x : Int) == (x : Int)) = true := by simp
  have q2 : ((p : Int) == (p : Int)) = true := by simp
  have q3 : ((k : Int) == (k : Int)) = true := by simp
  clear hx hp hk hs
  go_enter Tryd.func16, Tryd.ntmps16
  go_wp2_with (first
    | (go_at_call 31; go_must (refine (rfl_any l A n c a _ (HS.out _ HB0.out) (by omega)).mono ?_); rw [HU.out]; rintro e w1 ⟨rfl, rfl⟩)
    | (go_at_call 32; go_must (refine (rRfl_any l A n c a _ (HS.out _ HB0.out) (by omega)).mono ?_); rw [HU.out]; rintro e w1 ⟨rfl, rfl⟩)
    | (go_at_call 12; refine (num_any _ _).mono ?_; rintro e wn ⟨rfl, rfl⟩))
  go_ret
  exact ⟨rfl, HB0.out⟩

set_option maxRecDepth 100000 in
set_option maxHeartbeats 2000000 in
theorem numbers_5p (hv : v < 9223372036854775808) :
    Calls Tryd.prog 16 #[.agg #[.int .i64 5, .slice A n c, .int .i64 a, .int .i64 v, .int .u64 V, .slice PA pn pc]] w fun e w' => e = .returned (.bool true) ∧ Below w.heap.size w w' := by
  have HB0 := Lib.hid ((Below.refl w.heap.size w).alloc (Nat.le_refl _) (.cells #[.int .i64 5, .slice A n c, .int .i64 a, .int .i64 v, .int .u64 V, .slice PA pn pc] 32))
  have HX := box_cells w #[.int .i64 5, .slice A n c, .int .i64 a, .int .i64 v, .int .u64 V, .slice PA pn pc] 32 _ _ _ _ _ _ rfl
  have HV := Lib.hid hv
  obtain ⟨B, hB⟩ : ∃ B, B = risB v := ⟨_, rfl⟩
  obtain ⟨L, hL⟩ : ∃ L, L = B.length := ⟨_, rfl⟩
  obtain ⟨k, hk⟩ : ∃ k : Int, k = 0 := ⟨_, rfl⟩
  have XB := Lib.hid hB
  have XL := Lib.hid hL
  have XK := Lib.hid hk
  have XS : Hid ((B == B) = true) := Lib.hid (by simp)
  have q3 : (k == k) = true := by simp
  clear hB hL hk hv
  go_enter Tryd.func16, Tryd.ntmps16
  go_wp2_with (first
    | (go_at_call 25; go_must (refine (rising_any v _ HV.out).mono ?_); rintro e w1 hp; rw [← XB.out] at hp; obtain ⟨A1, c1, rfl, hS1, _, hb1⟩ := BytesPost2.at_ hp XL.out.symm XK.out.symm; have HB1 := Lib.hid (HB0.out.trans (hb1.mono HB0.out.size)); have HS1 := Lib.hid hS1; obtain ⟨hx1, hx2, hx3⟩ := HX.out _ hb1; clear hp hS1 hb1)
    | (go_at_call 26; go_must (refine (rRising_any v _ HV.out).mono ?_); rintro e w2 hp; rw [← XB.out] at hp; obtain ⟨A2, c2, rfl, hS2, _, hb2⟩ := BytesPost2.at_ hp XL.out.symm XK.out.symm; have HB2 := Lib.hid (HB1.out.trans (hb2.mono HB1.out.size)); have HS2 := Lib.hid hS2; have HR2 := Lib.hid (HS1.out.later hb2); clear hp hS2 hb2)
    | (go_at_call 13; go_must (refine (same_any B B A1 A2 L c1 L c2 _ HR2.out.rb HS2.out.rb).mono ?_); rw [XS.out]; rintro e wn ⟨rfl, rfl⟩)
    | (go_at_call 12; refine (num_any _ _).mono ?_; rintro e wn ⟨rfl, rfl⟩))
  go_ret
  exact ⟨rfl, HB2.out⟩

set_option maxRecDepth 100000 in
set_option maxHeartbeats 2000000 in
theorem numbers_5n (hN : N < 0) :
    Calls Tryd.prog 16 #[.agg #[.int .i64 5, .slice A n c, .int .i64 a, .int .i64 N, .int .u64 V, .slice PA pn pc]] w fun e w' => e = .returned (.bool true) ∧ Below w.heap.size w w' := by
  have HB0 := Lib.hid ((Below.refl w.heap.size w).alloc (Nat.le_refl _) (.cells #[.int .i64 5, .slice A n c, .int .i64 a, .int .i64 N, .int .u64 V, .slice PA pn pc] 32))
  have HX := box_cells w #[.int .i64 5, .slice A n c, .int .i64 a, .int .i64 N, .int .u64 V, .slice PA pn pc] 32 _ _ _ _ _ _ rfl
  have HV := Lib.hid hN
  obtain ⟨B, hB⟩ : ∃ B, B = ([] : List UInt8) := ⟨_, rfl⟩
  obtain ⟨L, hL⟩ : ∃ L, L = B.length := ⟨_, rfl⟩
  obtain ⟨k, hk⟩ : ∃ k : Int, k = 1 := ⟨_, rfl⟩
  have XB := Lib.hid hB
  have XL := Lib.hid hL
  have XK := Lib.hid hk
  have XS : Hid ((B == B) = true) := Lib.hid (by simp)
  have q3 : (k == k) = true := by simp
  clear hB hL hk hN
  go_enter Tryd.func16, Tryd.ntmps16
  go_wp2_with (first
    | (go_at_call 25; go_must (refine (rising_neg N _ HV.out).mono ?_); rintro e w1 hp; rw [← XB.out] at hp; obtain ⟨A1, c1, rfl, hS1, _, hb1⟩ := BytesPost2.at_ hp XL.out.symm XK.out.symm; have HB1 := Lib.hid (HB0.out.trans (hb1.mono HB0.out.size)); have HS1 := Lib.hid hS1; obtain ⟨hx1, hx2, hx3⟩ := HX.out _ hb1; clear hp hS1 hb1)
    | (go_at_call 26; go_must (refine (rRising_neg N _ HV.out).mono ?_); rintro e w2 hp; rw [← XB.out] at hp; obtain ⟨A2, c2, rfl, hS2, _, hb2⟩ := BytesPost2.at_ hp XL.out.symm XK.out.symm; have HB2 := Lib.hid (HB1.out.trans (hb2.mono HB1.out.size)); have HS2 := Lib.hid hS2; have HR2 := Lib.hid (HS1.out.later hb2); clear hp hS2 hb2)
    | (go_at_call 13; go_must (refine (same_any B B A1 A2 L c1 L c2 _ HR2.out.rb HS2.out.rb).mono ?_); rw [XS.out]; rintro e wn ⟨rfl, rfl⟩)
    | (go_at_call 12; refine (num_any _ _).mono ?_; rintro e wn ⟨rfl, rfl⟩))
  go_ret
  exact ⟨rfl, HB2.out⟩

set_option maxRecDepth 100000 in
set_option maxHeartbeats 2000000 in
theorem numbers_7p (hv : v < 9223372036854775808) :
    Calls Tryd.prog 16 #[.agg #[.int .i64 7, .slice A n c, .int .i64 a, .int .i64 v, .int .u64 V, .slice PA pn pc]] w fun e w' => e = .returned (.bool true) ∧ Below w.heap.size w w' := by
  have HB0 := Lib.hid ((Below.refl w.heap.size w).alloc (Nat.le_refl _) (.cells #[.int .i64 7, .slice A n c, .int .i64 a, .int .i64 v, .int .u64 V, .slice PA pn pc] 32))
  have HX := box_cells w #[.int .i64 7, .slice A n c, .int .i64 a, .int .i64 v, .int .u64 V, .slice PA pn pc] 32 _ _ _ _ _ _ rfl
  have HV := Lib.hid hv
  obtain ⟨B, hB⟩ : ∃ B, B = risB (9223372036854775807 - v) := ⟨_, rfl⟩
  obtain ⟨L, hL⟩ : ∃ L, L = B.length := ⟨_, rfl⟩
  obtain ⟨k, hk⟩ : ∃ k : Int, k = 0 := ⟨_, rfl⟩
  have XB := Lib.hid hB
  have XL := Lib.hid hL
  have XK := Lib.hid hk
  have XS : Hid ((B == B) = true) := Lib.hid (by simp)
  have q3 : (k == k) = true := by simp
  clear hB hL hk hv
  go_enter Tryd.func16, Tryd.ntmps16
  go_wp2_with (first
    | (go_at_call 29; go_must (refine (falling_any v _ HV.out).mono ?_); rintro e w1 hp; rw [← XB.out] at hp; obtain ⟨A1, c1, rfl, hS1, _, hb1⟩ := BytesPost2.at_ hp XL.out.symm XK.out.symm; have HB1 := Lib.hid (HB0.out.trans (hb1.mono HB0.out.size)); have HS1 := Lib.hid hS1; obtain ⟨hx1, hx2, hx3⟩ := HX.out _ hb1; clear hp hS1 hb1)
    | (go_at_call 30; go_must (refine (rFalling_any v _ HV.out).mono ?_); rintro e w2 hp; rw [← XB.out] at hp; obtain ⟨A2, c2, rfl, hS2, _, hb2⟩ := BytesPost2.at_ hp XL.out.symm XK.out.symm; have HB2 := Lib.hid (HB1.out.trans (hb2.mono HB1.out.size)); have HS2 := Lib.hid hS2; have HR2 := Lib.hid (HS1.out.later hb2); clear hp hS2 hb2)
    | (go_at_call 13; go_must (refine (same_any B B A1 A2 L c1 L c2 _ HR2.out.rb HS2.out.rb).mono ?_); rw [XS.out]; rintro e wn ⟨rfl, rfl⟩)
    | (go_at_call 12; refine (num_any _ _).mono ?_; rintro e wn ⟨rfl, rfl⟩))
  go_ret
  exact ⟨rfl, HB2.out⟩

set_option maxRecDepth 100000 in
set_option maxHeartbeats 2000000 in
theorem numbers_7n (hN : N < 0) :
    Calls Tryd.prog 16 #[.agg #[.int .i64 7, .slice A n c, .int .i64 a, .int .i64 N, .int .u64 V, .slice PA pn pc]] w fun e w' => e = .returned (.bool true) ∧ Below w.heap.size w w' := by
  have HB0 := Lib.hid ((Below.refl w.heap.size w).alloc (Nat.le_refl _) (.cells #[.int .i64 7, .slice A n c, .int .i64 a, .int .i64 N, .int .u64 V, .slice PA pn pc] 32))
  have HX := box_cells w #[.int .i64 7, .slice A n c, .int .i64 a, .int .i64 N, .int .u64 V, .slice PA pn pc] 32 _ _ _ _ _ _ rfl
  have HV := Lib.hid hN
  obtain ⟨B, hB⟩ : ∃ B, B = ([] : List UInt8) := ⟨_, rfl⟩
  obtain ⟨L, hL⟩ : ∃ L, L = B.length := ⟨_, rfl⟩
  obtain ⟨k, hk⟩ : ∃ k : Int, k = 1 := ⟨_, rfl⟩
  have XB := Lib.hid hB
  have XL := Lib.hid hL
  have XK := Lib.hid hk
  have XS : Hid ((B == B) = true) := Lib.hid (by simp)
  have q3 : (k == k) = true := by simp
  clear hB hL hk hN
  go_enter Tryd.func16, Tryd.ntmps16
  go_wp2_with (first
    | (go_at_call 29; go_must (refine (falling_neg N _ HV.out).mono ?_); rintro e w1 hp; rw [← XB.out] at hp; obtain ⟨A1, c1, rfl, hS1, _, hb1⟩ := BytesPost2.at_ hp XL.out.symm XK.out.symm; have HB1 := Lib.hid (HB0.out.trans (hb1.mono HB0.out.size)); have HS1 := Lib.hid hS1; obtain ⟨hx1, hx2, hx3⟩ := HX.out _ hb1; clear hp hS1 hb1)
    | (go_at_call 30; go_must (refine (rFalling_neg N _ HV.out).mono ?_); rintro e w2 hp; rw [← XB.out] at hp; obtain ⟨A2, c2, rfl, hS2, _, hb2⟩ := BytesPost2.at_ hp XL.out.symm XK.out.symm; have HB2 := Lib.hid (HB1.out.trans (hb2.mono HB1.out.size)); have HS2 := Lib.hid hS2; have HR2 := Lib.hid (HS1.out.later hb2); clear hp hS2 hb2)
    | (go_at_call 13; go_must (refine (same_any B B A1 A2 L c1 L c2 _ HR2.out.rb HS2.out.rb).mono ?_); rw [XS.out]; rintro e wn ⟨rfl, rfl⟩)
    | (go_at_call 12; refine (num_any _ _).mono ?_; rintro e wn ⟨rfl, rfl⟩))
  go_ret
  exact ⟨rfl, HB2.out⟩

set_option maxRecDepth 100000 in
set_option maxHeartbeats 2000000 in
theorem strings_3 (hs : Sl w A n c l) (hn : n ≤ 140737488355000) :
    Calls Tryd.prog 17 #[.agg #[.int .i64 3, .slice A n c, .int .i64 a, .int .i64 N, .int .u64 V, .slice PA pn pc]] w fun e w' => e = .returned (.bool true) ∧ Below w.heap.size w w' := by
  have HB0 := Lib.hid ((Below.refl w.heap.size w).alloc (Nat.le_refl _) (.cells #[.int .i64 3, .slice A n c, .int .i64 a, .int .i64 N, .int .u64 V, .slice PA pn pc] 32))
  have HX := box_cells w #[.int .i64 3, .slice A n c, .int .i64 a, .int .i64 N, .int .u64 V, .slice PA pn pc] 32 _ _ _ _ _ _ rfl
  have HS : Hid (∀ w', Below w.heap.size w w' → Sl w' A n c l) := Lib.hid fun w' h => hs.later h
  obtain ⟨B, hB⟩ : ∃ B, B = uintB l.length ++ l := ⟨_, rfl⟩
  obtain ⟨L, hL⟩ : ∃ L, L = B.length := ⟨_, rfl⟩
  have XB := Lib.hid hB
  have XL := Lib.hid hL
  have XS : Hid ((B == B) = true) := Lib.hid (by simp)
  have HCE : (w.alloc (.cells #[.int .i64 3, .slice A n c, .int .i64 a, .int .i64 N, .int .u64 V, .slice PA pn pc] 32)).cell? ⟨w.heap.size, 1, none⟩ = some (.slice A n c) := by simp
  clear hB hL HX hs
  go_enter Tryd.func17, Tryd.ntmps17
  go_wp2
  generalize hwb : w.alloc _ = wb at *
  obtain ⟨g, hg⟩ : ∃ g, g = w.heap.size := ⟨_, rfl⟩
  rw [← hg] at HCE ⊢
  have HG := Lib.hid hg
  have HWB := Lib.hid hwb
  clear hg hwb
  go_region_held3 (fun w' => w'.cell? ⟨g, 1, none⟩ = some (.slice A n c) ∧ Below wb.heap.size wb w') (first | assumption | exact ⟨HCE, (Below.refl _ _).drew⟩ | exact keep_below ‹_› hb1 | exact keep_below ‹_› hb2) (first
    | (go_at_call 33; refine (bytes_any l A n c _ (by omega) (HS.out _ (HB0.out.trans (Below.mono (And.right ‹_ ∧ Below wb.heap.size wb _›) HB0.out.size))).rb).mono ?_; rintro e w1 hp; rw [← XB.out] at hp; obtain ⟨A1, c1, rfl, hS1, _, hb1⟩ := BytesPost.at_ hp XL.out.symm)
    | (go_at_call 34; refine (rBytes_any l A n c _ (by omega) (HS.out _ (HB0.out.trans (Below.mono (And.right ‹_ ∧ Below wb.heap.size wb _›) HB0.out.size))).rb).mono ?_; rintro e w2 hp; rw [← XB.out] at hp; obtain ⟨A2, c2, rfl, hS2, _, hb2⟩ := BytesPost.at_ hp XL.out.symm)
    | (go_at_call 13; refine (same_any B B A1 A2 L c1 L c2 _ (by first | exact hS1.rb | exact (hS1.later hb2).rb) (by first | exact hS2.rb | exact (hS2.later hb1).rb)).mono ?_; rw [XS.out]; rintro e wn ⟨rfl, rfl⟩))
  all_goals
    go_wp2
    go_ret
    refine ⟨rfl, HB0.out.trans (Below.mono (And.right ‹_ ∧ Below wb.heap.size wb _›) HB0.out.size)⟩

set_option maxRecDepth 100000 in
set_option maxHeartbeats 2000000 in
theorem strings_9 (hs : Sl w A n c l) (hn : n ≤ 70368744177000) :
    Calls Tryd.prog 17 #[.agg #[.int .i64 9, .slice A n c, .int .i64 a, .int .i64 N, .int .u64 V, .slice PA pn pc]] w fun e w' => e = .returned (.bool true) ∧ Below w.heap.size w w' := by
  have HB0 := Lib.hid ((Below.refl w.heap.size w).alloc (Nat.le_refl _) (.cells #[.int .i64 9, .slice A n c, .int .i64 a, .int .i64 N, .int .u64 V, .slice PA pn pc] 32))
  have HX := box_cells w #[.int .i64 9, .slice A n c, .int .i64 a, .int .i64 N, .int .u64 V, .slice PA pn pc] 32 _ _ _ _ _ _ rfl
  have HS : Hid (∀ w', Below w.heap.size w w' → Sl w' A n c l) := Lib.hid fun w' h => hs.later h
  obtain ⟨B, hB⟩ : ∃ B, B = ordB l := ⟨_, rfl⟩
  obtain ⟨L, hL⟩ : ∃ L, L = B.length := ⟨_, rfl⟩
  have XB := Lib.hid hB
  have XL := Lib.hid hL
  have XS : Hid ((B == B) = true) := Lib.hid (by simp)
  have HCE : (w.alloc (.cells #[.int .i64 9, .slice A n c, .int .i64 a, .int .i64 N, .int .u64 V, .slice PA pn pc] 32)).cell? ⟨w.heap.size, 1, none⟩ = some (.slice A n c) := by simp
  clear hB hL HX hs
  go_enter Tryd.func17, Tryd.ntmps17
  go_wp2
  generalize hwb : w.alloc _ = wb at *
  obtain ⟨g, hg⟩ : ∃ g, g = w.heap.size := ⟨_, rfl⟩
  rw [← hg] at HCE ⊢
  have HG := Lib.hid hg
  have HWB := Lib.hid hwb
  clear hg hwb
  go_region_held3 (fun w' => w'.cell? ⟨g, 1, none⟩ = some (.slice A n c) ∧ Below wb.heap.size wb w') (first | assumption | exact ⟨HCE, (Below.refl _ _).drew⟩ | exact keep_below ‹_› hb1 | exact keep_below ‹_› hb2) (first
    | (go_at_call 37; refine (ordered_any l A n c _ (by omega) (HS.out _ (HB0.out.trans (Below.mono (And.right ‹_ ∧ Below wb.heap.size wb _›) HB0.out.size))).rb).mono ?_; rintro e w1 hp; rw [← XB.out] at hp; obtain ⟨A1, c1, rfl, hS1, _, hb1⟩ := BytesPost.at_ hp XL.out.symm)
    | (go_at_call 38; refine (rOrdered_any l A n c _ (by omega) (HS.out _ (HB0.out.trans (Below.mono (And.right ‹_ ∧ Below wb.heap.size wb _›) HB0.out.size))).rb).mono ?_; rintro e w2 hp; rw [← XB.out] at hp; obtain ⟨A2, c2, rfl, hS2, _, hb2⟩ := BytesPost.at_ hp XL.out.symm)
    | (go_at_call 13; refine (same_any B B A1 A2 L c1 L c2 _ (by first | exact hS1.rb | exact (hS1.later hb2).rb) (by first | exact hS2.rb | exact (hS2.later hb1).rb)).mono ?_; rw [XS.out]; rintro e wn ⟨rfl, rfl⟩))
  all_goals
    go_wp2
    go_ret
    refine ⟨rfl, HB0.out.trans (Below.mono (And.right ‹_ ∧ Below wb.heap.size wb _›) HB0.out.size)⟩

set_option maxRecDepth 100000 in
set_option maxHeartbeats 2000000 in
theorem strings_4 (hs : Sl w A n c l) (hn : n ≤ 140737488355000) (hN : -9223372036854775808 ≤ N ∧ N < 9223372036854775808) :
    Calls Tryd.prog 17 #[.agg #[.int .i64 4, .slice A n c, .int .i64 a, .int .i64 N, .int .u64 V, .slice PA pn pc]] w fun e w' => e = .returned (.bool true) ∧ Below w.heap.size w w' := by
  have HB0 := Lib.hid ((Below.refl w.heap.size w).alloc (Nat.le_refl _) (.cells #[.int .i64 4, .slice A n c, .int .i64 a, .int .i64 N, .int .u64 V, .slice PA pn pc] 32))
  have HX := box_cells w #[.int .i64 4, .slice A n c, .int .i64 a, .int .i64 N, .int .u64 V, .slice PA pn pc] 32 _ _ _ _ _ _ rfl
  have HS : Hid (∀ w', Below w.heap.size w w' → Sl w' A n c l) := Lib.hid fun w' h => hs.later h
  obtain ⟨B, hB⟩ : ∃ B, B = (readBy l a N).1 := ⟨_, rfl⟩
  obtain ⟨L, hL⟩ : ∃ L, L = B.length := ⟨_, rfl⟩
  obtain ⟨p, hp⟩ : ∃ p, p = (readBy l a N).2.1 := ⟨_, rfl⟩
  obtain ⟨k, hk⟩ : ∃ k, k = (readBy l a N).2.2 := ⟨_, rfl⟩
  have XB := Lib.hid hB
  have XL := Lib.hid hL
  have XP := Lib.hid hp
  have XK := Lib.hid hk
  have XS : Hid ((B == B) = true) := Lib.hid (by simp)
  have q2 : ((p : Int) == (p : Int)) = true := by simp
  have q3 : ((k : Int) == (k : Int)) = true := by simp
  clear hB hL hp hk hs 
  go_enter Tryd.func17, Tryd.ntmps17
  go_wp2_with (first
    | (go_at_call 35; go_must (refine (rby_any l A n c a N _ (HS.out _ HB0.out) (by omega) hN).mono ?_); rintro e w1 hp; rw [← XB.out, ← XP.out, ← XK.out] at hp; obtain ⟨A1, c1, rfl, hS1, _, hb1⟩ := BytesPost3.at_ hp XL.out.symm rfl rfl; have HB1 := Lib.hid (HB0.out.trans (hb1.mono HB0.out.size)); have HS1 := Lib.hid hS1; obtain ⟨hx1, hx2, hx3⟩ := HX.out _ hb1; clear hp hS1 hb1)
    | (go_at_call 36; go_must (refine (rRby_any l A n c a N _ (HS.out _ HB1.out) (by omega) hN).mono ?_); rintro e w2 hp; rw [← XB.out, ← XP.out, ← XK.out] at hp; obtain ⟨A2, c2, rfl, hS2, _, hb2⟩ := BytesPost3.at_ hp XL.out.symm rfl rfl; have HB2 := Lib.hid (HB1.out.trans (hb2.mono HB1.out.size)); have HS2 := Lib.hid hS2; have HR2 := Lib.hid (HS1.out.later hb2); clear hp hS2 hb2)
    | (go_at_call 13; go_must (refine (same_any B B A1 A2 L c1 L c2 _ HR2.out.rb HS2.out.rb).mono ?_); rw [XS.out]; rintro e wn ⟨rfl, rfl⟩)
    | (go_at_call 12; refine (num_any _ _).mono ?_; rintro e wn ⟨rfl, rfl⟩))
  go_ret
  exact ⟨rfl, HB2.out⟩

set_option maxRecDepth 100000 in
set_option maxHeartbeats 2000000 in
theorem strings_10 (hs : Sl w A n c l) (hn : n ≤ 140737488355000) :
    Calls Tryd.prog 17 #[.agg #[.int .i64 10, .slice A n c, .int .i64 a, .int .i64 N, .int .u64 V, .slice PA pn pc]] w fun e w' => e = .returned (.bool true) ∧ Below w.heap.size w w' := by
  have HB0 := Lib.hid ((Below.refl w.heap.size w).alloc (Nat.le_refl _) (.cells #[.int .i64 10, .slice A n c, .int .i64 a, .int .i64 N, .int .u64 V, .slice PA pn pc] 32))
  have HX := box_cells w #[.int .i64 10, .slice A n c, .int .i64 a, .int .i64 N, .int .u64 V, .slice PA pn pc] 32 _ _ _ _ _ _ rfl
  have HS : Hid (∀ w', Below w.heap.size w w' → Sl w' A n c l) := Lib.hid fun w' h => hs.later h
  obtain ⟨B, hB⟩ : ∃ B, B = (readO l a).1 := ⟨_, rfl⟩
  obtain ⟨L, hL⟩ : ∃ L, L = B.length := ⟨_, rfl⟩
  obtain ⟨p, hp⟩ : ∃ p, p = (readO l a).2.1 := ⟨_, rfl⟩
  obtain ⟨k, hk⟩ : ∃ k, k = (readO l a).2.2 := ⟨_, rfl⟩
  have XB := Lib.hid hB
  have XL := Lib.hid hL
  have XP := Lib.hid hp
  have XK := Lib.hid hk
  have XS : Hid ((B == B) = true) := Lib.hid (by simp)
  have q2 : ((p : Int) == (p : Int)) = true := by simp
  have q3 : ((k : Int) == (k : Int)) = true := by simp
  clear hB hL hp hk hs 
  go_enter Tryd.func17, Tryd.ntmps17
  go_wp2_with (first
    | (go_at_call 39; go_must (refine (ro_any l A n c a _ (HS.out _ HB0.out) (by omega)).mono ?_); rintro e w1 hp; rw [← XB.out, ← XP.out, ← XK.out] at hp; obtain ⟨A1, c1, rfl, hS1, _, hb1⟩ := BytesPost3.at_ hp XL.out.symm rfl rfl; have HB1 := Lib.hid (HB0.out.trans (hb1.mono HB0.out.size)); have HS1 := Lib.hid hS1; obtain ⟨hx1, hx2, hx3⟩ := HX.out _ hb1; clear hp hS1 hb1)
    | (go_at_call 40; go_must (refine (rRo_any l A n c a _ (HS.out _ HB1.out) (by omega)).mono ?_); rintro e w2 hp; rw [← XB.out, ← XP.out, ← XK.out] at hp; obtain ⟨A2, c2, rfl, hS2, _, hb2⟩ := BytesPost3.at_ hp XL.out.symm rfl rfl; have HB2 := Lib.hid (HB1.out.trans (hb2.mono HB1.out.size)); have HS2 := Lib.hid hS2; have HR2 := Lib.hid (HS1.out.later hb2); clear hp hS2 hb2)
    | (go_at_call 13; go_must (refine (same_any B B A1 A2 L c1 L c2 _ HR2.out.rb HS2.out.rb).mono ?_); rw [XS.out]; rintro e wn ⟨rfl, rfl⟩)
    | (go_at_call 12; refine (num_any _ _).mono ?_; rintro e wn ⟨rfl, rfl⟩))
  go_ret
  exact ⟨rfl, HB2.out⟩

set_option maxRecDepth 100000 in
set_option maxHeartbeats 2000000 in
theorem strings_13 (hs : Sl w A n c l) (hn : n ≤ 140737488355000) (ht : TabAt 0 w) :
    Calls Tryd.prog 17 #[.agg #[.int .i64 13, .slice A n c, .int .i64 a, .int .i64 N, .int .u64 V, .slice PA pn pc]] w fun e w' => e = .returned (.bool true) ∧ Below w.heap.size w w' := by
  have HB0 := Lib.hid ((Below.refl w.heap.size w).alloc (Nat.le_refl _) (.cells #[.int .i64 13, .slice A n c, .int .i64 a, .int .i64 N, .int .u64 V, .slice PA pn pc] 32))
  have HX := box_cells w #[.int .i64 13, .slice A n c, .int .i64 a, .int .i64 N, .int .u64 V, .slice PA pn pc] 32 _ _ _ _ _ _ rfl
  have HS : Hid (∀ w', Below w.heap.size w w' → Sl w' A n c l) := Lib.hid fun w' h => hs.later h
  have HT : Hid (∀ w', Below w.heap.size w w' → TabAt 0 w') := Lib.hid fun w' h => ht.later h
  obtain ⟨B, hB⟩ : ∃ B, B = (readFA l a).1 := ⟨_, rfl⟩
  obtain ⟨L, hL⟩ : ∃ L, L = B.length := ⟨_, rfl⟩
  obtain ⟨p, hp⟩ : ∃ p, p = (readFA l a).2.1 := ⟨_, rfl⟩
  obtain ⟨k, hk⟩ : ∃ k, k = (readFA l a).2.2 := ⟨_, rfl⟩
  have XB := Lib.hid hB
  have XL := Lib.hid hL
  have XP := Lib.hid hp
  have XK := Lib.hid hk
  have XS : Hid ((B == B) = true) := Lib.hid (by simp)
  have q2 : ((p : Int) == (p : Int)) = true := by simp
  have q3 : ((k : Int) == (k : Int)) = true := by simp
  clear hB hL hp hk hs ht
  go_enter Tryd.func17, Tryd.ntmps17
  go_wp2_with (first
    | (go_at_call 11; go_must (refine (rframe_any l A n c a _ (by omega) (HS.out _ HB0.out).cap (HS.out _ HB0.out).lim (HS.out _ HB0.out).nil (HS.out _ HB0.out).rb (HT.out _ HB0.out)).mono ?_); rintro e w1 hp; rw [← XB.out, ← XP.out, ← XK.out] at hp; obtain ⟨A1, c1, rfl, hS1, _, hb1⟩ := BytesPost3.at_ hp XL.out.symm rfl rfl; have HB1 := Lib.hid (HB0.out.trans (hb1.mono HB0.out.size)); have HS1 := Lib.hid hS1; obtain ⟨hx1, hx2, hx3⟩ := HX.out _ hb1; clear hp hS1 hb1)
    | (go_at_call 43; go_must (refine (rRframe_any l A n c a _ (HS.out _ HB1.out) (by omega)).mono ?_); rintro e w2 hp; rw [← XB.out, ← XP.out, ← XK.out] at hp; obtain ⟨A2, c2, rfl, hS2, _, hb2⟩ := BytesPost3.at_ hp XL.out.symm rfl rfl; have HB2 := Lib.hid (HB1.out.trans (hb2.mono HB1.out.size)); have HS2 := Lib.hid hS2; have HR2 := Lib.hid (HS1.out.later hb2); clear hp hS2 hb2)
    | (go_at_call 13; go_must (refine (same_any B B A1 A2 L c1 L c2 _ HR2.out.rb HS2.out.rb).mono ?_); rw [XS.out]; rintro e wn ⟨rfl, rfl⟩)
    | (go_at_call 12; refine (num_any _ _).mono ?_; rintro e wn ⟨rfl, rfl⟩))
  go_ret
  exact ⟨rfl, HB2.out⟩

set_option maxRecDepth 100000 in
set_option maxHeartbeats 2000000 in
theorem strings_12 (hs : Sl w A n c l) (hn : n ≤ 140737488355000) (ht : TabAt 0 w) :
    Calls Tryd.prog 17 #[.agg #[.int .i64 12, .slice A n c, .int .i64 a, .int .i64 N, .int .u64 V, .slice PA pn pc]] w fun e w' => e = .returned (.bool true) ∧ Below w.heap.size w w' := by
  have HB0 := Lib.hid ((Below.refl w.heap.size w).alloc (Nat.le_refl _) (.cells #[.int .i64 12, .slice A n c, .int .i64 a, .int .i64 N, .int .u64 V, .slice PA pn pc] 32))
  have HX := box_cells w #[.int .i64 12, .slice A n c, .int .i64 a, .int .i64 N, .int .u64 V, .slice PA pn pc] 32 _ _ _ _ _ _ rfl
  have HS : Hid (∀ w', Below w.heap.size w w' → Sl w' A n c l) := Lib.hid fun w' h => hs.later h
  have HT : Hid (∀ w', Below w.heap.size w w' → TabAt 0 w') := Lib.hid fun w' h => ht.later h
  obtain ⟨B, hB⟩ : ∃ B, B = frameR l := ⟨_, rfl⟩
  obtain ⟨L, hL⟩ : ∃ L, L = B.length := ⟨_, rfl⟩
  obtain ⟨k, hk⟩ : ∃ k : Int, k = frameE l := ⟨_, rfl⟩
  have XB := Lib.hid hB
  have XL := Lib.hid hL
  have XK := Lib.hid hk
  have XS : Hid ((B == B) = true) := Lib.hid (by simp)
  have q3 : (k == k) = true := by simp
  clear hB hL hk hs ht
  go_enter Tryd.func17, Tryd.ntmps17
  go_wp2_with (first
    | (go_at_call 10; go_must (refine (frame_any l A n c _ (by omega) (HS.out _ HB0.out).cap (HS.out _ HB0.out).lim (HS.out _ HB0.out).nil (HS.out _ HB0.out).rb (HT.out _ HB0.out)).mono ?_); rintro e w1 hp; rw [← XB.out] at hp; obtain ⟨A1, c1, rfl, hS1, _, hb1⟩ := BytesPost2.at_ hp XL.out.symm XK.out.symm; have HB1 := Lib.hid (HB0.out.trans (hb1.mono HB0.out.size)); have HS1 := Lib.hid hS1; obtain ⟨hx1, hx2, hx3⟩ := HX.out _ hb1; clear hp hS1 hb1)
    | (go_at_call 42; go_must (refine (rFrame_any l A n c _ (HS.out _ HB1.out)).mono ?_); rintro e w2 hp; rw [← XB.out] at hp; obtain ⟨A2, c2, rfl, hS2, _, hb2⟩ := BytesPost2.at_ hp XL.out.symm XK.out.symm; have HB2 := Lib.hid (HB1.out.trans (hb2.mono HB1.out.size)); have HS2 := Lib.hid hS2; have HR2 := Lib.hid (HS1.out.later hb2); clear hp hS2 hb2)
    | (go_at_call 13; go_must (refine (same_any B B A1 A2 L c1 L c2 _ HR2.out.rb HS2.out.rb).mono ?_); rw [XS.out]; rintro e wn ⟨rfl, rfl⟩)
    | (go_at_call 12; refine (num_any _ _).mono ?_; rintro e wn ⟨rfl, rfl⟩))
  go_ret
  exact ⟨rfl, HB2.out⟩

set_option maxRecDepth 100000 in
set_option maxHeartbeats 2000000 in
theorem strings_11 (hp : RBs w w.heap.size PA pn ps) (hn : pn ≤ 9223372036854775807) (ht : TabAt 0 w) :
    Calls Tryd.prog 17 #[.agg #[.int .i64 11, .slice A n c, .int .i64 a, .int .i64 N, .int .u64 V, .slice PA pn pc]] w fun e w' => e = .returned (.bool true) ∧ Below w.heap.size w w' := by
  have HB0 := Lib.hid ((Below.refl w.heap.size w).alloc (Nat.le_refl _) (.cells #[.int .i64 11, .slice A n c, .int .i64 a, .int .i64 N, .int .u64 V, .slice PA pn pc] 32))
  have HX := box_cells w #[.int .i64 11, .slice A n c, .int .i64 a, .int .i64 N, .int .u64 V, .slice PA pn pc] 32 _ _ _ _ _ _ rfl
  have HP := Lib.hid ((hp.below HB0.out).more HB0.out.size)
  have HT := Lib.hid (ht.later HB0.out)
  obtain ⟨S, hS⟩ : ∃ S, S = sumL ps.flatten := ⟨_, rfl⟩
  have XS := Lib.hid hS
  have q1 : ((S : Int) == (S : Int)) = true := by simp
  have HC1 : ∀ nq, Calls Tryd.prog 20 #[.slice PA pn pc] ((w.alloc (.cells #[.int .i64 11, .slice A n c, .int .i64 a, .int .i64 N, .int .u64 V, .slice PA pn pc] 32)).drewN nq) fun e w' => e = .returned (.int .u32 S) ∧ (w.alloc (.cells #[.int .i64 11, .slice A n c, .int .i64 a, .int .i64 N, .int .u64 V, .slice PA pn pc] 32)).drewN nq = w' := fun nq => by
    rw [XS.out]; exact sum_any ps PA pn pc _ hn HP.out HT.out
  have HC2 : ∀ nq, Calls Tryd.prog 41 #[.slice PA pn pc] ((w.alloc (.cells #[.int .i64 11, .slice A n c, .int .i64 a, .int .i64 N, .int .u64 V, .slice PA pn pc] 32)).drewN nq) fun e w' => e = .returned (.int .u32 S) ∧ (w.alloc (.cells #[.int .i64 11, .slice A n c, .int .i64 a, .int .i64 N, .int .u64 V, .slice PA pn pc] 32)).drewN nq = w' := fun nq => by
    rw [XS.out]; exact rSum_any ps PA pn pc _ hn HP.out
  have D1 := Lib.hid HC1
  have D2 := Lib.hid HC2
  clear hp ht hS HC1 HC2
  go_enter Tryd.func17, Tryd.ntmps17
  go_wp2
  go_quiet (first
    | (go_at_call 20; refine Calls.quiet_of_same (Calls.mono (D1.out _) fun _ _ h => ⟨h.1, h.2.symm⟩))
    | (go_at_call 41; refine Calls.quiet_of_same (Calls.mono (D2.out _) fun _ _ h => ⟨h.1, h.2.symm⟩)))
  go_wp2
  go_ret
  exact ⟨rfl, below_drewN HB0.out⟩

end
theorem numbers_all (K : Int) (hK : K = 1 ∨ K = 2 ∨ K = 5 ∨ K = 6 ∨ K = 7 ∨ K = 8) (l : List UInt8) (A PA : Option Addr) (n c pn pc : Nat) (a N V : Int) (w : World) (hs : Sl w A n c l) (hn : n ≤ 140737488355000) (hV : 0 ≤ V ∧ V < 18446744073709551616) (hN : -9223372036854775808 ≤ N ∧ N < 9223372036854775808) :
    Calls Tryd.prog 16 #[.agg #[.int .i64 K, .slice A n c, .int .i64 a, .int .i64 N, .int .u64 V, .slice PA pn pc]] w fun e w' => e = .returned (.bool true) ∧ Below w.heap.size w w' := by
  rcases hK with rfl | rfl | rfl | rfl | rfl | rfl
  · obtain ⟨v, rfl⟩ : ∃ v : Nat, V = (v : Int) := ⟨V.toNat, by omega⟩
    exact numbers_1 A PA n c pn pc v a N w (by omega)
  · exact numbers_2 l A PA n c pn pc a N V w hs hn
  · by_cases h : N < 0
    · exact numbers_5n A PA n c pn pc a N V w h
    · obtain ⟨v, rfl⟩ : ∃ v : Nat, N = (v : Int) := ⟨N.toNat, by omega⟩
      exact numbers_5p A PA n c pn pc v a V w (by omega)
  · exact numbers_6 l A PA n c pn pc a N V w hs hn
  · by_cases h : N < 0
    · exact numbers_7n A PA n c pn pc a N V w h
    · obtain ⟨v, rfl⟩ : ∃ v : Nat, N = (v : Int) := ⟨N.toNat, by omega⟩
      exact numbers_7p A PA n c pn pc v a V w (by omega)
  · exact numbers_8 l A PA n c pn pc a N V w hs hn
theorem strings_all (K : Int) (hK : K = 3 ∨ K = 4 ∨ K = 9 ∨ K = 10 ∨ K = 11 ∨ K = 12 ∨ K = 13) (l : List UInt8) (ps : List (List UInt8)) (A PA : Option Addr) (n c pn pc : Nat) (a N V : Int) (w : World) (hs : Sl w A n c l) (hp : RBs w w.heap.size PA pn ps) (hn : n ≤ 70368744177000) (hpn : pn ≤ 9223372036854775807)
    (hN : -9223372036854775808 ≤ N ∧ N < 9223372036854775808) (ht : TabAt 0 w) :
    Calls Tryd.prog 17 #[.agg #[.int .i64 K, .slice A n c, .int .i64 a, .int .i64 N, .int .u64 V, .slice PA pn pc]] w fun e w' => e = .returned (.bool true) ∧ Below w.heap.size w w' := by
  rcases hK with rfl | rfl | rfl | rfl | rfl | rfl | rfl
  · exact strings_3 l A PA n c pn pc a N V w hs (by omega)
  · exact strings_4 l A PA n c pn pc a N V w hs (by omega) hN
  · exact strings_9 l A PA n c pn pc a N V w hs hn
  · exact strings_10 l A PA n c pn pc a N V w hs (by omega)
  · exact strings_11 ps A PA n c pn pc a N V w hp hpn ht
  · exact strings_12 l A PA n c pn pc a N V w hs (by omega) ht
  · exact strings_13 l A PA n c pn pc a N V w hs (by omega) ht
end Go.Proofs.YtbcljgcilbfblaaDoor
