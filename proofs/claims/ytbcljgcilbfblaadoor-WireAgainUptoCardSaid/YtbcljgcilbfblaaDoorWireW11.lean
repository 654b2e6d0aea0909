/-
  wire.Rising, wire.Falling, walked.
-/
import Derived.Test.YtbcljgcilbfblaaDoorWireW10
import Derived.Laws.OwnMore
namespace Go.Proofs.YtbcljgcilbfblaaDoor
open Go.RowKit

theorem made_zeros (L : Nat) : (madeCells (Value.int IntKind.u8 0).cells L).toList = u8s (List.replicate L 0) := by
  have e : (Value.int IntKind.u8 0).cells = #[.int .u8 0] := rfl
  rw [e]
  apply List.ext_getElem?
  intro i
  simp only [madeCells, u8s, u8v, List.map_replicate, List.getElem?_replicate, Array.toList_map, Array.toList_range, List.getElem?_map, List.size_toArray, List.length_cons, List.length_nil, Nat.zero_add, Nat.mod_one]
  by_cases h : i < L
  · rw [if_pos h, List.getElem?_range h]; rfl
  · rw [if_neg h, List.getElem?_eq_none (by simpa using h)]; rfl
theorem rTo_zero (v : Nat) : rTo v 0 = List.replicate 8 0 := by simp [rTo, List.range_succ]
theorem u8s_set' (l : List UInt8) (k : Nat) (x : UInt8) : (u8s l).set k (u8v x) = u8s (l.set k x) := by
  unfold u8s
  rw [List.map_set]

set_option maxRecDepth 100000 in
theorem rising_neg (z : Int) (w : World) (hz : z < 0) : Calls Tryd.prog 25 #[.int .i64 z] w (BytesPost2 5 [] 1 w) := by
  have hd : decide (z < 0) = true := decide_eq_true hz
  go_enter Tryd.func25, Tryd.ntmps25
  go_wp2
  go_ret2
  exact bytes_none2 (Below.refl _ _)
set_option maxRecDepth 100000 in
theorem falling_neg (z : Int) (w : World) (hz : z < 0) : Calls Tryd.prog 29 #[.int .i64 z] w (BytesPost2 5 [] 1 w) := by
  have hd : decide (z < 0) = true := decide_eq_true hz
  go_enter Tryd.func29, Tryd.ntmps29
  go_wp2
  go_ret2
  exact bytes_none2 (Below.refl _ _)

set_option maxRecDepth 100000 in
set_option maxHeartbeats 1000000 in
theorem rising_any (v : Nat) (w : World) (hv : v < 9223372036854775808) : Calls Tryd.prog 25 #[.int .i64 v] w (BytesPost2 5 (risB v) 0 w) := by
  have hd : decide ((v : Int) < 0) = false := decide_eq_false (by omega)
  go_enter Tryd.func25, Tryd.ntmps25
  go_wp2_with (at_make; go_must (refine wpList_make_full _ rfl (.const (.int .i64 8)) (.const (.int .i64 8)) 25 rfl w.heap.size 5 Tryd.t5 (.int .u8 0) 1 Tryd.underlying25 (by kernel_rfl) rfl rfl .i64 .i64 _ _ 8 rfl rfl rfl rfl (by decide) (by decide) (Nat.le_refl _) ?_); intro w1 hown1 hg1)
  have HB1 := Lib.hid (below_grown_none hg1)
  have HO1 : Hid (OwnB 5 w.heap.size w1 (some ⟨w.heap.size, 0, none⟩) 8 (rTo v 0)) := Lib.hid (by
    unfold OwnB
    rw [rTo_len, rTo_zero, ← made_zeros 8]
    exact hown1)
  clear hown1 hg1
  obtain ⟨g, hg⟩ : ∃ g, g = w.heap.size := ⟨_, rfl⟩
  have HG := Lib.hid hg
  rw [← hg] at HO1 ⊢
  clear hg
  go_loopw [0, 5] (fun x i wr => ∃ (j : Nat) (X : Nat) (I : Int), j ≤ 8 ∧ Hid (X = v / 256 ^ j) ∧ X < 9223372036854775808 ∧ x = .int .i64 X ∧ I = 7 - (j : Int) ∧ i = .int .i64 I ∧ Hid (OwnB 5 g wr (some ⟨g, 0, none⟩) 8 (rTo v j)) ∧ Hid (Below w.heap.size w wr)) (fun _ i _ => (intOf i + 1).toNat)
  case atStart => exact ⟨0, v, 7, by omega, Lib.hid (by simp), hv, rfl, rfl, rfl, HO1, HB1⟩
  case round =>
    clear HO1 HB1
    obtain ⟨j, X, I, hj, HX, hXl, rfl, hI, rfl, HO, HB⟩ := hrel
    by_cases hlt : j < 8
    case neg =>
      obtain rfl : j = 8 := by omega
      have hd2 : decide ((0 : Int) ≤ I) = false := decide_eq_false (by omega)
      clear hI
      have HP : Hid (BytesPost2 5 (risB v) 0 w (.returned (.tuple #[.slice (some ⟨g, 0, none⟩) 8 8, .int .i64 0])) wr) := Lib.hid (by
        have h := HO.out
        unfold OwnB at h
        rw [rTo_len] at h
        rw [HG.out] at h ⊢
        exact bytes_post2 (n := 8) h HB.out)
      go_wp2
      go_ret2
      exact HP.out
    obtain ⟨D, rfl⟩ : ∃ D : Nat, I = (D : Int) := ⟨I.toNat, by omega⟩
    have hD : D = 7 - j := by omega
    have hDl : D < 8 := by omega
    have HD := Lib.hid hD
    clear hI hD
    obtain ⟨x, hx⟩ : ∃ x, (rTo v j)[D]? = some x := ⟨_, List.getElem?_eq_getElem (by rw [rTo_len]; exact hDl)⟩
    have hcx : wr.cell? ⟨g, D, none⟩ = some (.int .u8 (x.toNat : Int)) := (World.ownsRow.cellAt HO.out D (by rw [rTo_len]; omega)).trans (u8s_at hx)
    have hfr : wr.frozen? ⟨g, D, none⟩ = false := World.ownsRow.frozenAt HO.out _
    have hst := World.ownsRow.stored HO.out D (u8v (UInt8.ofNat X))
    rw [u8s_set', HX.out, HD.out, ← rTo_succ v j hlt, ← HX.out, ← HD.out, u8v_mod] at hst
    have HST := Lib.hid hst
    clear hst hx
    go_wp2
    have HB2 := Lib.hid (HB.out.grown HST.out.2 HB.out.size (fun b e => by injection e with e; rw [← e, HG.out]; exact Nat.le_refl _))
    have HO2 := Lib.hid (show OwnB 5 g _ (some ⟨g, 0, none⟩) 8 (rTo v (j + 1)) from by
      have := HST.out.1
      unfold OwnB
      rw [rTo_len] at this ⊢
      exact this)
    have HX2 : Hid (X / 256 = v / 256 ^ (j + 1)) := Lib.hid (by rw [HX.out, Nat.pow_succ, Nat.div_div_eq_div_mul])
    go_roundw
    case rel => exact ⟨j + 1, X / 256, (D : Int) - 1, by omega, HX2, by omega, rfl, by have := HD.out; omega, rfl, HO2, HB2⟩
    case measure => simp [intOf]

set_option maxRecDepth 100000 in
theorem falling_any (v : Nat) (w : World) (hv : v < 9223372036854775808) : Calls Tryd.prog 29 #[.int .i64 v] w (BytesPost2 5 (risB (9223372036854775807 - v)) 0 w) := by
  have hd : decide ((v : Int) < 0) = false := decide_eq_false (by omega)
  have HC : Hid (∀ z : Int, z = 9223372036854775807 - (v : Int) → ∀ w, Calls Tryd.prog 25 #[.int .i64 z] w (BytesPost2 5 (risB (9223372036854775807 - v)) 0 w)) := Lib.hid fun z hz w => by
    rw [show z = ((9223372036854775807 - v : Nat) : Int) from by omega]
    exact rising_any _ w (by omega)
  have k1 : IntKind.i64.wrap (9223372036854775807 - (v : Int)) = 9223372036854775807 - (v : Int) := i64_sum (by omega) (by omega)
  go_enter Tryd.func29, Tryd.ntmps29
  go_wp2_with (go_at_call 25; go_must (refine (HC.out _ (by omega) _).mono ?_); rintro e w1 ⟨A1, c1, rfl, hO1, hb1⟩)
  go_ret2
  exact ⟨A1, c1, rfl, hO1, hb1⟩
end Go.Proofs.YtbcljgcilbfblaaDoor
