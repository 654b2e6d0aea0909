/-
  wire.Frame, walked.
-/
import Derived.Test.YtbcljgcilbfblaaDoorWireW2
namespace Go.Proofs.YtbcljgcilbfblaaDoor
open Go.RowKit

set_option maxRecDepth 100000 in
set_option maxHeartbeats 2000000 in
theorem frame_any (l : List UInt8) (A : Option Addr) (n c : Nat) (w : World) (hn : n ≤ 9223372036854775807) (hnc : n ≤ c) (hc : c ≤ 9223372036854775807) (hA : A = none → c = 0) (hr : RB w w.heap.size A n l) (ht : TabAt 0 w) :
    Calls Tryd.prog 10 #[.slice A n c] w (BytesPost2 5 (frameR l) (frameE l) w) := by
  have hl := hr.len
  by_cases hbig : 1048576 < n
  · have H : Hid (BytesPost2 5 (frameR l) (frameE l) w (.returned (.tuple #[.slice none 0 0, .int .i64 2])) w) := Lib.hid (by
      unfold frameR frameE
      rw [if_neg (by omega), if_neg (by omega)]
      exact bytes_none2 (Below.refl _ _))
    clear hr ht hl
    go_enter Tryd.func10, Tryd.ntmps10
    go_wp2
    go_ret2
    exact H.out
  have hR : Hid (frameR l = frameB l ∧ frameE l = 0) := Lib.hid (by unfold frameR frameE; rw [if_pos (by omega), if_pos (by omega)]; exact ⟨rfl, rfl⟩)
  have HR : Hid (∀ w', Below w.heap.size w w' → RB w' w'.heap.size A n l) := Lib.hid fun w' h => hr.later h
  have HT : Hid (∀ w', Below w.heap.size w w' → TabAt 0 w') := Lib.hid fun w' h => ht.later h
  have hL : Hid (u8s (be4 n) = [.int .u8 ((n : Int) / 16777216), .int .u8 ((n : Int) / 65536), .int .u8 ((n : Int) / 256 % 256), .int .u8 ((n : Int) % 256)]) := Lib.hid (by
    show [u8v _, u8v _, u8v _, u8v _] = _
    rw [u8v_mod, u8v_mod, u8v_mod, u8v_mod]; simp only [Int.natCast_ediv]
    rw [show ((n : Int) / ((16777216 : Nat) : Int) % 256) = (n : Int) / 16777216 from by omega, show ((n : Int) / ((65536 : Nat) : Int) % 256) = (n : Int) / 65536 from by omega]; rfl)
  have HL := Lib.hid hl
  have f1 : Hid (∀ x : List UInt8, [x].flatten = x) := Lib.hid fun x => by simp
  have tok1 : True := trivial
  have tok2 : True := trivial
  have tok3 : True := trivial
  have hc' := hc
  have HA' := Lib.hid hA
  have hn' : n ≤ 1048576 := by omega
  clear hr ht hl hA hbig
  go_enter Tryd.func10, Tryd.ntmps10
  go_wp2_with (first
    | (at_make; refine wpList_make_own _ rfl (.const (.int .i64 0)) (.tmp 11) 25 rfl w.heap.size 5 Tryd.t5 (.int .u8 0) 1 Tryd.underlying25 (by kernel_rfl) rfl rfl .i64 .i64 _ (n + 12) rfl rfl (by omega) (by show 1 * _ ≤ _; omega) (by unfold maxLen; omega) (Nat.le_refl _) ?_; intro w1 hown1 hg1)
    | (at_builtin; have _t := tok1; refine wpList_append_reads _ rfl (.tmp 12) (.tmp 24) rfl Tryd.u8s' w.heap.size (.slice (some ⟨w.heap.size, 0, none⟩) 0 (n + 12)) 0 [] rfl (hown1.alloc _) (w1.heap.size + 1) (some ⟨w1.heap.size, 0, none⟩) 4 4 (u8s (be4 n)) rfl (by exact reads_lit w1 _ (be4 n) _ _ (by rw [hL.out])) (u8s_one _) (by decide) (by decide) (by have := hg1.size; simp; omega) ?_; intro v2 w2 hown2 hg2 hat2; clear tok1; rw [List.nil_append] at hown2; have HB2 := Lib.hid (below_app ((below_grown_none hg1).alloc hg1.size _) (hown1.alloc _) hg2 (by have := hg1.size; simp; omega) (Nat.le_refl _)); obtain ⟨A2, c2, rfl, hO2⟩ := own_bytes hown2; have HO2 := Lib.hid hO2; clear hown2 hg2 hat2 hO2 hown1 hg1)
    | (go_at_call 20; have _t := tok2; go_must (refine (sum_any [be4 n] _ 1 1 _ (by omega) (by exact (HO2.out.one _ _).more (by simp)) (HT.out _ (HB2.out.alloc HB2.out.size _))).mono ?_); rintro e w3 ⟨rfl, rfl⟩; rw [f1.out]; clear tok2)
    | (go_at_call 19; have _t := tok3; go_must (refine (low_any w.heap.size (be4 n).length (sumL (be4 n)) (.slice A2 (be4 n).length c2) (u8s (be4 n)) _ (by show 4 ≤ _; omega) (HO2.out.alloc _) (by have := HB2.out.size; simp; omega) (sumL_lt _)).mono ?_); rintro e w3 ⟨v3, rfl, hown3, hg3⟩; clear tok3; have HB3 := Lib.hid (below_app (HB2.out.alloc HB2.out.size _) (HO2.out.alloc _) hg3 (by have := HB2.out.size; simp; omega) (Nat.le_refl _)); rw [← u8s_append] at hown3; obtain ⟨L3, A3, c3, E3, N3, rfl, hO3⟩ := own_named hown3; have HO3 := Lib.hid hO3; clear hown3 hg3 hO3)
    | (at_builtin; go_must (refine wpList_append_reads _ rfl (.tmp 30) (.tmp 31) rfl Tryd.u8s' w.heap.size (.slice A3 L3.length c3) L3.length (u8s L3) rfl HO3.out _ A n c (u8s l) rfl (HR.out _ HB3.out) (u8s_one _) (by rw [N3.out]; show 4 + 4 + n ≤ _; unfold maxLen; omega) (by rw [N3.out]; show (4 + 4 + n) * 1 ≤ _; omega) HB3.out.size ?_); intro v4 w4 hown4 hg4 hat4; have HB4 := Lib.hid (below_app HB3.out HO3.out hg4 HB3.out.size (Nat.le_refl _)); rw [← u8s_append] at hown4; obtain ⟨L4, A4, c4, E4, N4, rfl, hO4⟩ := own_named hown4; have HO4 := Lib.hid hO4; clear hown4 hg4 hat4 hO4)
    | (go_at_call 20; go_must (refine (sum_any [l] _ 1 1 _ (by omega) (by exact (rbs_one _ A n c l _ _ hnc hc' HA'.out (HR.out _ HB4.out)).more (by simp)) (HT.out _ (HB4.out.alloc HB4.out.size _))).mono ?_); rintro e w5 ⟨rfl, rfl⟩; rw [f1.out])
    | (go_at_call 19; have HB5 := Lib.hid (HB4.out.alloc HB4.out.size (.cells #[.slice A n c] 25)); go_must (refine (low_any w.heap.size L4.length (sumL l) (.slice A4 L4.length c4) (u8s L4) _ (by rw [N4.out, N3.out]; show 4 + 4 + n ≤ _; omega) (HO4.out.alloc _) HB5.out.size (sumL_lt _)).mono ?_); rintro e w6 ⟨v6, rfl, hown6, hg6⟩; rw [← u8s_append] at hown6; have HO6 := Lib.hid hown6; have HB6 := Lib.hid (below_app HB5.out (HO4.out.alloc _) hg6 HB5.out.size (Nat.le_refl _)); clear hown6 hg6))
  go_ret2
  rw [hR.out.1, hR.out.2]
  have hE : L4 ++ lowB (sumL l) = frameB l := by unfold frameB headF; rw [HL.out, E4.out, E3.out]
  exact bytes_post2 (hE ▸ HO6.out) HB6.out

end Go.Proofs.YtbcljgcilbfblaaDoor
