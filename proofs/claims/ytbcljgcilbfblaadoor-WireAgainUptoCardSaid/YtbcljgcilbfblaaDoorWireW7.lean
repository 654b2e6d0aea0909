/-
  The statements' 'started', walked.
-/
import Derived.Test.YtbcljgcilbfblaaDoorWireW4
import Derived.Test.YtbcljgcilbfblaaDoorWireW6
namespace Go.Proofs.YtbcljgcilbfblaaDoor
open Go.RowKit

theorem st_read : readU [9, 172, 2] 1 = (300, 3, 0) := by decide +kernel
theorem st_frame : (frameR [7]).length = 13 := by decide +kernel
theorem st_frameE : frameE [7] = 0 := by decide +kernel
theorem st_rframe : readFA (frameR [7]) 0 = ([7], 13, 0) := by decide +kernel
theorem st_uint : uintB 300 = [172, 2] := by decide +kernel

set_option maxRecDepth 100000 in
set_option maxHeartbeats 1000000 in
theorem started_any (w : World) (ht : TabAt 0 w) : Calls Tryd.prog 4 #[] w fun e w' => e = .returned (.bool true) ∧ Below w.heap.size w w' := by
  have HT : Hid (∀ w', Below w.heap.size w w' → TabAt 0 w') := Lib.hid fun w' h => ht.later h
  have E1 := Lib.hid st_read
  have E2 := Lib.hid st_rframe
  have E3 : Hid (([7] : List UInt8) == [7]) := Lib.hid (by decide)
  have E4 : Hid (([172, 2] : List UInt8) == [172, 2]) := Lib.hid (by decide)
  have tok1 : True := trivial
  clear ht
  go_enter Tryd.func4, Tryd.ntmps4
  go_wp2_with (first
    | (go_at_call 12; refine (num_any _ _).mono ?_; rintro e wn ⟨rfl, rfl⟩)
    | (go_at_call 9; go_must (refine (ru_any [9, 172, 2] _ 3 3 1 _ (by omega) (Sl.lit (n := 3) w #[.int .u8 9, .int .u8 172, .int .u8 2] [9, 172, 2] _ _ rfl rfl (by omega)).rb).mono ?_); rintro e w1 ⟨rfl, rfl⟩; rw [E1.out]; have HB1 := Lib.hid ((Below.refl w.heap.size w).alloc (Nat.le_refl _) (.cells #[.int .u8 9, .int .u8 172, .int .u8 2] 5)))
    | (go_at_call 10; have HB2 := Lib.hid (HB1.out.alloc HB1.out.size (.cells #[.int .u8 7] 5)); have HS := Lib.hid (Sl.lit (n := 1) (w.alloc (.cells #[.int .u8 9, .int .u8 172, .int .u8 2] 5)) #[.int .u8 7] [7] 5 (0, 0) rfl rfl (by omega)); simp only [World.size_alloc] at HS; go_must (refine (frame_any [7] _ 1 1 _ HS.out.le HS.out.cap HS.out.lim HS.out.nil HS.out.rb (HT.out _ HB2.out)).mono ?_); rintro e w2 hp; obtain ⟨A2, c2, rfl, hS2, _, hb2⟩ := hp.at_ st_frame st_frameE; have HS2 := Lib.hid hS2; have HB3 := Lib.hid (HB2.out.trans (hb2.mono HB2.out.size)); clear hp hS2 hb2 HB2 HS)
    | (go_at_call 11; go_must (refine (rframe_any (frameR [7]) A2 13 c2 0 _ HS2.out.le HS2.out.cap HS2.out.lim HS2.out.nil HS2.out.rb (HT.out _ HB3.out)).mono ?_); rintro e w3 hp; rw [E2.out] at hp; obtain ⟨A3, c3, rfl, hS3, _, hb3⟩ := BytesPost3.at_ (n := 1) (p' := 13) (k' := 0) hp rfl rfl rfl; have HS3 := Lib.hid hS3; have HB4 := Lib.hid (HB3.out.trans (hb3.mono HB3.out.size)); clear hp hS3 hb3)
    | (go_at_call 13; have _t := tok1; go_must (refine (same_any [7] [7] _ _ 1 _ 1 _ _ (HS3.out.later ((Below.refl _ _).alloc (Nat.le_refl _) _)).rb (Sl.lit (n := 1) w3 #[.int .u8 7] [7] _ _ rfl rfl (by omega)).rb).mono ?_); rintro e wn ⟨rfl, rfl⟩; rw [E3.out]; clear tok1; have HB5 := Lib.hid (HB4.out.alloc HB4.out.size (.cells #[.int .u8 7] 5)))
    | (go_at_call 14; go_must (refine (uint_of 300 _ rfl _ (by omega)).mono ?_); rintro e w4 hp; rw [st_uint] at hp; obtain ⟨A4, c4, rfl, hS4, _, hb4⟩ := BytesPost.at_ (n := 2) hp rfl; have HS4 := Lib.hid hS4; have HB6 := Lib.hid (HB5.out.trans (hb4.mono HB5.out.size)); clear hp hS4 hb4)
    | (go_at_call 13; go_must (refine (same_any [172, 2] [172, 2] _ _ 2 _ 2 _ _ (HS4.out.later ((Below.refl _ _).alloc (Nat.le_refl _) _)).rb (Sl.lit (n := 2) w4 #[.int .u8 172, .int .u8 2] [172, 2] _ _ rfl rfl (by omega)).rb).mono ?_); rintro e wn ⟨rfl, rfl⟩; rw [E4.out]))
  go_ret
  exact ⟨rfl, HB6.out.alloc HB6.out.size _⟩
end Go.Proofs.YtbcljgcilbfblaaDoor
