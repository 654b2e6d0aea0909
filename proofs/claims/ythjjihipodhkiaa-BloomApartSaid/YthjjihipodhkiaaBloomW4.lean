/-
  bloom.Check, bloom.Has, bloom.Ones, walked.
-/
import Derived.Test.YthjjihipodhkiaaBloomW3
namespace Go.Proofs.Ythjjihipodhkiaa
open Go.RowKit

def checkE (l : List UInt8) : Int := if isF l then 0 else 62

set_option maxRecDepth 100000 in
set_option maxHeartbeats 400000 in
theorem check_any (l : List UInt8) (A : Option Addr) (n c : Nat) (w : World) (hm : n ≤ 9223372036854775807) (hr : RB w w.heap.size A n l) :
    Calls Try.prog 24 #[.slice A n c] w fun e w' => e = .returned (.int .i64 (checkE l)) ∧ Below w.heap.size w w' := by
  cases hf : isF l
  all_goals
    have HF := Lib.hid hf
    clear hf
    have HE : Hid (checkE l = if isF l then 0 else 62) := Lib.hid rfl
    go_enter Try.func24, Try.ntmps24
    go_wp2_with (go_at_call 35; refine (read_any l A n c _ hm hr).mono ?_; rintro e w1 ⟨rfl, hb1⟩; rw [HF.out])
    go_ret
    exact ⟨ret_int (by rw [HE.out, HF.out]; rfl), hb1.alloc hb1.size _⟩

def hasB (l key : List UInt8) : Bool := isF l && (placesN key (shapeP l) (shapeM l)).all (bitAt l)

set_option maxRecDepth 100000 in
set_option maxHeartbeats 400000 in
theorem has_any (l key : List UInt8) (A Ak : Option Addr) (n c nk ck : Nat) (w : World) (hm : n ≤ 9223372036854775807) (hr : RB w w.heap.size A n l) (hmk : nk ≤ 9223372036854775807) (hk : RB w w.heap.size Ak nk key) :
    Calls Try.prog 23 #[.slice A n c, .slice Ak nk ck] w fun e w' => e = .returned (.tuple #[.bool (hasB l key), .int .i64 (checkE l)]) ∧ Below w.heap.size w w' := by
  have HR : Hid (∀ w', Below w.heap.size w w' → RB w' w'.heap.size A n l) := Lib.hid fun w' h => hr.later h
  have HK : Hid (∀ w', Below w.heap.size w w' → RB w' w'.heap.size Ak nk key) := Lib.hid fun w' h => hk.later h
  have hl := hr.len
  cases hf : isF l
  · have HF := Lib.hid hf
    have HE : Hid (checkE l = 62) := Lib.hid (by unfold checkE; rw [hf]; rfl)
    have HB : Hid (hasB l key = false) := Lib.hid (by unfold hasB; rw [hf]; rfl)
    clear hf hr hk hl
    go_enter Try.func23, Try.ntmps23
    go_wp2_with (go_at_call 35; refine (read_any l A n c _ hm (HR.out _ ((Below.refl _ _).alloc (Nat.le_refl _) _))).mono ?_; rintro e w1 ⟨rfl, hb1⟩; rw [HF.out])
    go_ret2
    exact ⟨by rw [HB.out, HE.out]; rfl, (((Below.refl _ _).alloc (Nat.le_refl _) _).trans (hb1.mono (by simp))).alloc (by have := hb1.size; simp at this; omega) _⟩
  · have HF := Lib.hid hf
    have HE : Hid (checkE l = 0) := Lib.hid (by unfold checkE; rw [hf]; rfl)
    have HB : Hid (hasB l key = (placesN key (shapeP l) (shapeM l)).all (bitAt l)) := Lib.hid (by unfold hasB; rw [hf]; rfl)
    have hq := of_decide_eq_true hf
    rw [hl] at hq
    obtain ⟨q1, q2, q3, q4, q5, q6⟩ := hq
    have Q5 := Lib.hid q5
    have Q6 := Lib.hid q6
    clear hf hr hk hl q5 q6
    go_enter Try.func23, Try.ntmps23
    go_wp2_with (first
      | (go_at_call 35; refine (read_any l A n c _ hm (HR.out _ ((Below.refl _ _).alloc (Nat.le_refl _) _))).mono ?_; rintro e w1 ⟨rfl, hb1⟩; rw [HF.out]; have HB1 := Lib.hid ((((Below.refl _ _).alloc (Nat.le_refl _) _).trans (hb1.mono (by simp))).alloc (by have := hb1.size; simp at this; omega) (.cells #[.int .i64 (shapeP l), .int .u32 (shapeM l)] 58)); have HC1 := Lib.hid (cell_alloc_old (o := .cells #[.int .i64 (shapeP l), .int .u32 (shapeM l)] 58) (cell_below hb1 (p := ⟨w.heap.size, 0, none⟩) (v := .slice A n c) (by simp))))
      | (go_at_call 33; refine (each_has l key A Ak n c nk ck w.heap.size (shapeP l) (shapeM l) _ hm (HR.out _ HB1.out) HC1.out hmk (HK.out _ HB1.out) q2 (by omega) q4 Q6.out.symm Q5.out).mono ?_; rintro e w2 ⟨rfl, hb2⟩))
    go_ret2
    exact ⟨by rw [HB.out, HE.out]; rfl, HB1.out.trans (hb2.mono HB1.out.size)⟩
end Go.Proofs.Ythjjihipodhkiaa
