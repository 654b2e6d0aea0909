/-
  The statements' upTo, WireNumbers, WireOrdered, WireFrames, WirePlays, walked.
-/
import Derived.Test.YtkkfiffgldhahaaDoorWireV2
import Derived.Test.YtkkfiffgldhahaaDoorWireS1
import Derived.Test.YtkkfiffgldhahaaDoorLaw4
namespace Go.Proofs.YtkkfiffgldhahaaDoor
open Go.RowKit

/-- A call's fields lie at a place. -/
def OpAt (w : World) (b q : Nat) (K : Int) : Prop :=
  ∃ (a N V : Int) (l : List UInt8) (ps : List (List UInt8)) (A PA : Option Addr) (n c pn pc : Nat), w.cell? ⟨b, q, none⟩ = some (.int .i64 K) ∧ w.cell? ⟨b, q + 1, none⟩ = some (.slice A n c) ∧ w.cell? ⟨b, q + 2, none⟩ = some (.int .i64 a) ∧ w.cell? ⟨b, q + 3, none⟩ = some (.int .i64 N) ∧ w.cell? ⟨b, q + 4, none⟩ = some (.int .u64 V) ∧ w.cell? ⟨b, q + 5, none⟩ = some (.slice PA pn pc) ∧
    Sl w A n c l ∧ RBs w w.heap.size PA pn ps ∧ pn ≤ pc ∧ n ≤ 1048576 ∧ pn ≤ 1048576 ∧ ps.flatten.length ≤ 1048576 ∧ (0 ≤ V ∧ V < 18446744073709551616) ∧ (-9223372036854775808 ≤ N ∧ N < 9223372036854775808)
/-- A script of calls. -/
def Scr (w : World) (A : Option Addr) (n : Nat) : Prop := 0 < n → ∃ b o, A = some ⟨b, o, none⟩ ∧ b < w.heap.size ∧ ∀ i, i < n → ∃ K, OpAt w b (o + i * 6) K
theorem OpAt.later {w w' : World} {b q : Nat} {K : Int} (h : OpAt w b q K) (hlt : b < w.heap.size) (hb : Below w.heap.size w w') : OpAt w' b q K := by
  obtain ⟨a, N, V, l, ps, A, PA, n, c, pn, pc, c0, c1, c2, c3, c4, c5, hs, hp, hr⟩ := h
  have hc : ∀ j, w'.cell? ⟨b, j, none⟩ = w.cell? ⟨b, j, none⟩ := fun j => hb.cell (p := ⟨b, j, none⟩) hlt
  exact ⟨a, N, V, l, ps, A, PA, n, c, pn, pc, (hc _).trans c0, (hc _).trans c1, (hc _).trans c2, (hc _).trans c3, (hc _).trans c4, (hc _).trans c5, hs.later hb, hp.later hb, hr⟩
theorem Scr.later {w w' : World} {A : Option Addr} {n : Nat} (h : Scr w A n) (hb : Below w.heap.size w w') : Scr w' A n := fun hn => by
  obtain ⟨b, o, e, hlt, hq⟩ := h hn
  exact ⟨b, o, e, Nat.lt_of_lt_of_le hlt hb.size, fun i hi => by obtain ⟨K, hk⟩ := hq i hi; exact ⟨K, hk.later hlt hb⟩⟩

set_option maxRecDepth 100000 in
set_option maxHeartbeats 2000000 in
theorem upTo_any (A : Option Addr) (n c : Nat) (lo hi : Int) (w : World) (hs : Scr w A n) (hn : n ≤ 9223372036854775807) (ht : TabAt 0 w) :
    Calls Tryd.prog 43 #[.slice A n c, .int .i64 lo, .int .i64 hi] w fun e w' => e = .returned (.bool true) ∧ Below w.heap.size w w' := by
  have HS : Hid (∀ w', Below w.heap.size w w' → Scr w' A n) := Lib.hid fun w' h => hs.later h
  have HT : Hid (∀ w', Below w.heap.size w w' → TabAt 0 w') := Lib.hid fun w' h => ht.later h
  clear hs ht
  go_enter Tryd.func43, Tryd.ntmps43
  go_wp2
  go_loopw [7] (fun i wr => ∃ k : Nat, k ≤ n ∧ i = .int .i64 k ∧ Hid (Below w.heap.size w wr)) (fun i _ => n - (intOf i).toNat)
  case atStart => exact ⟨0, Nat.zero_le _, rfl, Lib.hid (Below.refl _ _)⟩
  case round =>
    obtain ⟨k, hk, rfl, HB⟩ := hrel
    by_cases hlt : k < n
    case neg =>
      go_wp2
      go_ret
      exact ⟨rfl, HB.out⟩
    obtain ⟨b, o, rfl, hblt, hq⟩ := HS.out wr HB.out (by omega)
    obtain ⟨K, a, N, V, l, ps, OA, PA, m, oc, pn, pc, c0, c1, c2, c3, c4, c5, hsl, hrb, h1, h2, h3, h4, h5, h6⟩ := hq k hlt
    have HP := Lib.hid (plays_any K a N V l ps OA PA m oc pn pc wr hsl hrb h1 h2 h3 h4 h5 h6 (HT.out _ HB.out))
    have HBL := Lib.hid hblt
    clear hq hsl hrb h1 h2 h3 h4 h5 h6 hblt
    have hcase : decide (lo ≤ K) = false ∨ (decide (lo ≤ K) = true ∧ decide (K ≤ hi) = false) ∨ (decide (lo ≤ K) = true ∧ decide (K ≤ hi) = true) := by
      cases decide (lo ≤ K) <;> cases decide (K ≤ hi) <;> simp
    rcases hcase with d1 | ⟨d1, d2⟩ | ⟨d1, d2⟩
    · go_wp2
      go_roundw
      case rel => exact ⟨k + 1, by omega, by go_num, HB⟩
      case measure => simp [intOf]; omega
    · go_wp2
      go_roundw
      case rel => exact ⟨k + 1, by omega, by go_num, HB⟩
      case measure => simp [intOf]; omega
    · go_wp2_with (go_at_call 69; go_must (refine HP.out.mono ?_); rintro e w2 ⟨rfl, hb2⟩; have HB2 := Lib.hid (HB.out.trans (hb2.mono HB.out.size)); clear hb2)
      go_roundw
      case rel => exact ⟨k + 1, by omega, by go_num, HB2⟩
      case measure => simp [intOf]; omega

section
variable (A : Option Addr) (n c : Nat) (w : World) (hs : Scr w A n) (hn : n ≤ 9223372036854775807) (ht : TabAt 0 w)
include hs hn ht

set_option maxRecDepth 100000 in
theorem numbersL_any : Calls Tryd.prog 10 #[.slice A n c] w fun e w' => e = .returned (.bool true) ∧ Below w.heap.size w w' := by
  have HS : Hid (∀ w', Below w.heap.size w w' → Scr w' A n) := Lib.hid fun w' h => hs.later h
  have HT : Hid (∀ w', Below w.heap.size w w' → TabAt 0 w') := Lib.hid fun w' h => ht.later h
  clear hs ht
  go_enter Tryd.func10, Tryd.ntmps10
  go_wp2_with (first
    | (go_at_call 18; go_must (refine (started_any _ (HT.out _ (Below.refl _ _))).mono ?_); rintro e w1 ⟨rfl, hb1⟩; have HB1 := Lib.hid hb1; clear hb1)
    | (go_at_call 43; go_must (refine (upTo_any A n c _ _ _ (HS.out _ HB1.out) hn (HT.out _ HB1.out)).mono ?_); rintro e w2 ⟨rfl, hb2⟩; have HB2 := Lib.hid (HB1.out.trans (hb2.mono HB1.out.size)); clear hb2))
  go_ret
  exact ⟨rfl, HB2.out⟩

set_option maxRecDepth 100000 in
theorem orderedL_any : Calls Tryd.prog 11 #[.slice A n c] w fun e w' => e = .returned (.bool true) ∧ Below w.heap.size w w' := by
  have HS : Hid (∀ w', Below w.heap.size w w' → Scr w' A n) := Lib.hid fun w' h => hs.later h
  have HT : Hid (∀ w', Below w.heap.size w w' → TabAt 0 w') := Lib.hid fun w' h => ht.later h
  clear hs ht
  go_enter Tryd.func11, Tryd.ntmps11
  go_wp2_with (first
    | (go_at_call 18; go_must (refine (started_any _ (HT.out _ (Below.refl _ _))).mono ?_); rintro e w1 ⟨rfl, hb1⟩; have HB1 := Lib.hid hb1; clear hb1)
    | (go_at_call 43; go_must (refine (upTo_any A n c _ _ _ (HS.out _ HB1.out) hn (HT.out _ HB1.out)).mono ?_); rintro e w2 ⟨rfl, hb2⟩; have HB2 := Lib.hid (HB1.out.trans (hb2.mono HB1.out.size)); clear hb2))
  go_ret
  exact ⟨rfl, HB2.out⟩

set_option maxRecDepth 100000 in
theorem framesL_any : Calls Tryd.prog 12 #[.slice A n c] w fun e w' => e = .returned (.bool true) ∧ Below w.heap.size w w' := by
  have HS : Hid (∀ w', Below w.heap.size w w' → Scr w' A n) := Lib.hid fun w' h => hs.later h
  have HT : Hid (∀ w', Below w.heap.size w w' → TabAt 0 w') := Lib.hid fun w' h => ht.later h
  clear hs ht
  go_enter Tryd.func12, Tryd.ntmps12
  go_wp2_with (first
    | (go_at_call 18; go_must (refine (started_any _ (HT.out _ (Below.refl _ _))).mono ?_); rintro e w1 ⟨rfl, hb1⟩; have HB1 := Lib.hid hb1; clear hb1)
    | (go_at_call 43; go_must (refine (upTo_any A n c _ _ _ (HS.out _ HB1.out) hn (HT.out _ HB1.out)).mono ?_); rintro e w2 ⟨rfl, hb2⟩; have HB2 := Lib.hid (HB1.out.trans (hb2.mono HB1.out.size)); clear hb2))
  go_ret
  exact ⟨rfl, HB2.out⟩

set_option maxRecDepth 100000 in
theorem playsL_any : Calls Tryd.prog 13 #[.slice A n c] w fun e w' => e = .returned (.bool true) ∧ Below w.heap.size w w' := by
  have HS : Hid (∀ w', Below w.heap.size w w' → Scr w' A n) := Lib.hid fun w' h => hs.later h
  have HT : Hid (∀ w', Below w.heap.size w w' → TabAt 0 w') := Lib.hid fun w' h => ht.later h
  clear hs ht
  go_enter Tryd.func13, Tryd.ntmps13
  go_wp2_with (first
    | (go_at_call 18; go_must (refine (started_any _ (HT.out _ (Below.refl _ _))).mono ?_); rintro e w1 ⟨rfl, hb1⟩; have HB1 := Lib.hid hb1; clear hb1)
    | (go_at_call 43; go_must (refine (upTo_any A n c _ _ _ (HS.out _ HB1.out) hn (HT.out _ HB1.out)).mono ?_); rintro e w2 ⟨rfl, hb2⟩; have HB2 := Lib.hid (HB1.out.trans (hb2.mono HB1.out.size)); clear hb2))
  go_ret
  exact ⟨rfl, HB2.out⟩
end
end Go.Proofs.YtkkfiffgldhahaaDoor
