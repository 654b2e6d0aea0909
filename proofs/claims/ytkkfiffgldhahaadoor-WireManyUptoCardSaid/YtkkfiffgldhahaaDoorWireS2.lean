/-
  WireTells, walked.
-/
import Derived.Test.YtkkfiffgldhahaaDoorWireW8
import Derived.Test.YtkkfiffgldhahaaDoorWireP4
import Derived.Test.YtkkfiffgldhahaaDoorWireS1
namespace Go.Proofs.YtkkfiffgldhahaaDoor
open Go.RowKit

theorem OwnB.some {T : TypeId} {base : Nat} {w : World} {A : Option Addr} {c : Nat} {l : List UInt8} (h : OwnB T base w A c l) (hl : 0 < l.length) : ∃ g, A = some ⟨g, 0, none⟩ ∧ base ≤ g ∧ g < w.heap.size := by
  obtain ⟨g, cap, e, h1, h2, _⟩ := own_form h hl
  injection e with e _ _
  exact ⟨g, e, h1, h2⟩
theorem lit_cell (w : World) (C : Array Value) (t : TypeId) (i : Nat) : (w.alloc (.cells C t)).cell? ⟨w.heap.size, 0 + i, none⟩ = C[i]? := by
  rw [Nat.zero_add]
  simp

/-- 'turned' of three places that lie in a new literal. -/
theorem turned_three (l : List UInt8) (n : Nat) (i j k : Int) (g c : Nat) (w : World) (base : Nat) (hl : l.length = n) (hn : n ≤ 1048588) (ho : OwnB 5 base w (some ⟨g, 0, none⟩) c l) (hr : ∀ z ∈ [i, j, k], -9223372036854775808 ≤ z ∧ z < 9223372036854775808) :
    Calls Tryd.prog 21 #[.slice (some ⟨g, 0, none⟩) n c, .slice (some ⟨w.heap.size, 0, none⟩) 3 3] (w.alloc (.cells #[.int .i64 i, .int .i64 j, .int .i64 k] 3)) fun e w' => e = .returned (.bool (!(l == flipsB l [i, j, k]))) ∧ OwnB 5 base w' (some ⟨g, 0, none⟩) c (flipsB l [i, j, k]) ∧ w.grownBy w' (some g) := by
  subst hl
  have hg := (World.ownsRow.lt ho g rfl).2
  refine (turned_any l [i, j, k] g c w.heap.size 0 3 3 _ base hn (by omega) (World.ownsRow.alloc ho _) rfl (by simp) (by omega) (fun x z hz => ?_) hr).mono fun e w' h => ⟨h.1, h.2.1, grown_trans (World.grownBy_alloc w _ _) h.2.2⟩
  rw [lit_cell, ← Array.getElem?_toList]
  match x, hz with
  | 0, hz => injection hz with hz; subst hz; rfl
  | 1, hz => injection hz with hz; subst hz; rfl
  | 2, hz => injection hz with hz; subst hz; rfl

set_option maxRecDepth 100000 in
set_option maxHeartbeats 4000000 in
theorem tells_any (l r : List UInt8) (A B : Option Addr) (n c m d : Nat) (i j k : Int) (w : World) (ha : Sl w A n c l) (hb : Sl w B m d r) (hn : n ≤ 1048576) (hm : m ≤ 1048576) (ht : TabAt 0 w)
    (hi : -9223372036854775808 ≤ i ∧ i < 9223372036854775808) (hj : -9223372036854775808 ≤ j ∧ j < 9223372036854775808) (hk : -9223372036854775808 ≤ k ∧ k < 9223372036854775808) :
    Calls Tryd.prog 3 #[.slice A n c, .int .i64 i, .int .i64 j, .int .i64 k, .slice B m d] w fun e w' => e = .returned (.bool true) ∧ Below w.heap.size w w' := by
  have HT : Hid (∀ w', Below w.heap.size w w' → TabAt 0 w') := Lib.hid fun w' h => ht.later h
  have HA : Hid (∀ w', Below w.heap.size w w' → Sl w' A n c l) := Lib.hid fun w' h => ha.later h
  have HB : Hid (∀ w', Below w.heap.size w w' → Sl w' B m d r) := Lib.hid fun w' h => hb.later h
  have hl := ha.len
  have HIJK : Hid (∀ z ∈ [i, j, k], -9223372036854775808 ≤ z ∧ z < 9223372036854775808) := Lib.hid fun z hz => by
    simp at hz
    rcases hz with rfl | rfl | rfl
    · exact hi
    · exact hj
    · exact hk
  obtain ⟨f, hf⟩ : ∃ f, f = frameB l := ⟨_, rfl⟩
  have XF : Hid (frameR l = f ∧ frameE l = 0) := Lib.hid (by unfold frameR frameE; rw [if_pos (by omega), if_pos (by omega), hf]; exact ⟨rfl, rfl⟩)
  have XL : Hid (f.length = n + 12) := Lib.hid (by rw [hf, frameB_length, hl])
  have XFB := Lib.hid hf
  have HLL : Hid (l.length ≤ 1048576) := Lib.hid (by omega)
  obtain ⟨f2, hf2⟩ : ∃ f2, f2 = flipsB f [i, j, k] := ⟨_, rfl⟩
  have XL2 : Hid (f2.length = n + 12) := Lib.hid (by rw [hf2, flipsB_length]; exact XL.out)
  have XF2 := Lib.hid hf2
  have XR : Hid (f2 ≠ f → readFA (f2 ++ r) 0 = ([], 0, 12)) := Lib.hid fun h => by
    rw [hf2, hf] at h ⊢
    exact frame_three l i j k r HLL.out h
  have HRL := Lib.hid hb.len
  have g2 : Hid (∀ x y : List UInt8, [x, y].flatten = x ++ y) := Lib.hid fun x y => by simp
  clear ha hb ht hi hj hk hl hf hf2
  by_cases hne : f2 = f
  · have XB : Hid ((!(f == flipsB f [i, j, k])) = false) := Lib.hid (by rw [← XF2.out, hne]; simp)
    clear hne
    go_enter Tryd.func3, Tryd.ntmps3
    go_wp2_with (first
      | (go_at_call 20; refine (num_any _ _).mono ?_; rintro e wn ⟨rfl, rfl⟩)
      | (go_at_call 19; have HA0 := HA.out _ (Below.refl _ _); go_must (refine (frame_any l A n c _ HA0.le HA0.cap HA0.lim HA0.nil HA0.rb (HT.out _ (Below.refl _ _))).mono ?_); clear HA0; rintro e w1 hp; rw [XF.out.1, XF.out.2] at hp; obtain ⟨A1, c1, rfl, hS1, hO1, hb1⟩ := hp.at_ XL.out rfl; obtain ⟨g, rfl, hg1, hg2⟩ := hO1.some (by rw [XL.out]; omega); have HS1 := Lib.hid hS1; have HO1 := Lib.hid hO1; have HB1 := Lib.hid hb1; clear hp hS1 hO1 hb1)
      | (go_at_call 21; go_must (refine (turned_three f (n + 12) i j k g c1 w1 w.heap.size XL.out (by omega) HO1.out HIJK.out).mono ?_); rintro e w2 ⟨rfl, hO2, hG2⟩; rw [XB.out]; rw [← XF2.out] at hO2; have HO2 := Lib.hid hO2; have HB2 := Lib.hid (HB1.out.grown hG2 HB1.out.size (fun q hq => by injection hq with hq; omega)); clear hO2 hG2)
      | (go_at_call 18; go_must (refine (started_any _ (HT.out _ HB2.out)).mono ?_); rintro e w9 ⟨rfl, hb9⟩; have HB9 := Lib.hid (HB2.out.trans (hb9.mono HB2.out.size)); clear hb9))
    go_ret
    exact ⟨rfl, HB9.out⟩
  · have XB : Hid ((!(f == flipsB f [i, j, k])) = true) := Lib.hid (by
      rw [← XF2.out]
      simp
      exact fun h => hne h.symm)
    obtain ⟨J, hJ⟩ : ∃ J, J = f2 ++ r := ⟨_, rfl⟩
    have XJ := Lib.hid hJ
    have XR : Hid (readFA J 0 = ([], 0, 12)) := Lib.hid (by rw [hJ]; exact XR.out hne)
    clear hne hJ
    go_enter Tryd.func3, Tryd.ntmps3
    go_wp2_with (first
      | (go_at_call 20; refine (num_any _ _).mono ?_; rintro e wn ⟨rfl, rfl⟩)
      | (go_at_call 19; have HA0 := HA.out _ (Below.refl _ _); go_must (refine (frame_any l A n c _ HA0.le HA0.cap HA0.lim HA0.nil HA0.rb (HT.out _ (Below.refl _ _))).mono ?_); clear HA0; rintro e w1 hp; rw [XF.out.1, XF.out.2] at hp; obtain ⟨A1, c1, rfl, hS1, hO1, hb1⟩ := hp.at_ XL.out rfl; obtain ⟨g, rfl, hg1, hg2⟩ := hO1.some (by rw [XL.out]; omega); have HS1 := Lib.hid hS1; have HO1 := Lib.hid hO1; have HB1 := Lib.hid hb1; clear hp hS1 hO1 hb1)
      | (go_at_call 21; go_must (refine (turned_three f (n + 12) i j k g c1 w1 w.heap.size XL.out (by omega) HO1.out HIJK.out).mono ?_); rintro e w2 ⟨rfl, hO2, hG2⟩; rw [XB.out]; rw [← XF2.out] at hO2; have HO2 := Lib.hid hO2; have HB2 := Lib.hid (HB1.out.grown hG2 HB1.out.size (fun q hq => by injection hq with hq; omega)); clear hO2 hG2)
      | (go_at_call 23; have HS2 := Lib.hid (Sl.own HO2.out); rw [XL2.out] at HS2; have HB3 := Lib.hid (HB2.out.alloc HB2.out.size (.cells #[.slice (some ⟨g, 0, none⟩) (n + 12) c1, .slice B m d] 22)); go_must (refine (join_any [f2, r] _ 2 2 _ (by omega) (by exact kv_lit _ #[.slice (some ⟨g, 0, none⟩) (n + 12) c1, .slice B m d] [f2, r] 2 _ _ (HS2.out.cons ((HB.out _ HB2.out).cons KV.nil)) rfl) (by rw [g2.out, List.length_append, XL2.out, HRL.out]; omega)).mono ?_); rintro e w4 hp; rw [g2.out, ← XJ.out] at hp; obtain ⟨A4, c4, rfl, hS4, _, hb4⟩ := hp.at_ rfl; have HS4 := Lib.hid hS4; have HB4 := Lib.hid (HB3.out.trans (hb4.mono HB3.out.size)); clear hp hS4 hb4)
      | (go_at_call 22; go_must (refine (rframe_any J A4 J.length c4 0 _ HS4.out.le HS4.out.cap HS4.out.lim HS4.out.nil HS4.out.rb (HT.out _ HB4.out)).mono ?_); rintro e w5 hp; rw [XR.out] at hp; obtain ⟨A5, c5, rfl, hS5, _, hb5⟩ := BytesPost3.at_ (n := 0) (p' := 0) (k' := 12) hp rfl rfl rfl; have HB5 := Lib.hid (HB4.out.trans (hb5.mono HB4.out.size)); clear hp hS5 hb5)
      | (go_at_call 18; go_must (refine (started_any _ (HT.out _ HB5.out)).mono ?_); rintro e w9 ⟨rfl, hb9⟩; have HB9 := Lib.hid (HB5.out.trans (hb9.mono HB5.out.size)); clear hb9))
    go_ret
    exact ⟨rfl, HB9.out⟩
end Go.Proofs.YtkkfiffgldhahaaDoor
