/-
  WireSums, walked.
-/
import Derived.Test.YtkkfiffgldhahaaDoorWireW7
namespace Go.Proofs.YtkkfiffgldhahaaDoor
open Go.RowKit

theorem sums_known : sumL [[49, 50, 51], [], [52, 53, 54, 55, 56, 57]].flatten = 3808858755 := by decide +kernel
theorem sums_none : sumL ([] : List (List UInt8)).flatten = 0 := by decide +kernel

theorem kv_lit_at (w : World) (C : Array Value) (ks : List (List UInt8)) (n g : Nat) (t : TypeId) (fr : Nat × Nat) (h : KV w w.heap.size C.toList ks) (hn : ks.length = n) (hg : w.heap.size = g) :
    RBs (w.alloc (.cells C t fr)) (w.alloc (.cells C t fr)).heap.size (some ⟨g, 0, none⟩) n ks := hg ▸ kv_lit w C ks n t fr h hn
theorem flat_take (ks : List (List UInt8)) (k : Nat) : (ks.take k).flatten.length ≤ ks.flatten.length := by
  have e := congrArg List.length (congrArg List.flatten (List.take_append_drop k ks))
  rw [List.flatten_append, List.length_append] at e
  omega

theorem known_lit (w : World) : RBs (((w.alloc (.cells #[.int .u8 49, .int .u8 50, .int .u8 51] 5)).alloc (.cells #[.int .u8 52, .int .u8 53, .int .u8 54, .int .u8 55, .int .u8 56, .int .u8 57] 5)).alloc (.cells #[.slice (some ⟨w.heap.size, 0, none⟩) 3 3, .slice none 0 0, .slice (some ⟨w.heap.size + 1, 0, none⟩) 6 6] 22)) (((w.alloc (.cells #[.int .u8 49, .int .u8 50, .int .u8 51] 5)).alloc (.cells #[.int .u8 52, .int .u8 53, .int .u8 54, .int .u8 55, .int .u8 56, .int .u8 57] 5)).alloc (.cells #[.slice (some ⟨w.heap.size, 0, none⟩) 3 3, .slice none 0 0, .slice (some ⟨w.heap.size + 1, 0, none⟩) 6 6] 22)).heap.size (some ⟨w.heap.size + 1 + 1, 0, none⟩) 3 [[49, 50, 51], [], [52, 53, 54, 55, 56, 57]] ∧ Below w.heap.size w (((w.alloc (.cells #[.int .u8 49, .int .u8 50, .int .u8 51] 5)).alloc (.cells #[.int .u8 52, .int .u8 53, .int .u8 54, .int .u8 55, .int .u8 56, .int .u8 57] 5)).alloc (.cells #[.slice (some ⟨w.heap.size, 0, none⟩) 3 3, .slice none 0 0, .slice (some ⟨w.heap.size + 1, 0, none⟩) 6 6] 22)) := by
  have h1 : Sl ((w.alloc (.cells #[.int .u8 49, .int .u8 50, .int .u8 51] 5)).alloc (.cells #[.int .u8 52, .int .u8 53, .int .u8 54, .int .u8 55, .int .u8 56, .int .u8 57] 5)) (some ⟨w.heap.size, 0, none⟩) 3 3 [49, 50, 51] := (Sl.lit (n := 3) w #[.int .u8 49, .int .u8 50, .int .u8 51] [49, 50, 51] 5 (0, 0) rfl rfl (by omega)).later ((Below.refl _ _).alloc (Nat.le_refl _) _)
  have h2 : Sl ((w.alloc (.cells #[.int .u8 49, .int .u8 50, .int .u8 51] 5)).alloc (.cells #[.int .u8 52, .int .u8 53, .int .u8 54, .int .u8 55, .int .u8 56, .int .u8 57] 5)) (some ⟨w.heap.size + 1, 0, none⟩) 6 6 [52, 53, 54, 55, 56, 57] := by
    have := Sl.lit (n := 6) (w.alloc (.cells #[.int .u8 49, .int .u8 50, .int .u8 51] 5)) #[.int .u8 52, .int .u8 53, .int .u8 54, .int .u8 55, .int .u8 56, .int .u8 57] [52, 53, 54, 55, 56, 57] 5 (0, 0) rfl rfl (by omega)
    rwa [World.size_alloc] at this
  have h3 := kv_lit ((w.alloc (.cells #[.int .u8 49, .int .u8 50, .int .u8 51] 5)).alloc (.cells #[.int .u8 52, .int .u8 53, .int .u8 54, .int .u8 55, .int .u8 56, .int .u8 57] 5)) #[.slice (some ⟨w.heap.size, 0, none⟩) 3 3, .slice none 0 0, .slice (some ⟨w.heap.size + 1, 0, none⟩) 6 6] _ 3 22 (0, 0) (h1.cons ((Sl.none _).cons (h2.cons KV.nil))) rfl
  refine ⟨?_, (((Below.refl _ _).alloc (Nat.le_refl _) _).alloc (by simp) _).alloc (by simp; omega) _⟩
  simpa using h3

set_option maxRecDepth 100000 in
set_option maxHeartbeats 4000000 in
theorem sums_any (ks : List (List UInt8)) (a b : List UInt8) (K A B : Option Addr) (nk ck n c m d : Nat) (w : World) (hn : ks.flatten.length + nk ≤ 1048576) (hr : RBs w w.heap.size K nk ks)
    (ha : Sl w A n c a) (hb : Sl w B m d b) (hn1 : n ≤ 1048576) (hm1 : m ≤ 1048576) (ht : TabAt 0 w) :
    Calls Tryd.prog 5 #[.slice K nk ck, .slice A n c, .slice B m d] w fun e w' => e = .returned (.bool true) ∧ Below w.heap.size w w' := by
  have HT : Hid (∀ w', Below w.heap.size w w' → TabAt 0 w') := Lib.hid fun w' h => ht.later h
  have HR : Hid (∀ w', Below w.heap.size w w' → RBs w' w'.heap.size K nk ks) := Lib.hid fun w' h => hr.later h
  have HA : Hid (∀ w', Below w.heap.size w w' → Sl w' A n c a) := Lib.hid fun w' h => ha.later h
  have HB : Hid (∀ w', Below w.heap.size w w' → Sl w' B m d b) := Lib.hid fun w' h => hb.later h
  have E1 := Lib.hid sums_known
  have E2 := Lib.hid sums_none
  have HL := Lib.hid hr.len
  have f1 : Hid (∀ x : List UInt8, [x].flatten = x) := Lib.hid fun x => by simp
  have f2 : Hid (∀ x y : List UInt8, [x, y].flatten = x ++ y) := Lib.hid fun x y => by simp
  have hnk : nk ≤ 1048576 := by omega
  have HN := Lib.hid hn
  have HAL := Lib.hid ha.len
  have HBL := Lib.hid hb.len
  clear hr ha hb ht hn
  go_enter Tryd.func5, Tryd.ntmps5
  have HK := Lib.hid (known_lit w)
  have tok1 : True := trivial
  go_wp2_with (go_at_call 25; go_must (refine (sum_any _ _ 3 3 _ (by omega) HK.out.1 (HT.out _ HK.out.2)).mono ?_); rintro e w1 ⟨rfl, rfl⟩; rw [E1.out])
  have HB0 := Lib.hid HK.out.2
  have tok2 : True := trivial
  have tok3 : True := trivial
  have tok4 : True := trivial
  clear HK
  generalize (((w.alloc (.cells #[.int .u8 49, .int .u8 50, .int .u8 51] 5)).alloc (.cells #[.int .u8 52, .int .u8 53, .int .u8 54, .int .u8 55, .int .u8 56, .int .u8 57] 5)).alloc (.cells #[.slice (some ⟨w.heap.size, 0, none⟩) 3 3, .slice none 0 0, .slice (some ⟨w.heap.size + 1, 0, none⟩) 6 6] 22)) = w0 at *
  go_loop [7, 8] (fun s i => ∃ k : Nat, k ≤ nk ∧ i = .int .i64 k ∧ ∃ q : Nat, q ≤ 1048576 ∧ s = .int .i64 q ∧ Hid (q = (ks.take k).flatten.length + k)) (fun _ i => nk - (intOf i).toNat)
  case atStart => exact ⟨0, Nat.zero_le _, rfl, 0, by omega, rfl, Lib.hid rfl⟩
  case round =>
    obtain ⟨k, hk, rfl, q, hq, rfl, HQ⟩ := hrel
    by_cases hlt : k < nk
    case pos =>
      obtain ⟨bb, o, x, xa, xc, eK, hbb, hx, hcell, hxc, hxl, _, hrb⟩ := (HR.out _ HB0.out).at_ hlt
      subst eK
      have HQ2 : Hid (q + x.length + 1 = (ks.take (k + 1)).flatten.length + (k + 1)) := Lib.hid (by
        rw [HQ.out, take_snoc hx, List.flatten_append, List.length_append]; simp; omega)
      have hq2 : q + x.length + 1 ≤ 1048576 := by
        have := flat_take ks (k + 1)
        have := HQ2.out
        have := HN.out
        omega
      have hx2 : x.length ≤ 1048576 := by omega
      have HQ3 := Lib.hid hq2
      obtain ⟨X, hX⟩ : ∃ X, X = x.length := ⟨_, rfl⟩
      have HX := Lib.hid hX
      rw [← hX] at hcell hx2
      have hd9 : decide ((4194304 : Int) < (q : Int) + (X : Int) + 1) = false := decide_eq_false (by omega)
      clear hx hxc hxl hrb hbb hq2 hX
      go_wp2
      go_round
      case rel => exact ⟨k + 1, by omega, by go_num, q + x.length + 1, HQ3.out, by rw [← HX.out]; go_num, HQ2⟩
      case measure => simp [intOf]; omega
    have hd : decide ((k : Int) < (nk : Int)) = false := decide_eq_false (by omega)
    obtain ⟨FL, hFL⟩ : ∃ FL, FL = ks.flatten := ⟨_, rfl⟩
    have HFL := Lib.hid hFL
    have HJ : Hid (ks.flatten.length ≤ 1048576) := Lib.hid (by have := HN.out; omega)
    obtain ⟨AB, hAB⟩ : ∃ AB, AB = a ++ b := ⟨_, rfl⟩
    have HAB := Lib.hid hAB
    have HE2 : Hid (sumL [AB].flatten = sumL (a ++ b)) := Lib.hid (by rw [f1.out, hAB])
    have tok5 : True := trivial
    clear hAB
    have HE1 : Hid (sumL [FL].flatten = sumL ks.flatten) := Lib.hid (by rw [f1.out, hFL])
    clear hFL
    go_wp2_with (first
      | (go_at_call 18; go_must (refine (started_any _ (HT.out _ HB0.out)).mono ?_); rintro e w1 ⟨rfl, hb1⟩; have HB1 := Lib.hid (HB0.out.trans (hb1.mono HB0.out.size)); clear hb1)
      | (go_at_call 25; have _t := tok1; go_must (refine (sum_any ks K nk ck _ (by omega) (HR.out _ HB1.out) (HT.out _ HB1.out)).mono ?_); rintro e w2 ⟨rfl, rfl⟩; clear tok1)
      | (go_at_call 23; have _t := tok2; go_must (refine (join_any ks K nk ck _ (by omega) (HR.out _ HB1.out) (Nat.le_trans HJ.out (by omega))).mono ?_); rintro e w3 hp; rw [← HFL.out] at hp; obtain ⟨A3, c3, rfl, hS3, _, hb3⟩ := hp.at_ rfl; have HS3 := Lib.hid hS3; have HB3 := Lib.hid (HB1.out.trans (hb3.mono HB1.out.size)); clear hp hS3 hb3 tok2)
      | (go_at_call 25; have _t := tok3; go_must (refine (sum_any [FL] _ 1 1 _ (by omega) (HS3.out.one _ _) (HT.out _ (HB3.out.alloc HB3.out.size _))).mono ?_); rintro e w4 ⟨rfl, rfl⟩; rw [HE1.out]; clear tok3; have HB4 := Lib.hid (HB3.out.alloc HB3.out.size (.cells #[.slice A3 FL.length c3] 22)))
      | (go_at_call 25; have _t := tok4; have HB5 := Lib.hid (HB4.out.alloc HB4.out.size (.cells #[.slice A n c, .slice B m d] 22)); go_must (refine (sum_any [a, b] _ 2 2 _ (by omega) (by exact kv_lit_at _ #[.slice A n c, .slice B m d] [a, b] 2 _ _ _ ((HA.out _ HB4.out).cons ((HB.out _ HB4.out).cons KV.nil)) rfl (by simp)) (HT.out _ HB5.out)).mono ?_); rintro e w5 ⟨rfl, rfl⟩; rw [f2.out]; clear tok4)
      | (go_at_call 23; have HB6 := Lib.hid (HB5.out.alloc HB5.out.size (.cells #[.slice A n c, .slice B m d] 22)); go_must (refine (join_any [a, b] _ 2 2 _ (by omega) (by exact kv_lit_at _ #[.slice A n c, .slice B m d] [a, b] 2 _ _ _ ((HA.out _ HB5.out).cons ((HB.out _ HB5.out).cons KV.nil)) rfl (by simp)) (by rw [f2.out, List.length_append, HAL.out, HBL.out]; omega)).mono ?_); rintro e w7 hp; rw [f2.out, ← HAB.out] at hp; obtain ⟨A7, c7, rfl, hS7, _, hb7⟩ := hp.at_ rfl; have HS7 := Lib.hid hS7; have HB7 := Lib.hid (HB6.out.trans (hb7.mono HB6.out.size)); clear hp hS7 hb7)
      | (go_at_call 25; have _t := tok5; go_must (refine (sum_any [AB] _ 1 1 _ (by omega) (HS7.out.one _ _) (HT.out _ (HB7.out.alloc HB7.out.size _))).mono ?_); rintro e w8 ⟨rfl, rfl⟩; rw [HE2.out]; clear tok5; have HB8 := Lib.hid (HB7.out.alloc HB7.out.size (.cells #[.slice A7 AB.length c7] 22)))
      | (go_at_call 25; go_must (refine (sum_any [] none 0 0 _ (by omega) (KV.nil.rbs Reads.nil) (HT.out _ HB8.out)).mono ?_); rintro e w9 ⟨rfl, rfl⟩; rw [E2.out]))
    go_ret
    exact ⟨rfl, HB8.out⟩
end Go.Proofs.YtkkfiffgldhahaaDoor
