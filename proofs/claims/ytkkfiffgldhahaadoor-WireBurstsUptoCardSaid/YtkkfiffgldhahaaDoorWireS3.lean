/-
  WireBursts, walked.
-/
import Derived.Test.YtkkfiffgldhahaaDoorWireS2
import Derived.Test.YtkkfiffgldhahaaDoorWireP5
namespace Go.Proofs.YtkkfiffgldhahaaDoor
open Go.RowKit

set_option maxRecDepth 100000 in
set_option maxHeartbeats 4000000 in
theorem bursts_in (l r : List UInt8) (A B : Option Addr) (n c m d a P : Nat) (low : Bool) (w : World) (ha : Sl w A n c l) (hb : Sl w B m d r) (hn : n ≤ 1048576) (hm : m ≤ 1048576) (ht : TabAt 0 w) (hP : P < 4294967296)
    (lo hi : Nat) (hlo : lo = if low then 0 else 64) (hhi : hi = if low then 64 else 8 * (n + 12)) (h1 : lo ≤ a) (h2 : a < hi) :
    Calls Tryd.prog 4 #[.slice A n c, .int .i64 a, .int .u32 P, .bool low, .slice B m d] w fun e w' => e = .returned (.bool true) ∧ Below w.heap.size w w' := by
  have HT : Hid (∀ w', Below w.heap.size w w' → TabAt 0 w') := Lib.hid fun w' h => ht.later h
  have HA : Hid (∀ w', Below w.heap.size w w' → Sl w' A n c l) := Lib.hid fun w' h => ha.later h
  have HB : Hid (∀ w', Below w.heap.size w w' → Sl w' B m d r) := Lib.hid fun w' h => hb.later h
  have hl := ha.len
  obtain ⟨f, hf⟩ : ∃ f, f = frameB l := ⟨_, rfl⟩
  have XF : Hid (frameR l = f ∧ frameE l = 0) := Lib.hid (by unfold frameR frameE; rw [if_pos (by omega), if_pos (by omega), hf]; exact ⟨rfl, rfl⟩)
  have XL : Hid (f.length = n + 12) := Lib.hid (by rw [hf, frameB_length, hl])
  have HLL : Hid (l.length ≤ 1048576) := Lib.hid (by omega)
  have XFB := Lib.hid hf
  have HRL := Lib.hid hb.len
  have g1 : Hid (∀ x : List UInt8, [x].flatten = x) := Lib.hid fun x => by simp
  have g2 : Hid (∀ x y : List UInt8, [x, y].flatten = x ++ y) := Lib.hid fun x y => by simp
  have hhi2 : hi ≤ 8388704 := by rw [hhi]; split <;> omega
  have hhin : hi ≤ 8 * (n + 12) := by rw [hhi]; split <;> omega
  have q1 : ((low : Bool) = true ∧ lo = 0 ∧ hi = 64) ∨ (low = false ∧ lo = 64 ∧ hi = 8 * (n + 12)) := by cases low <;> simp_all
  clear ha hb ht hl hf hlo hhi
  rcases q1 with ⟨rfl, rfl, rfl⟩ | ⟨rfl, rfl, hq⟩
  · have d1 : decide ((a : Int) < 0) = false := decide_eq_false (by omega)
    have d2 : decide ((64 : Int) ≤ (a : Int)) = false := decide_eq_false (by omega)
    have ha64 : a < 64 := h2
    clear h1 h2 hhi2 hhin
    go_enter Tryd.func4, Tryd.ntmps4
    go_wp2_with (first
      | (go_at_call 20; refine (num_any _ _).mono ?_; rintro e wn ⟨rfl, rfl⟩)
      | (go_at_call 19; have HA0 := HA.out _ (Below.refl _ _); go_must (refine (frame_any l A n c _ HA0.le HA0.cap HA0.lim HA0.nil HA0.rb (HT.out _ (Below.refl _ _))).mono ?_); clear HA0; rintro e w1 hp; rw [XF.out.1, XF.out.2] at hp; obtain ⟨A1, c1, rfl, hS1, hO1, hb1⟩ := hp.at_ XL.out rfl; obtain ⟨g, rfl, hg1, hg2⟩ := hO1.some (by rw [XL.out]; omega); have HS1 := Lib.hid hS1; have HO1 := Lib.hid hO1; have HB1 := Lib.hid hb1; clear hp hS1 hO1 hb1)
      | (go_at_call 23; go_must (refine (join_any [f] _ 1 1 _ (by omega) (HS1.out.one _ _) (by rw [g1.out, XL.out]; omega)).mono ?_); rintro e w2 hp; rw [g1.out] at hp; obtain ⟨A2, c2, rfl, hS2, hO2, hb2⟩ := hp.at_ XL.out; go_must (have HB2 := Lib.hid (HB1.out.trans (((Below.refl w1.heap.size w1).alloc (Nat.le_refl _) (.cells #[.slice (some ⟨g, 0, none⟩) (n + 12) c1] 22)).trans (hb2.mono (by simp)) |>.mono HB1.out.size)); have HOW := Lib.hid hO2; have HO2 := Lib.hid (HO1.out.later (((Below.refl w1.heap.size w1).alloc (Nat.le_refl _) (.cells #[.slice (some ⟨g, 0, none⟩) (n + 12) c1] 22)).trans (hb2.mono (by simp)))); clear hp hS2 hb2 hO2)))
    go_loopw [16] (fun i wr => ∃ j : Nat, j ≤ 32 ∧ i = .int .i64 j ∧ OwnB 5 w.heap.size wr (some ⟨g, 0, none⟩) c1 (flipsB f (bz a 64 P j)) ∧ w2.grownBy wr (some g)) (fun i _ => 32 - (intOf i).toNat)
    case atStart => exact ⟨0, by omega, rfl, HO2.out, World.grownBy.refl _ _⟩
    case round =>
      obtain ⟨j, hj, rfl, hO, hG⟩ := hrel
      by_cases hlt : j < 32
      case neg =>
        obtain rfl : j = 32 := by omega
        have HBr := Lib.hid (HB2.out.grown hG HB2.out.size (fun q hq => by injection hq with hq; omega))
        obtain ⟨f2, hf2⟩ : ∃ x, x = flipsB f (bz a 64 P 32) := ⟨_, rfl⟩
        rw [← hf2] at hO
        have XL2 : Hid (f2.length = n + 12) := Lib.hid (by rw [hf2, flipsB_length]; exact XL.out)
        have XR : Hid (f2 ≠ f → readFA (f2 ++ r) 0 = ([], 0, 12)) := Lib.hid fun h => by
          rw [hf2, XFB.out] at h ⊢
          exact frame_burst l a 64 P r HLL.out h
        have HS2 : Hid (Sl wr (some ⟨g, 0, none⟩) (n + 12) c1 f2) := Lib.hid (XL2.out ▸ Sl.own hO)
        have SW : Hid (Sl wr A2 (n + 12) c2 f) := Lib.hid (XL.out ▸ Sl.own (HOW.out.kept hG (by simp; omega)))
        clear hO hG hf2
        by_cases hne : f2 = f
        · have XB : Hid ((f == f2) = true) := Lib.hid (by rw [hne]; simp)
          clear hne
          go_wp2_with (first
            | (go_at_call 24; go_must (refine (same_any f f2 A2 (some ⟨g, 0, none⟩) (n + 12) c2 (n + 12) c1 _ SW.out.rb HS2.out.rb).mono ?_); rintro e wn ⟨rfl, rfl⟩; rw [XB.out])
            | (go_at_call 18; go_must (refine (started_any _ (HT.out _ HBr.out)).mono ?_); rintro e w9 ⟨rfl, hb9⟩; have HB9 := Lib.hid (HBr.out.trans (hb9.mono HBr.out.size)); clear hb9))
          go_ret
          exact ⟨rfl, HB9.out⟩
        · have XB : Hid ((f == f2) = false) := Lib.hid (by simp; exact fun h => hne h.symm)
          obtain ⟨J, hJ⟩ : ∃ J, J = f2 ++ r := ⟨_, rfl⟩
          have XJ := Lib.hid hJ
          have XR : Hid (readFA J 0 = ([], 0, 12)) := Lib.hid (by rw [hJ]; exact XR.out hne)
          clear hne hJ
          go_wp2_with (first
            | (go_at_call 20; refine (num_any _ _).mono ?_; rintro e wn ⟨rfl, rfl⟩)
            | (go_at_call 24; go_must (refine (same_any f f2 A2 (some ⟨g, 0, none⟩) (n + 12) c2 (n + 12) c1 _ SW.out.rb HS2.out.rb).mono ?_); rintro e wn ⟨rfl, rfl⟩; rw [XB.out])
            | (go_at_call 23; have HB3 := Lib.hid (HBr.out.alloc HBr.out.size (.cells #[.slice (some ⟨g, 0, none⟩) (n + 12) c1, .slice B m d] 22)); go_must (refine (join_any [f2, r] _ 2 2 _ (by omega) (by exact kv_lit _ #[.slice (some ⟨g, 0, none⟩) (n + 12) c1, .slice B m d] [f2, r] 2 _ _ (HS2.out.cons ((HB.out _ HBr.out).cons KV.nil)) rfl) (by rw [g2.out, List.length_append, XL2.out, HRL.out]; omega)).mono ?_); rintro e w4 hp; rw [g2.out, ← XJ.out] at hp; obtain ⟨A4, c4, rfl, hS4, _, hb4⟩ := hp.at_ rfl; have HS4 := Lib.hid hS4; have HB4 := Lib.hid (HB3.out.trans (hb4.mono HB3.out.size)); clear hp hS4 hb4)
            | (go_at_call 22; go_must (refine (rframe_any J A4 J.length c4 0 _ HS4.out.le HS4.out.cap HS4.out.lim HS4.out.nil HS4.out.rb (HT.out _ HB4.out)).mono ?_); rintro e w5 hp; rw [XR.out] at hp; obtain ⟨A5, c5, rfl, hS5, _, hb5⟩ := BytesPost3.at_ (n := 0) (p' := 0) (k' := 12) hp rfl rfl rfl; have HB5 := Lib.hid (HB4.out.trans (hb5.mono HB4.out.size)); clear hp hS5 hb5)
            | (go_at_call 18; go_must (refine (started_any _ (HT.out _ HB5.out)).mono ?_); rintro e w9 ⟨rfl, hb9⟩; have HB9 := Lib.hid (HB5.out.trans (hb9.mono HB5.out.size)); clear hb9))
          go_ret
          exact ⟨rfl, HB9.out⟩
      have hdj : decide ((j : Int) < 32) = true := decide_eq_true (by omega)
      have HBZ := Lib.hid (bz_succ a 64 P j)
      have HPW := Lib.hid (pat_walk P j hP)
      by_cases hk : a + j < 64
      case neg =>
        have hdk : decide ((a : Int) + (j : Int) < 64) = false := decide_eq_false (by omega)
        have HN : Hid (bz a 64 P (j + 1) = bz a 64 P j) := Lib.hid (by rw [HBZ.out, if_neg (fun h => hk h.1), List.append_nil])
        have HO3 := Lib.hid hO
        have HG3 := Lib.hid hG
        clear hO hG hk
        go_wp2
        go_roundw
        case rel => exact ⟨j + 1, by omega, by go_num, by rw [HN.out]; exact HO3.out, HG3.out⟩
        case measure => simp [intOf]; omega
      have hdk : decide ((a : Int) + (j : Int) < 64) = true := decide_eq_true (by omega)
      cases hbit : P.testBit j
      · have hb : (bits .and .u32 ((P : Int) / 2 ^ j) 1 == 1) = false := by rw [HPW.out, hbit]
        have HN : Hid (bz a 64 P (j + 1) = bz a 64 P j) := Lib.hid (by rw [HBZ.out, if_neg (fun h => by rw [hbit] at h; cases h.2), List.append_nil])
        have HO3 := Lib.hid hO
        have HG3 := Lib.hid hG
        clear hO hG hbit
        go_wp2
        go_roundw
        case rel => exact ⟨j + 1, by omega, by go_num, by rw [HN.out]; exact HO3.out, HG3.out⟩
        case measure => simp [intOf]; omega
      · have hb : (bits .and .u32 ((P : Int) / 2 ^ j) 1 == 1) = true := by rw [HPW.out, hbit]
        have HN : Hid (bz a 64 P (j + 1) = bz a 64 P j ++ [((a + j : Nat) : Int)]) := Lib.hid (by rw [HBZ.out, if_pos ⟨hk, hbit⟩])
        obtain ⟨l', hl'⟩ : ∃ x, x = flipsB f (bz a 64 P j) := ⟨_, rfl⟩
        have HNX : Hid (flipsB f (bz a 64 P (j + 1)) = flipB l' ((a + j : Nat) : Int)) := Lib.hid (by rw [HN.out, flipsB_snoc, hl'])
        have HL' : Hid (l'.length = n + 12) := Lib.hid (by rw [hl', flipsB_length]; exact XL.out)
        rw [← hl'] at hO
        have hin : a + j < 8 * (n + 12) := by omega
        obtain ⟨D, hD⟩ : ∃ D, D = (a + j) / 8 := ⟨_, rfl⟩
        obtain ⟨T, hT⟩ : ∃ T, T = (a + j) % 8 := ⟨_, rfl⟩
        have HF : Hid (flipB l' ((a + j : Nat) : Int) = l'.set D (flipU (l'[D]?.getD 0) T)) := Lib.hid (by rw [flipB_set (by rw [HL'.out]; exact hin), hD, hT])
        have hDn : D < n + 12 := by omega
        have hT8 : T < 8 := by omega
        obtain ⟨Z, hZ⟩ : ∃ Z, Z = a + j := ⟨_, rfl⟩
        have hz : (a : Int) + (j : Int) = (Z : Int) := by omega
        have r1 : IntKind.i64.wrap ((Z : Int) / 8) = (D : Int) := by rw [i64_sum (by omega) (by omega)]; omega
        have r2 : (Z : Int).tmod 8 = (T : Int) := by rw [Int.tmod_eq_emod_of_nonneg (by omega)]; omega
        have hz0 : (0 : Int) ≤ (Z : Int) := by omega
        rw [hz] at hdk
        have r3 : (0 : Int) ≤ (T : Int) := by omega
        have r4 : (D : Int) < (n : Int) + 12 := by omega
        obtain ⟨x, hx⟩ : ∃ x, l'[D]? = some x := ⟨_, List.getElem?_eq_getElem (by rw [HL'.out]; exact hDn)⟩
        have hcx : wr.cell? ⟨g, D, none⟩ = some (.int .u8 (x.toNat : Int)) := (World.ownsRow.cellAt hO D (by rw [HL'.out]; omega)).trans (u8s_at hx)
        have hfr : wr.frozen? ⟨g, D, none⟩ = false := World.ownsRow.frozenAt hO _
        have HFW := Lib.hid (flip_walk x T hT8)
        have HX := Lib.hid hx
        have hst := World.ownsRow.stored hO D (u8v (flipU x T))
        rw [u8s_set] at hst
        have HST := Lib.hid hst
        clear hst hx hD hT hl' hbit hin hZ
        go_wp2_with fail
        go_still_tail 13, (by kernel_rfl)
        change wpList _ _ _ _ _ wr.drew
        go_wp2
        have HG := Lib.hid hG
        clear hO hG
        go_roundw
        case rel =>
          refine ⟨j + 1, by omega, by go_num, ?_, ?_⟩
          · rw [HNX.out, HF.out, HX.out]
            have h := HST.out.1
            unfold u8v at h
            rw [← HFW.out] at h
            unfold OwnB
            rw [show (l'.set D (flipU ((some x).getD 0) T)).length = l'.length from by simp]
            exact h
          · have h := HST.out.2
            unfold u8v at h
            rw [← HFW.out] at h
            exact grown_drew' (grown_trans HG.out h)
        case measure => simp [intOf]; omega
  · subst hq
    have d1 : decide ((a : Int) < 64) = false := decide_eq_false (by omega)
    have d2 : decide (8 * ((n : Int) + 12) ≤ (a : Int)) = false := decide_eq_false (by omega)
    have hah : a < 8 * (n + 12) := h2
    clear h1 h2 hhi2 hhin
    go_enter Tryd.func4, Tryd.ntmps4
    go_wp2_with (first
      | (go_at_call 20; refine (num_any _ _).mono ?_; rintro e wn ⟨rfl, rfl⟩)
      | (go_at_call 19; have HA0 := HA.out _ (Below.refl _ _); go_must (refine (frame_any l A n c _ HA0.le HA0.cap HA0.lim HA0.nil HA0.rb (HT.out _ (Below.refl _ _))).mono ?_); clear HA0; rintro e w1 hp; rw [XF.out.1, XF.out.2] at hp; obtain ⟨A1, c1, rfl, hS1, hO1, hb1⟩ := hp.at_ XL.out rfl; obtain ⟨g, rfl, hg1, hg2⟩ := hO1.some (by rw [XL.out]; omega); have HS1 := Lib.hid hS1; have HO1 := Lib.hid hO1; have HB1 := Lib.hid hb1; clear hp hS1 hO1 hb1)
      | (go_at_call 23; go_must (refine (join_any [f] _ 1 1 _ (by omega) (HS1.out.one _ _) (by rw [g1.out, XL.out]; omega)).mono ?_); rintro e w2 hp; rw [g1.out] at hp; obtain ⟨A2, c2, rfl, hS2, hO2, hb2⟩ := hp.at_ XL.out; go_must (have HB2 := Lib.hid (HB1.out.trans (((Below.refl w1.heap.size w1).alloc (Nat.le_refl _) (.cells #[.slice (some ⟨g, 0, none⟩) (n + 12) c1] 22)).trans (hb2.mono (by simp)) |>.mono HB1.out.size)); have HOW := Lib.hid hO2; have HO2 := Lib.hid (HO1.out.later (((Below.refl w1.heap.size w1).alloc (Nat.le_refl _) (.cells #[.slice (some ⟨g, 0, none⟩) (n + 12) c1] 22)).trans (hb2.mono (by simp)))); clear hp hS2 hb2 hO2)))
    go_loopw [16] (fun i wr => ∃ j : Nat, j ≤ 32 ∧ i = .int .i64 j ∧ OwnB 5 w.heap.size wr (some ⟨g, 0, none⟩) c1 (flipsB f (bz a (8 * (n + 12)) P j)) ∧ w2.grownBy wr (some g)) (fun i _ => 32 - (intOf i).toNat)
    case atStart => exact ⟨0, by omega, rfl, HO2.out, World.grownBy.refl _ _⟩
    case round =>
      obtain ⟨j, hj, rfl, hO, hG⟩ := hrel
      by_cases hlt : j < 32
      case neg =>
        obtain rfl : j = 32 := by omega
        have HBr := Lib.hid (HB2.out.grown hG HB2.out.size (fun q hq => by injection hq with hq; omega))
        obtain ⟨f2, hf2⟩ : ∃ x, x = flipsB f (bz a (8 * (n + 12)) P 32) := ⟨_, rfl⟩
        rw [← hf2] at hO
        have XL2 : Hid (f2.length = n + 12) := Lib.hid (by rw [hf2, flipsB_length]; exact XL.out)
        have XR : Hid (f2 ≠ f → readFA (f2 ++ r) 0 = ([], 0, 12)) := Lib.hid fun h => by
          rw [hf2, XFB.out] at h ⊢
          exact frame_burst l a (8 * (n + 12)) P r HLL.out h
        have HS2 : Hid (Sl wr (some ⟨g, 0, none⟩) (n + 12) c1 f2) := Lib.hid (XL2.out ▸ Sl.own hO)
        have SW : Hid (Sl wr A2 (n + 12) c2 f) := Lib.hid (XL.out ▸ Sl.own (HOW.out.kept hG (by simp; omega)))
        clear hO hG hf2
        by_cases hne : f2 = f
        · have XB : Hid ((f == f2) = true) := Lib.hid (by rw [hne]; simp)
          clear hne
          go_wp2_with (first
            | (go_at_call 24; go_must (refine (same_any f f2 A2 (some ⟨g, 0, none⟩) (n + 12) c2 (n + 12) c1 _ SW.out.rb HS2.out.rb).mono ?_); rintro e wn ⟨rfl, rfl⟩; rw [XB.out])
            | (go_at_call 18; go_must (refine (started_any _ (HT.out _ HBr.out)).mono ?_); rintro e w9 ⟨rfl, hb9⟩; have HB9 := Lib.hid (HBr.out.trans (hb9.mono HBr.out.size)); clear hb9))
          go_ret
          exact ⟨rfl, HB9.out⟩
        · have XB : Hid ((f == f2) = false) := Lib.hid (by simp; exact fun h => hne h.symm)
          obtain ⟨J, hJ⟩ : ∃ J, J = f2 ++ r := ⟨_, rfl⟩
          have XJ := Lib.hid hJ
          have XR : Hid (readFA J 0 = ([], 0, 12)) := Lib.hid (by rw [hJ]; exact XR.out hne)
          clear hne hJ
          go_wp2_with (first
            | (go_at_call 20; refine (num_any _ _).mono ?_; rintro e wn ⟨rfl, rfl⟩)
            | (go_at_call 24; go_must (refine (same_any f f2 A2 (some ⟨g, 0, none⟩) (n + 12) c2 (n + 12) c1 _ SW.out.rb HS2.out.rb).mono ?_); rintro e wn ⟨rfl, rfl⟩; rw [XB.out])
            | (go_at_call 23; have HB3 := Lib.hid (HBr.out.alloc HBr.out.size (.cells #[.slice (some ⟨g, 0, none⟩) (n + 12) c1, .slice B m d] 22)); go_must (refine (join_any [f2, r] _ 2 2 _ (by omega) (by exact kv_lit _ #[.slice (some ⟨g, 0, none⟩) (n + 12) c1, .slice B m d] [f2, r] 2 _ _ (HS2.out.cons ((HB.out _ HBr.out).cons KV.nil)) rfl) (by rw [g2.out, List.length_append, XL2.out, HRL.out]; omega)).mono ?_); rintro e w4 hp; rw [g2.out, ← XJ.out] at hp; obtain ⟨A4, c4, rfl, hS4, _, hb4⟩ := hp.at_ rfl; have HS4 := Lib.hid hS4; have HB4 := Lib.hid (HB3.out.trans (hb4.mono HB3.out.size)); clear hp hS4 hb4)
            | (go_at_call 22; go_must (refine (rframe_any J A4 J.length c4 0 _ HS4.out.le HS4.out.cap HS4.out.lim HS4.out.nil HS4.out.rb (HT.out _ HB4.out)).mono ?_); rintro e w5 hp; rw [XR.out] at hp; obtain ⟨A5, c5, rfl, hS5, _, hb5⟩ := BytesPost3.at_ (n := 0) (p' := 0) (k' := 12) hp rfl rfl rfl; have HB5 := Lib.hid (HB4.out.trans (hb5.mono HB4.out.size)); clear hp hS5 hb5)
            | (go_at_call 18; go_must (refine (started_any _ (HT.out _ HB5.out)).mono ?_); rintro e w9 ⟨rfl, hb9⟩; have HB9 := Lib.hid (HB5.out.trans (hb9.mono HB5.out.size)); clear hb9))
          go_ret
          exact ⟨rfl, HB9.out⟩
      have hdj : decide ((j : Int) < 32) = true := decide_eq_true (by omega)
      have HBZ := Lib.hid (bz_succ a (8 * (n + 12)) P j)
      have HPW := Lib.hid (pat_walk P j hP)
      by_cases hk : a + j < 8 * (n + 12)
      case neg =>
        have hdk : decide ((a : Int) + (j : Int) < 8 * ((n : Int) + 12)) = false := decide_eq_false (by omega)
        have HN : Hid (bz a (8 * (n + 12)) P (j + 1) = bz a (8 * (n + 12)) P j) := Lib.hid (by rw [HBZ.out, if_neg (fun h => hk h.1), List.append_nil])
        have HO3 := Lib.hid hO
        have HG3 := Lib.hid hG
        clear hO hG hk
        go_wp2
        go_roundw
        case rel => exact ⟨j + 1, by omega, by go_num, by rw [HN.out]; exact HO3.out, HG3.out⟩
        case measure => simp [intOf]; omega
      have hdk : decide ((a : Int) + (j : Int) < 8 * ((n : Int) + 12)) = true := decide_eq_true (by omega)
      cases hbit : P.testBit j
      · have hb : (bits .and .u32 ((P : Int) / 2 ^ j) 1 == 1) = false := by rw [HPW.out, hbit]
        have HN : Hid (bz a (8 * (n + 12)) P (j + 1) = bz a (8 * (n + 12)) P j) := Lib.hid (by rw [HBZ.out, if_neg (fun h => by rw [hbit] at h; cases h.2), List.append_nil])
        have HO3 := Lib.hid hO
        have HG3 := Lib.hid hG
        clear hO hG hbit
        go_wp2
        go_roundw
        case rel => exact ⟨j + 1, by omega, by go_num, by rw [HN.out]; exact HO3.out, HG3.out⟩
        case measure => simp [intOf]; omega
      · have hb : (bits .and .u32 ((P : Int) / 2 ^ j) 1 == 1) = true := by rw [HPW.out, hbit]
        have HN : Hid (bz a (8 * (n + 12)) P (j + 1) = bz a (8 * (n + 12)) P j ++ [((a + j : Nat) : Int)]) := Lib.hid (by rw [HBZ.out, if_pos ⟨hk, hbit⟩])
        obtain ⟨l', hl'⟩ : ∃ x, x = flipsB f (bz a (8 * (n + 12)) P j) := ⟨_, rfl⟩
        have HNX : Hid (flipsB f (bz a (8 * (n + 12)) P (j + 1)) = flipB l' ((a + j : Nat) : Int)) := Lib.hid (by rw [HN.out, flipsB_snoc, hl'])
        have HL' : Hid (l'.length = n + 12) := Lib.hid (by rw [hl', flipsB_length]; exact XL.out)
        rw [← hl'] at hO
        have hin : a + j < 8 * (n + 12) := by omega
        obtain ⟨D, hD⟩ : ∃ D, D = (a + j) / 8 := ⟨_, rfl⟩
        obtain ⟨T, hT⟩ : ∃ T, T = (a + j) % 8 := ⟨_, rfl⟩
        have HF : Hid (flipB l' ((a + j : Nat) : Int) = l'.set D (flipU (l'[D]?.getD 0) T)) := Lib.hid (by rw [flipB_set (by rw [HL'.out]; exact hin), hD, hT])
        have hDn : D < n + 12 := by omega
        have hT8 : T < 8 := by omega
        obtain ⟨Z, hZ⟩ : ∃ Z, Z = a + j := ⟨_, rfl⟩
        have hz : (a : Int) + (j : Int) = (Z : Int) := by omega
        have r1 : IntKind.i64.wrap ((Z : Int) / 8) = (D : Int) := by rw [i64_sum (by omega) (by omega)]; omega
        have r2 : (Z : Int).tmod 8 = (T : Int) := by rw [Int.tmod_eq_emod_of_nonneg (by omega)]; omega
        have hz0 : (0 : Int) ≤ (Z : Int) := by omega
        rw [hz] at hdk
        have r3 : (0 : Int) ≤ (T : Int) := by omega
        have r4 : (D : Int) < (n : Int) + 12 := by omega
        obtain ⟨x, hx⟩ : ∃ x, l'[D]? = some x := ⟨_, List.getElem?_eq_getElem (by rw [HL'.out]; exact hDn)⟩
        have hcx : wr.cell? ⟨g, D, none⟩ = some (.int .u8 (x.toNat : Int)) := (World.ownsRow.cellAt hO D (by rw [HL'.out]; omega)).trans (u8s_at hx)
        have hfr : wr.frozen? ⟨g, D, none⟩ = false := World.ownsRow.frozenAt hO _
        have HFW := Lib.hid (flip_walk x T hT8)
        have HX := Lib.hid hx
        have hst := World.ownsRow.stored hO D (u8v (flipU x T))
        rw [u8s_set] at hst
        have HST := Lib.hid hst
        clear hst hx hD hT hl' hbit hin hZ
        go_wp2_with fail
        go_still_tail 13, (by kernel_rfl)
        change wpList _ _ _ _ _ wr.drew
        go_wp2
        have HG := Lib.hid hG
        clear hO hG
        go_roundw
        case rel =>
          refine ⟨j + 1, by omega, by go_num, ?_, ?_⟩
          · rw [HNX.out, HF.out, HX.out]
            have h := HST.out.1
            unfold u8v at h
            rw [← HFW.out] at h
            unfold OwnB
            rw [show (l'.set D (flipU ((some x).getD 0) T)).length = l'.length from by simp]
            exact h
          · have h := HST.out.2
            unfold u8v at h
            rw [← HFW.out] at h
            exact grown_drew' (grown_trans HG.out h)
        case measure => simp [intOf]; omega

set_option maxRecDepth 100000 in
set_option maxHeartbeats 4000000 in
theorem bursts_out (l : List UInt8) (A B : Option Addr) (n c m d : Nat) (a : Int) (P : Nat) (low : Bool) (w : World) (ha : Sl w A n c l) (hn : n ≤ 1048576) (ht : TabAt 0 w)
    (h : (low = true ∧ (a < 0 ∨ 64 ≤ a)) ∨ (low = false ∧ (a < 64 ∨ 8 * ((n : Int) + 12) ≤ a))) :
    Calls Tryd.prog 4 #[.slice A n c, .int .i64 a, .int .u32 P, .bool low, .slice B m d] w fun e w' => e = .returned (.bool true) ∧ Below w.heap.size w w' := by
  have HT : Hid (∀ w', Below w.heap.size w w' → TabAt 0 w') := Lib.hid fun w' h => ht.later h
  have HA : Hid (∀ w', Below w.heap.size w w' → Sl w' A n c l) := Lib.hid fun w' h => ha.later h
  have hl := ha.len
  obtain ⟨f, hf⟩ : ∃ f, f = frameB l := ⟨_, rfl⟩
  have XF : Hid (frameR l = f ∧ frameE l = 0) := Lib.hid (by unfold frameR frameE; rw [if_pos (by omega), if_pos (by omega), hf]; exact ⟨rfl, rfl⟩)
  have XL : Hid (f.length = n + 12) := Lib.hid (by rw [hf, frameB_length, hl])
  have h4 : (low = true ∧ decide (a < 0) = true) ∨ (low = true ∧ decide (a < 0) = false ∧ decide ((64 : Int) ≤ a) = true) ∨ (low = false ∧ decide (a < 64) = true) ∨ (low = false ∧ decide (a < 64) = false ∧ decide (8 * ((n : Int) + 12) ≤ a) = true) := by
    rcases h with ⟨rfl, h⟩ | ⟨rfl, h⟩
    · by_cases h1 : a < 0
      · exact .inl ⟨rfl, decide_eq_true h1⟩
      · exact .inr (.inl ⟨rfl, decide_eq_false h1, decide_eq_true (by omega)⟩)
    · by_cases h1 : a < 64
      · exact .inr (.inr (.inl ⟨rfl, decide_eq_true h1⟩))
      · exact .inr (.inr (.inr ⟨rfl, decide_eq_false h1, decide_eq_true (by omega)⟩))
  clear ha ht hl hf h
  rcases h4 with ⟨rfl, d1⟩ | ⟨rfl, d1, d2⟩ | ⟨rfl, d1⟩ | ⟨rfl, d1, d2⟩
  all_goals
    go_enter Tryd.func4, Tryd.ntmps4
    go_wp2_with (first
      | (go_at_call 20; refine (num_any _ _).mono ?_; rintro e wn ⟨rfl, rfl⟩)
      | (go_at_call 19; have HA0 := HA.out _ (Below.refl _ _); go_must (refine (frame_any l A n c _ HA0.le HA0.cap HA0.lim HA0.nil HA0.rb (HT.out _ (Below.refl _ _))).mono ?_); clear HA0; rintro e w1 hp; rw [XF.out.1, XF.out.2] at hp; obtain ⟨A1, c1, rfl, hS1, hO1, hb1⟩ := hp.at_ XL.out rfl; obtain ⟨g, rfl, hg1, hg2⟩ := hO1.some (by rw [XL.out]; omega); have HS1 := Lib.hid hS1; have HO1 := Lib.hid hO1; have HB1 := Lib.hid hb1; clear hp hS1 hO1 hb1)
      | (go_at_call 18; go_must (refine (started_any _ (HT.out _ HB1.out)).mono ?_); rintro e w9 ⟨rfl, hb9⟩; have HB9 := Lib.hid (HB1.out.trans (hb9.mono HB1.out.size)); clear hb9))
    go_ret
    exact ⟨rfl, HB9.out⟩

theorem bursts_any (l r : List UInt8) (A B : Option Addr) (n c m d : Nat) (a P : Int) (low : Bool) (w : World) (ha : Sl w A n c l) (hb : Sl w B m d r) (hn : n ≤ 1048576) (hm : m ≤ 1048576) (ht : TabAt 0 w) (hP : 0 ≤ P ∧ P < 4294967296) :
    Calls Tryd.prog 4 #[.slice A n c, .int .i64 a, .int .u32 P, .bool low, .slice B m d] w fun e w' => e = .returned (.bool true) ∧ Below w.heap.size w w' := by
  obtain ⟨p, rfl⟩ : ∃ p : Nat, P = (p : Int) := ⟨P.toNat, by omega⟩
  by_cases h : (low = true ∧ (a < 0 ∨ 64 ≤ a)) ∨ (low = false ∧ (a < 64 ∨ 8 * ((n : Int) + 12) ≤ a))
  · exact bursts_out l A B n c m d a p low w ha hn ht h
  · have h5 : 0 ≤ a := by cases low <;> simp at h <;> omega
    obtain ⟨q, rfl⟩ : ∃ q : Nat, a = (q : Int) := ⟨a.toNat, by omega⟩
    cases low
    · exact bursts_in l r A B n c m d q p false w ha hb hn hm ht (by omega) 64 (8 * (n + 12)) rfl rfl (by simp at h; omega) (by simp at h; omega)
    · exact bursts_in l r A B n c m d q p true w ha hb hn hm ht (by omega) 0 64 rfl rfl (by omega) (by simp at h; omega)
end Go.Proofs.YtkkfiffgldhahaaDoor
