/-
  Laid together by merge.py: BloomS1, BloomV3, BloomV4, Kit12, Kit13, Kit14, Kit15, Kit16, Kit17, Kit18, Kit19, Kit20, Kit21, Kit22, Kit23, Kit30, Kit31, BloomL3, Law, Law2, Law3, Law4, BloomLaw2, BloomLaw3.
-/
import Derived.Test.YthjjihipodhkiaaBm1
import Derived.Deep.RegionHeld3
import Derived.BigQuiet
import Derived.Test.YthjjihipodhkiaaBm2
import Derived.Deep.MidRow
import Derived.Great.BuildSlice
import Derived.ProofKit
import Derived.SizedLaws
import Derived.Lib.SmallJoins
import Derived.Deep.Slices
import Derived.Deep.Fields
import Derived.Test.YthjjihipodhkiaaRows
import Derived.Laws.IdiomArrays

/-
  BloomSets, walked.
-/
namespace Go.Proofs.Ythjjihipodhkiaa
open Go.RowKit

theorem build_ok {bits : Int} {ks : List (List UInt8)} {w w' : World} {e : Ending} (h0 : buildE bits ks = 0) (h : BuildPost bits ks w e w') :
    ∃ g, e = .returned (.tuple #[.slice (some ⟨g, 0, none⟩) (buildB bits ks).length (buildB bits ks).length, .int .i64 0]) ∧ w'.ownsRow w.heap.size 5 1 (.slice (some ⟨g, 0, none⟩) (buildB bits ks).length (buildB bits ks).length) (buildB bits ks).length (u8s (buildB bits ks)) ∧ Below w.heap.size w w' := by
  rcases h with ⟨_, h⟩ | ⟨h, _⟩
  · exact h
  · exact absurd h0 h
theorem build_no {bits : Int} {ks : List (List UInt8)} {w w' : World} {e : Ending} (h0 : buildE bits ks ≠ 0) (h : BuildPost bits ks w e w') :
    e = .returned (.tuple #[.slice none 0 0, .int .i64 (buildE bits ks)]) ∧ Below w.heap.size w w' := by
  rcases h with ⟨h, _⟩ | ⟨_, h⟩
  · exact absurd h h0
  · exact h

/-- The keys turned round and doubled, j of them. -/
def dblTo (ks : List (List UInt8)) (j : Nat) : List (List UInt8) := (ks.reverse.take j).flatMap fun k => [k, k]
theorem dblTo_succ (ks : List (List UInt8)) (j q : Nat) (x : List UInt8) (hj : q + 1 + j = ks.length) (hx : ks[q]? = some x) : dblTo ks (j + 1) = dblTo ks j ++ [x, x] := by
  unfold dblTo
  have : ks.reverse[j]? = some x := by
    rw [List.getElem?_reverse (by omega), show ks.length - 1 - j = q from by omega]; exact hx
  rw [take_snoc this, List.flatMap_append]; simp
theorem dblTo_mem (ks : List (List UInt8)) (x : List UInt8) : x ∈ ks ↔ x ∈ dblTo ks ks.length := by
  unfold dblTo
  rw [take_all (by simp)]
  simp

theorem spot_val (i : Int) (j : Nat) (hj : 0 < j) : ∃ J : Nat, J < j ∧ (0 ≤ i.tmod (j : Int) → i.tmod (j : Int) = (J : Int)) ∧ (i.tmod (j : Int) < 0 → i.tmod (j : Int) + (j : Int) = (J : Int)) := by
  have h1 := Int.tmod_lt_of_pos i (b := (j : Int)) (by omega)
  have h2 : -(j : Int) < i.tmod (j : Int) := Int.lt_tmod_of_pos i (by omega)
  rcases Int.lt_or_le (i.tmod (j : Int)) 0 with h | h
  · exact ⟨(i.tmod (j : Int) + j).toNat, by omega, fun _ => by omega, fun _ => by omega⟩
  · exact ⟨(i.tmod (j : Int)).toNat, by omega, fun _ => by omega, fun _ => by omega⟩

theorem grown_drewN (w : World) (n : Nat) : w.grownBy (w.drewN n) none := ⟨rfl, rfl, rfl, Nat.le_refl _, fun _ _ _ => rfl⟩
def bits_and (x y : UInt8) : Int := bits .and .u8 (x.toNat : Int) (y.toNat : Int)

set_option maxRecDepth 100000 in
set_option maxHeartbeats 8000000 in
theorem sets_any (bits i : Int) (ks : List (List UInt8)) (A : Option Addr) (n c : Nat) (w : World) (hn : n ≤ 9223372036854775807) (hnc : n ≤ c) (hr : RBs w w.heap.size A n ks) :
    Calls Try.prog 3 #[.int .i64 bits, .slice A n c, .int .i64 i] w fun e w' => e = .returned (.bool true) ∧ Below w.heap.size w w' := by
  have HR : Hid (∀ w', Below w.heap.size w w' → RBs w' w'.heap.size A n ks) := Lib.hid fun w' h => hr.later h
  have hlen := hr.len
  have tok1 : True := trivial
  have tok2 : True := trivial
  by_cases h0 : buildE bits ks = 0
  case neg =>
    have d1 : ((buildE bits ks : Int) != 0) = true := by rw [bne_iff_ne]; omega
    have H0 := Lib.hid h0
    clear h0
    go_enter Try.func3, Try.ntmps3
    go_wp2_with (first
      | (go_at_call 12; refine (started_any _).mono ?_; rintro e w0 ⟨rfl, hb0⟩)
      | (go_at_call 13; refine (build_any bits ks A n c _ hn (HR.out _ hb0)).mono ?_; rintro e w1 hp; obtain ⟨rfl, hb1⟩ := build_no H0.out hp)
      | (go_at_call 14; refine (num_any _ _).mono ?_; rintro e wn ⟨rfl, rfl⟩))
    go_ret
    exact ⟨rfl, hb0.trans (hb1.mono hb0.size)⟩
  have H0 := Lib.hid h0
  have hk := buildE_zero h0
  have hd0 : (n == 0) = decide (n = 0) := rfl
  clear h0
  by_cases hs : n = 0 ∨ 524288 < n
  case pos =>
    have d1 : ((n : Int) == 0) = decide (n = 0) := by rw [Bool.eq_iff_iff, beq_iff_eq, decide_eq_true_iff]; omega
    by_cases hz : n = 0
    · subst hz
      go_enter Try.func3, Try.ntmps3
      go_wp2_with (first
        | (go_at_call 12; refine (started_any _).mono ?_; rintro e w0 ⟨rfl, hb0⟩)
        | (go_at_call 13; refine (build_any bits ks A 0 c _ hn (HR.out _ hb0)).mono ?_; rintro e w1 hp; obtain ⟨g, rfl, hO1, hb1⟩ := build_ok H0.out hp)
        | (go_at_call 14; refine (num_any _ _).mono ?_; rintro e wn ⟨rfl, rfl⟩))
      go_ret
      exact ⟨rfl, hb0.trans (hb1.mono hb0.size)⟩
    · have d2 : ((n : Int) == 0) = false := by rw [d1]; exact decide_eq_false hz
      have d3 : decide (524288 < (n : Int)) = true := decide_eq_true (by omega)
      clear d1
      go_enter Try.func3, Try.ntmps3
      go_wp2_with (first
        | (go_at_call 12; refine (started_any _).mono ?_; rintro e w0 ⟨rfl, hb0⟩)
        | (go_at_call 13; refine (build_any bits ks A n c _ hn (HR.out _ hb0)).mono ?_; rintro e w1 hp; obtain ⟨g, rfl, hO1, hb1⟩ := build_ok H0.out hp)
        | (go_at_call 14; refine (num_any _ _).mono ?_; rintro e wn ⟨rfl, rfl⟩))
      go_ret
      exact ⟨rfl, hb0.trans (hb1.mono hb0.size)⟩
  have d2 : ((n : Int) == 0) = false := by rw [beq_eq_false_iff_ne]; omega
  have d3 : decide (524288 < (n : Int)) = false := decide_eq_false (by omega)
  obtain ⟨vs, hRv, hKv⟩ := hr.kv
  obtain ⟨bb, o, key0, _, _, rfl, _⟩ := hr.at_ (i := 0) (by omega)
  have N0 := Lib.hid fun w' : World => own_nil w' w.heap.size 24 1
  have HKv := Lib.hid hKv
  have hlv := hKv.1
  clear hr hKv
  go_enter Try.func3, Try.ntmps3
  go_wp2_with (first
    | (go_at_call 12; refine (started_any _).mono ?_; rintro e w0 ⟨rfl, hb0⟩)
    | (go_at_call 13; have _t := tok1; refine (build_any bits ks _ n c _ hn (HR.out _ hb0)).mono ?_; rintro e w1 hp; obtain ⟨g, rfl, hO1, hb1⟩ := build_ok H0.out hp; clear tok1)
    | (go_at_call 14; refine (num_any _ _).mono ?_; rintro e wn ⟨rfl, rfl⟩))
  have HB1 := Lib.hid (hb0.trans (hb1.mono hb0.size))
  have HF : Hid (∀ w', Below w1.heap.size w1 w' → RB w' w'.heap.size (some ⟨g, 0, none⟩) (buildB bits ks).length (buildB bits ks)) := Lib.hid fun w' h => (RB.own hO1).later h
  have hLm : (buildB bits ks).length ≤ 2621446 := by have := buildM_le H0.out; rw [buildB_length]; omega
  have hLl : 14 ≤ (buildB bits ks).length := by have := buildM_ge bits ks; rw [buildB_length]; omega
  obtain ⟨L, hL⟩ : ∃ L, L = (buildB bits ks).length := ⟨_, rfl⟩
  rw [← hL] at hLm hLl HF ⊢
  have HLL := Lib.hid hL
  have HC : Hid (∀ (q : Nat) (v : Value), vs[q]? = some v → w.cell? ⟨bb, o + q, none⟩ = some v ∧ bb < w.heap.size) := Lib.hid fun q v hv => by
    obtain ⟨b', o', e, hb, hc⟩ := hRv.2 (by omega)
    injection e with e; injection e with e1 e2
    subst e1; subst e2
    exact ⟨hc q v hv, hb⟩
  clear hp hO1 hb0 hb1 hL hRv hd0
  go_loopw [10, 11] (fun l k wr => ∃ j q : Nat, q + j = n ∧ k = .int .i64 ((q : Int) - 1) ∧ ∃ us : List Value, wr.ownsRow w1.heap.size 24 1 l (2 * j) us ∧ Hid (KV w w.heap.size us (dblTo ks j)) ∧ Hid (Below w1.heap.size w1 wr)) (fun _ k _ => (intOf k + 1).toNat)
  case atStart => exact ⟨0, n, rfl, rfl, [], own_nil _ _ _ _, Lib.hid KV.nil, Lib.hid (Below.refl _ _)⟩
  case round =>
    obtain ⟨j, q, hjq, rfl, us, hown, HU, HBr⟩ := hrel
    rcases Nat.eq_zero_or_pos q with hq | hq
    case inr =>
      obtain ⟨q, rfl⟩ : ∃ q', q = q' + 1 := ⟨q - 1, by omega⟩
      have eq1 : ((q + 1 : Nat) : Int) - 1 = (q : Int) := by omega
      rw [eq1]
      obtain ⟨x, hx⟩ : ∃ x, ks[q]? = some x := ⟨_, List.getElem?_eq_getElem (by omega)⟩
      obtain ⟨a, ca, hv, q1, q2, q3, q4⟩ := HKv.out.2 q x hx
      obtain ⟨hcv, hbb⟩ := HC.out q _ hv
      have hcr := (HBr.out.cell (p := ⟨bb, o + q, none⟩) (by have := HB1.out.size; simp; omega)).trans ((HB1.out.cell (p := ⟨bb, o + q, none⟩) hbb).trans hcv)
      have HU2 : Hid (KV w w.heap.size (us ++ [.slice a x.length ca, .slice a x.length ca]) (dblTo ks (j + 1))) := Lib.hid (by
        rw [dblTo_succ ks j q x (by omega) hx]
        exact HU.out.app ((KV.nil.cons ⟨a, ca, rfl, q1, q2, q3, q4⟩).cons ⟨a, ca, rfl, q1, q2, q3, q4⟩))
      have hdq : decide (0 ≤ (q : Int)) = true := decide_eq_true (by omega)
      have O2 : Hid (∀ u ∈ [Value.slice a x.length ca, .slice a x.length ca], u.oneCell' = true) := Lib.hid fun u hu => HU2.out.one u (by simp at hu ⊢; exact .inr hu)
      have HOW := Lib.hid hown
      have hbw1 : bb < w1.heap.size := Nat.lt_of_lt_of_le hbb HB1.out.size
      have hbw : bb < wr.heap.size := Nat.lt_of_lt_of_le hbw1 HBr.out.size
      have hbr : ¬(some bb = u10.ownBlock) := fun e => by have := (hown.lt bb e.symm).1; omega
      have hx1 : (0 : Int) ≤ (q : Int) := by omega
      have hx2 : (q : Int) < (n : Int) := by omega
      have hx3 : q < n := by omega
      have HN9 : Hid (w1.heap.size ≤ (wr.alloc (.cells #[.slice a x.length ca, .slice a x.length ca] 24)).heap.size) := Lib.hid (Nat.le_trans HBr.out.size (by simp))
      clear hv hx hcv hown
      go_wp2_with fail
      go_region_held3 (fun w' => w'.cell? ⟨bb, o + q, none⟩ = some (.slice a x.length ca)) (first | go_keep | (rw [hg9.cell_far _ (by simp; omega) (by simpa using hbr)]; assumption))
        ((refine step_append_lies _ (by rfl) _ _ _ (by rfl) w1.heap.size 24 Try.t24 (.slice none 0 0) 1 24 Try.underlying22 (by kernel_rfl) (by rfl) (by rfl) (by rfl) (by rfl) (by omega) u10 (2 * j) us (by rfl) ((own_below HOW.out ((Below.refl _ _).alloc (Nat.le_refl _) _)).drew)
            ⟨wr.heap.size, 0, none⟩ 2 2 [.slice a x.length ca, .slice a x.length ca] (by rfl) (by rfl) (World.news_of_block (cs := #[.slice a x.length ca, .slice a x.length ca]) (t := 24) (fr := (0, 0)) (heap_alloc_new wr _)) O2.out
            (by omega) (by unfold maxLen; omega) (by omega) HN9.out (wr.heap.size + 1) (by simp) ?_; intro g9 cap9 w9 hown9 hg9 hat9 hlt9))
      have HB9 : Hid (Below w1.heap.size w1 w9) := Lib.hid (below_app (HBr.out.alloc HBr.out.size _).drew (own_drew (own_below HOW.out ((Below.refl _ _).alloc (Nat.le_refl _) _))) hg9 HN9.out (Nat.le_refl _))
      clear hg9 hat9 hlt9 hcr
      go_wp2
      go_roundw
      case rel => exact ⟨j + 1, q, by omega, by go_num, _, by rw [show 2 * (j + 1) = 2 * j + 2 from by omega]; exact hown9, HU2, HB9⟩
      case measure => simp [intOf]
    have hjn : j = n := by omega
    subst hjn
    subst hq
    have hm1 : decide ((0 : Int) ≤ ((0 : Nat) : Int) - 1) = false := by decide
    obtain ⟨A2, c2, rfl, hl1, hl2, _, hrl⟩ := own_slice hown
    have HBw : Hid (Below w.heap.size w wr) := Lib.hid (HB1.out.trans (HBr.out.mono HB1.out.size))
    have HL2 := Lib.hid (((HU.out.later HBw.out)).rbs hrl)
    have HS : Hid (buildB bits (dblTo ks j) = buildB bits ks) := Lib.hid (buildB_same bits fun x => by rw [← hlen]; exact (dblTo_mem ks x).symm)
    have HE2 : Hid (buildE bits (dblTo ks j) = 0) := Lib.hid (by
      have := HU.out.1
      have h2 := hown.1
      unfold buildE
      rw [if_neg (by omega), if_neg (by omega)])
    have Hl3 : Hid (2 * j ≤ 9223372036854775807) := Lib.hid (by omega)
    have tok3 : True := trivial
    have HFA := Lib.hid (HF.out _ HBr.out)
    clear hown hrl hl1 hl2
    obtain ⟨J, hJ, hJ0, hJ1⟩ := spot_val i j (by omega)
    obtain ⟨kw, hkw⟩ : ∃ kw, kw = ks.take J ++ ks.drop (J + 1) := ⟨_, rfl⟩
    have hkwl : kw.length = j - 1 := by rw [hkw, List.length_append, List.length_take, List.length_drop, hlen]; omega
    have HE3 : Hid (buildE bits kw = 0) := Lib.hid (by unfold buildE; rw [if_neg (by omega), if_neg (by omega)])
    have HM3 : Hid (∀ x ∈ kw, x ∈ ks) := Lib.hid fun x hx => by
      rw [hkw] at hx
      rcases List.mem_append.1 hx with h | h
      · exact List.mem_of_mem_take h
      · exact List.mem_of_mem_drop h
    obtain ⟨M, hM⟩ : ∃ M, M = (buildB bits kw).length := ⟨_, rfl⟩
    have hMm : M ≤ 2621446 := by have := buildM_le HE3.out; rw [hM, buildB_length]; omega
    have hMl : 14 ≤ M := by have := buildM_ge bits kw; rw [hM, buildB_length]; omega
    have hML : M ≤ L := by
      have := buildM_mono bits HM3.out
      rw [hM, HLL.out, buildB_length, buildB_length]; omega
    have HMM := Lib.hid hM
    have HKW := Lib.hid hkw
    have hj2 : j ≤ 1048576 := by omega
    have hj3 : j - 1 ≤ 9223372036854775807 := by omega
    have hd7 : decide ((M : Int) < 14) = false := decide_eq_false (by omega)
    have hd8 : decide ((L : Int) < 14) = false := decide_eq_false (by omega)
    have hord1 := buildB_least H0.out (by intro e; rw [e] at hlen; simp at hlen; omega)
    have hord2 := buildB_most H0.out
    have hord3 : M = L → onesN (buildB bits kw) ≤ onesN (buildB bits ks) := fun e => by
      have em := (buildB_fewer bits (HMM.out.symm.trans (e.trans HLL.out))).1
      rw [buildB_ones HE3.out, buildB_ones H0.out, ← em]
      exact cntS_mono _ fun i _ h => buildS_mono _ _ HM3.out i h
    obtain ⟨O1, hO1⟩ : ∃ O1, O1 = onesN (buildB bits ks) := ⟨_, rfl⟩
    obtain ⟨O2, hO2⟩ : ∃ O2, O2 = onesN (buildB bits kw) := ⟨_, rfl⟩
    obtain ⟨p, hp⟩ : ∃ p, p = buildP bits := ⟨_, rfl⟩
    obtain ⟨P, hP⟩ : ∃ P, P = p * j := ⟨_, rfl⟩
    rw [← hp, hlen, ← hP, ← hO1] at hord2
    rw [← hO1] at hord1
    rw [← hO1, ← hO2] at hord3
    have hp14 : p ≤ 14 := by have := (buildP_le H0.out).2; omega
    have hPm : P ≤ 7340032 := by
      rw [hP]
      exact Nat.mul_le_mul hp14 (show j ≤ 524288 by omega)
    have hpj : (p : Int) * (j : Int) = (P : Int) := by rw [hP, Int.natCast_mul]
    have HF1 : Hid ((buildB bits ks)[1]? = some (UInt8.ofNat p) ∧ (UInt8.ofNat p).toNat = p) := Lib.hid (by
      rw [hp]
      refine ⟨?_, ?_⟩
      · unfold buildB
        rw [filterB_head _ _ _ _ (by decide)]
        rfl
      · rw [UInt8.toNat_ofNat', Nat.mod_eq_of_lt (by omega)])
    have HO1 := Lib.hid hO1
    have HO2 := Lib.hid hO2
    have hd10 : decide (1 ≤ (O1 : Int)) = true := decide_eq_true (by omega)
    have hd11 : decide ((O1 : Int) ≤ (P : Int)) = true := decide_eq_true (by omega)
    clear hM hkw hkwl hO1 hO2 hp hP
    have HLm : Hid (L ≤ 9223372036854775807) := Lib.hid (by omega)
    by_cases hLM : M = L
    case neg =>
      have hd9 : ((M : Int) == (L : Int)) = false := by rw [beq_eq_false_iff_ne]; omega
      have hd12 : decide ((M : Int) < (L : Int)) = true := decide_eq_true (by omega)
      have hlt9 : M < L := by omega
      clear hord3
      rcases Int.lt_or_le (i.tmod (j : Int)) 0 with hneg | hpos
      all_goals
        first
        | (have hJe := hJ0 hpos; clear hJ0 hJ1 hpos; have hd4 : decide ((J : Int) < 0) = false := decide_eq_false (by omega))
        | (have hJe := hJ1 hneg; clear hJ0 hJ1; have hd4 : decide (i.tmod (j : Int) < 0) = true := decide_eq_true hneg)
        go_wp2_with (first
          | (go_at_call 13; have _t := tok2; refine (build_any bits (dblTo ks j) A2 (2 * j) c2 _ Hl3.out HL2.out).mono ?_; rintro e w2 hp2; obtain ⟨g2, rfl, hO2, hb2⟩ := build_ok HE2.out hp2; rw [HS.out] at hO2 ⊢; rw [← HLL.out] at hO2 ⊢; clear tok2 hp2; have HG2 := Lib.hid (RB.own hO2); have HB2 := Lib.hid hb2; have HF2 := Lib.hid (HFA.out.later hb2); clear hO2 hb2)
          | (go_at_call 14; refine (num_any _ _).mono ?_; rintro e wn ⟨rfl, rfl⟩)
          | (go_at_call 15; refine (alike_any (buildB bits ks) (buildB bits ks) _ _ L L L L _ HF2.out HG2.out).mono ?_; rw [beq_self_eq_true]; rintro e wn ⟨rfl, rfl⟩)
          | (go_at_call 16; refine (without_any ks J _ j c _ hj2 hJ hnc (HR.out _ (HBw.out.trans (HB2.out.mono HBw.out.size)))).mono ?_; rintro e w3 ⟨A3, c3, rfl, _, _, hK3, hb3⟩; have HB3 := Lib.hid hb3; have HK3 := Lib.hid hK3; clear hb3 hK3)
          | (go_at_call 13; refine (build_any bits kw A3 (j - 1) c3 _ hj3 (by rw [HKW.out]; exact HK3.out)).mono ?_; rintro e w4 hp4; obtain ⟨g4, rfl, hO4, hb4⟩ := build_ok HE3.out hp4; rw [← HMM.out] at hO4 ⊢; clear hp4; have HG4 := Lib.hid (RB.own hO4); have HB4 := Lib.hid hb4; have HF4 := Lib.hid ((HF2.out.later HB3.out).later hb4); clear hO4 hb4)
          | (go_at_call 17; refine (ones_any (buildB bits ks) _ L L _ HLm.out (Nat.le_refl _) HF4.out).mono ?_; rw [← HO1.out]; rintro e w5 ⟨rfl, hb5⟩; have HB5 := Lib.hid hb5; have hcf : w5.cell? ⟨g, 1, none⟩ = some (.int .u8 (p : Int)) := (by have := (HF4.out.later hb5).cell HF1.out.1; rw [HF1.out.2] at this; simpa using this); clear hb5))
        go_ret
        have hA := HBw.out.trans (HB2.out.mono HBw.out.size)
        have hA2 := hA.trans (HB3.out.mono hA.size)
        have hA3 := hA2.trans (HB4.out.mono hA2.size)
        exact ⟨rfl, hA3.trans (HB5.out.mono hA3.size)⟩
    case pos =>
      have hd9 : ((M : Int) == (L : Int)) = true := by rw [beq_iff_eq]; omega
      have hd13 : decide (M < L) = false := decide_eq_false (by omega)
      have hd14 : decide (O2 ≤ O1) = true := decide_eq_true (hord3 hLM)
      have HAND : Hid (∀ (q : Nat) (x y : UInt8), 6 ≤ q → (buildB bits kw)[q]? = some x → (buildB bits ks)[q]? = some y → bits_and x y = (x.toNat : Int)) := Lib.hid fun q x y h6 hx hy => by
        unfold bits_and
        have hx8 := x.toNat_lt
        have hy8 := y.toNat_lt
        rw [u8_and_nat _ _ (by omega) (by omega), buildB_and bits HM3.out (HMM.out.symm.trans (hLM.trans HLL.out)) q h6 x y hx hy]
      have HHEAD : Hid (∀ q, q < 6 → (buildB bits kw)[q]? = (buildB bits ks)[q]?) := Lib.hid (buildB_fewer bits (HMM.out.symm.trans (hLM.trans HLL.out))).2
      have HLM := Lib.hid hLM
      clear hord3 hLM hML
      rcases Int.lt_or_le (i.tmod (j : Int)) 0 with hneg | hpos
      all_goals
        first
        | (have hJe := hJ0 hpos; clear hJ0 hJ1 hpos; have hd4 : decide ((J : Int) < 0) = false := decide_eq_false (by omega))
        | (have hJe := hJ1 hneg; clear hJ0 hJ1; have hd4 : decide (i.tmod (j : Int) < 0) = true := decide_eq_true hneg)
        go_wp2_with (first
          | (go_at_call 13; have _t := tok2; refine (build_any bits (dblTo ks j) A2 (2 * j) c2 _ Hl3.out HL2.out).mono ?_; rintro e w2 hp2; obtain ⟨g2, rfl, hO2, hb2⟩ := build_ok HE2.out hp2; rw [HS.out] at hO2 ⊢; rw [← HLL.out] at hO2 ⊢; clear tok2 hp2; have HG2 := Lib.hid (RB.own hO2); have HB2 := Lib.hid hb2; have HF2 := Lib.hid (HFA.out.later hb2); clear hO2 hb2)
          | (go_at_call 14; refine (num_any _ _).mono ?_; rintro e wn ⟨rfl, rfl⟩)
          | (go_at_call 15; refine (alike_any (buildB bits ks) (buildB bits ks) _ _ L L L L _ HF2.out HG2.out).mono ?_; rw [beq_self_eq_true]; rintro e wn ⟨rfl, rfl⟩)
          | (go_at_call 16; refine (without_any ks J _ j c _ hj2 hJ hnc (HR.out _ (HBw.out.trans (HB2.out.mono HBw.out.size)))).mono ?_; rintro e w3 ⟨A3, c3, rfl, _, _, hK3, hb3⟩; have HB3 := Lib.hid hb3; have HK3 := Lib.hid hK3; clear hb3 hK3)
          | (go_at_call 13; refine (build_any bits kw A3 (j - 1) c3 _ hj3 (by rw [HKW.out]; exact HK3.out)).mono ?_; rintro e w4 hp4; obtain ⟨g4, rfl, hO4, hb4⟩ := build_ok HE3.out hp4; rw [← HMM.out] at hO4 ⊢; clear hp4; have HG4 := Lib.hid (RB.own hO4); have HB4 := Lib.hid hb4; have HF4 := Lib.hid ((HF2.out.later HB3.out).later hb4); clear hO4 hb4))
        go_loopw [14] (fun k wr9 => ∃ q : Nat, q ≤ L ∧ k = .int .i64 q ∧ Hid (Below w4.heap.size w4 wr9)) (fun k _ => L - (intOf k).toNat)
        case atStart => exact ⟨0, Nat.zero_le _, rfl, Lib.hid (Below.refl _ _)⟩
        case round =>
          obtain ⟨q, hq, rfl, HB9⟩ := hrel
          by_cases hqL : q < L
          case pos =>
            have hqM : q < M := by have := HLM.out; omega
            obtain ⟨x, hx⟩ : ∃ x, (buildB bits kw)[q]? = some x := ⟨_, List.getElem?_eq_getElem (by rw [← HMM.out]; exact hqM)⟩
            obtain ⟨y, hy⟩ : ∃ y, (buildB bits ks)[q]? = some y := ⟨_, List.getElem?_eq_getElem (by rw [← HLL.out]; exact hqL)⟩
            have hcx : wr.cell? ⟨g4, q, none⟩ = some (.int .u8 (x.toNat : Int)) := by
              have := (HG4.out.later HB9.out).cell hx
              simpa using this
            have hcy : wr.cell? ⟨g, q, none⟩ = some (.int .u8 (y.toNat : Int)) := by
              have := (HF4.out.later HB9.out).cell hy
              simpa using this
            have hz0 : (0 : Int) ≤ (q : Int) := by omega
            have hz1 : (q : Int) < (L : Int) := by omega
            have hz2 : (q : Int) < (M : Int) := by omega
            have hdq : decide ((q : Int) < (L : Int)) = true := decide_eq_true hz1
            by_cases h6 : 6 ≤ q
            · have ha : (bits_and x y != (x.toNat : Int)) = false := by rw [HAND.out q x y h6 hx hy]; simp
              unfold bits_and at ha
              have hd6 : decide (6 ≤ (q : Int)) = true := decide_eq_true (by omega)
              have hd66 : decide ((q : Int) < 6) = false := decide_eq_false (by omega)
              clear hx hy h6
              go_wp2_with fail
              go_quiet (fail)
              go_wp2
              go_roundw
              case rel => exact ⟨q + 1, by omega, by go_num, Lib.hid (HB9.out.grown (grown_drewN _ _) HB9.out.size (by simp))⟩
              case measure => simp [intOf]; omega
            · have ha : ((x.toNat : Int) != (y.toNat : Int)) = false := by
                have := HHEAD.out q (by omega)
                rw [hx, hy] at this
                injection this with this
                rw [this]; simp
              have hd6 : decide (6 ≤ (q : Int)) = false := decide_eq_false (by omega)
              have hd66 : decide ((q : Int) < 6) = true := decide_eq_true (by omega)
              clear hx hy h6
              go_wp2_with fail
              go_quiet (fail)
              go_wp2
              go_roundw
              case rel => exact ⟨q + 1, by omega, by go_num, Lib.hid (HB9.out.grown (grown_drewN _ _) HB9.out.size (by simp))⟩
              case measure => simp [intOf]; omega
          have hdq : decide ((q : Int) < (L : Int)) = false := decide_eq_false (by omega)
          have HF5 := Lib.hid (HF4.out.later HB9.out)
          have HG5 := Lib.hid (HG4.out.later HB9.out)
          have HMm : Hid (M ≤ 9223372036854775807) := Lib.hid (by omega)
          clear hlen hk hs hn hnc hlv hjq hJ hJe hMm hMl hj3 hd7 hd8 hq
          go_wp2_with (first
            | (go_at_call 17; have _t := tok3; refine (ones_any (buildB bits ks) _ L L _ HLm.out (Nat.le_refl _) HF5.out).mono ?_; rw [← HO1.out]; rintro e w5 ⟨rfl, hb5⟩; have HB5 := Lib.hid hb5; have hcf : w5.cell? ⟨g, 1, none⟩ = some (.int .u8 (p : Int)) := (by have := (HF5.out.later hb5).cell HF1.out.1; rw [HF1.out.2] at this; simpa using this); have HG6 := Lib.hid (HG5.out.later hb5); clear tok3 hb5)
            | (go_at_call 17; refine (ones_any (buildB bits kw) _ M M _ HMm.out (Nat.le_refl _) HG6.out).mono ?_; rw [← HO2.out]; rintro e w6 ⟨rfl, hb6⟩; have HB6 := Lib.hid hb6; clear hb6))
          go_ret
          have hA := HBw.out.trans (HB2.out.mono HBw.out.size)
          have hA2 := hA.trans (HB3.out.mono hA.size)
          have hA3 := hA2.trans (HB4.out.mono hA2.size)
          have hA4 := hA3.trans (HB9.out.mono hA3.size)
          have hA5 := hA4.trans (HB5.out.mono hA4.size)
          exact ⟨rfl, hA5.trans (HB6.out.mono hA5.size)⟩

end Go.Proofs.Ythjjihipodhkiaa

/-
  The statements' many, walked.
-/
namespace Go.Proofs.Ythjjihipodhkiaa
open Go.RowKit

theorem made_nils (L : Nat) : (madeCells (Value.slice none 0 0).cells L).toList = List.replicate L (.slice none 0 0) := by
  have e : (Value.slice none 0 0).cells = #[.slice none 0 0] := rfl
  rw [e]
  apply List.ext_getElem?
  intro i
  simp only [madeCells, List.getElem?_replicate, Array.toList_map, Array.toList_range, List.getElem?_map, List.size_toArray, List.length_cons, List.length_nil, Nat.zero_add, Nat.mod_one]
  by_cases h : i < L
  · rw [if_pos h, List.getElem?_range h]; rfl
  · rw [if_neg h, List.getElem?_eq_none (by simpa using h)]; rfl
theorem nils_rbs {w : World} {base e : Nat} {N : Nat} {g : Nat} (h : w.ownsRow base e 1 (.slice (some ⟨g, 0, none⟩) N N) N (List.replicate N (.slice none 0 0))) : RBs w w.heap.size (some ⟨g, 0, none⟩) N (List.replicate N []) := by
  refine ⟨_, Reads.own h, by simp, fun i k hk => ?_⟩
  have hi : i < N := by have := (List.getElem?_eq_some_iff.1 hk).1; simpa using this
  rw [List.getElem?_replicate, if_pos hi] at hk
  injection hk with hk
  subst hk
  exact ⟨none, 0, by rw [List.getElem?_replicate, if_pos hi]; rfl, Nat.le_refl _, by omega, fun _ => rfl, RB.nil⟩

set_option maxRecDepth 100000 in
set_option maxHeartbeats 1000000 in
theorem many_any (w : World) : Calls Try.prog 22 #[] w fun e w' => e = .returned (.bool true) ∧ Below w.heap.size w w' := by
  obtain ⟨N, hN⟩ : ∃ N : Nat, N = 1048577 := ⟨_, rfl⟩
  have XN := Lib.hid hN
  have hN2 : N ≤ 9223372036854775807 := by omega
  obtain ⟨ks, hks⟩ : ∃ ks : List (List UInt8), ks = List.replicate N [] := ⟨_, rfl⟩
  have hl : ks.length = N := by rw [hks]; simp
  have XK := Lib.hid hks
  have E0 : Hid (buildE 0 ks = 60) := Lib.hid (by unfold buildE; rw [if_pos (by omega)])
  have E1 : Hid (buildE 20 ks = 61) := Lib.hid (by unfold buildE; rw [if_neg (by omega), if_pos (by omega)])
  have tok1 : True := trivial
  clear hN hks hl
  go_enter Try.func22, Try.ntmps22
  go_wp2_with (first
    | (at_make; go_must (refine wpList_make_full _ rfl (.const (.int .i64 1048577)) (.const (.int .i64 1048577)) 22 rfl w.heap.size 24 Try.t24 (.slice none 0 0) 1 Try.underlying22 (by kernel_rfl) rfl rfl .i64 .i64 _ _ N rfl rfl (by rw [XN.out]; rfl) (by rw [XN.out]; rfl) (by show 24 * _ ≤ _; have := XN.out; omega) (by have := XN.out; unfold maxLen; omega) (Nat.le_refl _) ?_); intro w1 hown1 hg1; rw [Nat.mul_one, made_nils] at hown1; have HB1 := Lib.hid (below_grown_none hg1); have HK := Lib.hid (nils_rbs hown1); rw [← XK.out] at HK; clear hown1 hg1)
    | (go_at_call 13; have _t := tok1; go_must (refine (build_any 0 ks _ N N _ hN2 HK.out).mono ?_); rintro e w2 hp; have hp := build_no (by rw [E0.out]; decide) hp; rw [E0.out] at hp; obtain ⟨rfl, hb2⟩ := hp; have HB2 := Lib.hid (HB1.out.trans (hb2.mono HB1.out.size)); have HK2 := Lib.hid (HK.out.later hb2); clear tok1 hb2)
    | (go_at_call 13; go_must (refine (build_any 20 ks _ N N _ hN2 HK2.out).mono ?_); rintro e w3 hp; have hp := build_no (by rw [E1.out]; decide) hp; rw [E1.out] at hp; obtain ⟨rfl, hb3⟩ := hp; have HB3 := Lib.hid (HB2.out.trans (hb3.mono HB2.out.size)); clear hb3)
    | (go_at_call 14; refine (num_any _ _).mono ?_; rintro e wn ⟨rfl, rfl⟩))
  go_ret
  exact ⟨rfl, HB3.out⟩

end Go.Proofs.Ythjjihipodhkiaa

/-
  The statements' asked of any call, plays, the three laws, walked.
-/
namespace Go.Proofs.Ythjjihipodhkiaa
open Go.RowKit

set_option maxRecDepth 100000 in
set_option maxHeartbeats 4000000 in
theorem asked_1 (f g : List UInt8) (ks : List (List UInt8)) (A G KA : Option Addr) (n c m d kn kc : Nat) (N : Int) (w : World) (hs : Sl w A n c f) (hg : Sl w G m d g) (hn : n ≤ 140737488355000) (hm : m ≤ 140737488355000) (hk : RBs w w.heap.size KA kn ks) (hkn : kn ≤ 1048576) (hkb : ks.flatten.length ≤ 1048576) : Calls Try.prog 36 #[.agg #[.int .i64 1, .int .i64 N, .slice KA kn kc, .slice A n c, .slice G m d]] w fun e w' => e = .returned (.bool true) ∧ Below w.heap.size w w' := by
  have HB0 := Lib.hid ((Below.refl w.heap.size w).alloc (Nat.le_refl _) (.cells #[.int .i64 1, .int .i64 N, .slice KA kn kc, .slice A n c, .slice G m d] 45))
  have HX := box5 w #[.int .i64 1, .int .i64 N, .slice KA kn kc, .slice A n c, .slice G m d] 45 _ _ _ _ _ rfl
  have HS : Hid (∀ w', Below w.heap.size w w' → Sl w' A n c f) := Lib.hid fun w' h => hs.later h
  have HG : Hid (∀ w', Below w.heap.size w w' → Sl w' G m d g) := Lib.hid fun w' h => hg.later h
  have HK : Hid (∀ w', Below w.heap.size w w' → RBs w' w'.heap.size KA kn ks) := Lib.hid fun w' h => hk.later h
  have HL := Lib.hid hs.len
  have HKB := Lib.hid hkb
  have HGL := Lib.hid hg.len
  obtain ⟨RF, hRF⟩ : ∃ R, R = f ++ mkB := ⟨_, rfl⟩
  obtain ⟨RG, hRG⟩ : ∃ R, R = g ++ mkB := ⟨_, rfl⟩
  have XRF := Lib.hid hRF
  have XRG := Lib.hid hRG
  have XFL : Hid (RF.length = n + 5) := Lib.hid (by rw [hRF, List.length_append, hs.len]; rfl)
  have XGL : Hid (RG.length = m + 5) := Lib.hid (by rw [hRG, List.length_append, hg.len]; rfl)
  have tok1 : True := trivial
  obtain ⟨gb, hgb⟩ : ∃ g, g = w.heap.size := ⟨_, rfl⟩
  clear hs hg hk hkb hRF hRG
  have HGB := Lib.hid hgb
  go_enter Try.func36, Try.ntmps36
  obtain ⟨u0, u1, u2, u3, u4⟩ := HX.out _ (Below.refl _ _)
  go_upto_region 3 with (first
    | (go_at_call 25; have _t := tok1; go_must (refine (wide_any f A n c _ (by omega) (HS.out _ HB0.out).rb).mono ?_); rintro e w1 hq; rw [← XRF.out] at hq; obtain ⟨WA, wc, rfl, hS1, _, hb1⟩ := hq.at_ XFL.out; have HB1 := Lib.hid (HB0.out.trans (hb1.mono HB0.out.size)); have HW1 := Lib.hid hS1; have HX1 := Lib.hid (fun x (h : Below w1.heap.size w1 x) => HX.out x (hb1.trans (h.mono hb1.size))); obtain ⟨x0, x1, x2, x3, x4⟩ := HX1.out w1 (Below.refl _ _); clear tok1 hq hS1 hb1 u0 u1 u2 u3 u4)
    | (go_at_call 25; go_must (refine (wide_any g G m d _ (by omega) (HG.out _ HB1.out).rb).mono ?_); rintro e w2 hq; rw [← XRG.out] at hq; obtain ⟨GA, gc, rfl, hS2, _, hb2⟩ := hq.at_ XGL.out; have HB2 := Lib.hid (HB1.out.trans (hb2.mono HB1.out.size)); have HX2 := Lib.hid (fun x (h : Below w2.heap.size w2 x) => HX1.out x (hb2.trans (h.mono hb2.size))); clear hq hS2 hb2 x0 x1 x2 x3 x4))
  rw [← hgb] at HX2 ⊢
  obtain ⟨x0, x1, x2, x3, x4⟩ := HX2.out w2 (Below.refl _ _)
  clear HX HX1 HW1 HB0 HB1 hgb
  go_wp2_with (go_at_call 44; go_must (refine (builds_any N ks KA A G kn kc n c m d _ (HK.out _ HB2.out) hkn HKB.out).mono ?_); rintro e w3 ⟨rfl, hb3⟩; have HB3 := Lib.hid (HB2.out.trans (hb3.mono HB2.out.size)); clear hb3)
  go_ret
  exact ⟨rfl, HB3.out⟩

theorem asked_any (K : Int) (f g : List UInt8) (ks : List (List UInt8)) (A G KA : Option Addr) (n c m d kn kc : Nat) (N : Int) (w : World) (hs : Sl w A n c f) (hg : Sl w G m d g) (hn : n ≤ 140737488355000) (hm : m ≤ 140737488355000) (hk : RBs w w.heap.size KA kn ks) (hkn : kn ≤ 1048576) (hkb : ks.flatten.length ≤ 1048576) :
    Calls Try.prog 36 #[.agg #[.int .i64 K, .int .i64 N, .slice KA kn kc, .slice A n c, .slice G m d]] w fun e w' => e = .returned (.bool true) ∧ Below w.heap.size w w' := by
  by_cases h1 : K = 1
  · subst h1; exact asked_1 f g ks A G KA n c m d kn kc N w hs hg hn hm hk hkn hkb
  by_cases h2 : K = 2
  · subst h2; exact asked_2 f g A G KA n c m d kn kc N w hs hg hn hm
  by_cases h3 : K = 3
  · subst h3; exact asked_3 f g A G KA n c m d kn kc N w hs hg hn hm
  by_cases h4 : K = 4
  · subst h4; exact asked_4 f g A G KA n c m d kn kc N w hs hg hn hm
  by_cases h5 : K = 5
  · subst h5; exact asked_5 f g A G KA n c m d kn kc N w hs hg hn hm
  exact asked_none f g A G KA n c m d kn kc N w hs hg hn hm K (beq_eq_false_iff_ne.2 h1) (beq_eq_false_iff_ne.2 h2) (beq_eq_false_iff_ne.2 h3) (beq_eq_false_iff_ne.2 h4) (beq_eq_false_iff_ne.2 h5)

/-- A call's fields lie at a place. -/
def AskAt (w : World) (b q : Nat) (K : Int) : Prop :=
  ∃ (N : Int) (f g : List UInt8) (ks : List (List UInt8)) (A G KA : Option Addr) (n c m d kn kc : Nat), w.cell? ⟨b, q, none⟩ = some (.int .i64 K) ∧ w.cell? ⟨b, q + 1, none⟩ = some (.int .i64 N) ∧ w.cell? ⟨b, q + 2, none⟩ = some (.slice KA kn kc) ∧ w.cell? ⟨b, q + 3, none⟩ = some (.slice A n c) ∧ w.cell? ⟨b, q + 4, none⟩ = some (.slice G m d) ∧
    Sl w A n c f ∧ Sl w G m d g ∧ RBs w w.heap.size KA kn ks ∧ n ≤ 1048576 ∧ m ≤ 1048576 ∧ kn ≤ 1048576 ∧ ks.flatten.length ≤ 1048576
/-- A script of calls. -/
def Asks (w : World) (A : Option Addr) (n : Nat) : Prop := 0 < n → ∃ b o, A = some ⟨b, o, none⟩ ∧ b < w.heap.size ∧ ∀ i, i < n → ∃ K, AskAt w b (o + i * 5) K
theorem AskAt.later {w w' : World} {b q : Nat} {K : Int} (h : AskAt w b q K) (hlt : b < w.heap.size) (hb : Below w.heap.size w w') : AskAt w' b q K := by
  obtain ⟨N, f, g, ks, A, G, KA, n, c, m, d, kn, kc, c0, c1, c2, c3, c4, hs, hg, hp, hr⟩ := h
  have hc : ∀ j, w'.cell? ⟨b, j, none⟩ = w.cell? ⟨b, j, none⟩ := fun j => hb.cell (p := ⟨b, j, none⟩) hlt
  exact ⟨N, f, g, ks, A, G, KA, n, c, m, d, kn, kc, (hc _).trans c0, (hc _).trans c1, (hc _).trans c2, (hc _).trans c3, (hc _).trans c4, hs.later hb, hg.later hb, hp.later hb, hr⟩
theorem Asks.later {w w' : World} {A : Option Addr} {n : Nat} (h : Asks w A n) (hb : Below w.heap.size w w') : Asks w' A n := fun hn => by
  obtain ⟨b, o, e, hlt, hq⟩ := h hn
  exact ⟨b, o, e, Nat.lt_of_lt_of_le hlt hb.size, fun i hi => by obtain ⟨K, hk⟩ := hq i hi; exact ⟨K, hk.later hlt hb⟩⟩

set_option maxRecDepth 100000 in
set_option maxHeartbeats 2000000 in
theorem plays_any (A : Option Addr) (n c : Nat) (lo hi : Int) (w : World) (hs : Asks w A n) (hn : n ≤ 9223372036854775807) :
    Calls Try.prog 21 #[.slice A n c, .int .i64 lo, .int .i64 hi] w fun e w' => e = .returned (.bool true) ∧ Below w.heap.size w w' := by
  have HS : Hid (∀ w', Below w.heap.size w w' → Asks w' A n) := Lib.hid fun w' h => hs.later h
  clear hs
  have tok1 : True := trivial
  go_enter Try.func21, Try.ntmps21
  go_wp2_with (go_at_call 12; have _t := tok1; go_must (refine (started_any _).mono ?_); rintro e w1 ⟨rfl, hb1⟩; have HB1 := Lib.hid hb1; clear tok1 hb1)
  go_loopw [7, 8] (fun s i wr => s = .bool true ∧ ∃ k : Nat, k ≤ n ∧ i = .int .i64 k ∧ Hid (Below w.heap.size w wr)) (fun _ i _ => n - (intOf i).toNat)
  case atStart => exact ⟨rfl, 0, Nat.zero_le _, rfl, HB1⟩
  case round =>
    obtain ⟨rfl, k, hk, rfl, HB⟩ := hrel
    by_cases hlt : k < n
    case neg =>
      go_wp2_with (go_at_call 12; go_must (refine (started_any _).mono ?_); rintro e w2 ⟨rfl, hb2⟩; have HB2 := Lib.hid (HB.out.trans (hb2.mono HB.out.size)); clear hb2)
      go_ret
      exact ⟨rfl, HB2.out⟩
    obtain ⟨b, o, rfl, hblt, hq⟩ := HS.out wr HB.out (by omega)
    obtain ⟨K, N, f, g, ks, FA, GA, KA, fn, fc, gn, gc, kn, kc, c0, c1, c2, c3, c4, hsl, hgl, hrb, h2, h3, h4, h5⟩ := hq k hlt
    have HP := Lib.hid (asked_any K f g ks FA GA KA fn fc gn gc kn kc N wr hsl hgl (by omega) (by omega) hrb h4 h5)
    clear hq hsl hgl hrb h2 h3 h4 h5 hblt
    have hcase : decide (lo ≤ K) = false ∨ (decide (lo ≤ K) = true ∧ decide (K ≤ hi) = false) ∨ (decide (lo ≤ K) = true ∧ decide (K ≤ hi) = true) := by
      cases decide (lo ≤ K) <;> cases decide (K ≤ hi) <;> simp
    rcases hcase with d1 | ⟨d1, d2⟩ | ⟨d1, d2⟩
    · go_wp2_with fail
      go_roundw
      case rel => exact ⟨rfl, k + 1, by omega, by go_num, HB⟩
      case measure => simp [intOf]; omega
    · go_wp2_with fail
      go_roundw
      case rel => exact ⟨rfl, k + 1, by omega, by go_num, HB⟩
      case measure => simp [intOf]; omega
    · go_wp2_with (go_at_call 36; go_must (refine HP.out.mono ?_); rintro e w2 ⟨rfl, hb2⟩; have HB2 := Lib.hid (HB.out.trans (hb2.mono HB.out.size)); clear hb2)
      go_roundw
      case rel => exact ⟨rfl, k + 1, by omega, by go_num, HB2⟩
      case measure => simp [intOf]; omega

section
variable (A : Option Addr) (n c : Nat) (w : World) (hs : Asks w A n) (hn : n ≤ 9223372036854775807)
include hs hn

set_option maxRecDepth 100000 in
theorem builds_law : Calls Try.prog 7 #[.slice A n c] w fun e w' => e = .returned (.bool true) ∧ Below w.heap.size w w' := by
  have HS := Lib.hid hs
  clear hs
  go_enter Try.func7, Try.ntmps7
  go_wp2_with (first
    | (go_at_call 21; go_must (refine (plays_any A n c _ _ _ HS.out hn).mono ?_); rintro e w1 ⟨rfl, hb1⟩; have HB1 := Lib.hid hb1; clear hb1)
    | (go_at_call 22; go_must (refine (many_any _).mono ?_); rintro e w2 ⟨rfl, hb2⟩; have HB2 := Lib.hid (HB1.out.trans (hb2.mono HB1.out.size)); clear hb2))
  go_ret
  exact ⟨rfl, HB2.out⟩

set_option maxRecDepth 100000 in
theorem answers_law : Calls Try.prog 8 #[.slice A n c] w fun e w' => e = .returned (.bool true) ∧ Below w.heap.size w w' := by
  have HS := Lib.hid hs
  clear hs
  go_enter Try.func8, Try.ntmps8
  go_wp2_with (go_at_call 21; go_must (refine (plays_any A n c _ _ _ HS.out hn).mono ?_); rintro e w1 ⟨rfl, hb1⟩; have HB1 := Lib.hid hb1; clear hb1)
  go_ret
  exact ⟨rfl, HB1.out⟩

set_option maxRecDepth 100000 in
theorem playsL_law : Calls Try.prog 9 #[.slice A n c] w fun e w' => e = .returned (.bool true) ∧ Below w.heap.size w w' := by
  have HS := Lib.hid hs
  clear hs
  go_enter Try.func9, Try.ntmps9
  go_wp2_with (go_at_call 21; go_must (refine (plays_any A n c _ _ _ HS.out hn).mono ?_); rintro e w1 ⟨rfl, hb1⟩; have HB1 := Lib.hid hb1; clear hb1)
  go_ret
  exact ⟨rfl, HB1.out⟩
end
end Go.Proofs.Ythjjihipodhkiaa

/-
  An array's element at a place, over any program.
-/
namespace Go.Proofs.Ythjjihipodhkiaa
open Go.RowKit
theorem run_sizeOf_of {P : Program} {t : TypeId} {n : Nat} (h : (P.info? t).map (·.size) = some n) (w : World) : (sizeOf t).run P w = .ok n w := by
  cases hd : P.info? t with
  | none => rw [hd] at h; cases h
  | some i =>
    rw [hd] at h
    injection h with h
    simp [sizeOf, typeInfo, hd, h]
theorem run_isAgg_of {P : Program} {t : TypeId} {b : Bool} (h : (P.underlying t).map (fun d => match d with | .struct _ | .array _ _ => true | _ => false) = some b) (w : World) : (isAgg t).run P w = .ok b w := by
  cases hd : P.underlying t with
  | none => rw [hd] at h; cases h
  | some d =>
    rw [hd] at h
    unfold isAgg
    rw [Sem.run_bind, run_underlying hd w]
    cases d <;> simp_all
theorem run_index_arr {P : Program} (w : World) (t e : TypeId) (n : Nat) (cs : Array Value) (k : Nat) (v : Value) (ht : P.underlying t = some (.array n e)) (hs : (P.info? e).map (·.size) = some 1)
    (ha : (P.underlying e).map (fun d => match d with | .struct _ | .array _ _ => true | _ => false) = some false) (hk : k < n) (hv : cs[k]? = some v) :
    (Instr.index t (.agg cs) (.int .i64 (k : Int))).run P w = .ok v w := by
  have hs := run_sizeOf_of hs w
  have ha := run_isAgg_of ha w
  unfold Instr.index
  simp [asIntOf, Sem.run_bind, run_underlying ht, hs, part, ha, hk, hv]
end Go.Proofs.Ythjjihipodhkiaa

/-
  A box of cells that lies untouched while rows beside it grow.
-/
namespace Go.Proofs.Ythjjihipodhkiaa
open Go.RowKit

section
variable {w x y : World} {cs : Array Value}
theorem own_low {base base' : Nat} {e : TypeId} {s n : Nat} {v : Value} {xs : List Value} (h : w.ownsRow base e s v n xs) (hb : base' ≤ base) : w.ownsRow base' e s v n xs := by
  refine ⟨h.1, ?_⟩
  rcases h.2 with h' | ⟨g, cap, cur, h1, h2, h3⟩
  · exact .inl h'
  · exact .inr ⟨g, cap, cur, h1, Nat.le_trans hb h2, h3⟩
/-- The box that w's next place holds is there still. -/
structure Bx (w : World) (cs : Array Value) (x : World) : Prop where
  up : Below w.heap.size w x
  at_ : ∀ i v, cs[i]? = some v → x.cell? ⟨w.heap.size, i, none⟩ = some v
  size : w.heap.size + 1 ≤ x.heap.size
theorem Bx.new (w : World) (cs : Array Value) (T : TypeId) : Bx w cs (w.alloc (.cells cs T)) :=
  ⟨(Below.refl _ w).alloc (Nat.le_refl _) _, fun i v h => by simpa using h, by show _ ≤ (w.heap.push _).size; simp⟩
theorem Bx.later (h : Bx w cs x) (k : Below x.heap.size x y) : Bx w cs y :=
  ⟨h.up.trans (k.mono h.up.size), fun i v e => (k.cell (p := ⟨w.heap.size, i, none⟩) h.size).trans (h.at_ i v e), Nat.le_trans h.size k.size⟩
theorem Bx.alloc (h : Bx w cs x) (o : Obj) : Bx w cs (x.alloc o) := h.later ((Below.refl _ x).alloc (Nat.le_refl _) o)
theorem Bx.grow {e : TypeId} {s n : Nat} {v : Value} {xs : List Value} (h : Bx w cs x) (hown : x.ownsRow (w.heap.size + 1) e s v n xs) (hg : x.grownBy y v.ownBlock) : Bx w cs y :=
  ⟨below_app h.up hown hg h.up.size (by omega), fun i u hu => hg.cell (h.at_ i u hu) (fun e => Nat.lt_irrefl _ (Nat.lt_of_lt_of_le (Nat.lt_succ_self _) (hown.lt _ e.symm).1)), Nat.le_trans h.size hg.size⟩
theorem Bx.cell (h : Bx w cs x) {i : Nat} {v : Value} (e : cs[i]? = some v) : x.cell? ⟨w.heap.size, i, none⟩ = some v := h.at_ i v e
/-- What was made later lies aside of an older row that grows. -/
theorem own_aside {b1 base : Nat} {e e' : TypeId} {s s' n n' : Nat} {u v : Value} {xs us : List Value} {z : World} (h : x.ownsRow b1 e' s' u n' us) (hown : z.ownsRow base e s v n xs) (hz : z.heap.size ≤ b1) (hg : x.grownBy y v.ownBlock) : y.ownsRow b1 e' s' u n' us :=
  own_chg h (grown_chg hg) fun g hg' e' => by
    have h1 := (World.ownsRow.lt h g hg').1
    have h2 := (World.ownsRow.lt hown g e').2
    omega
theorem keepB3 {p q r : Addr} {a b c : Value} (h : x.cell? p = some a ∧ x.cell? q = some b ∧ x.cell? r = some c ∧ Bx w cs x) (k : Below x.heap.size x y) : y.cell? p = some a ∧ y.cell? q = some b ∧ y.cell? r = some c ∧ Bx w cs y :=
  ⟨cell_below k h.1, cell_below k h.2.1, cell_below k h.2.2.1, h.2.2.2.later k⟩
theorem keepA3 {p q r : Addr} {a b c : Value} {o : Obj} (h : x.cell? p = some a ∧ x.cell? q = some b ∧ x.cell? r = some c ∧ Bx w cs x) : (x.alloc o).cell? p = some a ∧ (x.alloc o).cell? q = some b ∧ (x.alloc o).cell? r = some c ∧ Bx w cs (x.alloc o) :=
  keepB3 h ((Below.refl _ x).alloc (Nat.le_refl _) o)
theorem keepG3 {i j k : Nat} {a b c : Value} {e : TypeId} {s n : Nat} {v : Value} {xs : List Value} (h : x.cell? ⟨w.heap.size, i, none⟩ = some a ∧ x.cell? ⟨w.heap.size, j, none⟩ = some b ∧ x.cell? ⟨w.heap.size, k, none⟩ = some c ∧ Bx w cs x) (hown : x.ownsRow (w.heap.size + 1) e s v n xs) (hg : x.grownBy y v.ownBlock) :
    y.cell? ⟨w.heap.size, i, none⟩ = some a ∧ y.cell? ⟨w.heap.size, j, none⟩ = some b ∧ y.cell? ⟨w.heap.size, k, none⟩ = some c ∧ Bx w cs y := by
  have hne : some w.heap.size ≠ v.ownBlock := fun e => Nat.lt_irrefl _ (Nat.lt_of_lt_of_le (Nat.lt_succ_self _) (hown.lt _ e.symm).1)
  exact ⟨hg.cell h.1 hne, hg.cell h.2.1 hne, hg.cell h.2.2.1 hne, h.2.2.2.grow hown hg⟩
end
end Go.Proofs.Ythjjihipodhkiaa

/-
  Several boxes of cells of the call's own, side by side, that are written cell by cell.
-/
namespace Go.Proofs.Ythjjihipodhkiaa
open Go.RowKit

section
variable {w x y : World} {cs : List (Array Value)}
structure Bxs (w : World) (cs : List (Array Value)) (x : World) : Prop where
  up : Below w.heap.size w x
  size : w.heap.size + cs.length ≤ x.heap.size
  cell : ∀ (j : Nat) c (i : Nat) v, cs[j]? = some c → c[i]? = some v → x.cell? ⟨w.heap.size + j, i, none⟩ = some v
  fz : ∀ (j : Nat) c (i : Nat), cs[j]? = some c → x.frozen? ⟨w.heap.size + j, i, none⟩ = false
theorem Bxs.nil (w : World) : Bxs w [] w := ⟨Below.refl _ _, Nat.le_refl _, fun j c i v h => (by simp at h), fun j c i h => (by simp at h)⟩
theorem Bxs.later (h : Bxs w cs x) (k : Below x.heap.size x y) : Bxs w cs y := by
  have hlt : ∀ (j : Nat) c, cs[j]? = some c → w.heap.size + j < x.heap.size := fun j c hj => by
    have := (List.getElem?_eq_some_iff.1 hj).1
    have := h.size
    omega
  exact ⟨h.up.trans (k.mono h.up.size), Nat.le_trans h.size k.size, fun j c i v hj hi => (k.cell (p := ⟨w.heap.size + j, i, none⟩) (hlt j c hj)).trans (h.cell j c i v hj hi),
    fun j c i hj => (k.frozen (p := ⟨w.heap.size + j, i, none⟩) (hlt j c hj)).trans (h.fz j c i hj)⟩
theorem Bxs.push {T : TypeId} {c : Array Value} (h : Bxs w cs x) (hs : x.heap.size = w.heap.size + cs.length) : Bxs w (cs ++ [c]) (x.alloc (.cells c T)) := by
  have k := h.later ((Below.refl _ x).alloc (Nat.le_refl _) (.cells c T))
  refine ⟨k.up, ?_, fun j d i v hj hi => ?_, fun j d i hj => ?_⟩
  · show _ ≤ (x.heap.push _).size
    simp only [Array.size_push, List.length_append, List.length_cons, List.length_nil]; omega
  · rcases Nat.lt_or_ge j cs.length with hlt | hge
    · rw [List.getElem?_append_left hlt] at hj; exact k.cell j d i v hj hi
    · rw [List.getElem?_append_right hge] at hj
      have : j = cs.length := by have := (List.getElem?_eq_some_iff.1 hj).1; simp at this; omega
      subst this
      simp at hj
      subst hj
      rw [← hs]
      simpa using hi
  · rcases Nat.lt_or_ge j cs.length with hlt | hge
    · rw [List.getElem?_append_left hlt] at hj; exact k.fz j d i hj
    · rw [List.getElem?_append_right hge] at hj
      have : j = cs.length := by have := (List.getElem?_eq_some_iff.1 hj).1; simp at this; omega
      subst this
      rw [← hs]
      simp
theorem Bxs.one (w : World) (T : TypeId) (c : Array Value) : Bxs w [c] (w.alloc (.cells c T)) := (Bxs.nil w).push (by simp)
theorem Bxs.two (w : World) (T : TypeId) (c c' : Array Value) : Bxs w [c, c'] ((w.alloc (.cells c T)).alloc (.cells c' T)) := (Bxs.one w T c).push (by show (w.heap.push _).size = _; simp)
theorem Bxs.three (w : World) (T : TypeId) (c c' c'' : Array Value) : Bxs w [c, c', c''] (((w.alloc (.cells c T)).alloc (.cells c' T)).alloc (.cells c'' T)) := (Bxs.two w T c c').push (by show ((w.heap.push _).push _).size = _; simp)
/-- One cell is written. -/
theorem Bxs.set (h : Bxs w cs x) {j : Nat} {c : Array Value} (i : Nat) (v : Value) (hj : cs[j]? = some c) (hi : i < c.size) : Bxs w (cs.set j (c.set! i v)) (x.setCell ⟨w.heap.size + j, i, none⟩ v) := by
  have hjl := (List.getElem?_eq_some_iff.1 hj).1
  have hget : ∀ (k : Nat) d, (cs.set j (c.set! i v))[k]? = some d → (k = j ∧ d = c.set! i v) ∨ (k ≠ j ∧ cs[k]? = some d) := fun k d hk => by
    rw [List.getElem?_set] at hk
    by_cases e : j = k
    · subst e; rw [if_pos rfl, if_pos hjl] at hk; injection hk with hk; exact .inl ⟨rfl, hk.symm⟩
    · rw [if_neg e] at hk; exact .inr ⟨fun h => e h.symm, hk⟩
  refine ⟨h.up.setCell (Nat.le_add_right _ _) v, by rw [List.length_set]; exact Nat.le_trans h.size (by simp), fun k d n u hk hn => ?_, fun k d n hk => ?_⟩
  · rcases hget k d hk with ⟨rfl, rfl⟩ | ⟨hne, hk⟩
    · by_cases e : n = i
      · subst e
        have : u = v := by simp [hi] at hn; exact hn.symm
        subst this
        exact World.cell?_setCell_same _ _ _ (h.cell k c n c[n] hj (by simp [hi]))
      · have : c[n]? = some u := by
          rw [Array.set!_eq_setIfInBounds, Array.getElem?_setIfInBounds_ne (fun h => e h.symm)] at hn; exact hn
        rw [World.cell?_setCell_other _ _ _ _ (fun e' => by injection e' with _ e'; exact e e'.symm)]
        exact h.cell k c n u hj this
    · rw [World.cell?_setCell_other _ _ _ _ (fun e' => by injection e' with e' _; omega)]
      exact h.cell k d n u hk hn
  · rw [World.frozen?_setCell]
    rcases hget k d hk with ⟨rfl, rfl⟩ | ⟨hne, hk⟩
    · exact h.fz k c n hj
    · exact h.fz k d n hk
theorem Bxs.c0 (h : Bxs w cs x) {c : Array Value} {i : Nat} {v : Value} (hj : cs[0]? = some c) (hi : c[i]? = some v) : x.cell? ⟨w.heap.size, i, none⟩ = some v := h.cell 0 c i v hj hi
theorem Bxs.c1 (h : Bxs w cs x) {c : Array Value} {i : Nat} {v : Value} (hj : cs[1]? = some c) (hi : c[i]? = some v) : x.cell? ⟨w.heap.size + 1, i, none⟩ = some v := h.cell 1 c i v hj hi
theorem Bxs.c2 (h : Bxs w cs x) {c : Array Value} {i : Nat} {v : Value} (hj : cs[2]? = some c) (hi : c[i]? = some v) : x.cell? ⟨w.heap.size + 1 + 1, i, none⟩ = some v := h.cell 2 c i v hj hi
theorem Bxs.f0 (h : Bxs w cs x) {c : Array Value} (hj : cs[0]? = some c) : ∀ i, x.frozen? ⟨w.heap.size, i, none⟩ = false := fun i => h.fz 0 c i hj
theorem Bxs.f1 (h : Bxs w cs x) {c : Array Value} (hj : cs[1]? = some c) : ∀ i, x.frozen? ⟨w.heap.size + 1, i, none⟩ = false := fun i => h.fz 1 c i hj
theorem Bxs.f2 (h : Bxs w cs x) {c : Array Value} (hj : cs[2]? = some c) : ∀ i, x.frozen? ⟨w.heap.size + 1 + 1, i, none⟩ = false := fun i => h.fz 2 c i hj
theorem Bxs.cells0 (h : Bxs w cs x) {c : Array Value} (hj : cs[0]? = some c) : ∀ j v, c[j]? = some v → x.cell? ⟨w.heap.size, j, none⟩ = some v := fun j v hv => h.cell 0 c j v hj hv
/-- Boxes, and rows of bytes made since, that lie aside of one another. -/
structure Bt (T : TypeId) (w : World) (cs : List (Array Value)) (rs : RowL) (x : World) : Prop where
  box : Bxs w cs x
  rows : RowsB T (w.heap.size + cs.length) x rs
variable {T : TypeId} {rs : RowL}
theorem Bt.of (h : Bxs w cs x) : Bt T w cs [] x := ⟨h, RowsB.nil⟩
theorem Bt.later (h : Bt T w cs rs x) (k : Below x.heap.size x y) : Bt T w cs rs y := ⟨h.box.later k, h.rows.later k⟩
theorem Bt.drew (h : Bt T w cs rs x) : Bt T w cs rs x.drew := h.later (Below.refl _ _).drew
theorem Bt.fresh (h : Bt T w cs rs x) (k : Below x.heap.size x y) {A : Option Addr} {c : Nat} {l : List UInt8} (ho : OwnB T x.heap.size y A c l) : Bt T w cs (rs ++ [(A, c, l)]) y := ⟨h.box.later k, h.rows.fresh k ho h.box.size⟩
theorem Bt.freshR (h : Bt T w cs rs x) (k : Below x.heap.size x y) {rs' : RowL} (hr : RowsB T x.heap.size y rs') : Bt T w cs (rs ++ rs') y := ⟨h.box.later k, h.rows.app k hr h.box.size⟩
theorem Bt.alloc (h : Bt T w cs rs x) (o : Obj) : Bt T w cs rs (x.alloc o) := h.later ((Below.refl _ x).alloc (Nat.le_refl _) o)
theorem rows_pre {B : Nat} {us vs : RowL} (h : RowsB T B x (us ++ vs)) : RowsB T B x us :=
  ⟨fun i r hr => h.1 i r (by rw [List.getElem?_append_left (List.getElem?_eq_some_iff.1 hr).1]; exact hr), fun i j r s hr hs => h.2 i j r s (by rw [List.getElem?_append_left (List.getElem?_eq_some_iff.1 hr).1]; exact hr) (by rw [List.getElem?_append_left (List.getElem?_eq_some_iff.1 hs).1]; exact hs)⟩
theorem Bt.set (h : Bt T w cs rs x) {j : Nat} {c : Array Value} (i : Nat) (v : Value) (hj : cs[j]? = some c) (hi : i < c.size) : Bt T w (cs.set j (c.set! i v)) rs (x.setCell ⟨w.heap.size + j, i, none⟩ v) := by
  have hlt := (List.getElem?_eq_some_iff.1 hj).1
  refine ⟨h.box.set i v hj hi, ?_⟩
  rw [List.length_set]
  exact rows_set h.rows (by omega) i v
theorem Bt.s1_0 {a0 a1 a2 a3 a4 a5 a6 : Value} {c0 : Array Value} {r : List (Array Value)} (u : Value) (h : Bt T w (c0 :: #[a0, a1, a2, a3, a4, a5, a6] :: r) rs x) : Bt T w (c0 :: #[u, a1, a2, a3, a4, a5, a6] :: r) rs (x.setCell ⟨w.heap.size + 1, 0, none⟩ u) := h.set (j := 1) 0 u rfl (show 0 < 7 by decide)
theorem Bt.s1_1 {a0 a1 a2 a3 a4 a5 a6 : Value} {c0 : Array Value} {r : List (Array Value)} (u : Value) (h : Bt T w (c0 :: #[a0, a1, a2, a3, a4, a5, a6] :: r) rs x) : Bt T w (c0 :: #[a0, u, a2, a3, a4, a5, a6] :: r) rs (x.setCell ⟨w.heap.size + 1, 1, none⟩ u) := h.set (j := 1) 1 u rfl (show 1 < 7 by decide)
theorem Bt.s1_2 {a0 a1 a2 a3 a4 a5 a6 : Value} {c0 : Array Value} {r : List (Array Value)} (u : Value) (h : Bt T w (c0 :: #[a0, a1, a2, a3, a4, a5, a6] :: r) rs x) : Bt T w (c0 :: #[a0, a1, u, a3, a4, a5, a6] :: r) rs (x.setCell ⟨w.heap.size + 1, 2, none⟩ u) := h.set (j := 1) 2 u rfl (show 2 < 7 by decide)
theorem Bt.s1_3 {a0 a1 a2 a3 a4 a5 a6 : Value} {c0 : Array Value} {r : List (Array Value)} (u : Value) (h : Bt T w (c0 :: #[a0, a1, a2, a3, a4, a5, a6] :: r) rs x) : Bt T w (c0 :: #[a0, a1, a2, u, a4, a5, a6] :: r) rs (x.setCell ⟨w.heap.size + 1, 3, none⟩ u) := h.set (j := 1) 3 u rfl (show 3 < 7 by decide)
theorem Bt.s1_4 {a0 a1 a2 a3 a4 a5 a6 : Value} {c0 : Array Value} {r : List (Array Value)} (u : Value) (h : Bt T w (c0 :: #[a0, a1, a2, a3, a4, a5, a6] :: r) rs x) : Bt T w (c0 :: #[a0, a1, a2, a3, u, a5, a6] :: r) rs (x.setCell ⟨w.heap.size + 1, 4, none⟩ u) := h.set (j := 1) 4 u rfl (show 4 < 7 by decide)
theorem Bt.s1_5 {a0 a1 a2 a3 a4 a5 a6 : Value} {c0 : Array Value} {r : List (Array Value)} (u : Value) (h : Bt T w (c0 :: #[a0, a1, a2, a3, a4, a5, a6] :: r) rs x) : Bt T w (c0 :: #[a0, a1, a2, a3, a4, u, a6] :: r) rs (x.setCell ⟨w.heap.size + 1, 5, none⟩ u) := h.set (j := 1) 5 u rfl (show 5 < 7 by decide)
theorem Bt.s2_0 {a0 a1 a2 a3 a4 a5 a6 : Value} {c0 c1 : Array Value} {r : List (Array Value)} (u : Value) (h : Bt T w (c0 :: c1 :: #[a0, a1, a2, a3, a4, a5, a6] :: r) rs x) : Bt T w (c0 :: c1 :: #[u, a1, a2, a3, a4, a5, a6] :: r) rs (x.setCell ⟨w.heap.size + 1 + 1, 0, none⟩ u) := h.set (j := 2) 0 u rfl (show 0 < 7 by decide)
theorem Bt.s2_1 {a0 a1 a2 a3 a4 a5 a6 : Value} {c0 c1 : Array Value} {r : List (Array Value)} (u : Value) (h : Bt T w (c0 :: c1 :: #[a0, a1, a2, a3, a4, a5, a6] :: r) rs x) : Bt T w (c0 :: c1 :: #[a0, u, a2, a3, a4, a5, a6] :: r) rs (x.setCell ⟨w.heap.size + 1 + 1, 1, none⟩ u) := h.set (j := 2) 1 u rfl (show 1 < 7 by decide)
theorem Bt.s2_2 {a0 a1 a2 a3 a4 a5 a6 : Value} {c0 c1 : Array Value} {r : List (Array Value)} (u : Value) (h : Bt T w (c0 :: c1 :: #[a0, a1, a2, a3, a4, a5, a6] :: r) rs x) : Bt T w (c0 :: c1 :: #[a0, a1, u, a3, a4, a5, a6] :: r) rs (x.setCell ⟨w.heap.size + 1 + 1, 2, none⟩ u) := h.set (j := 2) 2 u rfl (show 2 < 7 by decide)
theorem Bt.s2_3 {a0 a1 a2 a3 a4 a5 a6 : Value} {c0 c1 : Array Value} {r : List (Array Value)} (u : Value) (h : Bt T w (c0 :: c1 :: #[a0, a1, a2, a3, a4, a5, a6] :: r) rs x) : Bt T w (c0 :: c1 :: #[a0, a1, a2, u, a4, a5, a6] :: r) rs (x.setCell ⟨w.heap.size + 1 + 1, 3, none⟩ u) := h.set (j := 2) 3 u rfl (show 3 < 7 by decide)
theorem Bt.s2_4 {a0 a1 a2 a3 a4 a5 a6 : Value} {c0 c1 : Array Value} {r : List (Array Value)} (u : Value) (h : Bt T w (c0 :: c1 :: #[a0, a1, a2, a3, a4, a5, a6] :: r) rs x) : Bt T w (c0 :: c1 :: #[a0, a1, a2, a3, u, a5, a6] :: r) rs (x.setCell ⟨w.heap.size + 1 + 1, 4, none⟩ u) := h.set (j := 2) 4 u rfl (show 4 < 7 by decide)
theorem Bt.s2_5 {a0 a1 a2 a3 a4 a5 a6 : Value} {c0 c1 : Array Value} {r : List (Array Value)} (u : Value) (h : Bt T w (c0 :: c1 :: #[a0, a1, a2, a3, a4, a5, a6] :: r) rs x) : Bt T w (c0 :: c1 :: #[a0, a1, a2, a3, a4, u, a6] :: r) rs (x.setCell ⟨w.heap.size + 1 + 1, 5, none⟩ u) := h.set (j := 2) 5 u rfl (show 5 < 7 by decide)
theorem Bt.s0_0 {a0 a1 a2 a3 a4 a5 a6 : Value} {r : List (Array Value)} (u : Value) (h : Bt T w (#[a0, a1, a2, a3, a4, a5, a6] :: r) rs x) : Bt T w (#[u, a1, a2, a3, a4, a5, a6] :: r) rs (x.setCell ⟨w.heap.size, 0, none⟩ u) := h.set (j := 0) 0 u rfl (show 0 < 7 by decide)
theorem Bt.s0_1 {a0 a1 a2 a3 a4 a5 a6 : Value} {r : List (Array Value)} (u : Value) (h : Bt T w (#[a0, a1, a2, a3, a4, a5, a6] :: r) rs x) : Bt T w (#[a0, u, a2, a3, a4, a5, a6] :: r) rs (x.setCell ⟨w.heap.size, 1, none⟩ u) := h.set (j := 0) 1 u rfl (show 1 < 7 by decide)
theorem Bt.s0_2 {a0 a1 a2 a3 a4 a5 a6 : Value} {r : List (Array Value)} (u : Value) (h : Bt T w (#[a0, a1, a2, a3, a4, a5, a6] :: r) rs x) : Bt T w (#[a0, a1, u, a3, a4, a5, a6] :: r) rs (x.setCell ⟨w.heap.size, 2, none⟩ u) := h.set (j := 0) 2 u rfl (show 2 < 7 by decide)
theorem Bt.s0_3 {a0 a1 a2 a3 a4 a5 a6 : Value} {r : List (Array Value)} (u : Value) (h : Bt T w (#[a0, a1, a2, a3, a4, a5, a6] :: r) rs x) : Bt T w (#[a0, a1, a2, u, a4, a5, a6] :: r) rs (x.setCell ⟨w.heap.size, 3, none⟩ u) := h.set (j := 0) 3 u rfl (show 3 < 7 by decide)
theorem Bt.s0_4 {a0 a1 a2 a3 a4 a5 a6 : Value} {r : List (Array Value)} (u : Value) (h : Bt T w (#[a0, a1, a2, a3, a4, a5, a6] :: r) rs x) : Bt T w (#[a0, a1, a2, a3, u, a5, a6] :: r) rs (x.setCell ⟨w.heap.size, 4, none⟩ u) := h.set (j := 0) 4 u rfl (show 4 < 7 by decide)
theorem Bt.s0_5 {a0 a1 a2 a3 a4 a5 a6 : Value} {r : List (Array Value)} (u : Value) (h : Bt T w (#[a0, a1, a2, a3, a4, a5, a6] :: r) rs x) : Bt T w (#[a0, a1, a2, a3, a4, u, a6] :: r) rs (x.setCell ⟨w.heap.size, 5, none⟩ u) := h.set (j := 0) 5 u rfl (show 5 < 7 by decide)
theorem Bt.s0_6 {a0 a1 a2 a3 a4 a5 a6 : Value} {r : List (Array Value)} (u : Value) (h : Bt T w (#[a0, a1, a2, a3, a4, a5, a6] :: r) rs x) : Bt T w (#[a0, a1, a2, a3, a4, a5, u] :: r) rs (x.setCell ⟨w.heap.size, 6, none⟩ u) := h.set (j := 0) 6 u rfl (show 6 < 7 by decide)
theorem Bt.fill7 {c : Array Value} {r : List (Array Value)} (h : Bt T w (c :: r) rs x) (hc : c.size = 7) (v0 v1 v2 v3 v4 v5 v6 : Value) : Bt T w (#[v0, v1, v2, v3, v4, v5, v6] :: r) rs
    (((((((x.setCell ⟨w.heap.size, 0, none⟩ v0).setCell ⟨w.heap.size, 1, none⟩ v1).setCell ⟨w.heap.size, 2, none⟩ v2).setCell ⟨w.heap.size, 3, none⟩ v3).setCell ⟨w.heap.size, 4, none⟩ v4).setCell ⟨w.heap.size, 5, none⟩ v5).setCell ⟨w.heap.size, 6, none⟩ v6) := by
  obtain ⟨l⟩ := c
  match l, hc with
  | [b0, b1, b2, b3, b4, b5, b6], _ =>
    exact Bt.s0_6 v6 (Bt.s0_5 v5 (Bt.s0_4 v4 (Bt.s0_3 v3 (Bt.s0_2 v2 (Bt.s0_1 v1 (Bt.s0_0 v0 h))))))
theorem Bxs.setAside (h : Bxs w cs x) {g i : Nat} {v : Value} (hg : w.heap.size + cs.length ≤ g) : Bxs w cs (x.setCell ⟨g, i, none⟩ v) := by
  have hne : ∀ (j : Nat) c, cs[j]? = some c → w.heap.size + j ≠ g := fun j c hj => by have := (List.getElem?_eq_some_iff.1 hj).1; omega
  refine ⟨h.up.setCell (Nat.le_trans (Nat.le_add_right _ _) hg) v, Nat.le_trans h.size (by simp), fun j c k u hj hk => ?_, fun j c k hj => ?_⟩
  · rw [World.cell?_setCell_other _ _ _ _ (fun e => by injection e with e _; exact hne j c hj e.symm)]
    exact h.cell j c k u hj hk
  · rw [World.frozen?_setCell]
    exact h.fz j c k hj
theorem Bt.setAside (h : Bt T w cs rs x) (g i : Nat) (v : Value) (hg : w.heap.size + cs.length ≤ g) (hoff : ∀ (i : Nat) r a, rs[i]? = some r → r.1 = some a → a.block ≠ g) : Bt T w cs rs (x.setCell ⟨g, i, none⟩ v) :=
  ⟨h.box.setAside hg, h.rows.chg (Chg.setCell x ⟨g, i, none⟩ v) fun i r hr a ha => hoff i r a hr ha⟩
theorem rows_under {B : Nat} (h : RowsB T B x rs) : ∀ (i : Nat) r a, rs[i]? = some r → r.1 = some a → a.block < x.heap.size := fun i r a hr ha => by
  have ho := h.1 i r hr
  obtain ⟨A, c, l⟩ := r
  cases ha
  exact (World.ownsRow.lt ho _ rfl).2
theorem rows_off {B : Nat} (h : RowsB T B x rs) {A : Option Addr} {c : Nat} {l : List UInt8} (ho : OwnB T (x.heap.size + 1) y A c l) : ∀ (i : Nat) r a, (rs ++ [(A, c, l)])[i]? = some r → r.1 = some a → a.block ≠ x.heap.size := fun i r a hr ha => by
  rcases Nat.lt_or_ge i rs.length with hl | hl
  · rw [List.getElem?_append_left hl] at hr
    exact Nat.ne_of_lt (rows_under h i r a hr ha)
  · rw [List.getElem?_append_right hl] at hr
    have : i - rs.length = 0 := by have := (List.getElem?_eq_some_iff.1 hr).1; simp at this; omega
    rw [this] at hr
    injection hr with hr
    subst hr
    cases ha
    have := (World.ownsRow.lt ho _ rfl).1
    omega
theorem rows_pick3 {B : Nat} {r0 r1 r2 r3 r4 : Option Addr × Nat × List UInt8} (h : RowsB T B x [r0, r1, r2, r3, r4]) : RowsB T B x [r1, r2, r4] := by
  refine h.pick (fun i => if i = 0 then 1 else if i = 1 then 2 else 4) (fun i j hi hj hne => ?_) fun i s hs => ?_
  · have hi : i < 3 := hi
    have hj : j < 3 := hj
    (repeat' split) <;> omega
  · match i, hs with
    | 0, hs => exact hs
    | 1, hs => exact hs
    | 2, hs => exact hs
end
section
variable {P : Program}
theorem run_loadVar_at {w : World} {g : Nat} {ty : TypeId} {cs : Array Value} (hc : ∀ j v, cs[j]? = some v → w.cell? ⟨g, j, none⟩ = some v)
    (ha : (P.underlying ty).map (fun d => match d with | .struct _ | .array _ _ => true | _ => false) = some true) (hi : (P.info? ty).map (·.size) = some cs.size) :
    (loadVar ty ⟨g, 0, none⟩).run P w = .ok (.agg cs) w := by
  have hl : (loadCells ⟨g, 0, none⟩ cs.toList.length).run P w = .ok cs.toList.toArray w :=
    run_loadCells_list (P := P) w ⟨g, 0, none⟩ cs.toList (fun j v hv => by
      have hadd : (⟨g, 0, none⟩ : Addr).add j = ⟨g, j, none⟩ := by unfold Addr.add; split <;> simp_all
      rw [hadd]
      exact hc j v (by simpa using hv))
  simp only [Array.length_toList, Array.toArray_toList] at hl
  have h1 := run_isAgg_of ha w
  have h2 := run_sizeOf_of hi w
  simp [loadVar, Sem.run_bind, h1, h2, hl]
/-- The results: a boxed struct and what lies in a slot. -/
theorem results_box1 {fn : Func} {p t : Tmp} {ty : TypeId} (h : fn.results = #[.cell p ty, .tmp t]) (tmps : Array Value) (w : World) (g : Nat) (cs : Array Value)
    (hp : tmps.getD p undef = .pointer (some ⟨g, 0, none⟩)) (hc : ∀ j v, cs[j]? = some v → w.cell? ⟨g, j, none⟩ = some v)
    (ha : (P.underlying ty).map (fun d => match d with | .struct _ | .array _ _ => true | _ => false) = some true) (hi : (P.info? ty).map (·.size) = some cs.size) :
    (results fn tmps).run P w = .ok (.tuple #[.agg cs, tmps.getD t undef]) w := by
  have hp' : tmps[p]?.getD undef = .pointer (some ⟨g, 0, none⟩) := by simpa using hp
  simp [results, h, hp', asAddr, run_loadVar_at hc ha hi]
theorem results_box2 {fn : Func} {p t t' : Tmp} {ty : TypeId} (h : fn.results = #[.cell p ty, .tmp t, .tmp t']) (tmps : Array Value) (w : World) (g : Nat) (cs : Array Value)
    (hp : tmps.getD p undef = .pointer (some ⟨g, 0, none⟩)) (hc : ∀ j v, cs[j]? = some v → w.cell? ⟨g, j, none⟩ = some v)
    (ha : (P.underlying ty).map (fun d => match d with | .struct _ | .array _ _ => true | _ => false) = some true) (hi : (P.info? ty).map (·.size) = some cs.size) :
    (results fn tmps).run P w = .ok (.tuple #[.agg cs, tmps.getD t undef, tmps.getD t' undef]) w := by
  have hp' : tmps[p]?.getD undef = .pointer (some ⟨g, 0, none⟩) := by simpa using hp
  simp [results, h, hp', asAddr, run_loadVar_at hc ha hi]
end
end Go.Proofs.Ythjjihipodhkiaa

/-
  Boxes, more of them: the second box filled, a boxed result alone.
-/
namespace Go.Proofs.Ythjjihipodhkiaa
open Go.RowKit

section
variable {w x y : World} {T : TypeId} {rs : RowL}
theorem Bt.s1_6 {c0 : Array Value} {a0 a1 a2 a3 a4 a5 a6 : Value} {r : List (Array Value)} (u : Value) (h : Bt T w (c0 :: #[a0, a1, a2, a3, a4, a5, a6] :: r) rs x) : Bt T w (c0 :: #[a0, a1, a2, a3, a4, a5, u] :: r) rs (x.setCell ⟨w.heap.size + 1, 6, none⟩ u) := h.set (j := 1) 6 u rfl (show 6 < 7 by decide)
theorem Bt.fill7_1 {c0 c1 : Array Value} {r : List (Array Value)} (h : Bt T w (c0 :: c1 :: r) rs x) (hc : c1.size = 7) (v0 v1 v2 v3 v4 v5 v6 : Value) : Bt T w (c0 :: #[v0, v1, v2, v3, v4, v5, v6] :: r) rs
    (((((((x.setCell ⟨w.heap.size + 1, 0, none⟩ v0).setCell ⟨w.heap.size + 1, 1, none⟩ v1).setCell ⟨w.heap.size + 1, 2, none⟩ v2).setCell ⟨w.heap.size + 1, 3, none⟩ v3).setCell ⟨w.heap.size + 1, 4, none⟩ v4).setCell ⟨w.heap.size + 1, 5, none⟩ v5).setCell ⟨w.heap.size + 1, 6, none⟩ v6) := by
  obtain ⟨l⟩ := c1
  match l, hc with
  | [b0, b1, b2, b3, b4, b5, b6], _ => exact Bt.s1_6 v6 (Bt.s1_5 v5 (Bt.s1_4 v4 (Bt.s1_3 v3 (Bt.s1_2 v2 (Bt.s1_1 v1 (Bt.s1_0 v0 h))))))
theorem Bxs.cells1 {cs : List (Array Value)} (h : Bxs w cs x) {c : Array Value} (hj : cs[1]? = some c) : ∀ j v, c[j]? = some v → x.cell? ⟨w.heap.size + 1, j, none⟩ = some v := fun j v hv => h.cell 1 c j v hj hv
theorem results_box0 {P : Program} {fn : Func} {p : Tmp} {ty : TypeId} (h : fn.results = #[.cell p ty]) (tmps : Array Value) (w : World) (g : Nat) (cs : Array Value)
    (hp : tmps.getD p undef = .pointer (some ⟨g, 0, none⟩)) (hc : ∀ j v, cs[j]? = some v → w.cell? ⟨g, j, none⟩ = some v)
    (ha : (P.underlying ty).map (fun d => match d with | .struct _ | .array _ _ => true | _ => false) = some true) (hi : (P.info? ty).map (·.size) = some cs.size) :
    (results fn tmps).run P w = .ok (.agg cs) w := by
  have hp' : tmps[p]?.getD undef = .pointer (some ⟨g, 0, none⟩) := by simpa using hp
  simp [results, h, hp', asAddr, run_loadVar_at hc ha hi]
end
end Go.Proofs.Ythjjihipodhkiaa

/-
  A row that is written full of one mark and lengthened with it, several times over.
-/
namespace Go.Proofs.Ythjjihipodhkiaa
open Go.RowKit

section
variable {w x y : World} {T : TypeId}
theorem rep_snoc (n : Nat) (m : UInt8) : List.replicate n m ++ [m] = List.replicate (n + 1) m := by rw [List.replicate_succ']
/-- Marks are written over by the same marks. -/
def Over (m : UInt8) (w x : World) : Prop := w.heap.size ≤ x.heap.size ∧ ∀ p u, w.cell? p = some u → x.cell? p = some u ∨ x.cell? p = some (u8v m)
theorem Over.refl (m : UInt8) (w : World) : Over m w w := ⟨Nat.le_refl _, fun _p _u h => .inl h⟩
theorem Over.trans {m : UInt8} (h : Over m w x) (k : Over m x y) : Over m w y := ⟨Nat.le_trans h.1 k.1, fun p u e => by
  rcases h.2 p u e with e | e
  · exact k.2 p u e
  · rcases k.2 p _ e with e | e <;> exact .inr e⟩
theorem Over.alloc {m : UInt8} (w : World) (o : Obj) : Over m w (w.alloc o) := ⟨((Below.refl _ w).alloc (Nat.le_refl _) o).size, fun _p _u e => .inl (cell_alloc_old e)⟩
theorem over_app {m : UInt8} {v : Value} {n q : Nat} (hs : w.heap.size ≤ x.heap.size)
    (h : ∀ p u, w.cell? p = some u → x.cell? p = some u ∨ (some p.block = v.ownBlock ∧ p.spot = none ∧ n ≤ p.off ∧ p.off < n + q ∧ x.cell? p = (u8s (List.replicate q m))[p.off - n]?)) : Over m w x := ⟨hs, fun p u e => by
  rcases h p u e with e | ⟨_, _, h1, h2, e⟩
  · exact .inl e
  · refine .inr ?_
    rw [e]
    unfold u8s
    rw [List.getElem?_map, List.getElem?_replicate, if_pos (by omega)]
    rfl⟩
theorem Sl.remark {A : Option Addr} {n c : Nat} {m : UInt8} (h : Sl w A n c (List.replicate n m)) (k : Over m w x) : Sl x A n c (List.replicate n m) := by
  refine ⟨RB.mk' (by simp) fun h0 => ?_, h.cap, h.lim, h.nil⟩
  obtain ⟨b, o, _, rfl, hb, _, _⟩ := h.rb.at_ (k := 0) h0
  refine ⟨b, o, rfl, Nat.lt_of_lt_of_le hb k.1, fun j u hj => ?_⟩
  have hu : u = m := by
    have := List.getElem?_eq_some_iff.1 hj
    obtain ⟨_, e⟩ := this
    simp at e
    exact e.symm
  subst hu
  rcases k.2 _ _ (h.rb.cell hj) with e | e <;> exact e
theorem own_cell {base g c k : Nat} {l : List UInt8} {u : UInt8} (h : OwnB T base w (some ⟨g, 0, none⟩) c l) (hk : l[k]? = some u) : w.cell? ⟨g, k, none⟩ = some (.int .u8 (u.toNat : Int)) ∧ w.frozen? ⟨g, k, none⟩ = false :=
  (RowsB.nil.snoc h (fun i r hr => by simp at hr)).cell (i := 0) rfl hk
theorem own_store {base g c : Nat} {l : List UInt8} (h : OwnB T base w (some ⟨g, 0, none⟩) c l) (k : Nat) (u : UInt8) : OwnB T base (w.setCell ⟨g, k, none⟩ (u8v u)) (some ⟨g, 0, none⟩) c (l.set k u) :=
  ((RowsB.nil.snoc h (fun i r hr => by simp at hr)).store (i := 0) (k := k) rfl u).1.1 0 _ rfl
/-- The four lists that 'longer' hands out of the row A. -/
structure Lng (w : World) (A : Option Addr) (n : Nat) (m : UInt8) (g : Nat) (x : World) : Prop where
  ge : w.heap.size ≤ g
  lt : g < x.heap.size
  all : ∃ c A1 c1 A2 c2 A3 c3, (x.cell? ⟨g, 0, none⟩ = some (.slice A n c) ∧ x.cell? ⟨g, 1, none⟩ = some (.slice A1 (n + 1) c1) ∧ x.cell? ⟨g, 2, none⟩ = some (.slice A2 (n + 2) c2) ∧ x.cell? ⟨g, 3, none⟩ = some (.slice A3 (n + 101) c3)) ∧
    (Sl x A n c (List.replicate n m) ∧ Sl x A1 (n + 1) c1 (List.replicate (n + 1) m) ∧ Sl x A2 (n + 2) c2 (List.replicate (n + 2) m) ∧ Sl x A3 (n + 101) c3 (List.replicate (n + 101) m)) ∧ Blk w A A1 ∧ Blk w A A2 ∧ Blk w A A3
theorem Lng.chg {A : Option Addr} {n : Nat} {m : UInt8} {g : Nat} {S : Nat → Prop} (h : Lng w A n m g x) (hc : Chg S x y) (hS : ∀ b, S b → b < w.heap.size ∧ A.map (·.block) ≠ some b) : Lng w A n m g y := by
  obtain ⟨c, A1, c1, A2, c2, A3, c3, ⟨q0, q1, q2, q3⟩, ⟨s0, s1, s2, s3⟩, b1, b2, b3⟩ := h.all
  have hg : ¬ S g := fun e => by have := (hS g e).1; have := h.ge; omega
  have hA : ∀ a, A = some a → ¬ S a.block := fun a ha e => (hS _ e).2 (by rw [ha]; rfl)
  have hB : ∀ {A' : Option Addr}, Blk w A A' → ∀ a, A' = some a → ¬ S a.block := fun hb a ha e => by
    rcases hb a ha with h' | h'
    · exact (hS _ e).2 h'
    · have := (hS _ e).1; omega
  exact ⟨h.ge, Nat.lt_of_lt_of_le h.lt hc.size, c, A1, c1, A2, c2, A3, c3, ⟨hc.cell q0 hg, hc.cell q1 hg, hc.cell q2 hg, hc.cell q3 hg⟩,
    ⟨s0.chg hc fun _ => hA, s1.chg hc fun _ => hB b1, s2.chg hc fun _ => hB b2, s3.chg hc fun _ => hB b3⟩, b1, b2, b3⟩
theorem Lng.later {A : Option Addr} {n : Nat} {m : UInt8} {g : Nat} (h : Lng w A n m g x) (hb : Below x.heap.size x y) : Lng w A n m g y := h.chg (S := fun _ => False) (Below.chg0 hb) fun _b e => e.elim
theorem blk_step {A A5 A6 : Option Addr} {n5 c5 n6 c6 H : Nat} (h : Blk w A A5) (hat : (Value.slice A6 n6 c6).ownBlock = (Value.slice A5 n5 c5).ownBlock ∨ (Value.slice A6 n6 c6).ownBlock = some H) (hle : w.heap.size ≤ H) : Blk w A A6 := fun a ha => by
  subst ha
  rcases hat with e | e
  · rw [own_block A5] at e
    cases A5 with
    | none => cases e
    | some z =>
      have e : some a.block = some z.block := e
      rcases h z rfl with h | h
      · exact .inl (h.trans e.symm)
      · injection e with e; exact .inr (by omega)
  · injection e with e
    have e : a.block = H := e
    exact .inr (by omega)
theorem chg_blk {A A5 : Option Addr} {n5 c5 : Nat} {o : Obj} (h : Chg (fun b => A.map (·.block) = some b) w x) (hb : Blk w A A5) (hg : (x.alloc o).grownBy y (Value.slice A5 n5 c5).ownBlock) : Chg (fun b => A.map (·.block) = some b) w y := by
  have h2 := h.alloc o
  have h3 := grown_chg hg
  refine ⟨h3.os.trans h2.os, h3.tape.trans h2.tape, h3.output.trans h2.output, Nat.le_trans h2.size h3.size, fun b hlt hn => (h3.block b (Nat.lt_of_lt_of_le hlt h2.size) fun e => ?_).trans (h2.block b hlt hn)⟩
  rw [own_block] at e
  cases A5 with
  | none => cases e
  | some z =>
    have e : some z.block = some b := e
    rcases hb z rfl with h' | h'
    · exact hn (h'.trans e)
    · injection e with e; omega
end
end Go.Proofs.Ythjjihipodhkiaa

/-
  Regions that draw their order, by what holds of what is done; boxes and rows of the call's own under one head. Over any program.
-/
namespace Go.Proofs.Ythjjihipodhkiaa
open Go.RowKit

section
variable {P : Program} {ops : Array Oper} {Q : Exit → Act → World → Prop}
/-- Every edge goes back; no operation is guarded. -/
def regOk (ops : Array Oper) : Bool := (List.range ops.size).all fun i => match ops[i]? with
  | none => true
  | some o => o.guard.isNone && o.after.all fun e => !Region.binds .any e || decide (e.on < i)
theorem regOk_at (h : regOk ops = true) {i : Nat} {o : Oper} (ho : ops[i]? = some o) : o.guard = none ∧ ∀ e, e ∈ o.after → Region.binds .any e = true → e.on < i := by
  have hi := (Array.getElem?_eq_some_iff.1 ho).1
  have h1 := List.all_eq_true.1 h i (List.mem_range.2 hi)
  simp only [ho, Bool.and_eq_true, Option.isNone_iff_eq_none, Array.all_eq_true_iff_forall_mem, Bool.or_eq_true, Bool.not_eq_true', decide_eq_true_eq] at h1
  refine ⟨h1.1, fun e he hb => ?_⟩
  rcases h1.2 e he with h2 | h2
  · rw [hb] at h2; cases h2
  · exact h2
theorem ready_iff {L : Array Bool} {i : Nat} : i ∈ Region.ready .any ops L ↔ ∃ o, ops[i]? = some o ∧ L.getD i true = false ∧ ∀ e, e ∈ o.after → Region.binds .any e = true → L.getD e.on false = true := by
  unfold Region.ready
  rw [List.mem_filter, List.mem_range]
  constructor
  · rintro ⟨h1, h2⟩
    cases ho : ops[i]? with
    | none => rw [ho] at h2; simp at h2
    | some o =>
      rw [ho] at h2
      simp only [Option.map_some, Option.getD_some, Bool.and_eq_true, Bool.not_eq_true', Array.all_eq_true_iff_forall_mem, Bool.or_eq_true] at h2
      refine ⟨o, rfl, h2.1, fun e he hb => ?_⟩
      rcases h2.2 e he with h3 | h3
      · rw [hb] at h3; cases h3
      · exact h3
  · rintro ⟨o, ho, h1, h2⟩
    refine ⟨(Array.getElem?_eq_some_iff.1 ho).1, ?_⟩
    rw [ho]
    simp only [Option.map_some, Option.getD_some, Bool.and_eq_true, Bool.not_eq_true', Array.all_eq_true_iff_forall_mem, Bool.or_eq_true]
    refine ⟨h1, fun e he => ?_⟩
    cases hb : Region.binds .any e with
    | false => exact .inl rfl
    | true => exact .inr (h2 e he hb)
theorem getD_two {L : Array Bool} {i : Nat} (h : i < L.size) : L.getD i true = L.getD i false := by
  simp [Array.getD, h]
theorem set_getD {L : Array Bool} {i : Nat} (h : i < L.size) : (fun j => (L.setIfInBounds i true).getD j false) = fun j => j == i || L.getD j false := by
  funext j
  simp only [Array.getD_eq_getD_getElem?, Array.getElem?_setIfInBounds]
  by_cases e : i = j
  · subst e; simp [h]
  · have : (j == i) = false := by simpa using fun h => e h.symm
    simp [e, this]
theorem all_listed (hk : regOk ops = true) {L : Array Bool} (hL : L.size = ops.size) (hr : Region.ready .any ops L = []) : ∀ i, i < ops.size → L.getD i false = true := by
  intro i
  induction i using Nat.strongRecOn with
  | ind i ih =>
    intro hi
    cases hb : L.getD i false with
    | true => rfl
    | false =>
      have ho : ops[i]? = some ops[i] := Array.getElem?_eq_getElem hi
      have hm : i ∈ Region.ready .any ops L := ready_iff.2 ⟨_, ho, by rw [getD_two (by omega)]; exact hb, fun e he hb' => by
        have h1 := (regOk_at hk ho).2 e he hb'
        exact ih _ h1 (by omega)⟩
      rw [hr] at hm
      cases hm
theorem filter_less {p p' : Nat → Bool} {l : List Nat} {i : Nat} (hi : i ∈ l) (h1 : p i = true) (h2 : p' i = false) (h : ∀ j, p' j = true → p j = true) : (l.filter p').length < (l.filter p).length := by
  have e : l.filter p' = (l.filter p).filter p' := by
    rw [List.filter_filter]
    refine List.filter_congr fun j _ => ?_
    cases hj : p' j with
    | false => rfl
    | true => rw [h j hj]; rfl
  rw [e]
  exact List.length_filter_lt_length_iff_exists.2 ⟨i, List.mem_filter.2 ⟨hi, h1⟩, by simp [h2]⟩
/-- A region that draws its order: what holds of the operations that are done, kept by each. -/
theorem wp_region_inv {id : Nat} {a : Act} {w : World} (hm : P.follows .mixedOrders = true) (hk : regOk ops = true) (I : (Nat → Bool) → Act → World → Prop)
    (h0 : I (fun _ => false) a w.drew)
    (hs : ∀ (i : Nat) o, ops[i]? = some o → ∀ D a w, I D a w → D i = false → (∀ e, e ∈ o.after → Region.binds .any e = true → D e.on = true) → o.wp P a w (I fun j => j == i || D j) Q)
    (he : ∀ D a w, (∀ i, i < ops.size → D i = true) → I D a w → Q .normal a w) : (Code.region id ops true).wp P Q a w := by
  refine wp_region_any hm ?_
  have main : ∀ fuel (L : Array Bool) a w, L.size = ops.size → I (fun j => L.getD j false) a w → ((List.range ops.size).filter fun i => !L.getD i false).length ≤ fuel → wpAny P .any ops Q fuel L a w := by
    intro fuel
    induction fuel with
    | zero =>
      intro L a w hL hI hc
      have hall : ∀ i, i < ops.size → L.getD i false = true := fun i hi => by
        cases hb : L.getD i false with
        | true => rfl
        | false =>
          have : i ∈ (List.range ops.size).filter fun i => !L.getD i false := List.mem_filter.2 ⟨List.mem_range.2 hi, by simp [hb]⟩
          have := List.length_pos_of_mem this
          omega
      refine ⟨?_, he _ _ _ hall hI⟩
      cases hr : Region.ready .any ops L with
      | nil => rfl
      | cons i r =>
        obtain ⟨o, ho, h1, _⟩ := ready_iff.1 (show i ∈ Region.ready .any ops L by rw [hr]; simp)
        have hi := (Array.getElem?_eq_some_iff.1 ho).1
        rw [getD_two (by omega), hall i hi] at h1
        cases h1
    | succ fuel ih =>
      intro L a w hL hI hc
      refine ⟨fun hr => he _ _ _ (all_listed hk hL hr) hI, fun i hi => ?_⟩
      obtain ⟨o, ho, h1, h2⟩ := ready_iff.1 hi
      have hlt := (Array.getElem?_eq_some_iff.1 ho).1
      rw [getD_two (by omega)] at h1
      have hg := (regOk_at hk ho).1
      unfold wpOp
      rw [ho]
      have hw : Region.wanted o (yielded ops a.tmps) = true := by unfold Region.wanted; rw [hg]
      simp only [hw, if_true]
      refine .inl (Oper.wp_mono (fun a' w' hI' => ih _ a' w' (by simpa using hL) (by rw [set_getD (by omega)]; exact hI') ?_) (hs i o ho _ a w hI h1 h2))
      have := filter_less (p := fun i => !L.getD i false) (p' := fun j => !(L.setIfInBounds i true).getD j false) (l := List.range ops.size) (i := i) (List.mem_range.2 hlt) (by rw [h1]; rfl) (by
        rw [congrFun (set_getD (L := L) (i := i) (by omega)) i]
        simp) (fun j hj => by
        rw [congrFun (set_getD (L := L) (i := i) (by omega)) j] at hj
        simp only [Bool.not_eq_true', Bool.or_eq_false_iff] at hj
        rw [hj.2]; rfl)
      omega
  exact main _ _ _ _ (by simp) (by
    have e : (fun j => (Array.replicate ops.size false).getD j false) = fun _ => false := by
      funext j
      simp only [Array.getD_eq_getD_getElem?, Array.getElem?_replicate]
      split <;> rfl
    rw [e]; exact h0) (Nat.le_trans (List.length_filter_le _ _) (by simp))

/-! ### Frames that differ from a given one in some slots alone -/
structure Same (S : List Nat) (b a : Act) : Prop where
  size : a.tmps.size = b.tmps.size
  rest : a.defers = b.defers
  at_ : ∀ k, k ∉ S → a.tmps[k]? = b.tmps[k]?
theorem Same.refl (S : List Nat) (a : Act) : Same S a a := ⟨rfl, rfl, fun _ _ => rfl⟩
theorem Same.put {S : List Nat} {b a : Act} (h : Same S b a) {d : Nat} (hd : d ∈ S) (x : Value) : Same S b (a.put (some d) x) :=
  ⟨by simp [Act.put, h.size], h.rest, fun k hk => by
    have : d ≠ k := fun e => hk (e ▸ hd)
    simp only [Act.put, Array.getElem?_setIfInBounds_ne this]
    exact h.at_ k hk⟩
theorem eval_tmp (a : Act) (k : Nat) : a.eval (.tmp k) = a.tmps.getD k undef := rfl
theorem put_same {a : Act} {d : Nat} (h : d < a.tmps.size) (x : Value) : (a.put (some d) x).eval (.tmp d) = x := by
  simp [eval_tmp, Act.put, h]
theorem put_other {a : Act} {d k : Nat} (h : d ≠ k) (x : Value) : (a.put (some d) x).eval (.tmp k) = a.eval (.tmp k) := by
  simp [eval_tmp, Act.put, Array.getElem?_setIfInBounds_ne h]
theorem Same.eval {S : List Nat} {b a : Act} (h : Same S b a) {k : Nat} (hk : k ∉ S) : a.eval (.tmp k) = b.eval (.tmp k) := by
  simp only [eval_tmp, Array.getD_eq_getD_getElem?, h.at_ k hk]
/-- The frame b with the slots S as v says. -/
def putsF (b : Act) (S : List Nat) (v : Nat → Value) : Act := S.foldl (fun a s => a.put (some s) (v s)) b
theorem putsF_size (S : List Nat) (v : Nat → Value) : ∀ b : Act, (putsF b S v).tmps.size = b.tmps.size ∧ (putsF b S v).defers = b.defers := by
  induction S with
  | nil => intro b; exact ⟨rfl, rfl⟩
  | cons s S ih =>
    intro b
    obtain ⟨h1, h2⟩ := ih (b.put (some s) (v s))
    exact ⟨by show (putsF (b.put (some s) (v s)) S v).tmps.size = _; rw [h1]; simp [Act.put], h2⟩
theorem putsF_at (v : Nat → Value) (S : List Nat) : ∀ (b : Act) (k : Nat), k < b.tmps.size → (putsF b S v).tmps[k]? = if k ∈ S then some (v k) else b.tmps[k]? := by
  induction S with
  | nil => intro b k _; simp [putsF]
  | cons s S ih =>
    intro b k hk
    show (putsF (b.put (some s) (v s)) S v).tmps[k]? = _
    rw [ih _ k (by simpa [Act.put] using hk)]
    by_cases h1 : k ∈ S
    · simp [h1]
    · rw [if_neg h1]
      by_cases h2 : k = s
      · subst h2; simp [Act.put, hk]
      · rw [if_neg (by simp [h1, h2])]
        simp [Act.put, Array.getElem?_setIfInBounds_ne (fun e => h2 e.symm)]
theorem Same.puts {S : List Nat} {b a : Act} (h : Same S b a) : a = putsF b S fun k => a.eval (.tmp k) := by
  obtain ⟨h1, h2⟩ := putsF_size S (fun k => a.eval (.tmp k)) b
  have ht : a.tmps = (putsF b S fun k => a.eval (.tmp k)).tmps := by
    refine Array.ext_getElem? fun k => ?_
    by_cases hk : k < b.tmps.size
    · rw [putsF_at _ _ _ _ hk]
      by_cases hs : k ∈ S
      · rw [if_pos hs]
        have hk' : k < a.tmps.size := by rw [h.size]; exact hk
        simp [eval_tmp, hk']
      · rw [if_neg hs]; exact h.at_ k hs
    · rw [Array.getElem?_eq_none (by rw [h.size]; omega), Array.getElem?_eq_none (by rw [h1]; omega)]
  have hd : a.defers = (putsF b S fun k => a.eval (.tmp k)).defers := h.rest.trans h2.symm
  obtain ⟨t, d⟩ := a
  generalize (putsF b S fun k => Act.eval { tmps := t, defers := d } (.tmp k)) = z at *
  obtain ⟨t', d'⟩ := z
  simp only at ht hd
  subst ht; subst hd
  rfl

def AllOps (C : Nat → Oper → Prop) : Nat → List Oper → Prop
  | _, [] => True
  | k, o :: l => C k o ∧ AllOps C (k + 1) l
theorem AllOps.at_ {C : Nat → Oper → Prop} : ∀ {l : List Oper} {k : Nat}, AllOps C k l → ∀ (i : Nat) o, l[i]? = some o → C (k + i) o
  | [], _, _, i, o, h => by simp at h
  | x :: l, k, h, i, o, hi => by
    cases i with
    | zero => injection hi with hi; subst hi; exact h.1
    | succ i =>
      have := AllOps.at_ h.2 i o hi
      rwa [show k + 1 + i = k + (i + 1) from by omega] at this
/-- What is done is done with all that goes ahead of it. -/
def Closed (l : List Oper) (D : Nat → Bool) : Prop := ∀ (i : Nat) o, l[i]? = some o → D i = true → ∀ e, e ∈ o.after → Region.binds .any e = true → D e.on = true
/-- One operation's duty: it puts something into its slot, and what holds of what is done holds on. -/
def RegStep (P : Program) (Q : Exit → Act → World → Prop) (l : List Oper) (S : List Nat) (b : Act) (R : (Nat → Bool) → (Nat → Value) → World → Prop) (i : Nat) (o : Oper) : Prop :=
  ∀ D a w, Closed l D → Same S b a → R D (fun k => a.eval (.tmp k)) w → D i = false → (∀ e, e ∈ o.after → Region.binds .any e = true → D e.on = true) →
    o.wp P a w (fun a' w' => Same S b a' ∧ R (fun j => j == i || D j) (fun k => a'.eval (.tmp k)) w') Q
/-- The region's law, over frames: S are the slots that it writes; R speaks of what is done, of the slots and the world. -/
theorem wp_region_reg {id : Nat} {l : List Oper} {a : Act} {w : World} (hm : P.follows .mixedOrders = true) (hk : regOk l.toArray = true) (S : List Nat) (R : (Nat → Bool) → (Nat → Value) → World → Prop)
    (h0 : R (fun _ => false) (fun k => a.eval (.tmp k)) w.drew) (hs : AllOps (RegStep P Q l S a R) 0 l)
    (he : ∀ D v w', (∀ i, i < l.length → D i = true) → R D v w' → Q .normal (putsF a S v) w') : (Code.region id l.toArray true).wp P Q a w := by
  refine wp_region_inv hm hk (fun D a' w' => Closed l D ∧ Same S a a' ∧ R D (fun k => a'.eval (.tmp k)) w') ⟨(fun i o _ h => nomatch h), Same.refl S a, h0⟩ (fun i o ho D a' w' hI hd hp => ?_) fun D a' w' hd hI => ?_
  · have := AllOps.at_ hs i o (by simpa using ho)
    rw [Nat.zero_add] at this
    refine Oper.wp_mono (fun a'' w'' h => ⟨fun j oj hj hD e he hb => ?_, h⟩) (this D a' w' hI.1 hI.2.1 hI.2.2 hd hp)
    simp only [Bool.or_eq_true, beq_iff_eq] at hD ⊢
    rcases hD with rfl | hD
    · have : oj = o := by
        have h1 : l.toArray[j]? = l[j]? := by simp
        rw [h1, hj] at ho; injection ho
      subst this
      exact .inr (hp e he hb)
    · exact .inr (hI.1 j oj hj hD e he hb)
  · have := he D _ w' (fun i hi => hd i (by simpa using hi)) hI.2.2
    rw [← hI.2.1.puts] at this
    exact this

/-! ### Single operations -/
/-- A function of the program's own. -/
def GoFn (P : Program) (f : FuncId) : Prop := ∃ fn, P.funcs[f]? = some fn ∧ (fn.name == "runtime.NumGoroutine") = false ∧ fn.body.isNone = false
theorem run_callFunc_go {f : FuncId} (h : GoFn P f) (args : Array Value) (w : World) : (callFunc f args).run P w = .ok (.enter f args) w := by
  obtain ⟨fn, h1, h2, h3⟩ := h
  have e2 : (fn.name == "runtime.NumGoroutine") = false := h2
  have e3 : fn.body.isNone = false := h3
  unfold callFunc
  have hp : program.run P w = .ok P w := rfl
  simp only [Sem.run_bind, hp, Result.andThen_ok, h1, e2, e3, Bool.false_eq_true, if_false, Sem.run_pure]
theorem wp_call_go {o : Oper} {a : Act} {w : World} {K : Act → World → Prop} {f : FuncId} {xs : Array Operand} {ats : Array TypeId} (ho : o.op = .call { callee := .value (.func f), args := xs, argTypes := ats }) (hf : GoFn P f)
    (vals : Array Value) (hv : xs.map a.eval = vals) (hc : Calls P f vals w fun e w' => ∃ v, e = .returned v ∧ K (a.put o.dst v) w') : o.wp P a w K Q := by
  subst hv
  have hrun : (execOp a.eval o).run P w = .ok (.enter f (xs.map a.eval)) w := by
    obtain ⟨dst, op, type, pos, after, guard⟩ := o
    simp only at ho
    subst ho
    rw [execOp_call_go]
    have e : #[] ++ xs.map a.eval ++ #[] = xs.map a.eval := by simp
    rw [e]
    exact run_callFunc_go hf _ w
  unfold Oper.wp
  rw [hrun, Oper.upon_enter]
  refine hc.mono fun e w' ⟨v, he, hK⟩ => ?_
  subst he
  exact hK
/-- A type whose values are rows of n cells. -/
structure RowTy (P : Program) (ty : TypeId) (n : Nat) : Prop where
  desc : ∃ d, P.underlying ty = some d ∧ d.isRow = true
  size : (P.info? ty).map (·.size) = some n
theorem wp_load_row7 {o : Oper} {a : Act} {w : World} {K : Act → World → Prop} {ty : TypeId} {x : Operand} (ho : o.op = .load ty x) {g : Nat} {cs : List Value} (hx : a.eval x = .pointer (some ⟨g, 0, none⟩)) (hr : w.rangeAt g 0 cs) (ht : RowTy P ty cs.length)
    (hK : K (a.put o.dst (.agg cs.toArray)) w) : o.wp P a w K Q := by
  obtain ⟨⟨d, hu, hd⟩, hi⟩ := ht
  exact wp_load_mid ty x ho g 0 hx cs d hr hu hd hi hK
theorem wpList_load_row7 {rest : List Oper} {o : Oper} {a : Act} {w : World} (hgd : Region.wanted o (yielded ops a.tmps) = true) (ty : TypeId) (x : Operand) (ho : o.op = .load ty x) {g : Nat} {cs : List Value} (hx : a.eval x = .pointer (some ⟨g, 0, none⟩)) (hr : w.rangeAt g 0 cs) (ht : RowTy P ty cs.length)
    (hK : wpList P ops Q rest (a.put o.dst (.agg cs.toArray)) w) : wpList P ops Q (o :: rest) a w :=
  BigFrame.wpList_want hgd fun _ h => wp_load_row7 ho hx hr ht (h _ _ hK)
end
end Go.Proofs.Ythjjihipodhkiaa

/-
  Boxes and rows of the call's own under one head. Over any program.
-/
namespace Go.Proofs.Ythjjihipodhkiaa
open Go.RowKit

abbrev Bx1 := Option (Nat × List Value)
/-- All that the call has made: boxes (none: a place that is not made yet), rows of bytes; all apart. -/
structure St (T : TypeId) (w : World) (bs : List Bx1) (rs : RowL) (x : World) : Prop where
  up : Below w.heap.size w x
  box : ∀ (i : Nat) g cs, bs[i]? = some (some (g, cs)) → w.heap.size ≤ g ∧ g < x.heap.size ∧ x.rangeAt g 0 cs ∧ ∀ j, x.frozen? ⟨g, j, none⟩ = false
  ne : ∀ (i j : Nat) g cs h ds, bs[i]? = some (some (g, cs)) → bs[j]? = some (some (h, ds)) → i ≠ j → g ≠ h
  rows : RowsB T w.heap.size x rs
  off : ∀ (i j : Nat) g cs r a, bs[i]? = some (some (g, cs)) → rs[j]? = some r → r.1 = some a → a.block ≠ g

section
variable {T : TypeId} {w x y : World} {bs : List Bx1} {rs : RowL} {i g : Nat} {cs vs : List Value}
theorem St.nil (T : TypeId) (w : World) : St T w [] [] w := ⟨Below.refl _ _, fun i g cs h => by simp at h, fun i j g cs h ds h1 => by simp at h1, RowsB.nil, fun i j g cs r a h => by simp at h⟩
theorem range_below {g : Nat} (h : x.rangeAt g 0 cs) (k : Below x.heap.size x y) : y.rangeAt g 0 cs := fun j v hv => cell_below k (h j v hv)
theorem St.later (h : St T w bs rs x) (k : Below x.heap.size x y) : St T w bs rs y :=
  ⟨h.up.trans (k.mono h.up.size), fun i g cs hb => by
    obtain ⟨h1, h2, h3, h4⟩ := h.box i g cs hb
    exact ⟨h1, Nat.lt_of_lt_of_le h2 k.size, range_below h3 k, fun j => (k.frozen (p := ⟨g, j, none⟩) h2).trans (h4 j)⟩, h.ne, h.rows.later k, h.off⟩
theorem St.drew (h : St T w bs rs x) : St T w bs rs x.drew := h.later (Below.refl _ _).drew
theorem St.range (h : St T w bs rs x) (hb : bs[i]? = some (some (g, cs))) : x.rangeAt g 0 cs := (h.box i g cs hb).2.2.1
theorem St.cell (h : St T w bs rs x) (hb : bs[i]? = some (some (g, cs))) {j : Nat} {v : Value} (hv : cs[j]? = some v) : x.cell? ⟨g, j, none⟩ = some v := by have := h.range hb j v hv; rwa [Nat.zero_add] at this
theorem St.fz (h : St T w bs rs x) (hb : bs[i]? = some (some (g, cs))) (j : Nat) : x.frozen? ⟨g, j, none⟩ = false := (h.box i g cs hb).2.2.2 j
theorem St.more (h : St T w bs rs x) : St T w (bs ++ [none]) rs x := by
  have hg : ∀ (i : Nat) b, (bs ++ [none])[i]? = some (some b) → bs[i]? = some (some b) := fun i b hi => by
    rw [List.getElem?_append] at hi
    split at hi
    · exact hi
    · rw [List.getElem?_singleton] at hi; split at hi <;> simp at hi
  exact ⟨h.up, fun i g cs hb => h.box i g cs (hg i _ hb), fun i j g cs g' ds h1 h2 => h.ne i j g cs g' ds (hg i _ h1) (hg j _ h2), h.rows, fun i j g cs r a h1 => h.off i j g cs r a (hg i _ h1)⟩
theorem set_get {b : Bx1} {c : Nat × List Value} {j : Nat} (hj : (bs.set i b)[j]? = some (some c)) : (j = i ∧ b = some c) ∨ (j ≠ i ∧ bs[j]? = some (some c)) := by
  rw [List.getElem?_set] at hj
  by_cases e : i = j
  · subst e
    rw [if_pos rfl] at hj
    split at hj
    · injection hj with hj; exact .inl ⟨rfl, hj⟩
    · cases hj
  · rw [if_neg e] at hj
    exact .inr ⟨fun h => e h.symm, hj⟩
theorem range_new (w : World) (cs : List Value) (t : TypeId) : (w.alloc (.cells cs.toArray t)).rangeAt w.heap.size 0 cs := fun j v hv => by
  rw [Nat.zero_add]; simpa using hv
/-- A place is made. -/
theorem St.fill {t : TypeId} (h : St T w bs rs x) (i : Nat) (cs : List Value) (hn : bs[i]? = some none) : St T w (bs.set i (some (x.heap.size, cs))) rs (x.alloc (.cells cs.toArray t)) := by
  have hb : Below x.heap.size x (x.alloc (.cells cs.toArray t)) := (Below.refl _ x).alloc (Nat.le_refl _) _
  have k := h.later hb
  have hsz : x.heap.size < (x.alloc (.cells cs.toArray t)).heap.size := by show _ < (x.heap.push _).size; simp
  refine ⟨k.up, fun j g ds hj => ?_, fun j q g ds g' ds' hj hq hne => ?_, k.rows, fun j q g ds r a hj hq ha => ?_⟩
  · rcases set_get hj with ⟨rfl, e⟩ | ⟨_, hj⟩
    · injection e with e; injection e with e1 e2; subst e1; subst e2
      exact ⟨h.up.size, hsz, range_new _ _ _, fun j => by simp⟩
    · exact k.box j g ds hj
  · rcases set_get hj with ⟨rfl, e⟩ | ⟨h1, hj1⟩ <;> rcases set_get hq with ⟨rfl, e'⟩ | ⟨h2, hq1⟩
    · exact absurd rfl hne
    · injection e with e; injection e with e1 _; subst e1
      exact Nat.ne_of_gt (h.box q g' ds' hq1).2.1
    · injection e' with e'; injection e' with e1 _; subst e1
      exact Nat.ne_of_lt (h.box j g ds hj1).2.1
    · exact h.ne j q g ds g' ds' hj1 hq1 hne
  · rcases set_get hj with ⟨rfl, e⟩ | ⟨h1, hj⟩
    · injection e with e; injection e with e1 _; subst e1
      exact Nat.ne_of_lt (((h.rows.1 q r hq).lt ha).2)
    · exact h.off j q g ds r a hj hq ha
theorem St.push {t : TypeId} (h : St T w bs rs x) (cs : List Value) : St T w (bs ++ [some (x.heap.size, cs)]) rs (x.alloc (.cells cs.toArray t)) := by
  have := (h.more).fill (t := t) bs.length cs (by simp)
  simpa using this
/-- Blocks that are not the call's boxes change. -/
theorem St.chg {S : Nat → Prop} (h : St T w bs rs x) (hc : Chg S x y) (hS : ∀ b, S b → w.heap.size ≤ b) (hb : ∀ (i : Nat) g cs, bs[i]? = some (some (g, cs)) → ¬ S g) (hr : ∀ (i : Nat) r, rs[i]? = some r → ∀ a, r.1 = some a → ¬ S a.block) : St T w bs rs y :=
  ⟨h.up.trans (hc.below h.up.size fun k _ hk => hS k hk), fun i g cs hi => by
    obtain ⟨h1, h2, h3, h4⟩ := h.box i g cs hi
    refine ⟨h1, Nat.lt_of_lt_of_le h2 hc.size, fun j v hv => hc.cell (h3 j v hv) (hb i g cs hi), fun j => ?_⟩
    have := hc.block g h2 (hb i g cs hi)
    have h5 := h4 j
    unfold World.frozen? at h5 ⊢
    rw [this]; exact h5, h.ne, h.rows.chg hc hr, h.off⟩
theorem setCells_chg (g : Nat) : ∀ (vs : List Value) (o : Nat) (x : World), Chg (fun b => b = g) x (x.setCells g o vs)
  | [], _, x => Chg.refl _ x
  | v :: vs, o, x => (Chg.setCell x ⟨g, o, none⟩ v).trans (setCells_chg g vs (o + 1) _)
/-- A box is written whole. -/
theorem St.put (h : St T w bs rs x) (hb : bs[i]? = some (some (g, cs))) (hl : vs.length = cs.length) : St T w (bs.set i (some (g, vs))) rs (x.setCells g 0 vs) ∧ Chg (fun b => b = g) x (x.setCells g 0 vs) := by
  have hc := setCells_chg g vs 0 x
  obtain ⟨hw, hx, hr, hf⟩ := h.box i g cs hb
  have ht : x.there g 0 vs.length := fun j hj => ⟨hr.isSome j (by omega), by rw [Nat.zero_add]; exact hf j⟩
  have hfz : ∀ q, (x.setCells g 0 vs).frozen? q = x.frozen? q := fun q => World.frozen?_setCells _ _ _ _ _
  refine ⟨⟨h.up.trans (hc.below h.up.size fun k _ hk => by rw [hk]; exact hw), fun j g' ds hj => ?_, fun j q g' ds g'' ds' hj hq hne => ?_, h.rows.chg hc fun q r hq a ha => h.off i q g cs r a hb hq ha, fun j q g' ds r a hj hq ha => ?_⟩, hc⟩
  · rcases set_get hj with ⟨rfl, e⟩ | ⟨h1, hj⟩
    · injection e with e; injection e with e1 e2; subst e1; subst e2
      exact ⟨hw, Nat.lt_of_lt_of_le hx hc.size, World.rangeAt_setCells_same x g 0 vs ht, fun j => (hfz _).trans (hf j)⟩
    · obtain ⟨a1, a2, a3, a4⟩ := h.box j g' ds hj
      exact ⟨a1, Nat.lt_of_lt_of_le a2 hc.size, World.rangeAt_setCells_apart a3 g 0 vs (.inl (h.ne j i g' ds g cs hj hb h1)), fun j => (hfz _).trans (a4 j)⟩
  · rcases set_get hj with ⟨rfl, e⟩ | ⟨h1, hj1⟩ <;> rcases set_get hq with ⟨rfl, e'⟩ | ⟨h2, hq1⟩
    · exact absurd rfl hne
    · injection e with e; injection e with e1 _; subst e1
      exact h.ne j q g cs g'' ds' hb hq1 hne
    · injection e' with e'; injection e' with e1 _; subst e1
      exact h.ne j q g' ds g cs hj1 hb hne
    · exact h.ne j q g' ds g'' ds' hj1 hq1 hne
  · rcases set_get hj with ⟨rfl, e⟩ | ⟨h1, hj⟩
    · injection e with e; injection e with e1 _; subst e1
      exact h.off j q g cs r a hb hq ha
    · exact h.off j q g' ds r a hj hq ha
/-- Rows that a call has made since. -/
theorem St.app (h : St T w bs rs x) (k : Below x.heap.size x y) {rs' : RowL} (hr : RowsB T x.heap.size y rs') : St T w bs (rs ++ rs') y :=
  ⟨(h.later k).up, (h.later k).box, h.ne, h.rows.app k hr h.up.size, fun i j g cs r a hb hj ha => by
    rw [List.getElem?_append] at hj
    split at hj
    · exact h.off i j g cs r a hb hj ha
    · have h1 := ((hr.1 _ r hj).lt ha).1
      have h2 := (h.box i g cs hb).2.1
      omega⟩
theorem St.fresh (h : St T w bs rs x) (k : Below x.heap.size x y) {A : Option Addr} {c : Nat} {l : List UInt8} (ho : OwnB T x.heap.size y A c l) : St T w bs (rs ++ [(A, c, l)]) y :=
  h.app k (RowsB.nil.snoc ho fun i r hr => by simp at hr)
theorem St.sl {c n : Nat} {A : Option Addr} {l : List UInt8} (h : St T w bs rs x) (hr : rs[i]? = some (A, c, l)) (hn : l.length = n) : Sl x A n c l := h.rows.sl_at hr hn
theorem St.own {c : Nat} {A : Option Addr} {l : List UInt8} (h : St T w bs rs x) (hr : rs[i]? = some (A, c, l)) : OwnB T w.heap.size x A c l := h.rows.1 i _ hr
theorem RowsB.erase {B : Nat} (h : RowsB T B x rs) (i : Nat) : RowsB T B x (rs.eraseIdx i) :=
  h.pick (fun j => if j < i then j else j + 1) (fun a b _ _ hne => by split <;> split <;> omega) fun j s hs => by
    rw [List.getElem?_eraseIdx] at hs
    split at hs
    · rename_i hj; rw [if_pos hj]; exact hs
    · rename_i hj; rw [if_neg hj]; exact hs
theorem erase_from {j : Nat} {r : Option Addr × Nat × List UInt8} (h : (rs.eraseIdx i)[j]? = some r) : ∃ k, k ≠ i ∧ rs[k]? = some r := by
  rw [List.getElem?_eraseIdx] at h
  split at h
  · exact ⟨j, by omega, h⟩
  · exact ⟨j + 1, by omega, h⟩
theorem St.erase (h : St T w bs rs x) (i : Nat) : St T w bs (rs.eraseIdx i) x := ⟨h.up, h.box, h.ne, h.rows.erase i, fun q j g cs r a hb hr ha => by
  obtain ⟨k, _, hk⟩ := erase_from hr
  exact h.off q k g cs r a hb hk ha⟩
/-- A row is written over and lengthened: the others stand. -/
theorem St.lng {A : Option Addr} {c : Nat} {l : List UInt8} (h : St T w bs rs x) (hr : rs[i]? = some (A, c, l)) (hc : Chg (fun b => A.map (·.block) = some b) x y) : St T w bs (rs.eraseIdx i) y := by
  have hS : ∀ b, A.map (·.block) = some b → ∃ a, A = some a ∧ a.block = b := fun b e => by
    cases A with
    | none => cases e
    | some a => injection e with e; exact ⟨a, rfl, e⟩
  refine (h.erase i).chg hc (fun b e => ?_) (fun q g cs hb e => ?_) fun j r hj a ha e => ?_
  · obtain ⟨a, ha, rfl⟩ := hS b e
    exact ((h.rows.1 i _ hr).lt ha).1
  · obtain ⟨a, ha, e'⟩ := hS g e
    exact h.off q i g cs _ a hb hr ha e'
  · obtain ⟨k, hk, hj⟩ := erase_from hj
    obtain ⟨b, hb, e'⟩ := hS _ e
    exact h.rows.2 i k _ r hr hj (fun e => hk e.symm) b a hb ha e'
theorem Lng.aside {x0 : World} {A A' : Option Addr} {c c' n g i j : Nat} {m : UInt8} {l l' : List UInt8} (L : Lng x0 A n m g x) (h : St T w bs rs x0) (hi : rs[i]? = some (A, c, l)) (hj : rs[j]? = some (A', c', l')) (hne : i ≠ j) (hc : Chg (fun b => A'.map (·.block) = some b) x y) : Lng x0 A n m g y := by
  refine L.chg hc fun b e => ?_
  cases A' with
  | none => cases e
  | some a =>
    injection e with e
    have e : a.block = b := e
    subst e
    refine ⟨((h.rows.1 j _ hj).lt rfl).2, fun e => ?_⟩
    cases A with
    | none => cases e
    | some a' =>
      injection e with e
      exact h.rows.2 i j _ _ hi hj hne a' a rfl rfl e
theorem Lng.box {x0 : World} {A : Option Addr} {c n g k i g1 : Nat} {m : UInt8} {l : List UInt8} {cs : List Value} (L : Lng x0 A n m g x) (h : St T w bs rs x0) (hb : bs[k]? = some (some (g1, cs))) (hi : rs[i]? = some (A, c, l)) (hc : Chg (fun b => b = g1) x y) : Lng x0 A n m g y := by
  refine L.chg hc fun b e => ?_
  subst e
  refine ⟨(h.box k _ cs hb).2.1, fun e => ?_⟩
  cases A with
  | none => cases e
  | some a =>
    injection e with e
    exact h.off k i _ cs _ a hb hi rfl e
theorem RowsB.lift {B B' : Nat} (h : RowsB T B x rs) (hb : B' ≤ B) : RowsB T B' x rs := ⟨fun i r hr => (h.1 i r hr).rebase hb, h.2⟩
end

section
variable {P : Program} {ops : Array Oper} {Q : Exit → Act → World → Prop}
theorem wp_alloc_row {o : Oper} {a : Act} {w : World} {K : Act → World → Prop} {ty : TypeId} (ho : o.op = .alloc ty) {z : Value} (hz : (P.info? ty).bind (·.zero) = some z)
    (hK : K (a.put o.dst (.pointer (some ⟨w.heap.size, 0, none⟩))) (w.alloc (.cells z.cells ty))) : o.wp P a w K Q := by
  cases hi : P.info? ty with
  | none => rw [hi] at hz; cases hz
  | some i =>
    rw [hi] at hz
    have hz : i.zero = some z := hz
    unfold Oper.wp execOp
    simp [ho, Instr.alloc, zeroValue, typeInfo, hi, hz, newVar, newRow, Sem.run_bind, Oper.upon]
    exact hK
theorem wp_store_row {o : Oper} {a : Act} {w : World} {K : Act → World → Prop} {ty : TypeId} {x y : Operand} (ho : o.op = .store ty x y) {g : Nat} {cs vs : List Value} (hx : a.eval x = .pointer (some ⟨g, 0, none⟩)) (hy : a.eval y = .agg vs.toArray)
    (hr : w.rangeAt g 0 cs) (hf : ∀ j, w.frozen? ⟨g, j, none⟩ = false) (hl : vs.length = cs.length) (ht : (P.info? ty).map (·.size) = some vs.length) (h1 : ∀ u ∈ vs, u.oneCell' = true)
    (hK : K (a.put o.dst undef) (w.setCells g 0 vs)) : o.wp P a w K Q :=
  wp_store_mid ty x y ho g 0 vs.toArray hx hy (fun j hj => ⟨hr.isSome j (by simpa [hl] using hj), by rw [Nat.zero_add]; exact hf j⟩) (by simpa using ht) (all_oneCell_toArray h1) hK
theorem wpList_store_row {rest : List Oper} {o : Oper} {a : Act} {w : World} (hgd : Region.wanted o (yielded ops a.tmps) = true) (ty : TypeId) (x y : Operand) (ho : o.op = .store ty x y) {g : Nat} {cs vs : List Value} (hx : a.eval x = .pointer (some ⟨g, 0, none⟩)) (hy : a.eval y = .agg vs.toArray)
    (hr : w.rangeAt g 0 cs) (hf : ∀ j, w.frozen? ⟨g, j, none⟩ = false) (hl : vs.length = cs.length) (ht : (P.info? ty).map (·.size) = some vs.length) (h1 : ∀ u ∈ vs, u.oneCell' = true)
    (hK : wpList P ops Q rest (a.put o.dst undef) (w.setCells g 0 vs)) : wpList P ops Q (o :: rest) a w :=
  BigFrame.wpList_want hgd fun _ h => wp_store_row ho hx hy hr hf hl ht h1 (h _ _ hK)
theorem wpList_alloc_st {rest : List Oper} {o : Oper} {a : Act} {W : World} (hgd : Region.wanted o (yielded ops a.tmps) = true) (ty : TypeId) (ho : o.op = .alloc ty) {T : TypeId} {w : World} {bs : List Bx1} {rs : RowL} (h : St T w bs rs W) (cs : List Value) (hz : (P.info? ty).bind (·.zero) = some (.agg cs.toArray))
    (hK : ∀ g W', St T w (bs ++ [some (g, cs)]) rs W' → Below W.heap.size W W' → wpList P ops Q rest (a.put o.dst (.pointer (some ⟨g, 0, none⟩))) W') : wpList P ops Q (o :: rest) a W :=
  BigFrame.wpList_want hgd fun _ hk => wp_alloc_row ho hz (hk _ _ (hK _ _ (h.push cs) ((Below.refl _ _).alloc (Nat.le_refl _) _)))
theorem wpList_store_st {rest : List Oper} {o : Oper} {a : Act} {W : World} (hgd : Region.wanted o (yielded ops a.tmps) = true) (ty : TypeId) (x y : Operand) (ho : o.op = .store ty x y) {T : TypeId} {w : World} {bs : List Bx1} {rs : RowL} (h : St T w bs rs W) (i : Nat) {g : Nat} {cs : List Value} (hb : bs[i]? = some (some (g, cs)))
    (hx : a.eval x = .pointer (some ⟨g, 0, none⟩)) (vs : List Value) (hy : a.eval y = .agg vs.toArray) (hl : vs.length = cs.length) (ht : (P.info? ty).map (·.size) = some vs.length) (h1 : ∀ u ∈ vs, u.oneCell' = true)
    (hK : ∀ W', St T w (bs.set i (some (g, vs))) rs W' → Chg (fun b => b = g) W W' → wpList P ops Q rest (a.put o.dst undef) W') : wpList P ops Q (o :: rest) a W :=
  wpList_store_row hgd ty x y ho hx hy (h.range hb) (h.fz hb) hl ht h1 (hK _ (h.put hb hl).1 (h.put hb hl).2)
end
end Go.Proofs.Ythjjihipodhkiaa

/-
  A statement 'x, y, .. := f(a), f(b), ..' whose variables are boxed: a region that draws its order; each part is loaded, called for, given a place and stored. Over any program.
-/
namespace Go.Proofs.Ythjjihipodhkiaa
open Go.RowKit

/-- Where the parts stand: slots of the loaded, of the answer, of the place; numbers of the operations. -/
structure Parts where
  k : Nat
  s : Nat → Nat
  u : Nat → Nat
  t : Nat → Nat
  L : Nat → Nat
  C : Nat → Nat
  A : Nat → Nat
  X : Nat → Nat
def Parts.slots (p : Parts) : List Nat := (List.range p.k).flatMap fun j => [p.s j, p.u j, p.t j]
def apartB (l : List Nat) : Bool := decide l.Nodup
def Parts.sl (p : Parts) (j : Nat) : List Nat := [p.s j, p.u j, p.t j]
def Parts.op (p : Parts) (j : Nat) : List Nat := [p.L j, p.C j, p.A j, p.X j]
def Parts.ok (p : Parts) (n : Nat) : Bool := (List.range p.k).all fun j => decide ((p.sl j).Nodup) && decide ((p.op j).Nodup) && (p.sl j).all (fun d => decide (d < n)) &&
  (List.range p.k).all fun i => i == j || ((p.sl i).all fun x => !(p.sl j).contains x) && (p.op i).all fun x => !(p.op j).contains x
theorem ok_at {p : Parts} {m : Nat} (h : p.ok m = true) {j : Nat} (hj : j < p.k) : ((p.sl j).Nodup ∧ (p.op j).Nodup ∧ ∀ d ∈ p.sl j, d < m) ∧ ∀ i, i < p.k → i ≠ j → (∀ x ∈ p.sl i, ∀ y ∈ p.sl j, x ≠ y) ∧ ∀ x ∈ p.op i, ∀ y ∈ p.op j, x ≠ y := by
  have h1 := List.all_eq_true.1 h j (List.mem_range.2 hj)
  simp only [Bool.and_eq_true, decide_eq_true_eq, List.all_eq_true, Bool.or_eq_true, beq_iff_eq, Bool.not_eq_true', List.mem_range] at h1
  obtain ⟨⟨⟨a1, a2⟩, a3⟩, a4⟩ := h1
  refine ⟨⟨a1, a2, a3⟩, fun i hi hne => ?_⟩
  rcases a4 i hi with e | ⟨b1, b2⟩
  · exact absurd e hne
  · exact ⟨fun x hx y hy e => by subst e; have := b1 x hx; simp at this; exact this hy, fun x hx y hy e => by subst e; have := b2 x hx; simp at this; exact this hy⟩
def edgeB (o : Oper) (n : Nat) : Bool := o.after.any fun e => Region.binds .any e && e.on == n
theorem edge_on {o : Oper} {n : Nat} {D : Nat → Bool} (h : edgeB o n = true) (hp : ∀ e, e ∈ o.after → Region.binds .any e = true → D e.on = true) : D n = true := by
  obtain ⟨e, he, hb⟩ := Array.any_eq_true'.1 h
  simp only [Bool.and_eq_true, beq_iff_eq] at hb
  rw [← hb.2]
  exact hp e he hb.1
def chainB (l : List Oper) (C : Nat → Nat) (k : Nat) : Bool := (List.range (k - 1)).all fun j => match l[C (j + 1)]? with
  | some o => edgeB o (C j)
  | none => false
theorem chain_down {l : List Oper} {C : Nat → Nat} {k : Nat} {D : Nat → Bool} (h : chainB l C k = true) (hc : Closed l D) {j : Nat} (hj : D (C j) = false) : ∀ i, j ≤ i → i < k → D (C i) = false := by
  intro i
  induction i with
  | zero => intro h0 _; obtain rfl : j = 0 := by omega
            exact hj
  | succ i ih =>
    intro h0 h1
    rcases Nat.lt_or_ge i j with hlt | hge
    · obtain rfl : j = i + 1 := by omega
      exact hj
    · cases hd : D (C (i + 1)) with
      | false => rfl
      | true =>
        have h2 := List.all_eq_true.1 h i (List.mem_range.2 (by omega))
        split at h2
        · rename_i o ho
          have := edge_on h2 (hc _ o ho hd)
          rw [ih hge (by omega)] at this
          cases this
        · cases h2
section
variable {P : Program} {Q : Exit → Act → World → Prop} {T : TypeId} {w : World} {bs : List Bx1} {rs : RowL}
/-- What holds of one part. -/
structure Part1 (p : Parts) (n : Nat) (arg : List Value) (Pst : Value → RowL → Prop) (j : Nat) (D : Nat → Bool) (v : Nat → Value) (b : Bx1) (R : RowL) : Prop where
  load : D (p.L j) = true → v (p.s j) = .agg arg.toArray
  no : D (p.C j) = false → R = []
  call : D (p.C j) = true → Pst (v (p.u j)) R
  nob : D (p.A j) = false → b = none
  box : D (p.A j) = true → ∃ g cs, v (p.t j) = .pointer (some ⟨g, 0, none⟩) ∧ b = some (g, cs) ∧ cs.length = n ∧ (D (p.X j) = true → v (p.u j) = .agg cs.toArray)
theorem slot_ne {p : Parts} {m : Nat} (h : p.ok m = true) {i j : Nat} (hi : i < p.k) (hj : j < p.k) (hne : i ≠ j) :
    (p.s i ≠ p.s j ∧ p.s i ≠ p.u j ∧ p.s i ≠ p.t j ∧ p.u i ≠ p.s j ∧ p.u i ≠ p.u j ∧ p.u i ≠ p.t j ∧ p.t i ≠ p.s j ∧ p.t i ≠ p.u j ∧ p.t i ≠ p.t j) := by
  have k := ((ok_at h hj).2 i hi hne).1
  unfold Parts.sl at k
  exact ⟨k _ (by simp) _ (by simp), k _ (by simp) _ (by simp), k _ (by simp) _ (by simp), k _ (by simp) _ (by simp), k _ (by simp) _ (by simp), k _ (by simp) _ (by simp), k _ (by simp) _ (by simp), k _ (by simp) _ (by simp), k _ (by simp) _ (by simp)⟩
theorem oper_ne {p : Parts} {m : Nat} (h : p.ok m = true) {i j : Nat} (hi : i < p.k) (hj : j < p.k) (hne : i ≠ j) :
    ∀ x ∈ [p.L i, p.C i, p.A i, p.X i], ∀ y ∈ [p.L j, p.C j, p.A j, p.X j], x ≠ y := ((ok_at h hj).2 i hi hne).2
theorem own_ne {p : Parts} {m : Nat} (h : p.ok m = true) {j : Nat} (hj : j < p.k) : (p.s j ≠ p.u j ∧ p.s j ≠ p.t j ∧ p.u j ≠ p.t j) ∧ (p.L j ≠ p.C j ∧ p.L j ≠ p.A j ∧ p.L j ≠ p.X j ∧ p.C j ≠ p.A j ∧ p.C j ≠ p.X j ∧ p.A j ≠ p.X j) ∧ (p.s j < m ∧ p.u j < m ∧ p.t j < m) := by
  obtain ⟨h1, h2, h3⟩ := (ok_at h hj).1
  unfold Parts.sl at h1 h3
  unfold Parts.op at h2
  simp only [List.nodup_cons, List.mem_cons, List.not_mem_nil, not_or, or_false] at h1 h2
  exact ⟨⟨h1.1.1, h1.1.2, h1.2.1⟩, ⟨h2.1.1, h2.1.2.1, h2.1.2.2, h2.2.1.1, h2.2.1.2, h2.2.2.1⟩, h3 _ (by simp), h3 _ (by simp), h3 _ (by simp)⟩
theorem slot_in {p : Parts} {j : Nat} (hj : j < p.k) : p.s j ∈ p.slots ∧ p.u j ∈ p.slots ∧ p.t j ∈ p.slots :=
  ⟨List.mem_flatMap.2 ⟨j, List.mem_range.2 hj, by simp⟩, List.mem_flatMap.2 ⟨j, List.mem_range.2 hj, by simp⟩, List.mem_flatMap.2 ⟨j, List.mem_range.2 hj, by simp⟩⟩
/-- A part that is not meant stays. -/
theorem Part1.other {p : Parts} {n : Nat} {arg : List Value} {Pst : Value → RowL → Prop} {j : Nat} {D D' : Nat → Bool} {v v' : Nat → Value} {b : Bx1} {R : RowL} (h : Part1 p n arg Pst j D v b R)
    (hD : D' (p.L j) = D (p.L j) ∧ D' (p.C j) = D (p.C j) ∧ D' (p.A j) = D (p.A j) ∧ D' (p.X j) = D (p.X j)) (hv : v' (p.s j) = v (p.s j) ∧ v' (p.u j) = v (p.u j) ∧ v' (p.t j) = v (p.t j)) : Part1 p n arg Pst j D' v' b R := by
  obtain ⟨d1, d2, d3, d4⟩ := hD
  obtain ⟨v1, v2, v3⟩ := hv
  refine ⟨fun e => ?_, fun e => ?_, fun e => ?_, fun e => ?_, fun e => ?_⟩
  · rw [v1]; exact h.load (d1 ▸ e)
  · exact h.no (d2 ▸ e)
  · rw [v2]; exact h.call (d2 ▸ e)
  · exact h.nob (d3 ▸ e)
  · rw [v2, v3, d4]; exact h.box (d3 ▸ e)
def Rows1 (R : Nat → RowL) (k : Nat) : RowL := (List.range k).flatMap R
def Boxes1 (b : Nat → Bx1) (k : Nat) : List Bx1 := (List.range k).map b
/-- What holds of the region. -/
def PartR (p : Parts) (T : TypeId) (w : World) (bs : List Bx1) (rs : RowL) (n : Nat) (arg : Nat → List Value) (Pst : Nat → Value → RowL → Prop) (D : Nat → Bool) (v : Nat → Value) (x : World) : Prop :=
  ∃ (b : Nat → Bx1) (R : Nat → RowL), St T w (bs ++ Boxes1 b p.k) (rs ++ Rows1 R p.k) x ∧ ∀ j, j < p.k → Part1 p n (arg j) (Pst j) j D v (b j) (R j)
variable {p : Parts} {n m : Nat} {arg : Nat → List Value} {Pst : Nat → Value → RowL → Prop} {l : List Oper} {f0 : Act} {o : Oper} {j : Nat}
def upd {α : Type} (f : Nat → α) (j : Nat) (x : α) : Nat → α := fun i => if i = j then x else f i
theorem upd_same {α : Type} (f : Nat → α) (j : Nat) (x : α) : upd f j x j = x := by simp [upd]
theorem upd_other {α : Type} {f : Nat → α} {j i : Nat} {x : α} (h : i ≠ j) : upd f j x i = f i := by simp [upd, h]
theorem boxes_upd (b : Nat → Bx1) (k : Nat) (x : Bx1) : Boxes1 (upd b j x) k = (Boxes1 b k).set j x := by
  refine List.ext_getElem? fun i => ?_
  unfold Boxes1
  rw [List.getElem?_set, List.getElem?_map, List.getElem?_map]
  by_cases hi : i < k
  · rw [List.getElem?_range hi]
    by_cases e : j = i
    · subst e; simp [hi, upd]
    · have e2 : i ≠ j := fun h => e h.symm
      simp [upd, e, e2]
  · rw [List.getElem?_eq_none (by simpa using hi)]
    by_cases e : j = i
    · subst e; simp [hi]
    · simp [e]
theorem boxes_at {b : Nat → Bx1} {k : Nat} (hj : j < k) : (bs ++ Boxes1 b k)[bs.length + j]? = some (b j) := by
  rw [List.getElem?_append_right (by omega)]
  simp [Boxes1, hj]
theorem rows_upd {R : Nat → RowL} {k : Nat} {x : RowL} (hj : j < k) (h : ∀ i, j ≤ i → i < k → R i = []) : Rows1 (upd R j x) k = Rows1 R k ++ x := by
  unfold Rows1
  obtain ⟨d, rfl⟩ : ∃ d, k = j + 1 + d := ⟨k - (j + 1), by omega⟩
  have hcut : ∀ F : Nat → RowL, (List.range (j + 1 + d)).flatMap F = (List.range j).flatMap F ++ F j ++ ((List.range d).map (j + 1 + ·)).flatMap F := fun F => by
    rw [List.range_add, List.flatMap_append, List.range_succ, List.flatMap_append]; simp
  have hnil : ∀ F : Nat → RowL, (∀ i, j < i → i < j + 1 + d → F i = []) → ((List.range d).map (j + 1 + ·)).flatMap F = [] := fun F hF => by
    rw [List.flatMap_eq_nil_iff]
    intro i hi
    obtain ⟨q, hq, rfl⟩ := List.mem_map.1 hi
    exact hF _ (by omega) (by have := List.mem_range.1 hq; omega)
  have hpre : (List.range j).flatMap (upd R j x) = (List.range j).flatMap R := by
    unfold List.flatMap
    congr 1
    exact List.map_congr_left fun i hi => upd_other (by have := List.mem_range.1 hi; omega)
  rw [hcut, hcut, hnil _ (fun i h1 h2 => by rw [upd_other (by omega)]; exact h i (by omega) h2), hnil _ (fun i h1 h2 => h i (by omega) h2), hpre, upd_same, h j (Nat.le_refl _) hj]
  simp
theorem done_same (D : Nat → Bool) (i : Nat) : (i == i || D i) = true := by simp
theorem done_other {D : Nat → Bool} {i q : Nat} (h : q ≠ i) : (q == i || D q) = D q := by simp [h]
/-- The others stay. -/
theorem others {D : Nat → Bool} {a : Act} {b : Nat → Bx1} {R : Nat → RowL} (hok : p.ok m = true) (hj : j < p.k) (h : ∀ i, i < p.k → Part1 p n (arg i) (Pst i) i D (fun q => a.eval (.tmp q)) (b i) (R i)) {c d : Nat} {x : Value}
    (hc : c ∈ [p.L j, p.C j, p.A j, p.X j]) (hd : d = p.s j ∨ d = p.u j ∨ d = p.t j) {i : Nat} (hi : i < p.k) (hne : i ≠ j) : Part1 p n (arg i) (Pst i) i (fun q => q == c || D q) (fun q => (a.put (some d) x).eval (.tmp q)) (b i) (R i) := by
  have h1 := oper_ne hok hi hj hne
  obtain ⟨n1, n2, n3, n4, n5, n6, n7, n8, n9⟩ := slot_ne hok hi hj hne
  refine (h i hi).other ⟨done_other (h1 _ (by simp) c hc), done_other (h1 _ (by simp) c hc), done_other (h1 _ (by simp) c hc), done_other (h1 _ (by simp) c hc)⟩ ?_
  rcases hd with rfl | rfl | rfl
  · exact ⟨put_other n1.symm x, put_other n4.symm x, put_other n7.symm x⟩
  · exact ⟨put_other n2.symm x, put_other n5.symm x, put_other n8.symm x⟩
  · exact ⟨put_other n3.symm x, put_other n6.symm x, put_other n9.symm x⟩
theorem part_load {ty : TypeId} {q i g : Nat} (hok : p.ok f0.tmps.size = true) (hj : j < p.k) (ho : o.op = .load ty (.tmp q)) (hd : o.dst = some (p.s j)) (hq : q ∉ p.slots) (he : f0.eval (.tmp q) = .pointer (some ⟨g, 0, none⟩)) (hb : bs[i]? = some (some (g, arg j))) (ht : RowTy P ty (arg j).length) :
    RegStep P Q l p.slots f0 (PartR p T w bs rs n arg Pst) (p.L j) o := by
  intro D a x hcl hs ⟨b, R, hst, hp⟩ hD hpre
  obtain ⟨⟨o1, o2, o3⟩, ⟨e1, e2, e3, e4, e5, e6⟩, ⟨m1, m2, m3⟩⟩ := own_ne hok hj
  refine wp_load_row7 ho ((hs.eval hq).trans he) (hst.range (i := i) (by rw [List.getElem?_append_left (List.getElem?_eq_some_iff.1 hb).1]; exact hb)) ht ?_
  rw [hd]
  refine ⟨hs.put (slot_in hj).1 _, b, R, hst, fun i hi => ?_⟩
  by_cases e : i = j
  · subst e
    have h := hp i hi
    refine ⟨fun _ => put_same (by rw [hs.size]; exact m1) _, fun e => h.no (by rwa [done_other e1.symm] at e), fun e => ?_, fun e => h.nob (by rwa [done_other e2.symm] at e), fun e => ?_⟩
    · rw [put_other o1]; exact h.call (by rwa [done_other e1.symm] at e)
    · rw [put_other o1, put_other o2, done_other e3.symm]; exact h.box (by rwa [done_other e2.symm] at e)
  · exact others hok hj hp (by simp) (.inl rfl) hi e
theorem part_call {f : FuncId} {ats : Array TypeId} (hok : p.ok f0.tmps.size = true) (hj : j < p.k) (ho : o.op = .call { callee := .value (.func f), args := #[.tmp (p.s j)], argTypes := ats }) (hd : o.dst = some (p.u j)) (hf : GoFn P f)
    (hL : edgeB o (p.L j) = true) (hch : chainB l p.C p.k = true) (hX : ∃ ox, l[p.X j]? = some ox ∧ edgeB ox (p.C j) = true)
    (hc : ∀ x, Below w.heap.size w x → Calls P f #[.agg (arg j).toArray] x fun e y => ∃ v R, e = .returned v ∧ Pst j v R ∧ RowsB T x.heap.size y R ∧ Below x.heap.size x y) :
    RegStep P Q l p.slots f0 (PartR p T w bs rs n arg Pst) (p.C j) o := by
  intro D a x hcl hs ⟨b, R, hst, hp⟩ hD hpre
  obtain ⟨⟨o1, o2, o3⟩, ⟨e1, e2, e3, e4, e5, e6⟩, ⟨m1, m2, m3⟩⟩ := own_ne hok hj
  have hl := (hp j hj).load (edge_on hL hpre)
  refine wp_call_go ho hf #[.agg (arg j).toArray] (by simp only [List.map_toArray, List.map_cons, List.map_nil]; rw [show a.eval (.tmp (p.s j)) = _ from hl]) ((hc x hst.up).mono fun e y ⟨v, R', he, hP, hR, hB⟩ => ⟨v, he, ?_⟩)
  rw [hd]
  have hno := chain_down hch hcl hD
  have hXf : D (p.X j) = false := by
    obtain ⟨ox, hox, hoe⟩ := hX
    cases h : D (p.X j) with
    | false => rfl
    | true => have := edge_on hoe (hcl _ _ hox h); rw [hD] at this; cases this
  refine ⟨hs.put (slot_in hj).2.1 _, b, upd R j R', ?_, fun i hi => ?_⟩
  · rw [rows_upd hj fun i h1 h2 => (hp i h2).no (hno i h1 h2), ← List.append_assoc]
    exact hst.app hB hR
  · by_cases e : i = j
    · subst e
      have h := hp i hi
      rw [upd_same]
      refine ⟨fun e => ?_, fun e => ?_, fun _ => ?_, fun e => h.nob (by rwa [done_other e4.symm] at e), fun e => ?_⟩
      · rw [put_other o1.symm]; exact h.load (by rwa [done_other e1] at e)
      · rw [done_same] at e; cases e
      · rw [put_same (by rw [hs.size]; exact m2)]; exact hP
      · obtain ⟨g, cs, h1, h2, h3, h4⟩ := h.box (by rwa [done_other e4.symm] at e)
        refine ⟨g, cs, by rw [put_other o3]; exact h1, h2, h3, fun e => ?_⟩
        rw [done_other e5.symm, hXf] at e; cases e
    · rw [upd_other e]
      exact others hok hj hp (by simp) (.inr (.inl rfl)) hi e
theorem part_alloc {ty : TypeId} {cs : List Value} (hok : p.ok f0.tmps.size = true) (hj : j < p.k) (ho : o.op = .alloc ty) (hd : o.dst = some (p.t j)) (hz : (P.info? ty).bind (·.zero) = some (.agg cs.toArray)) (hn : cs.length = n)
    (hX : ∃ ox, l[p.X j]? = some ox ∧ edgeB ox (p.A j) = true) : RegStep P Q l p.slots f0 (PartR p T w bs rs n arg Pst) (p.A j) o := by
  intro D a x hcl hs ⟨b, R, hst, hp⟩ hD hpre
  obtain ⟨⟨o1, o2, o3⟩, ⟨e1, e2, e3, e4, e5, e6⟩, ⟨m1, m2, m3⟩⟩ := own_ne hok hj
  refine wp_alloc_row ho hz ?_
  rw [hd]
  have hXf : D (p.X j) = false := by
    obtain ⟨ox, hox, hoe⟩ := hX
    cases h : D (p.X j) with
    | false => rfl
    | true => have := edge_on hoe (hcl _ _ hox h); rw [hD] at this; cases this
  refine ⟨hs.put (slot_in hj).2.2 _, upd b j (some (x.heap.size, cs)), R, ?_, fun i hi => ?_⟩
  · have h := hst.fill (t := ty) (bs.length + j) cs (by rw [boxes_at hj, (hp j hj).nob hD])
    rw [boxes_upd]
    rw [List.set_append_right _ _ (by omega), show bs.length + j - bs.length = j from by omega] at h
    exact h
  · by_cases e : i = j
    · subst e
      have h := hp i hi
      rw [upd_same]
      refine ⟨fun e => ?_, fun e => h.no (by rwa [done_other e4] at e), fun e => ?_, fun e => ?_, fun _ => ⟨_, cs, put_same (by rw [hs.size]; exact m3) _, rfl, hn, fun e => ?_⟩⟩
      · rw [put_other o2.symm]; exact h.load (by rwa [done_other e2] at e)
      · rw [put_other o3.symm]; exact h.call (by rwa [done_other e4] at e)
      · rw [done_same] at e; cases e
      · rw [done_other e6.symm, hXf] at e; cases e
    · rw [upd_other e]
      exact others hok hj hp (by simp) (.inr (.inr rfl)) hi e
theorem part_store {ty : TypeId} (hok : p.ok f0.tmps.size = true) (hj : j < p.k) (ho : o.op = .store ty (.tmp (p.t j)) (.tmp (p.u j))) (hd : o.dst = none) (hA : edgeB o (p.A j) = true) (hC : edgeB o (p.C j) = true)
    (hP : ∀ v R, Pst j v R → ∃ cs : List Value, v = .agg cs.toArray ∧ cs.length = n ∧ ∀ u ∈ cs, u.oneCell' = true) (ht : (P.info? ty).map (·.size) = some n) : RegStep P Q l p.slots f0 (PartR p T w bs rs n arg Pst) (p.X j) o := by
  intro D a x hcl hs ⟨b, R, hst, hp⟩ hD hpre
  obtain ⟨⟨o1, o2, o3⟩, ⟨e1, e2, e3, e4, e5, e6⟩, ⟨m1, m2, m3⟩⟩ := own_ne hok hj
  obtain ⟨g, cs, h1, h2, h3, _⟩ := (hp j hj).box (edge_on hA hpre)
  have hc := (hp j hj).call (edge_on hC hpre)
  obtain ⟨vs, k1, k2, k3⟩ := hP _ _ hc
  have hb : (bs ++ Boxes1 b p.k)[bs.length + j]? = some (some (g, cs)) := by rw [boxes_at hj, h2]
  refine wp_store_row ho h1 k1 (hst.range hb) (hst.fz hb) (by rw [k2, h3]) (by rw [k2]; exact ht) k3 ?_
  rw [hd]
  refine ⟨hs, upd b j (some (g, vs)), R, ?_, fun i hi => ?_⟩
  · have h := (hst.put (vs := vs) hb (by rw [k2, h3])).1
    rw [boxes_upd]
    rw [List.set_append_right _ _ (by omega), show bs.length + j - bs.length = j from by omega] at h
    exact h
  · by_cases e : i = j
    · subst e
      have h := hp i hi
      rw [upd_same]
      refine ⟨fun e => h.load (by rwa [done_other e3] at e), fun e => h.no (by rwa [done_other e5] at e), fun e => h.call (by rwa [done_other e5] at e), fun e => ?_, fun e => ⟨g, vs, h1, rfl, k2, fun _ => k1⟩⟩
      rw [done_other e6, edge_on hA hpre] at e; cases e
    · rw [upd_other e]
      have q := oper_ne hok hi hj e
      exact (hp i hi).other ⟨done_other (q _ (by simp) _ (by simp)), done_other (q _ (by simp) _ (by simp)), done_other (q _ (by simp) _ (by simp)), done_other (q _ (by simp) _ (by simp))⟩ ⟨rfl, rfl, rfl⟩
theorem partR_start {v : Nat → Value} {x : World} (h : St T w bs rs x) : PartR p T w bs rs n arg Pst (fun _ => false) v x := by
  refine ⟨fun _ => none, fun _ => [], ?_, fun j _ => ⟨(fun e => nomatch e), fun _ => rfl, (fun e => nomatch e), fun _ => rfl, (fun e => nomatch e)⟩⟩
  have e1 : Rows1 (fun _ => []) p.k = [] := by unfold Rows1; simp
  have e2 : ∀ k, St T w (bs ++ Boxes1 (fun _ => none) k) rs x := by
    intro k
    induction k with
    | zero => simpa [Boxes1] using h
    | succ k ih =>
      have := ih.more
      simpa [Boxes1, List.range_succ] using this
  rw [e1, List.append_nil]
  exact e2 p.k
end
end Go.Proofs.Ythjjihipodhkiaa

/-
  A region that draws its order, walked as a straight line: what only reads is taken first; the rest comes one at a time. Over any program.
-/
namespace Go.Proofs.Ythjjihipodhkiaa
open Go.RowKit

section
variable {P : Program} {Q : Exit → Act → World → Prop} {S : World → Prop} {l : List Oper} {fuel : Nat} {listed : Array Bool} {a : Act} {w : World} {i : Nat} {o : Oper} {v : Value}
theorem lx_start {id : Nat} (hm : P.follows .mixedOrders = true) (_hS : S w.drew) (h : wpAnyH P .any l.toArray Q S l.length (Array.replicate l.length false) a w.drew) : (Code.region id l.toArray true).wp P Q a w :=
  wp_region_held (S := S) hm (by simpa using h)
theorem lx_at (hi : l[i]? = some o) : l.toArray[i]? = some o := by simpa using hi
theorem lx_take (i : Nat) {o : Oper} (hi : l[i]? = some o) (hs : Region.noSelect l.toArray = true) (hf : Region.free .any l.toArray listed i = true) (hr : (Region.ready .any l.toArray listed).contains i = true)
    (hQ : ∀ c a w, Q (.panic c) (a.put o.dst v) w → Q (.panic c) a w) (hy : YieldsIf P l.toArray S o v a) (hS : S w)
    (h : wpAnyH P .any l.toArray Q S fuel (listed.setIfInBounds i true) (a.put o.dst v) w) : wpAnyH P .any l.toArray Q S (fuel + 1) listed a w :=
  wpAnyH_take (lx_at hi) hs hf hr hQ hy hS h
/-- A guarded operation that is not wanted. -/
theorem lx_skip (i : Nat) {o : Oper} (hi : l[i]? = some o) (hs : Region.noSelect l.toArray = true) (hf : Region.free .any l.toArray listed i = true) (hr : (Region.ready .any l.toArray listed).contains i = true)
    (hQ : ∀ c a w, Q (.panic c) (a.put o.dst undef) w → Q (.panic c) a w) (hw : Region.wanted o (yielded l.toArray a.tmps) = false) (hS : S w)
    (h : wpAnyH P .any l.toArray Q S fuel (listed.setIfInBounds i true) (a.put o.dst undef) w) : wpAnyH P .any l.toArray Q S (fuel + 1) listed a w :=
  wpAnyH_take (lx_at hi) hs hf hr hQ (.inr ⟨hw, rfl⟩) hS h
theorem lx_call (i : Nat) {o : Oper} {f : FuncId} {xs : List Operand} {ats : Array TypeId} (hi : l[i]? = some o) (hr : Region.ready .any l.toArray listed = [i]) (hw : Region.wanted o (yielded l.toArray a.tmps) = true)
    (ho : o.op = .call { callee := .value (.func f), args := xs.toArray, argTypes := ats }) (hf : GoFn P f) (vals : List Value) (hv : xs.map a.eval = vals)
    (hc : Calls P f vals.toArray w fun e w' => ∃ v, e = .returned v ∧ S w' ∧ wpAnyH P .any l.toArray Q S fuel (listed.setIfInBounds i true) (a.put o.dst v) w') : wpAnyH P .any l.toArray Q S (fuel + 1) listed a w := by
  refine wpAnyH_all hr (by simp) fun j hj => ?_
  obtain rfl : j = i := by simpa using hj
  unfold wpOp
  rw [lx_at hi]
  simp only [hw, if_true]
  exact .inl (wp_call_go ho hf vals.toArray (by rw [List.map_toArray, hv]) hc)
theorem lx_done (hr : Region.ready .any l.toArray listed = []) (h : Q .normal a w) : wpAnyH P .any l.toArray Q S fuel listed a w := wpAnyH_done hr h fuel
theorem ev_tmp (l : List Value) (d : List Deferred) (k : Nat) : Act.eval { tmps := l.toArray, defers := d } (.tmp k) = (l[k]?).getD undef := by simp [eval_tmp]
theorem ev_const (a : Act) (v : Value) : a.eval (.const v) = v := rfl
/-! What yields. -/
theorem yi_row {ty : TypeId} {x : Operand} (hw : Region.wanted o (yielded l.toArray a.tmps) = true) (ho : o.op = .load ty x) {g : Nat} {cs : List Value} (hx : a.eval x = .pointer (some ⟨g, 0, none⟩)) (hr : ∀ w, S w → w.rangeAt g 0 cs) (ht : RowTy P ty cs.length) :
    YieldsIf P l.toArray S o (.agg cs.toArray) a := by
  obtain ⟨⟨d, hu, hd⟩, hi⟩ := ht
  refine .inl ⟨hw, fun w hS => ?_⟩
  unfold execOp
  simp only [ho, hx, Instr.loadAt, Instr.sureAddr, Sem.run_bind, Sem.run_pure, Result.andThen_ok, run_loadVar_mid w g 0 ty cs d (hr w hS) hu hd hi]
theorem yi_cell {ty : TypeId} {x : Operand} (hw : Region.wanted o (yielded l.toArray a.tmps) = true) (ho : o.op = .load ty x) {g k : Nat} (hx : a.eval x = .pointer (some ⟨g, k, none⟩)) (hr : ∀ w, S w → w.cell? ⟨g, k, none⟩ = some v) (ha : ∀ w, (isAgg ty).run P w = .ok false w) :
    YieldsIf P l.toArray S o v a := by
  refine .inl ⟨hw, fun w hS => ?_⟩
  have h := hr w hS
  unfold execOp
  simp only [ho, hx, Instr.loadAt, Instr.sureAddr, loadVar, Sem.run_bind, Sem.run_pure, Result.andThen_ok, ha w, Bool.false_eq_true, if_false]
  simp [go_sem, h]
theorem yi_move {x : Operand} (hw : Region.wanted o (yielded l.toArray a.tmps) = true) (ho : o.op = .move x) (hx : a.eval x = v) : YieldsIf P l.toArray S o v a := .inl ⟨hw, fun w _ => by subst hx; unfold execOp; simp only [ho, Sem.run_pure]⟩
theorem yi_assign {x : Operand} (hw : Region.wanted o (yielded l.toArray a.tmps) = true) (ho : o.op = .assign x) (hx : a.eval x = v) : YieldsIf P l.toArray S o v a := .inl ⟨hw, fun w _ => by subst hx; unfold execOp; simp only [ho, Sem.run_pure]⟩
theorem yi_pick {c x y : Operand} {b : Bool} (hw : Region.wanted o (yielded l.toArray a.tmps) = true) (ho : o.op = .pick c x y) (hc : a.eval c = .bool b) (hv : (if b then a.eval x else a.eval y) = v) : YieldsIf P l.toArray S o v a := .inl ⟨hw, fun w _ => by
  subst hv
  unfold execOp
  simp only [ho, hc, asBool, Sem.run_bind, Sem.run_pure, Result.andThen_ok]⟩
theorem yi_run (hw : Region.wanted o (yielded l.toArray a.tmps) = true) (h : ∀ w, (execOp a.eval o).run P w = .ok (.value v) w) : YieldsIf P l.toArray S o v a := .inl ⟨hw, fun w _ => h w⟩
end
end Go.Proofs.Ythjjihipodhkiaa

/-
  Boxes written cell by cell. Over any program.
-/
namespace Go.Proofs.Ythjjihipodhkiaa
open Go.RowKit

section
variable {T : TypeId} {w x y : World} {bs : List Bx1} {rs : RowL} {i g : Nat} {cs vs : List Value}
/-- A box is written. -/
theorem St.write (h : St T w bs rs x) (hb : bs[i]? = some (some (g, cs))) (hc : Chg (fun b => b = g) x y) (hr' : y.rangeAt g 0 vs) (hfz : ∀ q, y.frozen? q = x.frozen? q) : St T w (bs.set i (some (g, vs))) rs y := by
  obtain ⟨hw, hx, hr, hf⟩ := h.box i g cs hb
  refine ⟨h.up.trans (hc.below h.up.size fun k _ hk => by rw [hk]; exact hw), fun j g' ds hj => ?_, fun j q g' ds g'' ds' hj hq hne => ?_, h.rows.chg hc fun q r hq a ha => h.off i q g cs r a hb hq ha, fun j q g' ds r a hj hq ha => ?_⟩
  · rcases set_get hj with ⟨rfl, e⟩ | ⟨h1, hj⟩
    · injection e with e; injection e with e1 e2; subst e1; subst e2
      exact ⟨hw, Nat.lt_of_lt_of_le hx hc.size, hr', fun j => (hfz _).trans (hf j)⟩
    · obtain ⟨a1, a2, a3, a4⟩ := h.box j g' ds hj
      exact ⟨a1, Nat.lt_of_lt_of_le a2 hc.size, fun k v hk => hc.cell (a3 k v hk) (h.ne j i g' ds g cs hj hb h1), fun j => (hfz _).trans (a4 j)⟩
  · rcases set_get hj with ⟨rfl, e⟩ | ⟨h1, hj1⟩ <;> rcases set_get hq with ⟨rfl, e'⟩ | ⟨h2, hq1⟩
    · exact absurd rfl hne
    · injection e with e; injection e with e1 _; subst e1
      exact h.ne j q g cs g'' ds' hb hq1 hne
    · injection e' with e'; injection e' with e1 _; subst e1
      exact h.ne j q g' ds g cs hj1 hb hne
    · exact h.ne j q g' ds g'' ds' hj1 hq1 hne
  · rcases set_get hj with ⟨rfl, e⟩ | ⟨h1, hj⟩
    · injection e with e; injection e with e1 _; subst e1
      exact h.off _ q g cs r a hb hq ha
    · exact h.off j q g' ds r a hj hq ha
/-- One cell of a box is written. -/
theorem St.put1 (h : St T w bs rs x) (hb : bs[i]? = some (some (g, cs))) (j : Nat) (v : Value) : St T w (bs.set i (some (g, cs.set j v))) rs (x.setCells g j [v]) ∧ Chg (fun b => b = g) x (x.setCells g j [v]) := by
  have hc := setCells_chg g [v] j x
  obtain ⟨hw, hx, hr, hf⟩ := h.box i g cs hb
  refine ⟨h.write hb hc (fun k u hk => ?_) fun q => World.frozen?_setCells _ _ _ _ _, hc⟩
  show (x.setCell ⟨g, j, none⟩ v).cell? ⟨g, 0 + k, none⟩ = some u
  rw [Nat.zero_add]
  rw [List.getElem?_set] at hk
  by_cases e : j = k
  · subst e
    rw [if_pos rfl] at hk
    split at hk
    · rename_i hlt
      injection hk with hk; subst hk
      have := hr j _ (List.getElem?_eq_getElem hlt)
      rw [Nat.zero_add] at this
      exact World.cell?_setCell_same _ _ _ this
    · cases hk
  · rw [if_neg e] at hk
    rw [World.cell?_setCell_other _ _ _ _ (fun e' => by injection e' with _ e' _; exact e e')]
    have := hr k u hk
    rwa [Nat.zero_add] at this
end
section
variable {P : Program} {ops : Array Oper} {Q : Exit → Act → World → Prop}
theorem one_cells {v : Value} (h : v.oneCell' = true) : v.cells = #[v] := by cases v <;> first | rfl | simp_all [Value.oneCell']
theorem run_storeVar_one (w : World) (b o : Nat) (ty : TypeId) (v : Value) (hs : (w.cell? ⟨b, o, none⟩).isSome = true) (hf : w.frozen? ⟨b, o, none⟩ = false) (h1 : v.oneCell' = true) (hi : (P.info? ty).map (·.size) = some 1) :
    (storeVar ty ⟨b, o, none⟩ v).run P w = .ok () (w.setCells b o [v]) := by
  have := run_storeCells_cells (P := P) b o [v] 0 w (fun j hj => by
    obtain rfl : j = 0 := (by simpa using hj)
    simpa using hs) (fun j hj => by
    obtain rfl : j = 0 := (by simpa using hj)
    simpa using hf) (fun u hu => by
    obtain rfl : u = v := (by simpa using hu)
    exact h1)
  cases hq : P.info? ty with
  | none => simp [hq] at hi
  | some i =>
    have hs : i.size = 1 := by simpa [hq] using hi
    simp only [Nat.add_zero] at this
    simp [storeVar, sizeOf, typeInfo, hq, one_cells h1, hs, this]
theorem wpList_store_cell {rest : List Oper} {o : Oper} {a : Act} {W : World} (hgd : Region.wanted o (yielded ops a.tmps) = true) (ty : TypeId) (x y : Operand) (ho : o.op = .store ty x y) {T : TypeId} {w : World} {bs : List Bx1} {rs : RowL} (h : St T w bs rs W) (i : Nat) {g : Nat} {cs : List Value} (hb : bs[i]? = some (some (g, cs)))
    (j : Nat) (hx : a.eval x = .pointer (some ⟨g, j, none⟩)) (hj : j < cs.length) (v : Value) (hy : a.eval y = v) (ht : (P.info? ty).map (·.size) = some 1) (h1 : v.oneCell' = true)
    (hK : ∀ W', St T w (bs.set i (some (g, cs.set j v))) rs W' → Chg (fun b => b = g) W W' → wpList P ops Q rest (a.put o.dst undef) W') : wpList P ops Q (o :: rest) a W := by
  refine BigFrame.wpList_want hgd fun _ hk => ?_
  have hp := h.put1 hb j v
  unfold Oper.wp execOp
  have hs : (W.cell? ⟨g, j, none⟩).isSome = true := by
    rw [h.cell hb (List.getElem?_eq_getElem hj)]; rfl
  simp only [ho, hx, hy, Instr.storeAt, Instr.sureAddr, Sem.run_bind, Sem.run_pure, Result.andThen_ok, run_storeVar_one W g j ty v hs (h.fz hb j) h1 ht]
  exact hk _ _ (hK _ hp.1 hp.2)
end
end Go.Proofs.Ythjjihipodhkiaa

/-
  As Kit19, where some of the parts are no boxes ('b, x, y := laid(..), entry(..), entry(..)'). Over any program.
-/
namespace Go.Proofs.Ythjjihipodhkiaa
open Go.RowKit

section
variable {P : Program} {Q : Exit → Act → World → Prop} {T : TypeId} {w : World} {bs : List Bx1} {rs : RowL}
/-- What holds of one part. bx: is it a box? -/
structure PartG (p : Parts) (bx : Bool) (n : Nat) (av : Value) (Pst : Value → RowL → Prop) (j : Nat) (D : Nat → Bool) (v : Nat → Value) (b : Bx1) (R : RowL) : Prop where
  load : D (p.L j) = true → v (p.s j) = av
  no : D (p.C j) = false → R = []
  call : D (p.C j) = true → Pst (v (p.u j)) R
  nob : bx = true → D (p.A j) = false → b = none
  nob0 : bx = false → b = none
  box : bx = true → D (p.A j) = true → ∃ g cs, v (p.t j) = .pointer (some ⟨g, 0, none⟩) ∧ b = some (g, cs) ∧ cs.length = n ∧ (D (p.X j) = true → v (p.u j) = .agg cs.toArray)
  asg : bx = false → D (p.X j) = true → v (p.t j) = v (p.u j)
theorem PartG.other {p : Parts} {bx : Bool} {n : Nat} {av : Value} {Pst : Value → RowL → Prop} {j : Nat} {D D' : Nat → Bool} {v v' : Nat → Value} {b : Bx1} {R : RowL} (h : PartG p bx n av Pst j D v b R)
    (hD : D' (p.L j) = D (p.L j) ∧ D' (p.C j) = D (p.C j) ∧ D' (p.A j) = D (p.A j) ∧ D' (p.X j) = D (p.X j)) (hv : v' (p.s j) = v (p.s j) ∧ v' (p.u j) = v (p.u j) ∧ v' (p.t j) = v (p.t j)) : PartG p bx n av Pst j D' v' b R := by
  obtain ⟨d1, d2, d3, d4⟩ := hD
  obtain ⟨v1, v2, v3⟩ := hv
  refine ⟨fun e => ?_, fun e => ?_, fun e => ?_, fun hb e => ?_, h.nob0, fun hb e => ?_, fun hb e => ?_⟩
  · rw [v1]; exact h.load (d1 ▸ e)
  · exact h.no (d2 ▸ e)
  · rw [v2]; exact h.call (d2 ▸ e)
  · exact h.nob hb (d3 ▸ e)
  · rw [v2, v3, d4]; exact h.box hb (d3 ▸ e)
  · rw [v2, v3]; exact h.asg hb (d4 ▸ e)
def PartRG (p : Parts) (bx : Nat → Bool) (T : TypeId) (w : World) (bs : List Bx1) (rs : RowL) (n : Nat) (av : Nat → Value) (Pst : Nat → Value → RowL → Prop) (D : Nat → Bool) (v : Nat → Value) (x : World) : Prop :=
  ∃ (b : Nat → Bx1) (R : Nat → RowL), St T w (bs ++ Boxes1 b p.k) (rs ++ Rows1 R p.k) x ∧ ∀ j, j < p.k → PartG p (bx j) n (av j) (Pst j) j D v (b j) (R j)
variable {p : Parts} {bx : Nat → Bool} {n m : Nat} {av : Nat → Value} {Pst : Nat → Value → RowL → Prop} {l : List Oper} {f0 : Act} {o : Oper} {j : Nat}
/-- The others stay. -/
theorem othersG {D : Nat → Bool} {a : Act} {b : Nat → Bx1} {R : Nat → RowL} (hok : p.ok m = true) (hj : j < p.k) (h : ∀ i, i < p.k → PartG p (bx i) n (av i) (Pst i) i D (fun q => a.eval (.tmp q)) (b i) (R i)) {c d : Nat} {x : Value}
    (hc : c ∈ [p.L j, p.C j, p.A j, p.X j]) (hd : d = p.s j ∨ d = p.u j ∨ d = p.t j) {i : Nat} (hi : i < p.k) (hne : i ≠ j) : PartG p (bx i) n (av i) (Pst i) i (fun q => q == c || D q) (fun q => (a.put (some d) x).eval (.tmp q)) (b i) (R i) := by
  have h1 := oper_ne hok hi hj hne
  obtain ⟨n1, n2, n3, n4, n5, n6, n7, n8, n9⟩ := slot_ne hok hi hj hne
  refine (h i hi).other ⟨done_other (h1 _ (by simp) c hc), done_other (h1 _ (by simp) c hc), done_other (h1 _ (by simp) c hc), done_other (h1 _ (by simp) c hc)⟩ ?_
  rcases hd with rfl | rfl | rfl
  · exact ⟨put_other n1.symm x, put_other n4.symm x, put_other n7.symm x⟩
  · exact ⟨put_other n2.symm x, put_other n5.symm x, put_other n8.symm x⟩
  · exact ⟨put_other n3.symm x, put_other n6.symm x, put_other n9.symm x⟩
theorem partG_load {ty : TypeId} {q i g : Nat} {cs : List Value} (hok : p.ok f0.tmps.size = true) (hj : j < p.k) (ho : o.op = .load ty (.tmp q)) (hd : o.dst = some (p.s j)) (hq : q ∉ p.slots) (he : f0.eval (.tmp q) = .pointer (some ⟨g, 0, none⟩)) (hb : bs[i]? = some (some (g, cs))) (ht : RowTy P ty cs.length) (ha : av j = .agg cs.toArray) :
    RegStep P Q l p.slots f0 (PartRG p bx T w bs rs n av Pst) (p.L j) o := by
  intro D a x hcl hs ⟨b, R, hst, hp⟩ hD hpre
  obtain ⟨⟨o1, o2, o3⟩, ⟨e1, e2, e3, e4, e5, e6⟩, ⟨m1, m2, m3⟩⟩ := own_ne hok hj
  refine wp_load_row7 ho ((hs.eval hq).trans he) (hst.range (i := i) (by rw [List.getElem?_append_left (List.getElem?_eq_some_iff.1 hb).1]; exact hb)) ht ?_
  rw [hd]
  refine ⟨hs.put (slot_in hj).1 _, b, R, hst, fun i hi => ?_⟩
  by_cases e : i = j
  · subst e
    have h := hp i hi
    refine ⟨fun _ => (put_same (by rw [hs.size]; exact m1) _).trans ha.symm, fun e => h.no (by rwa [done_other e1.symm] at e), fun e => ?_, fun hb e => h.nob hb (by rwa [done_other e2.symm] at e), h.nob0, fun hb e => ?_, fun hb e => ?_⟩
    · rw [put_other o1]; exact h.call (by rwa [done_other e1.symm] at e)
    · rw [put_other o1, put_other o2, done_other e3.symm]; exact h.box hb (by rwa [done_other e2.symm] at e)
    · rw [put_other o1, put_other o2]; exact h.asg hb (by rwa [done_other e3.symm] at e)
  · exact othersG hok hj hp (by simp) (.inl rfl) hi e
theorem partG_move {q : Nat} (hok : p.ok f0.tmps.size = true) (hj : j < p.k) (ho : o.op = .move (.tmp q)) (hd : o.dst = some (p.s j)) (hq : q ∉ p.slots) (he : f0.eval (.tmp q) = av j) :
    RegStep P Q l p.slots f0 (PartRG p bx T w bs rs n av Pst) (p.L j) o := by
  intro D a x hcl hs ⟨b, R, hst, hp⟩ hD hpre
  obtain ⟨⟨o1, o2, o3⟩, ⟨e1, e2, e3, e4, e5, e6⟩, ⟨m1, m2, m3⟩⟩ := own_ne hok hj
  have hrun : (execOp a.eval o).run P x = .ok (.value (av j)) x := by
    unfold execOp
    simp only [ho, Sem.run_pure]
    rw [hs.eval hq, he]
  unfold Oper.wp
  rw [hrun, Oper.upon_value, hd]
  refine ⟨hs.put (slot_in hj).1 _, b, R, hst, fun i hi => ?_⟩
  by_cases e : i = j
  · subst e
    have h := hp i hi
    refine ⟨fun _ => put_same (by rw [hs.size]; exact m1) _, fun e => h.no (by rwa [done_other e1.symm] at e), fun e => ?_, fun hb e => h.nob hb (by rwa [done_other e2.symm] at e), h.nob0, fun hb e => ?_, fun hb e => ?_⟩
    · rw [put_other o1]; exact h.call (by rwa [done_other e1.symm] at e)
    · rw [put_other o1, put_other o2, done_other e3.symm]; exact h.box hb (by rwa [done_other e2.symm] at e)
    · rw [put_other o1, put_other o2]; exact h.asg hb (by rwa [done_other e3.symm] at e)
  · exact othersG hok hj hp (by simp) (.inl rfl) hi e
theorem partG_call {f : FuncId} {xs : List Operand} {vals : List Value} {ats : Array TypeId} (hok : p.ok f0.tmps.size = true) (hj : j < p.k) (ho : o.op = .call { callee := .value (.func f), args := (Operand.tmp (p.s j) :: xs).toArray, argTypes := ats }) (hxs : ∀ a : Act, xs.map a.eval = vals) (hd : o.dst = some (p.u j)) (hf : GoFn P f)
    (hL : edgeB o (p.L j) = true) (hch : chainB l p.C p.k = true) (hX : ∃ ox, l[p.X j]? = some ox ∧ edgeB ox (p.C j) = true)
    (hc : ∀ x, Below w.heap.size w x → Calls P f (av j :: vals).toArray x fun e y => ∃ v R, e = .returned v ∧ Pst j v R ∧ RowsB T x.heap.size y R ∧ Below x.heap.size x y) :
    RegStep P Q l p.slots f0 (PartRG p bx T w bs rs n av Pst) (p.C j) o := by
  intro D a x hcl hs ⟨b, R, hst, hp⟩ hD hpre
  obtain ⟨⟨o1, o2, o3⟩, ⟨e1, e2, e3, e4, e5, e6⟩, ⟨m1, m2, m3⟩⟩ := own_ne hok hj
  have hl := (hp j hj).load (edge_on hL hpre)
  refine wp_call_go ho hf (av j :: vals).toArray (by rw [List.map_toArray, List.map_cons, hxs a, show a.eval (.tmp (p.s j)) = _ from hl]) ((hc x hst.up).mono fun e y ⟨v, R', he, hP, hR, hB⟩ => ⟨v, he, ?_⟩)
  rw [hd]
  have hno := chain_down hch hcl hD
  have hXf : D (p.X j) = false := by
    obtain ⟨ox, hox, hoe⟩ := hX
    cases h : D (p.X j) with
    | false => rfl
    | true => have := edge_on hoe (hcl _ _ hox h); rw [hD] at this; cases this
  refine ⟨hs.put (slot_in hj).2.1 _, b, upd R j R', ?_, fun i hi => ?_⟩
  · rw [rows_upd hj fun i h1 h2 => (hp i h2).no (hno i h1 h2), ← List.append_assoc]
    exact hst.app hB hR
  · by_cases e : i = j
    · subst e
      have h := hp i hi
      rw [upd_same]
      refine ⟨fun e => ?_, fun e => ?_, fun _ => ?_, fun hb e => h.nob hb (by rwa [done_other e4.symm] at e), h.nob0, fun hb e => ?_, fun hb e => ?_⟩
      · rw [put_other o1.symm]; exact h.load (by rwa [done_other e1] at e)
      · rw [done_same] at e; cases e
      · rw [put_same (by rw [hs.size]; exact m2)]; exact hP
      · obtain ⟨g, cs, h1, h2, h3, h4⟩ := h.box hb (by rwa [done_other e4.symm] at e)
        refine ⟨g, cs, by rw [put_other o3]; exact h1, h2, h3, fun e => ?_⟩
        rw [done_other e5.symm, hXf] at e; cases e
      · rw [done_other e5.symm, hXf] at e; cases e
    · rw [upd_other e]
      exact othersG hok hj hp (by simp) (.inr (.inl rfl)) hi e
theorem partG_alloc {ty : TypeId} {cs : List Value} (hok : p.ok f0.tmps.size = true) (hj : j < p.k) (hbx : bx j = true) (ho : o.op = .alloc ty) (hd : o.dst = some (p.t j)) (hz : (P.info? ty).bind (·.zero) = some (.agg cs.toArray)) (hn : cs.length = n)
    (hX : ∃ ox, l[p.X j]? = some ox ∧ edgeB ox (p.A j) = true) : RegStep P Q l p.slots f0 (PartRG p bx T w bs rs n av Pst) (p.A j) o := by
  intro D a x hcl hs ⟨b, R, hst, hp⟩ hD hpre
  obtain ⟨⟨o1, o2, o3⟩, ⟨e1, e2, e3, e4, e5, e6⟩, ⟨m1, m2, m3⟩⟩ := own_ne hok hj
  refine wp_alloc_row ho hz ?_
  rw [hd]
  have hXf : D (p.X j) = false := by
    obtain ⟨ox, hox, hoe⟩ := hX
    cases h : D (p.X j) with
    | false => rfl
    | true => have := edge_on hoe (hcl _ _ hox h); rw [hD] at this; cases this
  refine ⟨hs.put (slot_in hj).2.2 _, upd b j (some (x.heap.size, cs)), R, ?_, fun i hi => ?_⟩
  · have h := hst.fill (t := ty) (bs.length + j) cs (by rw [boxes_at hj, (hp j hj).nob hbx hD])
    rw [boxes_upd]
    rw [List.set_append_right _ _ (by omega), show bs.length + j - bs.length = j from by omega] at h
    exact h
  · by_cases e : i = j
    · subst e
      have h := hp i hi
      rw [upd_same]
      refine ⟨fun e => ?_, fun e => h.no (by rwa [done_other e4] at e), fun e => ?_, fun hb e => ?_, fun hb => absurd (hbx.symm.trans hb) (by simp), fun _ _ => ⟨_, cs, put_same (by rw [hs.size]; exact m3) _, rfl, hn, fun e => ?_⟩, fun hb => absurd (hbx.symm.trans hb) (by simp)⟩
      · rw [put_other o2.symm]; exact h.load (by rwa [done_other e2] at e)
      · rw [put_other o3.symm]; exact h.call (by rwa [done_other e4] at e)
      · rw [done_same] at e; cases e
      · rw [done_other e6.symm, hXf] at e; cases e
    · rw [upd_other e]
      exact othersG hok hj hp (by simp) (.inr (.inr rfl)) hi e
theorem partG_store {ty : TypeId} (hok : p.ok f0.tmps.size = true) (hj : j < p.k) (hbx : bx j = true) (ho : o.op = .store ty (.tmp (p.t j)) (.tmp (p.u j))) (hd : o.dst = none) (hA : edgeB o (p.A j) = true) (hC : edgeB o (p.C j) = true)
    (hP : ∀ v R, Pst j v R → ∃ cs : List Value, v = .agg cs.toArray ∧ cs.length = n ∧ ∀ u ∈ cs, u.oneCell' = true) (ht : (P.info? ty).map (·.size) = some n) : RegStep P Q l p.slots f0 (PartRG p bx T w bs rs n av Pst) (p.X j) o := by
  intro D a x hcl hs ⟨b, R, hst, hp⟩ hD hpre
  obtain ⟨⟨o1, o2, o3⟩, ⟨e1, e2, e3, e4, e5, e6⟩, ⟨m1, m2, m3⟩⟩ := own_ne hok hj
  obtain ⟨g, cs, h1, h2, h3, _⟩ := (hp j hj).box hbx (edge_on hA hpre)
  have hc := (hp j hj).call (edge_on hC hpre)
  obtain ⟨vs, k1, k2, k3⟩ := hP _ _ hc
  have hb : (bs ++ Boxes1 b p.k)[bs.length + j]? = some (some (g, cs)) := by rw [boxes_at hj, h2]
  refine wp_store_row ho h1 k1 (hst.range hb) (hst.fz hb) (by rw [k2, h3]) (by rw [k2]; exact ht) k3 ?_
  rw [hd]
  refine ⟨hs, upd b j (some (g, vs)), R, ?_, fun i hi => ?_⟩
  · have h := (hst.put (vs := vs) hb (by rw [k2, h3])).1
    rw [boxes_upd]
    rw [List.set_append_right _ _ (by omega), show bs.length + j - bs.length = j from by omega] at h
    exact h
  · by_cases e : i = j
    · subst e
      have h := hp i hi
      rw [upd_same]
      refine ⟨fun e => h.load (by rwa [done_other e3] at e), fun e => h.no (by rwa [done_other e5] at e), fun e => h.call (by rwa [done_other e5] at e), fun hb e => ?_, fun hb => absurd (hbx.symm.trans hb) (by simp), fun _ e => ⟨g, vs, h1, rfl, k2, fun _ => k1⟩, fun hb => absurd (hbx.symm.trans hb) (by simp)⟩
      rw [done_other e6, edge_on hA hpre] at e; cases e
    · rw [upd_other e]
      have q := oper_ne hok hi hj e
      exact (hp i hi).other ⟨done_other (q _ (by simp) _ (by simp)), done_other (q _ (by simp) _ (by simp)), done_other (q _ (by simp) _ (by simp)), done_other (q _ (by simp) _ (by simp))⟩ ⟨rfl, rfl, rfl⟩
/-- No box: the answer is moved into its variable. -/
theorem partG_asg (hok : p.ok f0.tmps.size = true) (hj : j < p.k) (hbx : bx j = false) (ho : o.op = .assign (.tmp (p.u j))) (hd : o.dst = some (p.t j)) : RegStep P Q l p.slots f0 (PartRG p bx T w bs rs n av Pst) (p.X j) o := by
  intro D a x hcl hs ⟨b, R, hst, hp⟩ hD hpre
  obtain ⟨⟨o1, o2, o3⟩, ⟨e1, e2, e3, e4, e5, e6⟩, ⟨m1, m2, m3⟩⟩ := own_ne hok hj
  have hrun : (execOp a.eval o).run P x = .ok (.value (a.eval (.tmp (p.u j)))) x := by
    unfold execOp
    simp only [ho, Sem.run_pure]
  unfold Oper.wp
  rw [hrun, Oper.upon_value, hd]
  refine ⟨hs.put (slot_in hj).2.2 _, b, R, hst, fun i hi => ?_⟩
  by_cases e : i = j
  · subst e
    have h := hp i hi
    refine ⟨fun e => ?_, fun e => h.no (by rwa [done_other e5] at e), fun e => ?_, fun hb => absurd (hbx.symm.trans hb) (by simp), h.nob0, fun hb => absurd (hbx.symm.trans hb) (by simp), fun _ _ => ?_⟩
    · rw [put_other o2.symm]; exact h.load (by rwa [done_other e3] at e)
    · rw [put_other o3.symm]; exact h.call (by rwa [done_other e5] at e)
    · rw [put_same (by rw [hs.size]; exact m3), put_other o3.symm]
  · exact othersG hok hj hp (by simp) (.inr (.inr rfl)) hi e
theorem partRG_start {v : Nat → Value} {x : World} (h : St T w bs rs x) : PartRG p bx T w bs rs n av Pst (fun _ => false) v x := by
  refine ⟨fun _ => none, fun _ => [], ?_, fun j _ => ⟨(fun e => nomatch e), fun _ => rfl, (fun e => nomatch e), fun _ _ => rfl, fun _ => rfl, (fun _ e => nomatch e), (fun _ e => nomatch e)⟩⟩
  have e1 : Rows1 (fun _ => []) p.k = [] := by unfold Rows1; simp
  have e2 : ∀ k, St T w (bs ++ Boxes1 (fun _ => none) k) rs x := by
    intro k
    induction k with
    | zero => simpa [Boxes1] using h
    | succ k ih =>
      have := ih.more
      simpa [Boxes1, List.range_succ] using this
  rw [e1, List.append_nil]
  exact e2 p.k
/-- Places that were kept free and stayed so are struck. -/
theorem St.cut {bs' : List Bx1} {x : World} (h : St T w (bs ++ bs') rs x) : St T w bs rs x :=
  ⟨h.up, fun i g cs hb => h.box i g cs (by rw [List.getElem?_append_left (List.getElem?_eq_some_iff.1 hb).1]; exact hb), fun i j g cs g' ds h1 h2 => h.ne i j g cs g' ds (by rw [List.getElem?_append_left (List.getElem?_eq_some_iff.1 h1).1]; exact h1) (by rw [List.getElem?_append_left (List.getElem?_eq_some_iff.1 h2).1]; exact h2), h.rows, fun i j g cs r a hb => h.off i j g cs r a (by rw [List.getElem?_append_left (List.getElem?_eq_some_iff.1 hb).1]; exact hb)⟩
theorem wpList_load_cell {ops : Array Oper} {rest : List Oper} {o : Oper} {a : Act} {W : World} (hgd : Region.wanted o (yielded ops a.tmps) = true) (ty : TypeId) (x : Operand) (ho : o.op = .load ty x) {g k : Nat} {v : Value} (hx : a.eval x = .pointer (some ⟨g, k, none⟩)) (hr : W.cell? ⟨g, k, none⟩ = some v) (ha : ∀ w, (isAgg ty).run P w = .ok false w)
    (hK : wpList P ops Q rest (a.put o.dst v) W) : wpList P ops Q (o :: rest) a W := by
  refine BigFrame.wpList_want hgd fun _ hk => ?_
  have hrun : (execOp a.eval o).run P W = .ok (.value v) W := by
    unfold execOp
    simp only [ho, hx, Instr.loadAt, Instr.sureAddr, loadVar, Sem.run_bind, Sem.run_pure, Result.andThen_ok, ha W, Bool.false_eq_true, if_false]
    simp [go_sem, hr]
  unfold Oper.wp
  rw [hrun, Oper.upon_value]
  exact hk _ _ hK
end
end Go.Proofs.Ythjjihipodhkiaa

/-
  Straight lines: a row in the midst of a block, a store; rows struck. Over any program.
-/
namespace Go.Proofs.Ythjjihipodhkiaa
open Go.RowKit

section
variable {P : Program} {Q : Exit → Act → World → Prop} {S : World → Prop} {l : List Oper} {fuel : Nat} {listed : Array Bool} {a : Act} {w : World} {i : Nat} {o : Oper} {v : Value}
theorem yi_rowO {ty : TypeId} {x : Operand} (hw : Region.wanted o (yielded l.toArray a.tmps) = true) (ho : o.op = .load ty x) {g k : Nat} {cs : List Value} (hx : a.eval x = .pointer (some ⟨g, k, none⟩)) (hr : ∀ w, S w → w.rangeAt g k cs) (ht : RowTy P ty cs.length) :
    YieldsIf P l.toArray S o (.agg cs.toArray) a := by
  obtain ⟨⟨d, hu, hd⟩, hi⟩ := ht
  refine .inl ⟨hw, fun w hS => ?_⟩
  unfold execOp
  simp only [ho, hx, Instr.loadAt, Instr.sureAddr, Sem.run_bind, Sem.run_pure, Result.andThen_ok, run_loadVar_mid w g k ty cs d (hr w hS) hu hd hi]
/-- A whole box is written, the only operation that may come up. -/
theorem lx_store (i : Nat) {o : Oper} {ty : TypeId} {x y : Operand} (hi : l[i]? = some o) (hr : Region.ready .any l.toArray listed = [i]) (hw : Region.wanted o (yielded l.toArray a.tmps) = true)
    (ho : o.op = .store ty x y) {T : TypeId} {z : World} {bs : List Bx1} {rs : RowL} (h : St T z bs rs w) (j : Nat) {g : Nat} {cs : List Value} (hb : bs[j]? = some (some (g, cs))) (hx : a.eval x = .pointer (some ⟨g, 0, none⟩)) (vs : List Value) (hy : a.eval y = .agg vs.toArray)
    (hl : vs.length = cs.length) (ht : (P.info? ty).map (·.size) = some vs.length) (h1 : ∀ u ∈ vs, u.oneCell' = true)
    (hK : ∀ w', St T z (bs.set j (some (g, vs))) rs w' → Chg (fun b => b = g) w w' → S w' ∧ wpAnyH P .any l.toArray Q S fuel (listed.setIfInBounds i true) (a.put o.dst undef) w') : wpAnyH P .any l.toArray Q S (fuel + 1) listed a w := by
  refine wpAnyH_all hr (by simp) fun q hq => ?_
  obtain rfl : q = i := by simpa using hq
  unfold wpOp
  rw [lx_at hi]
  simp only [hw, if_true]
  have hp := h.put (vs := vs) hb hl
  exact .inl (wp_store_row ho hx hy (h.range hb) (h.fz hb) hl ht h1 (hK _ hp.1 hp.2))
end
section
variable {T : TypeId} {w x : World} {bs bs' : List Bx1} {rs rs' : RowL}
theorem St.cutRows (h : St T w bs (rs ++ rs') x) : St T w bs rs x :=
  ⟨h.up, h.box, h.ne, rows_pre h.rows, fun i j g cs r a hb hr => h.off i j g cs r a hb (by rw [List.getElem?_append_left (List.getElem?_eq_some_iff.1 hr).1]; exact hr)⟩
end
section
variable {P : Program} {Q : Exit → Act → World → Prop} {T : TypeId} {w : World} {bs : List Bx1} {rs : RowL} {p : Parts} {bx : Nat → Bool} {n : Nat} {av : Nat → Value} {Pst : Nat → Value → RowL → Prop} {l : List Oper} {f0 : Act} {o : Oper} {j : Nat}
theorem partG_callS {f : FuncId} {xs : List Operand} {vals : List Value} {ats : Array TypeId} (hok : p.ok f0.tmps.size = true) (hj : j < p.k) (ho : o.op = .call { callee := .value (.func f), args := (Operand.tmp (p.s j) :: xs).toArray, argTypes := ats }) (hxs : ∀ a : Act, xs.map a.eval = vals) (hd : o.dst = some (p.u j)) (hf : GoFn P f)
    (hL : edgeB o (p.L j) = true) (hch : chainB l p.C p.k = true) (hX : ∃ ox, l[p.X j]? = some ox ∧ edgeB ox (p.C j) = true)
    (hc : ∀ x bs' rs', St T w (bs ++ bs') (rs ++ rs') x → Calls P f (av j :: vals).toArray x fun e y => ∃ v R, e = .returned v ∧ Pst j v R ∧ RowsB T x.heap.size y R ∧ Below x.heap.size x y) :
    RegStep P Q l p.slots f0 (PartRG p bx T w bs rs n av Pst) (p.C j) o := by
  intro D a x hcl hs ⟨b, R, hst, hp⟩ hD hpre
  obtain ⟨⟨o1, o2, o3⟩, ⟨e1, e2, e3, e4, e5, e6⟩, ⟨m1, m2, m3⟩⟩ := own_ne hok hj
  have hl := (hp j hj).load (edge_on hL hpre)
  refine wp_call_go ho hf (av j :: vals).toArray (by rw [List.map_toArray, List.map_cons, hxs a, show a.eval (.tmp (p.s j)) = _ from hl]) ((hc x _ _ hst).mono fun e y ⟨v, R', he, hP, hR, hB⟩ => ⟨v, he, ?_⟩)
  rw [hd]
  have hno := chain_down hch hcl hD
  have hXf : D (p.X j) = false := by
    obtain ⟨ox, hox, hoe⟩ := hX
    cases h : D (p.X j) with
    | false => rfl
    | true => have := edge_on hoe (hcl _ _ hox h); rw [hD] at this; cases this
  refine ⟨hs.put (slot_in hj).2.1 _, b, upd R j R', ?_, fun i hi => ?_⟩
  · rw [rows_upd hj fun i h1 h2 => (hp i h2).no (hno i h1 h2), ← List.append_assoc]
    exact hst.app hB hR
  · by_cases e : i = j
    · subst e
      have h := hp i hi
      rw [upd_same]
      refine ⟨fun e => ?_, fun e => ?_, fun _ => ?_, fun hb e => h.nob hb (by rwa [done_other e4.symm] at e), h.nob0, fun hb e => ?_, fun hb e => ?_⟩
      · rw [put_other o1.symm]; exact h.load (by rwa [done_other e1] at e)
      · rw [done_same] at e; cases e
      · rw [put_same (by rw [hs.size]; exact m2)]; exact hP
      · obtain ⟨g, cs, h1, h2, h3, h4⟩ := h.box hb (by rwa [done_other e4.symm] at e)
        refine ⟨g, cs, by rw [put_other o3]; exact h1, h2, h3, fun e => ?_⟩
        rw [done_other e5.symm, hXf] at e; cases e
      · rw [done_other e5.symm, hXf] at e; cases e
    · rw [upd_other e]
      exact othersG hok hj hp (by simp) (.inr (.inl rfl)) hi e
end
section
variable {p : Parts} {n : Nat} {av : Value} {Pst : Value → RowL → Prop} {j : Nat} {D : Nat → Bool} {v : Nat → Value} {b : Bx1} {R : RowL}
theorem PartG.end0 (h : PartG p false n av Pst j D v b R) (hC : D (p.C j) = true) (hX : D (p.X j) = true) : b = none ∧ Pst (v (p.t j)) R := ⟨h.nob0 rfl, by rw [h.asg rfl hX]; exact h.call hC⟩
theorem PartG.end1 (h : PartG p true n av Pst j D v b R) (hC : D (p.C j) = true) (hA : D (p.A j) = true) (hX : D (p.X j) = true) : ∃ g cs, v (p.t j) = .pointer (some ⟨g, 0, none⟩) ∧ b = some (g, cs) ∧ Pst (.agg cs.toArray) R := by
  obtain ⟨g, cs, h1, h2, _, h4⟩ := h.box rfl hA
  exact ⟨g, cs, h1, h2, by rw [← h4 hX]; exact h.call hC⟩
end
end Go.Proofs.Ythjjihipodhkiaa

/-
  What the call owns: boxes and rows of whatever cells, all apart, under one head. Over any program.
-/
namespace Go.Proofs.Ythjjihipodhkiaa
open Go.RowKit

/-- A thing of the call's own: a box (its address, its cells), or a row (its element type, the cells that an element has, its slice, its length, its cells). -/
structure Ob where
  bx : Bool
  ty : TypeId
  sz : Nat
  v : Value
  n : Nat
  cs : List Value
def boxO (g : Nat) (cs : List Value) : Ob := ⟨true, 0, 0, .pointer (some ⟨g, 0, none⟩), 0, cs⟩
def rowO (T : TypeId) (sz : Nat) (v : Value) (n : Nat) (cs : List Value) : Ob := ⟨false, T, sz, v, n, cs⟩
def bytO (T : TypeId) (r : Option Addr × Nat × List UInt8) : Ob := ⟨false, T, 1, .slice r.1 r.2.2.length r.2.1, r.2.2.length, u8s r.2.2⟩
/-- A place that is free. -/
def nilO : Ob := ⟨false, 0, 1, .slice none 0 0, 0, []⟩
def vBlock : Value → Option Nat
  | .pointer (some a) => some a.block
  | .slice (some a) _ _ => some a.block
  | _ => none
def Ob.blk (o : Ob) : Option Nat := vBlock o.v
def Ob.at_ (B : Nat) (x : World) (o : Ob) : Prop :=
  (o.bx = true → ∃ g, o.v = .pointer (some ⟨g, 0, none⟩) ∧ B ≤ g ∧ g < x.heap.size ∧ x.rangeAt g 0 o.cs ∧ ∀ j, x.frozen? ⟨g, j, none⟩ = false) ∧
  (o.bx = false → x.ownsRow B o.ty o.sz o.v o.n o.cs)
def Ap (o p : Ob) : Prop := ∀ b, o.blk = some b → p.blk ≠ some b
structure OW (w : World) (os : List Ob) (x : World) : Prop where
  up : Below w.heap.size w x
  ob : ∀ o, o ∈ os → o.at_ w.heap.size x
  ne : os.Pairwise Ap

section
variable {w x y : World} {os os' ps : List Ob} {o p : Ob} {B g i j n sz c : Nat} {T : TypeId} {v : Value} {cs vs news : List Value} {S : Nat → Prop} {A : Option Addr} {l : List UInt8}
theorem own_vblock {e : TypeId} (h : w.ownsRow B e sz v n cs) : vBlock v = v.ownBlock := by
  rcases h.2 with ⟨rfl, _⟩ | ⟨g, cap, cur, rfl, _⟩ <;> rfl
theorem own_rebase {B' : Nat} (h : w.ownsRow B T sz v n cs) (hb : B' ≤ B) : w.ownsRow B' T sz v n cs := by
  refine ⟨h.1, ?_⟩
  rcases h.2 with h | ⟨g, cap, cur, hv, hg, hr⟩
  · exact .inl h
  · exact .inr ⟨g, cap, cur, hv, Nat.le_trans hb hg, hr⟩
theorem Ap.symm (h : Ap o p) : Ap p o := fun b hb e => h b e hb
theorem Ob.at_.lt {b : Nat} (h : o.at_ B x) (hb : o.blk = some b) : B ≤ b ∧ b < x.heap.size := by
  cases hq : o.bx with
  | true =>
    obtain ⟨g, h1, h2, h3, _⟩ := h.1 hq
    unfold Ob.blk at hb; rw [h1] at hb; injection hb with hb; subst hb; exact ⟨h2, h3⟩
  | false =>
    have h1 := h.2 hq
    unfold Ob.blk at hb; rw [own_vblock h1] at hb; exact World.ownsRow.lt h1 b hb
theorem Ob.at_.chg (h : o.at_ B x) (hc : Chg S x y) (hn : ∀ b, o.blk = some b → ¬ S b) : o.at_ B y := by
  refine ⟨fun hq => ?_, fun hq => ?_⟩
  · obtain ⟨g, h1, h2, h3, h4, h5⟩ := h.1 hq
    have hg : ¬ S g := hn g (by unfold Ob.blk; rw [h1]; rfl)
    exact ⟨g, h1, h2, Nat.lt_of_lt_of_le h3 hc.size, fun j v hv => hc.cell (h4 j v hv) hg, fun j => (World.frozen?_of_block (hc.block g h3 hg)).trans (h5 j)⟩
  · exact own_chg (h.2 hq) hc fun g hg => hn g (by unfold Ob.blk; rw [own_vblock (h.2 hq)]; exact hg)
theorem Ob.at_.mono {B' : Nat} (h : o.at_ B x) (hb : B' ≤ B) : o.at_ B' x :=
  ⟨fun hq => by
    obtain ⟨g, h1, h2, h3⟩ := h.1 hq
    exact ⟨g, h1, Nat.le_trans hb h2, h3⟩, fun hq => own_rebase (h.2 hq) hb⟩
theorem OW.nil (w : World) : OW w [] w := ⟨Below.refl _ _, fun o h => (by cases h), List.Pairwise.nil⟩
theorem OW.later (h : OW w os x) (k : Below x.heap.size x y) : OW w os y :=
  ⟨h.up.trans (k.mono h.up.size), fun o ho => (h.ob o ho).chg (S := fun _ => False) (Below.chg0 k) fun _ _ e => e, h.ne⟩
theorem OW.drew (h : OW w os x) : OW w os x.drew := h.later (Below.refl _ _).drew
theorem OW.al (h : OW w os x) (o : Obj) : OW w os (x.alloc o) := h.later ((Below.refl _ _).alloc (Nat.le_refl _) o)
theorem OW.perm (h : OW w os x) (hp : os.Perm os') : OW w os' x :=
  ⟨h.up, fun o ho => h.ob o (hp.mem_iff.2 ho), (hp.pairwise_iff (fun h => Ap.symm h)).1 h.ne⟩
theorem OW.sub (h : OW w os x) (hp : os'.Sublist os) : OW w os' x := ⟨h.up, fun o ho => h.ob o (hp.mem ho), h.ne.sublist hp⟩
theorem OW.erase (h : OW w os x) (i : Nat) : OW w (os.eraseIdx i) x := h.sub (List.eraseIdx_sublist _ _)
theorem OW.left (h : OW w (os ++ ps) x) : OW w os x := h.sub (List.sublist_append_left _ _)
theorem OW.right (h : OW w (os ++ ps) x) : OW w ps x := h.sub (List.sublist_append_right _ _)
theorem OW.app (h : OW w os x) (k : OW x ps y) : OW w (os ++ ps) y := by
  have h' := h.later k.up
  refine ⟨h'.up, fun o ho => ?_, ?_⟩
  · rcases List.mem_append.1 ho with ho | ho
    · exact h'.ob o ho
    · exact (k.ob o ho).mono h.up.size
  · refine List.pairwise_append.2 ⟨h.ne, k.ne, fun a ha b hb c hc e => ?_⟩
    have h1 := ((h.ob a ha).lt hc).2
    have h2 := ((k.ob b hb).lt e).1
    omega
theorem split_at {α : Type} {l : List α} {i : Nat} {a : α} (h : l[i]? = some a) : ∃ l1 l2, l = l1 ++ a :: l2 ∧ l1.length = i := by
  obtain ⟨hi, e⟩ := List.getElem?_eq_some_iff.1 h
  refine ⟨l.take i, l.drop (i + 1), ?_, by simp; omega⟩
  rw [← e, List.getElem_cons_drop, List.take_append_drop]
theorem OW.front (h : OW w os x) (hi : os[i]? = some o) : OW w (o :: os.eraseIdx i) x := by
  obtain ⟨l1, l2, rfl, rfl⟩ := split_at hi
  have e : (l1 ++ o :: l2).eraseIdx l1.length = l1 ++ l2 := by
    rw [List.eraseIdx_append_of_length_le (Nat.le_refl _), Nat.sub_self]; rfl
  rw [e]
  exact h.perm List.perm_middle
/-- One thing is turned into another: blocks of its own change alone, and new ones. -/
theorem OW.upd (h : OW w os x) (hi : os[i]? = some o) (hc : Chg S x y) (hS : ∀ b, b < x.heap.size → S b → o.blk = some b) (ho : p.at_ w.heap.size y) (hb : ∀ b, p.blk = some b → o.blk = some b ∨ x.heap.size ≤ b) : OW w (os.set i p) y := by
  obtain ⟨l1, l2, rfl, rfl⟩ := split_at hi
  have e : (l1 ++ o :: l2).set l1.length p = l1 ++ p :: l2 := by
    rw [List.set_append_right _ _ (Nat.le_refl _), Nat.sub_self]; rfl
  rw [e]
  obtain ⟨n1, n2, n3⟩ := List.pairwise_append.1 h.ne
  obtain ⟨n4, n5⟩ := List.pairwise_cons.1 n2
  have keep : ∀ q, q ∈ l1 ++ o :: l2 → Ap o q → q.at_ w.heap.size y := fun q hq ha =>
    (h.ob q hq).chg hc fun b hb hs => ha b (hS b ((h.ob q hq).lt hb).2 hs) hb
  have ap : ∀ q, q ∈ l1 ++ o :: l2 → Ap o q → Ap p q := fun q hq ha b hpb hqb => by
    rcases hb b hpb with h1 | h1
    · exact ha b h1 hqb
    · have := ((h.ob q hq).lt hqb).2; omega
  refine ⟨h.up.trans (hc.below h.up.size fun k hk hs => ((h.ob o (by simp)).lt (hS k hk hs)).1), fun q hq => ?_, List.pairwise_append.2 ⟨n1, List.pairwise_cons.2 ⟨fun q hq => ap q (by simp [hq]) (n4 q hq), n5⟩, fun q hq r hr => ?_⟩⟩
  · rcases List.mem_append.1 hq with h1 | h1
    · exact keep q (by simp [h1]) (Ap.symm (n3 q h1 o (by simp)))
    · rcases List.mem_cons.1 h1 with rfl | h1
      · exact ho
      · exact keep q (by simp [h1]) (n4 q h1)
  · rcases List.mem_cons.1 hr with rfl | h1
    · exact Ap.symm (ap q (by simp [hq]) (Ap.symm (n3 q hq o (by simp))))
    · exact n3 q hq r (by simp [h1])
theorem OW.get (h : OW w os x) (hi : os[i]? = some o) : o.at_ w.heap.size x := h.ob o (List.mem_of_getElem? hi)
theorem OW.apart (h : OW w os x) (hi : os[i]? = some o) (hj : os[j]? = some p) (hne : i ≠ j) : Ap o p := by
  obtain ⟨h1, e1⟩ := List.getElem?_eq_some_iff.1 hi
  obtain ⟨h2, e2⟩ := List.getElem?_eq_some_iff.1 hj
  subst e1; subst e2
  rcases Nat.lt_or_gt_of_ne hne with h3 | h3
  · exact List.pairwise_iff_getElem.1 h.ne i j h1 h2 h3
  · exact Ap.symm (List.pairwise_iff_getElem.1 h.ne j i h2 h1 h3)
/-! What is read. -/
theorem OW.box (h : OW w os x) (hi : os[i]? = some (boxO g cs)) : w.heap.size ≤ g ∧ g < x.heap.size ∧ x.rangeAt g 0 cs ∧ ∀ j, x.frozen? ⟨g, j, none⟩ = false := by
  obtain ⟨g', h1, h2⟩ := (h.get hi).1 rfl
  injection h1 with h1; injection h1 with h1; injection h1 with h1
  subst h1; exact h2
theorem OW.range (h : OW w os x) (hi : os[i]? = some (boxO g cs)) : x.rangeAt g 0 cs := (h.box hi).2.2.1
theorem OW.cell (h : OW w os x) (hi : os[i]? = some (boxO g cs)) (hv : cs[j]? = some v) : x.cell? ⟨g, j, none⟩ = some v := by
  have := h.range hi j v hv; rwa [Nat.zero_add] at this
theorem OW.fz (h : OW w os x) (hi : os[i]? = some (boxO g cs)) (j : Nat) : x.frozen? ⟨g, j, none⟩ = false := (h.box hi).2.2.2 j
theorem OW.row (h : OW w os x) (hi : os[i]? = some (rowO T sz v n cs)) : x.ownsRow w.heap.size T sz v n cs := (h.get hi).2 rfl
theorem OW.byt (h : OW w os x) (hi : os[i]? = some (bytO T (A, c, l))) : OwnB T w.heap.size x A c l := (h.get hi).2 rfl
theorem OW.sl (h : OW w os x) (hi : os[i]? = some (bytO T (A, c, l))) (hn : l.length = n) : Sl x A n c l := hn ▸ Sl.own (h.byt hi)
/-! By membership. -/
theorem OW.cellm (h : OW w os x) (hm : boxO g cs ∈ os) (hv : cs[j]? = some v) : x.cell? ⟨g, j, none⟩ = some v := by
  obtain ⟨i, hi⟩ := List.getElem?_of_mem hm
  exact h.cell hi hv
theorem OW.rangem (h : OW w os x) (hm : boxO g cs ∈ os) : x.rangeAt g 0 cs := by
  obtain ⟨i, hi⟩ := List.getElem?_of_mem hm
  exact h.range hi
theorem OW.rowm (h : OW w os x) (hm : rowO T sz v n cs ∈ os) : x.ownsRow w.heap.size T sz v n cs := (h.ob _ hm).2 rfl
theorem OW.slm (h : OW w os x) (hm : bytO T (A, c, l) ∈ os) (hn : l.length = n) : Sl x A n c l := hn ▸ Sl.own (h.rowm (T := T) (sz := 1) hm)
theorem perm_front {α : Type} {l : List α} {a : α} (hi : l[i]? = some a) : l.Perm (a :: l.eraseIdx i) := by
  obtain ⟨l1, l2, rfl, rfl⟩ := split_at hi
  have e : (l1 ++ a :: l2).eraseIdx l1.length = l1 ++ l2 := by
    rw [List.eraseIdx_append_of_length_le (Nat.le_refl _), Nat.sub_self]; rfl
  rw [e]
  exact List.perm_middle
/-! What comes in. -/
theorem OW.row1 (k : Below x.heap.size x y) (h : y.ownsRow x.heap.size T sz v n cs) : OW x [rowO T sz v n cs] y :=
  ⟨k, fun o ho => by
    obtain rfl := List.mem_singleton.1 ho
    exact ⟨(fun e => nomatch e), fun _ => h⟩, List.pairwise_singleton _ _⟩
theorem OW.byt1 (k : Below x.heap.size x y) (h : OwnB T x.heap.size y A c l) : OW x [bytO T (A, c, l)] y :=
  ⟨k, fun o ho => by
    obtain rfl := List.mem_singleton.1 ho
    exact ⟨(fun e => nomatch e), fun _ => h⟩, List.pairwise_singleton _ _⟩
theorem OW.box1 (x : World) (t : TypeId) (cs : List Value) : OW x [boxO x.heap.size cs] (x.alloc (.cells cs.toArray t)) :=
  ⟨(Below.refl _ _).alloc (Nat.le_refl _) _, fun o ho => by
    obtain rfl := List.mem_singleton.1 ho
    exact ⟨fun _ => ⟨x.heap.size, rfl, Nat.le_refl _, by show _ < (x.heap.push _).size; simp, range_new _ _ _, fun j => by simp⟩, fun e => nomatch e⟩, List.pairwise_singleton _ _⟩
theorem OW.lit1 (x : World) (C : Array Value) (e : TypeId) (sz n : Nat) (hm : n ≤ maxLen) (hs : C.size = n * sz) : OW x [rowO e sz (.slice (some ⟨x.heap.size, 0, none⟩) n n) n C.toList] (x.alloc (.cells C e)) :=
  OW.row1 ((Below.refl _ _).alloc (Nat.le_refl _) _) (World.ownsRow_lit x C n (Nat.le_refl _) hm hs)
theorem byt_blk (r : Option Addr × Nat × List UInt8) : (bytO T r).blk = r.1.map (·.block) := by
  obtain ⟨A, c, l⟩ := r
  cases A <;> rfl
theorem OW.rows1 {rs : RowL} (k : Below x.heap.size x y) (h : RowsB T x.heap.size y rs) : OW x (rs.map (bytO T)) y := by
  refine ⟨k, fun o ho => ?_, ?_⟩
  · obtain ⟨r, hr, rfl⟩ := List.mem_map.1 ho
    obtain ⟨i, hi⟩ := List.getElem?_of_mem hr
    exact ⟨(fun e => nomatch e), fun _ => h.1 i r hi⟩
  · rw [List.pairwise_map]
    refine List.pairwise_iff_getElem.2 fun i j hi hj hij b hb e => ?_
    rw [byt_blk] at hb e
    obtain ⟨a, ha, ha'⟩ := Option.map_eq_some_iff.1 hb
    obtain ⟨a2, ha2, ha2'⟩ := Option.map_eq_some_iff.1 e
    exact h.2 i j _ _ (List.getElem?_eq_getElem hi) (List.getElem?_eq_getElem hj) (Nat.ne_of_lt hij) a a2 ha ha2 (ha'.trans ha2'.symm)
theorem OW.toRows {rs : RowL} (h : OW w (rs.map (bytO T)) x) : RowsB T w.heap.size x rs := by
  refine ⟨fun i r hr => (h.ob _ (List.mem_map_of_mem (List.mem_of_getElem? hr))).2 rfl, fun i j r s hr hs hij a b ha hb e => ?_⟩
  exact h.apart (i := i) (j := j) (by rw [List.getElem?_map, hr]; rfl) (by rw [List.getElem?_map, hs]; rfl) hij a.block (by rw [byt_blk, ha]; rfl) (by rw [byt_blk, hb, e]; rfl)
/-- All that a St holds. -/
theorem St.ow {T : TypeId} {bs : List (Nat × List Value)} {rs : RowL} (h : St T w (bs.map some) rs x) : OW w (bs.map (fun b => boxO b.1 b.2) ++ rs.map (bytO T)) x := by
  have hr := OW.rows1 (x := w) h.up h.rows
  refine ⟨h.up, fun o ho => ?_, List.pairwise_append.2 ⟨?_, hr.ne, fun o ho p hp b hb e => ?_⟩⟩
  · rcases List.mem_append.1 ho with ho | ho
    · obtain ⟨⟨g, cs⟩, hb, rfl⟩ := List.mem_map.1 ho
      obtain ⟨i, hi⟩ := List.getElem?_of_mem hb
      obtain ⟨h1, h2, h3, h4⟩ := h.box i g cs (by rw [List.getElem?_map, hi]; rfl)
      exact ⟨fun _ => ⟨g, rfl, h1, h2, h3, h4⟩, fun e => nomatch e⟩
    · exact hr.ob o ho
  · rw [List.pairwise_map]
    refine List.pairwise_iff_getElem.2 fun i j hi hj hij b hb e => ?_
    injection hb with hb
    injection e with e
    refine h.ne i j bs[i].1 bs[i].2 bs[j].1 bs[j].2 (by rw [List.getElem?_map, List.getElem?_eq_getElem hi]; rfl) (by rw [List.getElem?_map, List.getElem?_eq_getElem hj]; rfl) (Nat.ne_of_lt hij) (hb.trans e.symm)
  · obtain ⟨⟨g, cs⟩, hb', rfl⟩ := List.mem_map.1 ho
    obtain ⟨r, hr', rfl⟩ := List.mem_map.1 hp
    obtain ⟨i, hi⟩ := List.getElem?_of_mem hb'
    obtain ⟨j, hj⟩ := List.getElem?_of_mem hr'
    rw [byt_blk] at e
    obtain ⟨a, ha, ha'⟩ := Option.map_eq_some_iff.1 e
    injection hb with hb
    exact h.off i j g cs r a (by rw [List.getElem?_map, hi]; rfl) hj ha (ha'.trans hb.symm)
/-! What is written. -/
theorem OW.putR (h : OW w os x) (hi : os[i]? = some (boxO g cs)) (hc : Chg (fun b => b = g) x y) (hr : y.rangeAt g 0 vs) (hf : ∀ q, y.frozen? q = x.frozen? q) : OW w (os.set i (boxO g vs)) y := by
  obtain ⟨h1, h2, h3, h4⟩ := h.box hi
  exact h.upd hi hc (fun b _ e => by subst e; rfl) ⟨fun _ => ⟨g, rfl, h1, Nat.lt_of_lt_of_le h2 hc.size, hr, fun j => (hf _).trans (h4 j)⟩, fun e => nomatch e⟩ fun b hb => .inl hb
/-- A box is written whole. -/
theorem OW.put (h : OW w os x) (hi : os[i]? = some (boxO g cs)) (hl : vs.length = cs.length) : OW w (os.set i (boxO g vs)) (x.setCells g 0 vs) := by
  obtain ⟨h1, h2, h3, h4⟩ := h.box hi
  exact h.putR hi (setCells_chg g vs 0 x) (World.rangeAt_setCells_same x g 0 vs fun j hj => ⟨h3.isSome j (by omega), by rw [Nat.zero_add]; exact h4 j⟩) fun q => World.frozen?_setCells _ _ _ _ _
/-- One cell of a box is written. -/
theorem OW.put1 (h : OW w os x) (hi : os[i]? = some (boxO g cs)) (j : Nat) (u : Value) : OW w (os.set i (boxO g (cs.set j u))) (x.setCell ⟨g, j, none⟩ u) := by
  obtain ⟨h1, h2, hr, h4⟩ := h.box hi
  refine h.putR hi (Chg.setCell x ⟨g, j, none⟩ u) (fun k q hk => ?_) fun q => World.frozen?_setCell _ _ _ _
  rw [Nat.zero_add]
  rw [List.getElem?_set] at hk
  by_cases e : j = k
  · subst e
    rw [if_pos rfl] at hk
    split at hk
    · rename_i hlt
      injection hk with hk; subst hk
      have := hr j _ (List.getElem?_eq_getElem hlt)
      rw [Nat.zero_add] at this
      exact World.cell?_setCell_same _ _ _ this
    · cases hk
  · rw [if_neg e] at hk
    rw [World.cell?_setCell_other _ _ _ _ (fun e' => by injection e' with _ e' _; exact e e')]
    have := hr k q hk
    rwa [Nat.zero_add] at this
/-- A row was appended to. -/
theorem OW.grow {v' : Value} {m : Nat} (h : OW w os x) (hi : os[i]? = some (rowO T sz v n cs)) (ho : y.ownsRow w.heap.size T sz v' m vs) (hg : x.grownBy y v.ownBlock) (hat : v'.ownBlock = v.ownBlock ∨ v'.ownBlock = some x.heap.size) : OW w (os.set i (rowO T sz v' m vs)) y := by
  have hr := h.row hi
  refine h.upd hi (grown_chg hg) (fun b _ e => by show vBlock v = _; rw [own_vblock hr]; exact e) ⟨(fun e => nomatch e), fun _ => ho⟩ fun b hb => ?_
  have hb : vBlock v' = some b := hb
  rw [own_vblock ho] at hb
  rcases hat with e | e
  · left; show vBlock v = _; rw [own_vblock hr, ← e]; exact hb
  · right; rw [e] at hb; injection hb with hb; omega
/-- One cell of a row is written. -/
theorem OW.store {cap : Nat} (h : OW w os x) (hi : os[i]? = some (rowO T sz (.slice (some ⟨g, 0, none⟩) n cap) n cs)) (j : Nat) (u : Value) : OW w (os.set i (rowO T sz (.slice (some ⟨g, 0, none⟩) n cap) n (cs.set j u))) (x.setCell ⟨g, j, none⟩ u) :=
  h.upd hi (Chg.setCell x ⟨g, j, none⟩ u) (fun b _ e => by subst e; rfl) ⟨(fun e => nomatch e), fun _ => (World.ownsRow.stored (h.row hi) j u).1⟩ fun b hb => .inl hb
end
end Go.Proofs.Ythjjihipodhkiaa

/-
  A region that draws its order as a straight line, where what the loads read need stand only till the last operations begin, each of which waits for all loads. Over any program.
-/
namespace Go.Proofs.Ythjjihipodhkiaa
open Go.RowKit

section
variable {P : Program} {ops : Array Oper} {Q : Exit → Act → World → Prop} {F : List Nat} {S : World → Prop}
def finB (F : List Nat) (listed : Array Bool) : Bool := F.any fun k => listed.getD k false
/-- As wpAnyH; once one of F has come up, S is not asked any more. -/
def wpAnyT (P : Program) (ops : Array Oper) (Q : Exit → Act → World → Prop) (F : List Nat) (S : World → Prop) : Nat → Array Bool → Act → World → Prop
  | 0, listed, a, w => Region.ready .any ops listed = [] ∧ Q .normal a w
  | fuel + 1, listed, a, w =>
    (Region.ready .any ops listed = [] → Q .normal a w) ∧
    ∀ i ∈ Region.ready .any ops listed, wpOp P ops Q i (fun a' w' => (finB F (listed.setIfInBounds i true) = false → S w') ∧ wpAnyT P ops Q F S fuel (listed.setIfInBounds i true) a' w') a w
theorem wpAny_of_T : ∀ (fuel : Nat) (listed : Array Bool) (a : Act) (w : World), wpAnyT P ops Q F S fuel listed a w → wpAny P .any ops Q fuel listed a w
  | 0, _, _, _, h => h
  | fuel + 1, _, _, _, h => ⟨h.1, fun i hi => wpOp_mono (fun a' w' h' => wpAny_of_T fuel _ a' w' h'.2) (h.2 i hi)⟩
/-- D: none of these comes up ahead of operation i. -/
def depB (ops : Array Oper) (i : Nat) (D : List Nat) : Bool := !D.contains i && D.all fun k => match ops[k]? with
  | none => false
  | some o => o.after.any fun e => Region.binds .any e && (e.on == i || D.contains e.on)
theorem getD_ne {L : Array Bool} {j k : Nat} (d : Bool) (h : j ≠ k) : (L.setIfInBounds j true).getD k d = L.getD k d := by
  simp only [Array.getD_eq_getD_getElem?, Array.getElem?_setIfInBounds_ne h]
theorem fin_off {D : List Nat} {L : Array Bool} (hF : F.all (D.contains ·) = true) (hL : ∀ k, k ∈ D → L.getD k false = false) : finB F L = false := by
  unfold finB
  rw [List.any_eq_false]
  intro k hk
  have h1 := List.all_eq_true.1 hF k hk
  rw [hL k (by simpa using h1)]; simp
theorem fin_set {L : Array Bool} {i : Nat} (hi : F.contains i = false) : finB F (L.setIfInBounds i true) = finB F L := by
  unfold finB
  have : ∀ G : List Nat, (∀ k, k ∈ G → k ≠ i) → (G.any fun k => (L.setIfInBounds i true).getD k false) = G.any fun k => L.getD k false := fun G => by
    induction G with
    | nil => intro _; rfl
    | cons k G ih =>
      intro h
      rw [List.any_cons, List.any_cons, ih fun q hq => h q (List.mem_cons_of_mem _ hq), getD_ne false (fun e => h k (by simp) e.symm)]
  exact this F fun k hk e => by
    subst e
    have : F.contains k = true := by simpa using hk
    rw [hi] at this; cases this
theorem wpAnyT_first {i : Nat} {oi : Oper} {v : Value} (R : World → Prop) (hi : ops[i]? = some oi) (hsel : ∀ (j : Nat) (o : Oper) cs b, ops[j]? = some o → o.op ≠ .select cs b)
    (hQ : ∀ c a w, Q (.panic c) (a.put oi.dst v) w → Q (.panic c) a w) (D : List Nat) (hD : depB ops i D = true) (hiF : F.contains i = false)
    (hR : ∀ (L : Array Bool) w, (∀ k, k ∈ D → L.getD k false = false) → (finB F L = false → S w) → R w) :
    ∀ (fuel : Nat) (listed : Array Bool) (a : Act) (w : World),
      (∀ j oj, ops[j]? = some oj → j ≠ i → listed.getD j true = false → (∀ e ∈ oj.after, Region.binds .any e = true → e.on ≠ i) → oi.apart ops oj = true) →
      i ∈ Region.ready .any ops listed → (∀ k, k ∈ D → listed.getD k false = false) → YieldsIf P ops R oi v a → (finB F listed = false → S w) →
      wpAnyT P ops Q F S fuel (listed.setIfInBounds i true) (a.put oi.dst v) w → wpAnyT P ops Q F S (fuel + 1) listed a w := by
  obtain ⟨hDi, hDe⟩ := Bool.and_eq_true_iff.1 hD
  intro fuel
  induction fuel with
  | zero =>
    intro listed a w _ hr hun hy hS H
    refine ⟨fun h => (by rw [h] at hr; cases hr), fun j hj => ?_⟩
    by_cases hji : j = i
    · subst hji; exact hy.wpOp hi (hR listed w hun hS) ⟨fun e => hS (by rwa [fin_set hiF] at e), H⟩
    · have := ready_mono hj hji
      rw [H.1] at this
      cases this
  | succ fuel ih =>
    intro listed a w hfree hr hun hy hS H
    refine ⟨fun h => (by rw [h] at hr; cases hr), fun j hj => ?_⟩
    by_cases hji : j = i
    · subst hji; exact hy.wpOp hi (hR listed w hun hS) ⟨fun e => hS (by rwa [fin_set hiF] at e), H⟩
    · have h1 := H.2 j (ready_mono hj hji)
      obtain ⟨hjun, oj, hoj, hall⟩ := mem_ready.1 hj
      have hiun := (mem_ready.1 hr).1
      have hi0 : listed.getD i false = true → False := fun h1 => by
        rcases Nat.lt_or_ge i listed.size with h' | h'
        · simp [h'] at hiun h1; rw [hiun] at h1; cases h1
        · simp [Array.getElem?_eq_none h'] at h1
      have hnot : ∀ e ∈ oj.after, Region.binds .any e = true → e.on ≠ i := fun e he hb heq => hi0 (heq ▸ hall e he hb)
      have hjD : j ∉ D := fun hjm => by
        have h2 := List.all_eq_true.1 hDe j hjm
        rw [hoj] at h2
        have h2' : oj.after.any (fun e => Region.binds .any e && (e.on == i || D.contains e.on)) = true := h2
        rw [← Array.any_toList, List.any_eq_true] at h2'
        obtain ⟨e, he, h3⟩ := h2'
        have he := Array.mem_toList_iff.1 he
        obtain ⟨hb, h4⟩ := Bool.and_eq_true_iff.1 h3
        have h5 := hall e he hb
        rcases Bool.or_eq_true_iff.1 h4 with h6 | h6
        · exact hi0 ((beq_iff_eq.1 h6) ▸ h5)
        · rw [hun e.on (by simpa using h6)] at h5; cases h5
      have hiD : i ∉ D := by simpa using hDi
      have hun' : ∀ k, k ∈ D → (listed.setIfInBounds j true).getD k false = false := fun k hk => by
        have h3 : j ≠ k := fun e => hjD (by rw [e]; exact hk)
        rw [getD_ne false h3]; exact hun k hk
      have h2 := wpOp_putIf hoj (hfree j oj hoj hji hjun hnot) (fun cs b => hsel i oi cs b hi) (fun cs b => hsel j oj cs b hoj) hQ hy h1
      have hfree' : ∀ k ok, ops[k]? = some ok → k ≠ i → (listed.setIfInBounds j true).getD k true = false →
          (∀ e ∈ ok.after, Region.binds .any e = true → e.on ≠ i) → oi.apart ops ok = true := fun k ok hk hki hun hno => by
        refine hfree k ok hk hki ?_ hno
        by_cases hjk : j = k
        · subst hjk; exact hjun
        · rw [getD_ne true hjk] at hun; exact hun
      refine wpOp_mono (fun a' w' h3 => ?_) h2
      have hS' : finB F (listed.setIfInBounds j true) = false → S w' := fun e => h3.2.1 (by rw [Array.setIfInBounds_comm _ _ (Ne.symm hji), fin_set hiF]; exact e)
      refine ⟨hS', ih (listed.setIfInBounds j true) a' w' hfree' (ready_mono hr (Ne.symm hji)) hun' h3.1 hS' ?_⟩
      rw [Array.setIfInBounds_comm _ _ hji]
      exact h3.2.2
end
section
variable {P : Program} {Q : Exit → Act → World → Prop} {F : List Nat} {S : World → Prop} {l : List Oper} {fuel : Nat} {listed : Array Bool} {a : Act} {w : World} {i : Nat} {o : Oper} {v : Value}
theorem lt_start {id : Nat} (F : List Nat) (hm : P.follows .mixedOrders = true) (h : ∀ z, Below w.heap.size w z → ∃ S, wpAnyT P l.toArray Q F S l.length (Array.replicate l.length false) a z) : (Code.region id l.toArray true).wp P Q a w := by
  obtain ⟨S, h⟩ := h w.drew (Below.refl _ _).drew
  exact wp_region_any hm (wpAny_of_T _ _ _ _ (by simpa using h))
/-- What reads where S holds: all of F waits for it. -/
theorem lt_take (i : Nat) (D : List Nat) {o : Oper} (hi : l[i]? = some o) (hs : Region.noSelect l.toArray = true) (hf : Region.free .any l.toArray listed i = true) (hr : (Region.ready .any l.toArray listed).contains i = true)
    (hd : depB l.toArray i D = true) (hF : (F.all (D.contains ·) && !F.contains i && D.all (fun k => !listed.getD k false)) = true)
    (hQ : ∀ c a w, Q (.panic c) (a.put o.dst v) w → Q (.panic c) a w) (hy : YieldsIf P l.toArray S o v a) (hS : S w)
    (h : wpAnyT P l.toArray Q F S fuel (listed.setIfInBounds i true) (a.put o.dst v) w) : wpAnyT P l.toArray Q F S (fuel + 1) listed a w := by
  simp only [Bool.and_eq_true, Bool.not_eq_true'] at hF
  exact wpAnyT_first S (lx_at hi) (Region.noSelect_spec hs) hQ D hd hF.1.2 (fun L w hL hS => hS (fin_off hF.1.1 hL)) fuel listed a w (Region.free_spec (lx_at hi) hf) (by simpa using hr) (fun k hk => by simpa using List.all_eq_true.1 hF.2 k hk) hy (fun _ => hS) h
/-- What yields in whatever world. -/
theorem lt_pure (i : Nat) {o : Oper} (hi : l[i]? = some o) (hs : Region.noSelect l.toArray = true) (hf : Region.free .any l.toArray listed i = true) (hr : (Region.ready .any l.toArray listed).contains i = true) (hiF : F.contains i = false)
    (hQ : ∀ c a w, Q (.panic c) (a.put o.dst v) w → Q (.panic c) a w) (hy : YieldsIf P l.toArray (fun _ => True) o v a) (hS : finB F listed = false → S w)
    (h : wpAnyT P l.toArray Q F S fuel (listed.setIfInBounds i true) (a.put o.dst v) w) : wpAnyT P l.toArray Q F S (fuel + 1) listed a w :=
  wpAnyT_first (fun _ => True) (lx_at hi) (Region.noSelect_spec hs) hQ [] (by simp [depB]) hiF (fun _ _ _ _ => trivial) fuel listed a w (Region.free_spec (lx_at hi) hf) (by simpa using hr) (fun k hk => by cases hk) hy hS h
theorem lt_skip (i : Nat) {o : Oper} (hi : l[i]? = some o) (hs : Region.noSelect l.toArray = true) (hf : Region.free .any l.toArray listed i = true) (hr : (Region.ready .any l.toArray listed).contains i = true) (hiF : F.contains i = false)
    (hQ : ∀ c a w, Q (.panic c) (a.put o.dst undef) w → Q (.panic c) a w) (hw : Region.wanted o (yielded l.toArray a.tmps) = false) (hS : finB F listed = false → S w)
    (h : wpAnyT P l.toArray Q F S fuel (listed.setIfInBounds i true) (a.put o.dst undef) w) : wpAnyT P l.toArray Q F S (fuel + 1) listed a w :=
  lt_pure i hi hs hf hr hiF hQ (.inr ⟨hw, rfl⟩) hS h
/-- The same behind the first of F. -/
theorem lt_pureF (i : Nat) {o : Oper} (hi : l[i]? = some o) (hs : Region.noSelect l.toArray = true) (hf : Region.free .any l.toArray listed i = true) (hr : (Region.ready .any l.toArray listed).contains i = true) (hiF : F.contains i = false) (hfin : finB F listed = true)
    (hQ : ∀ c a w, Q (.panic c) (a.put o.dst v) w → Q (.panic c) a w) (hy : YieldsIf P l.toArray (fun _ => True) o v a)
    (h : wpAnyT P l.toArray Q F S fuel (listed.setIfInBounds i true) (a.put o.dst v) w) : wpAnyT P l.toArray Q F S (fuel + 1) listed a w :=
  lt_pure i hi hs hf hr hiF hQ hy (fun e => by rw [hfin] at e; cases e) h
/-- The only one that may come up. -/
theorem lt_op (i : Nat) {o : Oper} (hi : l[i]? = some o) (hr : Region.ready .any l.toArray listed = [i]) (hw : Region.wanted o (yielded l.toArray a.tmps) = true)
    (h : o.wp P a w (fun a' w' => (finB F (listed.setIfInBounds i true) = false → S w') ∧ wpAnyT P l.toArray Q F S fuel (listed.setIfInBounds i true) a' w') Q) : wpAnyT P l.toArray Q F S (fuel + 1) listed a w := by
  refine ⟨fun h0 => ?_, fun j hj => ?_⟩
  · rw [hr] at h0; cases h0
  rw [hr] at hj
  obtain rfl : j = i := by simpa using hj
  unfold wpOp
  rw [lx_at hi]
  simp only [hw, if_true]
  exact .inl h
/-- One of the last, or behind them. -/
theorem lt_end (i : Nat) {o : Oper} (hi : l[i]? = some o) (hr : Region.ready .any l.toArray listed = [i]) (hw : Region.wanted o (yielded l.toArray a.tmps) = true) (hfin : finB F (listed.setIfInBounds i true) = true)
    (h : o.wp P a w (wpAnyT P l.toArray Q F S fuel (listed.setIfInBounds i true)) Q) : wpAnyT P l.toArray Q F S (fuel + 1) listed a w :=
  lt_op i hi hr hw (Oper.wp_mono (fun _ _ h => ⟨(fun e => by rw [hfin] at e; cases e), h⟩) h)
theorem lt_call (i : Nat) {o : Oper} {f : FuncId} {xs : List Operand} {ats : Array TypeId} (hi : l[i]? = some o) (hr : Region.ready .any l.toArray listed = [i]) (hw : Region.wanted o (yielded l.toArray a.tmps) = true)
    (ho : o.op = .call { callee := .value (.func f), args := xs.toArray, argTypes := ats }) (hf : GoFn P f) (vals : List Value) (hv : xs.map a.eval = vals)
    (hc : Calls P f vals.toArray w fun e w' => ∃ v, e = .returned v ∧ (finB F (listed.setIfInBounds i true) = false → S w') ∧ wpAnyT P l.toArray Q F S fuel (listed.setIfInBounds i true) (a.put o.dst v) w') : wpAnyT P l.toArray Q F S (fuel + 1) listed a w :=
  lt_op i hi hr hw (wp_call_go ho hf vals.toArray (by rw [List.map_toArray, hv]) hc)
theorem lt_done (hr : Region.ready .any l.toArray listed = []) (h : Q .normal a w) : wpAnyT P l.toArray Q F S fuel listed a w := by
  cases fuel with
  | zero => exact ⟨hr, h⟩
  | succ f => exact ⟨fun _ => h, fun i hi => (by rw [hr] at hi; cases hi)⟩
end
/-! ### Single operations over what the call owns -/
section
variable {P : Program} {Q : Exit → Act → World → Prop} {K : Act → World → Prop} {o : Oper} {a : Act} {w x : World} {os : List Ob}
theorem wpo_append {t e : TypeId} {size bytes : Nat} (s y : Operand) (ho : o.op = .call { callee := .builtin .append, args := #[s, y], argTypes := #[t, t] }) (hS : SliceOf P t e size bytes) (h : OW w os x) (i : Nat) {v : Value} {n : Nat} {cs : List Value} (hi : os[i]? = some (rowO e size v n cs)) (hs : a.eval s = v)
    (B : Nat) (A : Option Addr) (m c : Nat) (news : List Value) (hy : a.eval y = .slice A m c) (hr : Reads x B size A m news) (h1 : ∀ u ∈ news, u.oneCell' = true) (h63 : n + m ≤ maxLen) (hbytes : (n + m) * bytes ≤ 140737488355328)
    (hK : ∀ A' c' z, OW w (os.set i (rowO e size (.slice A' (n + m) c') (n + m) (cs ++ news))) z → x.grownBy z v.ownBlock → K (a.put o.dst (.slice A' (n + m) c')) z) : o.wp P a x K Q := by
  refine wp_append_reads x s y ho hS w.heap.size v n cs hs (h.row hi) B A m c news hy hr h1 h63 hbytes h.up.size fun v' w' h2 h3 h4 => ?_
  obtain ⟨A', c', rfl, _⟩ := own_slice h2
  exact hK A' c' w' (h.grow hi h2 h3 h4) h3
theorem wpo_build {t e : TypeId} {len sz bytes : Nat} {parts : Array (Nat × Operand)} (ho : o.op = .buildSlice t len parts) (C : Array Value) (hS : SliceOf P t e sz bytes) (z : Value) (hz : (P.info? e).bind (·.zero) = some z) (hsm : ¬ len * sz > 2 ^ 24) (hp : ¬ len * sz = 0) (hm : len ≤ maxLen) (hsz : C.size = len * sz)
    (hf : Instr.fill (fun i => some (i * sz, sz)) ((Array.range (len * sz)).map (z.cells[· % z.cells.size]!)) (parts.map fun (i, x) => (i, a.eval x)).toList = some C)
    (h : OW w os x) (hK : ∀ g z, OW w (os ++ [rowO e sz (.slice (some ⟨g, 0, none⟩) len len) len C.toList]) z → Below x.heap.size x z → K (a.put o.dst (.slice (some ⟨g, 0, none⟩) len len)) z) : o.wp P a x K Q := by
  obtain ⟨ht, ⟨i, z', hi, hz', hsize, _, _⟩, _⟩ := hS
  rw [hi] at hz
  have hz : i.zero = some z := hz
  rw [hz'] at hz; injection hz with hz; subst hz
  subst hsize
  exact wp_buildSlice t e len parts ho C i z' ht hi hz' hsm hp hf (hK _ _ (h.app (OW.lit1 x C e i.size len hm hsz)) ((Below.refl _ _).alloc (Nat.le_refl _) _))
theorem wpo_box {t : TypeId} {y : Operand} (ho : o.op = .box t y) (cs : List Value) (hx : (a.eval y).cells = cs.toArray) (h : OW w os x) (hK : ∀ g z, OW w (os ++ [boxO g cs]) z → Below x.heap.size x z → K (a.put o.dst (.pointer (some ⟨g, 0, none⟩))) z) : o.wp P a x K Q := by
  unfold Oper.wp execOp
  simp only [ho, Sem.run_bind, Instr.box, newVar, newRow, run_newObj_alloc, Sem.run_pure, Result.andThen_ok, hx]
  exact hK _ _ (h.app (OW.box1 x t cs)) ((Below.refl _ _).alloc (Nat.le_refl _) _)
theorem wpo_alloc {t : TypeId} (ho : o.op = .alloc t) (cs : List Value) (hz : (P.info? t).bind (·.zero) = some (.agg cs.toArray) ∨ ∃ v : Value, (P.info? t).bind (·.zero) = some v ∧ v.cells = cs.toArray) (h : OW w os x) (hK : ∀ g z, OW w (os ++ [boxO g cs]) z → Below x.heap.size x z → K (a.put o.dst (.pointer (some ⟨g, 0, none⟩))) z) : o.wp P a x K Q := by
  obtain ⟨v, hv, hc⟩ : ∃ v : Value, (P.info? t).bind (·.zero) = some v ∧ v.cells = cs.toArray := by
    rcases hz with h | h
    · exact ⟨_, h, rfl⟩
    · exact h
  refine wp_alloc_row ho hv ?_
  rw [hc]
  exact hK _ _ (h.app (OW.box1 x t cs)) ((Below.refl _ _).alloc (Nat.le_refl _) _)
theorem wpo_put {t : TypeId} {p y : Operand} (ho : o.op = .store t p y) (h : OW w os x) (i : Nat) {g : Nat} {cs : List Value} (hi : os[i]? = some (boxO g cs)) (hx : a.eval p = .pointer (some ⟨g, 0, none⟩)) (vs : List Value) (hy : a.eval y = .agg vs.toArray) (hl : vs.length = cs.length) (ht : (P.info? t).map (·.size) = some vs.length) (h1 : ∀ u ∈ vs, u.oneCell' = true)
    (hK : ∀ z, OW w (os.set i (boxO g vs)) z → Chg (fun b => b = g) x z → K (a.put o.dst undef) z) : o.wp P a x K Q :=
  wp_store_row ho hx hy (h.range hi) (h.fz hi) hl ht h1 (hK _ (h.put hi hl) (setCells_chg g vs 0 x))
theorem wpo_put1 {t : TypeId} {p y : Operand} (ho : o.op = .store t p y) (h : OW w os x) (i : Nat) {g : Nat} {cs : List Value} (hi : os[i]? = some (boxO g cs)) (j : Nat) (hx : a.eval p = .pointer (some ⟨g, j, none⟩)) (hj : j < cs.length) (v : Value) (hy : a.eval y = v) (ht : (P.info? t).map (·.size) = some 1) (h1 : v.oneCell' = true)
    (hK : ∀ z, OW w (os.set i (boxO g (cs.set j v))) z → Chg (fun b => b = g) x z → K (a.put o.dst undef) z) : o.wp P a x K Q := by
  unfold Oper.wp execOp
  have hs : (x.cell? ⟨g, j, none⟩).isSome = true := by
    rw [h.cell hi (List.getElem?_eq_getElem hj)]; rfl
  simp only [ho, hx, hy, Instr.storeAt, Instr.sureAddr, Sem.run_bind, Sem.run_pure, Result.andThen_ok, run_storeVar_one x g j t v hs (h.fz hi j) h1 ht]
  exact hK _ (h.put1 hi j v) (Chg.setCell x ⟨g, j, none⟩ v)
theorem wpo_store {t : TypeId} {p y : Operand} (ho : o.op = .store t p y) (h : OW w os x) (i : Nat) {T : TypeId} {sz g n cap : Nat} {cs : List Value} (hi : os[i]? = some (rowO T sz (.slice (some ⟨g, 0, none⟩) n cap) n cs)) (j : Nat) (hx : a.eval p = .pointer (some ⟨g, j, none⟩)) (hj : j < n * sz) (v : Value) (hy : a.eval y = v) (ht : (P.info? t).map (·.size) = some 1) (h1 : v.oneCell' = true)
    (hK : ∀ z, OW w (os.set i (rowO T sz (.slice (some ⟨g, 0, none⟩) n cap) n (cs.set j v))) z → Chg (fun b => b = g) x z → K (a.put o.dst undef) z) : o.wp P a x K Q := by
  unfold Oper.wp execOp
  have hr := h.row hi
  have hs : (x.cell? ⟨g, j, none⟩).isSome = true := by
    rw [World.ownsRow.cellAt hr j hj, List.getElem?_eq_getElem (by rw [hr.1]; exact hj)]; rfl
  simp only [ho, hx, hy, Instr.storeAt, Instr.sureAddr, Sem.run_bind, Sem.run_pure, Result.andThen_ok, run_storeVar_one x g j t v hs (World.ownsRow.frozenAt hr j) h1 ht]
  exact hK _ (h.store hi j v) (Chg.setCell x ⟨g, j, none⟩ v)
end
/-! ### The same along a list -/
section
variable {P : Program} {ops : Array Oper} {Q : Exit → Act → World → Prop} {rest : List Oper} {o : Oper} {a : Act} {w x : World} {os : List Ob}
theorem wl_append {t e : TypeId} {size bytes : Nat} (hgd : Region.wanted o (yielded ops a.tmps) = true) (s y : Operand) (ho : o.op = .call { callee := .builtin .append, args := #[s, y], argTypes := #[t, t] }) (hS : SliceOf P t e size bytes) (h : OW w os x) (i : Nat) {v : Value} {n : Nat} {cs : List Value} (hi : os[i]? = some (rowO e size v n cs)) (hs : a.eval s = v)
    (B : Nat) (A : Option Addr) (m c : Nat) (news : List Value) (hy : a.eval y = .slice A m c) (hr : Reads x B size A m news) (h1 : ∀ u ∈ news, u.oneCell' = true) (h63 : n + m ≤ maxLen) (hbytes : (n + m) * bytes ≤ 140737488355328)
    (hK : ∀ A' c' z, OW w (os.set i (rowO e size (.slice A' (n + m) c') (n + m) (cs ++ news))) z → x.grownBy z v.ownBlock → wpList P ops Q rest (a.put o.dst (.slice A' (n + m) c')) z) : wpList P ops Q (o :: rest) a x :=
  BigFrame.wpList_want hgd fun _ hk => wpo_append s y ho hS h i hi hs B A m c news hy hr h1 h63 hbytes fun A' c' z hz hg => hk _ _ (hK A' c' z hz hg)
theorem wl_build {t e : TypeId} {len sz bytes : Nat} (hgd : Region.wanted o (yielded ops a.tmps) = true) (parts : Array (Nat × Operand)) (ho : o.op = .buildSlice t len parts) (C : Array Value) (hS : SliceOf P t e sz bytes) (z : Value) (hz : (P.info? e).bind (·.zero) = some z) (hsm : ¬ len * sz > 2 ^ 24) (hp : ¬ len * sz = 0) (hm : len ≤ maxLen) (hsz : C.size = len * sz)
    (hf : Instr.fill (fun i => some (i * sz, sz)) ((Array.range (len * sz)).map (z.cells[· % z.cells.size]!)) (parts.map fun (i, x) => (i, a.eval x)).toList = some C)
    (h : OW w os x) (hK : ∀ g z, OW w (os ++ [rowO e sz (.slice (some ⟨g, 0, none⟩) len len) len C.toList]) z → Below x.heap.size x z → wpList P ops Q rest (a.put o.dst (.slice (some ⟨g, 0, none⟩) len len)) z) : wpList P ops Q (o :: rest) a x :=
  BigFrame.wpList_want hgd fun _ hk => wpo_build ho C hS z hz hsm hp hm hsz hf h fun g z hz hb => hk _ _ (hK g z hz hb)
theorem wl_box {t : TypeId} (hgd : Region.wanted o (yielded ops a.tmps) = true) (y : Operand) (ho : o.op = .box t y) (cs : List Value) (hx : (a.eval y).cells = cs.toArray) (h : OW w os x) (hK : ∀ g z, OW w (os ++ [boxO g cs]) z → Below x.heap.size x z → wpList P ops Q rest (a.put o.dst (.pointer (some ⟨g, 0, none⟩))) z) : wpList P ops Q (o :: rest) a x :=
  BigFrame.wpList_want hgd fun _ hk => wpo_box ho cs hx h fun g z hz hb => hk _ _ (hK g z hz hb)
theorem wl_alloc {t : TypeId} (hgd : Region.wanted o (yielded ops a.tmps) = true) (ho : o.op = .alloc t) (cs : List Value) (hz : (P.info? t).bind (·.zero) = some (.agg cs.toArray) ∨ ∃ v : Value, (P.info? t).bind (·.zero) = some v ∧ v.cells = cs.toArray) (h : OW w os x) (hK : ∀ g z, OW w (os ++ [boxO g cs]) z → Below x.heap.size x z → wpList P ops Q rest (a.put o.dst (.pointer (some ⟨g, 0, none⟩))) z) : wpList P ops Q (o :: rest) a x :=
  BigFrame.wpList_want hgd fun _ hk => wpo_alloc ho cs hz h fun g z hz hb => hk _ _ (hK g z hz hb)
theorem wl_put {t : TypeId} (hgd : Region.wanted o (yielded ops a.tmps) = true) (p y : Operand) (ho : o.op = .store t p y) (h : OW w os x) (i : Nat) {g : Nat} {cs : List Value} (hi : os[i]? = some (boxO g cs)) (hx : a.eval p = .pointer (some ⟨g, 0, none⟩)) (vs : List Value) (hy : a.eval y = .agg vs.toArray) (hl : vs.length = cs.length) (ht : (P.info? t).map (·.size) = some vs.length) (h1 : ∀ u ∈ vs, u.oneCell' = true)
    (hK : ∀ z, OW w (os.set i (boxO g vs)) z → Chg (fun b => b = g) x z → wpList P ops Q rest (a.put o.dst undef) z) : wpList P ops Q (o :: rest) a x :=
  BigFrame.wpList_want hgd fun _ hk => wpo_put ho h i hi hx vs hy hl ht h1 fun z hz hc => hk _ _ (hK z hz hc)
theorem wl_put1 {t : TypeId} (hgd : Region.wanted o (yielded ops a.tmps) = true) (p y : Operand) (ho : o.op = .store t p y) (h : OW w os x) (i : Nat) {g : Nat} {cs : List Value} (hi : os[i]? = some (boxO g cs)) (j : Nat) (hx : a.eval p = .pointer (some ⟨g, j, none⟩)) (hj : j < cs.length) (v : Value) (hy : a.eval y = v) (ht : (P.info? t).map (·.size) = some 1) (h1 : v.oneCell' = true)
    (hK : ∀ z, OW w (os.set i (boxO g (cs.set j v))) z → Chg (fun b => b = g) x z → wpList P ops Q rest (a.put o.dst undef) z) : wpList P ops Q (o :: rest) a x :=
  BigFrame.wpList_want hgd fun _ hk => wpo_put1 ho h i hi j hx hj v hy ht h1 fun z hz hc => hk _ _ (hK z hz hc)
theorem wl_store {t : TypeId} (hgd : Region.wanted o (yielded ops a.tmps) = true) (p y : Operand) (ho : o.op = .store t p y) (h : OW w os x) (i : Nat) {T : TypeId} {sz g n cap : Nat} {cs : List Value} (hi : os[i]? = some (rowO T sz (.slice (some ⟨g, 0, none⟩) n cap) n cs)) (j : Nat) (hx : a.eval p = .pointer (some ⟨g, j, none⟩)) (hj : j < n * sz) (v : Value) (hy : a.eval y = v) (ht : (P.info? t).map (·.size) = some 1) (h1 : v.oneCell' = true)
    (hK : ∀ z, OW w (os.set i (rowO T sz (.slice (some ⟨g, 0, none⟩) n cap) n (cs.set j v))) z → Chg (fun b => b = g) x z → wpList P ops Q rest (a.put o.dst undef) z) : wpList P ops Q (o :: rest) a x :=
  BigFrame.wpList_want hgd fun _ hk => wpo_store ho h i hi j hx hj v hy ht h1 fun z hz hc => hk _ _ (hK z hz hc)
end
end Go.Proofs.Ythjjihipodhkiaa

/-
  For BloomLent: from two lists of the same rows to what the call owns; a list of cut rows reads.
-/
namespace Go.Proofs.Ythjjihipodhkiaa
open Go.RowKit

theorem lns_ow {T e : TypeId} {w x : World} {lv wv : Value} {nl nw : Nat} {xs ys : List Value} {zs : RowL} (h : LnS T e w.heap.size x lv wv nl nw xs ys zs) (hb : Below w.heap.size w x) : OW w (rowO e 1 lv nl xs :: rowO e 1 wv nw ys :: zs.map (bytO T)) x := by
  have h3 := OW.rows1 hb h.rows
  refine ⟨hb, fun o ho => ?_, List.pairwise_cons.2 ⟨fun o ho b hb e => ?_, List.pairwise_cons.2 ⟨fun o ho b hb e => ?_, h3.ne⟩⟩⟩
  · rcases List.mem_cons.1 ho with rfl | ho
    · exact ⟨(fun e => nomatch e), fun _ => h.ol⟩
    · rcases List.mem_cons.1 ho with rfl | ho
      · exact ⟨(fun e => nomatch e), fun _ => h.ow⟩
      · exact h3.ob o ho
  · have hb : vBlock lv = some b := hb
    rw [own_vblock h.ol] at hb
    rcases List.mem_cons.1 ho with rfl | ho
    · have e : vBlock wv = some b := e
      rw [own_vblock h.ow] at e
      exact h.ne b hb e
    · obtain ⟨r, hr, rfl⟩ := List.mem_map.1 ho
      obtain ⟨i, hi⟩ := List.getElem?_of_mem hr
      rw [byt_blk] at e
      obtain ⟨a, ha, ha'⟩ := Option.map_eq_some_iff.1 e
      exact h.al b hb i r a hi ha ha'
  · have hb : vBlock wv = some b := hb
    rw [own_vblock h.ow] at hb
    obtain ⟨r, hr, rfl⟩ := List.mem_map.1 ho
    obtain ⟨i, hi⟩ := List.getElem?_of_mem hr
    rw [byt_blk] at e
    obtain ⟨a, ha, ha'⟩ := Option.map_eq_some_iff.1 e
    exact h.aw b hb i r a hi ha ha'
/-- A list whose slices are the rows without their five marks. -/
theorem cut_rbs {T e : TypeId} {w x : World} {A : Option Addr} {n c i : Nat} {zs : RowL} {qs : List (List UInt8)} {os : List Ob} (h : OW w os x) (hi : os[i]? = some (rowO e 1 (.slice A n c) n (zs.map cutR))) (hm : ∀ r, r ∈ zs → bytO T r ∈ os) (hq : zs.map (·.2.2) = qs.map (· ++ mkB)) : RBs x x.heap.size A n qs := by
  have hr := h.row hi
  have hl : zs.length = qs.length := by have := congrArg List.length hq; simpa using this
  refine ⟨zs.map cutR, Reads.own hr, by rw [List.length_map, hl], fun k q hk => ?_⟩
  obtain ⟨a, d, hz⟩ := cont_one10 hq (show (qs.map (· ++ mkB))[k]? = some (q ++ mkB) by rw [List.getElem?_map, hk]; rfl)
  have hs : Sl x a (q.length + 5) d (q ++ mkB) := h.slm (hm _ (List.mem_of_getElem? hz)) (by rw [List.length_append]; rfl)
  have hs2 := hs.take (m := q.length) (by omega)
  rw [List.take_left' rfl] at hs2
  refine ⟨a, d, by rw [List.getElem?_map, hz]; simp [cutR, mkB_len], hs2.cap, hs2.lim, hs2.nil, hs2.rb⟩
theorem val_rbs {T e : TypeId} {w x : World} {A : Option Addr} {n c i : Nat} {zs : RowL} {qs : List (List UInt8)} {os : List Ob} (h : OW w os x) (hi : os[i]? = some (rowO e 1 (.slice A n c) n (zs.map valR))) (hm : ∀ r, r ∈ zs → bytO T r ∈ os) (hq : zs.map (·.2.2) = qs) : RBs x x.heap.size A n qs := by
  have hr := h.row hi
  have hl : zs.length = qs.length := by have := congrArg List.length hq; simpa using this
  refine ⟨zs.map valR, Reads.own hr, by rw [List.length_map, hl], fun k q hk => ?_⟩
  obtain ⟨a, d, hz⟩ := cont_one10 hq hk
  have hs : Sl x a q.length d q := h.slm (hm _ (List.mem_of_getElem? hz)) rfl
  exact ⟨a, d, by rw [List.getElem?_map, hz]; rfl, hs.cap, hs.lim, hs.nil, hs.rb⟩
theorem OW.nil1 {T : TypeId} (w : World) : OW w [rowO T 1 (.slice none 0 0) 0 []] w :=
  ⟨Below.refl _ _, fun p hp => by
    obtain rfl := List.mem_singleton.1 hp
    exact ⟨(fun e => nomatch e), fun _ => own_nil _ _ _ _⟩, List.pairwise_singleton _ _⟩
theorem ow_off {T : TypeId} {w x : World} {o : Ob} {os : List Ob} {e : TypeId} {v : Value} {n : Nat} {cs : List Value} {zs : RowL} (h : OW w (o :: os) x) (ho : o = rowO e 1 v n cs) (hm : ∀ r, r ∈ zs → bytO T r ∈ os) : Off v zs := fun g hg i r a hi ha e' => by
  subst ho
  refine (List.pairwise_cons.1 h.ne).1 _ (hm r (List.mem_of_getElem? hi)) g ?_ (by rw [byt_blk, ha, ← e']; rfl)
  show vBlock v = _
  rw [own_vblock (h.row (i := 0) rfl)]; exact hg
section
variable {P : Program} {ops : Array Oper} {Q : Exit → Act → World → Prop} {K : Act → World → Prop} {rest : List Oper} {o : Oper} {a : Act} {x : World}
theorem wpList_load_rowO (hgd : Region.wanted o (yielded ops a.tmps) = true) (ty : TypeId) (p : Operand) (ho : o.op = .load ty p) {b k : Nat} {cs : List Value} (hx : a.eval p = .pointer (some ⟨b, k, none⟩)) (hr : x.rangeAt b k cs) (ht : RowTy P ty cs.length)
    (hK : wpList P ops Q rest (a.put o.dst (.agg cs.toArray)) x) : wpList P ops Q (o :: rest) a x := by
  obtain ⟨⟨d, hu, hd⟩, hi⟩ := ht
  exact BigFrame.wpList_want hgd fun _ hk => wp_load_mid ty p ho b k hx cs d hr hu hd hi (hk _ _ hK)
/-- One cell, wherever it is. -/
theorem wpo_cell {t : TypeId} {p y : Operand} (ho : o.op = .store t p y) {g j : Nat} (hx : a.eval p = .pointer (some ⟨g, j, none⟩)) {u : Value} (hc : x.cell? ⟨g, j, none⟩ = some u) (hf : x.frozen? ⟨g, j, none⟩ = false) (v : Value) (hy : a.eval y = v) (ht : (P.info? t).map (·.size) = some 1) (h1 : v.oneCell' = true)
    (hK : K (a.put o.dst undef) (x.setCell ⟨g, j, none⟩ v)) : o.wp P a x K Q := by
  unfold Oper.wp execOp
  simp only [ho, hx, hy, Instr.storeAt, Instr.sureAddr, Sem.run_bind, Sem.run_pure, Result.andThen_ok, run_storeVar_one x g j t v (by rw [hc]; rfl) hf h1 ht]
  exact hK
end
theorem wrap_u8 (x : Int) : ∃ u : UInt8, IntKind.u8.wrap x = (u.toNat : Int) := by
  refine ⟨UInt8.ofNat (x % 256).toNat, ?_⟩
  rw [UInt8.toNat_ofNat']
  have h : IntKind.u8.wrap x = x % 256 := by simp [IntKind.wrap, IntKind.signed, IntKind.bits]
  rw [h]
  omega
end Go.Proofs.Ythjjihipodhkiaa

/-
  The frame of a law's proof, over any program: a law that leaves all old memory as it was meets its row; openers for arguments.
-/
namespace Go.Proofs.Ythjjihipodhkiaa
open Go.RowKit Go.WideShapes Go.ChangeShapes Go.Joins Go.Deep

section
variable {H : Type} {enc : TypeId × Value → H} {P : Program}

theorem trodAll_below (hl : laidOutB P = true) {W W' : World} {sp : Nat → Bool} : ∀ (ts : List TypeId) (vs : List Value) (ds : List (DataW H)) (ps : List MemPlace),
    (∀ t ∈ ts, P.readableRec t = true ∧ t < P.types.size) → DataW.TrodAll enc P W 0 (fun _ => true) true ts vs ds ps → (∀ p ∈ ps, W.sameAt W' p) → (∀ p ∈ ps, sp p.block = true) →
    DataW.TrodAll enc P W' 0 sp true ts vs ds ps
  | [], [], [], ps, _, h, _, _ => h
  | t :: ts, v :: vs, d :: ds, ps, hr, h, hs, hp => by
    obtain ⟨p, q, h1, h2, rfl⟩ := h
    refine ⟨p, q, WideElems.Trod_stays hl (hr t (by simp)).1 (hr t (by simp)).2 h1 (fun x hx => hs x (by simp [hx])) (fun x hx => hp x (by simp [hx])), ?_, rfl⟩
    exact trodAll_below hl ts vs ds q (fun t ht => hr t (by simp [ht])) h2 (fun x hx => hs x (by simp [hx])) (fun x hx => hp x (by simp [hx]))
  | [], _ :: _, _, _, _, h, _, _ => h.elim
  | [], [], _ :: _, _, _, h, _, _ => h.elim
  | _ :: _, [], _, _, _, h, _, _ => h.elim
  | _ :: _, _ :: _, [], _, _, h, _, _ => h.elim

/-- A law that has returned true and left all that was there meets its row. -/
theorem law_post {f : Func} {s : ChangeSpec} {apart fresh handsOn again : Bool} {W W' : World} {args : Array Value} {ds gs : List (DataW H)} {before : List MemPlace} {tb : TypeId}
    (hl : laidOutB P = true) (hr : ∀ t ∈ f.params.toList, P.readableRec t = true ∧ t < P.types.size) (hv : s.vars = [])
    (hW : DataW.Whole enc P f.params.toList s.vars apart W args.toList ds gs before) (hres : f.resultTypes = #[tb]) (htb : P.underlying tb = some .bool)
    (hfn : s.fn H (ds ++ gs) = { results := [.lit (.bool true)], args := ds }) (hb : Below W.heap.size W W') :
    s.post enc P f apart fresh handsOn again W args (.bool true) W' := by
  have hlt : ∀ p ∈ before, p.block < W.heap.size := fun p hp => hW.lt p hp
  obtain ⟨p, q, hA, hV, hpq, hz, hn⟩ := hW
  have hq : gs = [] ∧ q = [] := by rw [hv] at hV; exact trodVars_none hV
  obtain ⟨rfl, rfl⟩ := hq
  rw [List.append_nil] at hpq
  subst hpq
  have hold : ∀ x ∈ before, (fun b => decide (b < W.heap.size)) x.block = true := fun x hx => by simpa using hlt x hx
  have hargs : ∀ sp : Nat → Bool, (∀ x ∈ before, sp x.block = true) → DataW.TrodAll enc P W' 0 sp true f.params.toList args.toList ds before := fun sp hsp =>
    trodAll_below hl _ _ _ _ hr hA (fun x hx => hb.same (hlt x hx)) hsp
  have hvars : ∀ sp : Nat → Bool, DataW.TrodVars enc P W' sp s.vars (s.fn H (ds ++ [])).vars [] := fun sp => by rw [hv, hfn]; rfl
  have hresv : ∀ (b : Nat) (sp : Nat → Bool) (hd : Bool), DataW.TrodAll enc P W' b sp hd f.resultTypes.toList ((Value.bool true).resultList f.resultTypes.size) (s.fn H (ds ++ [])).results [] := by
    intro b sp hd
    rw [hfn, hres]
    exact trodAll_mk1 (shut_bool htb true)
  have hargs' : ∀ sp : Nat → Bool, (∀ x ∈ before, sp x.block = true) → DataW.TrodAll enc P W' 0 sp true f.params.toList args.toList (s.fn H (ds ++ [])).args before := fun sp hsp => by rw [hfn]; exact hargs sp hsp
  refine ⟨ds, [], before, [], before, [], ⟨before, [], hA, hV, by simp, hz, hn⟩, hresv _ _ _, hargs' _ hold, hvars _, World.keptBut_mono (fun x hx => ⟨hx, Or.inr (Or.inl hx)⟩) (hb.frame (· ∈ before)), fun _ => ?_⟩
  refine ⟨?_, _, _, ([] ++ before) ++ [], ⟨[] ++ before, [], trodAll_append (hargs' _ (fun _ _ => rfl)) (hresv _ _ _), hvars _, rfl, ?_, ?_⟩, ?_⟩
  · exact ok_one hres rfl (okWide_bool_mk htb true)
  · intro b off hp
    have hin : MemPlace.cell b off ∈ before := by simpa using hp
    rw [hb.frozen (hlt _ hin)]
    exact hz b off hin
  · intro ha
    have := hn ha
    simpa using this
  · intro x hx _
    simpa using hx

end

theorem list_of {α : Type} {Q : Nat → α → Prop} : ∀ (n : Nat), (∀ i, i < n → ∃ x, Q i x) → ∃ l : List α, l.length = n ∧ ∀ i x, l[i]? = some x → Q i x
  | 0, _ => ⟨[], rfl, fun i x h => by simp at h⟩
  | n + 1, h => by
    obtain ⟨l, hl, hq⟩ := list_of n (fun i hi => h i (by omega))
    obtain ⟨x, hx⟩ := h n (by omega)
    refine ⟨l ++ [x], by simp [hl], fun i y hy => ?_⟩
    rcases Nat.lt_or_ge i n with hi | hi
    · rw [List.getElem?_append_left (by omega)] at hy
      exact hq i y hy
    · have : i = n := by
        have := (List.getElem?_eq_some_iff.1 hy).1
        simp [hl] at this; omega
      subst this
      rw [List.getElem?_append_right (by omega)] at hy
      simp [hl] at hy
      subst hy; exact hx

theorem addr_add (a : Addr) (j : Nat) (ha : a.spot = none) : a.add j = ⟨a.block, a.off + j, none⟩ := by
  obtain ⟨b, o, sp⟩ := a
  simp at ha; subst ha
  unfold Addr.add
  split
  · rename_i h; subst h; rfl
  · rfl
theorem spot_none {w : World} {a : Addr} {v : Value} (h : w.cell? a = some v) : a.spot = none := by
  unfold World.cell? at h
  split at h
  · split at h
    · cases h
    · rename_i h'; simpa using h'
  · cases h

/-- Cells in a row at an address that came in: the slice reads. -/
theorem reads_of {w : World} {size n : Nat} {a : Addr} {xs : List Value} (hl : xs.length = n * size) (hs : 0 < size) (h : ∀ j u, xs[j]? = some u → w.cell? (a.add j) = some u) : Reads w w.heap.size size (some a) n xs := by
  refine ⟨hl, fun hn => ?_⟩
  have h0 : 0 < xs.length := by rw [hl]; exact Nat.mul_pos hn hs
  have hc := h 0 _ (List.getElem?_eq_getElem h0)
  have e0 : a.add 0 = a := by simp [Addr.add]
  rw [e0] at hc
  have hsp := spot_none hc
  refine ⟨a.block, a.off, by obtain ⟨b, o, sp⟩ := a; simp at hsp; subst hsp; rfl, World.block_lt_of_cell? w a hc, fun j u hu => ?_⟩
  rw [← addr_add a j hsp]
  exact h j u hu

section
variable {H : Type} {enc : TypeId × Value → H} {P : Program} {w : World} {base : Nat} {spare : Nat → Bool} {held : Bool}
theorem open_agg1 {r : Reach} {b0 : Nat} {t : TypeId} {f0 : Field} {v : Value} {d : DataW H} {p : List MemPlace} (hs : P.underlying t = some (.struct #[f0])) (hone : oneCellFields P #[f0] = true) (hC : P.cellsOf t = 1)
    (hv : Value.okWide P w r b0 t v) (h : DataW.Trod enc P w base spare held t v d p) :
    ∃ (v0 : Value) (y0 : DataW H × List MemPlace) (n : Nat), v = .agg #[v0] ∧ d = .agg [y0.1] ∧ p = y0.2 ∧ DataW.trod enc P w base spare held n f0.type [v0] = some y0 := by
  obtain ⟨cs, rfl, hsz⟩ := okWide_struct hs hv
  obtain ⟨l⟩ := cs
  match l, hsz.trans hC with
  | [c0], _ =>
    obtain ⟨fuel, hf⟩ := h
    obtain ⟨xs, n, _, hx, _, hlen, hg⟩ := DataW.trod_struct hs hf
    obtain ⟨o0, k0⟩ := hone_of hone 0 f0 rfl
    match xs, hlen with
    | [y0], _ =>
      simp only [Prod.mk.injEq] at hx
      exact ⟨c0, y0, n, rfl, by simpa using hx.1, by simpa using hx.2, by simpa [Value.cells, o0, k0] using hg 0 f0 rfl⟩
end

section
variable {H : Type} {enc : TypeId × Value → H} {P : Program} {w : World} {base : Nat} {spare : Nat → Bool} {held : Bool}
theorem open_slice_fields {t e : TypeId} {fs : Array Field} {fuel : Nat} {cs : List Value} {x : DataW H × List MemPlace} (ht : P.underlying t = some (.slice e)) (he : P.underlying e = some (.struct fs))
    (hone : oneCellFields P fs = true) (hC : P.cellsOf e = fs.size) (h : DataW.trod enc P w base spare held fuel t cs = some x) :
    (cs = [.slice none 0 0] ∧ x = (.nil, [])) ∨
    ∃ (a : Addr) (len cap m : Nat) (D : Nat → DataW H) (Pl : Nat → List MemPlace), cs = [.slice (some a) len cap] ∧ base ≤ a.block ∧ len ≤ cap ∧ cap ≤ maxLen ∧ m = (if spare a.block then cap else len) ∧
      x = (.slice ((List.range len).map D) ((List.range (m - len)).map fun j => D (len + j)), MemPlace.row a (m * fs.size) ++ (List.range m).flatMap Pl) ∧
      ∀ i, i < m → ∃ (ys : List (DataW H × List MemPlace)) (n : Nat), D i = .agg (ys.map (·.1)) ∧ Pl i = ys.flatMap (·.2) ∧ ys.length = fs.size ∧
        ∀ (j : Nat) (f : Field), fs[j]? = some f → ∃ (v : Value) (y : DataW H × List MemPlace), w.cell? (a.add (i * fs.size + j)) = some v ∧ ys[j]? = some y ∧ DataW.trod enc P w base spare held n f.type [v] = some y := by
  rcases open_slice ht h with h0 | ⟨a, len, cap, m, n, D, Pl, hcs, hb, hl, hm, hmm, hx, hi⟩
  · exact .inl h0
  · refine .inr ⟨a, len, cap, m, D, Pl, hcs, hb, hl, hm, hmm, by rw [hC] at hx; exact hx, fun i him => ?_⟩
    obtain ⟨cs', hc, ht'⟩ := hi i him
    rw [hC] at hc
    obtain ⟨ys, n', hn', hy, hlen, hyl, hf⟩ := DataW.trod_struct he ht'
    obtain ⟨_, hcl, hat⟩ := World.cells?_some hc
    simp only [Prod.mk.injEq] at hy
    refine ⟨ys, n', hy.1, hy.2, hyl, fun j f hj => ?_⟩
    obtain ⟨ho, hk⟩ := hone_of hone j f hj
    have hjl : j < fs.size := (Array.getElem?_eq_some_iff.1 hj).1
    have hcell := hat j hjl
    have hv : cs'[j]? = some (cs'[j]'(by omega)) := List.getElem?_eq_getElem (by omega)
    have h1 := hf j f hj
    rw [ho, hk] at h1
    have hone' : (cs'.drop j).take 1 = [cs'[j]'(by omega)] := by
      rw [List.drop_eq_getElem_cons (by omega)]
      rfl
    rw [hone'] at h1
    have hys : ys[j]? = some (ys[j]'(by omega)) := List.getElem?_eq_getElem (by omega)
    refine ⟨_, _, ?_, hys, h1.trans hys⟩
    rw [← Go.Deep.add_add, hcell, hv]
end

end Go.Proofs.Ythjjihipodhkiaa

/-
  Openers for arguments: bytes, lists of bytes. Over any program.
-/
namespace Go.Proofs.Ythjjihipodhkiaa
open Go.RowKit Go.WideShapes Go.ChangeShapes Go.Joins Go.Deep

section
variable {H : Type} {enc : TypeId × Value → H} {P : Program} {w : World} {base : Nat} {spare : Nat → Bool} {held : Bool}
theorem open_bytes {t e : TypeId} {fuel : Nat} {cs : List Value} {x : DataW H × List MemPlace} (ht : P.underlying t = some (.slice e)) (he : P.underlying e = some (.int .u8)) (hC : P.cellsOf e = 1)
    (h : DataW.trod enc P w base spare held fuel t cs = some x) :
    ∃ (A : Option Addr) (c : Nat) (l : List UInt8), cs = [.slice A l.length c] ∧ l.length ≤ c ∧ c ≤ 9223372036854775807 ∧ (A = none → c = 0) ∧ RB w w.heap.size A l.length l := by
  rcases open_slice1 ht hC h with ⟨rfl, _⟩ | ⟨a, len, cap, m, n, V, D, Pl, rfl, _, hl, hm, hmm, _, hi⟩
  · exact ⟨none, 0, [], rfl, by simp, by omega, fun _ => rfl, RB.nil⟩
  · have hlm : len ≤ m := by rw [hmm]; split <;> omega
    obtain ⟨l, hll, hq⟩ := list_of (Q := fun i (b : UInt8) => w.cell? (a.add i) = some (.int .u8 (b.toNat : Int))) len (fun i hi' => by
      obtain ⟨h1, h2⟩ := hi i (by omega)
      obtain ⟨v, e0, _, hw⟩ := DataW.trod_int he h2
      injection e0 with e0 _
      have hw : 0 ≤ v ∧ v ≤ 255 := by
        simp [Lit.wf, IntKind.min, IntKind.max, IntKind.signed, IntKind.bits] at hw
        omega
      refine ⟨UInt8.ofNat v.toNat, ?_⟩
      rw [h1, e0, UInt8.toNat_ofNat', Nat.mod_eq_of_lt (by omega), Int.toNat_of_nonneg hw.1])
    subst hll
    exact ⟨some a, cap, l, rfl, hl, hm, (fun e => nomatch e), reads_of (by simp [u8s_length]) (by decide) fun j u hu => by
      simp only [u8s, List.getElem?_map, Option.map_eq_some_iff] at hu
      obtain ⟨b, hb, rfl⟩ := hu
      exact hq j b hb⟩

theorem open_keys {t t1 e : TypeId} {fuel : Nat} {cs : List Value} {x : DataW H × List MemPlace} (ht : P.underlying t = some (.slice t1)) (ht1 : P.underlying t1 = some (.slice e)) (he : P.underlying e = some (.int .u8)) (hC1 : P.cellsOf t1 = 1) (hC : P.cellsOf e = 1)
    (h : DataW.trod enc P w base spare held fuel t cs = some x) :
    ∃ (A : Option Addr) (c : Nat) (ks : List (List UInt8)), cs = [.slice A ks.length c] ∧ ks.length ≤ c ∧ c ≤ 9223372036854775807 ∧ (A = none → c = 0) ∧ RBs w w.heap.size A ks.length ks := by
  rcases open_slice1 ht hC1 h with ⟨rfl, _⟩ | ⟨a, len, cap, m, n, V, D, Pl, rfl, _, hl, hm, hmm, _, hi⟩
  · exact ⟨none, 0, [], rfl, by simp, by omega, fun _ => rfl, KV.nil.rbs Reads.nil⟩
  · have hlm : len ≤ m := by rw [hmm]; split <;> omega
    obtain ⟨ps, hpl, hq⟩ := list_of (Q := fun i (p : Value × List UInt8) => w.cell? (a.add i) = some p.1 ∧ ∃ (A : Option Addr) (c : Nat), p.1 = .slice A p.2.length c ∧ p.2.length ≤ c ∧ c ≤ 9223372036854775807 ∧ (A = none → c = 0) ∧ RB w w.heap.size A p.2.length p.2) len (fun i hi' => by
      obtain ⟨h1, h2⟩ := hi i (by omega)
      obtain ⟨A, c, l, e0, q1, q2, q3, q4⟩ := open_bytes ht1 he hC h2
      injection e0 with e0 _
      exact ⟨(V i, l), h1, A, c, e0, q1, q2, q3, q4⟩)
    subst hpl
    refine ⟨some a, cap, ps.map (·.2), by simp, by simpa using hl, hm, (fun e => nomatch e), ?_⟩
    have hk : KV w w.heap.size (ps.map (·.1)) (ps.map (·.2)) := by
      refine ⟨by simp, fun i k hk => ?_⟩
      rw [List.getElem?_map, Option.map_eq_some_iff] at hk
      obtain ⟨p, hp, rfl⟩ := hk
      obtain ⟨_, A, c, e1, q⟩ := hq i p hp
      exact ⟨A, c, by rw [List.getElem?_map, hp, Option.map_some, e1], q⟩
    refine hk.rbs (reads_of (by simp) (by decide) fun j u hu => ?_)
    rw [List.getElem?_map, Option.map_eq_some_iff] at hu
    obtain ⟨p, hp, rfl⟩ := hu
    exact (hq j p hp).1
/-- The same, an argument's value. -/
theorem open_slice_top {r : Reach} {b0 : Nat} {t e : TypeId} {v : Value} {d : DataW H} {ps : List MemPlace} (ht : P.underlying t = some (.slice e)) (hval : Value.okWide P w r b0 t v) (h : DataW.Trod enc P w base spare held t v d ps) :
    ∃ fuel, DataW.trod enc P w base spare held fuel t [v] = some (d, ps) := by
  obtain ⟨a, n, c, rfl⟩ := okWide_slice ht hval
  obtain ⟨fuel, hf⟩ := h
  exact ⟨fuel, hf⟩
theorem open_bytes_top {r : Reach} {b0 : Nat} {t e : TypeId} {v : Value} {d : DataW H} {ps : List MemPlace} (ht : P.underlying t = some (.slice e)) (he : P.underlying e = some (.int .u8)) (hC : P.cellsOf e = 1)
    (hval : Value.okWide P w r b0 t v) (h : DataW.Trod enc P w base spare held t v d ps) :
    ∃ (A : Option Addr) (c : Nat) (l : List UInt8), v = .slice A l.length c ∧ l.length ≤ c ∧ c ≤ 9223372036854775807 ∧ (A = none → c = 0) ∧ RB w w.heap.size A l.length l := by
  obtain ⟨fuel, hf⟩ := open_slice_top ht hval h
  obtain ⟨A, c, l, h1, h2⟩ := open_bytes ht he hC hf
  injection h1 with h1
  exact ⟨A, c, l, h1, h2⟩
theorem open_keys_top {r : Reach} {b0 : Nat} {t t1 e : TypeId} {v : Value} {d : DataW H} {ps : List MemPlace} (ht : P.underlying t = some (.slice t1)) (ht1 : P.underlying t1 = some (.slice e)) (he : P.underlying e = some (.int .u8)) (hC1 : P.cellsOf t1 = 1) (hC : P.cellsOf e = 1)
    (hval : Value.okWide P w r b0 t v) (h : DataW.Trod enc P w base spare held t v d ps) :
    ∃ (A : Option Addr) (c : Nat) (ks : List (List UInt8)), v = .slice A ks.length c ∧ ks.length ≤ c ∧ c ≤ 9223372036854775807 ∧ (A = none → c = 0) ∧ RBs w w.heap.size A ks.length ks := by
  obtain ⟨fuel, hf⟩ := open_slice_top ht hval h
  obtain ⟨A, c, ks, h1, h2⟩ := open_keys ht ht1 he hC1 hC hf
  injection h1 with h1
  exact ⟨A, c, ks, h1, h2⟩
end

end Go.Proofs.Ythjjihipodhkiaa

/-
  What the bound on the arguments gives: lengths of bytes and of lists of bytes.
-/
namespace Go.Proofs.Ythjjihipodhkiaa
open Go.RowKit Go.WideShapes Go.ChangeShapes Go.Joins Go.Deep

theorem bulk_one {H : Type} (d : DataW H) : 1 ≤ Rows.uptoBulk d := by
  cases d with
  | lit l => cases l <;> simp [Rows.uptoBulk]
  | nil => simp [Rows.uptoBulk]
  | ptr d => simp [Rows.uptoBulk]
  | slice elems spare => simp [Rows.uptoBulk]
  | agg parts => simp [Rows.uptoBulk]
  | iface t d => simp [Rows.uptoBulk]
  | map entries => simp [Rows.uptoBulk]
  | held h => simp [Rows.uptoBulk]
theorem bulk_app {H : Type} (l r : List (DataW H)) : Rows.uptoBulkAll (l ++ r) = Rows.uptoBulkAll l + Rows.uptoBulkAll r := by
  induction l with
  | nil => simp [Rows.uptoBulkAll]
  | cons x l ih => simp only [List.cons_append, Rows.uptoBulkAll, ih]; omega
theorem bulk_len {H : Type} (l : List (DataW H)) : l.length ≤ Rows.uptoBulkAll l := by
  induction l with
  | nil => simp [Rows.uptoBulkAll]
  | cons x r ih => have := bulk_one x; simp only [Rows.uptoBulkAll, List.length_cons]; omega
theorem bulk_range {H : Type} (D : Nat → DataW H) (g : Nat → Nat) (n : Nat) (h : ∀ i, i < n → g i ≤ Rows.uptoBulk (D i)) : ((List.range n).map g).sum ≤ Rows.uptoBulkAll ((List.range n).map D) := by
  induction n with
  | zero => simp
  | succ n ih =>
    have h1 := ih fun i hi => h i (by omega)
    have h2 := h n (by omega)
    rw [List.range_succ, List.map_append, List.map_append, List.sum_append, bulk_app]
    simp only [List.map_cons, List.map_nil, List.sum_cons, List.sum_nil, Rows.uptoBulkAll]
    omega

section
variable {H : Type} {enc : TypeId × Value → H} {P : Program} {w : World} {base : Nat} {held : Bool}
theorem upto_bytes {t e : TypeId} {fuel : Nat} {cs : List Value} {x : DataW H × List MemPlace} (ht : P.underlying t = some (.slice e)) (he : P.underlying e = some (.int .u8)) (hC : P.cellsOf e = 1)
    (h : DataW.trod enc P w base (fun _ => true) held fuel t cs = some x) :
    ∃ (A : Option Addr) (c : Nat) (l : List UInt8), cs = [.slice A l.length c] ∧ Sl w A l.length c l ∧ c + 1 ≤ Rows.uptoBulk x.1 := by
  obtain ⟨A, c, l, h1, h2, h3, h4, h5⟩ := open_bytes ht he hC h
  refine ⟨A, c, l, h1, ⟨h5, h2, h3, h4⟩, ?_⟩
  rcases open_slice1 ht hC h with ⟨rfl, rfl⟩ | ⟨a, len, cap, m, n, V, D, Pl, rfl, _, hl, hm, hmm, hx, hi⟩
  · injection h1 with h1
    injection h1 with _ _ h1
    subst h1
    simp [Rows.uptoBulk]
  · injection h1 with h1
    injection h1 with _ _ h1
    subst h1
    rw [if_pos rfl] at hmm
    subst hmm
    rw [hx]
    simp only [Rows.uptoBulk]
    have e1 := bulk_len (H := H) ((List.range len).map D)
    have e2 := bulk_len (H := H) ((List.range (m - len)).map fun j => D (len + j))
    simp only [List.length_map, List.length_range] at e1 e2
    omega

theorem flat_sum {α : Type} (ks : List (List α)) : ks.flatten.length + ks.length = ((List.range ks.length).map fun i => (ks[i]?.getD []).length + 1).sum := by
  induction ks with
  | nil => rfl
  | cons k ks ih =>
    rw [List.length_cons, List.range_succ_eq_map, List.map_cons, List.sum_cons, List.map_map]
    have : ((fun i => ((k :: ks)[i]?.getD []).length + 1) ∘ Nat.succ) = fun i => (ks[i]?.getD []).length + 1 := by
      funext i; simp
    rw [this, ← ih, List.flatten_cons, List.length_append]
    simp only [List.getElem?_cons_zero, Option.getD_some]
    omega

theorem upto_keys {t t1 e : TypeId} {fuel : Nat} {cs : List Value} {x : DataW H × List MemPlace} (ht : P.underlying t = some (.slice t1)) (ht1 : P.underlying t1 = some (.slice e)) (he : P.underlying e = some (.int .u8)) (hC1 : P.cellsOf t1 = 1) (hC : P.cellsOf e = 1)
    (h : DataW.trod enc P w base (fun _ => true) held fuel t cs = some x) :
    ∃ (A : Option Addr) (c : Nat) (ks : List (List UInt8)), cs = [.slice A ks.length c] ∧ ks.length ≤ c ∧ c ≤ 9223372036854775807 ∧ (A = none → c = 0) ∧ RBs w w.heap.size A ks.length ks ∧ ks.flatten.length + c + 1 ≤ Rows.uptoBulk x.1 := by
  rcases open_slice1 ht hC1 h with ⟨rfl, rfl⟩ | ⟨a, len, cap, m, n, V, D, Pl, rfl, _, hl, hm, hmm, hx, hi⟩
  · exact ⟨none, 0, [], rfl, by simp, by omega, fun _ => rfl, KV.nil.rbs Reads.nil, by simp [Rows.uptoBulk]⟩
  · rw [if_pos rfl] at hmm
    subst hmm
    obtain ⟨ps, hpl, hq⟩ := list_of (Q := fun i (p : Value × List UInt8) => w.cell? (a.add i) = some p.1 ∧ (∃ (A : Option Addr) (c : Nat), p.1 = .slice A p.2.length c ∧ p.2.length ≤ c ∧ c ≤ 9223372036854775807 ∧ (A = none → c = 0) ∧ RB w w.heap.size A p.2.length p.2) ∧ p.2.length + 1 ≤ Rows.uptoBulk (D i)) len (fun i hi' => by
      obtain ⟨h1, h2⟩ := hi i (by omega)
      obtain ⟨A, c, l, e0, q1, q2⟩ := upto_bytes ht1 he hC h2
      injection e0 with e0 _
      exact ⟨(V i, l), h1, ⟨A, c, e0, q1.cap, q1.lim, q1.nil, q1.rb⟩, by have h9 := q1.cap; have h8 : c + 1 ≤ Rows.uptoBulk (D i) := q2; exact Nat.le_trans (Nat.add_le_add_right h9 1) h8⟩)
    subst hpl
    have hk : KV w w.heap.size (ps.map (·.1)) (ps.map (·.2)) := by
      refine ⟨by simp, fun i k hk => ?_⟩
      rw [List.getElem?_map, Option.map_eq_some_iff] at hk
      obtain ⟨p, hp, rfl⟩ := hk
      obtain ⟨_, ⟨A, c, e1, q⟩, _⟩ := hq i p hp
      exact ⟨A, c, by rw [List.getElem?_map, hp, Option.map_some, e1], q⟩
    refine ⟨some a, m, ps.map (·.2), by simp, by simpa using hl, hm, (fun e => nomatch e), hk.rbs (reads_of (by simp) (by decide) fun j u hu => ?_), ?_⟩
    · rw [List.getElem?_map, Option.map_eq_some_iff] at hu
      obtain ⟨p, hp, rfl⟩ := hu
      exact (hq j p hp).1
    · rw [hx]
      simp only [Rows.uptoBulk]
      have e1 := bulk_range D (fun i => ((ps.map (·.2))[i]?.getD []).length + 1) ps.length fun i hi' => by
        have hp : ps[i]? = some ps[i] := List.getElem?_eq_getElem hi'
        have := (hq i _ hp).2.2
        rw [List.getElem?_map, hp]
        exact this
      have e2 := bulk_len (H := H) ((List.range (m - ps.length)).map fun j => D (ps.length + j))
      simp only [List.length_map, List.length_range] at e2
      have e3 := flat_sum (ps.map (·.2))
      rw [List.length_map] at e3
      omega

theorem upto_bytes_top {r : Reach} {b0 : Nat} {t e : TypeId} {v : Value} {d : DataW H} {ps : List MemPlace} (ht : P.underlying t = some (.slice e)) (he : P.underlying e = some (.int .u8)) (hC : P.cellsOf e = 1)
    (hval : Value.okWide P w r b0 t v) (h : DataW.Trod enc P w base (fun _ => true) held t v d ps) :
    ∃ (A : Option Addr) (c : Nat) (l : List UInt8), v = .slice A l.length c ∧ Sl w A l.length c l ∧ c + 1 ≤ Rows.uptoBulk d := by
  obtain ⟨fuel, hf⟩ := open_slice_top ht hval h
  obtain ⟨A, c, l, h1, h2⟩ := upto_bytes ht he hC hf
  injection h1 with h1
  exact ⟨A, c, l, h1, h2⟩
theorem upto_keys_top {r : Reach} {b0 : Nat} {t t1 e : TypeId} {v : Value} {d : DataW H} {ps : List MemPlace} (ht : P.underlying t = some (.slice t1)) (ht1 : P.underlying t1 = some (.slice e)) (he : P.underlying e = some (.int .u8)) (hC1 : P.cellsOf t1 = 1) (hC : P.cellsOf e = 1)
    (hval : Value.okWide P w r b0 t v) (h : DataW.Trod enc P w base (fun _ => true) held t v d ps) :
    ∃ (A : Option Addr) (c : Nat) (ks : List (List UInt8)), v = .slice A ks.length c ∧ ks.length ≤ c ∧ c ≤ 9223372036854775807 ∧ (A = none → c = 0) ∧ RBs w w.heap.size A ks.length ks ∧ ks.flatten.length + c + 1 ≤ Rows.uptoBulk d := by
  obtain ⟨fuel, hf⟩ := open_slice_top ht hval h
  obtain ⟨A, c, ks, h1, h2⟩ := upto_keys ht ht1 he hC1 hC hf
  injection h1 with h1
  exact ⟨A, c, ks, h1, h2⟩
end
end Go.Proofs.Ythjjihipodhkiaa

/-
  A slice of structs that came in, each field of one cell: its cells, what each field reads as, and the bound on it.
-/
namespace Go.Proofs.Ythjjihipodhkiaa
open Go.RowKit Go.WideShapes Go.ChangeShapes Go.Joins Go.Deep

theorem bulk_mem {H : Type} {d : DataW H} {l : List (DataW H)} (h : d ∈ l) : Rows.uptoBulk d ≤ Rows.uptoBulkAll l := by
  induction l with
  | nil => cases h
  | cons x l ih =>
    simp only [Rows.uptoBulkAll]
    rcases List.mem_cons.1 h with rfl | h
    · omega
    · have := ih h; omega

section
variable {H : Type} {enc : TypeId × Value → H} {P : Program} {w : World} {base : Nat} {held : Bool}
theorem upto_structs {t e : TypeId} {fs : Array Field} {fuel : Nat} {cs : List Value} {x : DataW H × List MemPlace} (ht : P.underlying t = some (.slice e)) (he : P.underlying e = some (.struct fs))
    (hone : oneCellFields P fs = true) (hC : P.cellsOf e = fs.size) (h : DataW.trod enc P w base (fun _ => true) held fuel t cs = some x) :
    cs = [.slice none 0 0] ∨
    ∃ (a : Addr) (len cap : Nat), cs = [.slice (some a) len cap] ∧ len ≤ cap ∧ cap ≤ maxLen ∧ cap + 1 ≤ Rows.uptoBulk x.1 ∧
      ∀ i, i < len → ∀ (j : Nat) (f : Field), fs[j]? = some f → ∃ (v : Value) (y : DataW H × List MemPlace) (n : Nat), w.cell? (a.add (i * fs.size + j)) = some v ∧ DataW.trod enc P w base (fun _ => true) held n f.type [v] = some y ∧ Rows.uptoBulk y.1 + 1 ≤ Rows.uptoBulk x.1 := by
  rcases open_slice_fields ht he hone hC h with ⟨h0, _⟩ | ⟨a, len, cap, m, D, Pl, hcs, hb, hl, hm, hmm, hx, hi⟩
  · exact .inl h0
  · rw [if_pos rfl] at hmm
    subst hmm
    refine .inr ⟨a, len, m, hcs, hl, hm, ?_, fun i him j f hf => ?_⟩
    · rw [hx]
      simp only [Rows.uptoBulk]
      have e1 := bulk_len (H := H) ((List.range len).map D)
      have e2 := bulk_len (H := H) ((List.range (m - len)).map fun j => D (len + j))
      simp only [List.length_map, List.length_range] at e1 e2
      omega
    · obtain ⟨ys, n, hD, _, hyl, hq⟩ := hi i (by omega)
      obtain ⟨v, y, hc, hy, ht'⟩ := hq j f hf
      refine ⟨v, y, n, hc, ht', ?_⟩
      have h1 : Rows.uptoBulk y.1 ≤ Rows.uptoBulkAll (ys.map (·.1)) := bulk_mem (List.mem_map.2 ⟨y, List.mem_of_getElem? hy, rfl⟩)
      have h2 : Rows.uptoBulk (D i) ≤ Rows.uptoBulkAll ((List.range len).map D) := bulk_mem (List.mem_map.2 ⟨i, List.mem_range.2 him, rfl⟩)
      rw [hD] at h2
      rw [hx]
      simp only [Rows.uptoBulk] at h2 ⊢
      omega
theorem field_int {k : IntKind} {t : TypeId} {v : Value} {y : DataW H × List MemPlace} {n : Nat} {sp : Nat → Bool} (ht : P.underlying t = some (.int k)) (h : DataW.trod enc P w base sp held n t [v] = some y) : ∃ z : Int, v = .int k z ∧ (Lit.int k z).wf = true := by
  obtain ⟨z, e0, _, hw⟩ := DataW.trod_int ht h
  injection e0 with e0 _
  exact ⟨z, e0, hw⟩
theorem field_bytes {t e : TypeId} {v : Value} {y : DataW H × List MemPlace} {n : Nat} (ht : P.underlying t = some (.slice e)) (he : P.underlying e = some (.int .u8)) (hC : P.cellsOf e = 1) (h : DataW.trod enc P w base (fun _ => true) held n t [v] = some y) :
    ∃ (A : Option Addr) (m c : Nat) (l : List UInt8), v = .slice A m c ∧ Sl w A m c l ∧ c + 1 ≤ Rows.uptoBulk y.1 := by
  obtain ⟨A, c, l, e0, h1, h2⟩ := upto_bytes ht he hC h
  injection e0 with e0 _
  exact ⟨A, _, c, l, e0, h1, h2⟩
theorem field_keys {t t1 e : TypeId} {v : Value} {y : DataW H × List MemPlace} {n : Nat} (ht : P.underlying t = some (.slice t1)) (ht1 : P.underlying t1 = some (.slice e)) (he : P.underlying e = some (.int .u8)) (hC1 : P.cellsOf t1 = 1) (hC : P.cellsOf e = 1) (h : DataW.trod enc P w base (fun _ => true) held n t [v] = some y) :
    ∃ (A : Option Addr) (m c : Nat) (ks : List (List UInt8)), v = .slice A m c ∧ m ≤ c ∧ c ≤ 9223372036854775807 ∧ (A = none → c = 0) ∧ RBs w w.heap.size A m ks ∧ ks.flatten.length + c + 1 ≤ Rows.uptoBulk y.1 := by
  obtain ⟨A, c, ks, e0, h1, h2, h3, h4, h5⟩ := upto_keys ht ht1 he hC1 hC h
  injection e0 with e0 _
  exact ⟨A, _, c, ks, e0, h1, h2, h3, h4, h5⟩
end
end Go.Proofs.Ythjjihipodhkiaa

/-
  A script of calls that came in, within the bound.
-/
namespace Go.Proofs.Ythjjihipodhkiaa
open Go.RowKit Go.WideShapes Go.ChangeShapes Go.Joins Go.Deep

section
variable {H : Type} {enc : TypeId × Value → H} {w : World} {base : Nat} {held : Bool}
theorem upto_asks {fuel : Nat} {cs : List Value} {x : DataW H × List MemPlace} (h : DataW.trod enc Try.prog w base (fun _ => true) held fuel 38 cs = some x) (hb : Rows.uptoBulk x.1 ≤ 1048576) :
    ∃ (A : Option Addr) (n c : Nat), cs = [.slice A n c] ∧ n ≤ c ∧ c ≤ 1048576 ∧ Asks w A n := by
  rcases upto_structs Try.underlying38 Try.underlying45 (by kernel_rfl) (by kernel_rfl) h with rfl | ⟨a, len, cap, rfl, hl, hm, hc, hi⟩
  · exact ⟨none, 0, 0, rfl, by omega, by omega, fun h => absurd h (by omega)⟩
  · refine ⟨some a, len, cap, rfl, hl, by omega, fun hn => ?_⟩
    obtain ⟨v, y, n, c0, _⟩ := hi 0 hn 0 _ rfl
    have c0' : w.cell? (a.add 0) = some v := c0
    rw [show a.add 0 = a from by simp [Addr.add]] at c0'
    have hsp := spot_none c0'
    have hb0 := World.block_lt_of_cell? w a c0'
    refine ⟨a.block, a.off, by obtain ⟨b, o, sp⟩ := a; simp at hsp; subst hsp; rfl, hb0, fun i him => ?_⟩
    obtain ⟨v0, y0, n0, c0, t0, _⟩ := hi i him 0 _ rfl
    obtain ⟨v1, y1, n1, c1, t1, _⟩ := hi i him 1 _ rfl
    obtain ⟨v2, y2, n2, c2, t2, u2⟩ := hi i him 2 _ rfl
    obtain ⟨v3, y3, n3, c3, t3, u3⟩ := hi i him 3 _ rfl
    obtain ⟨v4, y4, n4, c4, t4, u4⟩ := hi i him 4 _ rfl
    obtain ⟨K, rfl, _⟩ := field_int Try.underlying3 t0
    obtain ⟨N, rfl, _⟩ := field_int Try.underlying3 t1
    obtain ⟨KA, kn, kc, ks, rfl, hp1, _, _, hp2, hpb⟩ := field_keys Try.underlying22 Try.underlying24 Try.underlying5 (by kernel_rfl) (by kernel_rfl) t2
    obtain ⟨FA, fn, fc, f, rfl, hs, hsb⟩ := field_bytes Try.underlying24 Try.underlying5 (by kernel_rfl) t3
    obtain ⟨GA, gn, gc, g, rfl, hg, hgb⟩ := field_bytes Try.underlying24 Try.underlying5 (by kernel_rfl) t4
    rw [addr_add _ _ hsp] at c0 c1 c2 c3 c4
    have hcap := hs.cap
    have hcap2 := hg.cap
    exact ⟨K, N, f, g, ks, FA, GA, KA, fn, fc, gn, gc, kn, kc, c0, c1, c2, c3, c4, hs, hg, hp2, by omega, by omega, by omega, by omega⟩
theorem upto_asks_top {r : Reach} {b0 : Nat} {v : Value} {d : DataW H} {ps : List MemPlace} (hval : Value.okWide Try.prog w r b0 38 v) (h : DataW.Trod enc Try.prog w base (fun _ => true) held 38 v d ps) (hb : Rows.uptoBulk d ≤ 1048576) :
    ∃ (A : Option Addr) (n c : Nat), v = .slice A n c ∧ n ≤ 1048576 ∧ Asks w A n := by
  obtain ⟨fuel, hf⟩ := open_slice_top Try.underlying38 hval h
  obtain ⟨A, n, c, h1, h2, h3, h4⟩ := upto_asks hf hb
  injection h1 with h1
  exact ⟨A, n, c, h1, by omega, h4⟩
end
end Go.Proofs.Ythjjihipodhkiaa

/-
  One call (a struct of two numbers, a list of keys, two filters) and the turns ([][3]int), opened within the bound.
-/
namespace Go.Proofs.Ythjjihipodhkiaa
open Go.RowKit Go.WideShapes Go.ChangeShapes Go.Joins Go.Deep

theorem i64_fits {n : Int} (h : (Lit.int .i64 n).wf = true) : -9223372036854775808 ≤ n ∧ n < 9223372036854775808 := by
  simp [Lit.wf, IntKind.min, IntKind.max, IntKind.signed, IntKind.bits] at h
  omega
section
variable {H : Type} {enc : TypeId × Value → H} {w : World} {base : Nat} {held : Bool}
set_option maxRecDepth 100000 in
theorem upto_ask_top {r : Reach} {b0 : Nat} {v : Value} {d : DataW H} {ps : List MemPlace} (hval : Value.okWide Try.prog w r b0 45 v) (h : DataW.Trod enc Try.prog w base (fun _ => true) held 45 v d ps) (hb : Rows.uptoBulk d ≤ 1048576) :
    ∃ (K N : Int) (KA A G : Option Addr) (kn kc n c m z : Nat) (ks : List (List UInt8)) (f g : List UInt8), v = .agg #[.int .i64 K, .int .i64 N, .slice KA kn kc, .slice A n c, .slice G m z] ∧ RBs w w.heap.size KA kn ks ∧ kn ≤ 1048576 ∧ ks.flatten.length ≤ 1048576 ∧ Sl w A n c f ∧ n ≤ 1048576 ∧ Sl w G m z g ∧ m ≤ 1048576 := by
  obtain ⟨cs, rfl, hsz⟩ := okWide_struct Try.underlying45 hval
  obtain ⟨fuel, hf⟩ := h
  have hC : Try.prog.cellsOf 45 = 5 := by kernel_rfl
  have hB : Try.prog.cellsOf 24 = 1 := by kernel_rfl
  have hI : Try.prog.cellsOf 3 = 1 := by kernel_rfl
  have hK : Try.prog.cellsOf 22 = 1 := by kernel_rfl
  have hU : Try.prog.cellsOf 5 = 1 := by kernel_rfl
  rw [hC] at hsz
  obtain ⟨l⟩ := cs
  match l, hsz with
  | [v0, v1, v2, v3, v4], _ =>
    obtain ⟨xs, k, rfl, hx, _, hlen, hi⟩ := DataW.trod_struct Try.underlying45 hf
    match xs, hlen with
    | [x0, x1, x2, x3, x4], _ =>
      have t0 : DataW.trod enc Try.prog w base (fun _ => true) held k 3 (([v0, v1, v2, v3, v4].drop 0).take (Try.prog.cellsOf 3)) = some x0 := hi 0 _ rfl
      have t1 : DataW.trod enc Try.prog w base (fun _ => true) held k 3 (([v0, v1, v2, v3, v4].drop 1).take (Try.prog.cellsOf 3)) = some x1 := hi 1 _ rfl
      have t2 : DataW.trod enc Try.prog w base (fun _ => true) held k 22 (([v0, v1, v2, v3, v4].drop 2).take (Try.prog.cellsOf 22)) = some x2 := hi 2 _ rfl
      have t3 : DataW.trod enc Try.prog w base (fun _ => true) held k 24 (([v0, v1, v2, v3, v4].drop 3).take (Try.prog.cellsOf 24)) = some x3 := hi 3 _ rfl
      have t4 : DataW.trod enc Try.prog w base (fun _ => true) held k 24 (([v0, v1, v2, v3, v4].drop 4).take (Try.prog.cellsOf 24)) = some x4 := hi 4 _ rfl
      rw [hB] at t3 t4
      rw [hI] at t0 t1
      rw [hK] at t2
      injection hx with hx _
      subst hx
      simp only [Rows.uptoBulk, List.map_cons, List.map_nil, Rows.uptoBulkAll] at hb
      obtain ⟨K, e0, _⟩ := field_int Try.underlying3 t0
      obtain ⟨N, e1, _⟩ := field_int Try.underlying3 t1
      obtain ⟨KA, kn, kc, ks, e2, hp1, _, _, hp2, hpb⟩ := field_keys Try.underlying22 Try.underlying24 Try.underlying5 hB hU t2
      obtain ⟨FA, fn, fc, f, e3, hs, hsb⟩ := field_bytes Try.underlying24 Try.underlying5 hU t3
      obtain ⟨GA, gn, gc, g, e4, hg, hgb⟩ := field_bytes Try.underlying24 Try.underlying5 hU t4
      have hcap := hs.cap
      have hcap2 := hg.cap
      have e0 : v0 = _ := e0
      have e1 : v1 = _ := e1
      have e2 : v2 = _ := e2
      have e3 : v3 = _ := e3
      have e4 : v4 = _ := e4
      subst e0 e1 e2 e3 e4
      exact ⟨K, N, KA, FA, GA, kn, kc, fn, fc, gn, gc, ks, f, g, rfl, hp2, by omega, by omega, hs, by omega, hg, by omega⟩
theorem upto_turns3_top {r : Reach} {b0 : Nat} {v : Value} {d : DataW H} {ps : List MemPlace} (hval : Value.okWide Try.prog w r b0 46 v) (h : DataW.Trod enc Try.prog w base (fun _ => true) held 46 v d ps) :
    ∃ (A : Option Addr) (n c : Nat), v = .slice A n c ∧ n ≤ 9223372036854775807 ∧ (0 < n → ∃ b o, A = some ⟨b, o, none⟩ ∧ b < w.heap.size ∧ ∀ i, i < n → ∃ t0 t1 t2 : Int, (-9223372036854775808 ≤ t1 ∧ t1 < 9223372036854775808) ∧ (-9223372036854775808 ≤ t2 ∧ t2 < 9223372036854775808) ∧
      w.cell? ⟨b, o + i * 3, none⟩ = some (.int .i64 t0) ∧ w.cell? ⟨b, o + i * 3 + 1, none⟩ = some (.int .i64 t1) ∧ w.cell? ⟨b, o + i * 3 + 2, none⟩ = some (.int .i64 t2)) := by
  obtain ⟨fuel, hf⟩ := open_slice_top Try.underlying46 hval h
  have hC : Try.prog.cellsOf 52 = 3 := by kernel_rfl
  have hI : Try.prog.cellsOf 3 = 1 := by kernel_rfl
  rcases open_slice Try.underlying46 hf with ⟨h1, _⟩ | ⟨a, len, cap, m, n, D, Pl, h1, _, hl, hm, hmm, _, hi⟩
  · injection h1 with h1
    exact ⟨none, 0, 0, h1, Nat.zero_le _, fun h => absurd h (by omega)⟩
  · injection h1 with h1
    rw [if_pos rfl] at hmm
    subst hmm
    refine ⟨some a, len, m, h1, by unfold maxLen at hm; omega, fun hn => ?_⟩
    have key : ∀ i, i < len → ∃ t0 t1 t2 : Int, (-9223372036854775808 ≤ t1 ∧ t1 < 9223372036854775808) ∧ (-9223372036854775808 ≤ t2 ∧ t2 < 9223372036854775808) ∧ w.cell? (a.add (i * 3 + 0)) = some (.int .i64 t0) ∧ w.cell? (a.add (i * 3 + 1)) = some (.int .i64 t1) ∧ w.cell? (a.add (i * 3 + 2)) = some (.int .i64 t2) := fun i hil => by
      obtain ⟨cs', hc, ht'⟩ := hi i (by omega)
      rw [hC] at hc
      obtain ⟨_, hcl, hat⟩ := World.cells?_some hc
      match cs', hcl with
      | [c0, c1, c2], _ =>
        obtain ⟨y0, y1, y2, n', _, u0, u1, u2⟩ := trod_array3 Try.underlying52 hI ht'
        obtain ⟨t0, rfl, w0⟩ := field_int Try.underlying3 u0
        obtain ⟨t1, rfl, w1⟩ := field_int Try.underlying3 u1
        obtain ⟨t2, rfl, w2⟩ := field_int Try.underlying3 u2
        refine ⟨t0, t1, t2, i64_fits w1, i64_fits w2, ?_, ?_, ?_⟩
        · rw [← Go.Deep.add_add, hat 0 (by omega)]; rfl
        · rw [← Go.Deep.add_add, hat 1 (by omega)]; rfl
        · rw [← Go.Deep.add_add, hat 2 (by omega)]; rfl
    obtain ⟨_, _, _, _, _, c0', _, _⟩ := key 0 hn
    rw [show a.add (0 * 3 + 0) = a from by simp [Addr.add]] at c0'
    have hsp := spot_none c0'
    have hb0 := World.block_lt_of_cell? w a c0'
    obtain ⟨b, o, sp⟩ := a
    simp at hsp
    subst hsp
    refine ⟨b, o, rfl, hb0, fun i him => ?_⟩
    obtain ⟨t0, t1, t2, w1, w2, c0, c1, c2⟩ := key i him
    rw [Addr.add_mid] at c0 c1 c2
    exact ⟨t0, t1, t2, w1, w2, c0, c1, c2⟩
end
end Go.Proofs.Ythjjihipodhkiaa
