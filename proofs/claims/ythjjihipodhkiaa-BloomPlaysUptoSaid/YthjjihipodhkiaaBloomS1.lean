/-
  BloomSets, walked.
-/
import Derived.Test.YthjjihipodhkiaaBloomW9
import Derived.Test.YthjjihipodhkiaaBloomP6
import Derived.Deep.RegionHeld3
import Derived.BigQuiet
namespace Go.Proofs.Ythjjihipodhkiaa
open Go.RowKit

theorem build_ok {bits : Int} {ks : List (List UInt8)} {w w' : World} {e : Ending} (h0 : buildE bits ks = 0) (h : BuildPost bits ks w e w') :
    ∃ g, e = .returned (.tuple #[.slice (some ⟨g, 0, none⟩) (buildB bits ks).length (buildB bits ks).length, .int .i64 0]) ∧ w'.ownsRow w.heap.size 5 1 (.slice (some ⟨g, 0, none⟩) (buildB bits ks).length (buildB bits ks).length) (buildB bits ks).length (u8s (buildB bits ks)) ∧ Below w.heap.size w w' := by
  rcases h with ⟨_, h⟩ | ⟨h, _⟩
  · exact h
  · exact absurd h0 h
theorem build_no {bits : Int} {ks : List (List UInt8)} {w w' : World} {e : Ending} (h0 : buildE bits ks ≠ 0) (h : BuildPost bits ks w e w') :
    e = .returned (.tuple #[.slice none 0 0, .int .i64 (buildE bits ks)]) ∧ Below w.heap.size w w' := by
  rcases h with ⟨h, _⟩ | ⟨_, h⟩
  · exact absurd h h0
  · exact h

/-- The keys turned round and doubled, j of them. -/
def dblTo (ks : List (List UInt8)) (j : Nat) : List (List UInt8) := (ks.reverse.take j).flatMap fun k => [k, k]
theorem dblTo_succ (ks : List (List UInt8)) (j q : Nat) (x : List UInt8) (hj : q + 1 + j = ks.length) (hx : ks[q]? = some x) : dblTo ks (j + 1) = dblTo ks j ++ [x, x] := by
  unfold dblTo
  have : ks.reverse[j]? = some x := by
    rw [List.getElem?_reverse (by omega), show ks.length - 1 - j = q from by omega]; exact hx
  rw [take_snoc this, List.flatMap_append]; simp
theorem dblTo_mem (ks : List (List UInt8)) (x : List UInt8) : x ∈ ks ↔ x ∈ dblTo ks ks.length := by
  unfold dblTo
  rw [take_all (by simp)]
  simp

theorem spot_val (i : Int) (j : Nat) (hj : 0 < j) : ∃ J : Nat, J < j ∧ (0 ≤ i.tmod (j : Int) → i.tmod (j : Int) = (J : Int)) ∧ (i.tmod (j : Int) < 0 → i.tmod (j : Int) + (j : Int) = (J : Int)) := by
  have h1 := Int.tmod_lt_of_pos i (b := (j : Int)) (by omega)
  have h2 : -(j : Int) < i.tmod (j : Int) := Int.lt_tmod_of_pos i (by omega)
  rcases Int.lt_or_le (i.tmod (j : Int)) 0 with h | h
  · exact ⟨(i.tmod (j : Int) + j).toNat, by omega, fun _ => by omega, fun _ => by omega⟩
  · exact ⟨(i.tmod (j : Int)).toNat, by omega, fun _ => by omega, fun _ => by omega⟩

theorem grown_drewN (w : World) (n : Nat) : w.grownBy (w.drewN n) none := ⟨rfl, rfl, rfl, Nat.le_refl _, fun _ _ _ => rfl⟩
def bits_and (x y : UInt8) : Int := bits .and .u8 (x.toNat : Int) (y.toNat : Int)

set_option maxRecDepth 100000 in
set_option maxHeartbeats 8000000 in
theorem sets_any (bits i : Int) (ks : List (List UInt8)) (A : Option Addr) (n c : Nat) (w : World) (hn : n ≤ 9223372036854775807) (hnc : n ≤ c) (hr : RBs w w.heap.size A n ks) :
    Calls Try.prog 3 #[.int .i64 bits, .slice A n c, .int .i64 i] w fun e w' => e = .returned (.bool true) ∧ Below w.heap.size w w' := by
  have HR : Hid (∀ w', Below w.heap.size w w' → RBs w' w'.heap.size A n ks) := Lib.hid fun w' h => hr.later h
  have hlen := hr.len
  have tok1 : True := trivial
  have tok2 : True := trivial
  by_cases h0 : buildE bits ks = 0
  case neg =>
    have d1 : ((buildE bits ks : Int) != 0) = true := by rw [bne_iff_ne]; omega
    have H0 := Lib.hid h0
    clear h0
    go_enter Try.func3, Try.ntmps3
    go_wp2_with (first
      | (go_at_call 12; refine (started_any _).mono ?_; rintro e w0 ⟨rfl, hb0⟩)
      | (go_at_call 13; refine (build_any bits ks A n c _ hn (HR.out _ hb0)).mono ?_; rintro e w1 hp; obtain ⟨rfl, hb1⟩ := build_no H0.out hp)
      | (go_at_call 14; refine (num_any _ _).mono ?_; rintro e wn ⟨rfl, rfl⟩))
    go_ret
    exact ⟨rfl, hb0.trans (hb1.mono hb0.size)⟩
  have H0 := Lib.hid h0
  have hk := buildE_zero h0
  have hd0 : (n == 0) = decide (n = 0) := rfl
  clear h0
  by_cases hs : n = 0 ∨ 524288 < n
  case pos =>
    have d1 : ((n : Int) == 0) = decide (n = 0) := by rw [Bool.eq_iff_iff, beq_iff_eq, decide_eq_true_iff]; omega
    by_cases hz : n = 0
    · subst hz
      go_enter Try.func3, Try.ntmps3
      go_wp2_with (first
        | (go_at_call 12; refine (started_any _).mono ?_; rintro e w0 ⟨rfl, hb0⟩)
        | (go_at_call 13; refine (build_any bits ks A 0 c _ hn (HR.out _ hb0)).mono ?_; rintro e w1 hp; obtain ⟨g, rfl, hO1, hb1⟩ := build_ok H0.out hp)
        | (go_at_call 14; refine (num_any _ _).mono ?_; rintro e wn ⟨rfl, rfl⟩))
      go_ret
      exact ⟨rfl, hb0.trans (hb1.mono hb0.size)⟩
    · have d2 : ((n : Int) == 0) = false := by rw [d1]; exact decide_eq_false hz
      have d3 : decide (524288 < (n : Int)) = true := decide_eq_true (by omega)
      clear d1
      go_enter Try.func3, Try.ntmps3
      go_wp2_with (first
        | (go_at_call 12; refine (started_any _).mono ?_; rintro e w0 ⟨rfl, hb0⟩)
        | (go_at_call 13; refine (build_any bits ks A n c _ hn (HR.out _ hb0)).mono ?_; rintro e w1 hp; obtain ⟨g, rfl, hO1, hb1⟩ := build_ok H0.out hp)
        | (go_at_call 14; refine (num_any _ _).mono ?_; rintro e wn ⟨rfl, rfl⟩))
      go_ret
      exact ⟨rfl, hb0.trans (hb1.mono hb0.size)⟩
  have d2 : ((n : Int) == 0) = false := by rw [beq_eq_false_iff_ne]; omega
  have d3 : decide (524288 < (n : Int)) = false := decide_eq_false (by omega)
  obtain ⟨vs, hRv, hKv⟩ := hr.kv
  obtain ⟨bb, o, key0, _, _, rfl, _⟩ := hr.at_ (i := 0) (by omega)
  have N0 := Lib.hid fun w' : World => own_nil w' w.heap.size 24 1
  have HKv := Lib.hid hKv
  have hlv := hKv.1
  clear hr hKv
  go_enter Try.func3, Try.ntmps3
  go_wp2_with (first
    | (go_at_call 12; refine (started_any _).mono ?_; rintro e w0 ⟨rfl, hb0⟩)
    | (go_at_call 13; have _t := tok1; refine (build_any bits ks _ n c _ hn (HR.out _ hb0)).mono ?_; rintro e w1 hp; obtain ⟨g, rfl, hO1, hb1⟩ := build_ok H0.out hp; clear tok1)
    | (go_at_call 14; refine (num_any _ _).mono ?_; rintro e wn ⟨rfl, rfl⟩))
  have HB1 := Lib.hid (hb0.trans (hb1.mono hb0.size))
  have HF : Hid (∀ w', Below w1.heap.size w1 w' → RB w' w'.heap.size (some ⟨g, 0, none⟩) (buildB bits ks).length (buildB bits ks)) := Lib.hid fun w' h => (RB.own hO1).later h
  have hLm : (buildB bits ks).length ≤ 2621446 := by have := buildM_le H0.out; rw [buildB_length]; omega
  have hLl : 14 ≤ (buildB bits ks).length := by have := buildM_ge bits ks; rw [buildB_length]; omega
  obtain ⟨L, hL⟩ : ∃ L, L = (buildB bits ks).length := ⟨_, rfl⟩
  rw [← hL] at hLm hLl HF ⊢
  have HLL := Lib.hid hL
  have HC : Hid (∀ (q : Nat) (v : Value), vs[q]? = some v → w.cell? ⟨bb, o + q, none⟩ = some v ∧ bb < w.heap.size) := Lib.hid fun q v hv => by
    obtain ⟨b', o', e, hb, hc⟩ := hRv.2 (by omega)
    injection e with e; injection e with e1 e2
    subst e1; subst e2
    exact ⟨hc q v hv, hb⟩
  clear hp hO1 hb0 hb1 hL hRv hd0
  go_loopw [10, 11] (fun l k wr => ∃ j q : Nat, q + j = n ∧ k = .int .i64 ((q : Int) - 1) ∧ ∃ us : List Value, wr.ownsRow w1.heap.size 24 1 l (2 * j) us ∧ Hid (KV w w.heap.size us (dblTo ks j)) ∧ Hid (Below w1.heap.size w1 wr)) (fun _ k _ => (intOf k + 1).toNat)
  case atStart => exact ⟨0, n, rfl, rfl, [], own_nil _ _ _ _, Lib.hid KV.nil, Lib.hid (Below.refl _ _)⟩
  case round =>
    obtain ⟨j, q, hjq, rfl, us, hown, HU, HBr⟩ := hrel
    rcases Nat.eq_zero_or_pos q with hq | hq
    case inr =>
      obtain ⟨q, rfl⟩ : ∃ q', q = q' + 1 := ⟨q - 1, by omega⟩
      have eq1 : ((q + 1 : Nat) : Int) - 1 = (q : Int) := by omega
      rw [eq1]
      obtain ⟨x, hx⟩ : ∃ x, ks[q]? = some x := ⟨_, List.getElem?_eq_getElem (by omega)⟩
      obtain ⟨a, ca, hv, q1, q2, q3, q4⟩ := HKv.out.2 q x hx
      obtain ⟨hcv, hbb⟩ := HC.out q _ hv
      have hcr := (HBr.out.cell (p := ⟨bb, o + q, none⟩) (by have := HB1.out.size; simp; omega)).trans ((HB1.out.cell (p := ⟨bb, o + q, none⟩) hbb).trans hcv)
      have HU2 : Hid (KV w w.heap.size (us ++ [.slice a x.length ca, .slice a x.length ca]) (dblTo ks (j + 1))) := Lib.hid (by
        rw [dblTo_succ ks j q x (by omega) hx]
        exact HU.out.app ((KV.nil.cons ⟨a, ca, rfl, q1, q2, q3, q4⟩).cons ⟨a, ca, rfl, q1, q2, q3, q4⟩))
      have hdq : decide (0 ≤ (q : Int)) = true := decide_eq_true (by omega)
      have O2 : Hid (∀ u ∈ [Value.slice a x.length ca, .slice a x.length ca], u.oneCell' = true) := Lib.hid fun u hu => HU2.out.one u (by simp at hu ⊢; exact .inr hu)
      have HOW := Lib.hid hown
      have hbw1 : bb < w1.heap.size := Nat.lt_of_lt_of_le hbb HB1.out.size
      have hbw : bb < wr.heap.size := Nat.lt_of_lt_of_le hbw1 HBr.out.size
      have hbr : ¬(some bb = u10.ownBlock) := fun e => by have := (hown.lt bb e.symm).1; omega
      have hx1 : (0 : Int) ≤ (q : Int) := by omega
      have hx2 : (q : Int) < (n : Int) := by omega
      have hx3 : q < n := by omega
      have HN9 : Hid (w1.heap.size ≤ (wr.alloc (.cells #[.slice a x.length ca, .slice a x.length ca] 24)).heap.size) := Lib.hid (Nat.le_trans HBr.out.size (by simp))
      clear hv hx hcv hown
      go_wp2_with fail
      go_region_held3 (fun w' => w'.cell? ⟨bb, o + q, none⟩ = some (.slice a x.length ca)) (first | go_keep | (rw [hg9.cell_far _ (by simp; omega) (by simpa using hbr)]; assumption))
        ((refine step_append_lies _ (by rfl) _ _ _ (by rfl) w1.heap.size 24 Try.t24 (.slice none 0 0) 1 24 Try.underlying22 (by kernel_rfl) (by rfl) (by rfl) (by rfl) (by rfl) (by omega) u10 (2 * j) us (by rfl) ((own_below HOW.out ((Below.refl _ _).alloc (Nat.le_refl _) _)).drew)
            ⟨wr.heap.size, 0, none⟩ 2 2 [.slice a x.length ca, .slice a x.length ca] (by rfl) (by rfl) (World.news_of_block (cs := #[.slice a x.length ca, .slice a x.length ca]) (t := 24) (fr := (0, 0)) (heap_alloc_new wr _)) O2.out
            (by omega) (by unfold maxLen; omega) (by omega) HN9.out (wr.heap.size + 1) (by simp) ?_; intro g9 cap9 w9 hown9 hg9 hat9 hlt9))
      have HB9 : Hid (Below w1.heap.size w1 w9) := Lib.hid (below_app (HBr.out.alloc HBr.out.size _).drew (own_drew (own_below HOW.out ((Below.refl _ _).alloc (Nat.le_refl _) _))) hg9 HN9.out (Nat.le_refl _))
      clear hg9 hat9 hlt9 hcr
      go_wp2
      go_roundw
      case rel => exact ⟨j + 1, q, by omega, by go_num, _, by rw [show 2 * (j + 1) = 2 * j + 2 from by omega]; exact hown9, HU2, HB9⟩
      case measure => simp [intOf]
    have hjn : j = n := by omega
    subst hjn
    subst hq
    have hm1 : decide ((0 : Int) ≤ ((0 : Nat) : Int) - 1) = false := by decide
    obtain ⟨A2, c2, rfl, hl1, hl2, _, hrl⟩ := own_slice hown
    have HBw : Hid (Below w.heap.size w wr) := Lib.hid (HB1.out.trans (HBr.out.mono HB1.out.size))
    have HL2 := Lib.hid (((HU.out.later HBw.out)).rbs hrl)
    have HS : Hid (buildB bits (dblTo ks j) = buildB bits ks) := Lib.hid (buildB_same bits fun x => by rw [← hlen]; exact (dblTo_mem ks x).symm)
    have HE2 : Hid (buildE bits (dblTo ks j) = 0) := Lib.hid (by
      have := HU.out.1
      have h2 := hown.1
      unfold buildE
      rw [if_neg (by omega), if_neg (by omega)])
    have Hl3 : Hid (2 * j ≤ 9223372036854775807) := Lib.hid (by omega)
    have tok3 : True := trivial
    have HFA := Lib.hid (HF.out _ HBr.out)
    clear hown hrl hl1 hl2
    obtain ⟨J, hJ, hJ0, hJ1⟩ := spot_val i j (by omega)
    obtain ⟨kw, hkw⟩ : ∃ kw, kw = ks.take J ++ ks.drop (J + 1) := ⟨_, rfl⟩
    have hkwl : kw.length = j - 1 := by rw [hkw, List.length_append, List.length_take, List.length_drop, hlen]; omega
    have HE3 : Hid (buildE bits kw = 0) := Lib.hid (by unfold buildE; rw [if_neg (by omega), if_neg (by omega)])
    have HM3 : Hid (∀ x ∈ kw, x ∈ ks) := Lib.hid fun x hx => by
      rw [hkw] at hx
      rcases List.mem_append.1 hx with h | h
      · exact List.mem_of_mem_take h
      · exact List.mem_of_mem_drop h
    obtain ⟨M, hM⟩ : ∃ M, M = (buildB bits kw).length := ⟨_, rfl⟩
    have hMm : M ≤ 2621446 := by have := buildM_le HE3.out; rw [hM, buildB_length]; omega
    have hMl : 14 ≤ M := by have := buildM_ge bits kw; rw [hM, buildB_length]; omega
    have hML : M ≤ L := by
      have := buildM_mono bits HM3.out
      rw [hM, HLL.out, buildB_length, buildB_length]; omega
    have HMM := Lib.hid hM
    have HKW := Lib.hid hkw
    have hj2 : j ≤ 1048576 := by omega
    have hj3 : j - 1 ≤ 9223372036854775807 := by omega
    have hd7 : decide ((M : Int) < 14) = false := decide_eq_false (by omega)
    have hd8 : decide ((L : Int) < 14) = false := decide_eq_false (by omega)
    have hord1 := buildB_least H0.out (by intro e; rw [e] at hlen; simp at hlen; omega)
    have hord2 := buildB_most H0.out
    have hord3 : M = L → onesN (buildB bits kw) ≤ onesN (buildB bits ks) := fun e => by
      have em := (buildB_fewer bits (HMM.out.symm.trans (e.trans HLL.out))).1
      rw [buildB_ones HE3.out, buildB_ones H0.out, ← em]
      exact cntS_mono _ fun i _ h => buildS_mono _ _ HM3.out i h
    obtain ⟨O1, hO1⟩ : ∃ O1, O1 = onesN (buildB bits ks) := ⟨_, rfl⟩
    obtain ⟨O2, hO2⟩ : ∃ O2, O2 = onesN (buildB bits kw) := ⟨_, rfl⟩
    obtain ⟨p, hp⟩ : ∃ p, p = buildP bits := ⟨_, rfl⟩
    obtain ⟨P, hP⟩ : ∃ P, P = p * j := ⟨_, rfl⟩
    rw [← hp, hlen, ← hP, ← hO1] at hord2
    rw [← hO1] at hord1
    rw [← hO1, ← hO2] at hord3
    have hp14 : p ≤ 14 := by have := (buildP_le H0.out).2; omega
    have hPm : P ≤ 7340032 := by
      rw [hP]
      exact Nat.mul_le_mul hp14 (show j ≤ 524288 by omega)
    have hpj : (p : Int) * (j : Int) = (P : Int) := by rw [hP, Int.natCast_mul]
    have HF1 : Hid ((buildB bits ks)[1]? = some (UInt8.ofNat p) ∧ (UInt8.ofNat p).toNat = p) := Lib.hid (by
      rw [hp]
      refine ⟨?_, ?_⟩
      · unfold buildB
        rw [filterB_head _ _ _ _ (by decide)]
        rfl
      · rw [UInt8.toNat_ofNat', Nat.mod_eq_of_lt (by omega)])
    have HO1 := Lib.hid hO1
    have HO2 := Lib.hid hO2
    have hd10 : decide (1 ≤ (O1 : Int)) = true := decide_eq_true (by omega)
    have hd11 : decide ((O1 : Int) ≤ (P : Int)) = true := decide_eq_true (by omega)
    clear hM hkw hkwl hO1 hO2 hp hP
    have HLm : Hid (L ≤ 9223372036854775807) := Lib.hid (by omega)
    by_cases hLM : M = L
    case neg =>
      have hd9 : ((M : Int) == (L : Int)) = false := by rw [beq_eq_false_iff_ne]; omega
      have hd12 : decide ((M : Int) < (L : Int)) = true := decide_eq_true (by omega)
      have hlt9 : M < L := by omega
      clear hord3
      rcases Int.lt_or_le (i.tmod (j : Int)) 0 with hneg | hpos
      all_goals
        first
        | (have hJe := hJ0 hpos; clear hJ0 hJ1 hpos; have hd4 : decide ((J : Int) < 0) = false := decide_eq_false (by omega))
        | (have hJe := hJ1 hneg; clear hJ0 hJ1; have hd4 : decide (i.tmod (j : Int) < 0) = true := decide_eq_true hneg)
        go_wp2_with (first
          | (go_at_call 13; have _t := tok2; refine (build_any bits (dblTo ks j) A2 (2 * j) c2 _ Hl3.out HL2.out).mono ?_; rintro e w2 hp2; obtain ⟨g2, rfl, hO2, hb2⟩ := build_ok HE2.out hp2; rw [HS.out] at hO2 ⊢; rw [← HLL.out] at hO2 ⊢; clear tok2 hp2; have HG2 := Lib.hid (RB.own hO2); have HB2 := Lib.hid hb2; have HF2 := Lib.hid (HFA.out.later hb2); clear hO2 hb2)
          | (go_at_call 14; refine (num_any _ _).mono ?_; rintro e wn ⟨rfl, rfl⟩)
          | (go_at_call 15; refine (alike_any (buildB bits ks) (buildB bits ks) _ _ L L L L _ HF2.out HG2.out).mono ?_; rw [beq_self_eq_true]; rintro e wn ⟨rfl, rfl⟩)
          | (go_at_call 16; refine (without_any ks J _ j c _ hj2 hJ hnc (HR.out _ (HBw.out.trans (HB2.out.mono HBw.out.size)))).mono ?_; rintro e w3 ⟨A3, c3, rfl, _, _, hK3, hb3⟩; have HB3 := Lib.hid hb3; have HK3 := Lib.hid hK3; clear hb3 hK3)
          | (go_at_call 13; refine (build_any bits kw A3 (j - 1) c3 _ hj3 (by rw [HKW.out]; exact HK3.out)).mono ?_; rintro e w4 hp4; obtain ⟨g4, rfl, hO4, hb4⟩ := build_ok HE3.out hp4; rw [← HMM.out] at hO4 ⊢; clear hp4; have HG4 := Lib.hid (RB.own hO4); have HB4 := Lib.hid hb4; have HF4 := Lib.hid ((HF2.out.later HB3.out).later hb4); clear hO4 hb4)
          | (go_at_call 17; refine (ones_any (buildB bits ks) _ L L _ HLm.out (Nat.le_refl _) HF4.out).mono ?_; rw [← HO1.out]; rintro e w5 ⟨rfl, hb5⟩; have HB5 := Lib.hid hb5; have hcf : w5.cell? ⟨g, 1, none⟩ = some (.int .u8 (p : Int)) := (by have := (HF4.out.later hb5).cell HF1.out.1; rw [HF1.out.2] at this; simpa using this); clear hb5))
        go_ret
        have hA := HBw.out.trans (HB2.out.mono HBw.out.size)
        have hA2 := hA.trans (HB3.out.mono hA.size)
        have hA3 := hA2.trans (HB4.out.mono hA2.size)
        exact ⟨rfl, hA3.trans (HB5.out.mono hA3.size)⟩
    case pos =>
      have hd9 : ((M : Int) == (L : Int)) = true := by rw [beq_iff_eq]; omega
      have hd13 : decide (M < L) = false := decide_eq_false (by omega)
      have hd14 : decide (O2 ≤ O1) = true := decide_eq_true (hord3 hLM)
      have HAND : Hid (∀ (q : Nat) (x y : UInt8), 6 ≤ q → (buildB bits kw)[q]? = some x → (buildB bits ks)[q]? = some y → bits_and x y = (x.toNat : Int)) := Lib.hid fun q x y h6 hx hy => by
        unfold bits_and
        have hx8 := x.toNat_lt
        have hy8 := y.toNat_lt
        rw [u8_and_nat _ _ (by omega) (by omega), buildB_and bits HM3.out (HMM.out.symm.trans (hLM.trans HLL.out)) q h6 x y hx hy]
      have HHEAD : Hid (∀ q, q < 6 → (buildB bits kw)[q]? = (buildB bits ks)[q]?) := Lib.hid (buildB_fewer bits (HMM.out.symm.trans (hLM.trans HLL.out))).2
      have HLM := Lib.hid hLM
      clear hord3 hLM hML
      rcases Int.lt_or_le (i.tmod (j : Int)) 0 with hneg | hpos
      all_goals
        first
        | (have hJe := hJ0 hpos; clear hJ0 hJ1 hpos; have hd4 : decide ((J : Int) < 0) = false := decide_eq_false (by omega))
        | (have hJe := hJ1 hneg; clear hJ0 hJ1; have hd4 : decide (i.tmod (j : Int) < 0) = true := decide_eq_true hneg)
        go_wp2_with (first
          | (go_at_call 13; have _t := tok2; refine (build_any bits (dblTo ks j) A2 (2 * j) c2 _ Hl3.out HL2.out).mono ?_; rintro e w2 hp2; obtain ⟨g2, rfl, hO2, hb2⟩ := build_ok HE2.out hp2; rw [HS.out] at hO2 ⊢; rw [← HLL.out] at hO2 ⊢; clear tok2 hp2; have HG2 := Lib.hid (RB.own hO2); have HB2 := Lib.hid hb2; have HF2 := Lib.hid (HFA.out.later hb2); clear hO2 hb2)
          | (go_at_call 14; refine (num_any _ _).mono ?_; rintro e wn ⟨rfl, rfl⟩)
          | (go_at_call 15; refine (alike_any (buildB bits ks) (buildB bits ks) _ _ L L L L _ HF2.out HG2.out).mono ?_; rw [beq_self_eq_true]; rintro e wn ⟨rfl, rfl⟩)
          | (go_at_call 16; refine (without_any ks J _ j c _ hj2 hJ hnc (HR.out _ (HBw.out.trans (HB2.out.mono HBw.out.size)))).mono ?_; rintro e w3 ⟨A3, c3, rfl, _, _, hK3, hb3⟩; have HB3 := Lib.hid hb3; have HK3 := Lib.hid hK3; clear hb3 hK3)
          | (go_at_call 13; refine (build_any bits kw A3 (j - 1) c3 _ hj3 (by rw [HKW.out]; exact HK3.out)).mono ?_; rintro e w4 hp4; obtain ⟨g4, rfl, hO4, hb4⟩ := build_ok HE3.out hp4; rw [← HMM.out] at hO4 ⊢; clear hp4; have HG4 := Lib.hid (RB.own hO4); have HB4 := Lib.hid hb4; have HF4 := Lib.hid ((HF2.out.later HB3.out).later hb4); clear hO4 hb4))
        go_loopw [14] (fun k wr9 => ∃ q : Nat, q ≤ L ∧ k = .int .i64 q ∧ Hid (Below w4.heap.size w4 wr9)) (fun k _ => L - (intOf k).toNat)
        case atStart => exact ⟨0, Nat.zero_le _, rfl, Lib.hid (Below.refl _ _)⟩
        case round =>
          obtain ⟨q, hq, rfl, HB9⟩ := hrel
          by_cases hqL : q < L
          case pos =>
            have hqM : q < M := by have := HLM.out; omega
            obtain ⟨x, hx⟩ : ∃ x, (buildB bits kw)[q]? = some x := ⟨_, List.getElem?_eq_getElem (by rw [← HMM.out]; exact hqM)⟩
            obtain ⟨y, hy⟩ : ∃ y, (buildB bits ks)[q]? = some y := ⟨_, List.getElem?_eq_getElem (by rw [← HLL.out]; exact hqL)⟩
            have hcx : wr.cell? ⟨g4, q, none⟩ = some (.int .u8 (x.toNat : Int)) := by
              have := (HG4.out.later HB9.out).cell hx
              simpa using this
            have hcy : wr.cell? ⟨g, q, none⟩ = some (.int .u8 (y.toNat : Int)) := by
              have := (HF4.out.later HB9.out).cell hy
              simpa using this
            have hz0 : (0 : Int) ≤ (q : Int) := by omega
            have hz1 : (q : Int) < (L : Int) := by omega
            have hz2 : (q : Int) < (M : Int) := by omega
            have hdq : decide ((q : Int) < (L : Int)) = true := decide_eq_true hz1
            by_cases h6 : 6 ≤ q
            · have ha : (bits_and x y != (x.toNat : Int)) = false := by rw [HAND.out q x y h6 hx hy]; simp
              unfold bits_and at ha
              have hd6 : decide (6 ≤ (q : Int)) = true := decide_eq_true (by omega)
              have hd66 : decide ((q : Int) < 6) = false := decide_eq_false (by omega)
              clear hx hy h6
              go_wp2_with fail
              go_quiet (fail)
              go_wp2
              go_roundw
              case rel => exact ⟨q + 1, by omega, by go_num, Lib.hid (HB9.out.grown (grown_drewN _ _) HB9.out.size (by simp))⟩
              case measure => simp [intOf]; omega
            · have ha : ((x.toNat : Int) != (y.toNat : Int)) = false := by
                have := HHEAD.out q (by omega)
                rw [hx, hy] at this
                injection this with this
                rw [this]; simp
              have hd6 : decide (6 ≤ (q : Int)) = false := decide_eq_false (by omega)
              have hd66 : decide ((q : Int) < 6) = true := decide_eq_true (by omega)
              clear hx hy h6
              go_wp2_with fail
              go_quiet (fail)
              go_wp2
              go_roundw
              case rel => exact ⟨q + 1, by omega, by go_num, Lib.hid (HB9.out.grown (grown_drewN _ _) HB9.out.size (by simp))⟩
              case measure => simp [intOf]; omega
          have hdq : decide ((q : Int) < (L : Int)) = false := decide_eq_false (by omega)
          have HF5 := Lib.hid (HF4.out.later HB9.out)
          have HG5 := Lib.hid (HG4.out.later HB9.out)
          have HMm : Hid (M ≤ 9223372036854775807) := Lib.hid (by omega)
          clear hlen hk hs hn hnc hlv hjq hJ hJe hMm hMl hj3 hd7 hd8 hq
          go_wp2_with (first
            | (go_at_call 17; have _t := tok3; refine (ones_any (buildB bits ks) _ L L _ HLm.out (Nat.le_refl _) HF5.out).mono ?_; rw [← HO1.out]; rintro e w5 ⟨rfl, hb5⟩; have HB5 := Lib.hid hb5; have hcf : w5.cell? ⟨g, 1, none⟩ = some (.int .u8 (p : Int)) := (by have := (HF5.out.later hb5).cell HF1.out.1; rw [HF1.out.2] at this; simpa using this); have HG6 := Lib.hid (HG5.out.later hb5); clear tok3 hb5)
            | (go_at_call 17; refine (ones_any (buildB bits kw) _ M M _ HMm.out (Nat.le_refl _) HG6.out).mono ?_; rw [← HO2.out]; rintro e w6 ⟨rfl, hb6⟩; have HB6 := Lib.hid hb6; clear hb6))
          go_ret
          have hA := HBw.out.trans (HB2.out.mono HBw.out.size)
          have hA2 := hA.trans (HB3.out.mono hA.size)
          have hA3 := hA2.trans (HB4.out.mono hA2.size)
          have hA4 := hA3.trans (HB9.out.mono hA3.size)
          have hA5 := hA4.trans (HB5.out.mono hA4.size)
          exact ⟨rfl, hA5.trans (HB6.out.mono hA5.size)⟩

end Go.Proofs.Ythjjihipodhkiaa
