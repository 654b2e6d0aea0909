/-
  The reference's Union, Build, walked.
-/
import Derived.Test.YthjjihipodhkiaaBloomR4
import Derived.Deep.Onto
namespace Go.Proofs.Ythjjihipodhkiaa
open Go.RowKit

def mapR (M : Nat) (f : Nat → Bool) : List Bool := (List.range M).map f
theorem mapR_len (M : Nat) (f : Nat → Bool) : (mapR M f).length = M := by simp [mapR]
theorem mapR_at {M i : Nat} (f : Nat → Bool) (h : i < M) : (mapR M f)[i]? = some (f i) := by simp [mapR, h]
theorem mapR_ext {M : Nat} {f g : Nat → Bool} (h : ∀ i, i < M → f i = g i) : mapR M f = mapR M g := by
  unfold mapR
  apply List.map_congr_left
  intro i hi
  exact h i (List.mem_range.1 hi)
theorem mapR_set {M x : Nat} (f : Nat → Bool) (b : Bool) (hx : x < M) : (mapR M f).set x b = mapR M (fun i => if i = x then b else f i) := by
  apply List.ext_getElem?
  intro i
  rw [List.getElem?_set, mapR_len]
  by_cases e : x = i
  · subst e
    rw [if_pos rfl, if_pos hx, mapR_at _ hx, if_pos rfl]
  · rw [if_neg e]
    by_cases hi : i < M
    · rw [mapR_at _ hi, mapR_at _ hi, if_neg (fun h => e h.symm)]
    · rw [List.getElem?_eq_none (by rw [mapR_len]; omega), List.getElem?_eq_none (by rw [mapR_len]; omega)]
theorem bitsL_mapR (f : List UInt8) (m : Nat) : bitsL f m = mapR m (bitAt f) := rfl
theorem bitOf_mapR {M i : Nat} (f : Nat → Bool) (h : i < M) : bitOf (mapR M f) i = f i := by unfold bitOf; rw [mapR_at f h]; rfl
/-- The first k bits or'd. -/
def orS (a b : List UInt8) (k : Nat) : Nat → Bool := fun i => if i < k then bitAt a i || bitAt b i else bitAt a i
theorem orS_next {a b : List UInt8} {k M : Nat} (h : k < M) : (mapR M (orS a b k)).set k (bitAt a k || bitAt b k) = mapR M (orS a b (k + 1)) := by
  rw [mapR_set _ _ h]
  apply mapR_ext
  intro i _
  unfold orS
  by_cases e : i = k
  · subst e; rw [if_pos rfl, if_pos (by omega)]
  · rw [if_neg e]
    by_cases h1 : i < k
    · rw [if_pos h1, if_pos (by omega)]
    · rw [if_neg h1, if_neg (by omega)]
theorem union_bits {a b : List UInt8} (ha : isF a = true) (hb : isF b = true) (hP : shapeP a = shapeP b) (hM : shapeM a = shapeM b) : filterB (shapeP a) (shapeM a) (bitOf (mapR (shapeM a) (orS a b (shapeM a)))) = orB a b := by
  have h1 : filterB (shapeP a) (shapeM a) (bitOf (mapR (shapeM a) (orS a b (shapeM a)))) = filterB (shapeP a) (shapeM a) (fun i => bitAt a i || bitAt b i) := filterB_ext _ _ fun i hi => by
    rw [bitOf_mapR _ hi]; unfold orS; rw [if_pos hi]
  rw [h1, ← filterB_orB, F_canon ha, hP, hM, F_canon hb]

set_option maxRecDepth 100000 in
set_option maxHeartbeats 2000000 in
theorem runion_no (a b : List UInt8) (A B : Option Addr) (n c m d : Nat) (w : World) (hn : n ≤ 9223372036854775807) (hr : RB w w.heap.size A n a) (hm : m ≤ 9223372036854775807) (hs : RB w w.heap.size B m b) (h : isF a = false ∨ (isF a = true ∧ isF b = false)) :
    Calls Try.prog 30 #[.slice A n c, .slice B m d] w (BytesPost2 5 (ures a b) (unionE a b) w) := by
  have H : Hid (unionE a b = 62 ∧ ures a b = []) := Lib.hid (by
    have e : unionE a b = 62 := by
      unfold unionE
      rcases h with h | ⟨h, h'⟩
      · rw [h]; rfl
      · rw [h, h']; rfl
    exact ⟨e, by unfold ures; rw [e]; rfl⟩)
  have HC := Lib.hid (rread_any a A n c w hn hr)
  have HD : Hid (∀ w', Below w.heap.size w w' → Calls Try.prog 42 #[.slice B m d] w' (RdPost b w')) := Lib.hid fun w' hb => rread_any b B m d w' hm (hs.later hb)
  have tok1 : True := trivial
  rw [H.out.1, H.out.2]
  rcases h with h | ⟨h, h'⟩
  · have HF := Lib.hid h
    cases hb : isF b
    · have HG := Lib.hid hb
      clear hr hs h hb
      go_enter Try.func30, Try.ntmps30
      go_wp2_with (first
        | (go_at_call 42; have _t := tok1; go_must (refine HC.out.mono ?_); rintro e w1 hp; obtain ⟨rfl, hb1⟩ := rd_no HF.out hp; have HB1 := Lib.hid hb1; clear tok1 hp hb1)
        | (go_at_call 42; go_must (refine (HD.out _ HB1.out).mono ?_); rintro e w2 hp; obtain ⟨rfl, hb2⟩ := rd_no HG.out hp; have HB2 := Lib.hid (HB1.out.trans (hb2.mono HB1.out.size)); clear hp hb2))
      go_ret2
      exact bytes_none2 HB2.out
    · have HG := Lib.hid hb
      clear hr hs h hb
      go_enter Try.func30, Try.ntmps30
      go_wp2_with (first
        | (go_at_call 42; have _t := tok1; go_must (refine HC.out.mono ?_); rintro e w1 hp; obtain ⟨rfl, hb1⟩ := rd_no HF.out hp; have HB1 := Lib.hid hb1; clear tok1 hp hb1)
        | (go_at_call 42; go_must (refine (HD.out _ HB1.out).mono ?_); rintro e w2 hp; obtain ⟨A2, c2, rfl, _, hb2⟩ := rd_ok HG.out hp; have HB2 := Lib.hid (HB1.out.trans (hb2.mono HB1.out.size)); clear hp hb2))
      go_ret2
      exact bytes_none2 HB2.out
  · have HF := Lib.hid h
    have HG := Lib.hid h'
    clear hr hs h h'
    go_enter Try.func30, Try.ntmps30
    go_wp2_with (first
      | (go_at_call 42; have _t := tok1; go_must (refine HC.out.mono ?_); rintro e w1 hp; obtain ⟨A1, c1, rfl, _, hb1⟩ := rd_ok HF.out hp; have HB1 := Lib.hid hb1; clear tok1 hp hb1)
      | (go_at_call 42; go_must (refine (HD.out _ HB1.out).mono ?_); rintro e w2 hp; obtain ⟨rfl, hb2⟩ := rd_no HG.out hp; have HB2 := Lib.hid (HB1.out.trans (hb2.mono HB1.out.size)); clear hp hb2))
    go_ret2
    exact bytes_none2 HB2.out

set_option maxRecDepth 100000 in
set_option maxHeartbeats 4000000 in
theorem runion_on (a b : List UInt8) (A B : Option Addr) (n c m d : Nat) (w : World) (hn : n ≤ 9223372036854775807) (hr : RB w w.heap.size A n a) (hm : m ≤ 9223372036854775807) (hs : RB w w.heap.size B m b) (ha : isF a = true) (hb : isF b = true) :
    Calls Try.prog 30 #[.slice A n c, .slice B m d] w (BytesPost2 5 (ures a b) (unionE a b) w) := by
  have HC := Lib.hid (rread_any a A n c w hn hr)
  have HD : Hid (∀ w', Below w.heap.size w w' → Calls Try.prog 42 #[.slice B m d] w' (RdPost b w')) := Lib.hid fun w' hb => rread_any b B m d w' hm (hs.later hb)
  have tok1 : True := trivial
  obtain ⟨g1, g2, g3, g4, g5, _⟩ := isF_bounds ha
  obtain ⟨k1, k2, k3, k4, k5, _⟩ := isF_bounds hb
  have hE : unionE a b = if shapeP a = shapeP b ∧ shapeM a = shapeM b then 0 else 63 := by unfold unionE; rw [ha, hb]; rfl
  have hU := union_bits ha hb
  obtain ⟨P, hP⟩ : ∃ P, shapeP a = P := ⟨_, rfl⟩
  obtain ⟨M, hM⟩ : ∃ M, shapeM a = M := ⟨_, rfl⟩
  obtain ⟨Q, hQ⟩ : ∃ P, shapeP b = P := ⟨_, rfl⟩
  obtain ⟨N, hN⟩ : ∃ M, shapeM b = M := ⟨_, rfl⟩
  rw [hP, hM, hQ, hN] at hE hU
  rw [hP] at g1 g2
  rw [hM] at g3 g4 g5
  rw [hN] at k3 k4
  have XP := Lib.hid hP
  have XM := Lib.hid hM
  have XQ := Lib.hid hQ
  have XN := Lib.hid hN
  have HF := Lib.hid ha
  have HG := Lib.hid hb
  clear hr hs ha hb hP hM hQ hN k1 k2 k5
  by_cases hsh : P = Q ∧ M = N
  case neg =>
    rw [if_neg hsh] at hE
    have H : Hid (unionE a b = 63 ∧ ures a b = []) := Lib.hid ⟨hE, by unfold ures; rw [hE]; rfl⟩
    rw [H.out.1, H.out.2]
    have hcase : (((P : Int) != (Q : Int)) = true) ∨ ((((P : Int) != (Q : Int)) = false) ∧ ((M : Int) != (N : Int)) = true) := by
      simp only [bne_iff_ne, bne_eq_false_iff_eq]; omega
    clear hE hU hsh
    rcases hcase with d1 | ⟨d1, d2⟩
    all_goals
      go_enter Try.func30, Try.ntmps30
      go_wp2_with (first
        | (go_at_call 42; have _t := tok1; go_must (refine HC.out.mono ?_); rintro e w1 hp; obtain ⟨gs, cs, rfl, _, hb1⟩ := rd_at HF.out XP.out XM.out (by omega) hp; have HB1 := Lib.hid hb1; clear tok1 hp hb1)
        | (go_at_call 42; go_must (refine (HD.out _ HB1.out).mono ?_); rintro e w2 hp; obtain ⟨gm, cm, rfl, _, hb2⟩ := rd_at HG.out XQ.out XN.out (by omega) hp; have HB2 := Lib.hid (HB1.out.trans (hb2.mono HB1.out.size)); clear hp hb2))
      go_ret2
      exact bytes_none2 HB2.out
  rw [if_pos hsh] at hE
  obtain ⟨rfl, rfl⟩ := hsh
  have H : Hid (unionE a b = 0 ∧ ures a b = orB a b) := Lib.hid ⟨hE, by unfold ures; rw [hE]; rfl⟩
  have HU := Lib.hid (hU rfl rfl)
  rw [H.out.1, H.out.2]
  have d1 : ((P : Int) != (P : Int)) = false := by simp
  have d2 : ((M : Int) != (M : Int)) = false := by simp
  have h8 := g5
  clear hE hU k3 k4 g5
  go_enter Try.func30, Try.ntmps30
  go_wp2_with (first
    | (go_at_call 42; have _t := tok1; go_must (refine HC.out.mono ?_); rintro e w1 hp; obtain ⟨gs, cs, rfl, hO1, hb1⟩ := rd_at HF.out XP.out XM.out (by omega) hp; have HB1 := Lib.hid hb1; have HO1 := Lib.hid hO1; clear tok1 hp hb1 hO1)
    | (go_at_call 42; go_must (refine (HD.out _ HB1.out).mono ?_); rintro e w2 hp; obtain ⟨gm, cm, rfl, hO2, hb2⟩ := rd_at HG.out XQ.out XN.out (by omega) hp; have HB2 := Lib.hid (HB1.out.trans (hb2.mono HB1.out.size)); have HNE : Hid (gm ≠ gs) := Lib.hid (by have h1 := (World.ownsRow.lt hO2 gm rfl).1; have h2 := (World.ownsRow.lt HO1.out gs rfl).2; omega); have HS2 := Lib.hid (own_below HO1.out hb2); have HO2 := Lib.hid hO2; clear hp hb2 hO2))
  have HSZ : Hid (w.heap.size ≤ gs) := Lib.hid (World.ownsRow.lt HO1.out gs rfl).1
  have HSB : Hid (w.heap.size ≤ w1.heap.size) := Lib.hid HB1.out.size
  go_loopw [12] (fun i wr => ∃ k : Nat, k ≤ M ∧ i = .int .i64 k ∧ Hid (wr.ownsRow w.heap.size 4 1 (.slice (some ⟨gs, 0, none⟩) M cs) M (bools (mapR M (orS a b k)))) ∧ Hid (wr.ownsRow w1.heap.size 4 1 (.slice (some ⟨gm, 0, none⟩) M cm) M (bools (bitsL b M))) ∧ Hid (Below w.heap.size w wr)) (fun i _ => M - (intOf i).toNat)
  case atStart => exact ⟨0, Nat.zero_le _, rfl, Lib.hid (by have h := HS2.out; rw [bitsL_mapR] at h; rw [mapR_ext (g := bitAt a) fun i _ => by unfold orS; rw [if_neg (by omega)]]; exact h), HO2, HB2⟩
  case round =>
    obtain ⟨k, hk, rfl, HOS, HOM, HB⟩ := hrel
    by_cases hlt : k < M
    case neg =>
      have HRS : Hid (Reads wr wr.heap.size 1 (some ⟨gs, 0, none⟩) M (bools (mapR M (orS a b M)))) := Lib.hid (by have h := HOS.out; rw [show k = M from by omega] at h; exact Reads.own h)
      go_wp2_with (go_at_call 41; go_must (refine (laid_any P (mapR M (orS a b M)) (some ⟨gs, 0, none⟩) M cs _ (by omega) h8 (by omega) HRS.out).mono ?_); rw [HU.out]; rintro e w3 ⟨A3, c3, rfl, hO3, hb3⟩; have HB3 := Lib.hid (HB.out.trans (hb3.mono HB.out.size)); have HO3 := Lib.hid (hO3.rebase HB.out.size); clear hO3 hb3)
      go_ret2
      exact ⟨A3, c3, rfl, HO3.out, HB3.out⟩
    have hcs : wr.cell? ⟨gs, k, none⟩ = some (.bool (bitAt a k)) := (World.ownsRow.cellAt HOS.out k (by omega)).trans (bools_at (by rw [mapR_at _ hlt]; unfold orS; rw [if_neg (by omega)]))
    have hcm : wr.cell? ⟨gm, k, none⟩ = some (.bool (bitAt b k)) := (World.ownsRow.cellAt HOM.out k (by omega)).trans (bools_at (bitsL_at b hlt))
    have hfz : wr.frozen? ⟨gs, k, none⟩ = false := World.ownsRow.frozenAt HOS.out k
    obtain ⟨x, hx⟩ : ∃ x, bitAt a k = x := ⟨_, rfl⟩
    obtain ⟨y, hy⟩ : ∃ y, bitAt b k = y := ⟨_, rfl⟩
    have HST := Lib.hid (World.ownsRow.stored HOS.out k (.bool (x || y)))
    have HNX : Hid ((bools (mapR M (orS a b k))).set k (.bool (x || y)) = bools (mapR M (orS a b (k + 1)))) := Lib.hid (by rw [bools_set, ← hx, ← hy, orS_next hlt])
    rw [hx] at hcs
    rw [hy] at hcm
    clear hx hy
    cases x with
    | true =>
      go_wp2_with fail
      go_roundw
      case rel => exact ⟨k + 1, by omega, by go_num, Lib.hid (by have h := HST.out.1; rw [HNX.out] at h; exact h), Lib.hid (own_chg HOM.out (Chg.setCell wr ⟨gs, k, none⟩ (.bool true)) fun g hg e => HNE.out (by injection hg with hg; exact hg.trans e)), Lib.hid (HB.out.setCell (p := ⟨gs, k, none⟩) HSZ.out _)⟩
      case measure => simp [intOf]; omega
    | false =>
      have HST2 := Lib.hid (show (wr.setCell ⟨gs, k, none⟩ (.bool y)).ownsRow w.heap.size 4 1 (.slice (some ⟨gs, 0, none⟩) M cs) M (bools (mapR M (orS a b (k + 1)))) from by have h := HST.out.1; rw [HNX.out, Bool.false_or] at h; exact h)
      clear HST
      go_wp2_with fail
      go_roundw
      case rel => exact ⟨k + 1, by omega, by go_num, HST2, Lib.hid (own_chg HOM.out (Chg.setCell wr ⟨gs, k, none⟩ (.bool y)) fun g hg e => HNE.out (by injection hg with hg; exact hg.trans e)), Lib.hid (HB.out.setCell (p := ⟨gs, k, none⟩) HSZ.out _)⟩
      case measure => simp [intOf]; omega

theorem runion_any (a b : List UInt8) (A B : Option Addr) (n c m d : Nat) (w : World) (hn : n ≤ 9223372036854775807) (hr : RB w w.heap.size A n a) (hm : m ≤ 9223372036854775807) (hs : RB w w.heap.size B m b) :
    Calls Try.prog 30 #[.slice A n c, .slice B m d] w (BytesPost2 5 (ures a b) (unionE a b) w) := by
  cases ha : isF a
  · exact runion_no a b A B n c m d w hn hr hm hs (.inl ha)
  · cases hb : isF b
    · exact runion_no a b A B n c m d w hn hr hm hs (.inr ⟨ha, hb⟩)
    · exact runion_on a b A B n c m d w hn hr hm hs ha hb

/-- The bits of the first k keys. -/
def keyS (ks : List (List UInt8)) (p m k : Nat) : Nat → Bool := buildS p m (ks.take k)
theorem keyS_next {ks : List (List UInt8)} {p m k : Nat} {x : List UInt8} (h : ks[k]? = some x) (i : Nat) : keyS ks p m (k + 1) i = (keyS ks p m k i || (placesN x p m).contains i) := by
  unfold keyS buildS
  rw [take_snoc h, List.any_append]; simp
/-- .. and of the first j places of one more. -/
def plusS (S : Nat → Bool) (ps : List Nat) (j : Nat) : Nat → Bool := fun i => S i || (ps.take j).contains i
theorem plusS_next {S : Nat → Bool} {ps : List Nat} {j x m : Nat} (h : ps[j]? = some x) (hx : x < m) : (mapR m (plusS S ps j)).set x true = mapR m (plusS S ps (j + 1)) := by
  rw [mapR_set _ _ hx]
  apply mapR_ext
  intro i _
  unfold plusS
  rw [take_snoc h, List.contains_eq_mem, List.contains_eq_mem]
  by_cases e : i = x
  · subst e; simp
  · rw [if_neg e]
    congr 1
    simp [e]
theorem made_false (L : Nat) : (madeCells (Value.bool false).cells L).toList = bools (List.replicate L false) := by
  have e : (Value.bool false).cells = #[.bool false] := rfl
  rw [e]
  apply List.ext_getElem?
  intro i
  simp only [madeCells, bools, List.map_replicate, List.getElem?_replicate, Array.toList_map, Array.toList_range, List.getElem?_map, List.size_toArray, List.length_cons, List.length_nil, Nat.zero_add, Nat.mod_one]
  by_cases h : i < L
  · rw [if_pos h, List.getElem?_range h]; rfl
  · rw [if_neg h, List.getElem?_eq_none (by simpa using h)]; rfl
theorem mapR_false (ks : List (List UInt8)) (p m : Nat) : mapR m (keyS ks p m 0) = List.replicate m false := by
  apply List.ext_getElem?
  intro i
  by_cases h : i < m
  · rw [mapR_at _ h, List.getElem?_replicate, if_pos h]; rfl
  · rw [List.getElem?_eq_none (by rw [mapR_len]; omega), List.getElem?_eq_none (by simp; omega)]

set_option maxRecDepth 100000 in
set_option maxHeartbeats 1000000 in
theorem rbuild_no (bits : Int) (ks : List (List UInt8)) (A : Option Addr) (n c : Nat) (w : World) (hn : n ≤ 9223372036854775807) (hr : RBs w w.heap.size A n ks) (h : buildE bits ks ≠ 0) :
    Calls Try.prog 26 #[.int .i64 bits, .slice A n c] w (BytesPost2 5 (bres bits ks) (buildE bits ks) w) := by
  have hl := hr.len
  have HB : Hid (bres bits ks = []) := Lib.hid (by unfold bres; rw [if_neg h])
  have hcase : (decide (bits < 1) = true ∧ buildE bits ks = 60) ∨ (decide (bits < 1) = false ∧ decide (20 < bits) = true ∧ buildE bits ks = 60) ∨ (decide (bits < 1) = false ∧ decide (20 < bits) = false ∧ decide ((1048576 : Int) < (n : Int)) = true ∧ buildE bits ks = 61) := by
    unfold buildE at h ⊢
    by_cases h1 : bits < 1
    · exact .inl ⟨decide_eq_true h1, by rw [if_pos (.inl h1)]⟩
    · by_cases h2 : 20 < bits
      · exact .inr (.inl ⟨decide_eq_false h1, decide_eq_true h2, by rw [if_pos (.inr h2)]⟩)
      · rw [if_neg (by omega)] at h ⊢
        by_cases h3 : 1048576 < ks.length
        · exact .inr (.inr ⟨decide_eq_false h1, decide_eq_false h2, decide_eq_true (by omega), by rw [if_pos h3]⟩)
        · rw [if_neg h3] at h; exact absurd rfl h
  rw [HB.out]
  clear hr hl h
  rcases hcase with ⟨d1, hE⟩ | ⟨d1, d2, hE⟩ | ⟨d1, d2, d3, hE⟩
  all_goals
    rw [hE]
    clear hE
    go_enter Try.func26, Try.ntmps26
    go_wp2
    go_ret2
    exact bytes_none2 (Below.refl _ _)

set_option maxRecDepth 100000 in
set_option maxHeartbeats 4000000 in
theorem rbuild_ok (bits : Int) (ks : List (List UInt8)) (A : Option Addr) (n c : Nat) (w : World) (hr : RBs w w.heap.size A n ks) (h : buildE bits ks = 0) :
    Calls Try.prog 26 #[.int .i64 bits, .slice A n c] w (BytesPost2 5 (bres bits ks) (buildE bits ks) w) := by
  have hl := hr.len
  obtain ⟨q1, q2, q3⟩ := buildE_zero h
  have hP := buildP_le h
  have hM1 := buildM_ge bits ks
  have hM2 := buildM_le h
  have hM3 := buildM_mod bits ks
  have hraw := buildM_raw (ks := ks) q1 q2 q3
  have HB : Hid (bres bits ks = filterB (buildP bits) (buildM bits ks) (buildS (buildP bits) (buildM bits ks) ks)) := Lib.hid (by unfold bres; rw [if_pos h]; rfl)
  have hPd : buildP bits = max 1 (7 * bits.toNat / 10) := rfl
  have hMd : buildM bits ks = max 64 (((unl ks).length * bits.toNat + 7) / 8 * 8) := rfl
  have hU := unl_le ks
  rw [h]
  obtain ⟨nb, rfl⟩ : ∃ nb : Nat, bits = (nb : Int) := ⟨bits.toNat, by omega⟩
  rw [Int.toNat_natCast] at hraw hPd hMd
  obtain ⟨P, hPP⟩ : ∃ P, P = buildP nb := ⟨_, rfl⟩
  obtain ⟨M, hMM⟩ : ∃ M, M = buildM nb ks := ⟨_, rfl⟩
  obtain ⟨U, hUU⟩ : ∃ U, U = (unl ks).length := ⟨_, rfl⟩
  rw [← hPP] at hP hPd HB
  rw [← hMM] at hM1 hM2 hM3 hMd HB
  rw [← hUU] at hraw hMd hU
  have XU := Lib.hid hUU
  have HSH := Lib.hid (rshape_any nb U P M · (by omega) (by omega) hraw hPd hMd)
  rw [HB.out]
  have HR : Hid (∀ w', Below w.heap.size w w' → RBs w' w'.heap.size A n ks) := Lib.hid fun w' h => hr.later h
  have HL := Lib.hid hl
  have d1 : decide ((nb : Int) < 1) = false := decide_eq_false (by omega)
  have d2 : decide ((20 : Int) < (nb : Int)) = false := decide_eq_false (by omega)
  have d3 : decide ((1048576 : Int) < (n : Int)) = false := decide_eq_false (by omega)
  have hn20 : n ≤ 1048576 := by omega
  have hMpos : (0 : Int) ≤ (M : Int) := by omega
  clear hr hl h q1 q2 q3 hraw hPd hMd hU hPP hMM hUU
  obtain ⟨hp1, hp2⟩ := hP
  go_enter Try.func26, Try.ntmps26
  go_wp2_with (first
    | (go_at_call 39; go_must (refine (unlike_any ks A n c _ (by omega) (HR.out _ (Below.refl _ _))).mono ?_); rintro e w1 ⟨rfl, hb1⟩; rw [← XU.out]; have HB1 := Lib.hid hb1; clear hb1)
    | (go_at_call 38; go_must (refine (HSH.out _).mono ?_); rintro e wn ⟨rfl, rfl⟩)
    | (at_make; go_must (refine wpList_make_full _ rfl (.tmp 28) (.tmp 28) 67 rfl w1.heap.size 4 Try.t4 (.bool false) 1 Try.underlying67 (by kernel_rfl) rfl rfl .i64 .i64 _ _ M rfl rfl rfl rfl (by show 1 * _ ≤ _; omega) (by unfold maxLen; omega) (Nat.le_refl _) ?_); intro w2 hown2 hg2; have hb2 := below_grown_none hg2; have HB2 := Lib.hid (HB1.out.trans (hb2.mono HB1.out.size)); have HO2 := Lib.hid hown2; clear hown2 hg2 hb2))
  obtain ⟨g, hg⟩ : ∃ g, g = w1.heap.size := ⟨_, rfl⟩
  have HGW : Hid (w.heap.size ≤ g) := Lib.hid (by rw [hg]; exact HB1.out.size)
  have HO3 : Hid (w2.ownsRow w.heap.size 4 1 (.slice (some ⟨g, 0, none⟩) M M) M (bools (mapR M (keyS ks P M 0)))) := Lib.hid (by
    have h := HO2.out
    rw [made_false, Nat.mul_one, ← mapR_false ks P M, ← hg] at h
    exact World.ownsRow.mono h HGW.out)
  rw [← hg]
  clear HO2 hg
  go_wp2_with fail
  go_loopw [9] (fun i wr => ∃ k : Nat, k ≤ n ∧ i = .int .i64 k ∧ Hid (wr.ownsRow w.heap.size 4 1 (.slice (some ⟨g, 0, none⟩) M M) M (bools (mapR M (keyS ks P M k)))) ∧ Hid (Below w.heap.size w wr)) (fun i _ => n - (intOf i).toNat)
  case atStart => exact ⟨0, Nat.zero_le _, rfl, HO3, HB2⟩
  case round =>
    clear HO3 HB2
    obtain ⟨k, hk, rfl, HOS, HB⟩ := hrel
    by_cases hlt : k < n
    case neg =>
      have HRS : Hid (Reads wr wr.heap.size 1 (some ⟨g, 0, none⟩) M (bools (mapR M (buildS P M ks)))) := Lib.hid (by
        have h := HOS.out
        unfold keyS at h
        rw [take_all (by rw [HL.out]; omega)] at h
        exact Reads.own h)
      have HFE : Hid (filterB P M (bitOf (mapR M (buildS P M ks))) = filterB P M (buildS P M ks)) := Lib.hid (filterB_ext _ _ fun i hi => bitOf_mapR _ hi)
      go_wp2_with (go_at_call 41; go_must (refine (laid_any P (mapR M (buildS P M ks)) (some ⟨g, 0, none⟩) M M _ (by omega) hM3 (by omega) HRS.out).mono ?_); rw [HFE.out]; rintro e w3 ⟨A3, c3, rfl, hO3, hb3⟩; have HB3 := Lib.hid (HB.out.trans (hb3.mono HB.out.size)); have HO3 := Lib.hid (hO3.rebase HB.out.size); clear hO3 hb3)
      go_ret2
      exact ⟨A3, c3, rfl, HO3.out, HB3.out⟩
    obtain ⟨b, o, x, a, ca, rfl, _, hx, hcell, _, hcl, _, hrx⟩ := (HR.out _ HB.out).at_ hlt
    obtain ⟨ps, hps⟩ : ∃ ps, ps = placesN x P M := ⟨_, rfl⟩
    have XPS := Lib.hid hps
    have HXK := Lib.hid hx
    have HPLT : Hid (∀ y ∈ ps, y < M) := Lib.hid (by rw [hps]; exact placesN_lt _ _ _ (by omega))
    have HPL : Hid (ps.length = P) := Lib.hid (by rw [hps]; simp [placesN])
    have HRX := Lib.hid hrx
    have hxl : x.length ≤ 9223372036854775807 := by omega
    clear hps hx hrx
    go_wp2_with (go_at_call 40; go_must (refine (places_any x a x.length ca P M _ hxl HRX.out (by omega) (by omega) (by omega)).mono ?_); rintro e w4 hp; rw [← XPS.out] at hp; obtain ⟨A4, c4, rfl, hO4, hb4⟩ := hp.at_ HPL.out; have HB4 := Lib.hid (HB.out.trans (hb4.mono HB.out.size)); have HO4 := Lib.hid hO4; have HS4 := Lib.hid (own_below HOS.out hb4); clear hp hO4 hb4)
    obtain ⟨g4, cap4, e4, hg41, _⟩ := own_form HO4.out (by omega)
    injection e4 with e4 _ e5
    subst e4
    have HNE : Hid (g4 ≠ g) := Lib.hid (by have h2 := (World.ownsRow.lt HOS.out g rfl).2; omega)
    clear hg41 e5
    go_loopw [11] (fun y wr' => ∃ j : Nat, j ≤ P ∧ y = .int .i64 j ∧ Hid (wr'.ownsRow w.heap.size 4 1 (.slice (some ⟨g, 0, none⟩) M M) M (bools (mapR M (plusS (keyS ks P M k) ps j)))) ∧ Hid (wr'.ownsRow wr.heap.size 3 1 (.slice (some ⟨g4, 0, none⟩) P c4) P (i64s ps)) ∧ Hid (Below w.heap.size w wr')) (fun y _ => P - (intOf y).toNat)
    case atStart => exact ⟨0, Nat.zero_le _, rfl, Lib.hid (by have h := HS4.out; rw [mapR_ext (g := keyS ks P M k) fun i _ => by unfold plusS; simp]; exact h), HO4, HB4⟩
    case round =>
      obtain ⟨j, hj, rfl, HOJ, HOI, HBJ⟩ := hrel
      by_cases hjl : j < P
      case neg =>
        have HN : Hid (wr.ownsRow w.heap.size 4 1 (.slice (some ⟨g, 0, none⟩) M M) M (bools (mapR M (keyS ks P M (k + 1))))) := Lib.hid (by
          have h := HOJ.out
          rw [mapR_ext (g := keyS ks P M (k + 1)) fun i _ => by rw [keyS_next HXK.out, ← XPS.out]; unfold plusS; rw [take_all (by rw [HPL.out]; omega)]] at h
          exact h)
        go_wp2_with fail
        go_roundw
        case rel => exact ⟨k + 1, by omega, by go_num, HN, HBJ⟩
        case measure => simp [intOf]; omega
      obtain ⟨y, hy⟩ : ∃ y, ps[j]? = some y := ⟨_, List.getElem?_eq_getElem (by rw [HPL.out]; exact hjl)⟩
      have hyM := HPLT.out y (List.mem_of_getElem? hy)
      have hci : wr.cell? ⟨g4, j, none⟩ = some (.int .i64 (y : Int)) := (World.ownsRow.cellAt HOI.out j (by omega)).trans (by simp [i64s, hy])
      obtain ⟨old, hold⟩ : ∃ old, (bools (mapR M (plusS (keyS ks P M k) ps j)))[y]? = some old := ⟨_, bools_at (mapR_at _ hyM)⟩
      have hcs : wr.cell? ⟨g, y, none⟩ = some old := (World.ownsRow.cellAt HOJ.out y (by omega)).trans hold
      have hfz : wr.frozen? ⟨g, y, none⟩ = false := World.ownsRow.frozenAt HOJ.out y
      have HST := Lib.hid (World.ownsRow.stored HOJ.out y (.bool true))
      have HNX : Hid ((bools (mapR M (plusS (keyS ks P M k) ps j))).set y (.bool true) = bools (mapR M (plusS (keyS ks P M k) ps (j + 1)))) := Lib.hid (by rw [bools_set, plusS_next hy hyM])
      clear hy hold
      go_wp2_with fail
      go_roundw
      case rel => exact ⟨j + 1, by omega, by go_num, Lib.hid (by have h := HST.out.1; rw [HNX.out] at h; exact h), Lib.hid (own_chg HOI.out (Chg.setCell wr ⟨g, y, none⟩ (.bool true)) fun b hb e => HNE.out (by injection hb with hb; exact hb.trans e)), Lib.hid (HBJ.out.setCell (p := ⟨g, y, none⟩) HGW.out _)⟩
      case measure => simp [intOf]; omega
theorem rbuild_any (bits : Int) (ks : List (List UInt8)) (A : Option Addr) (n c : Nat) (w : World) (hn : n ≤ 9223372036854775807) (hr : RBs w w.heap.size A n ks) :
    Calls Try.prog 26 #[.int .i64 bits, .slice A n c] w (BytesPost2 5 (bres bits ks) (buildE bits ks) w) := by
  by_cases h : buildE bits ks = 0
  · exact rbuild_ok bits ks A n c w hr h
  · exact rbuild_no bits ks A n c w hn hr h
end Go.Proofs.Ythjjihipodhkiaa
