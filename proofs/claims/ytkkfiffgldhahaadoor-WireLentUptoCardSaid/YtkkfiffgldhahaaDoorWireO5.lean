/-
  WireOwn, walked.
-/
import Derived.Test.YtkkfiffgldhahaaDoorWireO3
import Derived.Test.YtkkfiffgldhahaaDoorWireO4
import Derived.Test.YtkkfiffgldhahaaDoorWireP10
namespace Go.Proofs.YtkkfiffgldhahaaDoor
open Go.RowKit

theorem cutS_le (l : List UInt8) (k m : Nat) : (cutS l k m).length ≤ l.length := by
  unfold cutS
  rw [List.length_take, List.length_drop]; omega
theorem readBy_le (l : List UInt8) (a most : Int) : (readBy l a most).1.length ≤ l.length := by
  unfold readBy
  split
  · simp
  · split
    · simp
    · split
      · simp
      · split
        · simp
        · exact cutS_le _ _ _
theorem readO_le (l : List UInt8) (a : Int) : (readO l a).1.length ≤ l.length := by
  by_cases h : (readO l a).2.2 = 0
  · exact (readO_end l a h).2.2.2.2
  · unfold readO at h ⊢
    split
    · simp
    · rename_i h1
      rw [if_neg h1] at h
      unfold glO at h ⊢
      split
      · rename_i h2
        rw [if_pos h2] at h
        exact absurd rfl h
      · simp
theorem readFA_le (l : List UInt8) (a : Int) : (readFA l a).1.length ≤ l.length := by
  unfold readFA readF
  split
  · simp
  · split
    · simp
    · split
      · simp
      · split
        · simp
        · split
          · simp
          · split
            · simp
            · exact cutS_le _ _ _
theorem ans_le {v : Nat} {l all : List UInt8} {a : Int} (hv : v < 18446744073709551616) (hl : l.length ≤ 1048576) (hm : all.length ≤ 1048576) : ∀ (i : Nat) k, (ansB v l all a)[i]? = some k → k.length ≤ 16777216 := by
  intro i k hk
  have hmem : k ∈ ansB v l all a := List.mem_of_getElem? hk
  unfold ansB at hmem
  rcases List.mem_append.1 hmem with h | h
  · obtain ⟨j, hj, rfl⟩ := List.mem_map.1 h
    have h10 := uintB_ten hv
    have h11 := uintB_ten (v := l.length) (by omega)
    match j, List.mem_range.1 hj with
    | 0, _ => show (uintB v).length ≤ _; omega
    | 1, _ => show (risB (v / 2)).length ≤ _; rw [rTo_len8]; omega
    | 2, _ => show (risB (9223372036854775807 - v / 2)).length ≤ _; rw [rTo_len8]; omega
    | 3, _ => show (uintB l.length ++ l).length ≤ _; rw [List.length_append]; omega
    | 4, _ => show (ordB l).length ≤ _; have := ordB_len l; omega
    | 5, _ => show (frameB l).length ≤ _; rw [frameB_length]; omega
  · have h1 := readBy_le all a all.length
    have h2 := readO_le all a
    have h3 := readFA_le all a
    simp only [List.mem_cons, List.not_mem_nil, or_false] at h
    rcases h with rfl | rfl | rfl <;> omega

set_option maxRecDepth 100000 in
set_option maxHeartbeats 4000000 in
theorem ownL_any (v : Nat) (l all : List UInt8) (A D : Option Addr) (n c m d : Nat) (a : Int) (w : World) (hv : v < 18446744073709551616) (hs : Sl w A n c l) (hn : n ≤ 1048576) (hd : Sl w D m d all) (hm : m ≤ 1048576) (ht : TabAt 0 w) :
    Calls Tryd.prog 8 #[.int .u64 v, .slice A n c, .slice D m d, .int .i64 a] w fun e w' => e = .returned (.bool true) ∧ Below w.heap.size w w' := by
  have HT : Hid (∀ w', Below w.heap.size w w' → TabAt 0 w') := Lib.hid fun w' h => ht.later h
  have HA : Hid (∀ w', Below w.heap.size w w' → Sl w' A n c l) := Lib.hid fun w' h => hs.later h
  have HD : Hid (∀ w', Below w.heap.size w w' → Sl w' D m d all) := Lib.hid fun w' h => hd.later h
  have HFA : Hid (([l] : List (List UInt8)).flatten = l ∧ l.length = n) := Lib.hid ⟨by simp, hs.len⟩
  have HFD : Hid (([all] : List (List UInt8)).flatten = all ∧ all.length = m) := Lib.hid ⟨by simp, hd.len⟩
  obtain ⟨KS, hKS⟩ : ∃ K, K = ansB v l all a := ⟨_, rfl⟩
  have XK := Lib.hid hKS
  have HLE : Hid (∀ (i : Nat) k, KS[i]? = some k → k.length ≤ 16777216) := Lib.hid (by rw [hKS]; exact ans_le hv (by rw [hs.len]; omega) (by rw [hd.len]; omega))
  have HLE2 : Hid (∀ (i : Nat) k, KS[i]? = some k → k.length ≤ 140737488355000) := Lib.hid fun i k h => Nat.le_trans (HLE.out i k h) (by omega)
  have XS : Hid ((l == l) = true ∧ (all == all) = true) := Lib.hid ⟨by simp, by simp⟩
  have HV := Lib.hid hv
  have tok1 : True := trivial
  have tok2 : True := trivial
  have tok3 : True := trivial
  have tok4 : True := trivial
  have tok5 : True := trivial
  have tok6 : True := trivial
  clear hs hd ht hKS hv
  go_enter Tryd.func8, Tryd.ntmps8
  go_upto_region 7 with (first
    | (go_at_call 23; have _t := tok1; go_must (refine (join_any [l] _ 1 1 _ (by omega) ((HA.out _ (Below.refl _ _)).one _ _) (by rw [HFA.out.1, HFA.out.2]; omega)).mono ?_); rintro e w1 hz; rw [HFA.out.1] at hz; obtain ⟨A1, c1, rfl, hS1, _, hb1⟩ := hz.at_ HFA.out.2; have hb0 := (Below.refl w.heap.size w).alloc (Nat.le_refl _) (.cells #[.slice A n c] 22); have HB1 := Lib.hid (hb0.trans (hb1.mono hb0.size)); have HS1 := Lib.hid hS1; clear tok1 hz hS1 hb1 hb0)
    | (go_at_call 23; have _t := tok2; go_must (refine (join_any [all] _ 1 1 _ (by omega) ((HD.out _ HB1.out).one _ _) (by rw [HFD.out.1, HFD.out.2]; omega)).mono ?_); rintro e w2 hz; rw [HFD.out.1] at hz; obtain ⟨A2, c2, rfl, hS2, _, hb2⟩ := hz.at_ HFD.out.2; have hb0 := (Below.refl w1.heap.size w1).alloc (Nat.le_refl _) (.cells #[.slice D m d] 22); have h12 := hb0.trans (hb2.mono hb0.size); have HB2 := Lib.hid (HB1.out.trans (h12.mono HB1.out.size)); have HS2 := Lib.hid hS2; have HS12 := Lib.hid (HS1.out.later h12); clear tok2 hz hS2 hb2 hb0 h12)
    | (go_at_call 35; have _t := tok3; go_must (refine (answers_any v l all A D n c m d a _ HV.out (HA.out _ HB2.out) hn (HD.out _ HB2.out) hm (HT.out _ HB2.out)).mono ?_); rintro e w3 ⟨A3, c3, rs3, rfl, hlr3, hb3⟩; rw [← XK.out] at hlr3; have HL3 := Lib.hid hlr3; have HB3 := Lib.hid (HB2.out.trans (hb3.mono HB2.out.size)); have HB23 := Lib.hid hb3; clear tok3 hlr3 hb3)
    | (go_at_call 36; go_must (refine (kept_any KS A3 9 c3 _ HL3.out.rbs (by omega) HLE2.out).mono ?_); rintro e w4 ⟨A4, c4, rs4, rfl, hlr4, hb4⟩; have HL4 := Lib.hid hlr4; have HL34 := Lib.hid (HL3.out.later hb4); have HB4 := Lib.hid (HB3.out.trans (hb4.mono HB3.out.size)); have HB24 := Lib.hid (HB23.out.trans (hb4.mono HB23.out.size)); have HLT4 : Hid (∀ b, InR rs3 b → b < w3.heap.size) := Lib.hid (fun b ⟨i, r, x, h1, h2, h3⟩ => h3 ▸ ((HL3.out.rows.1 i r h1).lt h2).2); clear hlr4 hb4)
    | (go_at_call 37; go_must (refine (filled_any w2.heap.size KS A3 9 c3 rs3 _ HL34.out (by omega) HLE.out HB24.out.size).mono ?_); rintro e w5 ⟨A5, c5, rfl, hst5, hch5, hb5⟩; have HST5 := Lib.hid hst5; have HB25 := Lib.hid (HB24.out.trans hb5); have HB5 := Lib.hid (HB2.out.trans (HB25.out.mono HB2.out.size)); have HT5 := Lib.hid hst5; have S15 := Lib.hid (HS12.out.later HB25.out); have S25 := Lib.hid (HS2.out.later HB25.out); have HL45 := Lib.hid (HL4.out.chg hch5 (fun x hx e => by subst hx; have h1 := HLT4.out _ e; have h2 := (World.ownsRow.lt HL4.out.ol x.block rfl).1; omega) (fun i r x hr hx e => by have h1 := HLT4.out _ e; have h2 := ((HL4.out.rows.1 i r hr).lt hx).1; omega)); have HL5 := HL45; clear hst5 hch5 hb5)
    | (go_at_call 35; go_must (refine (answers_any v l all A D n c m d a _ HV.out (HA.out _ HB5.out) hn (HD.out _ HB5.out) hm (HT.out _ HB5.out)).mono ?_); rintro e w6 ⟨A6, c6, rs6, rfl, hlr6, hb6⟩; rw [← XK.out] at hlr6; have HL6 := Lib.hid hlr6; have HB56 := Lib.hid hb6; have HB6 := Lib.hid (HB5.out.trans (hb6.mono HB5.out.size)); have HST6 := Lib.hid (HST5.out.later hb6); have HL46 := Lib.hid (HL45.out.later hb6); have S1 := Lib.hid ((HS12.out.later HB25.out).later hb6); have S2 := Lib.hid ((HS2.out.later HB25.out).later hb6); clear hlr6 hb6))
  clear HL3 HL34 HLT4 HST5 HL4 HL45 HS1 HS2 HS12
  go_upto_region 9 with (first
    | (go_at_call 38; go_must (refine (stand_any A3 A5 9 c3 c5 _ HST6.out (by omega)).mono ?_); rintro e wn ⟨rfl, rfl⟩)
    | (go_at_call 39; go_must (refine (sameAll_any KS A6 A4 9 c6 c4 _ HL6.out.rbs HL46.out.rbs (by omega)).mono ?_); rintro e w7 ⟨rfl, hb7⟩; have HB67 := Lib.hid hb7; have HB7 := Lib.hid (HB6.out.trans (hb7.mono HB6.out.size)); have HST7 := Lib.hid (HST6.out.later hb7); have HL47 := Lib.hid (HL46.out.later hb7); have HL67 := Lib.hid (HL6.out.later hb7); have S17 := Lib.hid (S1.out.later hb7); have S27 := Lib.hid (S2.out.later hb7); clear hb7)
    | (go_at_call 24; have _t := tok5; go_must (refine (same_any l l A A1 n c n c1 _ (HA.out _ HB7.out).rb S17.out.rb).mono ?_); rw [XS.out.1]; rintro e wn ⟨rfl, rfl⟩; clear tok5)
    | (go_at_call 24; go_must (refine (same_any all all D A2 m d m c2 _ (HD.out _ HB7.out).rb S27.out.rb).mono ?_); rw [XS.out.2]; rintro e wn ⟨rfl, rfl⟩))
  have HB57 := Lib.hid (HB56.out.trans (HB67.out.mono HB56.out.size))
  go_wp2_with (first
    | (go_at_call 37; go_must (refine (filled_any w5.heap.size KS A6 9 c6 rs6 _ HL67.out (by omega) HLE.out HB57.out.size).mono ?_); rintro e w8 ⟨A8, c8, rfl, hst8, hch8, hb8⟩; have HST8 := Lib.hid hst8; have HB58 := Lib.hid (HB57.out.trans hb8); have HB8 := Lib.hid (HB5.out.trans (HB58.out.mono HB5.out.size)); clear hst8 hch8 hb8)
    | (go_at_call 35; go_must (refine (answers_any v l all A D n c m d a _ HV.out (HA.out _ HB8.out) hn (HD.out _ HB8.out) hm (HT.out _ HB8.out)).mono ?_); rintro e w9 ⟨A9, c9, rs9, rfl, hlr9, hb9⟩; rw [← XK.out] at hlr9; have HL9 := Lib.hid hlr9; have HB89 := Lib.hid hb9; have HB9 := Lib.hid (HB8.out.trans (hb9.mono HB8.out.size)); have HB59 := Lib.hid (HB58.out.trans (hb9.mono HB58.out.size)); clear hlr9 hb9)
    | (go_at_call 18; go_must (refine (started_any _ (HT.out _ HB9.out)).mono ?_); rintro e w10 ⟨rfl, hb10⟩; have HB10 := Lib.hid (HB9.out.trans (hb10.mono HB9.out.size)); have HB910 := Lib.hid hb10; have HB510 := Lib.hid (HB59.out.trans (hb10.mono HB59.out.size)); have HB810 := Lib.hid (HB89.out.trans (hb10.mono HB89.out.size)); clear hb10)
    | (go_at_call 38; have _t := tok4; go_must (refine (stand_any A3 A5 9 c3 c5 _ (HT5.out.later HB510.out) (by omega)).mono ?_); rintro e wn ⟨rfl, rfl⟩; clear tok4)
    | (go_at_call 38; go_must (refine (stand_any A6 A8 9 c6 c8 _ (HST8.out.later HB810.out) (by omega)).mono ?_); rintro e wn ⟨rfl, rfl⟩)
    | (go_at_call 39; go_must (refine (sameAll_any KS A9 A4 9 c9 c4 _ (HL9.out.later HB910.out).rbs (HL5.out.later HB510.out).rbs (by omega)).mono ?_); rintro e w11 ⟨rfl, hb11⟩; have HB11 := Lib.hid (HB10.out.trans (hb11.mono HB10.out.size)); have S111 := Lib.hid ((S15.out.later HB510.out).later hb11); have S211 := Lib.hid ((S25.out.later HB510.out).later hb11); clear hb11)
    | (go_at_call 24; have _t := tok6; go_must (refine (same_any l l A A1 n c n c1 _ (HA.out _ HB11.out).rb S111.out.rb).mono ?_); rw [XS.out.1]; rintro e wn ⟨rfl, rfl⟩; clear tok6)
    | (go_at_call 24; go_must (refine (same_any all all D A2 m d m c2 _ (HD.out _ HB11.out).rb S211.out.rb).mono ?_); rw [XS.out.2]; rintro e wn ⟨rfl, rfl⟩))
  go_ret
  exact ⟨rfl, HB11.out⟩

theorem ownL_at (z : Int) (l all : List UInt8) (A D : Option Addr) (n c m d : Nat) (a : Int) (w : World) (hz : 0 ≤ z ∧ z < 18446744073709551616) (hs : Sl w A n c l) (hn : n ≤ 1048576) (hd : Sl w D m d all) (hm : m ≤ 1048576) (ht : TabAt 0 w) :
    Calls Tryd.prog 8 #[.int .u64 z, .slice A n c, .slice D m d, .int .i64 a] w fun e w' => e = .returned (.bool true) ∧ Below w.heap.size w w' := by
  obtain ⟨v, rfl⟩ : ∃ v : Nat, z = (v : Int) := ⟨z.toNat, by omega⟩
  exact ownL_any v l all A D n c m d a w (by omega) hs hn hd hm ht

end Go.Proofs.YtkkfiffgldhahaaDoor
