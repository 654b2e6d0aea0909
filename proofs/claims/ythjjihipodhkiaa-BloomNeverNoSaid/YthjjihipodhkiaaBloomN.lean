/-
  BloomNeverNo, walked.
-/
import Derived.Test.YthjjihipodhkiaaBloomU
namespace Go.Proofs.Ythjjihipodhkiaa
open Go.RowKit

theorem filterB_has (p m : Nat) (S : Nat → Bool) (k : List UInt8) (hp1 : 1 ≤ p) (hp2 : p ≤ 14) (hm1 : 64 ≤ m) (hm2 : m ≤ 20971520) (h8 : m % 8 = 0) (h : ∀ i ∈ placesN k p m, S i = true) : hasB (filterB p m S) k = true := by
  unfold hasB
  obtain ⟨e1, e2⟩ := filterB_shape p m S (by omega) (by omega)
  rw [filterB_isF p m S hp1 hp2 hm1 hm2 h8, e1, e2, Bool.true_and, List.all_eq_true]
  intro i hi
  have hlt : i < m := by
    obtain ⟨t, _, rfl⟩ := List.mem_map.1 hi
    exact placeN_lt _ _ _ (by omega)
  rw [filterB_bit p m S i hlt h8]
  exact h i hi
section
variable {bits : Int} {a b : List (List UInt8)}
theorem never_has (ha : buildE bits a = 0) (k : List UInt8) (hk : k ∈ a) : hasB (bres bits a) k = true := by
  unfold bres
  rw [if_pos ha]
  exact filterB_has _ _ _ _ (buildP_le ha).1 (buildP_le ha).2 (buildM_ge _ _) (buildM_le ha) (buildM_mod _ _) fun i hi => List.any_eq_true.2 ⟨k, hk, List.contains_iff_mem.2 hi⟩
theorem never_check (ha : buildE bits a = 0) : checkE (bres bits a) = 0 := by
  unfold bres checkE
  rw [if_pos ha, buildB_isF ha]; rfl
theorem never_union (ha : buildE bits a = 0) (hb : buildE bits b = 0) :
    (unionE (bres bits a) (bres bits b) = 0 ∧ checkE (ures (bres bits a) (bres bits b)) = 0 ∧ ∀ k ∈ a, hasB (ures (bres bits a) (bres bits b)) k = true) ∨
    (unionE (bres bits a) (bres bits b) = 63 ∧ ures (bres bits a) (bres bits b) = []) := by
  have e1 : bres bits a = buildB bits a := by unfold bres; rw [if_pos ha]
  have e2 : bres bits b = buildB bits b := by unfold bres; rw [if_pos hb]
  rw [e1, e2]
  have u1 := unions_E ha hb
  by_cases hm : buildM bits a = buildM bits b
  · rw [if_pos hm] at u1
    have eu : ures (buildB bits a) (buildB bits b) = filterB (buildP bits) (buildM bits a) (fun i => buildS (buildP bits) (buildM bits a) a i || buildS (buildP bits) (buildM bits a) b i) := by
      unfold ures
      rw [if_pos u1]
      unfold buildB
      rw [← hm, filterB_orB]
    refine .inl ⟨u1, ?_, fun k hk => ?_⟩
    · unfold checkE
      rw [eu, filterB_isF _ _ _ (buildP_le ha).1 (buildP_le ha).2 (buildM_ge _ _) (buildM_le ha) (buildM_mod _ _)]; rfl
    · rw [eu]
      refine filterB_has _ _ _ _ (buildP_le ha).1 (buildP_le ha).2 (buildM_ge _ _) (buildM_le ha) (buildM_mod _ _) fun i hi => ?_
      have : buildS (buildP bits) (buildM bits a) a i = true := List.any_eq_true.2 ⟨k, hk, List.contains_iff_mem.2 hi⟩
      rw [this]; rfl
  · rw [if_neg hm] at u1
    refine .inr ⟨u1, ?_⟩
    unfold ures
    rw [if_neg (by rw [u1]; decide)]
end

set_option maxRecDepth 100000 in
set_option maxHeartbeats 4000000 in
theorem never_err (bits : Int) (a b : List (List UInt8)) (A B : Option Addr) (n c m d : Nat) (w : World) (hn : n ≤ 9223372036854775807) (hr : RBs w w.heap.size A n a) (hm : m ≤ 9223372036854775807) (hs : RBs w w.heap.size B m b)
    (h0 : buildE bits a ≠ 0 ∨ buildE bits b ≠ 0) :
    Calls Try.prog 10 #[.int .i64 bits, .slice A n c, .slice B m d] w fun e w' => e = .returned (.bool true) ∧ Below w.heap.size w w' := by
  have HR : Hid (∀ w', Below w.heap.size w w' → RBs w' w'.heap.size A n a) := Lib.hid fun w' h => hr.later h
  have HS : Hid (∀ w', Below w.heap.size w w' → RBs w' w'.heap.size B m b) := Lib.hid fun w' h => hs.later h
  have XA : Hid (buildE bits a ≠ 0 → (bres bits a).length = 0) := Lib.hid fun h => by unfold bres; rw [if_neg h]; rfl
  have XB : Hid (buildE bits b ≠ 0 → (bres bits b).length = 0) := Lib.hid fun h => by unfold bres; rw [if_neg h]; rfl
  obtain ⟨ea, hea⟩ : ∃ x, x = buildE bits a := ⟨_, rfl⟩
  obtain ⟨eb, heb⟩ : ∃ x, x = buildE bits b := ⟨_, rfl⟩
  rw [← hea, ← heb] at h0
  rw [← hea] at XA
  rw [← heb] at XB
  have HEA := Lib.hid hea
  have HEB := Lib.hid heb
  have tok1 : True := trivial
  have hd : ((ea : Int) != 0) = true ∧ ea ≠ 0 ∨ (((ea : Int) != 0) = false ∧ ((eb : Int) != 0) = true ∧ eb ≠ 0) := by
    by_cases h1 : ea = 0
    · exact .inr ⟨by simp [h1], by rw [bne_iff_ne]; omega, by omega⟩
    · exact .inl ⟨by rw [bne_iff_ne]; omega, h1⟩
  clear h0 hr hs hea heb
  rcases hd with ⟨d1, h1⟩ | ⟨d1, d2, h2⟩
  · have XL := Lib.hid (XA.out h1)
    clear h1
    go_enter Try.func10, Try.ntmps10
    go_wp2_with (first
      | (go_at_call 14; refine (num_any _ _).mono ?_; rintro e wn ⟨rfl, rfl⟩)
      | (go_at_call 12; refine (started_any _).mono ?_; rintro e w0 ⟨rfl, hb0⟩; have HB0 := Lib.hid hb0; clear hb0)
      | (go_at_call 13; go_must (refine (build_any bits a A n c _ hn (HR.out _ HB0.out)).mono ?_); rintro e w3 hp; have hp := build_post hp; rw [← HEA.out] at hp; obtain ⟨A3, c3, rfl, hS3, _, hb3⟩ := hp.at_ XL.out rfl; have HB3 := Lib.hid (HB0.out.trans (hb3.mono HB0.out.size)); clear hp hS3 hb3))
    go_ret
    exact ⟨rfl, HB3.out⟩
  · have XL := Lib.hid (XB.out h2)
    clear h2
    go_enter Try.func10, Try.ntmps10
    go_wp2_with (first
      | (go_at_call 14; refine (num_any _ _).mono ?_; rintro e wn ⟨rfl, rfl⟩)
      | (go_at_call 12; refine (started_any _).mono ?_; rintro e w0 ⟨rfl, hb0⟩; have HB0 := Lib.hid hb0; clear hb0)
      | (go_at_call 13; have _t := tok1; go_must (refine (build_any bits a A n c _ hn (HR.out _ HB0.out)).mono ?_); rintro e w3 hp; have hp := build_post hp; rw [← HEA.out] at hp; obtain ⟨A3, c3, rfl, hS3, _, hb3⟩ := hp.at_ rfl rfl; have HB3 := Lib.hid (HB0.out.trans (hb3.mono HB0.out.size)); clear tok1 hp hS3 hb3)
      | (go_at_call 13; go_must (refine (build_any bits b B m d _ hm (HS.out _ HB3.out)).mono ?_); rintro e w4 hp; have hp := build_post hp; rw [← HEB.out] at hp; obtain ⟨A4, c4, rfl, hS4, _, hb4⟩ := hp.at_ XL.out rfl; have HB4 := Lib.hid (HB3.out.trans (hb4.mono HB3.out.size)); clear hp hS4 hb4))
    go_ret
    exact ⟨rfl, HB4.out⟩

set_option maxRecDepth 100000 in
set_option maxHeartbeats 4000000 in
theorem never_ok (bits : Int) (a b : List (List UInt8)) (A B : Option Addr) (n c m d : Nat) (w : World) (hn : n ≤ 9223372036854775807) (hr : RBs w w.heap.size A n a) (hm : m ≤ 9223372036854775807) (hs : RBs w w.heap.size B m b)
    (ha : buildE bits a = 0) (hb : buildE bits b = 0) :
    Calls Try.prog 10 #[.int .i64 bits, .slice A n c, .slice B m d] w fun e w' => e = .returned (.bool true) ∧ Below w.heap.size w w' := by
  have HR : Hid (∀ w', Below w.heap.size w w' → RBs w' w'.heap.size A n a) := Lib.hid fun w' h => hr.later h
  have HS : Hid (∀ w', Below w.heap.size w w' → RBs w' w'.heap.size B m b) := Lib.hid fun w' h => hs.later h
  have HEA : Hid ((buildE bits a : Int) = 0) := Lib.hid (by rw [ha]; rfl)
  have HEB : Hid ((buildE bits b : Int) = 0) := Lib.hid (by rw [hb]; rfl)
  have hu := never_union ha hb
  have hh : Hid (∀ k ∈ a, hasB (bres bits a) k = true) := Lib.hid fun k hk => never_has ha k hk
  have hc := never_check ha
  have HAL := Lib.hid hr.len
  obtain ⟨F, hF⟩ : ∃ x, x = bres bits a := ⟨_, rfl⟩
  obtain ⟨G, hG⟩ : ∃ x, x = bres bits b := ⟨_, rfl⟩
  rw [← hF, ← hG] at hu
  rw [← hF] at hh hc
  obtain ⟨E, hE⟩ : ∃ x, x = unionE F G := ⟨_, rfl⟩
  obtain ⟨U, hU⟩ : ∃ x, x = ures F G := ⟨_, rfl⟩
  rw [← hE, ← hU] at hu
  obtain ⟨LF, hLF⟩ : ∃ x, x = F.length := ⟨_, rfl⟩
  obtain ⟨LG, hLG⟩ : ∃ x, x = G.length := ⟨_, rfl⟩
  obtain ⟨LU, hLU⟩ : ∃ x, x = U.length := ⟨_, rfl⟩
  have XF := Lib.hid hF
  have XG := Lib.hid hG
  have XE := Lib.hid hE
  have XU := Lib.hid hU
  have XLF := Lib.hid hLF
  have XLG := Lib.hid hLG
  have XLU := Lib.hid hLU
  have XC := Lib.hid hc
  have tok1 : True := trivial
  have tok2 : True := trivial
  have tok3 : True := trivial
  have hd : ((E == 0) = true ∧ Hid (checkE U = 0 ∧ ∀ k ∈ a, hasB U k = true)) ∨ ((E == 0) = false ∧ (E == 63) = true ∧ Hid (LU = 0)) := by
    rcases hu with ⟨h1, h2, h3⟩ | ⟨h1, h2⟩
    · exact .inl ⟨by simp [h1], Lib.hid ⟨h2, h3⟩⟩
    · exact .inr ⟨by simp [h1], by simp [h1], Lib.hid (by rw [hLU, h2]; rfl)⟩
  clear hr hs ha hb hu hc hF hG hE hU hLF hLG hLU
  rcases hd with ⟨d1, HU⟩ | ⟨d1, d2, HU⟩
  · go_enter Try.func10, Try.ntmps10
    go_wp2_with (first
      | (go_at_call 14; refine (num_any _ _).mono ?_; rintro e wn ⟨rfl, rfl⟩)
      | (go_at_call 12; refine (started_any _).mono ?_; rintro e w0 ⟨rfl, hb0⟩; have HB0 := Lib.hid hb0; clear hb0)
      | (go_at_call 13; have _t := tok1; go_must (refine (build_any bits a A n c _ hn (HR.out _ HB0.out)).mono ?_); rintro e w3 hp; have hp := build_post hp; rw [← XF.out] at hp; obtain ⟨A3, c3, rfl, hS3, _, hb3⟩ := hp.at_ XLF.out.symm HEA.out; have HB3 := Lib.hid (HB0.out.trans (hb3.mono HB0.out.size)); have S3 := Lib.hid hS3; clear tok1 hp hS3 hb3)
      | (go_at_call 13; go_must (refine (build_any bits b B m d _ hm (HS.out _ HB3.out)).mono ?_); rintro e w4 hp; have hp := build_post hp; rw [← XG.out] at hp; obtain ⟨A4, c4, rfl, hS4, _, hb4⟩ := hp.at_ XLG.out.symm HEB.out; have HB4 := Lib.hid (HB3.out.trans (hb4.mono HB3.out.size)); have S3b := Lib.hid (S3.out.later hb4); have S4 := Lib.hid hS4; clear hp hS4 hb4)
      | (go_at_call 18; go_must (refine (union_any F G A3 A4 LF c3 LG c4 _ S3b.out.le S3b.out.rb S4.out.le S4.out.rb).mono ?_); rintro e w6 hp; have hp := union_post hp; rw [← XU.out] at hp; obtain ⟨A6, c6, rfl, hS6, _, hb6⟩ := hp.at_ XLU.out.symm XE.out.symm; have HB6 := Lib.hid (HB4.out.trans (hb6.mono HB4.out.size)); have S3d := Lib.hid (S3b.out.later hb6); have S6 := Lib.hid hS6; clear hp hS6 hb6))
    go_loopw [13] (fun i wr => ∃ k : Nat, k ≤ n ∧ i = .int .i64 k ∧ Hid (Below w6.heap.size w6 wr)) (fun i _ => n - (intOf i).toNat)
    case atStart => exact ⟨0, Nat.zero_le _, rfl, Lib.hid (Below.refl _ _)⟩
    case round =>
      obtain ⟨k, hk, rfl, HW⟩ := hrel
      have HBw := Lib.hid (HB6.out.trans (HW.out.mono HB6.out.size))
      have S3w := Lib.hid (S3d.out.later HW.out)
      have S6w := Lib.hid (S6.out.later HW.out)
      by_cases hlt : k < n
      case pos =>
        obtain ⟨bb, o, x, xa, xc, eA, hbb, hx, hcell, hxc, hxl, _, hrb⟩ := (HR.out _ HBw.out).at_ hlt
        subst eA
        have HX := Lib.hid (List.mem_of_getElem? hx)
        have XH := Lib.hid (hh.out x HX.out)
        have XH2 := Lib.hid (HU.out.2 x HX.out)
        have HXS : Hid (Sl wr xa x.length xc x) := Lib.hid ⟨hrb, hxc, hxl, by assumption⟩
        clear hx hrb hxc hxl
        go_wp2_with (first
          | (go_at_call 14; refine (num_any _ _).mono ?_; rintro e wn ⟨rfl, rfl⟩)
          | (go_at_call 23; have _t := tok2; go_must (refine (has_any F x A3 xa LF c3 x.length xc _ S3w.out.le S3w.out.rb HXS.out.le HXS.out.rb).mono ?_); rintro e w7 ⟨rfl, hb7⟩; rw [XH.out, XC.out]; have hcell7 := cell_below hb7 hcell; have HW7 := Lib.hid (HW.out.trans (hb7.mono HW.out.size)); have S6x := Lib.hid (S6w.out.later hb7); have HXS7 := Lib.hid (HXS.out.later hb7); clear tok2 hb7)
          | (go_at_call 23; go_must (refine (has_any U x A6 xa LU c6 x.length xc _ S6x.out.le S6x.out.rb HXS7.out.le HXS7.out.rb).mono ?_); rintro e w8 ⟨rfl, hb8⟩; rw [XH2.out, HU.out.1]; have HW8 := Lib.hid (HW7.out.trans (hb8.mono HW7.out.size)); clear hb8))
        go_roundw
        case rel => exact ⟨k + 1, by omega, by go_num, HW8⟩
        case measure => simp [intOf]; omega
      go_wp2_with (first
        | (go_at_call 14; refine (num_any _ _).mono ?_; rintro e wn ⟨rfl, rfl⟩)
        | (go_at_call 24; have _t := tok2; go_must (refine (check_any F A3 LF c3 _ S3w.out.le S3w.out.rb).mono ?_); rintro e w7 ⟨rfl, hb7⟩; rw [XC.out]; have HB7 := Lib.hid (HBw.out.trans (hb7.mono HBw.out.size)); have S6x := Lib.hid (S6w.out.later hb7); clear tok2 hb7)
        | (go_at_call 24; go_must (refine (check_any U A6 LU c6 _ S6x.out.le S6x.out.rb).mono ?_); rintro e w8 ⟨rfl, hb8⟩; rw [HU.out.1]; have HB8 := Lib.hid (HB7.out.trans (hb8.mono HB7.out.size)); clear hb8))
      go_ret
      exact ⟨rfl, HB8.out⟩
  · go_enter Try.func10, Try.ntmps10
    go_wp2_with (first
      | (go_at_call 14; refine (num_any _ _).mono ?_; rintro e wn ⟨rfl, rfl⟩)
      | (go_at_call 12; refine (started_any _).mono ?_; rintro e w0 ⟨rfl, hb0⟩; have HB0 := Lib.hid hb0; clear hb0)
      | (go_at_call 13; have _t := tok1; go_must (refine (build_any bits a A n c _ hn (HR.out _ HB0.out)).mono ?_); rintro e w3 hp; have hp := build_post hp; rw [← XF.out] at hp; obtain ⟨A3, c3, rfl, hS3, _, hb3⟩ := hp.at_ XLF.out.symm HEA.out; have HB3 := Lib.hid (HB0.out.trans (hb3.mono HB0.out.size)); have S3 := Lib.hid hS3; clear tok1 hp hS3 hb3)
      | (go_at_call 13; go_must (refine (build_any bits b B m d _ hm (HS.out _ HB3.out)).mono ?_); rintro e w4 hp; have hp := build_post hp; rw [← XG.out] at hp; obtain ⟨A4, c4, rfl, hS4, _, hb4⟩ := hp.at_ XLG.out.symm HEB.out; have HB4 := Lib.hid (HB3.out.trans (hb4.mono HB3.out.size)); have S3b := Lib.hid (S3.out.later hb4); have S4 := Lib.hid hS4; clear hp hS4 hb4)
      | (go_at_call 18; go_must (refine (union_any F G A3 A4 LF c3 LG c4 _ S3b.out.le S3b.out.rb S4.out.le S4.out.rb).mono ?_); rintro e w6 hp; have hp := union_post hp; rw [← XU.out] at hp; obtain ⟨A6, c6, rfl, hS6, _, hb6⟩ := hp.at_ (XLU.out.symm.trans HU.out) XE.out.symm; have HB6 := Lib.hid (HB4.out.trans (hb6.mono HB4.out.size)); have S3d := Lib.hid (S3b.out.later hb6); have S6 := Lib.hid hS6; clear hp hS6 hb6))
    go_loopw [13] (fun i wr => ∃ k : Nat, k ≤ n ∧ i = .int .i64 k ∧ Hid (Below w6.heap.size w6 wr)) (fun i _ => n - (intOf i).toNat)
    case atStart => exact ⟨0, Nat.zero_le _, rfl, Lib.hid (Below.refl _ _)⟩
    case round =>
      obtain ⟨k, hk, rfl, HW⟩ := hrel
      have HBw := Lib.hid (HB6.out.trans (HW.out.mono HB6.out.size))
      have S3w := Lib.hid (S3d.out.later HW.out)
      have S6w := Lib.hid (S6.out.later HW.out)
      by_cases hlt : k < n
      case pos =>
        obtain ⟨bb, o, x, xa, xc, eA, hbb, hx, hcell, hxc, hxl, _, hrb⟩ := (HR.out _ HBw.out).at_ hlt
        subst eA
        have HX := Lib.hid (List.mem_of_getElem? hx)
        have XH := Lib.hid (hh.out x HX.out)
        have HXS : Hid (Sl wr xa x.length xc x) := Lib.hid ⟨hrb, hxc, hxl, by assumption⟩
        clear hx hrb hxc hxl
        go_wp2_with (first
          | (go_at_call 14; refine (num_any _ _).mono ?_; rintro e wn ⟨rfl, rfl⟩)
          | (go_at_call 23; have _t := tok2; go_must (refine (has_any F x A3 xa LF c3 x.length xc _ S3w.out.le S3w.out.rb HXS.out.le HXS.out.rb).mono ?_); rintro e w7 ⟨rfl, hb7⟩; rw [XH.out, XC.out]; have hcell7 := cell_below hb7 hcell; have HW7 := Lib.hid (HW.out.trans (hb7.mono HW.out.size)); have S6x := Lib.hid (S6w.out.later hb7); have HXS7 := Lib.hid (HXS.out.later hb7); clear tok2 hb7))
        go_roundw
        case rel => exact ⟨k + 1, by omega, by go_num, HW7⟩
        case measure => simp [intOf]; omega
      go_wp2_with (first
        | (go_at_call 14; refine (num_any _ _).mono ?_; rintro e wn ⟨rfl, rfl⟩)
        | (go_at_call 24; have _t := tok2; go_must (refine (check_any F A3 LF c3 _ S3w.out.le S3w.out.rb).mono ?_); rintro e w7 ⟨rfl, hb7⟩; rw [XC.out]; have HB7 := Lib.hid (HBw.out.trans (hb7.mono HBw.out.size)); have S6x := Lib.hid (S6w.out.later hb7); clear tok2 hb7))
      go_ret
      exact ⟨rfl, HB7.out⟩

theorem never_any (bits : Int) (a b : List (List UInt8)) (A B : Option Addr) (n c m d : Nat) (w : World) (hn : n ≤ 9223372036854775807) (hr : RBs w w.heap.size A n a) (hm : m ≤ 9223372036854775807) (hs : RBs w w.heap.size B m b) :
    Calls Try.prog 10 #[.int .i64 bits, .slice A n c, .slice B m d] w fun e w' => e = .returned (.bool true) ∧ Below w.heap.size w w' := by
  by_cases h : buildE bits a ≠ 0 ∨ buildE bits b ≠ 0
  · exact never_err bits a b A B n c m d w hn hr hm hs h
  · exact never_ok bits a b A B n c m d w hn hr hm hs (by omega) (by omega)
end Go.Proofs.Ythjjihipodhkiaa
