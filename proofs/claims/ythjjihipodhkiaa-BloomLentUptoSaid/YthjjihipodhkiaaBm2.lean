/-
  Laid together by merge.py: BloomU, BloomR1, BloomR2, BloomR3, BloomR4, BloomR5, BloomV1, BloomV2, BloomL1, BloomO1, BloomO2, BloomA.
-/
import Derived.Test.YthjjihipodhkiaaBm1
import Derived.Laws.OwnMore
import Derived.Deep.Onto
import Derived.Deep.RegionHeld3
import Derived.Deep.DeepCutAuto

/-
  BloomUnions, walked.
-/
namespace Go.Proofs.Ythjjihipodhkiaa
open Go.RowKit

/-- What Build hands out, what Union hands out; each in one form. -/
def bres (bits : Int) (ks : List (List UInt8)) : List UInt8 := if buildE bits ks = 0 then buildB bits ks else []
theorem build_post {bits : Int} {ks : List (List UInt8)} {w w' : World} {e : Ending} (h : BuildPost bits ks w e w') : BytesPost2 5 (bres bits ks) (buildE bits ks) w e w' := by
  rcases h with ⟨h0, g, rfl, h1, h2⟩ | ⟨h0, rfl, h2⟩
  · unfold bres
    rw [if_pos h0, h0]
    exact bytes_post2 h1 h2
  · unfold bres
    rw [if_neg h0]
    exact bytes_none2 h2
def ures (a b : List UInt8) : List UInt8 := if unionE a b = 0 then orB a b else []
theorem union_post {a b : List UInt8} {w w' : World} {e : Ending} (h : UnionPost a b w e w') : BytesPost2 5 (ures a b) (unionE a b) w e w' := by
  rcases h with ⟨h0, g, rfl, h1, h2⟩ | ⟨h0, rfl, h2⟩
  · unfold ures
    rw [if_pos h0, h0]
    have hl : (orB a b).length = a.length := orB_length a b
    rw [← hl] at h1 ⊢
    exact bytes_post2 h1 h2
  · unfold ures
    rw [if_neg h0]
    exact bytes_none2 h2

set_option maxRecDepth 100000 in
set_option maxHeartbeats 4000000 in
theorem unions_err (bits : Int) (a b : List (List UInt8)) (A B : Option Addr) (n c m d : Nat) (w : World) (hn : n ≤ 1048576) (hr : RBs w w.heap.size A n a) (hm : m ≤ 1048576) (hs : RBs w w.heap.size B m b)
    (h0 : buildE bits a ≠ 0 ∨ buildE bits b ≠ 0 ∨ buildE bits (a ++ b) ≠ 0) :
    Calls Try.prog 4 #[.int .i64 bits, .slice A n c, .slice B m d] w fun e w' => e = .returned (.bool true) ∧ Below w.heap.size w w' := by
  have HR : Hid (∀ w', Below w.heap.size w w' → RBs w' w'.heap.size A n a) := Lib.hid fun w' h => hr.later h
  have HS : Hid (∀ w', Below w.heap.size w w' → RBs w' w'.heap.size B m b) := Lib.hid fun w' h => hs.later h
  obtain ⟨vs, hRa, hKa⟩ := hr.kv
  obtain ⟨us, hRb, hKb⟩ := hs.kv
  have R1 := Lib.hid hRa
  have R2 := Lib.hid hRb
  have O1 := Lib.hid hKa.one
  have O2 := Lib.hid hKb.one
  have HK := Lib.hid (hKa.app hKb)
  obtain ⟨ea, hea⟩ : ∃ x, x = buildE bits a := ⟨_, rfl⟩
  obtain ⟨eb, heb⟩ : ∃ x, x = buildE bits b := ⟨_, rfl⟩
  obtain ⟨el, hel⟩ : ∃ x, x = buildE bits (a ++ b) := ⟨_, rfl⟩
  rw [← hea, ← heb, ← hel] at h0
  have HEA := Lib.hid hea
  have HEB := Lib.hid heb
  have HEL := Lib.hid hel
  have tok1 : True := trivial
  have tok2 : True := trivial
  have tok3 : True := trivial
  clear hr hs hRa hRb hKa hKb hea heb hel
  have hd : ((ea : Int) != 0) = true ∨ (((ea : Int) != 0) = false ∧ ((eb : Int) != 0) = true) ∨ (((ea : Int) != 0) = false ∧ ((eb : Int) != 0) = false ∧ ((el : Int) != 0) = true) := by
    by_cases h1 : ea = 0
    · by_cases h2 : eb = 0
      · exact .inr (.inr ⟨by simp [h1], by simp [h2], by rw [bne_iff_ne]; omega⟩)
      · exact .inr (.inl ⟨by simp [h1], by rw [bne_iff_ne]; omega⟩)
    · exact .inl (by rw [bne_iff_ne]; omega)
  clear h0
  rcases hd with d1 | ⟨d1, d2⟩ | ⟨d1, d2, d3⟩
  all_goals
    go_enter Try.func4, Try.ntmps4
    go_wp2_with (first
      | (go_at_call 14; refine (num_any _ _).mono ?_; rintro e wn ⟨rfl, rfl⟩)
      | (go_at_call 12; refine (started_any _).mono ?_; rintro e w0 ⟨rfl, hb0⟩; have HB0 := Lib.hid hb0; clear hb0)
      | (at_builtin; have _t := tok1; go_must (refine wpList_append_reads _ rfl (.tmp 20) (.tmp 21) rfl Try.keyss w.heap.size (.slice none 0 0) 0 [] rfl (own_nil _ _ _ _) _ A n c vs rfl (Reads.below R1.out HB0.out) O1.out (by unfold maxLen; omega) (by omega) HB0.out.size ?_); intro v1 w1 hown1 hg1 hat1; clear tok1; have HB1 := Lib.hid (below_app HB0.out (own_nil _ w.heap.size 24 1) hg1 HB0.out.size (Nat.le_refl _)))
      | (at_builtin; go_must (refine wpList_append_reads _ rfl (.tmp 23) (.tmp 24) rfl Try.keyss w.heap.size v1 (0 + n) ([] ++ vs) rfl hown1 _ B m d us rfl (Reads.below R2.out HB1.out) O2.out (by unfold maxLen; omega) (by omega) HB1.out.size ?_); intro v2 w2 hown2 hg2 hat2; have HB2 := Lib.hid (below_app HB1.out hown1 hg2 HB1.out.size (Nat.le_refl _)); rw [List.nil_append, Nat.zero_add] at hown2; obtain ⟨A2, c2, rfl, hl1, hl2, _, hrl⟩ := own_slice hown2; have HL := Lib.hid ((HK.out.later HB2.out).rbs hrl); clear hown1 hg1 hat1 hown2 hg2 hat2 hrl hl1 hl2)
      | (go_at_call 13; have _t := tok2; go_must (refine (build_any bits a A n c _ (by omega) (HR.out _ HB2.out)).mono ?_); rintro e w3 hp; have hp := build_post hp; rw [← HEA.out] at hp; obtain ⟨A3, c3, rfl, hS3, _, hb3⟩ := hp.at_ rfl rfl; have HB3 := Lib.hid (HB2.out.trans (hb3.mono HB2.out.size)); have HL3 := Lib.hid (HL.out.later hb3); clear tok2 hp hS3 hb3)
      | (go_at_call 13; have _t := tok3; go_must (refine (build_any bits b B m d _ (by omega) (HS.out _ HB3.out)).mono ?_); rintro e w4 hp; have hp := build_post hp; rw [← HEB.out] at hp; obtain ⟨A4, c4, rfl, hS4, _, hb4⟩ := hp.at_ rfl rfl; have HB4 := Lib.hid (HB3.out.trans (hb4.mono HB3.out.size)); have HL4 := Lib.hid (HL3.out.later hb4); clear tok3 hp hS4 hb4)
      | (go_at_call 13; go_must (refine (build_any bits (a ++ b) A2 (n + m) c2 _ (by omega) HL4.out).mono ?_); rintro e w5 hp; have hp := build_post hp; rw [← HEL.out] at hp; obtain ⟨A5, c5, rfl, hS5, _, hb5⟩ := hp.at_ rfl rfl; have HB5 := Lib.hid (HB4.out.trans (hb5.mono HB4.out.size)); clear hp hS5 hb5))
    go_ret
    exact ⟨rfl, HB5.out⟩

theorem unions_facts {bits : Int} {a b : List (List UInt8)} (ha : buildE bits a = 0) (hb : buildE bits b = 0) (hl : buildE bits (a ++ b) = 0) :
    unionE (bres bits b) (bres bits a) = unionE (bres bits a) (bres bits b) ∧ ures (bres bits b) (bres bits a) = ures (bres bits a) (bres bits b) ∧
    ((unionE (bres bits a) (bres bits b) = 0 ∧ (bres bits a).length = (bres bits b).length) ∨ (unionE (bres bits a) (bres bits b) = 63 ∧ (bres bits a).length ≠ (bres bits b).length)) ∧
    (unionE (bres bits a) (bres bits b) = 0 → (bres bits a).length = (bres bits (a ++ b)).length → ures (bres bits a) (bres bits b) = bres bits (a ++ b)) := by
  have e1 : bres bits a = buildB bits a := by unfold bres; rw [if_pos ha]
  have e2 : bres bits b = buildB bits b := by unfold bres; rw [if_pos hb]
  have e3 : bres bits (a ++ b) = buildB bits (a ++ b) := by unfold bres; rw [if_pos hl]
  rw [e1, e2, e3]
  have u1 := unions_E ha hb
  have u2 := unions_E hb ha
  by_cases hm : buildM bits a = buildM bits b
  · rw [if_pos hm] at u1
    rw [if_pos hm.symm] at u2
    refine ⟨by rw [u1, u2], ?_, .inl ⟨u1, buildM_len.1 hm⟩, fun _ hL => ?_⟩
    · unfold ures
      rw [if_pos u1, if_pos u2, unions_same hm]
    · unfold ures
      rw [if_pos u1, unions_all hm (buildM_len.2 hL)]
  · rw [if_neg hm] at u1
    rw [if_neg (fun h => hm h.symm)] at u2
    refine ⟨by rw [u1, u2], ?_, .inr ⟨u1, fun h => hm (buildM_len.2 h)⟩, fun h => by rw [u1] at h; cases h⟩
    unfold ures
    rw [if_neg (by rw [u2]; decide), if_neg (by rw [u1]; decide)]

set_option maxRecDepth 100000 in
set_option maxHeartbeats 4000000 in
theorem unions_ok (bits : Int) (a b : List (List UInt8)) (A B : Option Addr) (n c m d : Nat) (w : World) (hn : n ≤ 1048576) (hr : RBs w w.heap.size A n a) (hm : m ≤ 1048576) (hs : RBs w w.heap.size B m b)
    (ha : buildE bits a = 0) (hb : buildE bits b = 0) (hl : buildE bits (a ++ b) = 0) :
    Calls Try.prog 4 #[.int .i64 bits, .slice A n c, .slice B m d] w fun e w' => e = .returned (.bool true) ∧ Below w.heap.size w w' := by
  obtain ⟨f1, f2, f3, f4⟩ := unions_facts ha hb hl
  have HR : Hid (∀ w', Below w.heap.size w w' → RBs w' w'.heap.size A n a) := Lib.hid fun w' h => hr.later h
  have HS : Hid (∀ w', Below w.heap.size w w' → RBs w' w'.heap.size B m b) := Lib.hid fun w' h => hs.later h
  obtain ⟨vs, hRa, hKa⟩ := hr.kv
  obtain ⟨us, hRb, hKb⟩ := hs.kv
  have R1 := Lib.hid hRa
  have R2 := Lib.hid hRb
  have O1 := Lib.hid hKa.one
  have O2 := Lib.hid hKb.one
  have HK := Lib.hid (hKa.app hKb)
  have HEA : Hid ((buildE bits a : Int) = 0) := Lib.hid (by rw [ha]; rfl)
  have HEB : Hid ((buildE bits b : Int) = 0) := Lib.hid (by rw [hb]; rfl)
  have HEL : Hid ((buildE bits (a ++ b) : Int) = 0) := Lib.hid (by rw [hl]; rfl)
  obtain ⟨F, hF⟩ : ∃ x, x = bres bits a := ⟨_, rfl⟩
  obtain ⟨G, hG⟩ : ∃ x, x = bres bits b := ⟨_, rfl⟩
  obtain ⟨L, hL⟩ : ∃ x, x = bres bits (a ++ b) := ⟨_, rfl⟩
  rw [← hF, ← hG] at f1 f2 f3 f4
  rw [← hL] at f4
  obtain ⟨E, hE⟩ : ∃ x, x = unionE F G := ⟨_, rfl⟩
  obtain ⟨U, hU⟩ : ∃ x, x = ures F G := ⟨_, rfl⟩
  rw [← hE] at f1 f3 f4
  rw [← hU] at f2 f4
  obtain ⟨LF, hLF⟩ : ∃ x, x = F.length := ⟨_, rfl⟩
  obtain ⟨LG, hLG⟩ : ∃ x, x = G.length := ⟨_, rfl⟩
  obtain ⟨LL, hLL⟩ : ∃ x, x = L.length := ⟨_, rfl⟩
  obtain ⟨LU, hLU⟩ : ∃ x, x = U.length := ⟨_, rfl⟩
  rw [← hLF, ← hLG] at f3
  rw [← hLF, ← hLL] at f4
  have XF := Lib.hid hF
  have XG := Lib.hid hG
  have XL := Lib.hid hL
  have XE := Lib.hid hE
  have XE2 := Lib.hid f1
  have XU := Lib.hid hU
  have XU2 := Lib.hid f2
  have XLF := Lib.hid hLF
  have XLG := Lib.hid hLG
  have XLL := Lib.hid hLL
  have XLU := Lib.hid hLU
  have XS : Hid ((U == U) = true) := Lib.hid (by simp)
  have hcase : ((E == 0) = true ∧ (E != 0) = false ∧ ((LF : Int) == LG) = true ∧ ((LF : Int) != LL) = true) ∨ ((E == 0) = true ∧ (E != 0) = false ∧ ((LF : Int) == LG) = true ∧ ((LF : Int) != LL) = false) ∨ ((E == 0) = false ∧ (E != 0) = true ∧ ((LF : Int) == LG) = false) := by
    rcases f3 with ⟨h1, h2⟩ | ⟨h1, h2⟩
    · by_cases h3 : LF = LL
      · exact .inr (.inl ⟨by simp [h1], by simp [h1], by simp [h2], by simp [h3]⟩)
      · exact .inl ⟨by simp [h1], by simp [h1], by simp [h2], by rw [bne_iff_ne]; omega⟩
    · exact .inr (.inr ⟨by simp [h1], by simp [h1], by rw [beq_eq_false_iff_ne]; omega⟩)
  have X4 : Hid ((E != 0) = false → ((LF : Int) != LL) = false → U = L) := Lib.hid fun h1 h2 => f4 (by simpa using h1) (by
    have h3 : (LF : Int) = LL := by simpa using h2
    omega)
  have tok1 : True := trivial
  have tok2 : True := trivial
  have tok3 : True := trivial
  have tok4 : True := trivial
  have tok5 : True := trivial
  clear hr hs hRa hRb hKa hKb ha hb hl hF hG hL hE hU f1 f2 f3 f4 hLF hLG hLL hLU
  rcases hcase with ⟨d1, d2, d3, d4⟩ | ⟨d1, d2, d3, d4⟩ | ⟨d1, d2, d3⟩
  all_goals
    go_enter Try.func4, Try.ntmps4
    go_wp2_with (first
      | (go_at_call 14; refine (num_any _ _).mono ?_; rintro e wn ⟨rfl, rfl⟩)
      | (go_at_call 12; refine (started_any _).mono ?_; rintro e w0 ⟨rfl, hb0⟩; have HB0 := Lib.hid hb0; clear hb0)
      | (at_builtin; have _t := tok1; go_must (refine wpList_append_reads _ rfl (.tmp 20) (.tmp 21) rfl Try.keyss w.heap.size (.slice none 0 0) 0 [] rfl (own_nil _ _ _ _) _ A n c vs rfl (Reads.below R1.out HB0.out) O1.out (by unfold maxLen; omega) (by omega) HB0.out.size ?_); intro v1 w1 hown1 hg1 hat1; clear tok1; have HB1 := Lib.hid (below_app HB0.out (own_nil _ w.heap.size 24 1) hg1 HB0.out.size (Nat.le_refl _)))
      | (at_builtin; go_must (refine wpList_append_reads _ rfl (.tmp 23) (.tmp 24) rfl Try.keyss w.heap.size v1 (0 + n) ([] ++ vs) rfl hown1 _ B m d us rfl (Reads.below R2.out HB1.out) O2.out (by unfold maxLen; omega) (by omega) HB1.out.size ?_); intro v2 w2 hown2 hg2 hat2; have HB2 := Lib.hid (below_app HB1.out hown1 hg2 HB1.out.size (Nat.le_refl _)); rw [List.nil_append, Nat.zero_add] at hown2; obtain ⟨A2, c2, rfl, hl1, hl2, _, hrl⟩ := own_slice hown2; have HL := Lib.hid ((HK.out.later HB2.out).rbs hrl); clear hown1 hg1 hat1 hown2 hg2 hat2 hrl hl1 hl2)
      | (go_at_call 13; have _t := tok2; go_must (refine (build_any bits a A n c _ (by omega) (HR.out _ HB2.out)).mono ?_); rintro e w3 hp; have hp := build_post hp; rw [← XF.out] at hp; obtain ⟨A3, c3, rfl, hS3, _, hb3⟩ := hp.at_ XLF.out.symm HEA.out; have HB3 := Lib.hid (HB2.out.trans (hb3.mono HB2.out.size)); have HL3 := Lib.hid (HL.out.later hb3); have S3 := Lib.hid hS3; clear tok2 hp hS3 hb3)
      | (go_at_call 13; have _t := tok3; go_must (refine (build_any bits b B m d _ (by omega) (HS.out _ HB3.out)).mono ?_); rintro e w4 hp; have hp := build_post hp; rw [← XG.out] at hp; obtain ⟨A4, c4, rfl, hS4, _, hb4⟩ := hp.at_ XLG.out.symm HEB.out; have HB4 := Lib.hid (HB3.out.trans (hb4.mono HB3.out.size)); have HL4 := Lib.hid (HL3.out.later hb4); have S3b := Lib.hid (S3.out.later hb4); have S4 := Lib.hid hS4; clear tok3 hp hS4 hb4)
      | (go_at_call 13; go_must (refine (build_any bits (a ++ b) A2 (n + m) c2 _ (by omega) HL4.out).mono ?_); rintro e w5 hp; have hp := build_post hp; rw [← XL.out] at hp; obtain ⟨A5, c5, rfl, hS5, _, hb5⟩ := hp.at_ XLL.out.symm HEL.out; have HB5 := Lib.hid (HB4.out.trans (hb5.mono HB4.out.size)); have S3c := Lib.hid (S3b.out.later hb5); have S4c := Lib.hid (S4.out.later hb5); have S5 := Lib.hid hS5; clear hp hS5 hb5)
      | (go_at_call 18; have _t := tok4; go_must (refine (union_any F G A3 A4 LF c3 LG c4 _ S3c.out.le S3c.out.rb S4c.out.le S4c.out.rb).mono ?_); rintro e w6 hp; have hp := union_post hp; rw [← XU.out] at hp; obtain ⟨A6, c6, rfl, hS6, _, hb6⟩ := hp.at_ XLU.out.symm XE.out.symm; have HB6 := Lib.hid (HB5.out.trans (hb6.mono HB5.out.size)); have S3d := Lib.hid (S3c.out.later hb6); have S4d := Lib.hid (S4c.out.later hb6); have S5d := Lib.hid (S5.out.later hb6); have S6 := Lib.hid hS6; clear tok4 hp hS6 hb6)
      | (go_at_call 18; go_must (refine (union_any G F A4 A3 LG c4 LF c3 _ S4d.out.le S4d.out.rb S3d.out.le S3d.out.rb).mono ?_); rintro e w7 hp; have hp := union_post hp; rw [XU2.out] at hp; obtain ⟨A7, c7, rfl, hS7, _, hb7⟩ := hp.at_ XLU.out.symm XE2.out; have HB7 := Lib.hid (HB6.out.trans (hb7.mono HB6.out.size)); have S6e := Lib.hid (S6.out.later hb7); have S5e := Lib.hid (S5d.out.later hb7); have S7 := Lib.hid hS7; clear hp hS7 hb7)
      | (go_at_call 15; have _t := tok5; go_must (refine (alike_any U U A6 A7 LU c6 LU c7 _ S6e.out.rb S7.out.rb).mono ?_); rintro e wn ⟨rfl, rfl⟩; rw [XS.out]; clear tok5)
      | (go_at_call 15; go_must (refine (alike_any U L A6 A5 LU c6 LL c5 _ S6e.out.rb S5e.out.rb).mono ?_); rintro e wn ⟨rfl, rfl⟩; rw [X4.out d2 d4, beq_self_eq_true]))
    go_ret
    exact ⟨rfl, HB7.out⟩

theorem unions_any (bits : Int) (a b : List (List UInt8)) (A B : Option Addr) (n c m d : Nat) (w : World) (hn : n ≤ 1048576) (hr : RBs w w.heap.size A n a) (hm : m ≤ 1048576) (hs : RBs w w.heap.size B m b) :
    Calls Try.prog 4 #[.int .i64 bits, .slice A n c, .slice B m d] w fun e w' => e = .returned (.bool true) ∧ Below w.heap.size w w' := by
  by_cases h : buildE bits a ≠ 0 ∨ buildE bits b ≠ 0 ∨ buildE bits (a ++ b) ≠ 0
  · exact unions_err bits a b A B n c m d w hn hr hm hs h
  · exact unions_ok bits a b A B n c m d w hn hr hm hs (by omega) (by omega) (by omega)
end Go.Proofs.Ythjjihipodhkiaa

/-
  The document's answer for filters: alike, Hash, Places, shape, Unlike; walked.
-/
namespace Go.Proofs.Ythjjihipodhkiaa
open Go.RowKit

theorem Try.ints : SliceOf Try.prog 68 3 1 8 := SliceOf.mk' (z := .int .i64 0) Try.underlying68 (by kernel_rfl) rfl (by decide)

set_option maxRecDepth 100000 in
theorem ralike_any (a b : List UInt8) (A B : Option Addr) (n c m d : Nat) (w : World) (ha : RB w w.heap.size A n a) (hb : RB w w.heap.size B m b) :
    Calls Try.prog 45 #[.slice A n c, .slice B m d] w fun e w' => e = .returned (.bool (a == b)) ∧ w = w' := by
  have tok1 : True := trivial
  go_enter Try.func45, Try.ntmps45
  go_wp2_with (first
    | (have _t := tok1; refine wpList_string_reads rfl _ 24 9 5 rfl Try.underlying24 Try.underlying5 Try.underlying9 rfl ha ?_; clear tok1)
    | (refine wpList_string_reads rfl _ 24 9 5 rfl Try.underlying24 Try.underlying5 Try.underlying9 rfl hb ?_))
  go_ret
  exact ⟨rfl, rfl⟩

set_option maxRecDepth 100000 in
set_option maxHeartbeats 400000 in
theorem rhash_any (l : List UInt8) (A : Option Addr) (n c : Nat) (w : World) (hm : n ≤ 9223372036854775807) (hr : RB w w.heap.size A n l) :
    Calls Try.prog 46 #[.slice A n c] w fun e w' => e = .returned (.int .u64 (hashN l)) ∧ w = w' := by
  go_enter Try.func46, Try.ntmps46
  go_wp2
  go_loop [3, 4] (fun h i => ∃ k : Nat, k ≤ n ∧ i = .int .i64 k ∧ ∃ H : Nat, h = .int .u64 H ∧ Hid (H = hashN (l.take k))) (fun _ i => n - (intOf i).toNat)
  case atStart => exact ⟨0, Nat.zero_le _, rfl, hashN (l.take 0), rfl, Lib.hid rfl⟩
  case round =>
    obtain ⟨k, hk, rfl, H, rfl, hH⟩ := hrel
    by_cases hlt : k < n
    · obtain ⟨b, o, x, rfl, hb, hx, hc⟩ := hr.at_ hlt
      have hs : Hid (((hStep H x : Nat) : Int) = IntKind.u64.wrap (bits .xor .u64 (H : Int) (IntKind.u64.wrap (x.toNat : Int)) * 1099511628211)) := Lib.hid (hstep_walk H x (by rw [hH.out]; exact hashN_lt _)).symm
      go_wp2
      go_round
      case rel => exact ⟨k + 1, by omega, by go_num, hStep H x, by rw [hs.out], Lib.hid (by rw [take_snoc hx, hashN_snoc, ← hH.out])⟩
      case measure => simp [intOf]; omega
    · have E : Hid (H = hashN l) := Lib.hid (by rw [hH.out, take_all (by rw [hr.len]; omega)])
      go_wp2
      go_ret
      exact ⟨ret_int (by rw [E.out]), rfl⟩

theorem hLo_alt (l : List UInt8) : hLo l = if hashN l % 4294967296 % 2 = 0 then hashN l % 4294967296 + 1 else hashN l % 4294967296 := by
  unfold hLo
  have h : ∀ y : Nat, y ||| 1 = if y % 2 = 0 then y + 1 else y := by
    intro y
    apply Nat.eq_of_testBit_eq
    intro j
    rw [Nat.testBit_or]
    split
    · rename_i h0
      cases j with
      | zero => simp [Nat.testBit_zero]; omega
      | succ j => rw [Nat.testBit_succ, Nat.testBit_succ, Nat.testBit_succ, show (y + 1) / 2 = y / 2 from by omega]; simp
    · rename_i h0
      cases j with
      | zero => simp [Nat.testBit_zero]; omega
      | succ j => rw [Nat.testBit_succ, Nat.testBit_succ]; simp
  exact h _

/-- Whole numbers as cells. -/
def i64s (l : List Nat) : List Value := l.map fun k : Nat => .int .i64 (k : Int)
theorem i64s_one (l : List Nat) : ∀ u ∈ i64s l, u.oneCell' = true := by
  intro u hu
  obtain ⟨c, _, rfl⟩ := List.mem_map.1 hu
  rfl
/-- What Places leaves. -/
def PlacesPost (ps : List Nat) (w : World) (e : Ending) (w' : World) : Prop :=
  ∃ A c, e = .returned (.slice A ps.length c) ∧ ps.length ≤ c ∧ w'.ownsRow w.heap.size 3 1 (.slice A ps.length c) ps.length (i64s ps) ∧ Below w.heap.size w w'

set_option maxRecDepth 100000 in
set_option maxHeartbeats 1000000 in
theorem places_any (l : List UInt8) (A : Option Addr) (n c p m : Nat) (w : World) (hn : n ≤ 9223372036854775807) (hr : RB w w.heap.size A n l) (hp : p ≤ 255) (hm0 : 0 < m) (hm : m ≤ 20971520) :
    Calls Try.prog 40 #[.slice A n c, .int .i64 p, .int .i64 m] w (PlacesPost (placesN l p m) w) := by
  have HR := Lib.hid hr
  have hhi := hHi_lt l
  have hlo := hLo_lt l
  have hH := hashN_lt l
  unfold two64 at hH
  have hlo2 := hLo_alt l
  have hHI : hHi l = hashN l / 4294967296 := rfl
  obtain ⟨H, hHH⟩ : ∃ H, H = hashN l := ⟨_, rfl⟩
  rw [← hHH] at hH hlo2 hHI
  obtain ⟨y, hy⟩ : ∃ y, y = H % 4294967296 := ⟨_, rfl⟩
  obtain ⟨X, hX⟩ : ∃ X, X = hHi l := ⟨_, rfl⟩
  obtain ⟨Y, hY⟩ : ∃ Y, Y = hLo l := ⟨_, rfl⟩
  rw [← hX] at hHI hhi
  rw [← hY] at hlo2 hlo
  have HX := Lib.hid hX
  have HY := Lib.hid hY
  have HH := Lib.hid hHH
  have e1 : IntKind.u64.wrap ((H : Int) / 4294967296) = (X : Int) := by rw [IntKind.wrap_u64]; omega
  have e2 : (H : Int) % 4294967296 = (y : Int) := by omega
  rw [← hy] at hlo2
  have hyl : y < 4294967296 := by omega
  have hpl : Hid ((placesN l p m).length = p) := Lib.hid (by simp [placesN])
  have he : ((y : Int) % 2 == 0) = true ∧ ((H : Int) % 2 == 0) = true ∧ (y : Int) + 1 = (Y : Int) ∨ ((Y : Int) % 2 == 0) = false ∧ ((H : Int) % 2 == 0) = false ∧ (y : Int) = (Y : Int) := by
    by_cases h : y % 2 = 0
    · exact .inl ⟨by rw [beq_iff_eq]; omega, by rw [beq_iff_eq]; omega, by rw [if_pos h] at hlo2; omega⟩
    · rw [if_neg h] at hlo2
      exact .inr ⟨by rw [beq_eq_false_iff_ne]; omega, by rw [beq_eq_false_iff_ne]; omega, by omega⟩
  clear hr hlo2 hy hH hX hY hHI hHH
  rcases he with ⟨d1, d2, d3⟩ | ⟨d1, d2, d3⟩
  all_goals
    go_enter Try.func40, Try.ntmps40
    go_wp2_with (go_at_call 46; go_must (refine (rhash_any l A n c _ hn HR.out).mono ?_); rintro e w1 ⟨rfl, rfl⟩; rw [← HH.out])
    clear e1 e2 d1 d2 d3 hyl
    go_loopw [10, 11] (fun v i wr => ∃ j : Nat, j ≤ p ∧ i = .int .i64 j ∧ wr.ownsRow w.heap.size 3 1 v j (i64s (placesN l j m)) ∧ Hid (Below w.heap.size w wr)) (fun _ i _ => p - (intOf i).toNat)
    case atStart => exact ⟨0, Nat.zero_le _, rfl, own_nil _ _ _ _, Lib.hid (Below.refl _ _)⟩
    case round =>
      obtain ⟨j, hj, rfl, hown, HB⟩ := hrel
      by_cases hlt : j < p
      case neg =>
        obtain rfl : j = p := by omega
        have hfin : PlacesPost (placesN l j m) w (.returned u10) wr := by
          obtain ⟨A', c', rfl, q1, _, _, q4⟩ := own_slice hown
          refine ⟨A', c', by rw [hpl.out], by rw [hpl.out]; exact q1, by rw [hpl.out]; exact hown, HB.out⟩
        have HF := Lib.hid hfin
        clear hown hfin
        go_wp2
        go_ret
        exact HF.out
      obtain ⟨Q, hQ⟩ : ∃ Q : Nat, Q = j * Y := ⟨_, rfl⟩
      have hQb : Q ≤ 1095216660480 := by
        rw [hQ]
        exact Nat.mul_le_mul (show j ≤ 255 by omega) (show Y ≤ 4294967296 by omega)
      have e3 : (j : Int) * (Y : Int) = (Q : Int) := by rw [hQ, Int.natCast_mul]
      obtain ⟨V, hV⟩ : ∃ V, V = placeN l m j := ⟨_, rfl⟩
      have hVe : (X + Q) % 4294967296 % m = V := by rw [hV, hQ, HX.out, HY.out]; rfl
      have e4 : ((X : Int) + (Q : Int)) % 4294967296 % (m : Int) = (V : Int) := by rw [← hVe, Int.natCast_emod, Int.natCast_emod, Int.natCast_add]; rfl
      have HN : Hid (i64s (placesN l (j + 1) m) = i64s (placesN l j m) ++ [.int .i64 (V : Int)]) := Lib.hid (by rw [placesN_succ, ← hV]; simp [i64s])
      have hm1 : (0 : Int) < (m : Int) := by omega
      have hmz : ((m : Int) == 0) = false := by rw [beq_eq_false_iff_ne]; omega
      obtain ⟨bv, hb⟩ : ∃ bv, bv = u10 := ⟨_, rfl⟩
      rw [← hb] at hown ⊢
      clear hb hQ hV hVe
      go_wp2_with (at_builtin; go_must (refine wpList_append_reads _ rfl (.tmp 30) (.tmp 39) rfl Try.ints w.heap.size bv j (i64s (placesN l j m)) rfl (hown.alloc _) (wr.heap.size + 1) (some ⟨wr.heap.size, 0, none⟩) 1 1 [.int .i64 (V : Int)] rfl (Reads.new wr #[.int .i64 (V : Int)] _ 1 1 rfl) (by intro u hu; simp at hu; subst hu; rfl) (by unfold maxLen; omega) (by omega) (by have := HB.out.size; simp; omega) ?_); intro v1 w1 hown1 hg1 hat1)
      have hB : w.heap.size ≤ (wr.alloc (.cells #[.int .i64 (V : Int)] 3)).heap.size := by have := HB.out.size; simp; omega
      have HB1 := Lib.hid (below_app (HB.out.alloc HB.out.size _) (hown.alloc _) hg1 hB (Nat.le_refl _))
      have hO1 : w1.ownsRow w.heap.size 3 1 v1 (j + 1) (i64s (placesN l (j + 1) m)) := by rw [HN.out]; exact hown1
      clear hown hown1 hg1 hat1 hB
      go_roundw
      case rel => exact ⟨j + 1, by omega, by go_num, hO1, HB1⟩
      case measure => simp [intOf]; omega

set_option maxRecDepth 100000 in
set_option maxHeartbeats 1000000 in
/-- What shape says. -/
theorem rshape_any (b U p M : Nat) (w : World) (hb1 : 1 ≤ b) (hb : b ≤ 20) (hU : U * b ≤ 20971520) (hp : p = max 1 (7 * b / 10)) (hM : M = max 64 ((U * b + 7) / 8 * 8)) :
    Calls Try.prog 38 #[.int .i64 b, .int .i64 U] w fun e w' => e = .returned (.tuple #[.int .i64 p, .int .i64 M]) ∧ w = w' := by
  obtain ⟨P, hP⟩ : ∃ P, P = U * b := ⟨_, rfl⟩
  have e1 : (U : Int) * (b : Int) = (P : Int) := by rw [hP, Int.natCast_mul]
  rw [← hP] at hU hM
  obtain ⟨r, hr⟩ : ∃ r, r = 7 * b / 10 := ⟨_, rfl⟩
  obtain ⟨q, hq⟩ : ∃ q, q = (P + 7) / 8 := ⟨_, rfl⟩
  have e2 : (7 : Int) * (b : Int) / 10 = (r : Int) := by omega
  have e3 : ((P : Int) + 7) / 8 = (q : Int) := by omega
  have hrb : r ≤ 14 := by omega
  have hqb : q ≤ 2621441 := by omega
  have hcases : (decide ((r : Int) < 1) = true ∧ p = 1 ∨ decide ((r : Int) < 1) = false ∧ p = r) ∧ (decide ((q : Int) * 8 < 64) = true ∧ M = 64 ∨ decide ((q : Int) * 8 < 64) = false ∧ M = q * 8) := by
    rw [← hr] at hp
    rw [← hq] at hM
    constructor
    · by_cases h : r < 1
      · exact .inl ⟨decide_eq_true (by omega), by omega⟩
      · exact .inr ⟨decide_eq_false (by omega), by omega⟩
    · by_cases h : q * 8 < 64
      · exact .inl ⟨decide_eq_true (by omega), by omega⟩
      · exact .inr ⟨decide_eq_false (by omega), by omega⟩
  clear hp hM hP hr hq
  rcases hcases with ⟨⟨h1, rfl⟩ | ⟨h1, rfl⟩, ⟨h2, rfl⟩ | ⟨h2, rfl⟩⟩
  all_goals
    go_enter Try.func38, Try.ntmps38
    go_wp2
    go_ret2
    first
      | exact ⟨rfl, rfl⟩
      | exact ⟨by rw [Int.natCast_mul]; rfl, rfl⟩
      | exact ⟨by rw [← e2, Int.natCast_mul]; rfl, rfl⟩
      | exact ⟨by rw [← e2]; rfl, rfl⟩

set_option maxRecDepth 100000 in
set_option maxHeartbeats 1000000 in
theorem unlike_any (ks : List (List UInt8)) (A : Option Addr) (n c : Nat) (w : World) (hn : n ≤ 9223372036854775807) (hr : RBs w w.heap.size A n ks) :
    Calls Try.prog 39 #[.slice A n c] w fun e w' => e = .returned (.int .i64 (unl ks).length) ∧ Below w.heap.size w w' := by
  have HR : Hid (∀ w', Below w.heap.size w w' → RBs w' w'.heap.size A n ks) := Lib.hid fun w' h => hr.later h
  have HL := Lib.hid hr.len
  clear hr
  go_enter Try.func39, Try.ntmps39
  go_wp2
  go_loopw [3, 4] (fun s i wr => Hid (Below w.heap.size w wr) ∧ ∃ k : Nat, k ≤ n ∧ i = .int .i64 k ∧ ∃ q : Nat, q ≤ k ∧ s = .int .i64 q ∧ Hid (q = (unl (ks.take k)).length)) (fun _ i _ => n - (intOf i).toNat)
  case atStart => exact ⟨Lib.hid (Below.refl _ _), 0, Nat.zero_le _, rfl, 0, Nat.le_refl _, rfl, Lib.hid rfl⟩
  case round =>
    obtain ⟨HB0, k, hk, rfl, q, hq, rfl, HQ⟩ := hrel
    by_cases hlt : k < n
    case neg =>
      have E : Hid (q = (unl ks).length) := Lib.hid (by rw [HQ.out, take_all (by rw [HL.out]; omega)])
      go_wp2
      go_ret
      exact ⟨ret_int (by rw [E.out]), HB0.out⟩
    obtain ⟨b, o, x, a, ck, eA, hb, hx, hcell, hxc, hck, _, hrb⟩ := (HR.out _ HB0.out).at_ hlt
    subst eA
    have HX := Lib.hid hx
    have HXU : Hid (unl (ks.take (k + 1)) = addK (unl (ks.take k)) x) := Lib.hid (by rw [take_snoc hx, unl_snoc])
    clear hx hrb hxc hck hb
    go_wp2
    go_loopw [5, 6] (fun f j wr => Hid (Below w.heap.size w wr) ∧ ∃ (i : Nat) (fb : Bool), i ≤ k ∧ j = .int .i64 i ∧ f = .bool fb ∧ Hid (fb = !((ks.take i).contains x))) (fun _ j _ => k + 1 - (intOf j).toNat)
    case atStart => exact ⟨HB0, 0, true, Nat.zero_le _, rfl, rfl, Lib.hid (by simp)⟩
    case round =>
      obtain ⟨HB1, i, fb, hi, rfl, rfl, HF⟩ := hrel
      have HMT : Hid ((ks.take k).contains x = false → q + 1 = (unl (ks.take (k + 1))).length) := Lib.hid fun h => by
        rw [HXU.out]
        unfold addK
        rw [if_neg (fun hc => by
          have h2 := (mem_unl (ks.take k) x).1 (List.contains_iff_mem.1 hc)
          rw [List.contains_iff_mem.2 h2] at h; cases h), List.length_append, HQ.out]; rfl
      have HMF : Hid ((ks.take k).contains x = true → q = (unl (ks.take (k + 1))).length) := Lib.hid fun h => by
        rw [HXU.out]
        unfold addK
        rw [if_pos (List.contains_iff_mem.2 ((mem_unl (ks.take k) x).2 (List.contains_iff_mem.1 h))), HQ.out]
      cases fb
      · have HC : Hid ((ks.take k).contains x = true) := Lib.hid (by
          have h1 : (ks.take i).contains x = true := by have := HF.out; simpa using this
          have h2 := List.contains_iff_mem.1 h1
          refine List.contains_iff_mem.2 ?_
          have e : ks.take i = (ks.take k).take i := by rw [List.take_take, Nat.min_eq_left hi]
          rw [e] at h2
          exact List.mem_of_mem_take h2)
        by_cases hik : i < k
        · have hd : decide ((i : Int) < (k : Int)) = true := decide_eq_true (by omega)
          go_wp2
          go_roundw
          case rel => exact ⟨HB1, k + 1, by omega, by go_num, q, by omega, rfl, Lib.hid (HMF.out HC.out)⟩
          case measure => simp [intOf]; omega
        · have hd : decide ((i : Int) < (k : Int)) = false := decide_eq_false (by omega)
          go_wp2
          go_roundw
          case rel => exact ⟨HB1, k + 1, by omega, by go_num, q, by omega, rfl, Lib.hid (HMF.out HC.out)⟩
          case measure => simp [intOf]; omega
      · by_cases hik : i < k
        case neg =>
          have HC : Hid ((ks.take k).contains x = false) := Lib.hid (by
            obtain rfl : i = k := by omega
            have := HF.out
            simpa using this)
          have hd : decide ((i : Int) < (k : Int)) = false := decide_eq_false (by omega)
          go_wp2
          go_roundw
          case rel => exact ⟨HB1, k + 1, by omega, by go_num, q + 1, by omega, by go_num, Lib.hid (HMT.out HC.out)⟩
          case measure => simp [intOf]; omega
        have hd : decide ((i : Int) < (k : Int)) = true := decide_eq_true (by omega)
        obtain ⟨b2, o2, z, a2, ck2, e2, _, hz, hcell2, _, _, _, hrb2⟩ := (HR.out _ HB1.out).at_ (i := i) (by omega)
        injection e2 with e2
        injection e2 with e2 e3
        subst e2
        subst e3
        obtain ⟨b4, o4, x4, a4, ck4, e4, _, hx4, hcell4, _, _, _, hrb4⟩ := (HR.out _ HB1.out).at_ (i := k) (by omega)
        injection e4 with e4
        injection e4 with e4 e5
        subst e4
        subst e5
        rw [HX.out] at hx4
        injection hx4 with hx4
        subst hx4
        have HRX4 := Lib.hid hrb4
        clear hcell hrb4
        have HZ := Lib.hid hrb2
        have HN : Hid ((ks.take (i + 1)).contains x = (x == z)) := Lib.hid (by
          have h1 : (ks.take i).contains x = false := by have := HF.out; simpa using this
          rw [take_snoc hz, List.contains_append, h1, Bool.eq_iff_iff]
          simp)
        have hin : (i : Int) < (n : Int) := by omega
        have hkn : (k : Int) < (n : Int) := by omega
        clear hz hrb2
        cases hxz : (x == z)
        · have HXZ := Lib.hid hxz
          clear hxz
          go_wp2
          go_quiet ((go_at_call 45; refine Calls.quiet_of_same (Calls.mono (ralike_any x z a4 a2 x.length ck4 z.length ck2 _ ?_ ?_) fun _ _ h => ⟨h.1, h.2.symm⟩); exact HRX4.out; exact HZ.out))
          rw [HXZ.out]
          go_wp2
          go_roundw
          case rel => exact ⟨Lib.hid (below_drewN HB1.out), i + 1, true, by omega, by go_num, rfl, Lib.hid (by rw [HN.out, HXZ.out]; rfl)⟩
          case measure => simp [intOf]; omega
        · have HXZ := Lib.hid hxz
          clear hxz
          go_wp2
          go_quiet ((go_at_call 45; refine Calls.quiet_of_same (Calls.mono (ralike_any x z a4 a2 x.length ck4 z.length ck2 _ ?_ ?_) fun _ _ h => ⟨h.1, h.2.symm⟩); exact HRX4.out; exact HZ.out))
          rw [HXZ.out]
          go_wp2
          go_roundw
          case rel => exact ⟨Lib.hid (below_drewN HB1.out), i + 1, false, by omega, by go_num, rfl, Lib.hid (by rw [HN.out, HXZ.out]; rfl)⟩
          case measure => simp [intOf]; omega
end Go.Proofs.Ythjjihipodhkiaa

/-
  The reference's laid, walked; lists of bits.
-/
namespace Go.Proofs.Ythjjihipodhkiaa
open Go.RowKit

def bools (l : List Bool) : List Value := l.map Value.bool
theorem bools_len (l : List Bool) : (bools l).length = l.length := by simp [bools]
theorem bools_app (a b : List Bool) : bools (a ++ b) = bools a ++ bools b := by simp [bools]
theorem bools_one (l : List Bool) : ∀ u ∈ bools l, u.oneCell' = true := by
  intro u hu
  obtain ⟨c, _, rfl⟩ := List.mem_map.1 hu
  rfl
theorem bools_at {l : List Bool} {k : Nat} {c : Bool} (h : l[k]? = some c) : (bools l)[k]? = some (.bool c) := by simp [bools, h]
theorem bools_set (l : List Bool) (k : Nat) (b : Bool) : (bools l).set k (.bool b) = bools (l.set k b) := by unfold bools; rw [List.map_set]

/-- A byte out of its bits, so far. -/
def accB (f : Nat → Bool) : Nat → Nat
  | 0 => 0
  | k + 1 => 2 * accB f k + (f k).toNat
theorem accB_lt (f : Nat → Bool) : ∀ k, accB f k < 2 ^ k
  | 0 => by simp [accB]
  | k + 1 => by
    have := accB_lt f k
    have h : (f k).toNat ≤ 1 := Bool.toNat_le _
    show 2 * accB f k + (f k).toNat < _
    rw [Nat.pow_succ]; omega
theorem accB_le (f : Nat → Bool) {k : Nat} (h : k ≤ 8) : accB f k < 256 := by
  have h1 := accB_lt f k
  have h2 : 2 ^ k ≤ 2 ^ 8 := Nat.pow_le_pow_right (by decide) h
  have h3 : (2 : Nat) ^ 8 = 256 := by decide
  omega
theorem acc8 : ∀ b0 b1 b2 b3 b4 b5 b6 b7 : Bool, 2 * (2 * (2 * (2 * (2 * (2 * (2 * (2 * 0 + b0.toNat) + b1.toNat) + b2.toNat) + b3.toNat) + b4.toNat) + b5.toNat) + b6.toNat) + b7.toNat = pack8 b0 b1 b2 b3 b4 b5 b6 b7 := by decide +kernel
theorem accB_pack (f : Nat → Bool) : UInt8.ofNat (accB f 8) = packB f := by
  show UInt8.ofNat (2 * (2 * (2 * (2 * (2 * (2 * (2 * (2 * 0 + (f 0).toNat) + (f 1).toNat) + (f 2).toNat) + (f 3).toNat) + (f 4).toNat) + (f 5).toNat) + (f 6).toNat) + (f 7).toNat) = _
  rw [acc8]; rfl
/-- A filter's bytes, so far. -/
def bodyTo (p m : Nat) (S : Nat → Bool) (q : Nat) : List UInt8 := headB p m ++ (List.range q).map fun j => packB fun t => S (8 * j + t)
theorem bodyTo_len (p m : Nat) (S : Nat → Bool) (q : Nat) : (bodyTo p m S q).length = 6 + q := by simp [bodyTo, headB]; omega
theorem bodyTo_succ (p m : Nat) (S : Nat → Bool) (q : Nat) : bodyTo p m S (q + 1) = bodyTo p m S q ++ [packB fun t => S (8 * q + t)] := by simp [bodyTo, List.range_succ]
def bitOf (bs : List Bool) : Nat → Bool := fun i => bs[i]?.getD false
theorem u8v_modR (s : Nat) : u8v (UInt8.ofNat s) = .int .u8 ((s : Int) % 256) := by
  unfold u8v
  rw [UInt8.toNat_ofNat', Int.natCast_emod]; rfl

set_option maxRecDepth 100000 in
set_option maxHeartbeats 2000000 in
theorem laid_any (p : Nat) (bs : List Bool) (A : Option Addr) (n c : Nat) (w : World) (hp : p ≤ 255) (hn8 : n % 8 = 0) (hn : n ≤ 20971520) (hr : Reads w w.heap.size 1 A n (bools bs)) :
    Calls Try.prog 41 #[.int .i64 p, .slice A n c] w (BytesPost 5 (filterB p n (bitOf bs)) w) := by
  have hbl : bs.length = n := by have := hr.1; rw [bools_len] at this; omega
  have HBL := Lib.hid hbl
  have HR : Hid (∀ w', Below w.heap.size w w' → Reads w' w'.heap.size 1 A n (bools bs)) := Lib.hid fun w' h => Reads.more (hr.below h) h.size
  have HH : Hid (u8s (headB p n) = [.int .u8 66, .int .u8 (p : Int), .int .u8 ((n : Int) / 16777216), .int .u8 ((n : Int) / 65536 % 256), .int .u8 ((n : Int) / 256 % 256), .int .u8 ((n : Int) % 256)]) := Lib.hid (by
    show [u8v _, u8v _, u8v _, u8v _, u8v _, u8v _] = _
    rw [u8v_modR, u8v_modR, u8v_modR, u8v_modR, u8v_modR]
    simp only [Int.natCast_ediv]
    rw [show ((p : Int) % 256) = (p : Int) from by omega, show ((n : Int) / ((16777216 : Nat) : Int) % 256) = (n : Int) / 16777216 from by omega]; rfl)
  obtain ⟨nq, hnq⟩ : ∃ nq, n = 8 * nq := ⟨n / 8, by omega⟩
  have HNQ := Lib.hid hnq
  have hnq2 : nq ≤ 2621440 := by omega
  have S8 : Hid (∀ q k b, bs[8 * q + k]? = some b → bitOf bs (8 * q + k) = b) := Lib.hid fun q k b h => by unfold bitOf; rw [h]; rfl
  have HFB : Hid (bodyTo p n (bitOf bs) nq = filterB p n (bitOf bs)) := Lib.hid (by unfold bodyTo filterB; rw [show n / 8 = nq from by omega])
  have HB0L : Hid (bodyTo p n (bitOf bs) 0 = headB p n) := Lib.hid (by simp [bodyTo])
  clear hr hbl hnq hn8
  go_enter Try.func41, Try.ntmps41
  go_wp2_with (at_builtin; go_must (refine wpList_append_reads _ rfl (.tmp 12) (.tmp 26) rfl Try.u8s' w.heap.size (.slice none 0 0) 0 [] rfl (own_nil _ _ _ _) (w.heap.size + 1) (some ⟨w.heap.size, 0, none⟩) 6 6 (u8s (headB p n)) rfl (by exact reads_lit w _ (headB p n) _ _ (by rw [HH.out])) (u8s_one _) (by decide) (by decide) (by simp) ?_); intro v1 w1 hown1 hg1 hat1; have HB1 := Lib.hid (below_app ((Below.refl w.heap.size w).alloc (Nat.le_refl _) (.cells #[.int .u8 66, .int .u8 (p : Int), .int .u8 ((n : Int) / 16777216), .int .u8 ((n : Int) / 65536 % 256), .int .u8 ((n : Int) / 256 % 256), .int .u8 ((n : Int) % 256)] 5)) (own_nil _ w.heap.size 5 1) hg1 (by simp) (Nat.le_refl _)); rw [List.nil_append, Nat.zero_add, ← HB0L.out] at hown1; have HO1 := Lib.hid hown1; clear hown1 hg1 hat1)
  go_loopw [6, 7] (fun f i wr => ∃ q Q : Nat, Q ≤ n ∧ Hid (Q = 8 * q) ∧ i = .int .i64 Q ∧ wr.ownsRow w.heap.size 5 1 f (6 + q) (u8s (bodyTo p n (bitOf bs) q)) ∧ Hid (Below w.heap.size w wr)) (fun _ i _ => n - (intOf i).toNat)
  case atStart => exact ⟨0, 0, Nat.zero_le _, Lib.hid rfl, rfl, HO1.out, HB1⟩
  case round =>
    obtain ⟨q, Q, hQ, HQ, rfl, hown, HB⟩ := hrel
    by_cases hlt : Q < n
    case neg =>
      have hP : BytesPost 5 (filterB p n (bitOf bs)) w (.returned u6) wr := by
        have e : q = nq := by have := HQ.out; have := HNQ.out; omega
        subst e
        rw [HFB.out] at hown
        exact bytes_post hown HB.out
      have HP := Lib.hid hP
      clear hP hown
      go_wp2
      go_ret
      exact HP.out
    have hq8 : Q + 8 ≤ n := by have := HQ.out; have := HNQ.out; omega
    obtain ⟨v, hv⟩ : ∃ v, v = u6 := ⟨_, rfl⟩
    rw [← hv] at hown ⊢
    have HOW := Lib.hid hown
    clear hv hown
    go_wp2
    go_loop [8, 9] (fun x y => ∃ k C : Nat, k ≤ 8 ∧ y = .int .i64 k ∧ x = .int .i64 C ∧ C < 256 ∧ Hid (C = accB (fun t => bitOf bs (8 * q + t)) k)) (fun _ y => 8 - (intOf y).toNat)
    case atStart => exact ⟨0, 0, by omega, rfl, rfl, by omega, Lib.hid rfl⟩
    case round =>
      obtain ⟨k, C, hk, rfl, rfl, hC, HC⟩ := hrel
      by_cases hk8 : k < 8
      case neg =>
        have hd : decide ((k : Int) < 8) = false := decide_eq_false (by omega)
        have HPK : Hid (UInt8.ofNat C = packB fun t => bitOf bs (8 * q + t)) := Lib.hid (by rw [HC.out, show k = 8 from by omega, accB_pack])
        have H8 : Hid (u8s [UInt8.ofNat C] = [.int .u8 (C : Int)]) := Lib.hid (by show [u8v _] = _; rw [u8v_modR, show ((C : Int) % 256) = (C : Int) from by omega])
        have hqb : q ≤ 2621440 := by have := HQ.out; omega
        go_wp2_with (at_builtin; go_must (refine wpList_append_reads _ rfl (.tmp 47) (.tmp 50) rfl Try.u8s' w.heap.size v (6 + q) (u8s (bodyTo p n (bitOf bs) q)) rfl (HOW.out.alloc _) (wr.heap.size + 1) (some ⟨wr.heap.size, 0, none⟩) 1 1 (u8s [UInt8.ofNat C]) rfl (by exact reads_lit wr _ [UInt8.ofNat C] _ _ (by rw [H8.out])) (u8s_one _) (by unfold maxLen; omega) (by omega) (by have := HB.out.size; simp; omega) ?_); intro v2 w2 hown2 hg2 hat2; have HB2 := Lib.hid (below_app (HB.out.alloc HB.out.size (.cells #[.int .u8 (C : Int)] 5)) (HOW.out.alloc _) hg2 (by have := HB.out.size; simp; omega) (Nat.le_refl _)); rw [← u8s_append, HPK.out, ← bodyTo_succ] at hown2; have HO2 := Lib.hid hown2; clear hown2 hg2 hat2)
        have hO2 : w2.ownsRow w.heap.size 5 1 v2 (6 + (q + 1)) (u8s (bodyTo p n (bitOf bs) (q + 1))) := HO2.out
        clear HO2
        go_roundw
        case rel => exact ⟨q + 1, Q + 8, by omega, Lib.hid (by have := HQ.out; omega), by go_num, hO2, HB2⟩
        case measure => simp [intOf]; omega
      have hd : decide ((k : Int) < 8) = true := decide_eq_true (by omega)
      obtain ⟨bb, oo, eA, _, hcc⟩ := (HR.out _ HB.out).2 (by omega)
      obtain ⟨b, hb⟩ : ∃ b, bs[Q + k]? = some b := ⟨_, List.getElem?_eq_getElem (by rw [HBL.out]; omega)⟩
      have hcb := hcc (Q + k) _ (bools_at hb)
      have HBIT : Hid (bitOf bs (8 * q + k) = b) := Lib.hid (S8.out q k b (by rw [← HQ.out]; exact hb))
      subst eA
      have hs1 : IntKind.i64.wrap ((Q : Int) + (k : Int)) = (Q : Int) + (k : Int) := i64_sum (by omega) (by omega)
      clear hcc hb
      cases b with
      | true =>
        have HN : Hid (2 * C + 1 = accB (fun t => bitOf bs (8 * q + t)) (k + 1)) := Lib.hid (by show _ = 2 * accB _ k + (bitOf bs (8 * q + k)).toNat; rw [← HC.out, HBIT.out]; rfl)
        have hC2 : 2 * C + 1 < 256 := by rw [HN.out]; exact accB_le _ (by omega)
        go_wp2
        go_round
        case rel => exact ⟨k + 1, 2 * C + 1, by omega, by go_num, by go_num, hC2, HN⟩
        case measure => simp [intOf]; omega
      | false =>
        have HN : Hid (2 * C = accB (fun t => bitOf bs (8 * q + t)) (k + 1)) := Lib.hid (by show _ = 2 * accB _ k + (bitOf bs (8 * q + k)).toNat; rw [← HC.out, HBIT.out]; rfl)
        have hC2 : 2 * C < 256 := by rw [HN.out]; exact accB_le _ (by omega)
        go_wp2
        go_round
        case rel => exact ⟨k + 1, 2 * C, by omega, by go_num, by go_num, hC2, HN⟩
        case measure => simp [intOf]; omega

end Go.Proofs.Ythjjihipodhkiaa

/-
  The reference's read, walked.
-/
namespace Go.Proofs.Ythjjihipodhkiaa
open Go.RowKit

theorem Try.bls : SliceOf Try.prog 67 4 1 1 := SliceOf.mk' (z := .bool false) Try.underlying67 (by kernel_rfl) rfl (by decide)
/-- A filter's bits. -/
def bitsL (f : List UInt8) (m : Nat) : List Bool := (List.range m).map (bitAt f)
theorem bitsL_len (f : List UInt8) (m : Nat) : (bitsL f m).length = m := by simp [bitsL]
theorem bitsL_succ (f : List UInt8) (m : Nat) : bitsL f (m + 1) = bitsL f m ++ [bitAt f m] := by simp [bitsL, List.range_succ]
theorem bit_div : ∀ (x : Fin 256) (t : Fin 8), ((x.val / (128 / 2 ^ t.val) % 2 == 1) : Bool) = ((x.val &&& (128 / 2 ^ t.val)) != 0) := by decide +kernel
theorem bitAt_div (f : List UInt8) (j t : Nat) (x : UInt8) (ht : t < 8) (hx : f[6 + j]? = some x) : (x.toNat / maskN t % 2 == 1) = bitAt f (8 * j + t) := by
  unfold bitAt
  rw [show (8 * j + t) / 8 = j from by omega, show (8 * j + t) % 8 = t from by omega, hx, Option.getD_some]
  exact bit_div ⟨x.toNat, x.toNat_lt⟩ ⟨t, ht⟩
theorem mask_next : ∀ t : Fin 8, maskN t.val / 2 = maskN (t.val + 1) ∧ 0 < maskN t.val ∧ maskN t.val ≤ 128 := by decide +kernel
/-- What the reference's read leaves. -/
def RdPost (f : List UInt8) (w : World) (e : Ending) (w' : World) : Prop :=
  (isF f = false ∧ e = .returned (.tuple #[.int .i64 0, .slice none 0 0, .bool false]) ∧ Below w.heap.size w w') ∨
  (isF f = true ∧ ∃ A c, e = .returned (.tuple #[.int .i64 (shapeP f), .slice A (shapeM f) c, .bool true]) ∧ w'.ownsRow w.heap.size 4 1 (.slice A (shapeM f) c) (shapeM f) (bools (bitsL f (shapeM f))) ∧ Below w.heap.size w w')

theorem isF_shape {f : List UInt8} {x0 x1 x2 x3 x4 x5 : UInt8} (h0 : f[0]? = some x0) (h1 : f[1]? = some x1) (h2 : f[2]? = some x2) (h3 : f[3]? = some x3) (h4 : f[4]? = some x4) (h5 : f[5]? = some x5) (e0 : x0 = 66) : shapeP f = x1.toNat ∧ shapeM f = headN x2 x3 x4 x5 := by
  subst e0
  have hl : 6 ≤ f.length := by have := (List.getElem?_eq_some_iff.1 h5).1; omega
  unfold shapeP shapeM
  rw [if_neg (by rw [h0]; simp; omega), if_neg (by rw [h0]; simp; omega), h1, h2, h3, h4, h5]
  exact ⟨rfl, rfl⟩
theorem isF_no {f : List UInt8} (h : f.length < 14 ∨ f[0]? ≠ some 66) : isF f = false := by
  unfold isF
  rw [decide_eq_false_iff_not]
  rintro ⟨h1, _, h3, _, _, h6⟩
  rcases h with h | h
  · omega
  · unfold shapeP at h1
    rw [if_pos (.inr h)] at h1
    omega

set_option maxRecDepth 100000 in
set_option maxHeartbeats 2000000 in
theorem rread_no1 (f : List UInt8) (A : Option Addr) (n c : Nat) (w : World) (hr : RB w w.heap.size A n f) (h : n < 14 ∨ (14 ≤ n ∧ f[0]? ≠ some 66) ∨ (14 ≤ n ∧ f[0]? = some 66 ∧ ¬(1 ≤ shapeP f ∧ shapeP f ≤ 14))) :
    Calls Try.prog 42 #[.slice A n c] w (RdPost f w) := by
  have hl := hr.len
  have HI : Hid (isF f = false) := Lib.hid (by
    rcases h with h | ⟨_, h⟩ | ⟨_, _, h⟩
    · exact isF_no (.inl (by omega))
    · exact isF_no (.inr h)
    · unfold isF; rw [decide_eq_false_iff_not]; rintro ⟨h1, h2, _⟩; exact h ⟨h1, h2⟩)
  rcases h with h | ⟨h14, h⟩ | ⟨h14, h0, h⟩
  · have hd : decide ((n : Int) < 14) = true := decide_eq_true (by omega)
    clear hr hl h
    go_enter Try.func42, Try.ntmps42
    go_wp2
    go_ret3
    exact .inl ⟨HI.out, rfl, Below.refl _ _⟩
  · have hd : decide ((n : Int) < 14) = false := decide_eq_false (by omega)
    obtain ⟨b, o, x0, rfl, _, hx0, hc0⟩ := hr.at_ (k := 0) (by omega); rw [Nat.add_zero] at hc0
    have hne : ((x0.toNat : Int) != 66) = true := by
      rw [bne_iff_ne]
      intro e
      have : x0.toNat = (66 : UInt8).toNat := by rw [show (66 : UInt8).toNat = 66 from rfl]; omega
      exact h (by rw [hx0, UInt8.toNat_inj.1 this])
    clear hr hl h hx0
    go_enter Try.func42, Try.ntmps42
    go_wp2
    go_ret3
    exact .inl ⟨HI.out, rfl, Below.refl _ _⟩
  · have hd : decide ((n : Int) < 14) = false := decide_eq_false (by omega)
    obtain ⟨b, o, x0, rfl, _, hx0, hc0⟩ := hr.at_ (k := 0) (by omega); rw [Nat.add_zero] at hc0
    obtain ⟨b', o', x1, e', _, hx1, hc1⟩ := hr.at_ (k := 1) (by omega)
    injection e' with e'; injection e' with e1 e2
    subst e1; subst e2
    rw [hx0] at h0; injection h0 with h0
    have hne : ((x0.toNat : Int) != 66) = false := by rw [h0]; rfl
    have hp : shapeP f = x1.toNat := by
      unfold shapeP
      rw [if_neg (by rw [hx0, h0]; simp; omega), hx1]; rfl
    rw [hp] at h
    have hcase : decide ((x1.toNat : Int) < 1) = true ∨ (decide ((x1.toNat : Int) < 1) = false ∧ decide ((14 : Int) < (x1.toNat : Int)) = true) := by
      by_cases h1 : x1.toNat < 1
      · exact .inl (decide_eq_true (by omega))
      · exact .inr ⟨decide_eq_false (by omega), decide_eq_true (by omega)⟩
    clear hr hl h hx0 hx1 hp h0
    rcases hcase with d1 | ⟨d1, d2⟩
    all_goals
      go_enter Try.func42, Try.ntmps42
      go_wp2
      go_ret3
      exact .inl ⟨HI.out, rfl, Below.refl _ _⟩

set_option maxRecDepth 100000 in
set_option maxHeartbeats 4000000 in
theorem rread_on (f : List UInt8) (A : Option Addr) (n c : Nat) (w : World) (hr : RB w w.heap.size A n f) (h14 : 14 ≤ n) (hn : n ≤ 9223372036854775807) (h0 : f[0]? = some 66) (hp1 : 1 ≤ shapeP f) (hp2 : shapeP f ≤ 14) :
    Calls Try.prog 42 #[.slice A n c] w (RdPost f w) := by
  have hl := hr.len
  obtain ⟨b, o, x0, rfl, _, hx0, hc0⟩ := hr.at_ (k := 0) (by omega); rw [Nat.add_zero] at hc0
  have cell : ∀ k, k < n → ∃ x, f[k]? = some x ∧ w.cell? ⟨b, o + k, none⟩ = some (.int .u8 (x.toNat : Int)) := fun k hk => by
    have hx := List.getElem?_eq_getElem (l := f) (i := k) (by omega)
    exact ⟨_, hx, hr.cell hx⟩
  have HCELL : Hid (∀ w', Below w.heap.size w w' → ∀ k, k < n → ∃ x, f[k]? = some x ∧ w'.cell? ⟨b, o + k, none⟩ = some (.int .u8 (x.toNat : Int))) := Lib.hid fun w' hb k hk => by
    have hx := List.getElem?_eq_getElem (l := f) (i := k) (by omega)
    exact ⟨_, hx, (hr.later hb).cell hx⟩
  obtain ⟨x1, hx1, hc1⟩ := cell 1 (by omega)
  obtain ⟨x2, hx2, hc2⟩ := cell 2 (by omega)
  obtain ⟨x3, hx3, hc3⟩ := cell 3 (by omega)
  obtain ⟨x4, hx4, hc4⟩ := cell 4 (by omega)
  obtain ⟨x5, hx5, hc5⟩ := cell 5 (by omega)
  rw [hx0] at h0; injection h0 with h0
  obtain ⟨eP, eM⟩ := isF_shape hx0 hx1 hx2 hx3 hx4 hx5 h0
  have hne : ((x0.toNat : Int) != 66) = false := by rw [h0]; rfl
  have d0 : decide ((n : Int) < 14) = false := decide_eq_false (by omega)
  have d1 : decide ((x1.toNat : Int) < 1) = false := decide_eq_false (by omega)
  have d2 : decide ((14 : Int) < (x1.toNat : Int)) = false := decide_eq_false (by omega)
  have HBLT : Hid (b < w.heap.size) := Lib.hid (World.block_lt_of_cell? w ⟨b, o, none⟩ hc0)
  clear h0 hx0 hx1 hx2 hx3 hx4 hx5 cell
  go_enter Try.func42, Try.ntmps42
  have b2 := x2.toNat_lt
  have b3 := x3.toNat_lt
  have b4 := x4.toNat_lt
  have b5 := x5.toNat_lt
  obtain ⟨M, hM⟩ : ∃ M, M = shapeM f := ⟨_, rfl⟩
  rw [← hM] at eM
  have hMI : (((x2.toNat : Int) * 256 + (x3.toNat : Int)) * 256 + (x4.toNat : Int)) * 256 + (x5.toNat : Int) = (M : Int) := by rw [eM]; unfold headN; omega
  have hM32 : M < 4294967296 := by rw [eM]; unfold headN; omega
  have HMF : Hid (M = shapeM f) := Lib.hid hM
  have HPF : Hid (shapeP f = x1.toNat) := Lib.hid eP
  have HIF : Hid (isF f = decide (64 ≤ M ∧ M ≤ 20971520 ∧ M % 8 = 0 ∧ n = 6 + M / 8)) := Lib.hid (by
    unfold isF
    rw [← hM, hl]
    simp only [hp1, hp2, true_and])
  have HL := Lib.hid hl
  have hnb : (0 : Int) ≤ (n : Int) := by omega
  clear eM hM eP hp1 hp2 b2 b3 b4 b5 hr hl
  have hcase : (decide ((M : Int) < 64) = true) ∨ (decide ((M : Int) < 64) = false ∧ decide ((20971520 : Int) < (M : Int)) = true) ∨ (decide ((M : Int) < 64) = false ∧ decide ((20971520 : Int) < (M : Int)) = false ∧ (((M : Int) % 8 != 0) = true)) ∨ (decide ((M : Int) < 64) = false ∧ decide ((20971520 : Int) < (M : Int)) = false ∧ (((M : Int) % 8 != 0) = false) ∧ (((n : Int) != 6 + (M : Int) / 8) = true)) ∨ (64 ≤ M ∧ M ≤ 20971520 ∧ M % 8 = 0 ∧ n = 6 + M / 8) := by
    simp only [decide_eq_true_eq, decide_eq_false_iff_not, bne_iff_ne, bne_eq_false_iff_eq]
    omega
  rcases hcase with d3 | ⟨d3, d4⟩ | ⟨d3, d4, d5⟩ | ⟨d3, d4, d5, d6⟩ | ⟨g1, g2, g3, g4⟩
  case inl | inr.inl | inr.inr.inl | inr.inr.inr.inl =>
    have HI : Hid (isF f = false) := Lib.hid (by
      rw [HIF.out, decide_eq_false_iff_not]
      simp only [decide_eq_true_eq, decide_eq_false_iff_not, bne_iff_ne, bne_eq_false_iff_eq] at *
      omega)
    go_wp2
    go_quiet (fail)
    go_wp2_with fail
    go_ret3
    exact .inl ⟨HI.out, rfl, below_drewN (Below.refl _ _)⟩
  have HI : Hid (isF f = true) := Lib.hid (by rw [HIF.out, decide_eq_true_iff]; exact ⟨g1, g2, g3, g4⟩)
  have d3 : decide ((M : Int) < 64) = false := decide_eq_false (by omega)
  have d4 : decide ((20971520 : Int) < (M : Int)) = false := decide_eq_false (by omega)
  have d5 : ((M : Int) % 8 != 0) = false := by rw [bne_eq_false_iff_eq]; omega
  have d6 : ((n : Int) != 6 + (M : Int) / 8) = false := by rw [bne_eq_false_iff_eq]; omega
  obtain ⟨mq, hmq⟩ : ∃ mq, M = 8 * mq := ⟨M / 8, by omega⟩
  have HMQ := Lib.hid hmq
  have hmqb : mq ≤ 2621440 := by omega
  have hnq : n = 6 + mq := by omega
  have HNQ := Lib.hid hnq
  have hn20 : n ≤ 2621446 := by omega
  clear hmq g1 g2 g3 g4 hnq
  go_wp2
  go_quiet (fail)
  have HB0 := Lib.hid (below_drewN (n := nq) (Below.refl w.heap.size w))
  go_wp2_with fail
  go_loopw [6, 7] (fun v i wr => ∃ q I : Nat, I ≤ n ∧ Hid (I = 6 + q) ∧ i = .int .i64 I ∧ wr.ownsRow w.heap.size 4 1 v (8 * q) (bools (bitsL f (8 * q))) ∧ Hid (Below w.heap.size w wr)) (fun _ i _ => n - (intOf i).toNat)
  case atStart => exact ⟨0, 6, by omega, Lib.hid rfl, rfl, own_nil _ _ _ _, HB0⟩
  case round =>
    clear HB0
    obtain ⟨q, I, hI, HI6, rfl, hown, HB⟩ := hrel
    by_cases hlt : I < n
    case neg =>
      have hd : decide ((I : Int) < (n : Int)) = false := decide_eq_false (by omega)
      have HQ : Hid (8 * q = shapeM f) := Lib.hid (by have := HI6.out; have := HNQ.out; have := HMQ.out; have := HMF.out; omega)
      rw [HQ.out] at hown
      obtain ⟨A', c', e', _, _, _, _⟩ := own_slice hown
      subst e'
      have HO := Lib.hid hown
      obtain ⟨y1, hy1, hcy1⟩ := HCELL.out wr HB.out 1 (by omega)
      have hx1 : (x1.toNat : Int) = (y1.toNat : Int) := by
        have h := (HB.out.cell (p := ⟨b, o + 1, none⟩) HBLT.out).trans hc1
        rw [hcy1] at h
        injection h with h; injection h with _ h; exact h.symm
      have HX1 := Lib.hid hx1
      have hy8 := y1.toNat_lt
      clear hown hx1 hy1
      go_wp2
      go_ret3
      exact .inr ⟨HI.out, A', c', by rw [HPF.out, HX1.out]; rfl, HO.out, HB.out⟩
    have hd : decide ((I : Int) < (n : Int)) = true := decide_eq_true (by omega)
    have hq : q < mq := by have := HI6.out; have := HNQ.out; omega
    obtain ⟨x, hx, hcx⟩ := HCELL.out wr HB.out I hlt
    have hx8 := x.toNat_lt
    have HBIT : Hid (∀ t, t < 8 → (x.toNat / maskN t % 2 == 1) = bitAt f (8 * q + t)) := Lib.hid fun t ht => bitAt_div f q t x ht (by rw [← HI6.out]; exact hx)
    obtain ⟨wo, rfl⟩ : ∃ wo : World, wo = wr := ⟨_, rfl⟩
    clear hx
    go_wp2_with fail
    go_loopw [6, 9] (fun v y wr => ∃ t K : Nat, t ≤ 8 ∧ Hid (K = maskN t) ∧ K ≤ 128 ∧ y = .int .i64 K ∧ wr.ownsRow w.heap.size 4 1 v (8 * q + t) (bools (bitsL f (8 * q + t))) ∧ Hid (Below w.heap.size w wr)) (fun _ y _ => (intOf y).toNat)
    case atStart => exact ⟨0, 128, by omega, Lib.hid rfl, by omega, rfl, hown, HB⟩
    case round =>
      clear hown HB
      obtain ⟨t, K, ht, HK, hK, rfl, hown, HB⟩ := hrel
      by_cases ht8 : t < 8
      case neg =>
        have hK0 : K = 0 := by rw [HK.out, show t = 8 from by omega]; rfl
        have hd2 : decide ((0 : Int) < (K : Int)) = false := decide_eq_false (by omega)
        have hd3 : decide (0 < K) = false := decide_eq_false (by omega)
        have HT8 : Hid (8 * q + t = 8 * (q + 1)) := Lib.hid (by omega)
        rw [HT8.out] at hown
        clear hK0
        go_wp2_with fail
        go_roundw
        case rel => exact ⟨q + 1, I + 1, by omega, Lib.hid (by have := HI6.out; omega), by go_num, hown, HB⟩
        case measure => simp [intOf]; omega
      obtain ⟨m1, m2, m3⟩ := mask_next ⟨t, ht8⟩
      have HM1 : Hid (K / 2 = maskN (t + 1)) := Lib.hid (by rw [HK.out]; exact m1)
      have hK0 : 0 < K := by rw [HK.out]; exact m2
      have hd2 : decide ((0 : Int) < (K : Int)) = true := decide_eq_true (by omega)
      obtain ⟨bit, hbit⟩ : ∃ bit, bit = bitAt f (8 * q + t) := ⟨_, rfl⟩
      obtain ⟨D, hD⟩ : ∃ D, D = x.toNat / K := ⟨_, rfl⟩
      have hxd : (x.toNat : Int) / (K : Int) = (D : Int) := by rw [hD, Int.natCast_ediv]
      have hD8 : D < 256 := by rw [hD]; exact Nat.lt_of_le_of_lt (Nat.div_le_self _ _) hx8
      have hbv : ((D : Int) % 2 == 1) = bit := by
        rw [hbit, ← HBIT.out t ht8, ← HK.out, ← hD, Bool.eq_iff_iff, beq_iff_eq, beq_iff_eq]
        omega
      have HN : Hid (bools (bitsL f (8 * q + t)) ++ bools [bit] = bools (bitsL f (8 * q + (t + 1)))) := Lib.hid (by rw [← bools_app, hbit, ← bitsL_succ]; rfl)
      obtain ⟨v, hv⟩ : ∃ v, v = u6 := ⟨_, rfl⟩
      rw [← hv] at hown ⊢
      have HOW := Lib.hid hown
      clear hv hown m1 m2 m3 hbit hD
      go_wp2_with (at_builtin; go_must (refine wpList_append_reads _ rfl (.tmp 87) (.tmp 93) rfl Try.bls w.heap.size v (8 * q + t) (bools (bitsL f (8 * q + t))) rfl (HOW.out.alloc _) (wr.heap.size + 1) (some ⟨wr.heap.size, 0, none⟩) 1 1 (bools [bit]) rfl (lit_one8 _ _ _ _ rfl) (bools_one _) (by unfold maxLen; omega) (by omega) (by have := HB.out.size; simp; omega) ?_); intro v2 w2 hown2 hg2 hat2; have HB2 := Lib.hid (below_app (HB.out.alloc HB.out.size (.cells #[.bool bit] 4)) (HOW.out.alloc _) hg2 (by have := HB.out.size; simp; omega) (Nat.le_refl _)); rw [HN.out] at hown2; have HO2 := Lib.hid hown2; clear hown2 hg2 hat2)
      have hO2 : w2.ownsRow w.heap.size 4 1 v2 (8 * q + (t + 1)) (bools (bitsL f (8 * q + (t + 1)))) := HO2.out
      clear HO2
      go_roundw
      case rel => exact ⟨t + 1, K / 2, by omega, HM1, by omega, by rw [Int.natCast_ediv]; rfl, hO2, HB2⟩
      case measure => simp [intOf]; omega
theorem rread_any (f : List UInt8) (A : Option Addr) (n c : Nat) (w : World) (hn : n ≤ 9223372036854775807) (hr : RB w w.heap.size A n f) : Calls Try.prog 42 #[.slice A n c] w (RdPost f w) := by
  by_cases h14 : n < 14
  · exact rread_no1 f A n c w hr (.inl h14)
  by_cases h0 : f[0]? = some 66
  · by_cases hp : 1 ≤ shapeP f ∧ shapeP f ≤ 14
    · exact rread_on f A n c w hr (by omega) hn h0 hp.1 hp.2
    · exact rread_no1 f A n c w hr (.inr (.inr ⟨by omega, h0, hp⟩))
  · exact rread_no1 f A n c w hr (.inr (.inl ⟨by omega, h0⟩))
end Go.Proofs.Ythjjihipodhkiaa

/-
  The reference's Check, Has, Ones, Union, Build, walked.
-/
namespace Go.Proofs.Ythjjihipodhkiaa
open Go.RowKit

theorem rd_no {f : List UInt8} {w w' : World} {e : Ending} (hf : isF f = false) (h : RdPost f w e w') : e = .returned (.tuple #[.int .i64 0, .slice none 0 0, .bool false]) ∧ Below w.heap.size w w' := by
  rcases h with ⟨_, h1, h2⟩ | ⟨h, _⟩
  · exact ⟨h1, h2⟩
  · rw [hf] at h; cases h
theorem rd_ok {f : List UInt8} {w w' : World} {e : Ending} (hf : isF f = true) (h : RdPost f w e w') : ∃ A c, e = .returned (.tuple #[.int .i64 (shapeP f), .slice A (shapeM f) c, .bool true]) ∧ w'.ownsRow w.heap.size 4 1 (.slice A (shapeM f) c) (shapeM f) (bools (bitsL f (shapeM f))) ∧ Below w.heap.size w w' := by
  rcases h with ⟨h, _⟩ | ⟨_, h⟩
  · rw [hf] at h; cases h
  · exact h
/-- With names for the shape, and the block. -/
theorem rd_at {f : List UInt8} {w w' : World} {e : Ending} {P M : Nat} (hf : isF f = true) (hP : shapeP f = P) (hM : shapeM f = M) (hM0 : 0 < M) (h : RdPost f w e w') : ∃ g c, e = .returned (.tuple #[.int .i64 P, .slice (some ⟨g, 0, none⟩) M c, .bool true]) ∧ w'.ownsRow w.heap.size 4 1 (.slice (some ⟨g, 0, none⟩) M c) M (bools (bitsL f M)) ∧ Below w.heap.size w w' := by
  subst hP; subst hM
  obtain ⟨A, c, rfl, ho, hb⟩ := rd_ok hf h
  obtain ⟨g, cap, e, _⟩ := own_form ho hM0
  injection e with e1 e2 e3
  subst e1
  exact ⟨g, c, rfl, ho, hb⟩

set_option maxRecDepth 100000 in
theorem rcheck_any (f : List UInt8) (A : Option Addr) (n c : Nat) (w : World) (hn : n ≤ 9223372036854775807) (hr : RB w w.heap.size A n f) :
    Calls Try.prog 28 #[.slice A n c] w fun e w' => e = .returned (.int .i64 (checkE f)) ∧ Below w.heap.size w w' := by
  have HC := Lib.hid (rread_any f A n c w hn hr)
  cases hf : isF f
  · have H : Hid (checkE f = 62) := Lib.hid (by unfold checkE; rw [hf]; rfl)
    have HF := Lib.hid hf
    clear hr hf
    go_enter Try.func28, Try.ntmps28
    go_wp2_with (go_at_call 42; go_must (refine HC.out.mono ?_); rintro e w1 hp; obtain ⟨rfl, hb1⟩ := rd_no HF.out hp; have HB1 := Lib.hid hb1; clear hp hb1)
    go_ret
    exact ⟨by rw [H.out]; rfl, HB1.out⟩
  · have H : Hid (checkE f = 0) := Lib.hid (by unfold checkE; rw [hf]; rfl)
    have HF := Lib.hid hf
    clear hr hf
    go_enter Try.func28, Try.ntmps28
    go_wp2_with (go_at_call 42; go_must (refine HC.out.mono ?_); rintro e w1 hp; obtain ⟨A1, c1, rfl, hO1, hb1⟩ := rd_ok HF.out hp; have HB1 := Lib.hid hb1; clear hp hb1 hO1)
    go_ret
    exact ⟨by rw [H.out]; rfl, HB1.out⟩

theorem bitsL_at (f : List UInt8) {m i : Nat} (h : i < m) : (bitsL f m)[i]? = some (bitAt f i) := by simp [bitsL, h]
theorem isF_bounds {f : List UInt8} (h : isF f = true) : 1 ≤ shapeP f ∧ shapeP f ≤ 14 ∧ 64 ≤ shapeM f ∧ shapeM f ≤ 20971520 ∧ shapeM f % 8 = 0 ∧ f.length = 6 + shapeM f / 8 := by
  unfold isF at h; exact of_decide_eq_true h

theorem PlacesPost.at_ {ps : List Nat} {w w' : World} {e : Ending} {n : Nat} (h : PlacesPost ps w e w') (hn : ps.length = n) : ∃ A c, e = .returned (.slice A n c) ∧ w'.ownsRow w.heap.size 3 1 (.slice A n c) n (i64s ps) ∧ Below w.heap.size w w' := by
  subst hn
  obtain ⟨A, c, h1, _, h2, h3⟩ := h
  exact ⟨A, c, h1, h2, h3⟩
theorem take_all_bits (f : List UInt8) (ps : List Nat) (k x : Nat) (h : ps[k]? = some x) : (ps.take (k + 1)).all (bitAt f) = ((ps.take k).all (bitAt f) && bitAt f x) := by
  rw [take_snoc h, List.all_append]; simp
theorem all_no (f : List UInt8) (ps : List Nat) (k x : Nat) (h : ps[k]? = some x) (hb : bitAt f x = false) : ps.all (bitAt f) = false := by
  rw [List.all_eq_false]
  exact ⟨x, List.mem_of_getElem? h, by rw [hb]; simp⟩

set_option maxRecDepth 100000 in
set_option maxHeartbeats 2000000 in
theorem rhas_any (f key : List UInt8) (A Ak : Option Addr) (n c nk ck : Nat) (w : World) (hn : n ≤ 9223372036854775807) (hr : RB w w.heap.size A n f) (hnk : nk ≤ 9223372036854775807) (hk : RB w w.heap.size Ak nk key) :
    Calls Try.prog 27 #[.slice A n c, .slice Ak nk ck] w fun e w' => e = .returned (.tuple #[.bool (hasB f key), .int .i64 (checkE f)]) ∧ Below w.heap.size w w' := by
  have HC := Lib.hid (rread_any f A n c w hn hr)
  have HK : Hid (∀ w', Below w.heap.size w w' → RB w' w'.heap.size Ak nk key) := Lib.hid fun w' h => hk.later h
  cases hf : isF f
  · have H : Hid (checkE f = 62 ∧ hasB f key = false) := Lib.hid (by unfold checkE hasB; rw [hf]; exact ⟨rfl, rfl⟩)
    have HF := Lib.hid hf
    clear hr hk hf
    go_enter Try.func27, Try.ntmps27
    go_wp2_with (go_at_call 42; go_must (refine HC.out.mono ?_); rintro e w1 hp; obtain ⟨rfl, hb1⟩ := rd_no HF.out hp; have HB1 := Lib.hid hb1; clear hp hb1)
    go_ret2
    exact ⟨by rw [H.out.1, H.out.2]; rfl, HB1.out⟩
  · obtain ⟨g1, g2, g3, g4, g5, g6⟩ := isF_bounds hf
    obtain ⟨P, hP⟩ : ∃ P, shapeP f = P := ⟨_, rfl⟩
    obtain ⟨M, hM⟩ : ∃ M, shapeM f = M := ⟨_, rfl⟩
    rw [hP] at g1 g2
    rw [hM] at g3 g4
    have XP := Lib.hid hP
    have XM := Lib.hid hM
    obtain ⟨ps, hps⟩ : ∃ ps, ps = placesN key P M := ⟨_, rfl⟩
    have XPS := Lib.hid hps
    have HLT : Hid (∀ x ∈ ps, x < M) := Lib.hid (by rw [hps]; exact placesN_lt _ _ _ (by omega))
    have HPL : Hid (ps.length = P) := Lib.hid (by rw [hps]; simp [placesN])
    have H : Hid (checkE f = 0 ∧ hasB f key = ps.all (bitAt f)) := Lib.hid (by unfold checkE hasB; rw [hf, hP, hM, hps]; exact ⟨rfl, rfl⟩)
    have HF := Lib.hid hf
    clear hr hk hf hP hM hps g5 g6
    go_enter Try.func27, Try.ntmps27
    go_wp2_with (first
      | (go_at_call 42; go_must (refine HC.out.mono ?_); rintro e w1 hp; obtain ⟨gs, cs, rfl, hO1, hb1⟩ := rd_at HF.out XP.out XM.out (by omega) hp; have HB1 := Lib.hid hb1; have HO1 := Lib.hid hO1; clear hp hb1 hO1)
      | (go_at_call 40; go_must (refine (places_any key Ak nk ck P M _ hnk (HK.out _ HB1.out) (by omega) (by omega) (by omega)).mono ?_); rintro e w2 hp; rw [← XPS.out] at hp; obtain ⟨A2, c2, rfl, hO2, hb2⟩ := hp.at_ HPL.out; have HB2 := Lib.hid (HB1.out.trans (hb2.mono HB1.out.size)); have HO2 := Lib.hid hO2; have HS2 := Lib.hid (own_below HO1.out hb2); clear hp hO2 hb2))
    obtain ⟨g2', cap2, e2, _⟩ := own_form HO2.out (by omega)
    injection e2 with e2 _ e3
    subst e2
    go_loop [10] (fun i => ∃ k : Nat, k ≤ P ∧ i = .int .i64 k ∧ Hid ((ps.take k).all (bitAt f) = true)) (fun i => P - (intOf i).toNat)
    case atStart => exact ⟨0, Nat.zero_le _, rfl, Lib.hid (by simp)⟩
    case round =>
      obtain ⟨k, hk, rfl, HA⟩ := hrel
      by_cases hlt : k < P
      case neg =>
        have HT : Hid (ps.all (bitAt f) = true) := Lib.hid (by have := HA.out; rwa [take_all (by rw [HPL.out]; omega)] at this)
        go_wp2
        go_ret2
        exact ⟨by rw [H.out.1, H.out.2, HT.out]; rfl, HB2.out⟩
      obtain ⟨x, hx⟩ : ∃ x, ps[k]? = some x := ⟨_, List.getElem?_eq_getElem (by rw [HPL.out]; exact hlt)⟩
      have hxM := HLT.out x (List.mem_of_getElem? hx)
      have hc2 : w2.cell? ⟨g2', k, none⟩ = some (.int .i64 (x : Int)) := (World.ownsRow.cellAt HO2.out k (by omega)).trans (by simp [i64s, hx])
      have hcs : w2.cell? ⟨gs, x, none⟩ = some (.bool (bitAt f x)) := (World.ownsRow.cellAt HS2.out x (by omega)).trans (bools_at (bitsL_at f hxM))
      cases hb : bitAt f x
      · have HN : Hid (ps.all (bitAt f) = false) := Lib.hid (all_no f ps k x hx hb)
        rw [hb] at hcs
        clear hx hb
        go_wp2
        go_ret2
        exact ⟨by rw [H.out.1, H.out.2, HN.out]; rfl, HB2.out⟩
      · have HN : Hid ((ps.take (k + 1)).all (bitAt f) = true) := Lib.hid (by rw [take_all_bits f ps k x hx, HA.out, hb]; rfl)
        rw [hb] at hcs
        clear hx hb
        go_wp2
        go_round
        case rel => exact ⟨k + 1, by omega, by go_num, HN⟩
        case measure => simp [intOf]; omega

theorem pack_self : ∀ x : Fin 256, packB (fun t => (x.val &&& maskN (t % 8)) != 0) = UInt8.ofNat x.val := by decide +kernel
theorem packB_ext8 {f g : Nat → Bool} (h : ∀ t, t < 8 → f t = g t) : packB f = packB g := packB_ext h
theorem headN_bytes (x2 x3 x4 x5 : UInt8) : UInt8.ofNat (headN x2 x3 x4 x5 / 16777216) = x2 ∧ UInt8.ofNat (headN x2 x3 x4 x5 / 65536) = x3 ∧ UInt8.ofNat (headN x2 x3 x4 x5 / 256) = x4 ∧ UInt8.ofNat (headN x2 x3 x4 x5) = x5 := by
  have h2 := x2.toNat_lt; have h3 := x3.toNat_lt; have h4 := x4.toNat_lt; have h5 := x5.toNat_lt
  unfold headN
  refine ⟨?_, ?_, ?_, ?_⟩ <;> (apply UInt8.toNat_inj.1; rw [UInt8.toNat_ofNat']; omega)
/-- A filter is what its shape and its bits make. -/
theorem F_canon {f : List UInt8} (h : isF f = true) : filterB (shapeP f) (shapeM f) (bitAt f) = f := by
  obtain ⟨g1, g2, g3, g4, g5, g6⟩ := isF_bounds h
  have get : ∀ k, k < f.length → ∃ x, f[k]? = some x := fun k hk => ⟨_, List.getElem?_eq_getElem hk⟩
  obtain ⟨x0, h0⟩ := get 0 (by omega)
  obtain ⟨x1, h1⟩ := get 1 (by omega)
  obtain ⟨x2, h2⟩ := get 2 (by omega)
  obtain ⟨x3, h3⟩ := get 3 (by omega)
  obtain ⟨x4, h4⟩ := get 4 (by omega)
  obtain ⟨x5, h5⟩ := get 5 (by omega)
  have e0 : x0 = 66 := by
    have hp := g1
    unfold shapeP at hp
    split at hp
    · omega
    · rename_i hn
      rw [h0] at hn
      by_cases e : x0 = 66
      · exact e
      · exact absurd (.inr (fun e' => e (by injection e'))) hn
  obtain ⟨eP, eM⟩ := isF_shape h0 h1 h2 h3 h4 h5 e0
  obtain ⟨b2, b3, b4, b5⟩ := headN_bytes x2 x3 x4 x5
  apply List.ext_getElem?
  intro j
  by_cases hj : j < f.length
  · by_cases hj6 : j < 6
    · rw [filterB_head _ _ _ _ hj6]
      have hP : UInt8.ofNat (shapeP f) = x1 := by rw [eP]; simp
      rw [← eM] at b2 b3 b4 b5
      match j, hj6 with
      | 0, _ => rw [h0, e0]; rfl
      | 1, _ => rw [h1, ← hP]; rfl
      | 2, _ => rw [h2, ← b2]; rfl
      | 3, _ => rw [h3, ← b3]; rfl
      | 4, _ => rw [h4, ← b4]; rfl
      | 5, _ => rw [h5, ← b5]; rfl
    · obtain ⟨q, rfl⟩ : ∃ q, j = 6 + q := ⟨j - 6, by omega⟩
      obtain ⟨x, hx⟩ := get (6 + q) hj
      rw [filterB_at _ _ _ _ (by omega), hx]
      congr 1
      have e : packB (fun t => bitAt f (8 * q + t)) = packB (fun t => (x.toNat &&& maskN (t % 8)) != 0) := packB_ext8 fun t ht => by
        unfold bitAt
        rw [show (8 * q + t) / 8 = q from by omega, show (8 * q + t) % 8 = t from by omega, hx, Option.getD_some, Nat.mod_eq_of_lt ht]
      rw [e, pack_self ⟨x.toNat, x.toNat_lt⟩]
      simp
  · rw [List.getElem?_eq_none (by rw [filterB_length]; omega), List.getElem?_eq_none (by omega)]

theorem ones_bits {f : List UInt8} (h : isF f = true) : onesN f = cntS (shapeM f) (bitAt f) := by
  obtain ⟨g1, g2, g3, g4, g5, g6⟩ := isF_bounds h
  have := filterB_ones (shapeP f) (shapeM f) (bitAt f) g1 g2 g3 g4 g5
  rw [F_canon h] at this
  exact this

set_option maxRecDepth 100000 in
set_option maxHeartbeats 2000000 in
theorem rones_any (f : List UInt8) (A : Option Addr) (n c : Nat) (w : World) (hn : n ≤ 9223372036854775807) (hr : RB w w.heap.size A n f) :
    Calls Try.prog 29 #[.slice A n c] w fun e w' => e = .returned (.int .i64 (onesN f)) ∧ Below w.heap.size w w' := by
  have HC := Lib.hid (rread_any f A n c w hn hr)
  cases hf : isF f
  · have H : Hid (onesN f = 0) := Lib.hid (by unfold onesN; rw [hf]; rfl)
    have HF := Lib.hid hf
    clear hr hf
    go_enter Try.func29, Try.ntmps29
    go_wp2_with (go_at_call 42; go_must (refine HC.out.mono ?_); rintro e w1 hp; obtain ⟨rfl, hb1⟩ := rd_no HF.out hp; have HB1 := Lib.hid hb1; clear hp hb1)
    go_loop [6, 7] (fun x i => x = .int .i64 0 ∧ i = .int .i64 0) (fun _ _ => 0)
    case atStart => exact ⟨rfl, rfl⟩
    case round =>
      obtain ⟨rfl, rfl⟩ := hrel
      go_wp2
      go_ret
      exact ⟨by rw [H.out]; rfl, HB1.out⟩
  · obtain ⟨g1, g2, g3, g4, g5, g6⟩ := isF_bounds hf
    obtain ⟨M, hM⟩ : ∃ M, shapeM f = M := ⟨_, rfl⟩
    obtain ⟨P, hP⟩ : ∃ P, shapeP f = P := ⟨_, rfl⟩
    have H : Hid (onesN f = cntS M (bitAt f)) := Lib.hid (by rw [ones_bits hf, hM])
    rw [hM] at g3 g4
    have XM := Lib.hid hM
    have XP := Lib.hid hP
    have HF := Lib.hid hf
    clear hr hf hM hP g1 g2 g5 g6
    go_enter Try.func29, Try.ntmps29
    go_wp2_with (go_at_call 42; go_must (refine HC.out.mono ?_); rintro e w1 hp; obtain ⟨gs, cs, rfl, hO1, hb1⟩ := rd_at HF.out XP.out XM.out (by omega) hp; have HB1 := Lib.hid hb1; have HO1 := Lib.hid hO1; clear hp hb1 hO1)
    go_loop [6, 7] (fun x i => ∃ k N : Nat, k ≤ M ∧ i = .int .i64 k ∧ x = .int .i64 N ∧ N ≤ k ∧ Hid (N = cntS k (bitAt f))) (fun _ i => M - (intOf i).toNat)
    case atStart => exact ⟨0, 0, Nat.zero_le _, rfl, rfl, Nat.le_refl _, Lib.hid rfl⟩
    case round =>
      obtain ⟨k, N, hk, rfl, rfl, hNk, HN⟩ := hrel
      by_cases hlt : k < M
      case neg =>
        have HT : Hid (onesN f = N) := Lib.hid (by rw [H.out, HN.out, show M = k from by omega])
        go_wp2
        go_ret
        exact ⟨by rw [HT.out]; rfl, HB1.out⟩
      have hcs : w1.cell? ⟨gs, k, none⟩ = some (.bool (bitAt f k)) := (World.ownsRow.cellAt HO1.out k (by omega)).trans (bools_at (bitsL_at f hlt))
      cases hb : bitAt f k
      · have HN2 : Hid (N = cntS (k + 1) (bitAt f)) := Lib.hid (by rw [cntS_succ, hb, HN.out]; rfl)
        rw [hb] at hcs
        clear hb
        go_wp2
        go_round
        case rel => exact ⟨k + 1, N, by omega, by go_num, rfl, by omega, HN2⟩
        case measure => simp [intOf]; omega
      · have HN2 : Hid (N + 1 = cntS (k + 1) (bitAt f)) := Lib.hid (by rw [cntS_succ, hb, HN.out]; rfl)
        rw [hb] at hcs
        clear hb
        go_wp2
        go_round
        case rel => exact ⟨k + 1, N + 1, by omega, by go_num, by go_num, by omega, HN2⟩
        case measure => simp [intOf]; omega

end Go.Proofs.Ythjjihipodhkiaa

/-
  The reference's Union, Build, walked.
-/
namespace Go.Proofs.Ythjjihipodhkiaa
open Go.RowKit

def mapR (M : Nat) (f : Nat → Bool) : List Bool := (List.range M).map f
theorem mapR_len (M : Nat) (f : Nat → Bool) : (mapR M f).length = M := by simp [mapR]
theorem mapR_at {M i : Nat} (f : Nat → Bool) (h : i < M) : (mapR M f)[i]? = some (f i) := by simp [mapR, h]
theorem mapR_ext {M : Nat} {f g : Nat → Bool} (h : ∀ i, i < M → f i = g i) : mapR M f = mapR M g := by
  unfold mapR
  apply List.map_congr_left
  intro i hi
  exact h i (List.mem_range.1 hi)
theorem mapR_set {M x : Nat} (f : Nat → Bool) (b : Bool) (hx : x < M) : (mapR M f).set x b = mapR M (fun i => if i = x then b else f i) := by
  apply List.ext_getElem?
  intro i
  rw [List.getElem?_set, mapR_len]
  by_cases e : x = i
  · subst e
    rw [if_pos rfl, if_pos hx, mapR_at _ hx, if_pos rfl]
  · rw [if_neg e]
    by_cases hi : i < M
    · rw [mapR_at _ hi, mapR_at _ hi, if_neg (fun h => e h.symm)]
    · rw [List.getElem?_eq_none (by rw [mapR_len]; omega), List.getElem?_eq_none (by rw [mapR_len]; omega)]
theorem bitsL_mapR (f : List UInt8) (m : Nat) : bitsL f m = mapR m (bitAt f) := rfl
theorem bitOf_mapR {M i : Nat} (f : Nat → Bool) (h : i < M) : bitOf (mapR M f) i = f i := by unfold bitOf; rw [mapR_at f h]; rfl
/-- The first k bits or'd. -/
def orS (a b : List UInt8) (k : Nat) : Nat → Bool := fun i => if i < k then bitAt a i || bitAt b i else bitAt a i
theorem orS_next {a b : List UInt8} {k M : Nat} (h : k < M) : (mapR M (orS a b k)).set k (bitAt a k || bitAt b k) = mapR M (orS a b (k + 1)) := by
  rw [mapR_set _ _ h]
  apply mapR_ext
  intro i _
  unfold orS
  by_cases e : i = k
  · subst e; rw [if_pos rfl, if_pos (by omega)]
  · rw [if_neg e]
    by_cases h1 : i < k
    · rw [if_pos h1, if_pos (by omega)]
    · rw [if_neg h1, if_neg (by omega)]
theorem union_bits {a b : List UInt8} (ha : isF a = true) (hb : isF b = true) (hP : shapeP a = shapeP b) (hM : shapeM a = shapeM b) : filterB (shapeP a) (shapeM a) (bitOf (mapR (shapeM a) (orS a b (shapeM a)))) = orB a b := by
  have h1 : filterB (shapeP a) (shapeM a) (bitOf (mapR (shapeM a) (orS a b (shapeM a)))) = filterB (shapeP a) (shapeM a) (fun i => bitAt a i || bitAt b i) := filterB_ext _ _ fun i hi => by
    rw [bitOf_mapR _ hi]; unfold orS; rw [if_pos hi]
  rw [h1, ← filterB_orB, F_canon ha, hP, hM, F_canon hb]

set_option maxRecDepth 100000 in
set_option maxHeartbeats 2000000 in
theorem runion_no (a b : List UInt8) (A B : Option Addr) (n c m d : Nat) (w : World) (hn : n ≤ 9223372036854775807) (hr : RB w w.heap.size A n a) (hm : m ≤ 9223372036854775807) (hs : RB w w.heap.size B m b) (h : isF a = false ∨ (isF a = true ∧ isF b = false)) :
    Calls Try.prog 30 #[.slice A n c, .slice B m d] w (BytesPost2 5 (ures a b) (unionE a b) w) := by
  have H : Hid (unionE a b = 62 ∧ ures a b = []) := Lib.hid (by
    have e : unionE a b = 62 := by
      unfold unionE
      rcases h with h | ⟨h, h'⟩
      · rw [h]; rfl
      · rw [h, h']; rfl
    exact ⟨e, by unfold ures; rw [e]; rfl⟩)
  have HC := Lib.hid (rread_any a A n c w hn hr)
  have HD : Hid (∀ w', Below w.heap.size w w' → Calls Try.prog 42 #[.slice B m d] w' (RdPost b w')) := Lib.hid fun w' hb => rread_any b B m d w' hm (hs.later hb)
  have tok1 : True := trivial
  rw [H.out.1, H.out.2]
  rcases h with h | ⟨h, h'⟩
  · have HF := Lib.hid h
    cases hb : isF b
    · have HG := Lib.hid hb
      clear hr hs h hb
      go_enter Try.func30, Try.ntmps30
      go_wp2_with (first
        | (go_at_call 42; have _t := tok1; go_must (refine HC.out.mono ?_); rintro e w1 hp; obtain ⟨rfl, hb1⟩ := rd_no HF.out hp; have HB1 := Lib.hid hb1; clear tok1 hp hb1)
        | (go_at_call 42; go_must (refine (HD.out _ HB1.out).mono ?_); rintro e w2 hp; obtain ⟨rfl, hb2⟩ := rd_no HG.out hp; have HB2 := Lib.hid (HB1.out.trans (hb2.mono HB1.out.size)); clear hp hb2))
      go_ret2
      exact bytes_none2 HB2.out
    · have HG := Lib.hid hb
      clear hr hs h hb
      go_enter Try.func30, Try.ntmps30
      go_wp2_with (first
        | (go_at_call 42; have _t := tok1; go_must (refine HC.out.mono ?_); rintro e w1 hp; obtain ⟨rfl, hb1⟩ := rd_no HF.out hp; have HB1 := Lib.hid hb1; clear tok1 hp hb1)
        | (go_at_call 42; go_must (refine (HD.out _ HB1.out).mono ?_); rintro e w2 hp; obtain ⟨A2, c2, rfl, _, hb2⟩ := rd_ok HG.out hp; have HB2 := Lib.hid (HB1.out.trans (hb2.mono HB1.out.size)); clear hp hb2))
      go_ret2
      exact bytes_none2 HB2.out
  · have HF := Lib.hid h
    have HG := Lib.hid h'
    clear hr hs h h'
    go_enter Try.func30, Try.ntmps30
    go_wp2_with (first
      | (go_at_call 42; have _t := tok1; go_must (refine HC.out.mono ?_); rintro e w1 hp; obtain ⟨A1, c1, rfl, _, hb1⟩ := rd_ok HF.out hp; have HB1 := Lib.hid hb1; clear tok1 hp hb1)
      | (go_at_call 42; go_must (refine (HD.out _ HB1.out).mono ?_); rintro e w2 hp; obtain ⟨rfl, hb2⟩ := rd_no HG.out hp; have HB2 := Lib.hid (HB1.out.trans (hb2.mono HB1.out.size)); clear hp hb2))
    go_ret2
    exact bytes_none2 HB2.out

set_option maxRecDepth 100000 in
set_option maxHeartbeats 4000000 in
theorem runion_on (a b : List UInt8) (A B : Option Addr) (n c m d : Nat) (w : World) (hn : n ≤ 9223372036854775807) (hr : RB w w.heap.size A n a) (hm : m ≤ 9223372036854775807) (hs : RB w w.heap.size B m b) (ha : isF a = true) (hb : isF b = true) :
    Calls Try.prog 30 #[.slice A n c, .slice B m d] w (BytesPost2 5 (ures a b) (unionE a b) w) := by
  have HC := Lib.hid (rread_any a A n c w hn hr)
  have HD : Hid (∀ w', Below w.heap.size w w' → Calls Try.prog 42 #[.slice B m d] w' (RdPost b w')) := Lib.hid fun w' hb => rread_any b B m d w' hm (hs.later hb)
  have tok1 : True := trivial
  obtain ⟨g1, g2, g3, g4, g5, _⟩ := isF_bounds ha
  obtain ⟨k1, k2, k3, k4, k5, _⟩ := isF_bounds hb
  have hE : unionE a b = if shapeP a = shapeP b ∧ shapeM a = shapeM b then 0 else 63 := by unfold unionE; rw [ha, hb]; rfl
  have hU := union_bits ha hb
  obtain ⟨P, hP⟩ : ∃ P, shapeP a = P := ⟨_, rfl⟩
  obtain ⟨M, hM⟩ : ∃ M, shapeM a = M := ⟨_, rfl⟩
  obtain ⟨Q, hQ⟩ : ∃ P, shapeP b = P := ⟨_, rfl⟩
  obtain ⟨N, hN⟩ : ∃ M, shapeM b = M := ⟨_, rfl⟩
  rw [hP, hM, hQ, hN] at hE hU
  rw [hP] at g1 g2
  rw [hM] at g3 g4 g5
  rw [hN] at k3 k4
  have XP := Lib.hid hP
  have XM := Lib.hid hM
  have XQ := Lib.hid hQ
  have XN := Lib.hid hN
  have HF := Lib.hid ha
  have HG := Lib.hid hb
  clear hr hs ha hb hP hM hQ hN k1 k2 k5
  by_cases hsh : P = Q ∧ M = N
  case neg =>
    rw [if_neg hsh] at hE
    have H : Hid (unionE a b = 63 ∧ ures a b = []) := Lib.hid ⟨hE, by unfold ures; rw [hE]; rfl⟩
    rw [H.out.1, H.out.2]
    have hcase : (((P : Int) != (Q : Int)) = true) ∨ ((((P : Int) != (Q : Int)) = false) ∧ ((M : Int) != (N : Int)) = true) := by
      simp only [bne_iff_ne, bne_eq_false_iff_eq]; omega
    clear hE hU hsh
    rcases hcase with d1 | ⟨d1, d2⟩
    all_goals
      go_enter Try.func30, Try.ntmps30
      go_wp2_with (first
        | (go_at_call 42; have _t := tok1; go_must (refine HC.out.mono ?_); rintro e w1 hp; obtain ⟨gs, cs, rfl, _, hb1⟩ := rd_at HF.out XP.out XM.out (by omega) hp; have HB1 := Lib.hid hb1; clear tok1 hp hb1)
        | (go_at_call 42; go_must (refine (HD.out _ HB1.out).mono ?_); rintro e w2 hp; obtain ⟨gm, cm, rfl, _, hb2⟩ := rd_at HG.out XQ.out XN.out (by omega) hp; have HB2 := Lib.hid (HB1.out.trans (hb2.mono HB1.out.size)); clear hp hb2))
      go_ret2
      exact bytes_none2 HB2.out
  rw [if_pos hsh] at hE
  obtain ⟨rfl, rfl⟩ := hsh
  have H : Hid (unionE a b = 0 ∧ ures a b = orB a b) := Lib.hid ⟨hE, by unfold ures; rw [hE]; rfl⟩
  have HU := Lib.hid (hU rfl rfl)
  rw [H.out.1, H.out.2]
  have d1 : ((P : Int) != (P : Int)) = false := by simp
  have d2 : ((M : Int) != (M : Int)) = false := by simp
  have h8 := g5
  clear hE hU k3 k4 g5
  go_enter Try.func30, Try.ntmps30
  go_wp2_with (first
    | (go_at_call 42; have _t := tok1; go_must (refine HC.out.mono ?_); rintro e w1 hp; obtain ⟨gs, cs, rfl, hO1, hb1⟩ := rd_at HF.out XP.out XM.out (by omega) hp; have HB1 := Lib.hid hb1; have HO1 := Lib.hid hO1; clear tok1 hp hb1 hO1)
    | (go_at_call 42; go_must (refine (HD.out _ HB1.out).mono ?_); rintro e w2 hp; obtain ⟨gm, cm, rfl, hO2, hb2⟩ := rd_at HG.out XQ.out XN.out (by omega) hp; have HB2 := Lib.hid (HB1.out.trans (hb2.mono HB1.out.size)); have HNE : Hid (gm ≠ gs) := Lib.hid (by have h1 := (World.ownsRow.lt hO2 gm rfl).1; have h2 := (World.ownsRow.lt HO1.out gs rfl).2; omega); have HS2 := Lib.hid (own_below HO1.out hb2); have HO2 := Lib.hid hO2; clear hp hb2 hO2))
  have HSZ : Hid (w.heap.size ≤ gs) := Lib.hid (World.ownsRow.lt HO1.out gs rfl).1
  have HSB : Hid (w.heap.size ≤ w1.heap.size) := Lib.hid HB1.out.size
  go_loopw [12] (fun i wr => ∃ k : Nat, k ≤ M ∧ i = .int .i64 k ∧ Hid (wr.ownsRow w.heap.size 4 1 (.slice (some ⟨gs, 0, none⟩) M cs) M (bools (mapR M (orS a b k)))) ∧ Hid (wr.ownsRow w1.heap.size 4 1 (.slice (some ⟨gm, 0, none⟩) M cm) M (bools (bitsL b M))) ∧ Hid (Below w.heap.size w wr)) (fun i _ => M - (intOf i).toNat)
  case atStart => exact ⟨0, Nat.zero_le _, rfl, Lib.hid (by have h := HS2.out; rw [bitsL_mapR] at h; rw [mapR_ext (g := bitAt a) fun i _ => by unfold orS; rw [if_neg (by omega)]]; exact h), HO2, HB2⟩
  case round =>
    obtain ⟨k, hk, rfl, HOS, HOM, HB⟩ := hrel
    by_cases hlt : k < M
    case neg =>
      have HRS : Hid (Reads wr wr.heap.size 1 (some ⟨gs, 0, none⟩) M (bools (mapR M (orS a b M)))) := Lib.hid (by have h := HOS.out; rw [show k = M from by omega] at h; exact Reads.own h)
      go_wp2_with (go_at_call 41; go_must (refine (laid_any P (mapR M (orS a b M)) (some ⟨gs, 0, none⟩) M cs _ (by omega) h8 (by omega) HRS.out).mono ?_); rw [HU.out]; rintro e w3 ⟨A3, c3, rfl, hO3, hb3⟩; have HB3 := Lib.hid (HB.out.trans (hb3.mono HB.out.size)); have HO3 := Lib.hid (hO3.rebase HB.out.size); clear hO3 hb3)
      go_ret2
      exact ⟨A3, c3, rfl, HO3.out, HB3.out⟩
    have hcs : wr.cell? ⟨gs, k, none⟩ = some (.bool (bitAt a k)) := (World.ownsRow.cellAt HOS.out k (by omega)).trans (bools_at (by rw [mapR_at _ hlt]; unfold orS; rw [if_neg (by omega)]))
    have hcm : wr.cell? ⟨gm, k, none⟩ = some (.bool (bitAt b k)) := (World.ownsRow.cellAt HOM.out k (by omega)).trans (bools_at (bitsL_at b hlt))
    have hfz : wr.frozen? ⟨gs, k, none⟩ = false := World.ownsRow.frozenAt HOS.out k
    obtain ⟨x, hx⟩ : ∃ x, bitAt a k = x := ⟨_, rfl⟩
    obtain ⟨y, hy⟩ : ∃ y, bitAt b k = y := ⟨_, rfl⟩
    have HST := Lib.hid (World.ownsRow.stored HOS.out k (.bool (x || y)))
    have HNX : Hid ((bools (mapR M (orS a b k))).set k (.bool (x || y)) = bools (mapR M (orS a b (k + 1)))) := Lib.hid (by rw [bools_set, ← hx, ← hy, orS_next hlt])
    rw [hx] at hcs
    rw [hy] at hcm
    clear hx hy
    cases x with
    | true =>
      go_wp2_with fail
      go_roundw
      case rel => exact ⟨k + 1, by omega, by go_num, Lib.hid (by have h := HST.out.1; rw [HNX.out] at h; exact h), Lib.hid (own_chg HOM.out (Chg.setCell wr ⟨gs, k, none⟩ (.bool true)) fun g hg e => HNE.out (by injection hg with hg; exact hg.trans e)), Lib.hid (HB.out.setCell (p := ⟨gs, k, none⟩) HSZ.out _)⟩
      case measure => simp [intOf]; omega
    | false =>
      have HST2 := Lib.hid (show (wr.setCell ⟨gs, k, none⟩ (.bool y)).ownsRow w.heap.size 4 1 (.slice (some ⟨gs, 0, none⟩) M cs) M (bools (mapR M (orS a b (k + 1)))) from by have h := HST.out.1; rw [HNX.out, Bool.false_or] at h; exact h)
      clear HST
      go_wp2_with fail
      go_roundw
      case rel => exact ⟨k + 1, by omega, by go_num, HST2, Lib.hid (own_chg HOM.out (Chg.setCell wr ⟨gs, k, none⟩ (.bool y)) fun g hg e => HNE.out (by injection hg with hg; exact hg.trans e)), Lib.hid (HB.out.setCell (p := ⟨gs, k, none⟩) HSZ.out _)⟩
      case measure => simp [intOf]; omega

theorem runion_any (a b : List UInt8) (A B : Option Addr) (n c m d : Nat) (w : World) (hn : n ≤ 9223372036854775807) (hr : RB w w.heap.size A n a) (hm : m ≤ 9223372036854775807) (hs : RB w w.heap.size B m b) :
    Calls Try.prog 30 #[.slice A n c, .slice B m d] w (BytesPost2 5 (ures a b) (unionE a b) w) := by
  cases ha : isF a
  · exact runion_no a b A B n c m d w hn hr hm hs (.inl ha)
  · cases hb : isF b
    · exact runion_no a b A B n c m d w hn hr hm hs (.inr ⟨ha, hb⟩)
    · exact runion_on a b A B n c m d w hn hr hm hs ha hb

/-- The bits of the first k keys. -/
def keyS (ks : List (List UInt8)) (p m k : Nat) : Nat → Bool := buildS p m (ks.take k)
theorem keyS_next {ks : List (List UInt8)} {p m k : Nat} {x : List UInt8} (h : ks[k]? = some x) (i : Nat) : keyS ks p m (k + 1) i = (keyS ks p m k i || (placesN x p m).contains i) := by
  unfold keyS buildS
  rw [take_snoc h, List.any_append]; simp
/-- .. and of the first j places of one more. -/
def plusS (S : Nat → Bool) (ps : List Nat) (j : Nat) : Nat → Bool := fun i => S i || (ps.take j).contains i
theorem plusS_next {S : Nat → Bool} {ps : List Nat} {j x m : Nat} (h : ps[j]? = some x) (hx : x < m) : (mapR m (plusS S ps j)).set x true = mapR m (plusS S ps (j + 1)) := by
  rw [mapR_set _ _ hx]
  apply mapR_ext
  intro i _
  unfold plusS
  rw [take_snoc h, List.contains_eq_mem, List.contains_eq_mem]
  by_cases e : i = x
  · subst e; simp
  · rw [if_neg e]
    congr 1
    simp [e]
theorem made_false (L : Nat) : (madeCells (Value.bool false).cells L).toList = bools (List.replicate L false) := by
  have e : (Value.bool false).cells = #[.bool false] := rfl
  rw [e]
  apply List.ext_getElem?
  intro i
  simp only [madeCells, bools, List.map_replicate, List.getElem?_replicate, Array.toList_map, Array.toList_range, List.getElem?_map, List.size_toArray, List.length_cons, List.length_nil, Nat.zero_add, Nat.mod_one]
  by_cases h : i < L
  · rw [if_pos h, List.getElem?_range h]; rfl
  · rw [if_neg h, List.getElem?_eq_none (by simpa using h)]; rfl
theorem mapR_false (ks : List (List UInt8)) (p m : Nat) : mapR m (keyS ks p m 0) = List.replicate m false := by
  apply List.ext_getElem?
  intro i
  by_cases h : i < m
  · rw [mapR_at _ h, List.getElem?_replicate, if_pos h]; rfl
  · rw [List.getElem?_eq_none (by rw [mapR_len]; omega), List.getElem?_eq_none (by simp; omega)]

set_option maxRecDepth 100000 in
set_option maxHeartbeats 1000000 in
theorem rbuild_no (bits : Int) (ks : List (List UInt8)) (A : Option Addr) (n c : Nat) (w : World) (hn : n ≤ 9223372036854775807) (hr : RBs w w.heap.size A n ks) (h : buildE bits ks ≠ 0) :
    Calls Try.prog 26 #[.int .i64 bits, .slice A n c] w (BytesPost2 5 (bres bits ks) (buildE bits ks) w) := by
  have hl := hr.len
  have HB : Hid (bres bits ks = []) := Lib.hid (by unfold bres; rw [if_neg h])
  have hcase : (decide (bits < 1) = true ∧ buildE bits ks = 60) ∨ (decide (bits < 1) = false ∧ decide (20 < bits) = true ∧ buildE bits ks = 60) ∨ (decide (bits < 1) = false ∧ decide (20 < bits) = false ∧ decide ((1048576 : Int) < (n : Int)) = true ∧ buildE bits ks = 61) := by
    unfold buildE at h ⊢
    by_cases h1 : bits < 1
    · exact .inl ⟨decide_eq_true h1, by rw [if_pos (.inl h1)]⟩
    · by_cases h2 : 20 < bits
      · exact .inr (.inl ⟨decide_eq_false h1, decide_eq_true h2, by rw [if_pos (.inr h2)]⟩)
      · rw [if_neg (by omega)] at h ⊢
        by_cases h3 : 1048576 < ks.length
        · exact .inr (.inr ⟨decide_eq_false h1, decide_eq_false h2, decide_eq_true (by omega), by rw [if_pos h3]⟩)
        · rw [if_neg h3] at h; exact absurd rfl h
  rw [HB.out]
  clear hr hl h
  rcases hcase with ⟨d1, hE⟩ | ⟨d1, d2, hE⟩ | ⟨d1, d2, d3, hE⟩
  all_goals
    rw [hE]
    clear hE
    go_enter Try.func26, Try.ntmps26
    go_wp2
    go_ret2
    exact bytes_none2 (Below.refl _ _)

set_option maxRecDepth 100000 in
set_option maxHeartbeats 4000000 in
theorem rbuild_ok (bits : Int) (ks : List (List UInt8)) (A : Option Addr) (n c : Nat) (w : World) (hr : RBs w w.heap.size A n ks) (h : buildE bits ks = 0) :
    Calls Try.prog 26 #[.int .i64 bits, .slice A n c] w (BytesPost2 5 (bres bits ks) (buildE bits ks) w) := by
  have hl := hr.len
  obtain ⟨q1, q2, q3⟩ := buildE_zero h
  have hP := buildP_le h
  have hM1 := buildM_ge bits ks
  have hM2 := buildM_le h
  have hM3 := buildM_mod bits ks
  have hraw := buildM_raw (ks := ks) q1 q2 q3
  have HB : Hid (bres bits ks = filterB (buildP bits) (buildM bits ks) (buildS (buildP bits) (buildM bits ks) ks)) := Lib.hid (by unfold bres; rw [if_pos h]; rfl)
  have hPd : buildP bits = max 1 (7 * bits.toNat / 10) := rfl
  have hMd : buildM bits ks = max 64 (((unl ks).length * bits.toNat + 7) / 8 * 8) := rfl
  have hU := unl_le ks
  rw [h]
  obtain ⟨nb, rfl⟩ : ∃ nb : Nat, bits = (nb : Int) := ⟨bits.toNat, by omega⟩
  rw [Int.toNat_natCast] at hraw hPd hMd
  obtain ⟨P, hPP⟩ : ∃ P, P = buildP nb := ⟨_, rfl⟩
  obtain ⟨M, hMM⟩ : ∃ M, M = buildM nb ks := ⟨_, rfl⟩
  obtain ⟨U, hUU⟩ : ∃ U, U = (unl ks).length := ⟨_, rfl⟩
  rw [← hPP] at hP hPd HB
  rw [← hMM] at hM1 hM2 hM3 hMd HB
  rw [← hUU] at hraw hMd hU
  have XU := Lib.hid hUU
  have HSH := Lib.hid (rshape_any nb U P M · (by omega) (by omega) hraw hPd hMd)
  rw [HB.out]
  have HR : Hid (∀ w', Below w.heap.size w w' → RBs w' w'.heap.size A n ks) := Lib.hid fun w' h => hr.later h
  have HL := Lib.hid hl
  have d1 : decide ((nb : Int) < 1) = false := decide_eq_false (by omega)
  have d2 : decide ((20 : Int) < (nb : Int)) = false := decide_eq_false (by omega)
  have d3 : decide ((1048576 : Int) < (n : Int)) = false := decide_eq_false (by omega)
  have hn20 : n ≤ 1048576 := by omega
  have hMpos : (0 : Int) ≤ (M : Int) := by omega
  clear hr hl h q1 q2 q3 hraw hPd hMd hU hPP hMM hUU
  obtain ⟨hp1, hp2⟩ := hP
  go_enter Try.func26, Try.ntmps26
  go_wp2_with (first
    | (go_at_call 39; go_must (refine (unlike_any ks A n c _ (by omega) (HR.out _ (Below.refl _ _))).mono ?_); rintro e w1 ⟨rfl, hb1⟩; rw [← XU.out]; have HB1 := Lib.hid hb1; clear hb1)
    | (go_at_call 38; go_must (refine (HSH.out _).mono ?_); rintro e wn ⟨rfl, rfl⟩)
    | (at_make; go_must (refine wpList_make_full _ rfl (.tmp 28) (.tmp 28) 67 rfl w1.heap.size 4 Try.t4 (.bool false) 1 Try.underlying67 (by kernel_rfl) rfl rfl .i64 .i64 _ _ M rfl rfl rfl rfl (by show 1 * _ ≤ _; omega) (by unfold maxLen; omega) (Nat.le_refl _) ?_); intro w2 hown2 hg2; have hb2 := below_grown_none hg2; have HB2 := Lib.hid (HB1.out.trans (hb2.mono HB1.out.size)); have HO2 := Lib.hid hown2; clear hown2 hg2 hb2))
  obtain ⟨g, hg⟩ : ∃ g, g = w1.heap.size := ⟨_, rfl⟩
  have HGW : Hid (w.heap.size ≤ g) := Lib.hid (by rw [hg]; exact HB1.out.size)
  have HO3 : Hid (w2.ownsRow w.heap.size 4 1 (.slice (some ⟨g, 0, none⟩) M M) M (bools (mapR M (keyS ks P M 0)))) := Lib.hid (by
    have h := HO2.out
    rw [made_false, Nat.mul_one, ← mapR_false ks P M, ← hg] at h
    exact World.ownsRow.mono h HGW.out)
  rw [← hg]
  clear HO2 hg
  go_wp2_with fail
  go_loopw [9] (fun i wr => ∃ k : Nat, k ≤ n ∧ i = .int .i64 k ∧ Hid (wr.ownsRow w.heap.size 4 1 (.slice (some ⟨g, 0, none⟩) M M) M (bools (mapR M (keyS ks P M k)))) ∧ Hid (Below w.heap.size w wr)) (fun i _ => n - (intOf i).toNat)
  case atStart => exact ⟨0, Nat.zero_le _, rfl, HO3, HB2⟩
  case round =>
    clear HO3 HB2
    obtain ⟨k, hk, rfl, HOS, HB⟩ := hrel
    by_cases hlt : k < n
    case neg =>
      have HRS : Hid (Reads wr wr.heap.size 1 (some ⟨g, 0, none⟩) M (bools (mapR M (buildS P M ks)))) := Lib.hid (by
        have h := HOS.out
        unfold keyS at h
        rw [take_all (by rw [HL.out]; omega)] at h
        exact Reads.own h)
      have HFE : Hid (filterB P M (bitOf (mapR M (buildS P M ks))) = filterB P M (buildS P M ks)) := Lib.hid (filterB_ext _ _ fun i hi => bitOf_mapR _ hi)
      go_wp2_with (go_at_call 41; go_must (refine (laid_any P (mapR M (buildS P M ks)) (some ⟨g, 0, none⟩) M M _ (by omega) hM3 (by omega) HRS.out).mono ?_); rw [HFE.out]; rintro e w3 ⟨A3, c3, rfl, hO3, hb3⟩; have HB3 := Lib.hid (HB.out.trans (hb3.mono HB.out.size)); have HO3 := Lib.hid (hO3.rebase HB.out.size); clear hO3 hb3)
      go_ret2
      exact ⟨A3, c3, rfl, HO3.out, HB3.out⟩
    obtain ⟨b, o, x, a, ca, rfl, _, hx, hcell, _, hcl, _, hrx⟩ := (HR.out _ HB.out).at_ hlt
    obtain ⟨ps, hps⟩ : ∃ ps, ps = placesN x P M := ⟨_, rfl⟩
    have XPS := Lib.hid hps
    have HXK := Lib.hid hx
    have HPLT : Hid (∀ y ∈ ps, y < M) := Lib.hid (by rw [hps]; exact placesN_lt _ _ _ (by omega))
    have HPL : Hid (ps.length = P) := Lib.hid (by rw [hps]; simp [placesN])
    have HRX := Lib.hid hrx
    have hxl : x.length ≤ 9223372036854775807 := by omega
    clear hps hx hrx
    go_wp2_with (go_at_call 40; go_must (refine (places_any x a x.length ca P M _ hxl HRX.out (by omega) (by omega) (by omega)).mono ?_); rintro e w4 hp; rw [← XPS.out] at hp; obtain ⟨A4, c4, rfl, hO4, hb4⟩ := hp.at_ HPL.out; have HB4 := Lib.hid (HB.out.trans (hb4.mono HB.out.size)); have HO4 := Lib.hid hO4; have HS4 := Lib.hid (own_below HOS.out hb4); clear hp hO4 hb4)
    obtain ⟨g4, cap4, e4, hg41, _⟩ := own_form HO4.out (by omega)
    injection e4 with e4 _ e5
    subst e4
    have HNE : Hid (g4 ≠ g) := Lib.hid (by have h2 := (World.ownsRow.lt HOS.out g rfl).2; omega)
    clear hg41 e5
    go_loopw [11] (fun y wr' => ∃ j : Nat, j ≤ P ∧ y = .int .i64 j ∧ Hid (wr'.ownsRow w.heap.size 4 1 (.slice (some ⟨g, 0, none⟩) M M) M (bools (mapR M (plusS (keyS ks P M k) ps j)))) ∧ Hid (wr'.ownsRow wr.heap.size 3 1 (.slice (some ⟨g4, 0, none⟩) P c4) P (i64s ps)) ∧ Hid (Below w.heap.size w wr')) (fun y _ => P - (intOf y).toNat)
    case atStart => exact ⟨0, Nat.zero_le _, rfl, Lib.hid (by have h := HS4.out; rw [mapR_ext (g := keyS ks P M k) fun i _ => by unfold plusS; simp]; exact h), HO4, HB4⟩
    case round =>
      obtain ⟨j, hj, rfl, HOJ, HOI, HBJ⟩ := hrel
      by_cases hjl : j < P
      case neg =>
        have HN : Hid (wr.ownsRow w.heap.size 4 1 (.slice (some ⟨g, 0, none⟩) M M) M (bools (mapR M (keyS ks P M (k + 1))))) := Lib.hid (by
          have h := HOJ.out
          rw [mapR_ext (g := keyS ks P M (k + 1)) fun i _ => by rw [keyS_next HXK.out, ← XPS.out]; unfold plusS; rw [take_all (by rw [HPL.out]; omega)]] at h
          exact h)
        go_wp2_with fail
        go_roundw
        case rel => exact ⟨k + 1, by omega, by go_num, HN, HBJ⟩
        case measure => simp [intOf]; omega
      obtain ⟨y, hy⟩ : ∃ y, ps[j]? = some y := ⟨_, List.getElem?_eq_getElem (by rw [HPL.out]; exact hjl)⟩
      have hyM := HPLT.out y (List.mem_of_getElem? hy)
      have hci : wr.cell? ⟨g4, j, none⟩ = some (.int .i64 (y : Int)) := (World.ownsRow.cellAt HOI.out j (by omega)).trans (by simp [i64s, hy])
      obtain ⟨old, hold⟩ : ∃ old, (bools (mapR M (plusS (keyS ks P M k) ps j)))[y]? = some old := ⟨_, bools_at (mapR_at _ hyM)⟩
      have hcs : wr.cell? ⟨g, y, none⟩ = some old := (World.ownsRow.cellAt HOJ.out y (by omega)).trans hold
      have hfz : wr.frozen? ⟨g, y, none⟩ = false := World.ownsRow.frozenAt HOJ.out y
      have HST := Lib.hid (World.ownsRow.stored HOJ.out y (.bool true))
      have HNX : Hid ((bools (mapR M (plusS (keyS ks P M k) ps j))).set y (.bool true) = bools (mapR M (plusS (keyS ks P M k) ps (j + 1)))) := Lib.hid (by rw [bools_set, plusS_next hy hyM])
      clear hy hold
      go_wp2_with fail
      go_roundw
      case rel => exact ⟨j + 1, by omega, by go_num, Lib.hid (by have h := HST.out.1; rw [HNX.out] at h; exact h), Lib.hid (own_chg HOI.out (Chg.setCell wr ⟨g, y, none⟩ (.bool true)) fun b hb e => HNE.out (by injection hb with hb; exact hb.trans e)), Lib.hid (HBJ.out.setCell (p := ⟨g, y, none⟩) HGW.out _)⟩
      case measure => simp [intOf]; omega
theorem rbuild_any (bits : Int) (ks : List (List UInt8)) (A : Option Addr) (n c : Nat) (w : World) (hn : n ≤ 9223372036854775807) (hr : RBs w w.heap.size A n ks) :
    Calls Try.prog 26 #[.int .i64 bits, .slice A n c] w (BytesPost2 5 (bres bits ks) (buildE bits ks) w) := by
  by_cases h : buildE bits ks = 0
  · exact rbuild_ok bits ks A n c w hr h
  · exact rbuild_no bits ks A n c w hn hr h
end Go.Proofs.Ythjjihipodhkiaa

/-
  The statements' wide, kept, asked (all kinds but Build), walked. (Printed by gen_asked.py.)
-/
namespace Go.Proofs.Ythjjihipodhkiaa
open Go.RowKit

def mkB : List UInt8 := [91, 92, 93, 94, 95]
set_option maxRecDepth 100000 in
set_option maxHeartbeats 1000000 in
theorem wide_any (l : List UInt8) (A : Option Addr) (n c : Nat) (w : World) (hn : n ≤ 140737488355000) (hr : RB w w.heap.size A n l) :
    Calls Try.prog 25 #[.slice A n c] w (BytesPost 5 (l ++ mkB) w) := by
  have HR : Hid (∀ w', Below w.heap.size w w' → RB w' w'.heap.size A n l) := Lib.hid fun w' h => hr.later h
  have tok1 : True := trivial
  clear hr
  go_enter Try.func25, Try.ntmps25
  go_wp2_with (first
    | (at_builtin; have _t := tok1; go_must (refine wpList_append_reads _ rfl (.tmp 4) (.tmp 5) rfl Try.u8s' w.heap.size (.slice none 0 0) 0 [] rfl (own_nil _ _ _ _) _ A n c (u8s l) rfl (HR.out _ (Below.refl _ _)) (u8s_one _) (by unfold maxLen; omega) (by omega) (Nat.le_refl _) ?_); intro v1 w1 hown1 hg1 hat1; clear tok1; have HB1 := Lib.hid (below_app (Below.refl w.heap.size w) (own_nil _ w.heap.size 5 1) hg1 (Nat.le_refl _) (Nat.le_refl _)); rw [List.nil_append, Nat.zero_add] at hown1; have HO1 := Lib.hid hown1; clear hown1 hg1 hat1)
    | (at_builtin; go_must (refine wpList_append_reads _ rfl (.tmp 7) (.tmp 8) rfl Try.u8s' w.heap.size v1 n (u8s l) rfl (HO1.out.alloc _) (w1.heap.size + 1) (some ⟨w1.heap.size, 0, none⟩) 5 5 (u8s mkB) rfl (by exact reads_lit w1 _ mkB _ _ rfl) (u8s_one _) (by unfold maxLen; omega) (by omega) (by have := HB1.out.size; simp; omega) ?_); intro v2 w2 hown2 hg2 hat2; have HB2 := Lib.hid (below_app (HB1.out.alloc HB1.out.size (.cells #[.int .u8 91, .int .u8 92, .int .u8 93, .int .u8 94, .int .u8 95] 5)) (HO1.out.alloc _) hg2 (by have := HB1.out.size; simp; omega) (Nat.le_refl _)); rw [← u8s_append] at hown2; have HO2 := Lib.hid hown2; clear hown2 hg2 hat2))
  go_ret
  exact bytes_post HO2.out HB2.out

set_option maxRecDepth 100000 in
set_option maxHeartbeats 1000000 in
theorem kept_any (l R : List UInt8) (A B : Option Addr) (n c d : Nat) (w : World) (hR : R = l ++ mkB) (hs : Sl w A (n + 5) c R) (hb : Sl w B n d l) (hn : n ≤ 140737488355000) :
    Calls Try.prog 31 #[.slice A (n + 5) c, .slice B n d] w fun e w' => e = .returned (.bool true) ∧ Below w.heap.size w w' := by
  have hl := hb.len
  have hcap := hs.cap
  have H1 : Hid (Sl w A n c l) := Lib.hid (by have h := hs.take (m := n) (by omega); rw [hR, List.take_left' hl] at h; exact h)
  have H2 : Hid (Sl w (A.map (·.add n)) 5 (c - n) mkB) := Lib.hid (by
    have h := hs.drop (k := n) (by omega) (by omega)
    rw [hR, List.drop_left' hl, show n + 5 - n = 5 from by omega] at h; exact h)
  have HBB := Lib.hid hb
  have XS : Hid ((l == l) = true ∧ (mkB == mkB) = true) := Lib.hid ⟨by simp, by simp⟩
  have k1 : (n : Int) ≤ (c : Int) := by omega
  have k2 : n ≤ n + 5 := by omega
  have k3 : n + 5 - n = 5 := by omega
  have k4 : c ≠ n := by omega
  have tok1 : True := trivial
  clear hs hb hl hR
  go_enter Try.func31, Try.ntmps31
  go_wp2_with (first
    | (go_at_call 15; have _t := tok1; go_must (refine (alike_any l l A B n c n d _ H1.out.rb HBB.out.rb).mono ?_); rw [XS.out.1]; rintro e wn ⟨rfl, rfl⟩; clear tok1)
    | (go_at_call 15; go_must (refine (alike_any mkB mkB _ (some ⟨w.heap.size, 0, none⟩) 5 _ 5 5 _ (H2.out.later ((Below.refl _ _).alloc (Nat.le_refl _) _)).rb (by exact (Sl.lit w #[.int .u8 91, .int .u8 92, .int .u8 93, .int .u8 94, .int .u8 95] mkB _ _ rfl rfl (by decide)).rb)).mono ?_); rw [XS.out.2]; rintro e wn ⟨rfl, rfl⟩))
  go_ret
  exact ⟨rfl, (Below.refl _ _).alloc (Nat.le_refl _) _⟩

theorem keep2B {w x y : World} {p q : Addr} {u v : Value} (h : x.cell? p = some u ∧ x.cell? q = some v ∧ Below w.heap.size w x) (hb : Below x.heap.size x y) : y.cell? p = some u ∧ y.cell? q = some v ∧ Below w.heap.size w y :=
  ⟨(hb.cell (World.block_lt_of_cell? x p h.1)).trans h.1, (hb.cell (World.block_lt_of_cell? x q h.2.1)).trans h.2.1, h.2.2.trans (hb.mono h.2.2.size)⟩
theorem box5 (w : World) (C : Array Value) (t : TypeId) (u0 u1 u2 u3 u4 : Value) (h : C = #[u0, u1, u2, u3, u4]) :
    Hid (∀ x, Below (w.alloc (.cells C t)).heap.size (w.alloc (.cells C t)) x → x.cell? ⟨w.heap.size, 0, none⟩ = some u0 ∧ x.cell? ⟨w.heap.size, 1, none⟩ = some u1 ∧ x.cell? ⟨w.heap.size, 2, none⟩ = some u2 ∧ x.cell? ⟨w.heap.size, 3, none⟩ = some u3 ∧ x.cell? ⟨w.heap.size, 4, none⟩ = some u4) := Lib.hid fun x hb => by
  subst h
  exact ⟨(hb.cell (p := ⟨w.heap.size, 0, none⟩) (by simp)).trans (by simp), (hb.cell (p := ⟨w.heap.size, 1, none⟩) (by simp)).trans (by simp), (hb.cell (p := ⟨w.heap.size, 2, none⟩) (by simp)).trans (by simp), (hb.cell (p := ⟨w.heap.size, 3, none⟩) (by simp)).trans (by simp), (hb.cell (p := ⟨w.heap.size, 4, none⟩) (by simp)).trans (by simp)⟩
theorem wide_cut {w x : World} {A : Option Addr} {n c : Nat} {l R : List UInt8} (h : Sl w A (n + 5) c R) (hl : l.length = n) (hr : R = l ++ mkB) (hb : Below w.heap.size w x) : Sl x A n c l := by
  have := (h.later hb).take (m := n) (by omega)
  rw [hr, List.take_left' hl] at this
  exact this

section
variable (f g : List UInt8) (A G KA : Option Addr) (n c m d kn kc : Nat) (N : Int) (w : World) (hs : Sl w A n c f) (hg : Sl w G m d g) (hn : n ≤ 140737488355000) (hm : m ≤ 140737488355000)
include hs hg hn hm

set_option maxRecDepth 100000 in
set_option maxHeartbeats 4000000 in
theorem asked_none (K : Int) (k1 : (K == 1) = false) (k2 : (K == 2) = false) (k3 : (K == 3) = false) (k4 : (K == 4) = false) (k5 : (K == 5) = false) : Calls Try.prog 36 #[.agg #[.int .i64 K, .int .i64 N, .slice KA kn kc, .slice A n c, .slice G m d]] w fun e w' => e = .returned (.bool true) ∧ Below w.heap.size w w' := by
  have HB0 := Lib.hid ((Below.refl w.heap.size w).alloc (Nat.le_refl _) (.cells #[.int .i64 K, .int .i64 N, .slice KA kn kc, .slice A n c, .slice G m d] 45))
  have HX := box5 w #[.int .i64 K, .int .i64 N, .slice KA kn kc, .slice A n c, .slice G m d] 45 _ _ _ _ _ rfl
  have HS : Hid (∀ w', Below w.heap.size w w' → Sl w' A n c f) := Lib.hid fun w' h => hs.later h
  have HG : Hid (∀ w', Below w.heap.size w w' → Sl w' G m d g) := Lib.hid fun w' h => hg.later h
  have HL := Lib.hid hs.len
  have HGL := Lib.hid hg.len
  obtain ⟨RF, hRF⟩ : ∃ R, R = f ++ mkB := ⟨_, rfl⟩
  obtain ⟨RG, hRG⟩ : ∃ R, R = g ++ mkB := ⟨_, rfl⟩
  have XRF := Lib.hid hRF
  have XRG := Lib.hid hRG
  have XFL : Hid (RF.length = n + 5) := Lib.hid (by rw [hRF, List.length_append, hs.len]; rfl)
  have XGL : Hid (RG.length = m + 5) := Lib.hid (by rw [hRG, List.length_append, hg.len]; rfl)
  have tok1 : True := trivial
  have tok2 : True := trivial
  obtain ⟨gb, hgb⟩ : ∃ g, g = w.heap.size := ⟨_, rfl⟩
  clear hs hg hRF hRG
  have HGB := Lib.hid hgb
  go_enter Try.func36, Try.ntmps36
  obtain ⟨u0, u1, u2, u3, u4⟩ := HX.out _ (Below.refl _ _)
  go_upto_region 3 with (first
    | (go_at_call 25; have _t := tok1; go_must (refine (wide_any f A n c _ (by omega) (HS.out _ HB0.out).rb).mono ?_); rintro e w1 hq; rw [← XRF.out] at hq; obtain ⟨WA, wc, rfl, hS1, _, hb1⟩ := hq.at_ XFL.out; have HB1 := Lib.hid (HB0.out.trans (hb1.mono HB0.out.size)); have HW1 := Lib.hid hS1; have HX1 := Lib.hid (fun x (h : Below w1.heap.size w1 x) => HX.out x (hb1.trans (h.mono hb1.size))); obtain ⟨x0, x1, x2, x3, x4⟩ := HX1.out w1 (Below.refl _ _); clear tok1 hq hS1 hb1 u0 u1 u2 u3 u4)
    | (go_at_call 25; go_must (refine (wide_any g G m d _ (by omega) (HG.out _ HB1.out).rb).mono ?_); rintro e w2 hq; rw [← XRG.out] at hq; obtain ⟨GA, gc, rfl, hS2, _, hb2⟩ := hq.at_ XGL.out; have HB2 := Lib.hid (HB1.out.trans (hb2.mono HB1.out.size)); have HW2 := Lib.hid (fun x (h : Below w2.heap.size w2 x) => HW1.out.later (hb2.trans (h.mono hb2.size))); have HG2 := Lib.hid (fun x (h : Below w2.heap.size w2 x) => hS2.later h); have HX2 := Lib.hid (fun x (h : Below w2.heap.size w2 x) => HX1.out x (hb2.trans (h.mono hb2.size))); have HWF := Lib.hid (fun x (h : Below w2.heap.size w2 x) => wide_cut (HW1.out.later hb2) HL.out XRF.out h); have HGF := Lib.hid (fun x (h : Below w2.heap.size w2 x) => wide_cut hS2 HGL.out XRG.out h); have hwc := (HW1.out).cap; have hgc := hS2.cap; clear hq hS2 hb2 x0 x1 x2 x3 x4))
  rw [← hgb] at HX2 ⊢
  obtain ⟨x0, x1, x2, x3, x4⟩ := HX2.out w2 (Below.refl _ _)
  have j1 : (n : Int) ≤ (wc : Int) := by omega
  have j2 : (m : Int) ≤ (gc : Int) := by omega
  have j3 : n ≤ n + 5 := by omega
  have j4 : m ≤ m + 5 := by omega
  clear HX HX1 HW1 HB0 HB1 hgb
  go_wp2_with (first
      | (go_at_call 31; have _t := tok2; go_must (refine (kept_any f RF WA A n wc c _ XRF.out (HW2.out _ (Below.refl w2.heap.size w2)) (HS.out _ (HB2.out.trans (Below.mono (Below.refl w2.heap.size w2) HB2.out.size))) (by omega)).mono ?_); rintro e w8 ⟨rfl, hb8⟩; have HB8 := Lib.hid (Below.trans (Below.refl w2.heap.size w2) (hb8.mono (Below.size (Below.refl w2.heap.size w2)))); obtain ⟨y0, y1, y2, y3, y4⟩ := HX2.out w8 HB8.out; clear tok2 hb8)
      | (go_at_call 31; go_must (refine (kept_any g RG GA G m gc d _ XRG.out (HG2.out _ HB8.out) (HG.out _ (HB2.out.trans (HB8.out.mono HB2.out.size))) (by omega)).mono ?_); rintro e w9 ⟨rfl, hb9⟩; have HB9 := Lib.hid (HB8.out.trans (hb9.mono HB8.out.size)); clear hb9))
  go_ret
  exact ⟨rfl, HB2.out.trans (HB9.out.mono HB2.out.size)⟩

set_option maxRecDepth 100000 in
set_option maxHeartbeats 4000000 in
theorem asked_2 : Calls Try.prog 36 #[.agg #[.int .i64 2, .int .i64 N, .slice KA kn kc, .slice A n c, .slice G m d]] w fun e w' => e = .returned (.bool true) ∧ Below w.heap.size w w' := by
  have HB0 := Lib.hid ((Below.refl w.heap.size w).alloc (Nat.le_refl _) (.cells #[.int .i64 2, .int .i64 N, .slice KA kn kc, .slice A n c, .slice G m d] 45))
  have HX := box5 w #[.int .i64 2, .int .i64 N, .slice KA kn kc, .slice A n c, .slice G m d] 45 _ _ _ _ _ rfl
  have HS : Hid (∀ w', Below w.heap.size w w' → Sl w' A n c f) := Lib.hid fun w' h => hs.later h
  have HG : Hid (∀ w', Below w.heap.size w w' → Sl w' G m d g) := Lib.hid fun w' h => hg.later h
  have HL := Lib.hid hs.len
  have HGL := Lib.hid hg.len
  obtain ⟨RF, hRF⟩ : ∃ R, R = f ++ mkB := ⟨_, rfl⟩
  obtain ⟨RG, hRG⟩ : ∃ R, R = g ++ mkB := ⟨_, rfl⟩
  have XRF := Lib.hid hRF
  have XRG := Lib.hid hRG
  have XFL : Hid (RF.length = n + 5) := Lib.hid (by rw [hRF, List.length_append, hs.len]; rfl)
  have XGL : Hid (RG.length = m + 5) := Lib.hid (by rw [hRG, List.length_append, hg.len]; rfl)
  have tok1 : True := trivial
  have tok2 : True := trivial
  obtain ⟨gb, hgb⟩ : ∃ g, g = w.heap.size := ⟨_, rfl⟩
  clear hs hg hRF hRG
  have HGB := Lib.hid hgb
  go_enter Try.func36, Try.ntmps36
  obtain ⟨u0, u1, u2, u3, u4⟩ := HX.out _ (Below.refl _ _)
  go_upto_region 3 with (first
    | (go_at_call 25; have _t := tok1; go_must (refine (wide_any f A n c _ (by omega) (HS.out _ HB0.out).rb).mono ?_); rintro e w1 hq; rw [← XRF.out] at hq; obtain ⟨WA, wc, rfl, hS1, _, hb1⟩ := hq.at_ XFL.out; have HB1 := Lib.hid (HB0.out.trans (hb1.mono HB0.out.size)); have HW1 := Lib.hid hS1; have HX1 := Lib.hid (fun x (h : Below w1.heap.size w1 x) => HX.out x (hb1.trans (h.mono hb1.size))); obtain ⟨x0, x1, x2, x3, x4⟩ := HX1.out w1 (Below.refl _ _); clear tok1 hq hS1 hb1 u0 u1 u2 u3 u4)
    | (go_at_call 25; go_must (refine (wide_any g G m d _ (by omega) (HG.out _ HB1.out).rb).mono ?_); rintro e w2 hq; rw [← XRG.out] at hq; obtain ⟨GA, gc, rfl, hS2, _, hb2⟩ := hq.at_ XGL.out; have HB2 := Lib.hid (HB1.out.trans (hb2.mono HB1.out.size)); have HW2 := Lib.hid (fun x (h : Below w2.heap.size w2 x) => HW1.out.later (hb2.trans (h.mono hb2.size))); have HG2 := Lib.hid (fun x (h : Below w2.heap.size w2 x) => hS2.later h); have HX2 := Lib.hid (fun x (h : Below w2.heap.size w2 x) => HX1.out x (hb2.trans (h.mono hb2.size))); have HWF := Lib.hid (fun x (h : Below w2.heap.size w2 x) => wide_cut (HW1.out.later hb2) HL.out XRF.out h); have HGF := Lib.hid (fun x (h : Below w2.heap.size w2 x) => wide_cut hS2 HGL.out XRG.out h); have hwc := (HW1.out).cap; have hgc := hS2.cap; clear hq hS2 hb2 x0 x1 x2 x3 x4))
  rw [← hgb] at HX2 ⊢
  obtain ⟨x0, x1, x2, x3, x4⟩ := HX2.out w2 (Below.refl _ _)
  have k1 : (n : Int) ≤ (wc : Int) := by omega
  have k2 : (m : Int) ≤ (gc : Int) := by omega
  have k3 : n ≤ n + 5 := by omega
  have k4 : m ≤ m + 5 := by omega
  clear HX HX1 HW1 HB0 HB1 hgb
  go_wp2_with fail
  go_region_held3 (fun w' => w'.cell? ⟨gb, 3, none⟩ = some (.slice A n c) ∧ w'.cell? ⟨gb, 4, none⟩ = some (.slice G m d) ∧ Below w2.heap.size w2 w') (first | assumption | exact ⟨x3, x4, (Below.refl _ _).drew⟩ | exact keep2B ‹_› hb3 | exact keep2B ‹_› hb4) (first
    | (go_at_call 23; refine (has_any f g WA GA n wc m gc _ (by omega) (HWF.out _ (And.right (And.right ‹_ ∧ _ ∧ Below w2.heap.size w2 _›))).rb (by omega) (HGF.out _ (And.right (And.right ‹_ ∧ _ ∧ Below w2.heap.size w2 _›))).rb).mono ?_; rintro e w3 ⟨rfl, hb3⟩))
  all_goals
    obtain ⟨z3, z4, hbz⟩ := ‹_ ∧ _ ∧ Below w2.heap.size w2 w3›
    have HBZ := Lib.hid hbz
    obtain ⟨H, hH⟩ : ∃ H, H = hasB f g := ⟨_, rfl⟩
    obtain ⟨E, hE⟩ : ∃ E, E = checkE f := ⟨_, rfl⟩
    rw [← hH, ← hE]
    have XH := Lib.hid hH
    have XE := Lib.hid hE
    have q1 : (H == H) = true := by simp
    have q2 : ((E : Int) == (E : Int)) = true := by simp
    clear hbz hH hE
    go_wp2_with (first
      | (go_at_call 27; go_must (refine (rhas_any f g A G n c m d _ (by omega) (HS.out _ (HB2.out.trans (HBZ.out.mono HB2.out.size))).rb (by omega) (HG.out _ (HB2.out.trans (HBZ.out.mono HB2.out.size))).rb).mono ?_); rw [← XH.out, ← XE.out]; rintro e w4 ⟨rfl, hb4⟩; have HB4 := Lib.hid (HBZ.out.trans (hb4.mono HBZ.out.size)); obtain ⟨v0, v1, v2, v3, v4⟩ := HX2.out w4 HB4.out; clear hb4)
      | (go_at_call 14; refine (num_any _ _).mono ?_; rintro e wn ⟨rfl, rfl⟩)
      | (go_at_call 31; have _t := tok2; go_must (refine (kept_any f RF WA A n wc c _ XRF.out (HW2.out _ HB4.out) (HS.out _ (HB2.out.trans (Below.mono HB4.out HB2.out.size))) (by omega)).mono ?_); rintro e w8 ⟨rfl, hb8⟩; have HB8 := Lib.hid (Below.trans HB4.out (hb8.mono (Below.size HB4.out))); obtain ⟨y0, y1, y2, y3, y4⟩ := HX2.out w8 HB8.out; clear tok2 hb8)
      | (go_at_call 31; go_must (refine (kept_any g RG GA G m gc d _ XRG.out (HG2.out _ HB8.out) (HG.out _ (HB2.out.trans (HB8.out.mono HB2.out.size))) (by omega)).mono ?_); rintro e w9 ⟨rfl, hb9⟩; have HB9 := Lib.hid (HB8.out.trans (hb9.mono HB8.out.size)); clear hb9))
    go_ret
    exact ⟨rfl, HB2.out.trans (HB9.out.mono HB2.out.size)⟩

set_option maxRecDepth 100000 in
set_option maxHeartbeats 4000000 in
theorem asked_3 : Calls Try.prog 36 #[.agg #[.int .i64 3, .int .i64 N, .slice KA kn kc, .slice A n c, .slice G m d]] w fun e w' => e = .returned (.bool true) ∧ Below w.heap.size w w' := by
  have HB0 := Lib.hid ((Below.refl w.heap.size w).alloc (Nat.le_refl _) (.cells #[.int .i64 3, .int .i64 N, .slice KA kn kc, .slice A n c, .slice G m d] 45))
  have HX := box5 w #[.int .i64 3, .int .i64 N, .slice KA kn kc, .slice A n c, .slice G m d] 45 _ _ _ _ _ rfl
  have HS : Hid (∀ w', Below w.heap.size w w' → Sl w' A n c f) := Lib.hid fun w' h => hs.later h
  have HG : Hid (∀ w', Below w.heap.size w w' → Sl w' G m d g) := Lib.hid fun w' h => hg.later h
  have HL := Lib.hid hs.len
  have HGL := Lib.hid hg.len
  obtain ⟨RF, hRF⟩ : ∃ R, R = f ++ mkB := ⟨_, rfl⟩
  obtain ⟨RG, hRG⟩ : ∃ R, R = g ++ mkB := ⟨_, rfl⟩
  have XRF := Lib.hid hRF
  have XRG := Lib.hid hRG
  have XFL : Hid (RF.length = n + 5) := Lib.hid (by rw [hRF, List.length_append, hs.len]; rfl)
  have XGL : Hid (RG.length = m + 5) := Lib.hid (by rw [hRG, List.length_append, hg.len]; rfl)
  have tok1 : True := trivial
  have tok2 : True := trivial
  obtain ⟨gb, hgb⟩ : ∃ g, g = w.heap.size := ⟨_, rfl⟩
  clear hs hg hRF hRG
  have HGB := Lib.hid hgb
  go_enter Try.func36, Try.ntmps36
  obtain ⟨u0, u1, u2, u3, u4⟩ := HX.out _ (Below.refl _ _)
  go_upto_region 3 with (first
    | (go_at_call 25; have _t := tok1; go_must (refine (wide_any f A n c _ (by omega) (HS.out _ HB0.out).rb).mono ?_); rintro e w1 hq; rw [← XRF.out] at hq; obtain ⟨WA, wc, rfl, hS1, _, hb1⟩ := hq.at_ XFL.out; have HB1 := Lib.hid (HB0.out.trans (hb1.mono HB0.out.size)); have HW1 := Lib.hid hS1; have HX1 := Lib.hid (fun x (h : Below w1.heap.size w1 x) => HX.out x (hb1.trans (h.mono hb1.size))); obtain ⟨x0, x1, x2, x3, x4⟩ := HX1.out w1 (Below.refl _ _); clear tok1 hq hS1 hb1 u0 u1 u2 u3 u4)
    | (go_at_call 25; go_must (refine (wide_any g G m d _ (by omega) (HG.out _ HB1.out).rb).mono ?_); rintro e w2 hq; rw [← XRG.out] at hq; obtain ⟨GA, gc, rfl, hS2, _, hb2⟩ := hq.at_ XGL.out; have HB2 := Lib.hid (HB1.out.trans (hb2.mono HB1.out.size)); have HW2 := Lib.hid (fun x (h : Below w2.heap.size w2 x) => HW1.out.later (hb2.trans (h.mono hb2.size))); have HG2 := Lib.hid (fun x (h : Below w2.heap.size w2 x) => hS2.later h); have HX2 := Lib.hid (fun x (h : Below w2.heap.size w2 x) => HX1.out x (hb2.trans (h.mono hb2.size))); have HWF := Lib.hid (fun x (h : Below w2.heap.size w2 x) => wide_cut (HW1.out.later hb2) HL.out XRF.out h); have HGF := Lib.hid (fun x (h : Below w2.heap.size w2 x) => wide_cut hS2 HGL.out XRG.out h); have hwc := (HW1.out).cap; have hgc := hS2.cap; clear hq hS2 hb2 x0 x1 x2 x3 x4))
  rw [← hgb] at HX2 ⊢
  obtain ⟨x0, x1, x2, x3, x4⟩ := HX2.out w2 (Below.refl _ _)
  have k1 : (n : Int) ≤ (wc : Int) := by omega
  have k2 : (m : Int) ≤ (gc : Int) := by omega
  have k3 : n ≤ n + 5 := by omega
  have k4 : m ≤ m + 5 := by omega
  clear HX HX1 HW1 HB0 HB1 hgb
  go_wp2_with fail
  obtain ⟨E, hE⟩ : ∃ E, E = checkE f := ⟨_, rfl⟩
  have XE := Lib.hid hE
  have q2 : ((E : Int) == (E : Int)) = true := by simp
  clear hE
  go_region_held3 (fun w' => w'.cell? ⟨gb, 3, none⟩ = some (.slice A n c) ∧ w'.cell? ⟨gb, 4, none⟩ = some (.slice G m d) ∧ Below w2.heap.size w2 w') (first | assumption | exact ⟨x3, x4, (Below.refl _ _).drew⟩ | exact keep2B ‹_› hb3 | exact keep2B ‹_› hb4) (first
    | (go_at_call 24; refine (check_any f WA n wc _ (by omega) (HWF.out _ (And.right (And.right ‹_ ∧ _ ∧ Below w2.heap.size w2 _›))).rb).mono ?_; rw [← XE.out]; rintro e w3 ⟨rfl, hb3⟩)
    | (go_at_call 28; refine (rcheck_any f A n c _ (by omega) (HS.out _ (HB2.out.trans (Below.mono (And.right (And.right ‹_ ∧ _ ∧ Below w2.heap.size w2 _›)) HB2.out.size))).rb).mono ?_; rw [← XE.out]; rintro e w4 ⟨rfl, hb4⟩)
    | (go_at_call 14; refine (num_any _ _).mono ?_; rintro e wn ⟨rfl, rfl⟩))
  all_goals
    have hbz := (And.right (And.right ‹_ ∧ _ ∧ Below w2.heap.size w2 _›))
    have HBZ := Lib.hid hbz
    obtain ⟨v0, v1, v2, v3, v4⟩ := HX2.out _ HBZ.out
    clear hbz
    go_wp2_with (first
      | (go_at_call 31; have _t := tok2; go_must (refine (kept_any f RF WA A n wc c _ XRF.out (HW2.out _ HBZ.out) (HS.out _ (HB2.out.trans (Below.mono HBZ.out HB2.out.size))) (by omega)).mono ?_); rintro e w8 ⟨rfl, hb8⟩; have HB8 := Lib.hid (Below.trans HBZ.out (hb8.mono (Below.size HBZ.out))); obtain ⟨y0, y1, y2, y3, y4⟩ := HX2.out w8 HB8.out; clear tok2 hb8)
      | (go_at_call 31; go_must (refine (kept_any g RG GA G m gc d _ XRG.out (HG2.out _ HB8.out) (HG.out _ (HB2.out.trans (HB8.out.mono HB2.out.size))) (by omega)).mono ?_); rintro e w9 ⟨rfl, hb9⟩; have HB9 := Lib.hid (HB8.out.trans (hb9.mono HB8.out.size)); clear hb9))
    go_ret
    exact ⟨rfl, HB2.out.trans (HB9.out.mono HB2.out.size)⟩

set_option maxRecDepth 100000 in
set_option maxHeartbeats 4000000 in
theorem asked_4 : Calls Try.prog 36 #[.agg #[.int .i64 4, .int .i64 N, .slice KA kn kc, .slice A n c, .slice G m d]] w fun e w' => e = .returned (.bool true) ∧ Below w.heap.size w w' := by
  have HB0 := Lib.hid ((Below.refl w.heap.size w).alloc (Nat.le_refl _) (.cells #[.int .i64 4, .int .i64 N, .slice KA kn kc, .slice A n c, .slice G m d] 45))
  have HX := box5 w #[.int .i64 4, .int .i64 N, .slice KA kn kc, .slice A n c, .slice G m d] 45 _ _ _ _ _ rfl
  have HS : Hid (∀ w', Below w.heap.size w w' → Sl w' A n c f) := Lib.hid fun w' h => hs.later h
  have HG : Hid (∀ w', Below w.heap.size w w' → Sl w' G m d g) := Lib.hid fun w' h => hg.later h
  have HL := Lib.hid hs.len
  have HGL := Lib.hid hg.len
  obtain ⟨RF, hRF⟩ : ∃ R, R = f ++ mkB := ⟨_, rfl⟩
  obtain ⟨RG, hRG⟩ : ∃ R, R = g ++ mkB := ⟨_, rfl⟩
  have XRF := Lib.hid hRF
  have XRG := Lib.hid hRG
  have XFL : Hid (RF.length = n + 5) := Lib.hid (by rw [hRF, List.length_append, hs.len]; rfl)
  have XGL : Hid (RG.length = m + 5) := Lib.hid (by rw [hRG, List.length_append, hg.len]; rfl)
  have tok1 : True := trivial
  have tok2 : True := trivial
  obtain ⟨gb, hgb⟩ : ∃ g, g = w.heap.size := ⟨_, rfl⟩
  clear hs hg hRF hRG
  have HGB := Lib.hid hgb
  go_enter Try.func36, Try.ntmps36
  obtain ⟨u0, u1, u2, u3, u4⟩ := HX.out _ (Below.refl _ _)
  go_upto_region 3 with (first
    | (go_at_call 25; have _t := tok1; go_must (refine (wide_any f A n c _ (by omega) (HS.out _ HB0.out).rb).mono ?_); rintro e w1 hq; rw [← XRF.out] at hq; obtain ⟨WA, wc, rfl, hS1, _, hb1⟩ := hq.at_ XFL.out; have HB1 := Lib.hid (HB0.out.trans (hb1.mono HB0.out.size)); have HW1 := Lib.hid hS1; have HX1 := Lib.hid (fun x (h : Below w1.heap.size w1 x) => HX.out x (hb1.trans (h.mono hb1.size))); obtain ⟨x0, x1, x2, x3, x4⟩ := HX1.out w1 (Below.refl _ _); clear tok1 hq hS1 hb1 u0 u1 u2 u3 u4)
    | (go_at_call 25; go_must (refine (wide_any g G m d _ (by omega) (HG.out _ HB1.out).rb).mono ?_); rintro e w2 hq; rw [← XRG.out] at hq; obtain ⟨GA, gc, rfl, hS2, _, hb2⟩ := hq.at_ XGL.out; have HB2 := Lib.hid (HB1.out.trans (hb2.mono HB1.out.size)); have HW2 := Lib.hid (fun x (h : Below w2.heap.size w2 x) => HW1.out.later (hb2.trans (h.mono hb2.size))); have HG2 := Lib.hid (fun x (h : Below w2.heap.size w2 x) => hS2.later h); have HX2 := Lib.hid (fun x (h : Below w2.heap.size w2 x) => HX1.out x (hb2.trans (h.mono hb2.size))); have HWF := Lib.hid (fun x (h : Below w2.heap.size w2 x) => wide_cut (HW1.out.later hb2) HL.out XRF.out h); have HGF := Lib.hid (fun x (h : Below w2.heap.size w2 x) => wide_cut hS2 HGL.out XRG.out h); have hwc := (HW1.out).cap; have hgc := hS2.cap; clear hq hS2 hb2 x0 x1 x2 x3 x4))
  rw [← hgb] at HX2 ⊢
  obtain ⟨x0, x1, x2, x3, x4⟩ := HX2.out w2 (Below.refl _ _)
  have k1 : (n : Int) ≤ (wc : Int) := by omega
  have k2 : (m : Int) ≤ (gc : Int) := by omega
  have k3 : n ≤ n + 5 := by omega
  have k4 : m ≤ m + 5 := by omega
  clear HX HX1 HW1 HB0 HB1 hgb
  go_wp2_with fail
  obtain ⟨E, hE⟩ : ∃ E, E = unionE f g := ⟨_, rfl⟩
  obtain ⟨U, hU⟩ : ∃ U, U = ures f g := ⟨_, rfl⟩
  obtain ⟨L, hL⟩ : ∃ L, L = U.length := ⟨_, rfl⟩
  have XE := Lib.hid hE
  have XU := Lib.hid hU
  have XL := Lib.hid hL
  have XS : Hid ((U == U) = true) := Lib.hid (by simp)
  have q2 : ((E : Int) == (E : Int)) = true := by simp
  clear hE hU hL
  go_region_held3 (fun w' => w'.cell? ⟨gb, 3, none⟩ = some (.slice A n c) ∧ w'.cell? ⟨gb, 4, none⟩ = some (.slice G m d) ∧ Below w2.heap.size w2 w') (first | assumption | exact ⟨x3, x4, (Below.refl _ _).drew⟩ | exact keep2B ‹_› hb3 | exact keep2B ‹_› hb4) (first
    | (go_at_call 18; refine (union_any f g WA GA n wc m gc _ (by omega) (HWF.out _ (And.right (And.right ‹_ ∧ _ ∧ Below w2.heap.size w2 _›))).rb (by omega) (HGF.out _ (And.right (And.right ‹_ ∧ _ ∧ Below w2.heap.size w2 _›))).rb).mono ?_; rintro e w3 hp; have hp := union_post hp; rw [← XE.out, ← XU.out] at hp; obtain ⟨A3, c3, rfl, hS3, _, hb3⟩ := hp.at_ XL.out.symm rfl))
  all_goals
    obtain ⟨z3, z4, hbz⟩ := ‹_ ∧ _ ∧ Below w2.heap.size w2 w3›
    have HBZ := Lib.hid hbz
    have HS3 := Lib.hid hS3
    clear hbz hS3
    go_wp2_with (first
      | (go_at_call 30; go_must (refine (runion_any f g A G n c m d _ (by omega) (HS.out _ (HB2.out.trans (HBZ.out.mono HB2.out.size))).rb (by omega) (HG.out _ (HB2.out.trans (HBZ.out.mono HB2.out.size))).rb).mono ?_); rintro e w4 hp; rw [← XE.out, ← XU.out] at hp; obtain ⟨A4, c4, rfl, hS4, _, hb4⟩ := hp.at_ XL.out.symm rfl; have HB4 := Lib.hid (HBZ.out.trans (hb4.mono HBZ.out.size)); have HS4 := Lib.hid hS4; have HR4 := Lib.hid (HS3.out.later hb4); obtain ⟨v0, v1, v2, v3, v4⟩ := HX2.out w4 HB4.out; clear hb4 hS4 hp)
      | (go_at_call 15; go_must (refine (alike_any U U A3 A4 L c3 L c4 _ HR4.out.rb HS4.out.rb).mono ?_); rw [XS.out]; rintro e wn ⟨rfl, rfl⟩)
      | (go_at_call 14; refine (num_any _ _).mono ?_; rintro e wn ⟨rfl, rfl⟩)
      | (go_at_call 31; have _t := tok2; go_must (refine (kept_any f RF WA A n wc c _ XRF.out (HW2.out _ HB4.out) (HS.out _ (HB2.out.trans (Below.mono HB4.out HB2.out.size))) (by omega)).mono ?_); rintro e w8 ⟨rfl, hb8⟩; have HB8 := Lib.hid (Below.trans HB4.out (hb8.mono (Below.size HB4.out))); obtain ⟨y0, y1, y2, y3, y4⟩ := HX2.out w8 HB8.out; clear tok2 hb8)
      | (go_at_call 31; go_must (refine (kept_any g RG GA G m gc d _ XRG.out (HG2.out _ HB8.out) (HG.out _ (HB2.out.trans (HB8.out.mono HB2.out.size))) (by omega)).mono ?_); rintro e w9 ⟨rfl, hb9⟩; have HB9 := Lib.hid (HB8.out.trans (hb9.mono HB8.out.size)); clear hb9))
    go_ret
    exact ⟨rfl, HB2.out.trans (HB9.out.mono HB2.out.size)⟩

set_option maxRecDepth 100000 in
set_option maxHeartbeats 4000000 in
theorem asked_5 : Calls Try.prog 36 #[.agg #[.int .i64 5, .int .i64 N, .slice KA kn kc, .slice A n c, .slice G m d]] w fun e w' => e = .returned (.bool true) ∧ Below w.heap.size w w' := by
  have HB0 := Lib.hid ((Below.refl w.heap.size w).alloc (Nat.le_refl _) (.cells #[.int .i64 5, .int .i64 N, .slice KA kn kc, .slice A n c, .slice G m d] 45))
  have HX := box5 w #[.int .i64 5, .int .i64 N, .slice KA kn kc, .slice A n c, .slice G m d] 45 _ _ _ _ _ rfl
  have HS : Hid (∀ w', Below w.heap.size w w' → Sl w' A n c f) := Lib.hid fun w' h => hs.later h
  have HG : Hid (∀ w', Below w.heap.size w w' → Sl w' G m d g) := Lib.hid fun w' h => hg.later h
  have HL := Lib.hid hs.len
  have HGL := Lib.hid hg.len
  obtain ⟨RF, hRF⟩ : ∃ R, R = f ++ mkB := ⟨_, rfl⟩
  obtain ⟨RG, hRG⟩ : ∃ R, R = g ++ mkB := ⟨_, rfl⟩
  have XRF := Lib.hid hRF
  have XRG := Lib.hid hRG
  have XFL : Hid (RF.length = n + 5) := Lib.hid (by rw [hRF, List.length_append, hs.len]; rfl)
  have XGL : Hid (RG.length = m + 5) := Lib.hid (by rw [hRG, List.length_append, hg.len]; rfl)
  have tok1 : True := trivial
  have tok2 : True := trivial
  obtain ⟨gb, hgb⟩ : ∃ g, g = w.heap.size := ⟨_, rfl⟩
  clear hs hg hRF hRG
  have HGB := Lib.hid hgb
  go_enter Try.func36, Try.ntmps36
  obtain ⟨u0, u1, u2, u3, u4⟩ := HX.out _ (Below.refl _ _)
  go_upto_region 3 with (first
    | (go_at_call 25; have _t := tok1; go_must (refine (wide_any f A n c _ (by omega) (HS.out _ HB0.out).rb).mono ?_); rintro e w1 hq; rw [← XRF.out] at hq; obtain ⟨WA, wc, rfl, hS1, _, hb1⟩ := hq.at_ XFL.out; have HB1 := Lib.hid (HB0.out.trans (hb1.mono HB0.out.size)); have HW1 := Lib.hid hS1; have HX1 := Lib.hid (fun x (h : Below w1.heap.size w1 x) => HX.out x (hb1.trans (h.mono hb1.size))); obtain ⟨x0, x1, x2, x3, x4⟩ := HX1.out w1 (Below.refl _ _); clear tok1 hq hS1 hb1 u0 u1 u2 u3 u4)
    | (go_at_call 25; go_must (refine (wide_any g G m d _ (by omega) (HG.out _ HB1.out).rb).mono ?_); rintro e w2 hq; rw [← XRG.out] at hq; obtain ⟨GA, gc, rfl, hS2, _, hb2⟩ := hq.at_ XGL.out; have HB2 := Lib.hid (HB1.out.trans (hb2.mono HB1.out.size)); have HW2 := Lib.hid (fun x (h : Below w2.heap.size w2 x) => HW1.out.later (hb2.trans (h.mono hb2.size))); have HG2 := Lib.hid (fun x (h : Below w2.heap.size w2 x) => hS2.later h); have HX2 := Lib.hid (fun x (h : Below w2.heap.size w2 x) => HX1.out x (hb2.trans (h.mono hb2.size))); have HWF := Lib.hid (fun x (h : Below w2.heap.size w2 x) => wide_cut (HW1.out.later hb2) HL.out XRF.out h); have HGF := Lib.hid (fun x (h : Below w2.heap.size w2 x) => wide_cut hS2 HGL.out XRG.out h); have hwc := (HW1.out).cap; have hgc := hS2.cap; clear hq hS2 hb2 x0 x1 x2 x3 x4))
  rw [← hgb] at HX2 ⊢
  obtain ⟨x0, x1, x2, x3, x4⟩ := HX2.out w2 (Below.refl _ _)
  have k1 : (n : Int) ≤ (wc : Int) := by omega
  have k2 : (m : Int) ≤ (gc : Int) := by omega
  have k3 : n ≤ n + 5 := by omega
  have k4 : m ≤ m + 5 := by omega
  clear HX HX1 HW1 HB0 HB1 hgb
  go_wp2_with fail
  obtain ⟨E, hE⟩ : ∃ E, E = onesN f := ⟨_, rfl⟩
  have XE := Lib.hid hE
  have q2 : ((E : Int) == (E : Int)) = true := by simp
  have hwc5 : n ≤ wc := by omega
  clear hE
  go_region_held3 (fun w' => w'.cell? ⟨gb, 3, none⟩ = some (.slice A n c) ∧ w'.cell? ⟨gb, 4, none⟩ = some (.slice G m d) ∧ Below w2.heap.size w2 w') (first | assumption | exact ⟨x3, x4, (Below.refl _ _).drew⟩ | exact keep2B ‹_› hb3 | exact keep2B ‹_› hb4) (first
    | (go_at_call 17; refine (ones_any f WA n wc _ (by omega) hwc5 (HWF.out _ (And.right (And.right ‹_ ∧ _ ∧ Below w2.heap.size w2 _›))).rb).mono ?_; rw [← XE.out]; rintro e w3 ⟨rfl, hb3⟩)
    | (go_at_call 29; refine (rones_any f A n c _ (by omega) (HS.out _ (HB2.out.trans (Below.mono (And.right (And.right ‹_ ∧ _ ∧ Below w2.heap.size w2 _›)) HB2.out.size))).rb).mono ?_; rw [← XE.out]; rintro e w4 ⟨rfl, hb4⟩))
  all_goals
    have hbz := (And.right (And.right ‹_ ∧ _ ∧ Below w2.heap.size w2 _›))
    have HBZ := Lib.hid hbz
    obtain ⟨v0, v1, v2, v3, v4⟩ := HX2.out _ HBZ.out
    clear hbz
    go_wp2_with (first
      | (go_at_call 31; have _t := tok2; go_must (refine (kept_any f RF WA A n wc c _ XRF.out (HW2.out _ HBZ.out) (HS.out _ (HB2.out.trans (Below.mono HBZ.out HB2.out.size))) (by omega)).mono ?_); rintro e w8 ⟨rfl, hb8⟩; have HB8 := Lib.hid (Below.trans HBZ.out (hb8.mono (Below.size HBZ.out))); obtain ⟨y0, y1, y2, y3, y4⟩ := HX2.out w8 HB8.out; clear tok2 hb8)
      | (go_at_call 31; go_must (refine (kept_any g RG GA G m gc d _ XRG.out (HG2.out _ HB8.out) (HG.out _ (HB2.out.trans (HB8.out.mono HB2.out.size))) (by omega)).mono ?_); rintro e w9 ⟨rfl, hb9⟩; have HB9 := Lib.hid (HB8.out.trans (hb9.mono HB8.out.size)); clear hb9))
    go_ret
    exact ⟨rfl, HB2.out.trans (HB9.out.mono HB2.out.size)⟩
end
end Go.Proofs.Ythjjihipodhkiaa

/-
  The statements' builds, walked.
-/
namespace Go.Proofs.Ythjjihipodhkiaa
open Go.RowKit

/-- Lists with marks behind them; the same slices cut to the lists; none lies in either row. -/
def FamW (w : World) (r1 r2 : Option Nat) (vs us : List Value) (ks : List (List UInt8)) : Prop :=
  vs.length = ks.length ∧ us.length = ks.length ∧ ∀ (i : Nat) (k : List UInt8), ks[i]? = some k → ∃ (a : Option Addr) (c : Nat), vs[i]? = some (.slice a (k.length + 5) c) ∧ us[i]? = some (.slice a k.length c) ∧ Sl w a (k.length + 5) c (k ++ mkB) ∧ (∀ x, a = some x → some x.block ≠ r1) ∧ (∀ x, a = some x → some x.block ≠ r2)
section
variable {w x : World} {r1 r2 r' : Option Nat} {vs us : List Value} {ks : List (List UInt8)}
theorem FamW.nil : FamW w r1 r2 [] [] [] := ⟨rfl, rfl, fun i k h => by simp at h⟩
theorem FamW.later (h : FamW w r1 r2 vs us ks) (hb : Below w.heap.size w x) : FamW x r1 r2 vs us ks :=
  ⟨h.1, h.2.1, fun i k hk => by obtain ⟨a, c, q1, q2, q3, q4⟩ := h.2.2 i k hk; exact ⟨a, c, q1, q2, q3.later hb, q4⟩⟩
theorem FamW.step1 (h : FamW w r1 r2 vs us ks) (hg : w.grownBy x r1) (hr : r' = r1 ∨ r' = some w.heap.size) : FamW x r' r2 vs us ks :=
  ⟨h.1, h.2.1, fun i k hk => by
    obtain ⟨a, c, q1, q2, q3, q4, q5⟩ := h.2.2 i k hk
    refine ⟨a, c, q1, q2, q3.apart hg (fun _ => q4), fun z hz => ?_, q5⟩
    rcases hr with rfl | rfl
    · exact q4 z hz
    · have := q3.block_lt (by omega) z hz
      intro e; injection e with e; omega⟩
theorem FamW.step2 (h : FamW w r1 r2 vs us ks) (hg : w.grownBy x r2) (hr : r' = r2 ∨ r' = some w.heap.size) : FamW x r1 r' vs us ks :=
  ⟨h.1, h.2.1, fun i k hk => by
    obtain ⟨a, c, q1, q2, q3, q4, q5⟩ := h.2.2 i k hk
    refine ⟨a, c, q1, q2, q3.apart hg (fun _ => q5), q4, fun z hz => ?_⟩
    rcases hr with rfl | rfl
    · exact q5 z hz
    · have := q3.block_lt (by omega) z hz
      intro e; injection e with e; omega⟩
theorem FamW.snoc (h : FamW w r1 r2 vs us ks) {a : Option Addr} {c n : Nat} {k : List UInt8} (hn : k.length = n) (hs : Sl w a (n + 5) c (k ++ mkB)) (h1 : ∀ x, a = some x → some x.block ≠ r1) (h2 : ∀ x, a = some x → some x.block ≠ r2) : FamW w r1 r2 (vs ++ [.slice a (n + 5) c]) (us ++ [.slice a n c]) (ks ++ [k]) := by
  subst hn
  refine ⟨by simp [h.1], by simp [h.2.1], fun i q hq => ?_⟩
  rw [List.getElem?_append] at hq ⊢
  rw [List.getElem?_append, h.1, h.2.1]
  split at hq
  · rename_i hi
    rw [if_pos hi, if_pos hi]; exact h.2.2 i q hq
  · rename_i hi
    rw [if_neg hi, if_neg hi]
    have h0 : i - ks.length = 0 := by
      have := (List.getElem?_eq_some_iff.1 hq).1
      simp at this; omega
    rw [h0] at hq ⊢
    injection hq with hq; subst hq
    exact ⟨a, c, rfl, rfl, hs, h1, h2⟩
theorem FamW.kv (h : FamW w r1 r2 vs us ks) : KV w w.heap.size us ks :=
  ⟨h.2.1, fun i k hk => by
    obtain ⟨a, c, _, q2, q3, _⟩ := h.2.2 i k hk
    have := q3.take (m := k.length) (by omega)
    rw [List.take_left' rfl] at this
    exact ⟨a, c, q2, this.cap, this.lim, this.nil, this.rb⟩⟩
end
/-- One round: a list is laid with its marks, and both rows take it. -/
theorem builds_step {T e : TypeId} {B0 k q c2 : Nat} {wr w2 w3 w4 : World} {v v3 u u4 : Value} {vs us : List Value} {ks : List (List UInt8)} {p RP : List UInt8} {A2 : Option Addr}
    (hp : ks[k]? = some p) (hRP : RP = p ++ mkB) (hq : q = p.length) (hov : wr.ownsRow B0 e 1 v k vs) (hou : wr.ownsRow B0 e 1 u k us) (hne : ∀ g, v.ownBlock = some g → u.ownBlock ≠ some g)
    (hf : FamW wr v.ownBlock u.ownBlock vs us (ks.take k)) (hb2 : Below wr.heap.size wr w2) (hs2 : Sl w2 A2 (q + 5) c2 RP) (ho2 : OwnB T wr.heap.size w2 A2 c2 RP)
    (ho3 : w3.ownsRow B0 e 1 v3 (k + 1) (vs ++ [.slice A2 (q + 5) c2])) (hg3 : (w2.alloc (.cells #[.slice A2 (q + 5) c2] e)).grownBy w3 v.ownBlock) (ha3 : v3.ownBlock = v.ownBlock ∨ v3.ownBlock = some (w2.alloc (.cells #[.slice A2 (q + 5) c2] e)).heap.size)
    (hg4 : (w3.alloc (.cells #[.slice A2 q c2] e)).grownBy w4 u.ownBlock) (ha4 : u4.ownBlock = u.ownBlock ∨ u4.ownBlock = some (w3.alloc (.cells #[.slice A2 q c2] e)).heap.size) (hle : B0 ≤ wr.heap.size) :
    w4.ownsRow B0 e 1 v3 (k + 1) (vs ++ [.slice A2 (q + 5) c2]) ∧ (∀ g, v3.ownBlock = some g → u4.ownBlock ≠ some g) ∧ FamW w4 v3.ownBlock u4.ownBlock (vs ++ [.slice A2 (q + 5) c2]) (us ++ [.slice A2 q c2]) (ks.take (k + 1)) ∧ Below B0 wr w4 := by
  subst hq; subst hRP
  have hal : Below wr.heap.size wr (w2.alloc (.cells #[.slice A2 (p.length + 5) c2] e)) := hb2.alloc hb2.size _
  have hvl := own_row_lt hov
  have hul := own_row_lt hou
  have hf1 := (hf.later hal).snoc (n := p.length) rfl (hs2.later ((Below.refl _ _).alloc (Nat.le_refl _) (.cells #[.slice A2 (p.length + 5) c2] e))) (ho2.far hvl) (ho2.far hul)
  have hf2 := hf1.step1 hg3 ha3
  have hf3 := (hf2.later ((Below.refl w3.heap.size w3).alloc (Nat.le_refl _) (.cells #[.slice A2 p.length c2] e))).step2 hg4 ha4
  have hv3u : ∀ g, v3.ownBlock = some g → u.ownBlock ≠ some g := by
    intro g hg hu
    rcases ha3 with h | h
    · exact hne g (h ▸ hg) hu
    · rw [h] at hg; injection hg with hg
      have h1 := hul g hu
      have h2 := hal.size
      omega
  refine ⟨own_chg (ho3.alloc _) (grown_chg hg4) fun g hg hu => hv3u g hg hu, fun g hg hu => ?_, ?_, ?_⟩
  · rcases ha4 with h | h
    · exact hv3u g hg (h ▸ hu)
    · rw [h] at hu; injection hu with hu
      have := own_row_lt ho3 g hg
      simp at hu; omega
  · rw [take_snoc hp]; exact hf3
  · have b1 : Below B0 wr w3 := (hal.mono hle).grown hg3 (Nat.le_trans hle hal.size) fun g hg => (World.ownsRow.lt hov g hg).1
    have b2 : Below B0 wr (w3.alloc (.cells #[.slice A2 p.length c2] e)) := b1.alloc (Nat.le_trans hle b1.size) _
    exact b2.grown hg4 (Nat.le_trans hle b2.size) fun g hg => (World.ownsRow.lt hou g hg).1
/-- Behind the last append: the cut lists and one more. -/
def BuildsEnd (w1 wr w4 : World) (v v4 : Value) (k : Nat) (vs : List Value) (ks : List (List UInt8)) (e : TypeId) : Prop :=
  ∃ (A4 : Option Addr) (c4 : Nat) (xs : List Value), v4 = Value.slice A4 (k + 1) c4 ∧ Reads w4 w4.heap.size 1 A4 (k + 1) xs ∧ k + 1 ≤ c4 ∧ c4 ≤ 9223372036854775807 ∧ Below w1.heap.size wr w4 ∧ w4.ownsRow w1.heap.size e 1 v k vs ∧
    (∀ (i : Nat) (p : List UInt8), ks[i]? = some p → ∃ (a : Option Addr) (c : Nat), vs[i]? = some (Value.slice a (p.length + 5) c) ∧ xs[i]? = some (Value.slice a p.length c) ∧ Sl w4 a (p.length + 5) c (p ++ mkB)) ∧ (∃ a : Option Addr, xs[k]? = some (Value.slice a 1 1)) ∧ RBs w4 w4.heap.size A4 k ks
theorem builds_end {T e : TypeId} {k : Nat} {w1 wr w4 : World} {v u v4 : Value} {vs us : List Value} {ks : List (List UInt8)} (hk : ks.length = k) (hov : wr.ownsRow w1.heap.size e 1 v k vs) (hou : wr.ownsRow w1.heap.size e 1 u k us) (hne : ∀ g, v.ownBlock = some g → u.ownBlock ≠ some g)
    (hf : FamW wr v.ownBlock u.ownBlock vs us ks) (hown : w4.ownsRow w1.heap.size e 1 v4 (k + 1) (us ++ [.slice (some ⟨wr.heap.size, 0, none⟩) 1 1]))
    (hg : ((wr.alloc (.cells #[.int .u8 77] T)).alloc (.cells #[.slice (some ⟨wr.heap.size, 0, none⟩) 1 1] e)).grownBy w4 u.ownBlock) (hat : v4.ownBlock = u.ownBlock ∨ v4.ownBlock = some ((wr.alloc (.cells #[.int .u8 77] T)).alloc (.cells #[.slice (some ⟨wr.heap.size, 0, none⟩) 1 1] e)).heap.size) (hle : w1.heap.size ≤ wr.heap.size) :
    BuildsEnd w1 wr w4 v v4 k vs ks e := by
  have hb2 : Below wr.heap.size wr ((wr.alloc (.cells #[.int .u8 77] T)).alloc (.cells #[.slice (some ⟨wr.heap.size, 0, none⟩) 1 1] e)) := ((Below.refl _ _).alloc (Nat.le_refl _) _).alloc (by simp) _
  have hbw : Below w1.heap.size wr w4 := (hb2.mono hle).grown hg (Nat.le_trans hle hb2.size) (fun g hg => (World.ownsRow.lt hou g hg).1)
  have hf2 := (hf.later hb2).step2 hg hat
  obtain ⟨A4, c4, e4, hl1, hl2, _, hrl⟩ := own_slice hown
  have hul : us.length = k := by rw [hf.2.1, hk]
  refine ⟨A4, c4, _, e4, hrl, hl1, hl2, hbw, own_chg (own_below hov hb2) (grown_chg hg) fun g hg hu => hne g hg hu, fun i p hp => ?_, ⟨some ⟨wr.heap.size, 0, none⟩, ?_⟩, ?_⟩
  · obtain ⟨a, c, q1, q2, q3, _⟩ := hf2.2.2 i p hp
    refine ⟨a, c, q1, ?_, q3⟩
    rw [List.getElem?_append_left (by have := (List.getElem?_eq_some_iff.1 q2).1; exact this)]
    exact q2
  · rw [List.getElem?_append_right (by omega), hul, Nat.sub_self]; rfl
  · have h := hrl.take1 (m := k) (by omega)
    rw [List.take_left' hul] at h
    exact hf2.kv.rbs h

theorem flat_take_leB (ks : List (List UInt8)) (k : Nat) : (ks.take k).flatten.length ≤ ks.flatten.length := by
  have e := congrArg List.length (congrArg List.flatten (List.take_append_drop k ks))
  rw [List.flatten_append, List.length_append] at e
  omega
theorem flat_at_leB {ks : List (List UInt8)} {k : Nat} {x : List UInt8} (h : ks[k]? = some x) : x.length ≤ ks.flatten.length := by
  have := flat_take_leB ks (k + 1)
  have e : ([x] : List (List UInt8)).flatten = x := by simp
  rw [take_snoc h, List.flatten_append, List.length_append, e] at this
  omega
theorem keys_lie {w : World} {A : Option Addr} {n : Nat} {ks : List (List UInt8)} (h : RBs w w.heap.size A n ks) : ∀ k, k < n → ∃ b o p a c, A = some ⟨b, o, none⟩ ∧ ks[k]? = some p ∧ ∀ w', Below w.heap.size w w' → w'.cell? ⟨b, o + k, none⟩ = some (.slice a p.length c) ∧ Sl w' a p.length c p := fun k hk => by
  obtain ⟨b, o, p, a, c, e, hb, hp, hc, h1, h2, h3, h4⟩ := h.at_ hk
  exact ⟨b, o, p, a, c, e, hp, fun w' hb' => ⟨(hb'.cell (p := ⟨b, o + k, none⟩) hb).trans hc, (Sl.mk h4 h1 h2 h3).later hb'⟩⟩
theorem keep4B {w x y : World} {p q r s : Addr} {u v t z : Value} (h : x.cell? p = some u ∧ x.cell? q = some v ∧ x.cell? r = some t ∧ x.cell? s = some z ∧ Below w.heap.size w x) (hb : Below x.heap.size x y) : y.cell? p = some u ∧ y.cell? q = some v ∧ y.cell? r = some t ∧ y.cell? s = some z ∧ Below w.heap.size w y :=
  ⟨(hb.cell (World.block_lt_of_cell? x p h.1)).trans h.1, (hb.cell (World.block_lt_of_cell? x q h.2.1)).trans h.2.1, (hb.cell (World.block_lt_of_cell? x r h.2.2.1)).trans h.2.2.1, (hb.cell (World.block_lt_of_cell? x s h.2.2.2.1)).trans h.2.2.2.1, h.2.2.2.2.trans (hb.mono h.2.2.2.2.size)⟩
theorem builds_mid {e : TypeId} {B0 k : Nat} {wr w2 w3 : World} {v : Value} {vs : List Value} {o : Obj} (hov : wr.ownsRow B0 e 1 v k vs) (hb2 : Below wr.heap.size wr w2) (hg3 : (w2.alloc o).grownBy w3 v.ownBlock) (hle : B0 ≤ wr.heap.size) : Below B0 wr w3 :=
  ((hb2.mono hle).alloc (Nat.le_trans hle hb2.size) o).grown hg3 (by have := hb2.size; simp; omega) fun g hg => (World.ownsRow.lt hov g hg).1
theorem builds_other {e : TypeId} {B0 k : Nat} {wr w2 w3 : World} {v u : Value} {us : List Value} {o : Obj} (hou : wr.ownsRow B0 e 1 u k us) (hne : ∀ g, v.ownBlock = some g → u.ownBlock ≠ some g) (hb2 : Below wr.heap.size wr w2) (hg3 : (w2.alloc o).grownBy w3 v.ownBlock) : w3.ownsRow B0 e 1 u k us :=
  own_chg ((own_below hou hb2).alloc _) (grown_chg hg3) fun g hg hu => hne g hu hg
/-- What the second loop needs of the rows. -/
theorem builds_lie {w1 wr w4 : World} {v v4 : Value} {k : Nat} {vs : List Value} {ks : List (List UInt8)} {e : TypeId} (h : BuildsEnd w1 wr w4 v v4 k vs ks e) (hl : ks.length = k) : ∃ (b4 o4 c4 : Nat) (VA : Option Addr) (vc : Nat), v4 = .slice (some ⟨b4, o4, none⟩) (k + 1) c4 ∧ v = .slice VA k vc ∧ k + 1 ≤ c4 ∧ c4 ≤ 9223372036854775807 ∧ Below w1.heap.size wr w4 ∧ RBs w4 w4.heap.size (some ⟨b4, o4, none⟩) k ks ∧
    (∃ a7, ∀ x, Below w4.heap.size w4 x → x.cell? ⟨b4, o4 + k, none⟩ = some (.slice a7 1 1)) ∧
    (∀ j, j < k → ∃ b5 o5 p a c, VA = some ⟨b5, o5, none⟩ ∧ ks[j]? = some p ∧ ∀ x, Below w4.heap.size w4 x → x.cell? ⟨b5, o5 + j, none⟩ = some (.slice a (p.length + 5) c) ∧ x.cell? ⟨b4, o4 + j, none⟩ = some (.slice a p.length c) ∧ Sl x a (p.length + 5) c (p ++ mkB)) := by
  obtain ⟨A4, c4, xs, rfl, hrl, h1, h2, hb, hov, hx, ⟨a7, h7⟩, hrb⟩ := h
  obtain ⟨b4, o4, rfl, hlt4, hc4⟩ := hrl.2 (by omega)
  obtain ⟨VA, vc, rfl, _, _, _, hrv⟩ := own_slice hov
  have hc : ∀ x, Below w4.heap.size w4 x → ∀ (j : Nat) (u : Value), xs[j]? = some u → x.cell? ⟨b4, o4 + j, none⟩ = some u := fun x hx j u hu => (hx.cell (p := ⟨b4, o4 + j, none⟩) hlt4).trans (hc4 j u hu)
  refine ⟨b4, o4, c4, VA, vc, rfl, rfl, h1, h2, hb, hrb, ⟨a7, fun x hx => hc x hx _ _ h7⟩, fun j hj => ?_⟩
  have hp : ks[j]? = some (ks[j]'(by omega)) := List.getElem?_eq_getElem (by omega)
  obtain ⟨a, c, q1, q2, q3⟩ := hx j _ hp
  obtain ⟨b5, o5, rfl, hlt5, hc5⟩ := hrv.2 (by omega)
  exact ⟨b5, o5, _, a, c, rfl, hp, fun x hx => ⟨(hx.cell (p := ⟨b5, o5 + j, none⟩) hlt5).trans (hc5 j _ q1), hc x hx _ _ q2, q3.later hx⟩⟩

set_option maxRecDepth 100000 in
set_option maxHeartbeats 8000000 in
theorem builds_any (N : Int) (ks : List (List UInt8)) (KA A G : Option Addr) (kn kc n c m d : Nat) (w : World) (hk : RBs w w.heap.size KA kn ks) (hkn : kn ≤ 1048576) (hkb : ks.flatten.length ≤ 1048576) :
    Calls Try.prog 44 #[.agg #[.int .i64 1, .int .i64 N, .slice KA kn kc, .slice A n c, .slice G m d]] w fun e w' => e = .returned (.bool true) ∧ Below w.heap.size w w' := by
  have HB0 := Lib.hid ((Below.refl w.heap.size w).alloc (Nat.le_refl _) (.cells #[.int .i64 1, .int .i64 N, .slice KA kn kc, .slice A n c, .slice G m d] 45))
  have HX := box5 w #[.int .i64 1, .int .i64 N, .slice KA kn kc, .slice A n c, .slice G m d] 45 _ _ _ _ _ rfl
  have HK : Hid (∀ w', Below w.heap.size w w' → RBs w' w'.heap.size KA kn ks) := Lib.hid fun w' h => hk.later h
  have HKC := Lib.hid (keys_lie hk)
  have HKL := Lib.hid hk.len
  have HKB : Hid (∀ (k : Nat) (x : List UInt8), ks[k]? = some x → x.length ≤ 1048576) := Lib.hid fun k x h => Nat.le_trans (flat_at_leB h) hkb
  obtain ⟨gb, hgb⟩ : ∃ g, g = w.heap.size := ⟨_, rfl⟩
  clear hk hkb
  go_enter Try.func44, Try.ntmps44
  go_wp2_with fail
  have HX1 := Lib.hid (fun x (h : Below (w.alloc (.cells #[.int .i64 1, .int .i64 N, .slice KA kn kc, .slice A n c, .slice G m d] 45)).heap.size (w.alloc (.cells #[.int .i64 1, .int .i64 N, .slice KA kn kc, .slice A n c, .slice G m d] 45)) x) => HX.out x h)
  rw [← hgb] at HX1 ⊢
  generalize hw1 : w.alloc _ = w1 at *
  clear hw1 hgb HX
  go_loopw [3, 4, 5] (fun u v i wr => ∃ (k : Nat) (vs us : List Value), k ≤ kn ∧ i = .int .i64 k ∧ wr.ownsRow w1.heap.size 24 1 v k vs ∧ wr.ownsRow w1.heap.size 24 1 u k us ∧ Hid (∀ g, v.ownBlock = some g → u.ownBlock ≠ some g) ∧ Hid (FamW wr v.ownBlock u.ownBlock vs us (ks.take k)) ∧ Hid (Below w1.heap.size w1 wr)) (fun _ _ i _ => kn - (intOf i).toNat)
  case atStart => exact ⟨0, [], [], Nat.zero_le _, rfl, own_nil _ _ _ _, own_nil _ _ _ _, Lib.hid (fun g hg => by cases hg), Lib.hid (by rw [List.take_zero]; exact FamW.nil), Lib.hid (Below.refl _ _)⟩
  case round =>
    obtain ⟨k, vs, us, hk, rfl, hownv, hownu, HNE, HF, HW⟩ := hrel
    obtain ⟨x0, x1, x2, x3, x4⟩ := HX1.out wr HW.out
    have HBW := Lib.hid (HB0.out.trans (HW.out.mono HB0.out.size))
    obtain ⟨v, hv⟩ : ∃ v, v = u4 := ⟨_, rfl⟩
    obtain ⟨u, hu⟩ : ∃ v, v = u3 := ⟨_, rfl⟩
    rw [← hv] at hownv HNE HF ⊢
    rw [← hu] at hownu HNE HF ⊢
    have HOV := Lib.hid hownv
    have HOU := Lib.hid hownu
    clear hv hu hownv hownu
    by_cases hlt : k < kn
    case neg =>
      obtain rfl : k = kn := by omega
      have hF0 := HF.out
      rw [take_all (by have := HKL.out; omega)] at hF0
      have HF0 := Lib.hid hF0
      have tok1 : True := trivial
      obtain ⟨E, hE⟩ : ∃ E, E = buildE N ks := ⟨_, rfl⟩
      obtain ⟨U, hU⟩ : ∃ U, U = bres N ks := ⟨_, rfl⟩
      obtain ⟨L, hL⟩ : ∃ L, L = U.length := ⟨_, rfl⟩
      have XE := Lib.hid hE
      have XU := Lib.hid hU
      have XL := Lib.hid hL
      have XS : Hid ((U == U) = true) := Lib.hid (by simp)
      have q2 : ((E : Int) == (E : Int)) = true := by simp
      clear hF0 HF hE hU hL
      go_upto_region 9 with (first
        | (at_builtin; go_must (refine wpList_append_reads _ rfl (.tmp 41) (.tmp 43) rfl Try.keyss w1.heap.size u k us rfl ((HOU.out.alloc _).alloc _) (wr.heap.size + 1 + 1) (some ⟨wr.heap.size + 1, 0, none⟩) 1 1 [.slice (some ⟨wr.heap.size, 0, none⟩) 1 1] rfl (lit_one8 _ _ _ _ (by simp)) (by simp [Value.oneCell']) (by unfold maxLen; omega) (by omega) (by have := HW.out.size; simp; omega) ?_); intro v4 w4 hown4 hg4 hat4; have HA := builds_lie (builds_end HKL.out HOV.out HOU.out HNE.out HF0.out hown4 hg4 hat4 HW.out.size) HKL.out; obtain ⟨b4, o4, c4, VA, vc, rfl, rfl, hl1, hl2, hb4, hrb, ⟨a7, h7⟩, hlie⟩ := HA; have HB4 := Lib.hid (HW.out.trans hb4); have HRB := Lib.hid hrb; have H7 := Lib.hid h7; have HLIE := Lib.hid hlie; obtain ⟨y0, y1, y2, y3, y4⟩ := HX1.out w4 HB4.out; clear hown4 hg4 hat4 hb4 hrb h7 hlie x0 x1 x2 x3 x4))
      have hk4 : (k : Int) ≤ (c4 : Int) := by omega
      have HXX := Lib.hid (fun x (h : Below w4.heap.size w4 x) => HX1.out x (HB4.out.trans (h.mono HB4.out.size)))
      have HBX := Lib.hid (fun x (h : Below w4.heap.size w4 x) => HB0.out.trans ((HB4.out.trans (h.mono HB4.out.size)).mono HB0.out.size))
      clear HOV HOU HNE HF0 HBW HW
      go_region_held3 (fun w' => w'.cell? ⟨gb, 1, none⟩ = some (.int .i64 N) ∧ w'.cell? ⟨gb, 2, none⟩ = some (.slice KA k kc) ∧ Below w4.heap.size w4 w') (first | assumption | exact ⟨y1, y2, (Below.refl _ _).drew⟩ | exact keep2B ‹_› hb5) (first
        | (go_at_call 13; refine (build_any N ks (some ⟨b4, o4, none⟩) k c4 _ (by omega) (HRB.out.later (And.right (And.right ‹_ ∧ _ ∧ Below w4.heap.size w4 _›)))).mono ?_; rintro e w5 hp; have hp := build_post hp; rw [← XE.out, ← XU.out] at hp; obtain ⟨A5, c5, rfl, hS5, _, hb5⟩ := hp.at_ XL.out.symm rfl))
      all_goals
        obtain ⟨t1, t2, hbz⟩ := ‹_ ∧ _ ∧ Below w4.heap.size w4 w5›
        have HBZ := Lib.hid hbz
        have HS5 := Lib.hid hS5
        clear hbz hS5 y0 y1 y2 y3 y4
        go_wp2_with (first
          | (go_at_call 26; go_must (refine (rbuild_any N ks KA k kc _ (by omega) (HK.out _ (HBX.out _ HBZ.out))).mono ?_); rintro e w6 hp; rw [← XE.out, ← XU.out] at hp; obtain ⟨A6, c6, rfl, hS6, _, hb6⟩ := hp.at_ XL.out.symm rfl; have HB6 := Lib.hid (HBZ.out.trans (hb6.mono HBZ.out.size)); have HS6 := Lib.hid hS6; have HR6 := Lib.hid (HS5.out.later hb6); have h7 := H7.out w6 HB6.out; obtain ⟨v0, v1, v2, v3, v4⟩ := HXX.out w6 HB6.out; clear hb6 hS6 hp t1 t2)
          | (go_at_call 15; go_must (refine (alike_any U U A5 A6 L c5 L c6 _ HR6.out.rb HS6.out.rb).mono ?_); rw [XS.out]; rintro e wn ⟨rfl, rfl⟩)
          | (go_at_call 14; refine (num_any _ _).mono ?_; rintro e wn ⟨rfl, rfl⟩))
        clear HS5 HS6 HR6 h7 v0 v1 v2 v3 v4
        go_loopw [11, 12] (fun s i wr => s = .bool true ∧ ∃ j : Nat, j ≤ k ∧ i = .int .i64 j ∧ Hid (Below w4.heap.size w4 wr)) (fun _ i _ => k - (intOf i).toNat)
        case atStart => exact ⟨rfl, 0, Nat.zero_le _, rfl, HB6⟩
        case round =>
          obtain ⟨rfl, j, hj, rfl, HW⟩ := hrel
          obtain ⟨x0, x1, x2, x3, x4⟩ := HXX.out wr HW.out
          by_cases hlt : j < k
          case neg =>
            go_wp2_with fail
            go_ret
            exact ⟨rfl, HBX.out wr HW.out⟩
          obtain ⟨b, o, p, a, cp, rfl, hp, hcc⟩ := HKC.out j hlt
          obtain ⟨b5, o5, p', a', c', rfl, hp', hll⟩ := HLIE.out j hlt
          obtain rfl : p = p' := by rw [hp] at hp'; injection hp'
          have hpl := HKB.out j p hp
          obtain ⟨q, hq⟩ : ∃ q, q = p.length := ⟨_, rfl⟩
          obtain ⟨RP, hRP⟩ : ∃ R, R = p ++ mkB := ⟨_, rfl⟩
          have XRP := Lib.hid hRP
          have XQ := Lib.hid hq
          have XS : Hid ((p == p) = true) := Lib.hid (by simp)
          rw [← hq] at hcc hpl hll
          rw [← hRP] at hll
          have hcp := (hcc wr (HBX.out wr HW.out)).1
          have hci := (hll wr HW.out).2.1
          have hcw := (hll wr HW.out).1
          have HSL : Hid (∀ x, Below wr.heap.size wr x → Sl x a' (q + 5) c' RP ∧ Sl x a q cp p ∧ Sl x a' q c' p) := Lib.hid fun x hx => by
            have h1 := (hll wr HW.out).2.2
            exact ⟨h1.later hx, (hcc wr (HBX.out wr HW.out)).2.later hx, wide_cut h1 hq.symm hRP hx⟩
          have hj1 : (j : Int) < (k : Int) + 1 := by omega
          have hj2 : (j : Int) < (k : Int) := by omega
          have hj3 : (0 : Int) ≤ (j : Int) := by omega
          have hj4 : j < k + 1 := by omega
          clear hq hRP hcc hll hp hp'
          go_wp2_with fail
          go_region_held3 (fun w' => w'.cell? ⟨gb, 2, none⟩ = some (.slice (some ⟨b, o, none⟩) k kc) ∧ w'.cell? ⟨b, o + j, none⟩ = some (.slice a q cp) ∧ w'.cell? ⟨b4, o4 + j, none⟩ = some (.slice a' q c') ∧ w'.cell? ⟨b5, o5 + j, none⟩ = some (.slice a' (q + 5) c') ∧ Below wr.heap.size wr w') (first | assumption | exact ⟨x2, hcp, hci, hcw, (Below.refl _ _).drew⟩ | exact keep4B ‹_› hb8) (first
            | (go_at_call 31; refine (kept_any p RP a' a q c' cp _ XRP.out (HSL.out _ (And.right (And.right (And.right (And.right ‹_ ∧ _ ∧ _ ∧ _ ∧ Below wr.heap.size wr _›))))).1 (HSL.out _ (And.right (And.right (And.right (And.right ‹_ ∧ _ ∧ _ ∧ _ ∧ Below wr.heap.size wr _›))))).2.1 (by omega)).mono ?_; rintro e w8 ⟨rfl, hb8⟩)
            | (go_at_call 15; refine (alike_any p p a' a q c' q cp _ (HSL.out _ (And.right (And.right (And.right (And.right ‹_ ∧ _ ∧ _ ∧ _ ∧ Below wr.heap.size wr _›))))).2.2.rb (HSL.out _ (And.right (And.right (And.right (And.right ‹_ ∧ _ ∧ _ ∧ _ ∧ Below wr.heap.size wr _›))))).2.1.rb).mono ?_; rw [XS.out]; rintro e wn ⟨rfl, rfl⟩))
          all_goals
            have HB9 := Lib.hid (And.right (And.right (And.right (And.right ‹_ ∧ _ ∧ _ ∧ _ ∧ Below wr.heap.size wr _›))))
            go_wp2_with fail
            go_roundw
            case rel => exact ⟨rfl, j + 1, by omega, by go_num, Lib.hid (HW.out.trans (HB9.out.mono HW.out.size))⟩
            case measure => simp [intOf]; omega
    obtain ⟨b, o, p, a, cp, rfl, hp, hcc⟩ := HKC.out k hlt
    have hpl := HKB.out k p hp
    obtain ⟨q, hq⟩ : ∃ q, q = p.length := ⟨_, rfl⟩
    obtain ⟨RP, hRP⟩ : ∃ R, R = p ++ mkB := ⟨_, rfl⟩
    have XRP := Lib.hid hRP
    have XQ := Lib.hid hq
    have XPL : Hid (RP.length = q + 5) := Lib.hid (by rw [hRP, List.length_append, hq]; rfl)
    rw [← hq] at hcc hpl
    have HCC := Lib.hid hcc
    have HKP := Lib.hid hp
    have hcp := (HCC.out wr HBW.out).1
    have tok1 : True := trivial
    clear hq hRP hcc hp
    go_wp2_with (first
      | (go_at_call 25; go_must (refine (wide_any p a q cp _ (by omega) (HCC.out wr HBW.out).2.rb).mono ?_); rintro e w2 hz; rw [← XRP.out] at hz; obtain ⟨A2, c2, rfl, hS2, hO2, hb2⟩ := hz.at_ XPL.out; have HB2 := Lib.hid hb2; have HS2 := Lib.hid hS2; have HO2 := Lib.hid hO2; have HBW2 := Lib.hid (HBW.out.trans (hb2.mono HBW.out.size)); have hcp2 := (HCC.out w2 HBW2.out).1; have hc2 := hS2.cap; obtain ⟨y0, y1, y2, y3, y4⟩ := HX1.out w2 (HW.out.trans (hb2.mono HW.out.size)); clear hz hS2 hO2 hb2 hcp x0 x1 x2 x3 x4)
      | (at_builtin; have _t := tok1; go_must (refine wpList_append_reads _ rfl (.tmp 26) (.tmp 28) rfl Try.keyss w1.heap.size v k vs rfl ((own_below HOV.out HB2.out).alloc _) (w2.heap.size + 1) (some ⟨w2.heap.size, 0, none⟩) 1 1 [.slice A2 (q + 5) c2] rfl (lit_one8 _ _ _ _ rfl) (by simp [Value.oneCell']) (by unfold maxLen; omega) (by omega) (by have := HW.out.size; have := HB2.out.size; simp; omega) ?_); intro v3 w3 hown3 hg3 hat3; clear tok1; have HO3 := Lib.hid hown3; have HG3 := Lib.hid hg3; have HA3 := Lib.hid hat3; have HB3 := Lib.hid (HW.out.trans (builds_mid HOV.out HB2.out hg3 HW.out.size)); have HU3 := Lib.hid (builds_other HOU.out HNE.out HB2.out hg3); have HBW3 := Lib.hid (HB0.out.trans (HB3.out.mono HB0.out.size)); have hcp3 := (HCC.out w3 HBW3.out).1; obtain ⟨z0, z1, z2, z3, z4⟩ := HX1.out w3 HB3.out; clear hown3 hg3 hat3 hcp2 y0 y1 y2 y3 y4)
      | (at_builtin; go_must (refine wpList_append_reads _ rfl (.tmp 30) (.tmp 39) rfl Try.keyss w1.heap.size u k us rfl (HU3.out.alloc _) (w3.heap.size + 1) (some ⟨w3.heap.size, 0, none⟩) 1 1 [.slice A2 q c2] rfl (lit_one8 _ _ _ _ rfl) (by simp [Value.oneCell']) (by unfold maxLen; omega) (by omega) (by have := HB3.out.size; simp; omega) ?_); intro u4 w4 hown4 hg4 hat4; have HST := Lib.hid (builds_step HKP.out XRP.out XQ.out HOV.out HOU.out HNE.out HF.out HB2.out HS2.out HO2.out HO3.out HG3.out HA3.out hg4 hat4 HW.out.size); have HO4 := Lib.hid hown4; clear hown4 hg4 hat4))
    have hov := HST.out.1
    have hou := HO4.out
    clear HO4
    go_roundw
    case rel => exact ⟨k + 1, _, _, by omega, by go_num, hov, hou, Lib.hid HST.out.2.1, Lib.hid HST.out.2.2.1, Lib.hid (HW.out.trans HST.out.2.2.2)⟩
    case measure => simp [intOf]; omega
end Go.Proofs.Ythjjihipodhkiaa

/-
  For BloomLent: two lists of the same rows, the rows changed in place between calls.
-/
namespace Go.Proofs.Ythjjihipodhkiaa
open Go.RowKit

/-- A row's slice without the marks; a row's shape. -/
def cutR (r : Option Addr × Nat × List UInt8) : Value := .slice r.1 (r.2.2.length - 5) r.2.1
def shpR (r : Option Addr × Nat × List UInt8) : Option Addr × Nat × Nat := (r.1, r.2.1, r.2.2.length)
structure LnS (T e : TypeId) (B : Nat) (w : World) (lv wv : Value) (nl nw : Nat) (xs ys : List Value) (zs : RowL) : Prop where
  rows : RowsB T B w zs
  ol : w.ownsRow B e 1 lv nl xs
  ow : w.ownsRow B e 1 wv nw ys
  al : Off lv zs
  aw : Off wv zs
  ne : ∀ g, lv.ownBlock = some g → wv.ownBlock ≠ some g
  le : B ≤ w.heap.size
section
variable {T e : TypeId} {B nl nw : Nat} {w x : World} {lv wv v' : Value} {xs ys us : List Value} {zs : RowL}
theorem LnS.nil (h : B ≤ w.heap.size) : LnS T e B w (.slice none 0 0) (.slice none 0 0) 0 0 [] [] [] :=
  ⟨RowsB.nil, own_nil _ _ _ _, own_nil _ _ _ _, fun g hg => (by cases hg), fun g hg => (by cases hg), fun g hg => (by cases hg), h⟩
theorem LnS.later (h : LnS T e B w lv wv nl nw xs ys zs) (hb : Below w.heap.size w x) : LnS T e B x lv wv nl nw xs ys zs :=
  ⟨h.rows.later hb, own_below h.ol hb, own_below h.ow hb, h.al, h.aw, h.ne, Nat.le_trans h.le hb.size⟩
theorem LnS.fresh (h : LnS T e B w lv wv nl nw xs ys zs) (hb : Below w.heap.size w x) {A : Option Addr} {c : Nat} {l : List UInt8} (ho : OwnB T w.heap.size x A c l) : LnS T e B x lv wv nl nw xs ys (zs ++ [(A, c, l)]) := by
  have h' := h.later hb
  exact ⟨h.rows.fresh hb ho h.le, h'.ol, h'.ow, off_snoc h.al (own_row_lt h.ol) ho, off_snoc h.aw (own_row_lt h.ow) ho, h.ne, h'.le⟩
theorem LnS.appW (h : LnS T e B w lv wv nl nw xs ys zs) {o : Obj} {m : Nat} (ho : x.ownsRow B e 1 v' (nw + m) (ys ++ us)) (hg : (w.alloc o).grownBy x wv.ownBlock) (hat : v'.ownBlock = wv.ownBlock ∨ v'.ownBlock = some (w.alloc o).heap.size) : LnS T e B x lv v' nl (nw + m) xs (ys ++ us) zs := by
  have ha := h.later ((Below.refl _ _).alloc (Nat.le_refl _) o)
  refine ⟨rows_grown ha.rows ha.aw hg, own_chg ha.ol (grown_chg hg) fun g hg hu => ha.ne g hg hu, ho, ha.al, off_grown ha.aw hat ha.rows, fun g hg hu => ?_, Nat.le_trans ha.le hg.size⟩
  rcases hat with e' | e'
  · exact ha.ne g hg (e' ▸ hu)
  · rw [e'] at hu; injection hu with hu
    have := own_row_lt ha.ol g hg
    omega
theorem LnS.appL (h : LnS T e B w lv wv nl nw xs ys zs) {o : Obj} {m : Nat} (ho : x.ownsRow B e 1 v' (nl + m) (xs ++ us)) (hg : (w.alloc o).grownBy x lv.ownBlock) (hat : v'.ownBlock = lv.ownBlock ∨ v'.ownBlock = some (w.alloc o).heap.size) : LnS T e B x v' wv (nl + m) nw (xs ++ us) ys zs := by
  have ha := h.later ((Below.refl _ _).alloc (Nat.le_refl _) o)
  refine ⟨rows_grown ha.rows ha.al hg, ho, own_chg ha.ow (grown_chg hg) fun g hg hu => ha.ne g hu hg, off_grown ha.al hat ha.rows, ha.aw, fun g hg hu => ?_, Nat.le_trans ha.le hg.size⟩
  rcases hat with e' | e'
  · exact ha.ne g (e' ▸ hg) hu
  · rw [e'] at hg; injection hg with hg
    have := own_row_lt ha.ow g hu
    omega
end

/-- The rows as they stand between two calls. -/
structure StB (T : TypeId) (B : Nat) (w5 : World) (lv wv : Value) (zs0 : RowL) (w : World) (zs : RowL) (qs : List (List UInt8)) : Prop where
  rows : RowsB T B w zs
  shp : zs.map shpR = zs0.map shpR
  cont : zs.map (·.2.2) = qs.map (· ++ mkB)
  chg : Chg (fun b => lv.ownBlock ≠ some b ∧ wv.ownBlock ≠ some b) w5 w
  bel : Below B w5 w
section
variable {T e : TypeId} {B : Nat} {w5 w x : World} {lv wv : Value} {zs0 zs : RowL} {qs : List (List UInt8)}
theorem mkB_len : mkB.length = 5 := rfl
theorem StB.at_ (h : StB T B w5 lv wv zs0 w zs qs) {i : Nat} {q : List UInt8} (hq : qs[i]? = some q) : ∃ a c, zs[i]? = some (a, c, q ++ mkB) ∧ (∃ l0, zs0[i]? = some (a, c, l0) ∧ l0.length = q.length + 5) ∧ Sl w a (q.length + 5) c (q ++ mkB) ∧ Sl w a q.length c q := by
  have h1 : zs[i]?.map (·.2.2) = some (q ++ mkB) := by
    rw [← List.getElem?_map, h.cont, List.getElem?_map, hq]; rfl
  cases hz : zs[i]? with
  | none => rw [hz] at h1; cases h1
  | some r =>
    rw [hz] at h1
    injection h1 with h1
    obtain ⟨a, c, l⟩ := r
    have h1 : l = q ++ mkB := h1
    subst h1
    have hlen : (q ++ mkB).length = q.length + 5 := by rw [List.length_append, mkB_len]
    have hs := h.rows.sl_at hz hlen
    refine ⟨a, c, rfl, ?_, hs, ?_⟩
    · have h2 : (zs0.map shpR)[i]? = some (a, c, q.length + 5) := by rw [← h.shp, List.getElem?_map, hz, Option.map_some]; show some (a, c, (q ++ mkB).length) = _; rw [hlen]
      rw [List.getElem?_map] at h2
      cases h0 : zs0[i]? with
      | none => rw [h0] at h2; cases h2
      | some r0 =>
        rw [h0] at h2
        injection h2 with h2
        obtain ⟨a0, c0, l0⟩ := r0
        injection h2 with e1 h2
        injection h2 with e2 e3
        have e1 : a0 = a := e1
        have e2 : c0 = c := e2
        subst e1; subst e2
        exact ⟨l0, rfl, e3⟩
    · have ht := hs.take (m := q.length) (by omega)
      rw [List.take_left' rfl] at ht
      exact ht
theorem StB.later (h : StB T B w5 lv wv zs0 w zs qs) (hle : B ≤ w.heap.size) (hb : Below w.heap.size w x) : StB T B w5 lv wv zs0 x zs qs :=
  ⟨h.rows.later hb, h.shp, h.cont, h.chg.trans (Below.chg0 hb), h.bel.trans (hb.mono hle)⟩
/-- One byte is written over, within what is lent. -/
theorem StB.store (h : StB T B w5 lv wv zs0 w zs qs) (hl : Off lv zs0) (hw : Off wv zs0) {i k b : Nat} {c : Nat} {q : List UInt8} (hz : zs[i]? = some (some ⟨b, 0, none⟩, c, q ++ mkB)) (hq : qs[i]? = some q) (hk : k < q.length) (u : UInt8) :
    StB T B w5 lv wv zs0 (w.setCell ⟨b, k, none⟩ (u8v u)) (zs.set i (some ⟨b, 0, none⟩, c, (q ++ mkB).set k u)) (qs.set i (q.set k u)) := by
  have hst := h.rows.store (k := k) hz u
  have hB := ((h.rows.1 i _ hz).lt (a := ⟨b, 0, none⟩) rfl).1
  obtain ⟨a, c', hz', ⟨l0, h0, _⟩, _⟩ := h.at_ hq
  rw [hz] at hz'
  injection hz' with hz'
  injection hz' with ea _
  subst ea
  refine ⟨hst.1, ?_, ?_, h.chg.trans (hst.2.mono fun d _ hd => ?_), h.bel.setCell (p := ⟨b, k, none⟩) hB _⟩
  · rw [List.map_set, ← h.shp]
    apply List.ext_getElem?
    intro j
    rw [List.getElem?_set]
    by_cases e' : i = j
    · subst e'
      have hlt := (List.getElem?_eq_some_iff.1 hz).1
      rw [if_pos rfl, if_pos (by rw [List.length_map]; exact hlt), List.getElem?_map, hz]
      simp [shpR]
    · rw [if_neg e']
  · rw [List.map_set, List.map_set, h.cont]
    congr 1
    rw [List.set_append_left _ _ hk]
  · subst hd
    exact ⟨fun e' => hl _ e' i _ _ h0 rfl rfl, fun e' => hw _ e' i _ _ h0 rfl rfl⟩
end

/-- What a turn needs of the rows and of the lists of them, in every world in which all that was there stands. -/
structure TurnF (kn : Nat) (b4 o4 : Option Addr) (w : World) (zs : RowL) (qs : List (List UInt8)) (x : World) : Prop where
  rbs : RBs x x.heap.size b4 kn (qs.take kn)
  key : ∀ k, k < kn → ∃ b o b' o' a c q, b4 = some ⟨b, o, none⟩ ∧ o4 = some ⟨b', o', none⟩ ∧ qs[k]? = some q ∧ zs[k]? = some (a, c, q ++ mkB) ∧ x.cell? ⟨b, o + k, none⟩ = some (.slice a q.length c) ∧ x.cell? ⟨b', o' + k, none⟩ = some (.slice a (q.length + 5) c) ∧ Sl x a (q.length + 5) c (q ++ mkB) ∧ Sl x a q.length c q
theorem turn_facts {T e : TypeId} {B kn lc wc : Nat} {w5 w x : World} {zs0 zs : RowL} {qs : List (List UInt8)} {LA WA : Option Addr} (hl5 : w5.ownsRow B e 1 (.slice LA kn lc) kn ((zs0.take kn).map cutR)) (hw5 : w5.ownsRow B e 1 (.slice WA kn wc) kn ((zs0.take kn).map valR)) (h : StB T B w5 (.slice LA kn lc) (.slice WA kn wc) zs0 w zs qs) (hq : kn ≤ qs.length) (hle : B ≤ w.heap.size) (hx : Below w.heap.size w x) :
    TurnF kn LA WA w zs qs x := by
  have hlx : x.ownsRow B e 1 (.slice LA kn lc) kn ((zs0.take kn).map cutR) := own_chg hl5 (h.chg.trans (Below.chg0 hx)) fun g hg hn => hn.1 hg
  have hwx : x.ownsRow B e 1 (.slice WA kn wc) kn ((zs0.take kn).map valR) := own_chg hw5 (h.chg.trans (Below.chg0 hx)) fun g hg hn => hn.2 hg
  have hz := h.later hle hx
  have hlen : (qs.take kn).length = kn := by rw [List.length_take]; omega
  have hll : (zs0.take kn).length = kn := by have := hl5.1; rw [List.length_map] at this; omega
  refine ⟨KV.rbs ⟨by rw [List.length_map, hll, hlen], fun i q hi => ?_⟩ (Reads.own hlx), fun k hk => ?_⟩
  · have hik : i < kn := by have := (List.getElem?_eq_some_iff.1 hi).1; omega
    rw [List.getElem?_take_of_lt hik] at hi
    obtain ⟨a, c, _, ⟨l0, h0, hl0⟩, _, hs⟩ := hz.at_ hi
    refine ⟨a, c, ?_, hs.cap, hs.lim, hs.nil, hs.rb⟩
    rw [List.getElem?_map, List.getElem?_take_of_lt hik, h0]
    show some (Value.slice a (l0.length - 5) c) = _
    rw [hl0, Nat.add_sub_cancel]
  · have hqk : qs[k]? = some (qs[k]'(by omega)) := List.getElem?_eq_getElem _
    obtain ⟨a, c, hzk, ⟨l0, h0, hl0⟩, hs5, hs⟩ := hz.at_ hqk
    obtain ⟨b, o, rfl, _, hc⟩ := (Reads.own hlx).2 (by omega)
    obtain ⟨b', o', rfl, _, hc'⟩ := (Reads.own hwx).2 (by omega)
    refine ⟨b, o, b', o', a, c, _, rfl, rfl, hqk, hzk, ?_, ?_, hs5, hs⟩
    · refine hc k _ ?_
      rw [List.getElem?_map, List.getElem?_take_of_lt hk, h0]
      show some (Value.slice a (l0.length - 5) c) = _
      rw [hl0, Nat.add_sub_cancel]
    · refine hc' k _ ?_
      rw [List.getElem?_map, List.getElem?_take_of_lt hk, h0]
      show some (Value.slice a l0.length c) = _
      rw [hl0]
theorem spot_lt (i n : Int) (hn : 0 < n) : 0 ≤ (if i.tmod n < 0 then i.tmod n + n else i.tmod n) ∧ (if i.tmod n < 0 then i.tmod n + n else i.tmod n) < n := by
  have h1 := Int.tmod_lt_of_pos i hn
  have h2 : -n < i.tmod n := by
    have h := Int.tmod_lt_of_pos (-i) hn
    rw [Int.neg_tmod] at h
    omega
  split <;> omega

set_option maxRecDepth 100000 in
set_option maxHeartbeats 400000 in
theorem spot_any (i : Int) (n : Nat) (w : World) (hn : 0 < n) (hm : n ≤ 1099511627776) : Calls Try.prog 32 #[.int .i64 i, .int .i64 n] w fun e w' => (∃ k : Nat, k < n ∧ e = .returned (.int .i64 k)) ∧ w = w' := by
  obtain ⟨h1, h2⟩ := spot_lt i n (by omega)
  have h3 := Int.tmod_lt_of_pos i (show (0 : Int) < n by omega)
  have hne : ((n : Int) == 0) = false := by rw [beq_eq_false_iff_ne]; omega
  obtain ⟨r, hr⟩ : ∃ r, r = i.tmod n := ⟨_, rfl⟩
  rw [← hr] at h1 h2 h3
  have h4 : -(n : Int) ≤ r := by
    by_cases h : r < 0
    · rw [if_pos h] at h1; omega
    · omega
  have hw2 : wrap64 (i.tmod (n : Int) + (n : Int)) = r + (n : Int) := by rw [← hr]; exact wrap64_self (by omega) (by omega)
  by_cases h : r < 0
  · have hd : decide (i.tmod (n : Int) < 0) = true := decide_eq_true (by rw [← hr]; exact h)
    have hd2 : i.tmod (n : Int) < 0 := by rw [← hr]; exact h
    rw [if_pos h] at h1 h2
    have HW := Lib.hid hw2
    clear hr h3 h4
    go_enter Try.func32, Try.ntmps32
    go_wp2_with fail
    go_ret
    exact ⟨⟨(r + n).toNat, by omega, by show Ending.returned (.int .i64 (wrap64 (i.tmod (n : Int) + (n : Int)))) = _; rw [HW.out, Int.toNat_of_nonneg h1]⟩, rfl⟩
  · have hd : decide (i.tmod (n : Int) < 0) = false := decide_eq_false (by rw [← hr]; exact h)
    have hd2 : ¬ i.tmod (n : Int) < 0 := by rw [← hr]; exact h
    rw [if_neg h] at h1 h2
    have HR := Lib.hid hr
    clear hr h3 h4 hw2
    go_enter Try.func32, Try.ntmps32
    go_wp2_with fail
    go_ret
    exact ⟨⟨r.toNat, by omega, by show Ending.returned (.int .i64 _) = _; rw [Int.toNat_of_nonneg h1]; first | rfl | rw [HR.out]⟩, rfl⟩

end Go.Proofs.Ythjjihipodhkiaa

/-
  The statements' grown, copied, walked.
-/
namespace Go.Proofs.Ythjjihipodhkiaa
open Go.RowKit

set_option maxRecDepth 100000 in
set_option maxHeartbeats 1000000 in
theorem grown_any (base : Nat) (l : List UInt8) (A : Option Addr) (n c : Nat) (m : UInt8) (w : World) (ho : OwnB 5 base w A c l) (hl : l.length = n) (hn : n ≤ 1099511627776) (hbase : base ≤ w.heap.size) :
    Calls Try.prog 19 #[.slice A n c, .int .u8 m.toNat] w fun e w' => ∃ A' c', e = .returned (.slice A' (2 * n + 70) c') ∧ OwnB 5 base w' A' c' (l ++ List.replicate (n + 70) m) ∧ OwnB 5 base w' A c l ∧ w.grownBy w' (A.map (·.block)) ∧ (∀ a, A' = some a → A.map (·.block) = some a.block ∨ w.heap.size ≤ a.block) := by
  have HO := Lib.hid ho
  have HL := Lib.hid hl
  clear ho hl
  obtain ⟨row, hrow⟩ : ∃ row, row = A.map (·.block) := ⟨_, rfl⟩
  have hOB : Hid ((Value.slice A n c).ownBlock = row) := Lib.hid (by rw [hrow]; cases A <;> rfl)
  rw [← hrow]
  have HROW := Lib.hid hrow
  clear hrow
  go_enter Try.func19, Try.ntmps19
  go_wp2
  go_loopw [5, 6] (fun v i wr => ∃ (k : Nat) (xs : List UInt8), k ≤ n + 70 ∧ i = .int .i64 k ∧ Hid (xs = l ++ List.replicate k m) ∧ Hid (xs.length = n + k) ∧ wr.ownsRow base 5 1 v (n + k) (u8s xs) ∧ Hid (OwnB 5 base wr A c l) ∧ Hid (w.grownBy wr row) ∧ Hid (v.ownBlock = row ∨ ∀ g, v.ownBlock = some g → w.heap.size ≤ g)) (fun _ i _ => n + 70 - (intOf i).toNat)
  case atStart => exact ⟨0, l, by omega, rfl, Lib.hid (by simp), Lib.hid (by rw [HL.out]; rfl), by have h := HO.out; unfold OwnB at h; rw [HL.out] at h; exact h, HO, Lib.hid (World.grownBy.refl w _), Lib.hid (.inl hOB.out)⟩
  case round =>
    obtain ⟨k, xs, hk, rfl, HX, HXL, hown, HO2, HG, HV⟩ := hrel
    by_cases hlt : k < n + 70
    case neg =>
      obtain rfl : k = n + 70 := by omega
      obtain ⟨A', c', e', _, _, _, _⟩ := own_slice hown
      subst e'
      have HF : Hid (∃ A'' c'', (Ending.returned (.slice A' (n + (n + 70)) c')) = .returned (.slice A'' (2 * n + 70) c'') ∧ OwnB 5 base wr A'' c'' (l ++ List.replicate (n + 70) m) ∧ OwnB 5 base wr A c l ∧ w.grownBy wr row ∧ (∀ a, A'' = some a → row = some a.block ∨ w.heap.size ≤ a.block)) := Lib.hid (by
        refine ⟨A', c', by rw [show n + (n + 70) = 2 * n + 70 from by omega], ?_, HO2.out, HG.out, fun a ha => ?_⟩
        · rw [← HX.out]
          show World.ownsRow _ _ _ _ _ _ _
          rw [HXL.out]; exact hown
        · subst ha
          rcases HV.out with h | h
          · exact .inl h.symm
          · exact .inr (h a.block rfl))
      clear hown
      go_wp2
      go_ret
      exact HF.out
    obtain ⟨v, hv⟩ : ∃ v, v = u5 := ⟨_, rfl⟩
    rw [← hv] at hown HV ⊢
    have HN : Hid (xs ++ [m] = l ++ List.replicate (k + 1) m) := Lib.hid (by rw [HX.out, List.replicate_succ', List.append_assoc])
    have HNL : Hid ((xs ++ [m]).length = n + (k + 1)) := Lib.hid (by rw [List.length_append, HXL.out]; rfl)
    have HB0 : Hid (base ≤ wr.heap.size) := Lib.hid (Nat.le_trans hbase HG.out.size)
    have HOW := Lib.hid hown
    have HXL2 : Hid (l.length ≤ n + k) := Lib.hid (by rw [HL.out]; omega)
    clear hv hown
    go_wp2_with (at_builtin; go_must (refine wpList_append_cells _ rfl (.tmp 15) (.tmp 17) rfl Try.u8s' base v (n + k) (u8s xs) rfl (HOW.out.alloc _) (wr.heap.size + 1) (some ⟨wr.heap.size, 0, none⟩) 1 1 (u8s [m]) rfl (by exact reads_lit wr _ [m] _ _ rfl) (u8s_one _) (by unfold maxLen; omega) (by omega) (by have := HB0.out; simp; omega) ?_); intro v1 w1 hown1 hg1 hat1 hold1 hcell1; have HO3 := Lib.hid (own_under ((HO2.out.later ((Below.refl wr.heap.size wr).alloc (Nat.le_refl _) _))) (HOW.out.alloc _) hg1 hold1 HXL2.out); have HG1 := Lib.hid (grown_keep HG.out (grown_trans (World.grownBy_alloc wr _ _) hg1) HV.out); have HV1 := Lib.hid (grown_at HV.out hat1 (Nat.le_trans HG.out.size (by simp))); rw [← u8s_append] at hown1; have HW1 := Lib.hid hown1; clear hown1 hg1 hat1 hold1 hcell1)
    have hW := HW1.out
    clear HW1
    go_roundw
    case rel => exact ⟨k + 1, xs ++ [m], by omega, by go_num, HN, HNL, hW, HO3, HG1, HV1⟩
    case measure => simp [intOf]; omega

theorem grown_of (base : Nat) (l : List UInt8) (A : Option Addr) (n c : Nat) (m : UInt8) (z : Int) (hz : z = (m.toNat : Int)) (w : World) (ho : OwnB 5 base w A c l) (hl : l.length = n) (hn : n ≤ 1099511627776) (hbase : base ≤ w.heap.size) :
    Calls Try.prog 19 #[.slice A n c, .int .u8 z] w fun e w' => ∃ A' c', e = .returned (.slice A' (2 * n + 70) c') ∧ OwnB 5 base w' A' c' (l ++ List.replicate (n + 70) m) ∧ OwnB 5 base w' A c l ∧ w.grownBy w' (A.map (·.block)) ∧ (∀ a, A' = some a → A.map (·.block) = some a.block ∨ w.heap.size ≤ a.block) := by
  subst hz; exact grown_any base l A n c m w ho hl hn hbase

end Go.Proofs.Ythjjihipodhkiaa

/-
  BloomOwn, walked.
-/
namespace Go.Proofs.Ythjjihipodhkiaa
open Go.RowKit

def mk11 (i : Nat) : UInt8 := UInt8.ofNat (11 + i)
theorem u8v_mod8 (s : Nat) : u8v (UInt8.ofNat s) = .int .u8 ((s : Int) % 256) := by
  unfold u8v
  rw [UInt8.toNat_ofNat', Int.natCast_emod]; rfl
theorem mk11_v (i : Nat) (h : i < 200) : u8v (mk11 i) = .int .u8 (11 + (i : Int)) := by
  unfold mk11
  rw [u8v_mod8]
  rw [show (((11 + i : Nat) : Int) % 256) = 11 + (i : Int) from by omega]
theorem mk11_nat (i : Nat) (h : i < 200) : ((mk11 i).toNat : Int) = 11 + (i : Int) := by
  unfold mk11
  rw [UInt8.toNat_ofNat', Nat.mod_eq_of_lt (by omega)]; omega
theorem own_facts {bits : Int} {ks : List (List UInt8)} (h : buildE bits ks = 0) : unionE (buildB bits ks) (buildB bits ks) = 0 ∧ ures (buildB bits ks) (buildB bits ks) = buildB bits ks ∧ (buildB bits ks).length ≤ 2621446 ∧ 6 ≤ (buildB bits ks).length := by
  have h1 : unionE (buildB bits ks) (buildB bits ks) = 0 := by rw [unions_E h h, if_pos rfl]
  refine ⟨h1, ?_, ?_, ?_⟩
  · unfold ures; rw [if_pos h1, unions_self]
  · rw [buildB_length]; have := buildM_le h; omega
  · rw [buildB_length]; omega

set_option maxRecDepth 100000 in
set_option maxHeartbeats 1000000 in
theorem own_no (bits : Int) (ks : List (List UInt8)) (A : Option Addr) (n c : Nat) (w : World) (hn : n ≤ 9223372036854775807) (hr : RBs w w.heap.size A n ks) (h0 : buildE bits ks ≠ 0) :
    Calls Try.prog 5 #[.int .i64 bits, .slice A n c] w fun e w' => e = .returned (.bool true) ∧ Below w.heap.size w w' := by
  have HR : Hid (∀ w', Below w.heap.size w w' → RBs w' w'.heap.size A n ks) := Lib.hid fun w' h => hr.later h
  obtain ⟨E, hE⟩ : ∃ E, E = buildE bits ks := ⟨_, rfl⟩
  rw [← hE] at h0
  have XE := Lib.hid hE
  have d1 : ((E : Int) != 0) = true := by rw [bne_iff_ne]; omega
  have d2 : ((E : Int) == (E : Int)) = true := by simp
  have tok1 : True := trivial
  clear hr hE h0
  go_enter Try.func5, Try.ntmps5
  go_wp2_with (first
    | (go_at_call 14; refine (num_any _ _).mono ?_; rintro e wn ⟨rfl, rfl⟩)
    | (go_at_call 12; refine (started_any _).mono ?_; rintro e w0 ⟨rfl, hb0⟩; have HB0 := Lib.hid hb0; clear hb0)
    | (go_at_call 13; have _t := tok1; go_must (refine (build_any bits ks A n c _ hn (HR.out _ HB0.out)).mono ?_); rintro e w3 hp; have hp := build_post hp; rw [← XE.out] at hp; obtain ⟨A3, c3, rfl, _, _, hb3⟩ := hp.at_ rfl rfl; have HB3 := Lib.hid (HB0.out.trans (hb3.mono HB0.out.size)); clear tok1 hp hb3)
    | (go_at_call 13; go_must (refine (build_any bits ks A n c _ hn (HR.out _ HB3.out)).mono ?_); rintro e w4 hp; have hp := build_post hp; rw [← XE.out] at hp; obtain ⟨A4, c4, rfl, _, _, hb4⟩ := hp.at_ rfl rfl; have HB4 := Lib.hid (HB3.out.trans (hb4.mono HB3.out.size)); clear hp hb4))
  go_ret
  exact ⟨rfl, HB4.out⟩

/-- The four slices in their list, and the copy. -/
def five (A3 A4 A6 A7 A5 : Option Addr) (c3 c4 c6 c7 c5 : Nat) (F : List UInt8) : RowL := [(A3, c3, F), (A4, c4, F), (A6, c6, F), (A7, c7, F), (A5, c5, F)]
theorem five_pick {T : TypeId} {base : Nat} {w : World} {A3 A4 A6 A7 A5 : Option Addr} {c3 c4 c6 c7 c5 : Nat} {F : List UInt8} (h : RowsB T base w [(A3, c3, F), (A4, c4, F), (A5, c5, F), (A6, c6, F), (A7, c7, F)]) : RowsB T base w (five A3 A4 A6 A7 A5 c3 c4 c6 c7 c5 F) := by
  refine h.pick (fun i => if i = 2 then 3 else if i = 3 then 4 else if i = 4 then 2 else i) (fun i j hi hj hij => ?_) fun i s hs => ?_
  · simp only [five, List.length_cons, List.length_nil] at hi hj
    split <;> split <;> (try split) <;> (try split) <;> (try split) <;> (try split) <;> omega
  · have hi := (List.getElem?_eq_some_iff.1 hs).1
    simp only [five, List.length_cons, List.length_nil] at hi
    match i, hi with
    | 0, _ => exact hs
    | 1, _ => exact hs
    | 2, _ => exact hs
    | 3, _ => exact hs
    | 4, _ => exact hs

/-- The lengthened ones. -/
def moreK (mk : Nat → UInt8) (N q : Nat) : List (List UInt8) := (List.range q).map fun i => List.replicate N (mk i)
theorem moreK_succ (mk : Nat → UInt8) (N q : Nat) : moreK mk N (q + 1) = moreK mk N q ++ [List.replicate N (mk q)] := by simp [moreK, List.range_succ]
theorem moreK_at (mk : Nat → UInt8) (N : Nat) {q i : Nat} (h : i < q) : (moreK mk N q)[i]? = some (List.replicate N (mk i)) := by simp [moreK, List.getElem?_map, List.getElem?_range h]
theorem HRK_ge {T : TypeId} {base : Nat} {w : World} {rs : RowL} {i g c : Nat} {l : List UInt8} (h : RowsB T base w rs) (hr : rs[i]? = some (some ⟨g, 0, none⟩, c, l)) : base ≤ g := ((h.1 i _ hr).lt (a := ⟨g, 0, none⟩) rfl).1
theorem Chg.trans2 {w8 wr w3 : World} {g8 H3 : Nat} (h : Chg (fun b => b < g8) w8 wr) (k : Chg (fun b => b < g8 ∨ H3 ≤ b) wr w3) (hle : w8.heap.size ≤ H3) : Chg (fun b => b < g8) w8 w3 :=
  ⟨k.os.trans h.os, k.tape.trans h.tape, k.output.trans h.output, Nat.le_trans h.size k.size, fun b hb hn => (k.block b (Nat.lt_of_lt_of_le hb h.size) (fun e => by rcases e with e | e; exact hn e; omega)).trans (h.block b hb hn)⟩
theorem five_lt {T : TypeId} {base : Nat} {w : World} {rs : RowL} (h : RowsB T base w rs) : ∀ (i : Nat) r a, rs[i]? = some r → r.1 = some a → base ≤ a.block ∧ a.block < w.heap.size := fun i r a hr ha => (h.1 i r hr).lt ha
theorem five_ex (A3 A4 A6 A7 A5 : Option Addr) (c3 c4 c6 c7 c5 : Nat) (F : List UInt8) : ∀ k, k < 4 → ∃ a ca, (five A3 A4 A6 A7 A5 c3 c4 c6 c7 c5 F)[k]? = some (a, ca, F) := fun k hk => by
  match k, hk with
  | 0, _ => exact ⟨_, _, rfl⟩
  | 1, _ => exact ⟨_, _, rfl⟩
  | 2, _ => exact ⟨_, _, rfl⟩
  | 3, _ => exact ⟨_, _, rfl⟩
theorem five_out (w7 : World) (A3 A4 A6 A7 A5 : Option Addr) (c3 c4 c6 c7 c5 : Nat) (F : List UInt8) (LF : Nat) (t : TypeId) :
    Hid (∀ x, Chg (fun b => b < w7.heap.size) (w7.alloc (.cells #[.slice A3 LF c3, .slice A4 LF c4, .slice A6 LF c6, .slice A7 LF c7] t)) x → ∀ (k : Nat) (a : Option Addr) (ca : Nat), k < 4 → (five A3 A4 A6 A7 A5 c3 c4 c6 c7 c5 F)[k]? = some (a, ca, F) → x.cell? ⟨w7.heap.size, k, none⟩ = some (.slice a LF ca)) := Lib.hid fun x hx k a ca hk h => by
  have hc : ∀ v, (w7.alloc (.cells #[.slice A3 LF c3, .slice A4 LF c4, .slice A6 LF c6, .slice A7 LF c7] t)).cell? ⟨w7.heap.size, k, none⟩ = some v → x.cell? ⟨w7.heap.size, k, none⟩ = some v := fun v hv => hx.cell hv (by simp)
  match k, hk with
  | 0, _ => injection h with h; injection h with h1 h; injection h with h2 _; subst h1; subst h2; exact hc _ (by simp)
  | 1, _ => injection h with h; injection h with h1 h; injection h with h2 _; subst h1; subst h2; exact hc _ (by simp)
  | 2, _ => injection h with h; injection h with h1 h; injection h with h2 _; subst h1; subst h2; exact hc _ (by simp)
  | 3, _ => injection h with h; injection h with h1 h; injection h with h2 _; subst h1; subst h2; exact hc _ (by simp)

set_option maxRecDepth 100000 in
set_option maxHeartbeats 8000000 in
theorem own_ok (bits : Int) (ks : List (List UInt8)) (A : Option Addr) (n c : Nat) (w : World) (hn : n ≤ 9223372036854775807) (hr : RBs w w.heap.size A n ks) (h0 : buildE bits ks = 0) :
    Calls Try.prog 5 #[.int .i64 bits, .slice A n c] w fun e w' => e = .returned (.bool true) ∧ Below w.heap.size w w' := by
  have HR : Hid (∀ w', Below w.heap.size w w' → RBs w' w'.heap.size A n ks) := Lib.hid fun w' h => hr.later h
  obtain ⟨f1, f2, f3, f4⟩ := own_facts h0
  obtain ⟨F, hF⟩ : ∃ F, F = buildB bits ks := ⟨_, rfl⟩
  rw [← hF] at f1 f2 f3 f4
  obtain ⟨LF, hLF⟩ : ∃ L, L = F.length := ⟨_, rfl⟩
  rw [← hLF] at f3 f4
  have XF : Hid (bres bits ks = F) := Lib.hid (by unfold bres; rw [if_pos h0, hF])
  have XE : Hid (buildE bits ks = 0) := Lib.hid h0
  have XLF := Lib.hid hLF
  have XU : Hid (unionE F F = 0 ∧ ures F F = F) := Lib.hid ⟨f1, f2⟩
  have XS : Hid ((F == F) = true) := Lib.hid (by simp)
  have tok1 : True := trivial
  have tok2 : True := trivial
  have tok3 : True := trivial
  have R0 : Hid (∀ w', RowsB 5 w.heap.size w' []) := Lib.hid fun w' => RowsB.nil
  clear hr hF hLF h0 f1 f2
  go_enter Try.func5, Try.ntmps5
  go_upto_region 13 with (first
    | (go_at_call 14; refine (num_any _ _).mono ?_; rintro e wn ⟨rfl, rfl⟩)
    | (go_at_call 12; refine (started_any _).mono ?_; rintro e w0 ⟨rfl, hb0⟩; have HB0 := Lib.hid hb0; clear hb0)
    | (go_at_call 13; have _t := tok1; go_must (refine (build_any bits ks A n c _ hn (HR.out _ HB0.out)).mono ?_); rintro e w3 hp; have hp := build_post hp; rw [XE.out, XF.out] at hp; obtain ⟨A3, c3, rfl, _, hO3, hb3⟩ := hp.at_ XLF.out.symm rfl; have HB3 := Lib.hid (HB0.out.trans (hb3.mono HB0.out.size)); have R1 := Lib.hid ((R0.out w0).fresh hb3 hO3 HB0.out.size); clear tok1 hp hb3 hO3)
    | (go_at_call 13; have _t := tok2; go_must (refine (build_any bits ks A n c _ hn (HR.out _ HB3.out)).mono ?_); rintro e w4 hp; have hp := build_post hp; rw [XE.out, XF.out] at hp; obtain ⟨A4, c4, rfl, _, hO4, hb4⟩ := hp.at_ XLF.out.symm rfl; have HB4 := Lib.hid (HB3.out.trans (hb4.mono HB3.out.size)); have R2 := Lib.hid (R1.out.fresh hb4 hO4 HB3.out.size); clear tok2 hp hb4 hO4)
    | (at_builtin; go_must (refine wpList_append_reads _ rfl (.tmp 56) (.tmp 57) rfl Try.u8s' w4.heap.size (.slice none 0 0) 0 [] rfl (own_nil _ _ _ _) _ A3 LF c3 (u8s F) rfl (R2.out.sl_at (i := 0) rfl XLF.out.symm).rb (u8s_one _) (by unfold maxLen; omega) (by omega) (Nat.le_refl _) ?_); intro v5 w5 hown5 hg5 hat5; have hb5 := below_app (Below.refl w4.heap.size w4) (own_nil _ w4.heap.size 5 1) hg5 (Nat.le_refl _) (Nat.le_refl _); rw [List.nil_append] at hown5; obtain ⟨A5, c5, rfl, hO5⟩ := own_bytes hown5; have HB5 := Lib.hid (HB4.out.trans (hb5.mono HB4.out.size)); have R3 := Lib.hid (R2.out.fresh hb5 hO5 HB4.out.size); rw [← XLF.out]; clear hown5 hg5 hat5 hb5 hO5)
    | (go_at_call 18; have _t := tok3; go_must (refine (union_any F F A3 A4 LF c3 LF c4 _ (by omega) (R3.out.sl_at (i := 0) rfl XLF.out.symm).rb (by omega) (R3.out.sl_at (i := 1) rfl XLF.out.symm).rb).mono ?_); rintro e w6 hp; have hp := union_post hp; rw [XU.out.1, XU.out.2] at hp; obtain ⟨A6, c6, rfl, _, hO6, hb6⟩ := hp.at_ XLF.out.symm rfl; have HB6 := Lib.hid (HB5.out.trans (hb6.mono HB5.out.size)); have R4 := Lib.hid (R3.out.fresh hb6 hO6 HB5.out.size); clear tok3 hp hb6 hO6)
    | (go_at_call 18; go_must (refine (union_any F F A3 A3 LF c3 LF c3 _ (by omega) (R4.out.sl_at (i := 0) rfl XLF.out.symm).rb (by omega) (R4.out.sl_at (i := 0) rfl XLF.out.symm).rb).mono ?_); rintro e w7 hp; have hp := union_post hp; rw [XU.out.1, XU.out.2] at hp; obtain ⟨A7, c7, rfl, _, hO7, hb7⟩ := hp.at_ XLF.out.symm rfl; have HB7 := Lib.hid (HB6.out.trans (hb7.mono HB6.out.size)); have R5 := Lib.hid (five_pick (R4.out.fresh hb7 hO7 HB6.out.size)); clear hp hb7 hO7)
    | (go_at_call 15; go_must (refine (alike_any F F _ A5 LF _ LF c5 _ (by first | exact (R5.out.sl_at (i := 2) rfl XLF.out.symm).rb | exact (R5.out.sl_at (i := 3) rfl XLF.out.symm).rb) (R5.out.sl_at (i := 4) rfl XLF.out.symm).rb).mono ?_); rw [XS.out]; rintro e wn ⟨rfl, rfl⟩))
  have HB8 := Lib.hid (HB7.out.alloc HB7.out.size (.cells #[.slice A3 LF c3, .slice A4 LF c4, .slice A6 LF c6, .slice A7 LF c7] 24))
  have R8 := Lib.hid (R5.out.later ((Below.refl w7.heap.size w7).alloc (Nat.le_refl _) (.cells #[.slice A3 LF c3, .slice A4 LF c4, .slice A6 LF c6, .slice A7 LF c7] 24)))
  have HLT := Lib.hid (five_lt R5.out)
  have HOUT := five_out w7 A3 A4 A6 A7 A5 c3 c4 c6 c7 c5 F LF 24
  have HSZ : Hid (w7.heap.size < (w7.alloc (.cells #[.slice A3 LF c3, .slice A4 LF c4, .slice A6 LF c6, .slice A7 LF c7] 24)).heap.size) := Lib.hid (by simp)
  obtain ⟨ss, hss⟩ : ∃ ss, ss = five A3 A4 A6 A7 A5 c3 c4 c6 c7 c5 F := ⟨_, rfl⟩
  have XSS := Lib.hid hss
  have HEX : Hid (∀ k, k < 4 → ∃ a ca, ss[k]? = some (a, ca, F)) := Lib.hid (by rw [hss]; exact five_ex _ _ _ _ _ _ _ _ _ _ _)
  have H5 : Hid (ss[4]? = some (A5, c5, F)) := Lib.hid (by rw [hss]; rfl)
  rw [← hss] at R8 HLT HOUT
  obtain ⟨g8, hg8⟩ : ∃ g, g = w7.heap.size := ⟨_, rfl⟩
  rw [← hg8] at HLT HOUT HSZ ⊢
  generalize hw8 : w7.alloc _ = w8 at *
  clear hw8 hg8 hss R1 R2 R3 R4 R5 HB0 HB3 HB4 HB5 HB6 HB7
  go_wp2_with fail
  go_loopw [16] (fun i wr => ∃ k : Nat, k ≤ 4 ∧ i = .int .i64 k ∧ Hid (RowsB 5 w.heap.size wr (fillR mk11 ss k)) ∧ Hid (Chg (fun b => b < g8) w8 wr) ∧ Hid (Below w.heap.size w wr)) (fun i _ => 4 - (intOf i).toNat)
  case atStart => exact ⟨0, by omega, rfl, Lib.hid (by rw [fillR_zero]; exact R8.out), Lib.hid (Chg.refl _ _), HB8⟩
  case round =>
    obtain ⟨k, hk, rfl, HRW, HC, HB⟩ := hrel
    by_cases hlt : k < 4
    case neg =>
      have hd : decide ((k : Int) < 4) = false := decide_eq_false (by omega)
      have hk4 : k = 4 := by omega
      obtain ⟨rs, hrs⟩ : ∃ rs, rs = fillR mk11 ss k := ⟨_, rfl⟩
      rw [← hrs] at HRW
      have HEX4 : Hid (∀ k, k < 4 → ∀ a ca, ss[k]? = some (a, ca, F) → rs[k]? = some (a, ca, List.replicate LF (mk11 k))) := Lib.hid fun i hi a ca h => by
        rw [hrs, fillR_get, h, XLF.out, hk4]; simp [hi]
      have H54 : Hid (rs[4]? = some (A5, c5, F)) := Lib.hid (by rw [hrs, fillR_get, H5.out, hk4]; simp)
      have HL4 : Hid (∀ (i : Nat) r a, rs[i]? = some r → r.1 = some a → a.block < g8) := Lib.hid fun i r a hr ha => by
        rw [hrs, fillR_get] at hr
        cases h : ss[i]? with
        | none => rw [h] at hr; cases hr
        | some q =>
          rw [h] at hr; injection hr with hr
          have e : q.1 = some a := by
            rw [← ha, ← hr]; split <;> rfl
          exact (HLT.out i q a h e).2
      obtain ⟨wo, rfl⟩ : ∃ wo : World, wo = wr := ⟨_, rfl⟩
      obtain ⟨H3, hH3⟩ : ∃ H, H = wo.heap.size := ⟨_, rfl⟩
      have hg83 : g8 < H3 := by have := HC.out.size; have := HSZ.out; omega
      have HL3 : Hid (∀ (i : Nat) r a, rs[i]? = some r → r.1 = some a → a.block < H3) := Lib.hid fun i r a hr ha => by have := HL4.out i r a hr ha; omega
      have HSZ3 : Hid (w.heap.size ≤ H3) := Lib.hid (by have := HB.out.size; omega)
      have HSZ8 : Hid (w8.heap.size ≤ H3) := Lib.hid (by have := HC.out.size; omega)
      have HH3 := Lib.hid hH3
      have hH3' : H3 ≤ wo.heap.size := by omega
      clear hrs hH3 hk4 hk hlt
      go_wp2_with fail
      go_loopw [18, 19] (fun v i wr => ∃ (q : Nat) (vs : List Value), q ≤ 4 ∧ i = .int .i64 q ∧ wr.ownsRow H3 24 1 v q vs ∧ Hid (RowsB 5 w.heap.size wr rs) ∧ Hid (FamS wr v.ownBlock vs (moreK mk11 (2 * LF + 70) q)) ∧ Hid (Aps rs q vs) ∧ Hid (Chg (fun b => b < g8) w8 wr) ∧ Hid (Below w.heap.size w wr) ∧ Hid (H3 ≤ wr.heap.size)) (fun _ i _ => 4 - (intOf i).toNat)
      case atStart => exact ⟨0, [], by omega, rfl, own_nil _ _ _ _, HRW, Lib.hid FamS.nil, Lib.hid (Aps.nil _), HC, HB, Lib.hid hH3'⟩
      case round =>
        clear HRW HC HB hH3' HH3
        obtain ⟨q, vs, hq, rfl, hown, HRW, HF, HA, HC, HB, HH⟩ := hrel
        by_cases hlt : q < 4
        case neg =>
          have hd : decide ((q : Int) < 4) = false := decide_eq_false (by omega)
          have hq4 : 4 ≤ q := by omega
          obtain ⟨Am, cm, hv, _, _, _, hrm⟩ := own_slice hown
          subst hv
          have HRM := Lib.hid hrm
          obtain ⟨bm, om, rfl, _, hcm⟩ := hrm.2 (by omega)
          have HCM := Lib.hid hcm
          clear hown hrm hcm
          go_wp2_with fail
          go_loop [20] (fun i => ∃ k : Nat, k ≤ 4 ∧ i = .int .i64 k) (fun i => 4 - (intOf i).toNat)
          case atStart => exact ⟨0, by omega, rfl⟩
          case round =>
            obtain ⟨k, hk, rfl⟩ := hrel
            by_cases hlt : k < 4
            case neg =>
              have hd : decide ((k : Int) < 4) = false := decide_eq_false (by omega)
              go_wp2_with (first
                | (go_at_call 14; refine (num_any _ _).mono ?_; rintro e wn ⟨rfl, rfl⟩)
                | (go_at_call 13; go_must (refine (build_any bits ks A n c _ hn (HR.out _ HB.out)).mono ?_); rintro e w9 hp; have hp := build_post hp; rw [XE.out, XF.out] at hp; obtain ⟨A9, c9, rfl, hS9, _, hb9⟩ := hp.at_ XLF.out.symm rfl; have HS9 := Lib.hid hS9; have HB9 := Lib.hid hb9; have HBB := Lib.hid (HB.out.trans (hb9.mono HB.out.size)); clear hp hS9 hb9)
                | (go_at_call 15; go_must (refine (alike_any F F A9 A5 LF c9 LF c5 _ HS9.out.rb ((HRW.out.sl_at H54.out XLF.out.symm).later HB9.out).rb).mono ?_); rw [XS.out]; rintro e wn ⟨rfl, rfl⟩)
                | (go_at_call 12; go_must (refine (started_any _).mono ?_); rintro e w10 ⟨rfl, hb10⟩; have HB10 := Lib.hid (HBB.out.trans (hb10.mono HBB.out.size)); clear hb10))
              go_ret
              exact ⟨rfl, HB10.out⟩
            have hd : decide ((k : Int) < 4) = true := decide_eq_true (by omega)
            obtain ⟨a, ca, hsk⟩ := HEX.out k hlt
            have hrk := HEX4.out k hlt _ _ hsk
            have hcell := HOUT.out wr HC.out k _ _ hlt hsk
            obtain ⟨a', c', hvk, hsl⟩ := HF.out.at_ (moreK_at mk11 (2 * LF + 70) (show k < q by omega))
            rw [List.length_replicate] at hvk hsl
            have hcm := HCM.out k _ hvk
            have HRK := Lib.hid hrk
            have HSL := Lib.hid hsl
            have HMN := Lib.hid (mk11_nat k (by omega))
            clear hsk hrk hvk hsl
            go_wp2_with fail
            go_loop [21] (fun i => ∃ j : Nat, j ≤ 2 * LF + 70 ∧ i = .int .i64 j) (fun i => 2 * LF + 70 - (intOf i).toNat)
            case atStart => exact ⟨0, by omega, rfl⟩
            case round =>
              obtain ⟨j, hj, rfl⟩ := hrel
              by_cases hjl : j < 2 * LF + 70
              case neg =>
                have hd2 : decide ((j : Int) < 2 * (LF : Int) + 70) = false := decide_eq_false (by omega)
                go_wp2_with fail
                go_round
                case rel => exact ⟨k + 1, by omega, by go_num⟩
                case measure => simp [intOf]; omega
              have hd2 : decide ((j : Int) < 2 * (LF : Int) + 70) = true := decide_eq_true (by omega)
              obtain ⟨b, o, x, e', _, hx, hcx⟩ := HSL.out.rb.at_ hjl
              subst e'
              rw [rep_at _ _ hjl] at hx
              injection hx with hx
              subst hx
              rw [HMN.out] at hcx
              by_cases hjL : j < LF
              · have hd3 : decide ((j : Int) < (LF : Int)) = true := decide_eq_true (by omega)
                obtain ⟨gk, rfl, _, _⟩ := HRW.out.form HRK.out (by rw [List.length_replicate]; omega)
                have hck := (HRW.out.cell HRK.out (rep_at LF (mk11 k) hjL)).1
                rw [HMN.out] at hck
                go_wp2_with fail
                go_round
                case rel => exact ⟨j + 1, by omega, by go_num⟩
                case measure => simp [intOf]; omega
              · have hd3 : decide ((j : Int) < (LF : Int)) = false := decide_eq_false (by omega)
                go_wp2_with fail
                go_round
                case rel => exact ⟨j + 1, by omega, by go_num⟩
                case measure => simp [intOf]; omega
        have hd : decide ((q : Int) < 4) = true := decide_eq_true (by omega)
        obtain ⟨a, ca, hsk⟩ := HEX.out q hlt
        have hrk := HEX4.out q hlt _ _ hsk
        obtain ⟨gk, rfl, hgk1, hgk2⟩ := HRW.out.form hrk (by rw [List.length_replicate]; omega)
        have hcell := HOUT.out wr HC.out q _ _ hlt hsk
        have HOK := Lib.hid (HRW.out.1 q _ hrk)
        have HRK := Lib.hid hrk
        have HMN := Lib.hid (mk11_nat q (by omega))
        have HGK := Lib.hid (HL4.out q _ _ hrk rfl)
        obtain ⟨v, hv⟩ : ∃ v, v = u18 := ⟨_, rfl⟩
        rw [← hv] at hown HF ⊢
        have HO := Lib.hid hown
        have HLEN : Hid ((List.replicate LF (mk11 q) ++ List.replicate (LF + 70) (mk11 q)).length = 2 * LF + 70) := Lib.hid (by simp; omega)
        have HBS : Hid (w.heap.size ≤ wr.heap.size) := Lib.hid HB.out.size
        have HHG : Hid (gk < H3) := Lib.hid (Nat.lt_trans (show gk < g8 from HGK.out) hg83)
        clear hv hown hsk hrk hgk1 hgk2
        go_wp2_with (first
          | (go_at_call 19; go_must (refine (grown_of w.heap.size (List.replicate LF (mk11 q)) (some ⟨gk, 0, none⟩) LF ca (mk11 q) _ HMN.out.symm _ HOK.out (List.length_replicate ..) (by omega) HBS.out).mono ?_); rintro e w2 ⟨A', c', rfl, hs2, ho2, hg2, hblk⟩; have HS2 := Lib.hid hs2; have HO2 := Lib.hid ho2; have HG2 := Lib.hid (show wr.grownBy w2 (some gk) from hg2); have HBK := Lib.hid (show ∀ a, A' = some a → some gk = some a.block ∨ wr.heap.size ≤ a.block from hblk); clear hs2 ho2 hg2 hblk)
          | (at_builtin; go_must (refine wpList_append_reads _ rfl (.tmp 122) (.tmp 131) rfl Try.keyss H3 v q vs rfl ((more_own HO.out HG2.out HHG.out).alloc _) (w2.heap.size + 1) (some ⟨w2.heap.size, 0, none⟩) 1 1 [.slice A' (2 * LF + 70) c'] rfl (lit_one8 _ _ _ _ rfl) (by simp [Value.oneCell']) (by unfold maxLen; omega) (by omega) (by have := HH.out; have := HG2.out.size; simp; omega) ?_); intro v3 w3 hown3 hg3 hat3; have HST := Lib.hid (more_step HLEN.out HRW.out HRK.out HF.out HA.out HO.out HL3.out HH.out HG2.out HO2.out HS2.out HBK.out hg3 hat3); have HO3 := Lib.hid hown3; clear hown3 hg3 hat3))
        have hO3 := HO3.out
        have HC3 := Lib.hid (HST.out.2.2.2 (fun b => b < g8 ∨ H3 ≤ b) (.inl HGK.out) fun b h => .inr h)
        have HB3 := Lib.hid (HB.out.trans ((HST.out.2.2.2 (fun b => w.heap.size ≤ b) (HRK_ge HRW.out HRK.out) fun b h => by have := HB.out.size; have := HSZ3.out; omega).below HBS.out fun b _ h => h))
        clear HO3
        go_roundw
        case rel => exact ⟨q + 1, vs ++ [.slice A' (2 * LF + 70) c'], by omega, by go_num, hO3, Lib.hid HST.out.1, Lib.hid (by rw [moreK_succ]; rw [show List.replicate (2 * LF + 70) (mk11 q) = List.replicate LF (mk11 q) ++ List.replicate (LF + 70) (mk11 q) from by rw [List.replicate_append_replicate]; congr 1; omega]; exact HST.out.2.1), Lib.hid HST.out.2.2.1, Lib.hid (HC.out.trans2 HC3.out HSZ8.out), HB3, Lib.hid (Nat.le_trans HH.out HC3.out.size)⟩
        case measure => simp [intOf]; omega
    have hd : decide ((k : Int) < 4) = true := decide_eq_true (by omega)
    obtain ⟨a, ca, hsk⟩ := HEX.out k hlt
    obtain ⟨gk, rfl, hgk1, hgk2⟩ := R8.out.form hsk (by rw [← XLF.out]; omega)
    have hgk3 := (HLT.out k _ _ hsk rfl).2
    have hmv := mk11_v k (by omega)
    have HMV := Lib.hid hmv
    have HSK := Lib.hid hsk
    have HG1 := Lib.hid hgk1
    have HG3 := Lib.hid hgk3
    have hcell := HOUT.out wr HC.out k _ _ hlt hsk
    clear hsk hmv hgk1 hgk2 hgk3
    go_wp2_with fail
    go_loopw [17] (fun q wr => ∃ j : Nat, j ≤ LF ∧ q = .int .i64 j ∧ Hid (RowsB 5 w.heap.size wr ((fillR mk11 ss k).set k (some ⟨gk, 0, none⟩, ca, fillTo F (mk11 k) j))) ∧ Hid (Chg (fun b => b < g8) w8 wr) ∧ Hid (Below w.heap.size w wr)) (fun q _ => LF - (intOf q).toNat)
    case atStart => exact ⟨0, by omega, rfl, Lib.hid (by rw [fillR_start HSK.out]; exact HRW.out), HC, HB⟩
    case round =>
      obtain ⟨j, hj, rfl, HRJ, HCJ, HBJ⟩ := hrel
      have hcell2 := HOUT.out wr HCJ.out k _ _ hlt HSK.out
      clear hcell
      by_cases hjl : j < LF
      case neg =>
        obtain rfl : j = LF := by omega
        have HDONE : Hid (RowsB 5 w.heap.size wr (fillR mk11 ss (k + 1))) := Lib.hid (by
          have h := HRJ.out
          rw [XLF.out, fillR_done HSK.out] at h
          exact h)
        have hd2 : decide ((j : Int) < (j : Int)) = false := decide_eq_false (by omega)
        go_wp2_with fail
        go_roundw
        case rel => exact ⟨k + 1, by omega, by go_num, HDONE, HCJ, HBJ⟩
        case measure => simp [intOf]; omega
      have hjF : j < F.length := by rw [← XLF.out]; exact hjl
      obtain ⟨u, hu⟩ : ∃ u, (fillTo F (mk11 k) j)[j]? = some u := ⟨_, List.getElem?_eq_getElem (by rw [fillTo_len _ (by omega)]; exact hjF)⟩
      obtain ⟨hcu, hfu⟩ := HRJ.out.cell (i := k) (g := gk) (c := ca) (by rw [List.getElem?_set, if_pos rfl, if_pos (by rw [fillR_len]; exact (List.getElem?_eq_some_iff.1 HSK.out).1)]) hu
      have hst := HRJ.out.fill HSK.out hjF
      rw [HMV.out] at hst
      have HST := Lib.hid hst
      clear hst hu hjF
      go_wp2_with fail
      go_roundw
      case rel => exact ⟨j + 1, by omega, by go_num, Lib.hid HST.out.1, Lib.hid (HCJ.out.trans (HST.out.2.mono fun b _ e => by rw [e]; exact HG3.out)), Lib.hid (HBJ.out.setCell (p := ⟨gk, j, none⟩) HG1.out _)⟩
      case measure => simp [intOf]; omega

theorem own_any (bits : Int) (ks : List (List UInt8)) (A : Option Addr) (n c : Nat) (w : World) (hn : n ≤ 9223372036854775807) (hr : RBs w w.heap.size A n ks) :
    Calls Try.prog 5 #[.int .i64 bits, .slice A n c] w fun e w' => e = .returned (.bool true) ∧ Below w.heap.size w w' := by
  by_cases h : buildE bits ks = 0
  · exact own_ok bits ks A n c w hn hr h
  · exact own_no bits ks A n c w hn hr h

end Go.Proofs.Ythjjihipodhkiaa

/-
  BloomApart, walked.
-/
namespace Go.Proofs.Ythjjihipodhkiaa
open Go.RowKit

set_option maxRecDepth 100000 in
set_option maxHeartbeats 1000000 in
theorem copied_any (l : List UInt8) (A : Option Addr) (n c : Nat) (w : World) (hn : n ≤ 140737488355000) (hr : RB w w.heap.size A n l) :
    Calls Try.prog 20 #[.slice A n c] w (BytesPost 5 l w) := by
  have HR := Lib.hid hr
  clear hr
  go_enter Try.func20, Try.ntmps20
  go_wp2_with (at_builtin; go_must (refine wpList_append_reads _ rfl (.tmp 4) (.tmp 5) rfl Try.u8s' w.heap.size (.slice none 0 0) 0 [] rfl (own_nil _ _ _ _) _ A n c (u8s l) rfl HR.out (u8s_one _) (by unfold maxLen; omega) (by omega) (Nat.le_refl _) ?_); intro v1 w1 hown1 hg1 hat1; have HB1 := Lib.hid (below_app (Below.refl w.heap.size w) (own_nil _ w.heap.size 5 1) hg1 (Nat.le_refl _) (Nat.le_refl _)); rw [List.nil_append, Nat.zero_add] at hown1; have HO1 := Lib.hid hown1; clear hown1 hg1 hat1)
  go_ret
  exact bytes_post HO1.out HB1.out

theorem bres_len (bits : Int) (ks : List (List UInt8)) : (bres bits ks).length ≤ 2621446 := by
  unfold bres
  split
  · rename_i h
    rw [buildB_length]; have := buildM_le h; omega
  · simp
theorem ures_len (a b : List UInt8) : (ures a b).length ≤ a.length := by
  unfold ures
  split
  · rw [orB_length]; omega
  · simp
theorem lit4 (w : World) (a b c d : Value) (t : TypeId) (H : Nat) (h : w.heap.size = H) : Reads (w.alloc (.cells #[a, b, c, d] t)) (H + 1) 1 (some ⟨H, 0, none⟩) 4 [a, b, c, d] := by
  subst h; exact Reads.new w #[a, b, c, d] t 1 4 rfl
/-- What the rows hold behind q rounds. -/
def contA (X Y U V : List UInt8) (q : Nat) : List (List UInt8) := (List.replicate q [X, Y, U, V]).flatten
theorem contA_succ (X Y U V : List UInt8) (q : Nat) : contA X Y U V (q + 1) = contA X Y U V q ++ [X, Y, U, V] := by
  unfold contA
  rw [List.replicate_succ', List.flatten_append]; simp
theorem contA_len (X Y U V : List UInt8) (q : Nat) : (contA X Y U V q).length = 4 * q := by
  induction q with
  | zero => rfl
  | succ q ih => rw [contA_succ, List.length_append, ih]; simp; omega
theorem cont_one {zs : RowL} {L : List (List UInt8)} (h : zs.map (·.2.2) = L) {k : Nat} {F : List UInt8} (hk : L[k]? = some F) : ∃ a ca, zs[k]? = some (a, ca, F) := by
  rw [← h, List.getElem?_map] at hk
  cases hz : zs[k]? with
  | none => rw [hz] at hk; cases hk
  | some r =>
    rw [hz] at hk; injection hk with hk
    exact ⟨r.1, r.2.1, by rw [← hk]⟩
theorem cont_at {X Y U V : List UInt8} {rs ws : RowL} (hr : rs.map (·.2.2) = contA X Y U V 2) (hw : ws.map (·.2.2) = contA X Y U V 2) : ∀ k, k < 8 → ∃ (F : List UInt8) (a a1 a2 : Option Addr) (ca c1 c2 : Nat), (F = X ∨ F = Y ∨ F = U ∨ F = V) ∧ rs[k]? = some (a, ca, F) ∧ ws[k]? = some (a1, c1, F) ∧ ws[k % 4]? = some (a2, c2, F) := fun k hk => by
  have key : ∀ (F : List UInt8), (contA X Y U V 2)[k]? = some F → (contA X Y U V 2)[k % 4]? = some F → (F = X ∨ F = Y ∨ F = U ∨ F = V) → ∃ (F : List UInt8) (a a1 a2 : Option Addr) (ca c1 c2 : Nat), (F = X ∨ F = Y ∨ F = U ∨ F = V) ∧ rs[k]? = some (a, ca, F) ∧ ws[k]? = some (a1, c1, F) ∧ ws[k % 4]? = some (a2, c2, F) := fun F h1 h2 h3 => by
    obtain ⟨a, ca, e1⟩ := cont_one hr h1
    obtain ⟨a1, c1, e2⟩ := cont_one hw h1
    obtain ⟨a2, c2, e3⟩ := cont_one hw h2
    exact ⟨F, a, a1, a2, ca, c1, c2, h3, e1, e2, e3⟩
  match k, hk with
  | 0, _ => exact key X rfl rfl (.inl rfl)
  | 1, _ => exact key Y rfl rfl (.inr (.inl rfl))
  | 2, _ => exact key U rfl rfl (.inr (.inr (.inl rfl)))
  | 3, _ => exact key V rfl rfl (.inr (.inr (.inr rfl)))
  | 4, _ => exact key X rfl rfl (.inl rfl)
  | 5, _ => exact key Y rfl rfl (.inr (.inl rfl))
  | 6, _ => exact key U rfl rfl (.inr (.inr (.inl rfl)))
  | 7, _ => exact key V rfl rfl (.inr (.inr (.inr rfl)))
theorem ApSt.mem_sl {T e : TypeId} {B : Nat} {w : World} {lv wv : Value} {rs ws ps : RowL} (h : ApSt T e B w lv wv rs ws ps) {A : Option Addr} {c n : Nat} {l : List UInt8} (hm : (A, c, l) ∈ rs ++ ws ++ ps) (hn : l.length = n) : Sl w A n c l := by
  obtain ⟨i, hi⟩ := List.getElem?_of_mem hm
  exact h.rows.sl_at hi hn
/-- The two lists, and what they hold in every world in which they stand. -/
theorem apart_out {T e : TypeId} {B : Nat} {w : World} {lv wv : Value} {rs ws : RowL} (h : ApSt T e B w lv wv rs ws []) (hr : rs.length = 8) (hw : ws.length = 8) : ∃ gl gw lc wc, lv = .slice (some ⟨gl, 0, none⟩) 8 lc ∧ wv = .slice (some ⟨gw, 0, none⟩) 8 wc ∧ RowsB T B w (rs ++ ws) ∧ gl < w.heap.size ∧ gw < w.heap.size ∧
    (∀ (i : Nat) r a, (rs ++ ws)[i]? = some r → r.1 = some a → B ≤ a.block ∧ a.block < w.heap.size ∧ a.block ≠ gl ∧ a.block ≠ gw) ∧
    (∀ x, Chg (fun b => b ≠ gl ∧ b ≠ gw) w x → ∀ (k : Nat) a ca l, rs[k]? = some (a, ca, l) → x.cell? ⟨gl, k, none⟩ = some (.slice a l.length ca)) ∧
    (∀ x, Chg (fun b => b ≠ gl ∧ b ≠ gw) w x → ∀ (k : Nat) a ca l, ws[k]? = some (a, ca, l) → x.cell? ⟨gw, k, none⟩ = some (.slice a l.length ca)) := by
  obtain ⟨hR, h1, h2, h3, h4, h5, h6⟩ := h
  rw [List.append_nil] at hR h3 h4
  rw [hr] at h1
  rw [hw] at h2
  obtain ⟨gl, lc, rfl, hl1, hl2, _⟩ := own_form h1 (by omega)
  obtain ⟨gw, wc, rfl, hw1, hw2, _⟩ := own_form h2 (by omega)
  refine ⟨gl, gw, lc, wc, rfl, rfl, hR, hl2, hw2, fun i r a hr ha => ?_, fun x hx k a ca l hk => ?_, fun x hx k a ca l hk => ?_⟩
  · have h := (hR.1 i r hr).lt ha
    exact ⟨h.1, h.2, h3 gl rfl i r a hr ha, h4 gw rfl i r a hr ha⟩
  · have hlt := (List.getElem?_eq_some_iff.1 hk).1
    exact hx.cell ((World.ownsRow.cellAt h1 k (by omega)).trans (by rw [List.getElem?_map, hk]; rfl)) (fun e => e.1 rfl)
  · have hlt := (List.getElem?_eq_some_iff.1 hk).1
    exact hx.cell ((World.ownsRow.cellAt h2 k (by omega)).trans (by rw [List.getElem?_map, hk]; rfl)) (fun e => e.2 rfl)
theorem and3 (k : Nat) (h : k < 8) : bits .and .i64 (k : Int) 3 = ((k % 4 : Nat) : Int) := by
  match k, h with
  | 0, _ => rfl
  | 1, _ => rfl
  | 2, _ => rfl
  | 3, _ => rfl
  | 4, _ => rfl
  | 5, _ => rfl
  | 6, _ => rfl
  | 7, _ => rfl

set_option maxRecDepth 100000 in
set_option maxHeartbeats 8000000 in
theorem apart_any (bits : Int) (ka kb : List (List UInt8)) (A B : Option Addr) (n c m d : Nat) (w : World) (hn : n ≤ 9223372036854775807) (hr : RBs w w.heap.size A n ka) (hm : m ≤ 9223372036854775807) (hs : RBs w w.heap.size B m kb) :
    Calls Try.prog 6 #[.int .i64 bits, .slice A n c, .slice B m d] w fun e w' => e = .returned (.bool true) ∧ Below w.heap.size w w' := by
  have HR : Hid (∀ w', Below w.heap.size w w' → RBs w' w'.heap.size A n ka) := Lib.hid fun w' h => hr.later h
  have HS : Hid (∀ w', Below w.heap.size w w' → RBs w' w'.heap.size B m kb) := Lib.hid fun w' h => hs.later h
  obtain ⟨X, hX⟩ : ∃ F, F = bres bits ka := ⟨_, rfl⟩
  obtain ⟨Y, hY⟩ : ∃ F, F = bres bits kb := ⟨_, rfl⟩
  obtain ⟨U, hU⟩ : ∃ F, F = ures X Y := ⟨_, rfl⟩
  obtain ⟨V, hV⟩ : ∃ F, F = ures X X := ⟨_, rfl⟩
  obtain ⟨LX, hLX⟩ : ∃ L, L = X.length := ⟨_, rfl⟩
  obtain ⟨LY, hLY⟩ : ∃ L, L = Y.length := ⟨_, rfl⟩
  obtain ⟨LU, hLU⟩ : ∃ L, L = U.length := ⟨_, rfl⟩
  obtain ⟨LV, hLV⟩ : ∃ L, L = V.length := ⟨_, rfl⟩
  have lx : LX ≤ 2621446 := by rw [hLX, hX]; exact bres_len _ _
  have ly : LY ≤ 2621446 := by rw [hLY, hY]; exact bres_len _ _
  have lu : LU ≤ 2621446 := by rw [hLU, hU]; exact Nat.le_trans (ures_len _ _) (hLX ▸ lx)
  have lv : LV ≤ 2621446 := by rw [hLV, hV]; exact Nat.le_trans (ures_len _ _) (hLX ▸ lx)
  have XX := Lib.hid hX
  have XY := Lib.hid hY
  have XU := Lib.hid hU
  have XV := Lib.hid hV
  have XLX := Lib.hid hLX
  have XLY := Lib.hid hLY
  have XLU := Lib.hid hLU
  have XLV := Lib.hid hLV
  have tok1 : True := trivial
  clear hr hs hX hY hU hV hLX hLY hLU hLV
  go_enter Try.func6, Try.ntmps6
  go_wp2_with (go_at_call 12; have _t := tok1; refine (started_any _).mono ?_; rintro e w0 ⟨rfl, hb0⟩; have HB0 := Lib.hid hb0; clear tok1 hb0)
  go_loopw [8, 9, 10] (fun lv wv i wr => ∃ (q : Nat) (rs ws : RowL), q ≤ 2 ∧ i = .int .i64 q ∧ Hid (rs.length = 4 * q) ∧ Hid (ws.length = 4 * q) ∧ Hid (ApSt 5 24 w.heap.size wr lv wv rs ws []) ∧ Hid (rs.map (·.2.2) = contA X Y U V q) ∧ Hid (ws.map (·.2.2) = contA X Y U V q) ∧ Hid (Below w.heap.size w wr)) (fun _ _ i _ => 2 - (intOf i).toNat)
  case atStart => exact ⟨0, [], [], by omega, rfl, Lib.hid rfl, Lib.hid rfl, Lib.hid (ApSt.nil HB0.out.size), Lib.hid rfl, Lib.hid rfl, HB0⟩
  case round =>
    obtain ⟨q, rs, ws, hq, rfl, hrl, hwl, S0, HCR, HCW, HB⟩ := hrel
    obtain ⟨lw, hlw⟩ : ∃ v, v = u8 := ⟨_, rfl⟩
    obtain ⟨ww, hww⟩ : ∃ v, v = u9 := ⟨_, rfl⟩
    rw [← hlw, ← hww] at S0 ⊢
    clear hlw hww
    by_cases hlt : q < 2
    case neg =>
      have hd : decide ((q : Int) < 2) = false := decide_eq_false (by omega)
      have hq2 : q = 2 := by omega
      have hrl : rs.length = 8 := by have := hrl.out; omega
      have hwl : ws.length = 8 := by have := hwl.out; omega
      have HCR : Hid (rs.map (·.2.2) = contA X Y U V 2) := Lib.hid (by rw [← hq2]; exact HCR.out)
      have HCW : Hid (ws.map (·.2.2) = contA X Y U V 2) := Lib.hid (by rw [← hq2]; exact HCW.out)
      clear hq2
      obtain ⟨gl, gw, lc, wc, rfl, rfl, hRW, hgl, hgw, hoff, hlc, hwc⟩ := apart_out S0.out (by omega) (by omega)
      have R8 := Lib.hid hRW
      have HOFF := Lib.hid hoff
      have HLC := Lib.hid hlc
      have HWC := Lib.hid hwc
      have HAT := Lib.hid (cont_at HCR.out HCW.out)
      have HLE : Hid (∀ F : List UInt8, (F = X ∨ F = Y ∨ F = U ∨ F = V) → F.length ≤ 2621446) := Lib.hid fun F hF => by
        rcases hF with rfl | rfl | rfl | rfl
        · rw [← XLX.out]; exact lx
        · rw [← XLY.out]; exact ly
        · rw [← XLU.out]; exact lu
        · rw [← XLV.out]; exact lv
      have HW0 : Hid (∃ a c, ws[0]? = some (a, c, X)) := Lib.hid (cont_one HCW.out rfl)
      have HW1 : Hid (∃ a c, ws[1]? = some (a, c, Y)) := Lib.hid (cont_one HCW.out rfl)
      have HW2 : Hid (∃ a c, ws[2]? = some (a, c, U)) := Lib.hid (cont_one HCW.out rfl)
      obtain ⟨wo, rfl⟩ : ∃ wo : World, wo = wr := ⟨_, rfl⟩
      clear hRW hoff hlc hwc S0 HCR HCW hq hlt
      go_wp2_with fail
      have HBS : Hid (Below w.heap.size w wo) := HB
      have hwo : w.heap.size ≤ wo.heap.size := HB.out.size
      clear HB
      go_loopw [19] (fun i wr => ∃ k : Nat, k ≤ 8 ∧ i = .int .i64 k ∧ Hid (Below wo.heap.size wo wr)) (fun i _ => 8 - (intOf i).toNat)
      case atStart => exact ⟨0, by omega, rfl, Lib.hid (Below.refl _ _)⟩
      case round =>
        obtain ⟨k, hk, rfl, HBA⟩ := hrel
        by_cases hlt : k < 8
        case neg =>
          have hd8 : decide ((k : Int) < 8) = false := decide_eq_false (by omega)
          obtain ⟨wz, rfl⟩ : ∃ wz : World, wz = wr := ⟨_, rfl⟩
          have R8 := Lib.hid (R8.out.later HBA.out)
          have HOFF : Hid (∀ (i : Nat) r a, (rs ++ ws)[i]? = some r → r.1 = some a → w.heap.size ≤ a.block ∧ a.block < wz.heap.size ∧ a.block ≠ gl ∧ a.block ≠ gw) := Lib.hid fun i r a hr ha => by
            have h := HOFF.out i r a hr ha
            exact ⟨h.1, Nat.lt_of_lt_of_le h.2.1 HBA.out.size, h.2.2⟩
          have HLC := Lib.hid (fun x (hx : Chg (fun b => b ≠ gl ∧ b ≠ gw) wz x) => HLC.out x ((Below.chg0 HBA.out).trans hx))
          have HWC := Lib.hid (fun x (hx : Chg (fun b => b ≠ gl ∧ b ≠ gw) wz x) => HWC.out x ((Below.chg0 HBA.out).trans hx))
          have HB := Lib.hid (HBS.out.trans (HBA.out.mono hwo))
          have hgl := Nat.lt_of_lt_of_le hgl HBA.out.size
          have hgw := Nat.lt_of_lt_of_le hgw HBA.out.size
          clear HBA HBS
          go_wp2_with fail
          obtain ⟨ss, hss⟩ : ∃ ss, ss = rs ++ ws := ⟨_, rfl⟩
          have HEX : Hid (∀ k, k < 8 → ∃ (F : List UInt8) (a : Option Addr) (ca : Nat), F.length ≤ 2621446 ∧ ss[k]? = some (a, ca, F) ∧ ∀ x, Chg (fun b => b ≠ gl ∧ b ≠ gw) wz x → x.cell? ⟨gl, k, none⟩ = some (.slice a F.length ca)) := Lib.hid fun k hk => by
            obtain ⟨F, a, _, _, ca, _, _, hF, e1, _, _⟩ := HAT.out k hk
            exact ⟨F, a, ca, HLE.out F hF, by rw [hss, List.getElem?_append_left (by omega)]; exact e1, fun x hx => HLC.out x hx k _ _ _ e1⟩
          have HWX : Hid (∀ (j : Nat) (F : List UInt8), (∃ a c, ws[j]? = some (a, c, F)) → ∃ (a : Option Addr) (ca : Nat), ss[8 + j]? = some (a, ca, F) ∧ ∀ x, Chg (fun b => b ≠ gl ∧ b ≠ gw) wz x → x.cell? ⟨gw, j, none⟩ = some (.slice a F.length ca)) := Lib.hid fun j F h => by
            obtain ⟨a, ca, e⟩ := h
            exact ⟨a, ca, by rw [hss, List.getElem?_append_right (by omega), show 8 + j - rs.length = j from by omega]; exact e, fun x hx => HWC.out x hx j _ _ _ e⟩
          have HWX0 := Lib.hid (HWX.out 0 X HW0.out)
          have HWX1 := Lib.hid (HWX.out 1 Y HW1.out)
          have HWX2 := Lib.hid (HWX.out 2 U HW2.out)
          rw [← hss] at R8 HOFF
          have HBo : Hid (w.heap.size ≤ wz.heap.size) := Lib.hid HB.out.size
          clear hss HAT HLC HWC HW0 HW1 HW2 HWX HLE hk hlt hrl hwl hd hd8
          go_loopw [20] (fun i wr => ∃ k : Nat, k ≤ 8 ∧ i = .int .i64 k ∧ Hid (RowsB 5 w.heap.size wr (fillR mk11 ss k)) ∧ Hid (Chg (fun b => b ≠ gl ∧ b ≠ gw) wz wr) ∧ Hid (Below w.heap.size w wr)) (fun i _ => 8 - (intOf i).toNat)
          case atStart => exact ⟨0, by omega, rfl, Lib.hid (by rw [fillR_zero]; exact R8.out), Lib.hid (Chg.refl _ _), HB⟩
          case round =>
            clear HB
            obtain ⟨k, hk, rfl, HRW, HC, HB⟩ := hrel
            by_cases hlt : k < 8
            case neg =>
              have hd : decide ((k : Int) < 8) = false := decide_eq_false (by omega)
              have hk8 : k = 8 := by omega
              obtain ⟨r2, hr2⟩ : ∃ r2, r2 = fillR mk11 ss k := ⟨_, rfl⟩
              rw [← hr2] at HRW
              have HEX4 : Hid (∀ k, k < 8 → ∀ a ca (F : List UInt8), ss[k]? = some (a, ca, F) → r2[k]? = some (a, ca, List.replicate F.length (mk11 k))) := Lib.hid fun i hi a ca F h => by
                rw [hr2, fillR_get, h, hk8]; simp [hi]
              have HW4 : Hid (∀ (j : Nat) a ca (F : List UInt8), ss[8 + j]? = some (a, ca, F) → r2[8 + j]? = some (a, ca, F)) := Lib.hid fun j a ca F h => by
                rw [hr2, fillR_get, h, hk8]
                show some (if 8 + j < 8 then _ else _) = _
                rw [if_neg (by omega)]
              have HL4 : Hid (∀ (i : Nat) r a, r2[i]? = some r → r.1 = some a → a.block < wz.heap.size ∧ a.block ≠ gl ∧ a.block ≠ gw) := Lib.hid fun i r a hr ha => by
                rw [hr2, fillR_get] at hr
                cases h : ss[i]? with
                | none => rw [h] at hr; cases hr
                | some q =>
                  rw [h] at hr; injection hr with hr
                  have e : q.1 = some a := by
                    rw [← ha, ← hr]; split <;> rfl
                  exact (HOFF.out i q a h e).2
              obtain ⟨wp, rfl⟩ : ∃ wp : World, wp = wr := ⟨_, rfl⟩
              obtain ⟨H3, hH3⟩ : ∃ H, H = wp.heap.size := ⟨_, rfl⟩
              have hg3 : gl < H3 ∧ gw < H3 := by have := HC.out.size; omega
              have HL3 : Hid (∀ (i : Nat) r a, r2[i]? = some r → r.1 = some a → a.block < H3) := Lib.hid fun i r a hr ha => by have := (HL4.out i r a hr ha).1; have := HC.out.size; omega
              have HSZ3 : Hid (w.heap.size ≤ H3) := Lib.hid (by have := HB.out.size; omega)
              have hH3' : H3 ≤ wp.heap.size := by omega
              clear hr2 hH3 hk8 hk hlt
              go_wp2_with fail
              go_loopw [22, 23] (fun v i wr => ∃ (q : Nat) (vs : List Value), q ≤ 8 ∧ i = .int .i64 q ∧ wr.ownsRow H3 24 1 v q vs ∧ Hid (RowsB 5 w.heap.size wr r2) ∧ Hid (FamS wr v.ownBlock vs (moreL mk11 ss q)) ∧ Hid (Aps r2 q vs) ∧ Hid (Chg (fun b => b ≠ gl ∧ b ≠ gw) wz wr) ∧ Hid (Below w.heap.size w wr) ∧ Hid (H3 ≤ wr.heap.size)) (fun _ i _ => 8 - (intOf i).toNat)
              case atStart => exact ⟨0, [], by omega, rfl, own_nil _ _ _ _, HRW, Lib.hid FamS.nil, Lib.hid (Aps.nil _), HC, HB, Lib.hid hH3'⟩
              case round =>
                clear HRW HC HB hH3' hd
                obtain ⟨q, vs, hq, rfl, hown, HRW, HF, HA, HC, HB, HH⟩ := hrel
                by_cases hlt : q < 8
                case neg =>
                  have hd : decide ((q : Int) < 8) = false := decide_eq_false (by omega)
                  have hq8 : 8 ≤ q := by omega
                  obtain ⟨Am, cm, hv, _, _, _, hrm⟩ := own_slice hown
                  subst hv
                  obtain ⟨bm, om, rfl, hbm, hcm⟩ := hrm.2 (by omega)
                  obtain ⟨wq, rfl⟩ : ∃ wq : World, wq = wr := ⟨_, rfl⟩
                  have HCM : Hid (∀ x, Below wq.heap.size wq x → ∀ j u, vs[j]? = some u → x.cell? ⟨bm, om + j, none⟩ = some u) := Lib.hid fun x hx j u hu => (hx.cell (p := ⟨bm, om + j, none⟩) hbm).trans (hcm j u hu)
                  obtain ⟨wa0, wd0, e0, hw0⟩ := HWX0.out
                  obtain ⟨wa1, wd1, e1, hw1⟩ := HWX1.out
                  obtain ⟨wa2, wd2, e2, hw2⟩ := HWX2.out
                  rw [← XLX.out] at hw0
                  rw [← XLY.out] at hw1
                  rw [← XLU.out] at hw2
                  have W0 := Lib.hid (HRW.out.sl_at (HW4.out 0 _ _ _ e0) XLX.out.symm)
                  have W1 := Lib.hid (HRW.out.sl_at (HW4.out 1 _ _ _ e1) XLY.out.symm)
                  have W2 := Lib.hid (HRW.out.sl_at (HW4.out 2 _ _ _ e2) XLU.out.symm)
                  have C0 := Lib.hid hw0
                  have C1 := Lib.hid hw1
                  have C2 := Lib.hid hw2
                  have XSX : Hid ((X == X) = true) := Lib.hid (by simp)
                  have XSY : Hid ((Y == Y) = true) := Lib.hid (by simp)
                  have XSU : Hid ((U == U) = true) := Lib.hid (by simp)
                  clear hown hrm hbm hcm e0 e1 e2 hw0 hw1 hw2 hd
                  have tB : True := trivial
                  have tX : True := trivial
                  have tY : True := trivial
                  go_upto_region 32 with (first
                    | (go_at_call 13; have _t := tB; go_must (refine (build_any bits ka A n c _ hn (HR.out _ HB.out)).mono ?_); rintro e w3 hp; have hp := build_post hp; rw [← XX.out] at hp; obtain ⟨A3, c3, rfl, hS3, _, hb3⟩ := hp.at_ XLX.out.symm rfl; have HB3 := Lib.hid (HB.out.trans (hb3.mono HB.out.size)); have T3 := Lib.hid hS3; have K3 := Lib.hid hb3; clear tB hp hb3 hS3)
                    | (go_at_call 13; go_must (refine (build_any bits kb B m d _ hm (HS.out _ HB3.out)).mono ?_); rintro e w4 hp; have hp := build_post hp; rw [← XY.out] at hp; obtain ⟨A4, c4, rfl, hS4, _, hb4⟩ := hp.at_ XLY.out.symm rfl; have HB4 := Lib.hid (HB3.out.trans (hb4.mono HB3.out.size)); have T4 := Lib.hid hS4; have T3b := Lib.hid (T3.out.later hb4); have K4 := Lib.hid (K3.out.trans (hb4.mono K3.out.size)); clear hp hb4 hS4)
                    | (go_at_call 18; go_must (refine (union_any X Y A3 A4 LX c3 LY c4 _ (by omega) T3b.out.rb (by omega) T4.out.rb).mono ?_); rintro e w6 hp; have hp := union_post hp; rw [← XU.out] at hp; obtain ⟨A6, c6, rfl, hS6, _, hb6⟩ := hp.at_ XLU.out.symm rfl; have HB6 := Lib.hid (HB4.out.trans (hb6.mono HB4.out.size)); have T6 := Lib.hid hS6; have T3c := Lib.hid (T3b.out.later hb6); have T4c := Lib.hid (T4.out.later hb6); have K6 := Lib.hid (K4.out.trans (hb6.mono K4.out.size)); clear hp hb6 hS6))
                  have HC6 : Hid (Chg (fun b => b ≠ gl ∧ b ≠ gw) wz w6) := Lib.hid (HC.out.trans (Below.chg0 K6.out))
                  have g0 := C0.out w6 HC6.out
                  have g1 := C1.out w6 HC6.out
                  have g2 := C2.out w6 HC6.out
                  have HRW6 := Lib.hid (HRW.out.later K6.out)
                  have HF6 := Lib.hid (HF.out.later K6.out)
                  clear HRW HF
                  go_wp2_with (first
                    | (go_at_call 15; have _t := tX; go_must (refine (alike_any X X A3 wa0 LX c3 LX wd0 _ T3c.out.rb (W0.out.later K6.out).rb).mono ?_); rw [XSX.out]; rintro e wn ⟨rfl, rfl⟩; clear tX)
                    | (go_at_call 15; have _t := tY; go_must (refine (alike_any Y Y A4 wa1 LY c4 LY wd1 _ T4c.out.rb (W1.out.later K6.out).rb).mono ?_); rw [XSY.out]; rintro e wn ⟨rfl, rfl⟩; clear tY)
                    | (go_at_call 15; go_must (refine (alike_any U U A6 wa2 LU c6 LU wd2 _ T6.out.rb (W2.out.later K6.out).rb).mono ?_); rw [XSU.out]; rintro e wn ⟨rfl, rfl⟩))
                  clear g0 g1 g2 T3 T3b T3c T4 T4c T6 W0 W1 W2 C0 C1 C2
                  go_loop [30] (fun i => ∃ k : Nat, k ≤ 8 ∧ i = .int .i64 k) (fun i => 8 - (intOf i).toNat)
                  case atStart => exact ⟨0, by omega, rfl⟩
                  case round =>
                    obtain ⟨k, hk, rfl⟩ := hrel
                    by_cases hlt : k < 8
                    case neg =>
                      have hd : decide ((k : Int) < 8) = false := decide_eq_false (by omega)
                      go_wp2_with (go_at_call 12; go_must (refine (started_any _).mono ?_); rintro e w10 ⟨rfl, hb10⟩; have HB10 := Lib.hid (HB6.out.trans (hb10.mono HB6.out.size)); clear hb10)
                      go_ret
                      exact ⟨rfl, HB10.out⟩
                    have hd : decide ((k : Int) < 8) = true := decide_eq_true (by omega)
                    obtain ⟨F, a, ca, hlf, hsk, hcc⟩ := HEX.out k hlt
                    obtain ⟨LF, hLF⟩ : ∃ L, L = F.length := ⟨_, rfl⟩
                    have hrk := HEX4.out k hlt _ _ _ hsk
                    have hcell := hcc w6 HC6.out
                    obtain ⟨a', c', hvk, hsl⟩ := HF6.out.at_ (moreL_at mk11 (show k < q by omega) hsk)
                    rw [List.length_replicate] at hvk hsl
                    rw [← hLF] at hrk hcell hvk hsl hlf
                    have hcm := HCM.out w6 K6.out k _ hvk
                    have HRK := Lib.hid hrk
                    have HSL := Lib.hid hsl
                    have HMN := Lib.hid (mk11_nat k (by omega))
                    clear hsk hrk hvk hsl hcc hLF
                    go_wp2_with fail
                    go_loop [31] (fun i => ∃ j : Nat, j ≤ 2 * LF + 70 ∧ i = .int .i64 j) (fun i => 2 * LF + 70 - (intOf i).toNat)
                    case atStart => exact ⟨0, by omega, rfl⟩
                    case round =>
                      obtain ⟨j, hj, rfl⟩ := hrel
                      by_cases hjl : j < 2 * LF + 70
                      case neg =>
                        have hd2 : decide ((j : Int) < 2 * (LF : Int) + 70) = false := decide_eq_false (by omega)
                        go_wp2_with fail
                        go_round
                        case rel => exact ⟨k + 1, by omega, by go_num⟩
                        case measure => simp [intOf]; omega
                      have hd2 : decide ((j : Int) < 2 * (LF : Int) + 70) = true := decide_eq_true (by omega)
                      obtain ⟨b, o, x, e', _, hx, hcx⟩ := HSL.out.rb.at_ hjl
                      subst e'
                      rw [rep_at _ _ hjl] at hx
                      injection hx with hx
                      subst hx
                      rw [HMN.out] at hcx
                      by_cases hjL : j < LF
                      · have hd3 : decide ((j : Int) < (LF : Int)) = true := decide_eq_true (by omega)
                        obtain ⟨gk, rfl, _, _⟩ := HRW6.out.form HRK.out (by rw [List.length_replicate]; omega)
                        have hck := (HRW6.out.cell HRK.out (rep_at LF (mk11 k) hjL)).1
                        rw [HMN.out] at hck
                        go_wp2_with fail
                        go_round
                        case rel => exact ⟨j + 1, by omega, by go_num⟩
                        case measure => simp [intOf]; omega
                      · have hd3 : decide ((j : Int) < (LF : Int)) = false := decide_eq_false (by omega)
                        go_wp2_with fail
                        go_round
                        case rel => exact ⟨j + 1, by omega, by go_num⟩
                        case measure => simp [intOf]; omega
                have hd : decide ((q : Int) < 8) = true := decide_eq_true (by omega)
                obtain ⟨F, a, ca, hlf, hsk, hcc⟩ := HEX.out q hlt
                obtain ⟨LF, hLF⟩ : ∃ L, L = F.length := ⟨_, rfl⟩
                have hrk := HEX4.out q hlt _ _ _ hsk
                have hcell := hcc wr HC.out
                rw [← hLF] at hrk hcell hlf
                have HOK := Lib.hid (HRW.out.1 q _ hrk)
                have HRK := Lib.hid hrk
                have HMN := Lib.hid (mk11_nat q (by omega))
                have HGK : Hid (∀ b, a = some b → b.block ≠ gl ∧ b.block ≠ gw) := Lib.hid fun b hb => (HL4.out q _ b hrk hb).2
                have HHG : Hid (∀ b, a = some b → b.block < H3) := Lib.hid fun b hb => HL3.out q _ b hrk hb
                have HGE : Hid (∀ b, a = some b → w.heap.size ≤ b.block) := Lib.hid fun b hb => ((HRW.out.1 q _ hrk).lt hb).1
                obtain ⟨v, hv⟩ : ∃ v, v = u22 := ⟨_, rfl⟩
                rw [← hv] at hown HF ⊢
                have HO := Lib.hid hown
                have HLEN : Hid ((List.replicate LF (mk11 q) ++ List.replicate (LF + 70) (mk11 q)).length = 2 * LF + 70) := Lib.hid (by simp; omega)
                have HBS : Hid (w.heap.size ≤ wr.heap.size) := Lib.hid HB.out.size
                have HML : Hid (moreL mk11 ss (q + 1) = moreL mk11 ss q ++ [List.replicate LF (mk11 q) ++ List.replicate (LF + 70) (mk11 q)]) := Lib.hid (by
                  rw [moreL_succ mk11 hsk, ← hLF, List.replicate_append_replicate]; congr 3; omega)
                clear hv hown hsk hrk hcc hLF
                go_wp2_with (first
                  | (go_at_call 19; go_must (refine (grown_of w.heap.size (List.replicate LF (mk11 q)) a LF ca (mk11 q) _ HMN.out.symm _ HOK.out (List.length_replicate ..) (by omega) HBS.out).mono ?_); rintro e w2 ⟨A', c', rfl, hs2, ho2, hg2, hblk⟩; have HS2 := Lib.hid hs2; have HO2 := Lib.hid ho2; have HG2 := Lib.hid hg2; have HBK := Lib.hid hblk; clear hs2 ho2 hg2 hblk)
                  | (at_builtin; go_must (refine wpList_append_reads _ rfl (.tmp 132) (.tmp 141) rfl Try.keyss H3 v q vs rfl ((more_own2 HO.out HG2.out HHG.out).alloc _) (w2.heap.size + 1) (some ⟨w2.heap.size, 0, none⟩) 1 1 [.slice A' (2 * LF + 70) c'] rfl (lit_one8 _ _ _ _ rfl) (by simp [Value.oneCell']) (by unfold maxLen; omega) (by omega) (by have := HH.out; have := HG2.out.size; simp; omega) ?_); intro v3 w3 hown3 hg3 hat3; have HST := Lib.hid (more_step2 HLEN.out HRW.out HRK.out HF.out HA.out HO.out HL3.out HH.out HG2.out HO2.out HS2.out HBK.out hg3 hat3); have HO3 := Lib.hid hown3; clear hown3 hg3 hat3))
                have hO3 := HO3.out
                have HC3 := Lib.hid (HST.out.2.2.2 (fun b => b ≠ gl ∧ b ≠ gw) HGK.out fun b h => ⟨by omega, by omega⟩)
                have HB3 := Lib.hid (HB.out.trans ((HST.out.2.2.2 (fun b => w.heap.size ≤ b) HGE.out fun b h => by have := HSZ3.out; omega).below HBS.out fun b _ h => h))
                clear HO3
                go_roundw
                case rel => exact ⟨q + 1, vs ++ [.slice A' (2 * LF + 70) c'], by omega, by go_num, hO3, Lib.hid HST.out.1, Lib.hid (by rw [HML.out]; exact HST.out.2.1), Lib.hid HST.out.2.2.1, Lib.hid (HC.out.trans HC3.out), HB3, Lib.hid (Nat.le_trans HH.out HC3.out.size)⟩
                case measure => simp [intOf]; omega
            have hd : decide ((k : Int) < 8) = true := decide_eq_true (by omega)
            obtain ⟨F, a, ca, hlf, hsk, hcc⟩ := HEX.out k hlt
            obtain ⟨LF, hLF⟩ : ∃ L, L = F.length := ⟨_, rfl⟩
            rw [← hLF] at hcc hlf
            have XLF := Lib.hid hLF
            have hmv := mk11_v k (by omega)
            have HMV := Lib.hid hmv
            have HSK := Lib.hid hsk
            have HCC := Lib.hid hcc
            have HGB : Hid (∀ b, a = some b → w.heap.size ≤ b.block ∧ b.block ≠ gl ∧ b.block ≠ gw) := Lib.hid fun b hb => by
              have h := HOFF.out k _ b hsk hb
              exact ⟨h.1, h.2.2⟩
            have hcell := hcc wr HC.out
            clear hsk hmv hLF hcc
            go_wp2_with fail
            go_loopw [21] (fun q wr => ∃ j : Nat, j ≤ LF ∧ q = .int .i64 j ∧ Hid (RowsB 5 w.heap.size wr ((fillR mk11 ss k).set k (a, ca, fillTo F (mk11 k) j))) ∧ Hid (Chg (fun b => b ≠ gl ∧ b ≠ gw) wz wr) ∧ Hid (Below w.heap.size w wr)) (fun q _ => LF - (intOf q).toNat)
            case atStart => exact ⟨0, by omega, rfl, Lib.hid (by rw [fillR_start HSK.out]; exact HRW.out), HC, HB⟩
            case round =>
              obtain ⟨j, hj, rfl, HRJ, HCJ, HBJ⟩ := hrel
              have hcell2 := HCC.out wr HCJ.out
              clear hcell
              by_cases hjl : j < LF
              case neg =>
                obtain rfl : j = LF := by omega
                have HDONE : Hid (RowsB 5 w.heap.size wr (fillR mk11 ss (k + 1))) := Lib.hid (by
                  have h := HRJ.out
                  rw [XLF.out, fillR_done HSK.out] at h
                  exact h)
                have hd2 : decide ((j : Int) < (j : Int)) = false := decide_eq_false (by omega)
                go_wp2_with fail
                go_roundw
                case rel => exact ⟨k + 1, by omega, by go_num, HDONE, HCJ, HBJ⟩
                case measure => simp [intOf]; omega
              have hjF : j < F.length := by rw [← XLF.out]; exact hjl
              obtain ⟨gk, rfl, hgk1, hgk2⟩ := HRJ.out.form (i := k) (l := fillTo F (mk11 k) j) (by rw [List.getElem?_set, if_pos rfl, if_pos (by rw [fillR_len]; exact (List.getElem?_eq_some_iff.1 HSK.out).1)]) (by rw [fillTo_len _ (by omega)]; omega)
              have HG3 : Hid (gk ≠ gl ∧ gk ≠ gw) := Lib.hid (HGB.out _ rfl).2
              have HG1 := Lib.hid hgk1
              obtain ⟨u, hu⟩ : ∃ u, (fillTo F (mk11 k) j)[j]? = some u := ⟨_, List.getElem?_eq_getElem (by rw [fillTo_len _ (by omega)]; exact hjF)⟩
              obtain ⟨hcu, hfu⟩ := HRJ.out.cell (i := k) (g := gk) (c := ca) (by rw [List.getElem?_set, if_pos rfl, if_pos (by rw [fillR_len]; exact (List.getElem?_eq_some_iff.1 HSK.out).1)]) hu
              have hst := HRJ.out.fill HSK.out hjF
              rw [HMV.out] at hst
              have HST := Lib.hid hst
              clear hst hu hjF hgk1 hgk2
              go_wp2_with fail
              go_roundw
              case rel => exact ⟨j + 1, by omega, by go_num, Lib.hid HST.out.1, Lib.hid (HCJ.out.trans (HST.out.2.mono fun b _ e => by rw [e]; exact HG3.out)), Lib.hid (HBJ.out.setCell (p := ⟨gk, j, none⟩) HG1.out _)⟩
              case measure => simp [intOf]; omega
        have hd8 : decide ((k : Int) < 8) = true := decide_eq_true (by omega)
        obtain ⟨F, a, a1, a2, ca, c1, c2, _, e1, e2, e3⟩ := HAT.out k hlt
        have hc1 := HLC.out wr (Below.chg0 HBA.out) k _ _ _ e1
        have hc2 := HWC.out wr (Below.chg0 HBA.out) k _ _ _ e2
        have hc3 := HWC.out wr (Below.chg0 HBA.out) (k % 4) _ _ _ e3
        have T1 := Lib.hid (Sl.later (w' := wr) (R8.out.sl (i := k) (by rw [List.getElem?_append_left (by omega)]; exact e1)) HBA.out)
        have T2 := Lib.hid (Sl.later (w' := wr) (R8.out.sl (i := 8 + k) (by rw [List.getElem?_append_right (by omega), show 8 + k - rs.length = k from by omega]; exact e2)) HBA.out)
        have T3 := Lib.hid (Sl.later (w' := wr) (R8.out.sl (i := 8 + k % 4) (by rw [List.getElem?_append_right (by omega), show 8 + k % 4 - rs.length = k % 4 from by omega]; exact e3)) HBA.out)
        obtain ⟨LF, hLF⟩ : ∃ L, L = F.length := ⟨_, rfl⟩
        rw [← hLF] at hc1 hc2 hc3 T1 T2 T3
        have XS : Hid ((F == F) = true) := Lib.hid (by simp)
        have tok2 : True := trivial
        clear e1 e2 e3 hLF
        obtain ⟨r, hr⟩ : ∃ r, r = k % 4 := ⟨_, rfl⟩
        have hand := and3 k hlt
        rw [← hr] at hand hc3
        have hr4 : r < 4 := by omega
        have hr5 : (r : Int) < 8 := by omega
        have hr6 : (0 : Int) ≤ (r : Int) := by omega
        have hk5 : (k : Int) < 8 := by omega
        have hk6 : (0 : Int) ≤ (k : Int) := by omega
        clear hr
        go_wp2_with fail
        go_region_held3 (fun w' => w'.cell? ⟨gl, k, none⟩ = some (.slice a LF ca) ∧ w'.cell? ⟨gw, k, none⟩ = some (.slice a1 LF c1) ∧ w'.cell? ⟨gw, r, none⟩ = some (.slice a2 LF c2) ∧ Below wr.heap.size wr w') (first | assumption | exact ⟨hc1, hc2, hc3, (Below.refl _ _).drew⟩) (first
          | (go_at_call 15; have _t := tok2; refine (alike_any F F a a1 LF ca LF c1 _ (T1.out.later (And.right (And.right (And.right ‹_ ∧ _ ∧ _ ∧ Below wr.heap.size wr _›)))).rb (T2.out.later (And.right (And.right (And.right ‹_ ∧ _ ∧ _ ∧ Below wr.heap.size wr _›)))).rb).mono ?_; rw [XS.out]; rintro e wn ⟨rfl, rfl⟩; clear tok2)
          | (go_at_call 15; refine (alike_any F F a1 a2 LF c1 LF c2 _ (T2.out.later (And.right (And.right (And.right ‹_ ∧ _ ∧ _ ∧ Below wr.heap.size wr _›)))).rb (T3.out.later (And.right (And.right (And.right ‹_ ∧ _ ∧ _ ∧ Below wr.heap.size wr _›)))).rb).mono ?_; rw [XS.out]; rintro e wn ⟨rfl, rfl⟩))
        all_goals
          have HB9 := Lib.hid (HBA.out.trans ((And.right (And.right (And.right ‹_ ∧ _ ∧ _ ∧ Below wr.heap.size wr _›))).mono HBA.out.size))
          go_wp2_with fail
          go_roundw
          case rel => exact ⟨k + 1, by omega, by go_num, HB9⟩
          case measure => simp [intOf]; omega
    have hd : decide ((q : Int) < 2) = true := decide_eq_true (by omega)
    have tB : True := trivial
    have tU : True := trivial
    have tC1 : True := trivial
    have tC2 : True := trivial
    have tC3 : True := trivial
    go_wp2_with (first
      | (go_at_call 13; have _t := tB; go_must (refine (build_any bits ka A n c _ hn (HR.out _ HB.out)).mono ?_); rintro e w3 hp; have hp := build_post hp; rw [← XX.out] at hp; obtain ⟨A3, c3, rfl, _, hO3, hb3⟩ := hp.at_ XLX.out.symm rfl; have HB3 := Lib.hid (HB.out.trans (hb3.mono HB.out.size)); have hS := S0.out.fresh hb3 hO3; have S1 : Hid (ApSt 5 24 w.heap.size w3 lw ww rs ws [(A3, c3, X)]) := Lib.hid hS; clear hS; clear tB hp hb3 hO3)
      | (go_at_call 13; go_must (refine (build_any bits kb B m d _ hm (HS.out _ HB3.out)).mono ?_); rintro e w4 hp; have hp := build_post hp; rw [← XY.out] at hp; obtain ⟨A4, c4, rfl, _, hO4, hb4⟩ := hp.at_ XLY.out.symm rfl; have HB4 := Lib.hid (HB3.out.trans (hb4.mono HB3.out.size)); have hS := S1.out.fresh hb4 hO4; have S2 : Hid (ApSt 5 24 w.heap.size w4 lw ww rs ws [(A3, c3, X), (A4, c4, Y)]) := Lib.hid hS; clear hS; clear hp hb4 hO4)
      | (go_at_call 18; have _t := tU; go_must (refine (union_any X Y A3 A4 LX c3 LY c4 _ (by omega) (S2.out.mem_sl (A := A3) (c := c3) (l := X) (by simp) XLX.out.symm).rb (by omega) (S2.out.mem_sl (A := A4) (c := c4) (l := Y) (by simp) XLY.out.symm).rb).mono ?_); rintro e w6 hp; have hp := union_post hp; rw [← XU.out] at hp; obtain ⟨A6, c6, rfl, _, hO6, hb6⟩ := hp.at_ XLU.out.symm rfl; have HB6 := Lib.hid (HB4.out.trans (hb6.mono HB4.out.size)); have hS := S2.out.fresh hb6 hO6; have S3 : Hid (ApSt 5 24 w.heap.size w6 lw ww rs ws [(A3, c3, X), (A4, c4, Y), (A6, c6, U)]) := Lib.hid hS; clear hS; clear tU hp hb6 hO6)
      | (go_at_call 18; go_must (refine (union_any X X A3 A3 LX c3 LX c3 _ (by omega) (S3.out.mem_sl (A := A3) (c := c3) (l := X) (by simp) XLX.out.symm).rb (by omega) (S3.out.mem_sl (A := A3) (c := c3) (l := X) (by simp) XLX.out.symm).rb).mono ?_); rintro e w7 hp; have hp := union_post hp; rw [← XV.out] at hp; obtain ⟨A7, c7, rfl, _, hO7, hb7⟩ := hp.at_ XLV.out.symm rfl; have HB7 := Lib.hid (HB6.out.trans (hb7.mono HB6.out.size)); have hS := S3.out.fresh hb7 hO7; have S4 : Hid (ApSt 5 24 w.heap.size w7 lw ww rs ws [(A3, c3, X), (A4, c4, Y), (A6, c6, U), (A7, c7, V)]) := Lib.hid hS; clear hS; have tok2 : True := trivial; clear hp hb7 hO7)
      | (at_builtin; have _t := tok2; go_must (refine wpList_append_reads _ rfl (.tmp 61) (.tmp 66) rfl Try.keyss w.heap.size lw rs.length (rs.map valR) rfl (S4.out.ol.alloc _) (w7.heap.size + 1) (some ⟨w7.heap.size, 0, none⟩) 4 4 [.slice A3 LX c3, .slice A4 LY c4, .slice A6 LU c6, .slice A7 LV c7] rfl (lit4 _ _ _ _ _ _ _ rfl) (by simp [Value.oneCell']) (by have := hrl.out; unfold maxLen; omega) (by have := hrl.out; omega) (by have := HB7.out.size; simp; omega) ?_); intro lw5 w8 hown8 hg8 hat8; have HB8 := Lib.hid ((HB7.out.alloc HB7.out.size (.cells #[.slice A3 LX c3, .slice A4 LY c4, .slice A6 LU c6, .slice A7 LV c7] 24)).grown hg8 (by have := HB7.out.size; simp; omega) (fun g hg => (World.ownsRow.lt S4.out.ol g hg).1)); have S5 := Lib.hid (S4.out.appL (v' := lw5) rfl (by simp only [List.map_cons, List.map_nil, valR, ← XLX.out, ← XLY.out, ← XLU.out, ← XLV.out]) hown8 hg8 hat8); clear tok2 hown8 hg8 hat8)
      | (go_at_call 20; have _t := tC1; go_must (refine (copied_any X A3 LX c3 _ (by omega) (S5.out.mem_sl (A := A3) (c := c3) (l := X) (by simp) XLX.out.symm).rb).mono ?_); rintro e w9 hp; obtain ⟨A9, c9, rfl, _, hO9, hb9⟩ := hp.at_ XLX.out.symm; have HB9 := Lib.hid (HB8.out.trans (hb9.mono HB8.out.size)); have hS := S5.out.fresh hb9 hO9; have S6 : Hid (ApSt 5 24 w.heap.size w9 lw5 ww (rs ++ [(A3, c3, X), (A4, c4, Y), (A6, c6, U), (A7, c7, V)]) ws [(A9, c9, X)]) := Lib.hid hS; clear hS; clear tC1 hp hb9 hO9)
      | (go_at_call 20; have _t := tC2; go_must (refine (copied_any Y A4 LY c4 _ (by omega) (S6.out.mem_sl (A := A4) (c := c4) (l := Y) (by simp) XLY.out.symm).rb).mono ?_); rintro e w10 hp; obtain ⟨A10, c10, rfl, _, hO10, hb10⟩ := hp.at_ XLY.out.symm; have HB10 := Lib.hid (HB9.out.trans (hb10.mono HB9.out.size)); have hS := S6.out.fresh hb10 hO10; have S7 : Hid (ApSt 5 24 w.heap.size w10 lw5 ww (rs ++ [(A3, c3, X), (A4, c4, Y), (A6, c6, U), (A7, c7, V)]) ws [(A9, c9, X), (A10, c10, Y)]) := Lib.hid hS; clear hS; clear tC2 hp hb10 hO10)
      | (go_at_call 20; have _t := tC3; go_must (refine (copied_any U A6 LU c6 _ (by omega) (S7.out.mem_sl (A := A6) (c := c6) (l := U) (by simp) XLU.out.symm).rb).mono ?_); rintro e w11 hp; obtain ⟨A11, c11, rfl, _, hO11, hb11⟩ := hp.at_ XLU.out.symm; have HB11 := Lib.hid (HB10.out.trans (hb11.mono HB10.out.size)); have hS := S7.out.fresh hb11 hO11; have S8 : Hid (ApSt 5 24 w.heap.size w11 lw5 ww (rs ++ [(A3, c3, X), (A4, c4, Y), (A6, c6, U), (A7, c7, V)]) ws [(A9, c9, X), (A10, c10, Y), (A11, c11, U)]) := Lib.hid hS; clear hS; clear tC3 hp hb11 hO11)
      | (go_at_call 20; go_must (refine (copied_any V A7 LV c7 _ (by omega) (S8.out.mem_sl (A := A7) (c := c7) (l := V) (by simp) XLV.out.symm).rb).mono ?_); rintro e w12 hp; obtain ⟨A12, c12, rfl, _, hO12, hb12⟩ := hp.at_ XLV.out.symm; have HB12 := Lib.hid (HB11.out.trans (hb12.mono HB11.out.size)); have hS := S8.out.fresh hb12 hO12; have S9 : Hid (ApSt 5 24 w.heap.size w12 lw5 ww (rs ++ [(A3, c3, X), (A4, c4, Y), (A6, c6, U), (A7, c7, V)]) ws [(A9, c9, X), (A10, c10, Y), (A11, c11, U), (A12, c12, V)]) := Lib.hid hS; clear hS; clear hp hb12 hO12)
      | (at_builtin; go_must (refine wpList_append_reads _ rfl (.tmp 68) (.tmp 77) rfl Try.keyss w.heap.size ww ws.length (ws.map valR) rfl (S9.out.ow.alloc _) (w12.heap.size + 1) (some ⟨w12.heap.size, 0, none⟩) 4 4 [.slice A9 LX c9, .slice A10 LY c10, .slice A11 LU c11, .slice A12 LV c12] rfl (lit4 _ _ _ _ _ _ _ rfl) (by simp [Value.oneCell']) (by have := hwl.out; unfold maxLen; omega) (by have := hwl.out; omega) (by have := HB12.out.size; simp; omega) ?_); intro ww5 w13 hown13 hg13 hat13; have HB13 := Lib.hid ((HB12.out.alloc HB12.out.size (.cells #[.slice A9 LX c9, .slice A10 LY c10, .slice A11 LU c11, .slice A12 LV c12] 24)).grown hg13 (by have := HB12.out.size; simp; omega) (fun g hg => (World.ownsRow.lt S9.out.ow g hg).1)); have S10 := Lib.hid (S9.out.appW (v' := ww5) rfl (by simp only [List.map_cons, List.map_nil, valR, ← XLX.out, ← XLY.out, ← XLU.out, ← XLV.out]) hown13 hg13 hat13); clear hown13 hg13 hat13))
    go_roundw
    case rel => exact ⟨q + 1, _, _, by omega, by go_num, Lib.hid (by rw [List.length_append, hrl.out]; rfl), Lib.hid (by rw [List.length_append, hwl.out]; rfl), S10, Lib.hid (by rw [List.map_append, HCR.out, contA_succ]; rfl), Lib.hid (by rw [List.map_append, HCW.out, contA_succ]; rfl), HB13⟩
    case measure => simp [intOf]; omega

end Go.Proofs.Ythjjihipodhkiaa
