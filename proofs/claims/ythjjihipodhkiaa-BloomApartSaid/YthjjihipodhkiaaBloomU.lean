/-
  BloomUnions, walked.
-/
import Derived.Test.YthjjihipodhkiaaBloomW9
import Derived.Test.YthjjihipodhkiaaBloomP7
import Derived.Test.YthjjihipodhkiaaKit4
namespace Go.Proofs.Ythjjihipodhkiaa
open Go.RowKit

/-- What Build hands out, what Union hands out; each in one form. -/
def bres (bits : Int) (ks : List (List UInt8)) : List UInt8 := if buildE bits ks = 0 then buildB bits ks else []
theorem build_post {bits : Int} {ks : List (List UInt8)} {w w' : World} {e : Ending} (h : BuildPost bits ks w e w') : BytesPost2 5 (bres bits ks) (buildE bits ks) w e w' := by
  rcases h with ⟨h0, g, rfl, h1, h2⟩ | ⟨h0, rfl, h2⟩
  · unfold bres
    rw [if_pos h0, h0]
    exact bytes_post2 h1 h2
  · unfold bres
    rw [if_neg h0]
    exact bytes_none2 h2
def ures (a b : List UInt8) : List UInt8 := if unionE a b = 0 then orB a b else []
theorem union_post {a b : List UInt8} {w w' : World} {e : Ending} (h : UnionPost a b w e w') : BytesPost2 5 (ures a b) (unionE a b) w e w' := by
  rcases h with ⟨h0, g, rfl, h1, h2⟩ | ⟨h0, rfl, h2⟩
  · unfold ures
    rw [if_pos h0, h0]
    have hl : (orB a b).length = a.length := orB_length a b
    rw [← hl] at h1 ⊢
    exact bytes_post2 h1 h2
  · unfold ures
    rw [if_neg h0]
    exact bytes_none2 h2

set_option maxRecDepth 100000 in
set_option maxHeartbeats 4000000 in
theorem unions_err (bits : Int) (a b : List (List UInt8)) (A B : Option Addr) (n c m d : Nat) (w : World) (hn : n ≤ 1048576) (hr : RBs w w.heap.size A n a) (hm : m ≤ 1048576) (hs : RBs w w.heap.size B m b)
    (h0 : buildE bits a ≠ 0 ∨ buildE bits b ≠ 0 ∨ buildE bits (a ++ b) ≠ 0) :
    Calls Try.prog 4 #[.int .i64 bits, .slice A n c, .slice B m d] w fun e w' => e = .returned (.bool true) ∧ Below w.heap.size w w' := by
  have HR : Hid (∀ w', Below w.heap.size w w' → RBs w' w'.heap.size A n a) := Lib.hid fun w' h => hr.later h
  have HS : Hid (∀ w', Below w.heap.size w w' → RBs w' w'.heap.size B m b) := Lib.hid fun w' h => hs.later h
  obtain ⟨vs, hRa, hKa⟩ := hr.kv
  obtain ⟨us, hRb, hKb⟩ := hs.kv
  have R1 := Lib.hid hRa
  have R2 := Lib.hid hRb
  have O1 := Lib.hid hKa.one
  have O2 := Lib.hid hKb.one
  have HK := Lib.hid (hKa.app hKb)
  obtain ⟨ea, hea⟩ : ∃ x, x = buildE bits a := ⟨_, rfl⟩
  obtain ⟨eb, heb⟩ : ∃ x, x = buildE bits b := ⟨_, rfl⟩
  obtain ⟨el, hel⟩ : ∃ x, x = buildE bits (a ++ b) := ⟨_, rfl⟩
  rw [← hea, ← heb, ← hel] at h0
  have HEA := Lib.hid hea
  have HEB := Lib.hid heb
  have HEL := Lib.hid hel
  have tok1 : True := trivial
  have tok2 : True := trivial
  have tok3 : True := trivial
  clear hr hs hRa hRb hKa hKb hea heb hel
  have hd : ((ea : Int) != 0) = true ∨ (((ea : Int) != 0) = false ∧ ((eb : Int) != 0) = true) ∨ (((ea : Int) != 0) = false ∧ ((eb : Int) != 0) = false ∧ ((el : Int) != 0) = true) := by
    by_cases h1 : ea = 0
    · by_cases h2 : eb = 0
      · exact .inr (.inr ⟨by simp [h1], by simp [h2], by rw [bne_iff_ne]; omega⟩)
      · exact .inr (.inl ⟨by simp [h1], by rw [bne_iff_ne]; omega⟩)
    · exact .inl (by rw [bne_iff_ne]; omega)
  clear h0
  rcases hd with d1 | ⟨d1, d2⟩ | ⟨d1, d2, d3⟩
  all_goals
    go_enter Try.func4, Try.ntmps4
    go_wp2_with (first
      | (go_at_call 14; refine (num_any _ _).mono ?_; rintro e wn ⟨rfl, rfl⟩)
      | (go_at_call 12; refine (started_any _).mono ?_; rintro e w0 ⟨rfl, hb0⟩; have HB0 := Lib.hid hb0; clear hb0)
      | (at_builtin; have _t := tok1; go_must (refine wpList_append_reads _ rfl (.tmp 20) (.tmp 21) rfl Try.keyss w.heap.size (.slice none 0 0) 0 [] rfl (own_nil _ _ _ _) _ A n c vs rfl (Reads.below R1.out HB0.out) O1.out (by unfold maxLen; omega) (by omega) HB0.out.size ?_); intro v1 w1 hown1 hg1 hat1; clear tok1; have HB1 := Lib.hid (below_app HB0.out (own_nil _ w.heap.size 24 1) hg1 HB0.out.size (Nat.le_refl _)))
      | (at_builtin; go_must (refine wpList_append_reads _ rfl (.tmp 23) (.tmp 24) rfl Try.keyss w.heap.size v1 (0 + n) ([] ++ vs) rfl hown1 _ B m d us rfl (Reads.below R2.out HB1.out) O2.out (by unfold maxLen; omega) (by omega) HB1.out.size ?_); intro v2 w2 hown2 hg2 hat2; have HB2 := Lib.hid (below_app HB1.out hown1 hg2 HB1.out.size (Nat.le_refl _)); rw [List.nil_append, Nat.zero_add] at hown2; obtain ⟨A2, c2, rfl, hl1, hl2, _, hrl⟩ := own_slice hown2; have HL := Lib.hid ((HK.out.later HB2.out).rbs hrl); clear hown1 hg1 hat1 hown2 hg2 hat2 hrl hl1 hl2)
      | (go_at_call 13; have _t := tok2; go_must (refine (build_any bits a A n c _ (by omega) (HR.out _ HB2.out)).mono ?_); rintro e w3 hp; have hp := build_post hp; rw [← HEA.out] at hp; obtain ⟨A3, c3, rfl, hS3, _, hb3⟩ := hp.at_ rfl rfl; have HB3 := Lib.hid (HB2.out.trans (hb3.mono HB2.out.size)); have HL3 := Lib.hid (HL.out.later hb3); clear tok2 hp hS3 hb3)
      | (go_at_call 13; have _t := tok3; go_must (refine (build_any bits b B m d _ (by omega) (HS.out _ HB3.out)).mono ?_); rintro e w4 hp; have hp := build_post hp; rw [← HEB.out] at hp; obtain ⟨A4, c4, rfl, hS4, _, hb4⟩ := hp.at_ rfl rfl; have HB4 := Lib.hid (HB3.out.trans (hb4.mono HB3.out.size)); have HL4 := Lib.hid (HL3.out.later hb4); clear tok3 hp hS4 hb4)
      | (go_at_call 13; go_must (refine (build_any bits (a ++ b) A2 (n + m) c2 _ (by omega) HL4.out).mono ?_); rintro e w5 hp; have hp := build_post hp; rw [← HEL.out] at hp; obtain ⟨A5, c5, rfl, hS5, _, hb5⟩ := hp.at_ rfl rfl; have HB5 := Lib.hid (HB4.out.trans (hb5.mono HB4.out.size)); clear hp hS5 hb5))
    go_ret
    exact ⟨rfl, HB5.out⟩

theorem unions_facts {bits : Int} {a b : List (List UInt8)} (ha : buildE bits a = 0) (hb : buildE bits b = 0) (hl : buildE bits (a ++ b) = 0) :
    unionE (bres bits b) (bres bits a) = unionE (bres bits a) (bres bits b) ∧ ures (bres bits b) (bres bits a) = ures (bres bits a) (bres bits b) ∧
    ((unionE (bres bits a) (bres bits b) = 0 ∧ (bres bits a).length = (bres bits b).length) ∨ (unionE (bres bits a) (bres bits b) = 63 ∧ (bres bits a).length ≠ (bres bits b).length)) ∧
    (unionE (bres bits a) (bres bits b) = 0 → (bres bits a).length = (bres bits (a ++ b)).length → ures (bres bits a) (bres bits b) = bres bits (a ++ b)) := by
  have e1 : bres bits a = buildB bits a := by unfold bres; rw [if_pos ha]
  have e2 : bres bits b = buildB bits b := by unfold bres; rw [if_pos hb]
  have e3 : bres bits (a ++ b) = buildB bits (a ++ b) := by unfold bres; rw [if_pos hl]
  rw [e1, e2, e3]
  have u1 := unions_E ha hb
  have u2 := unions_E hb ha
  by_cases hm : buildM bits a = buildM bits b
  · rw [if_pos hm] at u1
    rw [if_pos hm.symm] at u2
    refine ⟨by rw [u1, u2], ?_, .inl ⟨u1, buildM_len.1 hm⟩, fun _ hL => ?_⟩
    · unfold ures
      rw [if_pos u1, if_pos u2, unions_same hm]
    · unfold ures
      rw [if_pos u1, unions_all hm (buildM_len.2 hL)]
  · rw [if_neg hm] at u1
    rw [if_neg (fun h => hm h.symm)] at u2
    refine ⟨by rw [u1, u2], ?_, .inr ⟨u1, fun h => hm (buildM_len.2 h)⟩, fun h => by rw [u1] at h; cases h⟩
    unfold ures
    rw [if_neg (by rw [u2]; decide), if_neg (by rw [u1]; decide)]

set_option maxRecDepth 100000 in
set_option maxHeartbeats 4000000 in
theorem unions_ok (bits : Int) (a b : List (List UInt8)) (A B : Option Addr) (n c m d : Nat) (w : World) (hn : n ≤ 1048576) (hr : RBs w w.heap.size A n a) (hm : m ≤ 1048576) (hs : RBs w w.heap.size B m b)
    (ha : buildE bits a = 0) (hb : buildE bits b = 0) (hl : buildE bits (a ++ b) = 0) :
    Calls Try.prog 4 #[.int .i64 bits, .slice A n c, .slice B m d] w fun e w' => e = .returned (.bool true) ∧ Below w.heap.size w w' := by
  obtain ⟨f1, f2, f3, f4⟩ := unions_facts ha hb hl
  have HR : Hid (∀ w', Below w.heap.size w w' → RBs w' w'.heap.size A n a) := Lib.hid fun w' h => hr.later h
  have HS : Hid (∀ w', Below w.heap.size w w' → RBs w' w'.heap.size B m b) := Lib.hid fun w' h => hs.later h
  obtain ⟨vs, hRa, hKa⟩ := hr.kv
  obtain ⟨us, hRb, hKb⟩ := hs.kv
  have R1 := Lib.hid hRa
  have R2 := Lib.hid hRb
  have O1 := Lib.hid hKa.one
  have O2 := Lib.hid hKb.one
  have HK := Lib.hid (hKa.app hKb)
  have HEA : Hid ((buildE bits a : Int) = 0) := Lib.hid (by rw [ha]; rfl)
  have HEB : Hid ((buildE bits b : Int) = 0) := Lib.hid (by rw [hb]; rfl)
  have HEL : Hid ((buildE bits (a ++ b) : Int) = 0) := Lib.hid (by rw [hl]; rfl)
  obtain ⟨F, hF⟩ : ∃ x, x = bres bits a := ⟨_, rfl⟩
  obtain ⟨G, hG⟩ : ∃ x, x = bres bits b := ⟨_, rfl⟩
  obtain ⟨L, hL⟩ : ∃ x, x = bres bits (a ++ b) := ⟨_, rfl⟩
  rw [← hF, ← hG] at f1 f2 f3 f4
  rw [← hL] at f4
  obtain ⟨E, hE⟩ : ∃ x, x = unionE F G := ⟨_, rfl⟩
  obtain ⟨U, hU⟩ : ∃ x, x = ures F G := ⟨_, rfl⟩
  rw [← hE] at f1 f3 f4
  rw [← hU] at f2 f4
  obtain ⟨LF, hLF⟩ : ∃ x, x = F.length := ⟨_, rfl⟩
  obtain ⟨LG, hLG⟩ : ∃ x, x = G.length := ⟨_, rfl⟩
  obtain ⟨LL, hLL⟩ : ∃ x, x = L.length := ⟨_, rfl⟩
  obtain ⟨LU, hLU⟩ : ∃ x, x = U.length := ⟨_, rfl⟩
  rw [← hLF, ← hLG] at f3
  rw [← hLF, ← hLL] at f4
  have XF := Lib.hid hF
  have XG := Lib.hid hG
  have XL := Lib.hid hL
  have XE := Lib.hid hE
  have XE2 := Lib.hid f1
  have XU := Lib.hid hU
  have XU2 := Lib.hid f2
  have XLF := Lib.hid hLF
  have XLG := Lib.hid hLG
  have XLL := Lib.hid hLL
  have XLU := Lib.hid hLU
  have XS : Hid ((U == U) = true) := Lib.hid (by simp)
  have hcase : ((E == 0) = true ∧ (E != 0) = false ∧ ((LF : Int) == LG) = true ∧ ((LF : Int) != LL) = true) ∨ ((E == 0) = true ∧ (E != 0) = false ∧ ((LF : Int) == LG) = true ∧ ((LF : Int) != LL) = false) ∨ ((E == 0) = false ∧ (E != 0) = true ∧ ((LF : Int) == LG) = false) := by
    rcases f3 with ⟨h1, h2⟩ | ⟨h1, h2⟩
    · by_cases h3 : LF = LL
      · exact .inr (.inl ⟨by simp [h1], by simp [h1], by simp [h2], by simp [h3]⟩)
      · exact .inl ⟨by simp [h1], by simp [h1], by simp [h2], by rw [bne_iff_ne]; omega⟩
    · exact .inr (.inr ⟨by simp [h1], by simp [h1], by rw [beq_eq_false_iff_ne]; omega⟩)
  have X4 : Hid ((E != 0) = false → ((LF : Int) != LL) = false → U = L) := Lib.hid fun h1 h2 => f4 (by simpa using h1) (by
    have h3 : (LF : Int) = LL := by simpa using h2
    omega)
  have tok1 : True := trivial
  have tok2 : True := trivial
  have tok3 : True := trivial
  have tok4 : True := trivial
  have tok5 : True := trivial
  clear hr hs hRa hRb hKa hKb ha hb hl hF hG hL hE hU f1 f2 f3 f4 hLF hLG hLL hLU
  rcases hcase with ⟨d1, d2, d3, d4⟩ | ⟨d1, d2, d3, d4⟩ | ⟨d1, d2, d3⟩
  all_goals
    go_enter Try.func4, Try.ntmps4
    go_wp2_with (first
      | (go_at_call 14; refine (num_any _ _).mono ?_; rintro e wn ⟨rfl, rfl⟩)
      | (go_at_call 12; refine (started_any _).mono ?_; rintro e w0 ⟨rfl, hb0⟩; have HB0 := Lib.hid hb0; clear hb0)
      | (at_builtin; have _t := tok1; go_must (refine wpList_append_reads _ rfl (.tmp 20) (.tmp 21) rfl Try.keyss w.heap.size (.slice none 0 0) 0 [] rfl (own_nil _ _ _ _) _ A n c vs rfl (Reads.below R1.out HB0.out) O1.out (by unfold maxLen; omega) (by omega) HB0.out.size ?_); intro v1 w1 hown1 hg1 hat1; clear tok1; have HB1 := Lib.hid (below_app HB0.out (own_nil _ w.heap.size 24 1) hg1 HB0.out.size (Nat.le_refl _)))
      | (at_builtin; go_must (refine wpList_append_reads _ rfl (.tmp 23) (.tmp 24) rfl Try.keyss w.heap.size v1 (0 + n) ([] ++ vs) rfl hown1 _ B m d us rfl (Reads.below R2.out HB1.out) O2.out (by unfold maxLen; omega) (by omega) HB1.out.size ?_); intro v2 w2 hown2 hg2 hat2; have HB2 := Lib.hid (below_app HB1.out hown1 hg2 HB1.out.size (Nat.le_refl _)); rw [List.nil_append, Nat.zero_add] at hown2; obtain ⟨A2, c2, rfl, hl1, hl2, _, hrl⟩ := own_slice hown2; have HL := Lib.hid ((HK.out.later HB2.out).rbs hrl); clear hown1 hg1 hat1 hown2 hg2 hat2 hrl hl1 hl2)
      | (go_at_call 13; have _t := tok2; go_must (refine (build_any bits a A n c _ (by omega) (HR.out _ HB2.out)).mono ?_); rintro e w3 hp; have hp := build_post hp; rw [← XF.out] at hp; obtain ⟨A3, c3, rfl, hS3, _, hb3⟩ := hp.at_ XLF.out.symm HEA.out; have HB3 := Lib.hid (HB2.out.trans (hb3.mono HB2.out.size)); have HL3 := Lib.hid (HL.out.later hb3); have S3 := Lib.hid hS3; clear tok2 hp hS3 hb3)
      | (go_at_call 13; have _t := tok3; go_must (refine (build_any bits b B m d _ (by omega) (HS.out _ HB3.out)).mono ?_); rintro e w4 hp; have hp := build_post hp; rw [← XG.out] at hp; obtain ⟨A4, c4, rfl, hS4, _, hb4⟩ := hp.at_ XLG.out.symm HEB.out; have HB4 := Lib.hid (HB3.out.trans (hb4.mono HB3.out.size)); have HL4 := Lib.hid (HL3.out.later hb4); have S3b := Lib.hid (S3.out.later hb4); have S4 := Lib.hid hS4; clear tok3 hp hS4 hb4)
      | (go_at_call 13; go_must (refine (build_any bits (a ++ b) A2 (n + m) c2 _ (by omega) HL4.out).mono ?_); rintro e w5 hp; have hp := build_post hp; rw [← XL.out] at hp; obtain ⟨A5, c5, rfl, hS5, _, hb5⟩ := hp.at_ XLL.out.symm HEL.out; have HB5 := Lib.hid (HB4.out.trans (hb5.mono HB4.out.size)); have S3c := Lib.hid (S3b.out.later hb5); have S4c := Lib.hid (S4.out.later hb5); have S5 := Lib.hid hS5; clear hp hS5 hb5)
      | (go_at_call 18; have _t := tok4; go_must (refine (union_any F G A3 A4 LF c3 LG c4 _ S3c.out.le S3c.out.rb S4c.out.le S4c.out.rb).mono ?_); rintro e w6 hp; have hp := union_post hp; rw [← XU.out] at hp; obtain ⟨A6, c6, rfl, hS6, _, hb6⟩ := hp.at_ XLU.out.symm XE.out.symm; have HB6 := Lib.hid (HB5.out.trans (hb6.mono HB5.out.size)); have S3d := Lib.hid (S3c.out.later hb6); have S4d := Lib.hid (S4c.out.later hb6); have S5d := Lib.hid (S5.out.later hb6); have S6 := Lib.hid hS6; clear tok4 hp hS6 hb6)
      | (go_at_call 18; go_must (refine (union_any G F A4 A3 LG c4 LF c3 _ S4d.out.le S4d.out.rb S3d.out.le S3d.out.rb).mono ?_); rintro e w7 hp; have hp := union_post hp; rw [XU2.out] at hp; obtain ⟨A7, c7, rfl, hS7, _, hb7⟩ := hp.at_ XLU.out.symm XE2.out; have HB7 := Lib.hid (HB6.out.trans (hb7.mono HB6.out.size)); have S6e := Lib.hid (S6.out.later hb7); have S5e := Lib.hid (S5d.out.later hb7); have S7 := Lib.hid hS7; clear hp hS7 hb7)
      | (go_at_call 15; have _t := tok5; go_must (refine (alike_any U U A6 A7 LU c6 LU c7 _ S6e.out.rb S7.out.rb).mono ?_); rintro e wn ⟨rfl, rfl⟩; rw [XS.out]; clear tok5)
      | (go_at_call 15; go_must (refine (alike_any U L A6 A5 LU c6 LL c5 _ S6e.out.rb S5e.out.rb).mono ?_); rintro e wn ⟨rfl, rfl⟩; rw [X4.out d2 d4, beq_self_eq_true]))
    go_ret
    exact ⟨rfl, HB7.out⟩

theorem unions_any (bits : Int) (a b : List (List UInt8)) (A B : Option Addr) (n c m d : Nat) (w : World) (hn : n ≤ 1048576) (hr : RBs w w.heap.size A n a) (hm : m ≤ 1048576) (hs : RBs w w.heap.size B m b) :
    Calls Try.prog 4 #[.int .i64 bits, .slice A n c, .slice B m d] w fun e w' => e = .returned (.bool true) ∧ Below w.heap.size w w' := by
  by_cases h : buildE bits a ≠ 0 ∨ buildE bits b ≠ 0 ∨ buildE bits (a ++ b) ≠ 0
  · exact unions_err bits a b A B n c m d w hn hr hm hs h
  · exact unions_ok bits a b A B n c m d w hn hr hm hs (by omega) (by omega) (by omega)
end Go.Proofs.Ythjjihipodhkiaa
