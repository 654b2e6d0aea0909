/-
  The statements' asked of any call, plays, the three laws, walked.
-/
import Derived.Test.YthjjihipodhkiaaBloomV2
import Derived.Test.YthjjihipodhkiaaBloomV3
namespace Go.Proofs.Ythjjihipodhkiaa
open Go.RowKit

set_option maxRecDepth 100000 in
set_option maxHeartbeats 4000000 in
theorem asked_1 (f g : List UInt8) (ks : List (List UInt8)) (A G KA : Option Addr) (n c m d kn kc : Nat) (N : Int) (w : World) (hs : Sl w A n c f) (hg : Sl w G m d g) (hn : n ≤ 140737488355000) (hm : m ≤ 140737488355000) (hk : RBs w w.heap.size KA kn ks) (hkn : kn ≤ 1048576) (hkb : ks.flatten.length ≤ 1048576) : Calls Try.prog 36 #[.agg #[.int .i64 1, .int .i64 N, .slice KA kn kc, .slice A n c, .slice G m d]] w fun e w' => e = .returned (.bool true) ∧ Below w.heap.size w w' := by
  have HB0 := Lib.hid ((Below.refl w.heap.size w).alloc (Nat.le_refl _) (.cells #[.int .i64 1, .int .i64 N, .slice KA kn kc, .slice A n c, .slice G m d] 45))
  have HX := box5 w #[.int .i64 1, .int .i64 N, .slice KA kn kc, .slice A n c, .slice G m d] 45 _ _ _ _ _ rfl
  have HS : Hid (∀ w', Below w.heap.size w w' → Sl w' A n c f) := Lib.hid fun w' h => hs.later h
  have HG : Hid (∀ w', Below w.heap.size w w' → Sl w' G m d g) := Lib.hid fun w' h => hg.later h
  have HK : Hid (∀ w', Below w.heap.size w w' → RBs w' w'.heap.size KA kn ks) := Lib.hid fun w' h => hk.later h
  have HL := Lib.hid hs.len
  have HKB := Lib.hid hkb
  have HGL := Lib.hid hg.len
  obtain ⟨RF, hRF⟩ : ∃ R, R = f ++ mkB := ⟨_, rfl⟩
  obtain ⟨RG, hRG⟩ : ∃ R, R = g ++ mkB := ⟨_, rfl⟩
  have XRF := Lib.hid hRF
  have XRG := Lib.hid hRG
  have XFL : Hid (RF.length = n + 5) := Lib.hid (by rw [hRF, List.length_append, hs.len]; rfl)
  have XGL : Hid (RG.length = m + 5) := Lib.hid (by rw [hRG, List.length_append, hg.len]; rfl)
  have tok1 : True := trivial
  obtain ⟨gb, hgb⟩ : ∃ g, g = w.heap.size := ⟨_, rfl⟩
  clear hs hg hk hkb hRF hRG
  have HGB := Lib.hid hgb
  go_enter Try.func36, Try.ntmps36
  obtain ⟨u0, u1, u2, u3, u4⟩ := HX.out _ (Below.refl _ _)
  go_upto_region 3 with (first
    | (go_at_call 25; have _t := tok1; go_must (refine (wide_any f A n c _ (by omega) (HS.out _ HB0.out).rb).mono ?_); rintro e w1 hq; rw [← XRF.out] at hq; obtain ⟨WA, wc, rfl, hS1, _, hb1⟩ := hq.at_ XFL.out; have HB1 := Lib.hid (HB0.out.trans (hb1.mono HB0.out.size)); have HW1 := Lib.hid hS1; have HX1 := Lib.hid (fun x (h : Below w1.heap.size w1 x) => HX.out x (hb1.trans (h.mono hb1.size))); obtain ⟨x0, x1, x2, x3, x4⟩ := HX1.out w1 (Below.refl _ _); clear tok1 hq hS1 hb1 u0 u1 u2 u3 u4)
    | (go_at_call 25; go_must (refine (wide_any g G m d _ (by omega) (HG.out _ HB1.out).rb).mono ?_); rintro e w2 hq; rw [← XRG.out] at hq; obtain ⟨GA, gc, rfl, hS2, _, hb2⟩ := hq.at_ XGL.out; have HB2 := Lib.hid (HB1.out.trans (hb2.mono HB1.out.size)); have HX2 := Lib.hid (fun x (h : Below w2.heap.size w2 x) => HX1.out x (hb2.trans (h.mono hb2.size))); clear hq hS2 hb2 x0 x1 x2 x3 x4))
  rw [← hgb] at HX2 ⊢
  obtain ⟨x0, x1, x2, x3, x4⟩ := HX2.out w2 (Below.refl _ _)
  clear HX HX1 HW1 HB0 HB1 hgb
  go_wp2_with (go_at_call 44; go_must (refine (builds_any N ks KA A G kn kc n c m d _ (HK.out _ HB2.out) hkn HKB.out).mono ?_); rintro e w3 ⟨rfl, hb3⟩; have HB3 := Lib.hid (HB2.out.trans (hb3.mono HB2.out.size)); clear hb3)
  go_ret
  exact ⟨rfl, HB3.out⟩

theorem asked_any (K : Int) (f g : List UInt8) (ks : List (List UInt8)) (A G KA : Option Addr) (n c m d kn kc : Nat) (N : Int) (w : World) (hs : Sl w A n c f) (hg : Sl w G m d g) (hn : n ≤ 140737488355000) (hm : m ≤ 140737488355000) (hk : RBs w w.heap.size KA kn ks) (hkn : kn ≤ 1048576) (hkb : ks.flatten.length ≤ 1048576) :
    Calls Try.prog 36 #[.agg #[.int .i64 K, .int .i64 N, .slice KA kn kc, .slice A n c, .slice G m d]] w fun e w' => e = .returned (.bool true) ∧ Below w.heap.size w w' := by
  by_cases h1 : K = 1
  · subst h1; exact asked_1 f g ks A G KA n c m d kn kc N w hs hg hn hm hk hkn hkb
  by_cases h2 : K = 2
  · subst h2; exact asked_2 f g A G KA n c m d kn kc N w hs hg hn hm
  by_cases h3 : K = 3
  · subst h3; exact asked_3 f g A G KA n c m d kn kc N w hs hg hn hm
  by_cases h4 : K = 4
  · subst h4; exact asked_4 f g A G KA n c m d kn kc N w hs hg hn hm
  by_cases h5 : K = 5
  · subst h5; exact asked_5 f g A G KA n c m d kn kc N w hs hg hn hm
  exact asked_none f g A G KA n c m d kn kc N w hs hg hn hm K (beq_eq_false_iff_ne.2 h1) (beq_eq_false_iff_ne.2 h2) (beq_eq_false_iff_ne.2 h3) (beq_eq_false_iff_ne.2 h4) (beq_eq_false_iff_ne.2 h5)

/-- A call's fields lie at a place. -/
def AskAt (w : World) (b q : Nat) (K : Int) : Prop :=
  ∃ (N : Int) (f g : List UInt8) (ks : List (List UInt8)) (A G KA : Option Addr) (n c m d kn kc : Nat), w.cell? ⟨b, q, none⟩ = some (.int .i64 K) ∧ w.cell? ⟨b, q + 1, none⟩ = some (.int .i64 N) ∧ w.cell? ⟨b, q + 2, none⟩ = some (.slice KA kn kc) ∧ w.cell? ⟨b, q + 3, none⟩ = some (.slice A n c) ∧ w.cell? ⟨b, q + 4, none⟩ = some (.slice G m d) ∧
    Sl w A n c f ∧ Sl w G m d g ∧ RBs w w.heap.size KA kn ks ∧ n ≤ 1048576 ∧ m ≤ 1048576 ∧ kn ≤ 1048576 ∧ ks.flatten.length ≤ 1048576
/-- A script of calls. -/
def Asks (w : World) (A : Option Addr) (n : Nat) : Prop := 0 < n → ∃ b o, A = some ⟨b, o, none⟩ ∧ b < w.heap.size ∧ ∀ i, i < n → ∃ K, AskAt w b (o + i * 5) K
theorem AskAt.later {w w' : World} {b q : Nat} {K : Int} (h : AskAt w b q K) (hlt : b < w.heap.size) (hb : Below w.heap.size w w') : AskAt w' b q K := by
  obtain ⟨N, f, g, ks, A, G, KA, n, c, m, d, kn, kc, c0, c1, c2, c3, c4, hs, hg, hp, hr⟩ := h
  have hc : ∀ j, w'.cell? ⟨b, j, none⟩ = w.cell? ⟨b, j, none⟩ := fun j => hb.cell (p := ⟨b, j, none⟩) hlt
  exact ⟨N, f, g, ks, A, G, KA, n, c, m, d, kn, kc, (hc _).trans c0, (hc _).trans c1, (hc _).trans c2, (hc _).trans c3, (hc _).trans c4, hs.later hb, hg.later hb, hp.later hb, hr⟩
theorem Asks.later {w w' : World} {A : Option Addr} {n : Nat} (h : Asks w A n) (hb : Below w.heap.size w w') : Asks w' A n := fun hn => by
  obtain ⟨b, o, e, hlt, hq⟩ := h hn
  exact ⟨b, o, e, Nat.lt_of_lt_of_le hlt hb.size, fun i hi => by obtain ⟨K, hk⟩ := hq i hi; exact ⟨K, hk.later hlt hb⟩⟩

set_option maxRecDepth 100000 in
set_option maxHeartbeats 2000000 in
theorem plays_any (A : Option Addr) (n c : Nat) (lo hi : Int) (w : World) (hs : Asks w A n) (hn : n ≤ 9223372036854775807) :
    Calls Try.prog 21 #[.slice A n c, .int .i64 lo, .int .i64 hi] w fun e w' => e = .returned (.bool true) ∧ Below w.heap.size w w' := by
  have HS : Hid (∀ w', Below w.heap.size w w' → Asks w' A n) := Lib.hid fun w' h => hs.later h
  clear hs
  have tok1 : True := trivial
  go_enter Try.func21, Try.ntmps21
  go_wp2_with (go_at_call 12; have _t := tok1; go_must (refine (started_any _).mono ?_); rintro e w1 ⟨rfl, hb1⟩; have HB1 := Lib.hid hb1; clear tok1 hb1)
  go_loopw [7, 8] (fun s i wr => s = .bool true ∧ ∃ k : Nat, k ≤ n ∧ i = .int .i64 k ∧ Hid (Below w.heap.size w wr)) (fun _ i _ => n - (intOf i).toNat)
  case atStart => exact ⟨rfl, 0, Nat.zero_le _, rfl, HB1⟩
  case round =>
    obtain ⟨rfl, k, hk, rfl, HB⟩ := hrel
    by_cases hlt : k < n
    case neg =>
      go_wp2_with (go_at_call 12; go_must (refine (started_any _).mono ?_); rintro e w2 ⟨rfl, hb2⟩; have HB2 := Lib.hid (HB.out.trans (hb2.mono HB.out.size)); clear hb2)
      go_ret
      exact ⟨rfl, HB2.out⟩
    obtain ⟨b, o, rfl, hblt, hq⟩ := HS.out wr HB.out (by omega)
    obtain ⟨K, N, f, g, ks, FA, GA, KA, fn, fc, gn, gc, kn, kc, c0, c1, c2, c3, c4, hsl, hgl, hrb, h2, h3, h4, h5⟩ := hq k hlt
    have HP := Lib.hid (asked_any K f g ks FA GA KA fn fc gn gc kn kc N wr hsl hgl (by omega) (by omega) hrb h4 h5)
    clear hq hsl hgl hrb h2 h3 h4 h5 hblt
    have hcase : decide (lo ≤ K) = false ∨ (decide (lo ≤ K) = true ∧ decide (K ≤ hi) = false) ∨ (decide (lo ≤ K) = true ∧ decide (K ≤ hi) = true) := by
      cases decide (lo ≤ K) <;> cases decide (K ≤ hi) <;> simp
    rcases hcase with d1 | ⟨d1, d2⟩ | ⟨d1, d2⟩
    · go_wp2_with fail
      go_roundw
      case rel => exact ⟨rfl, k + 1, by omega, by go_num, HB⟩
      case measure => simp [intOf]; omega
    · go_wp2_with fail
      go_roundw
      case rel => exact ⟨rfl, k + 1, by omega, by go_num, HB⟩
      case measure => simp [intOf]; omega
    · go_wp2_with (go_at_call 36; go_must (refine HP.out.mono ?_); rintro e w2 ⟨rfl, hb2⟩; have HB2 := Lib.hid (HB.out.trans (hb2.mono HB.out.size)); clear hb2)
      go_roundw
      case rel => exact ⟨rfl, k + 1, by omega, by go_num, HB2⟩
      case measure => simp [intOf]; omega

section
variable (A : Option Addr) (n c : Nat) (w : World) (hs : Asks w A n) (hn : n ≤ 9223372036854775807)
include hs hn

set_option maxRecDepth 100000 in
theorem builds_law : Calls Try.prog 7 #[.slice A n c] w fun e w' => e = .returned (.bool true) ∧ Below w.heap.size w w' := by
  have HS := Lib.hid hs
  clear hs
  go_enter Try.func7, Try.ntmps7
  go_wp2_with (first
    | (go_at_call 21; go_must (refine (plays_any A n c _ _ _ HS.out hn).mono ?_); rintro e w1 ⟨rfl, hb1⟩; have HB1 := Lib.hid hb1; clear hb1)
    | (go_at_call 22; go_must (refine (many_any _).mono ?_); rintro e w2 ⟨rfl, hb2⟩; have HB2 := Lib.hid (HB1.out.trans (hb2.mono HB1.out.size)); clear hb2))
  go_ret
  exact ⟨rfl, HB2.out⟩

set_option maxRecDepth 100000 in
theorem answers_law : Calls Try.prog 8 #[.slice A n c] w fun e w' => e = .returned (.bool true) ∧ Below w.heap.size w w' := by
  have HS := Lib.hid hs
  clear hs
  go_enter Try.func8, Try.ntmps8
  go_wp2_with (go_at_call 21; go_must (refine (plays_any A n c _ _ _ HS.out hn).mono ?_); rintro e w1 ⟨rfl, hb1⟩; have HB1 := Lib.hid hb1; clear hb1)
  go_ret
  exact ⟨rfl, HB1.out⟩

set_option maxRecDepth 100000 in
theorem playsL_law : Calls Try.prog 9 #[.slice A n c] w fun e w' => e = .returned (.bool true) ∧ Below w.heap.size w w' := by
  have HS := Lib.hid hs
  clear hs
  go_enter Try.func9, Try.ntmps9
  go_wp2_with (go_at_call 21; go_must (refine (plays_any A n c _ _ _ HS.out hn).mono ?_); rintro e w1 ⟨rfl, hb1⟩; have HB1 := Lib.hid hb1; clear hb1)
  go_ret
  exact ⟨rfl, HB1.out⟩
end
end Go.Proofs.Ythjjihipodhkiaa
