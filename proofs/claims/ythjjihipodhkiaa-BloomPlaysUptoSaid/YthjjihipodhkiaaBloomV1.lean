/-
  The statements' wide, kept, asked (all kinds but Build), walked. (Printed by gen_asked.py.)
-/
import Derived.Test.YthjjihipodhkiaaBloomR5
import Derived.Deep.RegionHeld3
import Derived.Deep.DeepCutAuto
namespace Go.Proofs.Ythjjihipodhkiaa
open Go.RowKit

def mkB : List UInt8 := [91, 92, 93, 94, 95]
set_option maxRecDepth 100000 in
set_option maxHeartbeats 1000000 in
theorem wide_any (l : List UInt8) (A : Option Addr) (n c : Nat) (w : World) (hn : n ≤ 140737488355000) (hr : RB w w.heap.size A n l) :
    Calls Try.prog 25 #[.slice A n c] w (BytesPost 5 (l ++ mkB) w) := by
  have HR : Hid (∀ w', Below w.heap.size w w' → RB w' w'.heap.size A n l) := Lib.hid fun w' h => hr.later h
  have tok1 : True := trivial
  clear hr
  go_enter Try.func25, Try.ntmps25
  go_wp2_with (first
    | (at_builtin; have _t := tok1; go_must (refine wpList_append_reads _ rfl (.tmp 4) (.tmp 5) rfl Try.u8s' w.heap.size (.slice none 0 0) 0 [] rfl (own_nil _ _ _ _) _ A n c (u8s l) rfl (HR.out _ (Below.refl _ _)) (u8s_one _) (by unfold maxLen; omega) (by omega) (Nat.le_refl _) ?_); intro v1 w1 hown1 hg1 hat1; clear tok1; have HB1 := Lib.hid (below_app (Below.refl w.heap.size w) (own_nil _ w.heap.size 5 1) hg1 (Nat.le_refl _) (Nat.le_refl _)); rw [List.nil_append, Nat.zero_add] at hown1; have HO1 := Lib.hid hown1; clear hown1 hg1 hat1)
    | (at_builtin; go_must (refine wpList_append_reads _ rfl (.tmp 7) (.tmp 8) rfl Try.u8s' w.heap.size v1 n (u8s l) rfl (HO1.out.alloc _) (w1.heap.size + 1) (some ⟨w1.heap.size, 0, none⟩) 5 5 (u8s mkB) rfl (by exact reads_lit w1 _ mkB _ _ rfl) (u8s_one _) (by unfold maxLen; omega) (by omega) (by have := HB1.out.size; simp; omega) ?_); intro v2 w2 hown2 hg2 hat2; have HB2 := Lib.hid (below_app (HB1.out.alloc HB1.out.size (.cells #[.int .u8 91, .int .u8 92, .int .u8 93, .int .u8 94, .int .u8 95] 5)) (HO1.out.alloc _) hg2 (by have := HB1.out.size; simp; omega) (Nat.le_refl _)); rw [← u8s_append] at hown2; have HO2 := Lib.hid hown2; clear hown2 hg2 hat2))
  go_ret
  exact bytes_post HO2.out HB2.out

set_option maxRecDepth 100000 in
set_option maxHeartbeats 1000000 in
theorem kept_any (l R : List UInt8) (A B : Option Addr) (n c d : Nat) (w : World) (hR : R = l ++ mkB) (hs : Sl w A (n + 5) c R) (hb : Sl w B n d l) (hn : n ≤ 140737488355000) :
    Calls Try.prog 31 #[.slice A (n + 5) c, .slice B n d] w fun e w' => e = .returned (.bool true) ∧ Below w.heap.size w w' := by
  have hl := hb.len
  have hcap := hs.cap
  have H1 : Hid (Sl w A n c l) := Lib.hid (by have h := hs.take (m := n) (by omega); rw [hR, List.take_left' hl] at h; exact h)
  have H2 : Hid (Sl w (A.map (·.add n)) 5 (c - n) mkB) := Lib.hid (by
    have h := hs.drop (k := n) (by omega) (by omega)
    rw [hR, List.drop_left' hl, show n + 5 - n = 5 from by omega] at h; exact h)
  have HBB := Lib.hid hb
  have XS : Hid ((l == l) = true ∧ (mkB == mkB) = true) := Lib.hid ⟨by simp, by simp⟩
  have k1 : (n : Int) ≤ (c : Int) := by omega
  have k2 : n ≤ n + 5 := by omega
  have k3 : n + 5 - n = 5 := by omega
  have k4 : c ≠ n := by omega
  have tok1 : True := trivial
  clear hs hb hl hR
  go_enter Try.func31, Try.ntmps31
  go_wp2_with (first
    | (go_at_call 15; have _t := tok1; go_must (refine (alike_any l l A B n c n d _ H1.out.rb HBB.out.rb).mono ?_); rw [XS.out.1]; rintro e wn ⟨rfl, rfl⟩; clear tok1)
    | (go_at_call 15; go_must (refine (alike_any mkB mkB _ (some ⟨w.heap.size, 0, none⟩) 5 _ 5 5 _ (H2.out.later ((Below.refl _ _).alloc (Nat.le_refl _) _)).rb (by exact (Sl.lit w #[.int .u8 91, .int .u8 92, .int .u8 93, .int .u8 94, .int .u8 95] mkB _ _ rfl rfl (by decide)).rb)).mono ?_); rw [XS.out.2]; rintro e wn ⟨rfl, rfl⟩))
  go_ret
  exact ⟨rfl, (Below.refl _ _).alloc (Nat.le_refl _) _⟩

theorem keep2B {w x y : World} {p q : Addr} {u v : Value} (h : x.cell? p = some u ∧ x.cell? q = some v ∧ Below w.heap.size w x) (hb : Below x.heap.size x y) : y.cell? p = some u ∧ y.cell? q = some v ∧ Below w.heap.size w y :=
  ⟨(hb.cell (World.block_lt_of_cell? x p h.1)).trans h.1, (hb.cell (World.block_lt_of_cell? x q h.2.1)).trans h.2.1, h.2.2.trans (hb.mono h.2.2.size)⟩
theorem box5 (w : World) (C : Array Value) (t : TypeId) (u0 u1 u2 u3 u4 : Value) (h : C = #[u0, u1, u2, u3, u4]) :
    Hid (∀ x, Below (w.alloc (.cells C t)).heap.size (w.alloc (.cells C t)) x → x.cell? ⟨w.heap.size, 0, none⟩ = some u0 ∧ x.cell? ⟨w.heap.size, 1, none⟩ = some u1 ∧ x.cell? ⟨w.heap.size, 2, none⟩ = some u2 ∧ x.cell? ⟨w.heap.size, 3, none⟩ = some u3 ∧ x.cell? ⟨w.heap.size, 4, none⟩ = some u4) := Lib.hid fun x hb => by
  subst h
  exact ⟨(hb.cell (p := ⟨w.heap.size, 0, none⟩) (by simp)).trans (by simp), (hb.cell (p := ⟨w.heap.size, 1, none⟩) (by simp)).trans (by simp), (hb.cell (p := ⟨w.heap.size, 2, none⟩) (by simp)).trans (by simp), (hb.cell (p := ⟨w.heap.size, 3, none⟩) (by simp)).trans (by simp), (hb.cell (p := ⟨w.heap.size, 4, none⟩) (by simp)).trans (by simp)⟩
theorem wide_cut {w x : World} {A : Option Addr} {n c : Nat} {l R : List UInt8} (h : Sl w A (n + 5) c R) (hl : l.length = n) (hr : R = l ++ mkB) (hb : Below w.heap.size w x) : Sl x A n c l := by
  have := (h.later hb).take (m := n) (by omega)
  rw [hr, List.take_left' hl] at this
  exact this

section
variable (f g : List UInt8) (A G KA : Option Addr) (n c m d kn kc : Nat) (N : Int) (w : World) (hs : Sl w A n c f) (hg : Sl w G m d g) (hn : n ≤ 140737488355000) (hm : m ≤ 140737488355000)
include hs hg hn hm

set_option maxRecDepth 100000 in
set_option maxHeartbeats 4000000 in
theorem asked_none (K : Int) (k1 : (K == 1) = false) (k2 : (K == 2) = false) (k3 : (K == 3) = false) (k4 : (K == 4) = false) (k5 : (K == 5) = false) : Calls Try.prog 36 #[.agg #[.int .i64 K, .int .i64 N, .slice KA kn kc, .slice A n c, .slice G m d]] w fun e w' => e = .returned (.bool true) ∧ Below w.heap.size w w' := by
  have HB0 := Lib.hid ((Below.refl w.heap.size w).alloc (Nat.le_refl _) (.cells #[.int .i64 K, .int .i64 N, .slice KA kn kc, .slice A n c, .slice G m d] 45))
  have HX := box5 w #[.int .i64 K, .int .i64 N, .slice KA kn kc, .slice A n c, .slice G m d] 45 _ _ _ _ _ rfl
  have HS : Hid (∀ w', Below w.heap.size w w' → Sl w' A n c f) := Lib.hid fun w' h => hs.later h
  have HG : Hid (∀ w', Below w.heap.size w w' → Sl w' G m d g) := Lib.hid fun w' h => hg.later h
  have HL := Lib.hid hs.len
  have HGL := Lib.hid hg.len
  obtain ⟨RF, hRF⟩ : ∃ R, R = f ++ mkB := ⟨_, rfl⟩
  obtain ⟨RG, hRG⟩ : ∃ R, R = g ++ mkB := ⟨_, rfl⟩
  have XRF := Lib.hid hRF
  have XRG := Lib.hid hRG
  have XFL : Hid (RF.length = n + 5) := Lib.hid (by rw [hRF, List.length_append, hs.len]; rfl)
  have XGL : Hid (RG.length = m + 5) := Lib.hid (by rw [hRG, List.length_append, hg.len]; rfl)
  have tok1 : True := trivial
  have tok2 : True := trivial
  obtain ⟨gb, hgb⟩ : ∃ g, g = w.heap.size := ⟨_, rfl⟩
  clear hs hg hRF hRG
  have HGB := Lib.hid hgb
  go_enter Try.func36, Try.ntmps36
  obtain ⟨u0, u1, u2, u3, u4⟩ := HX.out _ (Below.refl _ _)
  go_upto_region 3 with (first
    | (go_at_call 25; have _t := tok1; go_must (refine (wide_any f A n c _ (by omega) (HS.out _ HB0.out).rb).mono ?_); rintro e w1 hq; rw [← XRF.out] at hq; obtain ⟨WA, wc, rfl, hS1, _, hb1⟩ := hq.at_ XFL.out; have HB1 := Lib.hid (HB0.out.trans (hb1.mono HB0.out.size)); have HW1 := Lib.hid hS1; have HX1 := Lib.hid (fun x (h : Below w1.heap.size w1 x) => HX.out x (hb1.trans (h.mono hb1.size))); obtain ⟨x0, x1, x2, x3, x4⟩ := HX1.out w1 (Below.refl _ _); clear tok1 hq hS1 hb1 u0 u1 u2 u3 u4)
    | (go_at_call 25; go_must (refine (wide_any g G m d _ (by omega) (HG.out _ HB1.out).rb).mono ?_); rintro e w2 hq; rw [← XRG.out] at hq; obtain ⟨GA, gc, rfl, hS2, _, hb2⟩ := hq.at_ XGL.out; have HB2 := Lib.hid (HB1.out.trans (hb2.mono HB1.out.size)); have HW2 := Lib.hid (fun x (h : Below w2.heap.size w2 x) => HW1.out.later (hb2.trans (h.mono hb2.size))); have HG2 := Lib.hid (fun x (h : Below w2.heap.size w2 x) => hS2.later h); have HX2 := Lib.hid (fun x (h : Below w2.heap.size w2 x) => HX1.out x (hb2.trans (h.mono hb2.size))); have HWF := Lib.hid (fun x (h : Below w2.heap.size w2 x) => wide_cut (HW1.out.later hb2) HL.out XRF.out h); have HGF := Lib.hid (fun x (h : Below w2.heap.size w2 x) => wide_cut hS2 HGL.out XRG.out h); have hwc := (HW1.out).cap; have hgc := hS2.cap; clear hq hS2 hb2 x0 x1 x2 x3 x4))
  rw [← hgb] at HX2 ⊢
  obtain ⟨x0, x1, x2, x3, x4⟩ := HX2.out w2 (Below.refl _ _)
  have j1 : (n : Int) ≤ (wc : Int) := by omega
  have j2 : (m : Int) ≤ (gc : Int) := by omega
  have j3 : n ≤ n + 5 := by omega
  have j4 : m ≤ m + 5 := by omega
  clear HX HX1 HW1 HB0 HB1 hgb
  go_wp2_with (first
      | (go_at_call 31; have _t := tok2; go_must (refine (kept_any f RF WA A n wc c _ XRF.out (HW2.out _ (Below.refl w2.heap.size w2)) (HS.out _ (HB2.out.trans (Below.mono (Below.refl w2.heap.size w2) HB2.out.size))) (by omega)).mono ?_); rintro e w8 ⟨rfl, hb8⟩; have HB8 := Lib.hid (Below.trans (Below.refl w2.heap.size w2) (hb8.mono (Below.size (Below.refl w2.heap.size w2)))); obtain ⟨y0, y1, y2, y3, y4⟩ := HX2.out w8 HB8.out; clear tok2 hb8)
      | (go_at_call 31; go_must (refine (kept_any g RG GA G m gc d _ XRG.out (HG2.out _ HB8.out) (HG.out _ (HB2.out.trans (HB8.out.mono HB2.out.size))) (by omega)).mono ?_); rintro e w9 ⟨rfl, hb9⟩; have HB9 := Lib.hid (HB8.out.trans (hb9.mono HB8.out.size)); clear hb9))
  go_ret
  exact ⟨rfl, HB2.out.trans (HB9.out.mono HB2.out.size)⟩

set_option maxRecDepth 100000 in
set_option maxHeartbeats 4000000 in
theorem asked_2 : Calls Try.prog 36 #[.agg #[.int .i64 2, .int .i64 N, .slice KA kn kc, .slice A n c, .slice G m d]] w fun e w' => e = .returned (.bool true) ∧ Below w.heap.size w w' := by
  have HB0 := Lib.hid ((Below.refl w.heap.size w).alloc (Nat.le_refl _) (.cells #[.int .i64 2, .int .i64 N, .slice KA kn kc, .slice A n c, .slice G m d] 45))
  have HX := box5 w #[.int .i64 2, .int .i64 N, .slice KA kn kc, .slice A n c, .slice G m d] 45 _ _ _ _ _ rfl
  have HS : Hid (∀ w', Below w.heap.size w w' → Sl w' A n c f) := Lib.hid fun w' h => hs.later h
  have HG : Hid (∀ w', Below w.heap.size w w' → Sl w' G m d g) := Lib.hid fun w' h => hg.later h
  have HL := Lib.hid hs.len
  have HGL := Lib.hid hg.len
  obtain ⟨RF, hRF⟩ : ∃ R, R = f ++ mkB := ⟨_, rfl⟩
  obtain ⟨RG, hRG⟩ : ∃ R, R = g ++ mkB := ⟨_, rfl⟩
  have XRF := Lib.hid hRF
  have XRG := Lib.hid hRG
  have XFL : Hid (RF.length = n + 5) := Lib.hid (by rw [hRF, List.length_append, hs.len]; rfl)
  have XGL : Hid (RG.length = m + 5) := Lib.hid (by rw [hRG, List.length_append, hg.len]; rfl)
  have tok1 : True := trivial
  have tok2 : True := trivial
  obtain ⟨gb, hgb⟩ : ∃ g, g = w.heap.size := ⟨_, rfl⟩
  clear hs hg hRF hRG
  have HGB := Lib.hid hgb
  go_enter Try.func36, Try.ntmps36
  obtain ⟨u0, u1, u2, u3, u4⟩ := HX.out _ (Below.refl _ _)
  go_upto_region 3 with (first
    | (go_at_call 25; have _t := tok1; go_must (refine (wide_any f A n c _ (by omega) (HS.out _ HB0.out).rb).mono ?_); rintro e w1 hq; rw [← XRF.out] at hq; obtain ⟨WA, wc, rfl, hS1, _, hb1⟩ := hq.at_ XFL.out; have HB1 := Lib.hid (HB0.out.trans (hb1.mono HB0.out.size)); have HW1 := Lib.hid hS1; have HX1 := Lib.hid (fun x (h : Below w1.heap.size w1 x) => HX.out x (hb1.trans (h.mono hb1.size))); obtain ⟨x0, x1, x2, x3, x4⟩ := HX1.out w1 (Below.refl _ _); clear tok1 hq hS1 hb1 u0 u1 u2 u3 u4)
    | (go_at_call 25; go_must (refine (wide_any g G m d _ (by omega) (HG.out _ HB1.out).rb).mono ?_); rintro e w2 hq; rw [← XRG.out] at hq; obtain ⟨GA, gc, rfl, hS2, _, hb2⟩ := hq.at_ XGL.out; have HB2 := Lib.hid (HB1.out.trans (hb2.mono HB1.out.size)); have HW2 := Lib.hid (fun x (h : Below w2.heap.size w2 x) => HW1.out.later (hb2.trans (h.mono hb2.size))); have HG2 := Lib.hid (fun x (h : Below w2.heap.size w2 x) => hS2.later h); have HX2 := Lib.hid (fun x (h : Below w2.heap.size w2 x) => HX1.out x (hb2.trans (h.mono hb2.size))); have HWF := Lib.hid (fun x (h : Below w2.heap.size w2 x) => wide_cut (HW1.out.later hb2) HL.out XRF.out h); have HGF := Lib.hid (fun x (h : Below w2.heap.size w2 x) => wide_cut hS2 HGL.out XRG.out h); have hwc := (HW1.out).cap; have hgc := hS2.cap; clear hq hS2 hb2 x0 x1 x2 x3 x4))
  rw [← hgb] at HX2 ⊢
  obtain ⟨x0, x1, x2, x3, x4⟩ := HX2.out w2 (Below.refl _ _)
  have k1 : (n : Int) ≤ (wc : Int) := by omega
  have k2 : (m : Int) ≤ (gc : Int) := by omega
  have k3 : n ≤ n + 5 := by omega
  have k4 : m ≤ m + 5 := by omega
  clear HX HX1 HW1 HB0 HB1 hgb
  go_wp2_with fail
  go_region_held3 (fun w' => w'.cell? ⟨gb, 3, none⟩ = some (.slice A n c) ∧ w'.cell? ⟨gb, 4, none⟩ = some (.slice G m d) ∧ Below w2.heap.size w2 w') (first | assumption | exact ⟨x3, x4, (Below.refl _ _).drew⟩ | exact keep2B ‹_› hb3 | exact keep2B ‹_› hb4) (first
    | (go_at_call 23; refine (has_any f g WA GA n wc m gc _ (by omega) (HWF.out _ (And.right (And.right ‹_ ∧ _ ∧ Below w2.heap.size w2 _›))).rb (by omega) (HGF.out _ (And.right (And.right ‹_ ∧ _ ∧ Below w2.heap.size w2 _›))).rb).mono ?_; rintro e w3 ⟨rfl, hb3⟩))
  all_goals
    obtain ⟨z3, z4, hbz⟩ := ‹_ ∧ _ ∧ Below w2.heap.size w2 w3›
    have HBZ := Lib.hid hbz
    obtain ⟨H, hH⟩ : ∃ H, H = hasB f g := ⟨_, rfl⟩
    obtain ⟨E, hE⟩ : ∃ E, E = checkE f := ⟨_, rfl⟩
    rw [← hH, ← hE]
    have XH := Lib.hid hH
    have XE := Lib.hid hE
    have q1 : (H == H) = true := by simp
    have q2 : ((E : Int) == (E : Int)) = true := by simp
    clear hbz hH hE
    go_wp2_with (first
      | (go_at_call 27; go_must (refine (rhas_any f g A G n c m d _ (by omega) (HS.out _ (HB2.out.trans (HBZ.out.mono HB2.out.size))).rb (by omega) (HG.out _ (HB2.out.trans (HBZ.out.mono HB2.out.size))).rb).mono ?_); rw [← XH.out, ← XE.out]; rintro e w4 ⟨rfl, hb4⟩; have HB4 := Lib.hid (HBZ.out.trans (hb4.mono HBZ.out.size)); obtain ⟨v0, v1, v2, v3, v4⟩ := HX2.out w4 HB4.out; clear hb4)
      | (go_at_call 14; refine (num_any _ _).mono ?_; rintro e wn ⟨rfl, rfl⟩)
      | (go_at_call 31; have _t := tok2; go_must (refine (kept_any f RF WA A n wc c _ XRF.out (HW2.out _ HB4.out) (HS.out _ (HB2.out.trans (Below.mono HB4.out HB2.out.size))) (by omega)).mono ?_); rintro e w8 ⟨rfl, hb8⟩; have HB8 := Lib.hid (Below.trans HB4.out (hb8.mono (Below.size HB4.out))); obtain ⟨y0, y1, y2, y3, y4⟩ := HX2.out w8 HB8.out; clear tok2 hb8)
      | (go_at_call 31; go_must (refine (kept_any g RG GA G m gc d _ XRG.out (HG2.out _ HB8.out) (HG.out _ (HB2.out.trans (HB8.out.mono HB2.out.size))) (by omega)).mono ?_); rintro e w9 ⟨rfl, hb9⟩; have HB9 := Lib.hid (HB8.out.trans (hb9.mono HB8.out.size)); clear hb9))
    go_ret
    exact ⟨rfl, HB2.out.trans (HB9.out.mono HB2.out.size)⟩

set_option maxRecDepth 100000 in
set_option maxHeartbeats 4000000 in
theorem asked_3 : Calls Try.prog 36 #[.agg #[.int .i64 3, .int .i64 N, .slice KA kn kc, .slice A n c, .slice G m d]] w fun e w' => e = .returned (.bool true) ∧ Below w.heap.size w w' := by
  have HB0 := Lib.hid ((Below.refl w.heap.size w).alloc (Nat.le_refl _) (.cells #[.int .i64 3, .int .i64 N, .slice KA kn kc, .slice A n c, .slice G m d] 45))
  have HX := box5 w #[.int .i64 3, .int .i64 N, .slice KA kn kc, .slice A n c, .slice G m d] 45 _ _ _ _ _ rfl
  have HS : Hid (∀ w', Below w.heap.size w w' → Sl w' A n c f) := Lib.hid fun w' h => hs.later h
  have HG : Hid (∀ w', Below w.heap.size w w' → Sl w' G m d g) := Lib.hid fun w' h => hg.later h
  have HL := Lib.hid hs.len
  have HGL := Lib.hid hg.len
  obtain ⟨RF, hRF⟩ : ∃ R, R = f ++ mkB := ⟨_, rfl⟩
  obtain ⟨RG, hRG⟩ : ∃ R, R = g ++ mkB := ⟨_, rfl⟩
  have XRF := Lib.hid hRF
  have XRG := Lib.hid hRG
  have XFL : Hid (RF.length = n + 5) := Lib.hid (by rw [hRF, List.length_append, hs.len]; rfl)
  have XGL : Hid (RG.length = m + 5) := Lib.hid (by rw [hRG, List.length_append, hg.len]; rfl)
  have tok1 : True := trivial
  have tok2 : True := trivial
  obtain ⟨gb, hgb⟩ : ∃ g, g = w.heap.size := ⟨_, rfl⟩
  clear hs hg hRF hRG
  have HGB := Lib.hid hgb
  go_enter Try.func36, Try.ntmps36
  obtain ⟨u0, u1, u2, u3, u4⟩ := HX.out _ (Below.refl _ _)
  go_upto_region 3 with (first
    | (go_at_call 25; have _t := tok1; go_must (refine (wide_any f A n c _ (by omega) (HS.out _ HB0.out).rb).mono ?_); rintro e w1 hq; rw [← XRF.out] at hq; obtain ⟨WA, wc, rfl, hS1, _, hb1⟩ := hq.at_ XFL.out; have HB1 := Lib.hid (HB0.out.trans (hb1.mono HB0.out.size)); have HW1 := Lib.hid hS1; have HX1 := Lib.hid (fun x (h : Below w1.heap.size w1 x) => HX.out x (hb1.trans (h.mono hb1.size))); obtain ⟨x0, x1, x2, x3, x4⟩ := HX1.out w1 (Below.refl _ _); clear tok1 hq hS1 hb1 u0 u1 u2 u3 u4)
    | (go_at_call 25; go_must (refine (wide_any g G m d _ (by omega) (HG.out _ HB1.out).rb).mono ?_); rintro e w2 hq; rw [← XRG.out] at hq; obtain ⟨GA, gc, rfl, hS2, _, hb2⟩ := hq.at_ XGL.out; have HB2 := Lib.hid (HB1.out.trans (hb2.mono HB1.out.size)); have HW2 := Lib.hid (fun x (h : Below w2.heap.size w2 x) => HW1.out.later (hb2.trans (h.mono hb2.size))); have HG2 := Lib.hid (fun x (h : Below w2.heap.size w2 x) => hS2.later h); have HX2 := Lib.hid (fun x (h : Below w2.heap.size w2 x) => HX1.out x (hb2.trans (h.mono hb2.size))); have HWF := Lib.hid (fun x (h : Below w2.heap.size w2 x) => wide_cut (HW1.out.later hb2) HL.out XRF.out h); have HGF := Lib.hid (fun x (h : Below w2.heap.size w2 x) => wide_cut hS2 HGL.out XRG.out h); have hwc := (HW1.out).cap; have hgc := hS2.cap; clear hq hS2 hb2 x0 x1 x2 x3 x4))
  rw [← hgb] at HX2 ⊢
  obtain ⟨x0, x1, x2, x3, x4⟩ := HX2.out w2 (Below.refl _ _)
  have k1 : (n : Int) ≤ (wc : Int) := by omega
  have k2 : (m : Int) ≤ (gc : Int) := by omega
  have k3 : n ≤ n + 5 := by omega
  have k4 : m ≤ m + 5 := by omega
  clear HX HX1 HW1 HB0 HB1 hgb
  go_wp2_with fail
  obtain ⟨E, hE⟩ : ∃ E, E = checkE f := ⟨_, rfl⟩
  have XE := Lib.hid hE
  have q2 : ((E : Int) == (E : Int)) = true := by simp
  clear hE
  go_region_held3 (fun w' => w'.cell? ⟨gb, 3, none⟩ = some (.slice A n c) ∧ w'.cell? ⟨gb, 4, none⟩ = some (.slice G m d) ∧ Below w2.heap.size w2 w') (first | assumption | exact ⟨x3, x4, (Below.refl _ _).drew⟩ | exact keep2B ‹_› hb3 | exact keep2B ‹_› hb4) (first
    | (go_at_call 24; refine (check_any f WA n wc _ (by omega) (HWF.out _ (And.right (And.right ‹_ ∧ _ ∧ Below w2.heap.size w2 _›))).rb).mono ?_; rw [← XE.out]; rintro e w3 ⟨rfl, hb3⟩)
    | (go_at_call 28; refine (rcheck_any f A n c _ (by omega) (HS.out _ (HB2.out.trans (Below.mono (And.right (And.right ‹_ ∧ _ ∧ Below w2.heap.size w2 _›)) HB2.out.size))).rb).mono ?_; rw [← XE.out]; rintro e w4 ⟨rfl, hb4⟩)
    | (go_at_call 14; refine (num_any _ _).mono ?_; rintro e wn ⟨rfl, rfl⟩))
  all_goals
    have hbz := (And.right (And.right ‹_ ∧ _ ∧ Below w2.heap.size w2 _›))
    have HBZ := Lib.hid hbz
    obtain ⟨v0, v1, v2, v3, v4⟩ := HX2.out _ HBZ.out
    clear hbz
    go_wp2_with (first
      | (go_at_call 31; have _t := tok2; go_must (refine (kept_any f RF WA A n wc c _ XRF.out (HW2.out _ HBZ.out) (HS.out _ (HB2.out.trans (Below.mono HBZ.out HB2.out.size))) (by omega)).mono ?_); rintro e w8 ⟨rfl, hb8⟩; have HB8 := Lib.hid (Below.trans HBZ.out (hb8.mono (Below.size HBZ.out))); obtain ⟨y0, y1, y2, y3, y4⟩ := HX2.out w8 HB8.out; clear tok2 hb8)
      | (go_at_call 31; go_must (refine (kept_any g RG GA G m gc d _ XRG.out (HG2.out _ HB8.out) (HG.out _ (HB2.out.trans (HB8.out.mono HB2.out.size))) (by omega)).mono ?_); rintro e w9 ⟨rfl, hb9⟩; have HB9 := Lib.hid (HB8.out.trans (hb9.mono HB8.out.size)); clear hb9))
    go_ret
    exact ⟨rfl, HB2.out.trans (HB9.out.mono HB2.out.size)⟩

set_option maxRecDepth 100000 in
set_option maxHeartbeats 4000000 in
theorem asked_4 : Calls Try.prog 36 #[.agg #[.int .i64 4, .int .i64 N, .slice KA kn kc, .slice A n c, .slice G m d]] w fun e w' => e = .returned (.bool true) ∧ Below w.heap.size w w' := by
  have HB0 := Lib.hid ((Below.refl w.heap.size w).alloc (Nat.le_refl _) (.cells #[.int .i64 4, .int .i64 N, .slice KA kn kc, .slice A n c, .slice G m d] 45))
  have HX := box5 w #[.int .i64 4, .int .i64 N, .slice KA kn kc, .slice A n c, .slice G m d] 45 _ _ _ _ _ rfl
  have HS : Hid (∀ w', Below w.heap.size w w' → Sl w' A n c f) := Lib.hid fun w' h => hs.later h
  have HG : Hid (∀ w', Below w.heap.size w w' → Sl w' G m d g) := Lib.hid fun w' h => hg.later h
  have HL := Lib.hid hs.len
  have HGL := Lib.hid hg.len
  obtain ⟨RF, hRF⟩ : ∃ R, R = f ++ mkB := ⟨_, rfl⟩
  obtain ⟨RG, hRG⟩ : ∃ R, R = g ++ mkB := ⟨_, rfl⟩
  have XRF := Lib.hid hRF
  have XRG := Lib.hid hRG
  have XFL : Hid (RF.length = n + 5) := Lib.hid (by rw [hRF, List.length_append, hs.len]; rfl)
  have XGL : Hid (RG.length = m + 5) := Lib.hid (by rw [hRG, List.length_append, hg.len]; rfl)
  have tok1 : True := trivial
  have tok2 : True := trivial
  obtain ⟨gb, hgb⟩ : ∃ g, g = w.heap.size := ⟨_, rfl⟩
  clear hs hg hRF hRG
  have HGB := Lib.hid hgb
  go_enter Try.func36, Try.ntmps36
  obtain ⟨u0, u1, u2, u3, u4⟩ := HX.out _ (Below.refl _ _)
  go_upto_region 3 with (first
    | (go_at_call 25; have _t := tok1; go_must (refine (wide_any f A n c _ (by omega) (HS.out _ HB0.out).rb).mono ?_); rintro e w1 hq; rw [← XRF.out] at hq; obtain ⟨WA, wc, rfl, hS1, _, hb1⟩ := hq.at_ XFL.out; have HB1 := Lib.hid (HB0.out.trans (hb1.mono HB0.out.size)); have HW1 := Lib.hid hS1; have HX1 := Lib.hid (fun x (h : Below w1.heap.size w1 x) => HX.out x (hb1.trans (h.mono hb1.size))); obtain ⟨x0, x1, x2, x3, x4⟩ := HX1.out w1 (Below.refl _ _); clear tok1 hq hS1 hb1 u0 u1 u2 u3 u4)
    | (go_at_call 25; go_must (refine (wide_any g G m d _ (by omega) (HG.out _ HB1.out).rb).mono ?_); rintro e w2 hq; rw [← XRG.out] at hq; obtain ⟨GA, gc, rfl, hS2, _, hb2⟩ := hq.at_ XGL.out; have HB2 := Lib.hid (HB1.out.trans (hb2.mono HB1.out.size)); have HW2 := Lib.hid (fun x (h : Below w2.heap.size w2 x) => HW1.out.later (hb2.trans (h.mono hb2.size))); have HG2 := Lib.hid (fun x (h : Below w2.heap.size w2 x) => hS2.later h); have HX2 := Lib.hid (fun x (h : Below w2.heap.size w2 x) => HX1.out x (hb2.trans (h.mono hb2.size))); have HWF := Lib.hid (fun x (h : Below w2.heap.size w2 x) => wide_cut (HW1.out.later hb2) HL.out XRF.out h); have HGF := Lib.hid (fun x (h : Below w2.heap.size w2 x) => wide_cut hS2 HGL.out XRG.out h); have hwc := (HW1.out).cap; have hgc := hS2.cap; clear hq hS2 hb2 x0 x1 x2 x3 x4))
  rw [← hgb] at HX2 ⊢
  obtain ⟨x0, x1, x2, x3, x4⟩ := HX2.out w2 (Below.refl _ _)
  have k1 : (n : Int) ≤ (wc : Int) := by omega
  have k2 : (m : Int) ≤ (gc : Int) := by omega
  have k3 : n ≤ n + 5 := by omega
  have k4 : m ≤ m + 5 := by omega
  clear HX HX1 HW1 HB0 HB1 hgb
  go_wp2_with fail
  obtain ⟨E, hE⟩ : ∃ E, E = unionE f g := ⟨_, rfl⟩
  obtain ⟨U, hU⟩ : ∃ U, U = ures f g := ⟨_, rfl⟩
  obtain ⟨L, hL⟩ : ∃ L, L = U.length := ⟨_, rfl⟩
  have XE := Lib.hid hE
  have XU := Lib.hid hU
  have XL := Lib.hid hL
  have XS : Hid ((U == U) = true) := Lib.hid (by simp)
  have q2 : ((E : Int) == (E : Int)) = true := by simp
  clear hE hU hL
  go_region_held3 (fun w' => w'.cell? ⟨gb, 3, none⟩ = some (.slice A n c) ∧ w'.cell? ⟨gb, 4, none⟩ = some (.slice G m d) ∧ Below w2.heap.size w2 w') (first | assumption | exact ⟨x3, x4, (Below.refl _ _).drew⟩ | exact keep2B ‹_› hb3 | exact keep2B ‹_› hb4) (first
    | (go_at_call 18; refine (union_any f g WA GA n wc m gc _ (by omega) (HWF.out _ (And.right (And.right ‹_ ∧ _ ∧ Below w2.heap.size w2 _›))).rb (by omega) (HGF.out _ (And.right (And.right ‹_ ∧ _ ∧ Below w2.heap.size w2 _›))).rb).mono ?_; rintro e w3 hp; have hp := union_post hp; rw [← XE.out, ← XU.out] at hp; obtain ⟨A3, c3, rfl, hS3, _, hb3⟩ := hp.at_ XL.out.symm rfl))
  all_goals
    obtain ⟨z3, z4, hbz⟩ := ‹_ ∧ _ ∧ Below w2.heap.size w2 w3›
    have HBZ := Lib.hid hbz
    have HS3 := Lib.hid hS3
    clear hbz hS3
    go_wp2_with (first
      | (go_at_call 30; go_must (refine (runion_any f g A G n c m d _ (by omega) (HS.out _ (HB2.out.trans (HBZ.out.mono HB2.out.size))).rb (by omega) (HG.out _ (HB2.out.trans (HBZ.out.mono HB2.out.size))).rb).mono ?_); rintro e w4 hp; rw [← XE.out, ← XU.out] at hp; obtain ⟨A4, c4, rfl, hS4, _, hb4⟩ := hp.at_ XL.out.symm rfl; have HB4 := Lib.hid (HBZ.out.trans (hb4.mono HBZ.out.size)); have HS4 := Lib.hid hS4; have HR4 := Lib.hid (HS3.out.later hb4); obtain ⟨v0, v1, v2, v3, v4⟩ := HX2.out w4 HB4.out; clear hb4 hS4 hp)
      | (go_at_call 15; go_must (refine (alike_any U U A3 A4 L c3 L c4 _ HR4.out.rb HS4.out.rb).mono ?_); rw [XS.out]; rintro e wn ⟨rfl, rfl⟩)
      | (go_at_call 14; refine (num_any _ _).mono ?_; rintro e wn ⟨rfl, rfl⟩)
      | (go_at_call 31; have _t := tok2; go_must (refine (kept_any f RF WA A n wc c _ XRF.out (HW2.out _ HB4.out) (HS.out _ (HB2.out.trans (Below.mono HB4.out HB2.out.size))) (by omega)).mono ?_); rintro e w8 ⟨rfl, hb8⟩; have HB8 := Lib.hid (Below.trans HB4.out (hb8.mono (Below.size HB4.out))); obtain ⟨y0, y1, y2, y3, y4⟩ := HX2.out w8 HB8.out; clear tok2 hb8)
      | (go_at_call 31; go_must (refine (kept_any g RG GA G m gc d _ XRG.out (HG2.out _ HB8.out) (HG.out _ (HB2.out.trans (HB8.out.mono HB2.out.size))) (by omega)).mono ?_); rintro e w9 ⟨rfl, hb9⟩; have HB9 := Lib.hid (HB8.out.trans (hb9.mono HB8.out.size)); clear hb9))
    go_ret
    exact ⟨rfl, HB2.out.trans (HB9.out.mono HB2.out.size)⟩

set_option maxRecDepth 100000 in
set_option maxHeartbeats 4000000 in
theorem asked_5 : Calls Try.prog 36 #[.agg #[.int .i64 5, .int .i64 N, .slice KA kn kc, .slice A n c, .slice G m d]] w fun e w' => e = .returned (.bool true) ∧ Below w.heap.size w w' := by
  have HB0 := Lib.hid ((Below.refl w.heap.size w).alloc (Nat.le_refl _) (.cells #[.int .i64 5, .int .i64 N, .slice KA kn kc, .slice A n c, .slice G m d] 45))
  have HX := box5 w #[.int .i64 5, .int .i64 N, .slice KA kn kc, .slice A n c, .slice G m d] 45 _ _ _ _ _ rfl
  have HS : Hid (∀ w', Below w.heap.size w w' → Sl w' A n c f) := Lib.hid fun w' h => hs.later h
  have HG : Hid (∀ w', Below w.heap.size w w' → Sl w' G m d g) := Lib.hid fun w' h => hg.later h
  have HL := Lib.hid hs.len
  have HGL := Lib.hid hg.len
  obtain ⟨RF, hRF⟩ : ∃ R, R = f ++ mkB := ⟨_, rfl⟩
  obtain ⟨RG, hRG⟩ : ∃ R, R = g ++ mkB := ⟨_, rfl⟩
  have XRF := Lib.hid hRF
  have XRG := Lib.hid hRG
  have XFL : Hid (RF.length = n + 5) := Lib.hid (by rw [hRF, List.length_append, hs.len]; rfl)
  have XGL : Hid (RG.length = m + 5) := Lib.hid (by rw [hRG, List.length_append, hg.len]; rfl)
  have tok1 : True := trivial
  have tok2 : True := trivial
  obtain ⟨gb, hgb⟩ : ∃ g, g = w.heap.size := ⟨_, rfl⟩
  clear hs hg hRF hRG
  have HGB := Lib.hid hgb
  go_enter Try.func36, Try.ntmps36
  obtain ⟨u0, u1, u2, u3, u4⟩ := HX.out _ (Below.refl _ _)
  go_upto_region 3 with (first
    | (go_at_call 25; have _t := tok1; go_must (refine (wide_any f A n c _ (by omega) (HS.out _ HB0.out).rb).mono ?_); rintro e w1 hq; rw [← XRF.out] at hq; obtain ⟨WA, wc, rfl, hS1, _, hb1⟩ := hq.at_ XFL.out; have HB1 := Lib.hid (HB0.out.trans (hb1.mono HB0.out.size)); have HW1 := Lib.hid hS1; have HX1 := Lib.hid (fun x (h : Below w1.heap.size w1 x) => HX.out x (hb1.trans (h.mono hb1.size))); obtain ⟨x0, x1, x2, x3, x4⟩ := HX1.out w1 (Below.refl _ _); clear tok1 hq hS1 hb1 u0 u1 u2 u3 u4)
    | (go_at_call 25; go_must (refine (wide_any g G m d _ (by omega) (HG.out _ HB1.out).rb).mono ?_); rintro e w2 hq; rw [← XRG.out] at hq; obtain ⟨GA, gc, rfl, hS2, _, hb2⟩ := hq.at_ XGL.out; have HB2 := Lib.hid (HB1.out.trans (hb2.mono HB1.out.size)); have HW2 := Lib.hid (fun x (h : Below w2.heap.size w2 x) => HW1.out.later (hb2.trans (h.mono hb2.size))); have HG2 := Lib.hid (fun x (h : Below w2.heap.size w2 x) => hS2.later h); have HX2 := Lib.hid (fun x (h : Below w2.heap.size w2 x) => HX1.out x (hb2.trans (h.mono hb2.size))); have HWF := Lib.hid (fun x (h : Below w2.heap.size w2 x) => wide_cut (HW1.out.later hb2) HL.out XRF.out h); have HGF := Lib.hid (fun x (h : Below w2.heap.size w2 x) => wide_cut hS2 HGL.out XRG.out h); have hwc := (HW1.out).cap; have hgc := hS2.cap; clear hq hS2 hb2 x0 x1 x2 x3 x4))
  rw [← hgb] at HX2 ⊢
  obtain ⟨x0, x1, x2, x3, x4⟩ := HX2.out w2 (Below.refl _ _)
  have k1 : (n : Int) ≤ (wc : Int) := by omega
  have k2 : (m : Int) ≤ (gc : Int) := by omega
  have k3 : n ≤ n + 5 := by omega
  have k4 : m ≤ m + 5 := by omega
  clear HX HX1 HW1 HB0 HB1 hgb
  go_wp2_with fail
  obtain ⟨E, hE⟩ : ∃ E, E = onesN f := ⟨_, rfl⟩
  have XE := Lib.hid hE
  have q2 : ((E : Int) == (E : Int)) = true := by simp
  have hwc5 : n ≤ wc := by omega
  clear hE
  go_region_held3 (fun w' => w'.cell? ⟨gb, 3, none⟩ = some (.slice A n c) ∧ w'.cell? ⟨gb, 4, none⟩ = some (.slice G m d) ∧ Below w2.heap.size w2 w') (first | assumption | exact ⟨x3, x4, (Below.refl _ _).drew⟩ | exact keep2B ‹_› hb3 | exact keep2B ‹_› hb4) (first
    | (go_at_call 17; refine (ones_any f WA n wc _ (by omega) hwc5 (HWF.out _ (And.right (And.right ‹_ ∧ _ ∧ Below w2.heap.size w2 _›))).rb).mono ?_; rw [← XE.out]; rintro e w3 ⟨rfl, hb3⟩)
    | (go_at_call 29; refine (rones_any f A n c _ (by omega) (HS.out _ (HB2.out.trans (Below.mono (And.right (And.right ‹_ ∧ _ ∧ Below w2.heap.size w2 _›)) HB2.out.size))).rb).mono ?_; rw [← XE.out]; rintro e w4 ⟨rfl, hb4⟩))
  all_goals
    have hbz := (And.right (And.right ‹_ ∧ _ ∧ Below w2.heap.size w2 _›))
    have HBZ := Lib.hid hbz
    obtain ⟨v0, v1, v2, v3, v4⟩ := HX2.out _ HBZ.out
    clear hbz
    go_wp2_with (first
      | (go_at_call 31; have _t := tok2; go_must (refine (kept_any f RF WA A n wc c _ XRF.out (HW2.out _ HBZ.out) (HS.out _ (HB2.out.trans (Below.mono HBZ.out HB2.out.size))) (by omega)).mono ?_); rintro e w8 ⟨rfl, hb8⟩; have HB8 := Lib.hid (Below.trans HBZ.out (hb8.mono (Below.size HBZ.out))); obtain ⟨y0, y1, y2, y3, y4⟩ := HX2.out w8 HB8.out; clear tok2 hb8)
      | (go_at_call 31; go_must (refine (kept_any g RG GA G m gc d _ XRG.out (HG2.out _ HB8.out) (HG.out _ (HB2.out.trans (HB8.out.mono HB2.out.size))) (by omega)).mono ?_); rintro e w9 ⟨rfl, hb9⟩; have HB9 := Lib.hid (HB8.out.trans (hb9.mono HB8.out.size)); clear hb9))
    go_ret
    exact ⟨rfl, HB2.out.trans (HB9.out.mono HB2.out.size)⟩
end
end Go.Proofs.Ythjjihipodhkiaa
