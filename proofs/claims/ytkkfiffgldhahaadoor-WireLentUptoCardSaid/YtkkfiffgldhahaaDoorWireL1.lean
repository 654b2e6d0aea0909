/-
  The statements' only, Keep, Untouched, walked.
-/
import Derived.Test.YtkkfiffgldhahaaDoorKit11
import Derived.Test.YtkkfiffgldhahaaDoorWireO3
namespace Go.Proofs.YtkkfiffgldhahaaDoor
open Go.RowKit

set_option maxRecDepth 100000 in
set_option maxHeartbeats 1000000 in
theorem only_any (A : Option Addr) (n c : Nat) (m : UInt8) (z : Int) (hz : z = (m.toNat : Int)) (w : World) (hn : n ≤ 1099511627776) (h : Sl w A n c (List.replicate n m)) :
    Calls Tryd.prog 68 #[.slice A n c, .int .u8 z] w fun e w' => e = .returned (.bool true) ∧ w = w' := by
  have H := Lib.hid h
  have HZ := Lib.hid hz
  clear h hz
  go_enter Tryd.func68, Tryd.ntmps68
  go_wp2_with fail
  go_loop [5] (fun i => ∃ k : Nat, k ≤ n ∧ i = .int .i64 k) (fun i => n - (intOf i).toNat)
  case atStart => exact ⟨0, Nat.zero_le _, rfl⟩
  case round =>
    obtain ⟨k, hk, rfl⟩ := hrel
    by_cases hlt : k < n
    case neg =>
      have hd : decide ((k : Int) < (n : Int)) = false := decide_eq_false (by omega)
      go_wp2_with fail
      go_ret
      exact ⟨rfl, rfl⟩
    have hd : decide ((k : Int) < (n : Int)) = true := decide_eq_true (by omega)
    obtain ⟨b, o, x, e', _, hx, hcx⟩ := H.out.rb.at_ hlt
    subst e'
    rw [List.getElem?_replicate, if_pos hlt] at hx
    injection hx with hx
    subst hx
    rw [← HZ.out] at hcx
    go_wp2_with fail
    go_round
    case rel => exact ⟨k + 1, by omega, by go_num⟩
    case measure => simp [intOf]; omega

def KeepPost (T e : TypeId) (B g : Nat) (zs : RowL) (is js : List Nat) (lv wv : Value) (i : Nat) (l : List UInt8) (w : World) (e' : Ending) (w' : World) : Prop :=
  e' = .returned (.tuple #[]) ∧ ∃ lv' wv' A' c', BkH T e B g w' lv' wv' (zs ++ [(A', c', l)]) (is ++ [i]) (js ++ [zs.length]) ∧ Chg (fun b => ¬ Far g lv wv b) w w' ∧ (∀ b, b < w.heap.size → Far g lv wv b → Far g lv' wv' b)
theorem keep_far {g : Nat} {lv wv lv' wv' : Value} {w1 w2 w3 w0 : World} (h01 : Below w0.heap.size w0 w1) (c1 : Chg (fun b => b = g ∨ lv.ownBlock = some b) w1 w2) (n1 : ∀ b, b < w1.heap.size → lv.ownBlock ≠ some b → lv'.ownBlock ≠ some b) (c2 : Chg (fun b => b = g ∨ wv.ownBlock = some b) w2 w3) (n2 : ∀ b, b < w2.heap.size → wv.ownBlock ≠ some b → wv'.ownBlock ≠ some b) :
    Chg (fun b => ¬ Far g lv wv b) w0 w3 ∧ (∀ b, b < w0.heap.size → Far g lv wv b → Far g lv' wv' b) := by
  refine ⟨((Below.chg0 h01).trans (c1.mono fun b _ h f => ?_)).trans (c2.mono fun b _ h f => ?_), fun b hb f => ⟨f.1, n1 b (Nat.lt_of_lt_of_le hb h01.size) f.2.1, n2 b (Nat.lt_of_lt_of_le (Nat.lt_of_lt_of_le hb h01.size) c1.size) f.2.2⟩⟩
  · rcases h with h | h
    · exact f.1 h
    · exact f.2.1 h
  · rcases h with h | h
    · exact f.1 h
    · exact f.2.2 h
theorem fresh_idx {is js : List Nat} {N i : Nat} (hlt : ∀ k, k ∈ is ++ js → k < N) (hi : i < N) : N ∉ is ++ [i] ++ js := fun h => by
  rcases List.mem_append.1 h with h | h
  · rcases List.mem_append.1 h with h | h
    · exact absurd (hlt N (List.mem_append_left _ h)) (Nat.lt_irrefl _)
    · simp at h; omega
  · exact absurd (hlt N (List.mem_append_right _ h)) (Nat.lt_irrefl _)
theorem rows_one {T : TypeId} {B c : Nat} {w : World} {A : Option Addr} {l : List UInt8} (h : OwnB T B w A c l) : RowsB T B w [(A, c, l)] := by
  have := (RowsB.nil (T := T) (base := B) (w := w)).snoc h (fun i r hr => by simp at hr)
  exact this

set_option maxRecDepth 100000 in
set_option maxHeartbeats 2000000 in
theorem keep_any (B g : Nat) (zs : RowL) (is js : List Nat) (lv wv : Value) (i : Nat) (A : Option Addr) (n c : Nat) (l : List UInt8) (w : World) (h : BkH 5 22 B g w lv wv zs is js) (hi : zs[i]? = some (A, c, l)) (hni : i ∉ is ++ js) (hl : l.length = n) (hn : n ≤ 16777216) (hm : is.length ≤ 100000) (hm2 : js.length ≤ 100000) :
    Calls Tryd.prog 41 #[.pointer (some ⟨g, 0, none⟩), .slice A n c] w (KeepPost 5 22 B g zs is js lv wv i l w) := by
  have H := Lib.hid h
  have HI := Lib.hid hi
  have HNI := Lib.hid hni
  have HL := Lib.hid hl
  have HS : Hid (Sl w A n c l) := Lib.hid (h.rows.sl_at hi hl)
  have HLT : Hid (i < zs.length) := Lib.hid (List.getElem?_eq_some_iff.1 hi).1
  obtain ⟨M, hM⟩ : ∃ M, M = is.length := ⟨_, rfl⟩
  obtain ⟨N, hN⟩ : ∃ N, N = js.length := ⟨_, rfl⟩
  rw [← hM] at hm
  rw [← hN] at hm2
  have XM := Lib.hid hM
  have XN := Lib.hid hN
  have tok1 : True := trivial
  have tok2 : True := trivial
  clear h hi hni hl hM hN
  go_enter Tryd.func41, Tryd.ntmps41
  go_wp2_with (first
    | (at_builtin; have _t := tok1; go_must (refine wpList_append_reads _ rfl (.tmp 5) (.tmp 6) rfl Tryd.u8s' w.heap.size (.slice none 0 0) 0 [] rfl (own_nil _ _ _ _) _ A n c (u8s l) rfl HS.out.rb (u8s_one _) (by unfold maxLen; omega) (by omega) (Nat.le_refl _) ?_); intro v1 w1 hown1 hg1 hat1; have HB1 := Lib.hid (below_app (Below.refl w.heap.size w) (own_nil _ w.heap.size 5 1) hg1 (Nat.le_refl _) (Nat.le_refl _)); rw [List.nil_append, Nat.zero_add] at hown1; obtain ⟨A1, c1, rfl, _⟩ := own_slice hown1; have hbk := H.out.add HB1.out (rows_one (own_of_len hown1 HL.out)); have BH1 := Lib.hid hbk; obtain ⟨p0, p1, f0, f1⟩ := hbk.box; have HGL : Hid (lv.ownBlock ≠ some g) := Lib.hid (fun e' => by have h1 := own_ge hbk.ol g e'; have h2 := hbk.gB; omega); have hi1 : (zs ++ [(A1, c1, l)])[i]? = some (A, c, l) := (List.getElem?_append_left HLT.out).trans HI.out; have HI1 := Lib.hid hi1; clear tok1 hown1 hg1 hat1 hbk hi1)
    | (at_builtin; have _t := tok2; go_must (refine wpList_append_reads _ rfl (.tmp 12) (.tmp 14) rfl Tryd.kss B lv M ((pickR (zs ++ [(A1, c1, l)]) is).map valR) rfl (by rw [XM.out]; exact BH1.out.ol.alloc _) (w1.heap.size + 1) (some ⟨w1.heap.size, 0, none⟩) 1 1 [.slice A n c] rfl (lit_one8 _ _ _ _ rfl) (by simp [Value.oneCell']) (by unfold maxLen; omega) (by omega) (by have := BH1.out.le; simp; omega) ?_); intro v2 w2 hown2 hg2 hat2; obtain ⟨A2, c2, rfl, _⟩ := own_slice hown2; rw [XM.out] at hown2 hat2; have hst := BH1.out.appL HI1.out HNI.out (by simp only [valR]; rw [HL.out]) hown2 hg2 hat2; rw [← XM.out] at hst; have HST := Lib.hid hst; obtain ⟨q0, q1, g0, g1⟩ := ((BH1.out.later ((Below.refl w1.heap.size w1).alloc (Nat.le_refl _) (.cells #[.slice A n c] 22))).box.chg (grown_chg hg2) HGL.out); have HWL : Hid (wv.ownBlock ≠ some g) := Lib.hid (fun e' => by have h1 := own_ge BH1.out.ow g e'; have h2 := BH1.out.gB; omega); obtain ⟨r0, r1, h0, h1⟩ := hst.1.box; clear tok2 hown2 hg2 hat2 hst p0 p1 f0 f1)
    | (at_builtin; go_must (refine wpList_append_reads _ rfl (.tmp 22) (.tmp 24) rfl Tryd.kss B wv N ((pickR (zs ++ [(A1, c1, l)]) js).map valR) rfl (by rw [XN.out]; exact HST.out.1.ow.alloc _) (w2.heap.size + 1) (some ⟨w2.heap.size, 0, none⟩) 1 1 [.slice A1 n c1] rfl (lit_one8 _ _ _ _ (by simp)) (by simp [Value.oneCell']) (by unfold maxLen; omega) (by omega) (by have := HST.out.1.le; simp at this; simp; omega) ?_); intro v3 w3 hown3 hg3 hat3; obtain ⟨A3, c3, rfl, _⟩ := own_slice hown3; rw [XN.out] at hown3 hat3; have hst3 := HST.out.1.appW (i := zs.length) (r := (A1, c1, l)) (by rw [List.getElem?_append_right (Nat.le_refl _), Nat.sub_self]; rfl) (fresh_idx H.out.lt HLT.out) (by simp only [valR]; rw [HL.out]) hown3 hg3 hat3; rw [← XN.out] at hst3; have HST3 := Lib.hid hst3; obtain ⟨s0, s1, t0, t1⟩ := ((HST.out.1.later ((Below.refl _ _).alloc (Nat.le_refl _) (.cells #[.slice A1 n c1] 22))).box.chg (grown_chg hg3) HWL.out); clear hown3 hg3 hat3 hst3 q0 q1 g0 g1))
  go_end0
  exact ⟨rfl, _, _, A1, c1, HST3.out.1, keep_far HB1.out HST.out.2.1 HST.out.2.2 HST3.out.2.1 HST3.out.2.2⟩

set_option maxRecDepth 100000 in
set_option maxHeartbeats 2000000 in
theorem untouched_any (B g : Nat) (zs : RowL) (is js : List Nat) (lv wv : Value) (w : World) (h : BkH 5 22 B g w lv wv zs is js) (hs : SameC zs is js) (hm : is.length ≤ 100000) :
    Calls Tryd.prog 67 #[.pointer (some ⟨g, 0, none⟩)] w fun e w' => e = .returned (.bool true) ∧ Below w.heap.size w w' := by
  obtain ⟨n, hn⟩ : ∃ n, n = is.length := ⟨_, rfl⟩
  obtain ⟨LA, lc, rfl, _, _, _, hrl⟩ := own_slice h.ol
  obtain ⟨WA, wc, rfl, _, _, _, hrw⟩ := own_slice h.ow
  rw [← hs.1] at hrw
  have HX : Hid (∀ x, Below w.heap.size w x → x.cell? ⟨g, 0, none⟩ = some (.slice LA n lc) ∧ x.cell? ⟨g, 1, none⟩ = some (.slice WA n wc)) := Lib.hid fun x hx => by
    have hb := h.box.chg (S := fun _ => False) (Below.chg0 hx) (fun e => e)
    refine ⟨by rw [hn]; exact hb.c0, by rw [hn, hs.1]; exact hb.c1⟩
  have HC : Hid (∀ k, k < n → ∃ b o b' o' a c a' c' l, LA = some ⟨b, o, none⟩ ∧ WA = some ⟨b', o', none⟩ ∧ (∀ x, Below w.heap.size w x → x.cell? ⟨b, o + k, none⟩ = some (.slice a l.length c) ∧ x.cell? ⟨b', o' + k, none⟩ = some (.slice a' l.length c') ∧ Sl x a l.length c l ∧ Sl x a' l.length c' l)) := Lib.hid fun k hk => by
    rw [hn] at hk
    obtain ⟨b, o, rfl, hb, hc⟩ := hrl.2 (by omega)
    obtain ⟨b', o', rfl, hb', hc'⟩ := hrw.2 (by omega)
    have hi : is[k]? = some (is[k]'hk) := List.getElem?_eq_getElem hk
    have hj : js[k]? = some (js[k]'(by rw [← hs.1]; exact hk)) := List.getElem?_eq_getElem _
    have hil := h.lt _ (List.mem_append_left _ (List.mem_of_getElem? hi))
    obtain ⟨r, hr⟩ : ∃ r, zs[is[k]'hk]? = some r := ⟨_, List.getElem?_eq_getElem hil⟩
    obtain ⟨a, c, l⟩ := r
    obtain ⟨a', c', hr'⟩ := hs.2 k _ _ hi hj a c l hr
    refine ⟨b, o, b', o', a, c, a', c', l, rfl, rfl, fun x hx => ⟨?_, ?_, (h.rows.sl hr).later hx, (h.rows.sl hr').later hx⟩⟩
    · exact (hx.cell (p := ⟨b, o + k, none⟩) hb).trans (hc k _ (by rw [List.getElem?_map, pickR_at hi hr]; rfl))
    · exact (hx.cell (p := ⟨b', o' + k, none⟩) hb').trans (hc' k _ (by rw [List.getElem?_map, pickR_at hj hr']; rfl))
  rw [← hn] at hm
  clear h hs hrl hrw hn
  go_enter Tryd.func67, Tryd.ntmps67
  go_wp2_with fail
  go_loopw [3] (fun i wr => ∃ k : Nat, k ≤ n ∧ i = .int .i64 k ∧ Hid (Below w.heap.size w wr)) (fun i _ => n - (intOf i).toNat)
  case atStart => exact ⟨0, Nat.zero_le _, rfl, Lib.hid (Below.refl _ _)⟩
  case round =>
    obtain ⟨k, hk, rfl, HB⟩ := hrel
    obtain ⟨x0, x1⟩ := HX.out wr HB.out
    by_cases hlt : k < n
    case neg =>
      have hd : decide ((k : Int) < (n : Int)) = false := decide_eq_false (by omega)
      go_wp2_with fail
      go_ret
      exact ⟨rfl, HB.out⟩
    have hd : decide ((k : Int) < (n : Int)) = true := decide_eq_true (by omega)
    obtain ⟨b, o, b', o', a, c, a', c', l, rfl, rfl, hcc⟩ := HC.out k hlt
    obtain ⟨q, hq⟩ : ∃ q, q = l.length := ⟨_, rfl⟩
    rw [← hq] at hcc
    obtain ⟨m1, m2, s1, s2⟩ := hcc wr HB.out
    have P1 := Lib.hid s1
    have P2 := Lib.hid s2
    have XS : Hid ((l == l) = true) := Lib.hid (by simp)
    have hk1 : (k : Int) < (n : Int) := by omega
    have hk2 : (0 : Int) ≤ (k : Int) := by omega
    clear hcc s1 s2 hq
    go_wp2_with fail
    go_region_held3 (fun w' => w'.cell? ⟨g, 0, none⟩ = some (.slice (some ⟨b, o, none⟩) n lc) ∧ w'.cell? ⟨g, 1, none⟩ = some (.slice (some ⟨b', o', none⟩) n wc) ∧ w'.cell? ⟨b, o + k, none⟩ = some (.slice a q c) ∧ w'.cell? ⟨b', o' + k, none⟩ = some (.slice a' q c') ∧ Below wr.heap.size wr w') (first | assumption | exact ⟨x0, x1, m1, m2, (Below.refl _ _).drew⟩) (first
      | (go_at_call 24; refine (same_any l l a a' q c q c' _ (P1.out.later (And.right (And.right (And.right (And.right ‹_ ∧ _ ∧ _ ∧ _ ∧ Below wr.heap.size wr _›))))).rb (P2.out.later (And.right (And.right (And.right (And.right ‹_ ∧ _ ∧ _ ∧ _ ∧ Below wr.heap.size wr _›))))).rb).mono ?_; rw [XS.out]; rintro e wn ⟨rfl, rfl⟩))
    all_goals
      have HB9 := Lib.hid (HB.out.trans ((And.right (And.right (And.right (And.right ‹_ ∧ _ ∧ _ ∧ _ ∧ Below wr.heap.size wr _›)))).mono HB.out.size))
      go_wp2_with fail
      go_roundw
      case rel => exact ⟨k + 1, by omega, by go_num, HB9⟩
      case measure => simp [intOf]; omega

end Go.Proofs.YtkkfiffgldhahaaDoor
