/-
  WireLent, walked.
-/
import Derived.Test.YtkkfiffgldhahaaDoorWireL3
namespace Go.Proofs.YtkkfiffgldhahaaDoor
open Go.RowKit

theorem LR.at9 {T e : TypeId} {B n c : Nat} {w : World} {A : Option Addr} {rs : RowL} {ks : List (List UInt8)} (h : LR T e B w A n c rs ks) (hb : ∀ (i : Nat) k, ks[i]? = some k → k.length ≤ 16777216) {j : Nat} (hj : j < n) : ∃ a ca l, rs[j]? = some (a, ca, l) ∧ l.length ≤ 16777216 := by
  have hk : ks[j]? = some (ks[j]'(by rw [h.len_ks]; exact hj)) := List.getElem?_eq_getElem _
  obtain ⟨a, ca, hr, _⟩ := h.at_ hk
  exact ⟨a, ca, _, hr, hb _ _ hk⟩
/-- Within a round: which of the round's rows are in the book already. -/
structure LtS (T e : TypeId) (B g p : Nat) (w2 w10 : World) (bs : List Nat) (z0 : RowL) (N : Nat) (used : Nat → Prop) (w : World) (lv wv : Value) (zs : RowL) (is js : List Nat) : Prop where
  bk : BkH T e B g w lv wv zs is js
  sm : SameC zs is js
  ln : is.length = N
  cb : ∀ (i : Nat) r, zs[i]? = some r → r.2.2.length ≤ 16777216
  c2 : Chg (fun b => b = g ∨ B ≤ b) w2 w
  c10 : Chg (fun b => b ∉ bs) w10 w
  pre : ∀ k, k < p + 36 → zs[k]? = z0[k]?
  pl : p + 36 ≤ zs.length
  use : ∀ k, k ∈ is ++ js → k < p ∨ used k ∨ p + 36 ≤ k
  far : ∀ b, b ∈ bs → Far g lv wv b
  lt10 : ∀ b, b ∈ bs → b < w10.heap.size
section
variable {T e : TypeId} {B g p N : Nat} {w2 w10 w x : World} {bs : List Nat} {z0 zs : RowL} {used used' : Nat → Prop} {lv wv : Value} {is js : List Nat}
theorem LtS.mono (h : LtS T e B g p w2 w10 bs z0 N used w lv wv zs is js) (hu : ∀ k, used k → used' k) : LtS T e B g p w2 w10 bs z0 N used' w lv wv zs is js :=
  ⟨h.bk, h.sm, h.ln, h.cb, h.c2, h.c10, h.pre, h.pl, fun k hk => by
    rcases h.use k hk with h1 | h1 | h1
    · exact .inl h1
    · exact .inr (.inl (hu k h1))
    · exact .inr (.inr h1), h.far, h.lt10⟩
theorem LtS.notin (h : LtS T e B g p w2 w10 bs z0 N used w lv wv zs is js) {i : Nat} (h1 : p ≤ i) (h2 : i < p + 36) (h3 : ¬ used i) : i ∉ is ++ js := fun hk => by
  rcases h.use i hk with h4 | h4 | h4
  · omega
  · exact h3 h4
  · omega
theorem LtS.keep (h : LtS T e B g p w2 w10 bs z0 N used w lv wv zs is js) {i : Nat} {A : Option Addr} {c : Nat} {l : List UInt8} {e' : Ending} (h1 : p ≤ i) (h2 : i < p + 36) (hi : z0[i]? = some (A, c, l)) (hp : KeepPost T e B g zs is js lv wv i l w e' x) :
    e' = .returned (.tuple #[]) ∧ ∃ lv' wv' zs' is' js', LtS T e B g p w2 w10 bs z0 (N + 1) (fun k => used k ∨ k = i) x lv' wv' zs' is' js' := by
  obtain ⟨rfl, lv', wv', A', c', hbk, hch, hfar⟩ := hp
  have hzi : zs[i]? = some (A, c, l) := (h.pre i h2).trans hi
  have hnf : ∀ b, ¬ Far g lv wv b → b = g ∨ B ≤ b := fun b hb => by
    by_cases h3 : b = g
    · exact .inl h3
    · by_cases h4 : lv.ownBlock = some b
      · exact .inr (own_ge h.bk.ol b h4)
      · by_cases h5 : wv.ownBlock = some b
        · exact .inr (own_ge h.bk.ow b h5)
        · exact absurd ⟨h3, h4, h5⟩ hb
  refine ⟨rfl, lv', wv', _, _, _, hbk, h.sm.keep h.bk.lt hzi, by rw [List.length_append, h.ln]; rfl, fun j r hr => ?_, h.c2.trans (hch.mono fun b _ hb => hnf b hb), h.c10.trans (hch.mono fun b _ hb hm => hb (h.far b hm)), fun k hk => ?_, ?_, fun k hk => ?_, fun b hb => hfar b (Nat.lt_of_lt_of_le (h.lt10 b hb) h.c10.size) (h.far b hb), h.lt10⟩
  · rw [List.getElem?_append] at hr
    split at hr
    · exact h.cb j r hr
    · have h0 : j - zs.length = 0 := by
        have := (List.getElem?_eq_some_iff.1 hr).1
        simp at this; omega
      rw [h0] at hr
      injection hr with hr
      subst hr
      exact h.cb i (A, c, l) hzi
  · rw [List.getElem?_append_left (by have := h.pl; omega)]; exact h.pre k hk
  · rw [List.length_append]; have := h.pl; omega
  · have hpl := h.pl
    rcases List.mem_append.1 hk with hk | hk
    · rcases List.mem_append.1 hk with hk | hk
      · rcases h.use k (List.mem_append_left _ hk) with h4 | h4 | h4
        · exact .inl h4
        · exact .inr (.inl (.inl h4))
        · exact .inr (.inr h4)
      · simp at hk
        exact .inr (.inl (.inr hk))
    · rcases List.mem_append.1 hk with hk | hk
      · rcases h.use k (List.mem_append_right _ hk) with h4 | h4 | h4
        · exact .inl h4
        · exact .inr (.inl (.inl h4))
        · exact .inr (.inr h4)
      · simp at hk
        exact .inr (.inr (by omega))
end
theorem LR.holds {T e : TypeId} {B n c : Nat} {w : World} {A : Option Addr} {rs : RowL} {ks : List (List UInt8)} (h : LR T e B w A n c rs ks) (hn : 0 < n) : ∃ g, A = some ⟨g, 0, none⟩ ∧ B ≤ g ∧ g < w.heap.size ∧ ∀ (i : Nat) a ca l, rs[i]? = some (a, ca, l) → w.cell? ⟨g, i, none⟩ = some (.slice a l.length ca) := by
  obtain ⟨g, cap, hv, h1, h2, _⟩ := own_form h.ol hn
  injection hv with hv _ _
  subst hv
  refine ⟨g, rfl, h1, h2, fun i a ca l hr => ?_⟩
  obtain ⟨g', e', _, _, hc⟩ := h.cell hr
  injection e' with e'; injection e' with e'
  subst e'
  exact hc
theorem get36 (zs X1 X2 X3 X4 : RowL) (h1 : X1.length = 9) (h2 : X2.length = 9) (h3 : X3.length = 9) (h4 : X4.length = 9) : (zs ++ X1 ++ X2 ++ X3 ++ X4).length = zs.length + 36 ∧ ∀ k, k < 9 → (zs ++ X1 ++ X2 ++ X3 ++ X4)[zs.length + k]? = X1[k]? ∧ (zs ++ X1 ++ X2 ++ X3 ++ X4)[zs.length + 9 + k]? = X2[k]? ∧ (zs ++ X1 ++ X2 ++ X3 ++ X4)[zs.length + 18 + k]? = X3[k]? ∧ (zs ++ X1 ++ X2 ++ X3 ++ X4)[zs.length + 27 + k]? = X4[k]? := by
  refine ⟨by simp only [List.length_append]; omega, fun k hk => ⟨?_, ?_, ?_, ?_⟩⟩
  · rw [List.getElem?_append_left (by simp only [List.length_append]; omega), List.getElem?_append_left (by simp only [List.length_append]; omega), List.getElem?_append_left (by simp only [List.length_append]; omega), List.getElem?_append_right (by omega)]
    congr 1; omega
  · rw [List.getElem?_append_left (by simp only [List.length_append]; omega), List.getElem?_append_left (by simp only [List.length_append]; omega), List.getElem?_append_right (by simp only [List.length_append]; omega)]
    congr 1; simp only [List.length_append]; omega
  · rw [List.getElem?_append_left (by simp only [List.length_append]; omega), List.getElem?_append_right (by simp only [List.length_append]; omega)]
    congr 1; simp only [List.length_append]; omega
  · rw [List.getElem?_append_right (by simp only [List.length_append]; omega)]
    congr 1; simp only [List.length_append]; omega
theorem cb_app {zs rs : RowL} {ks : List (List UInt8)} (h : ∀ (i : Nat) r, zs[i]? = some r → r.2.2.length ≤ 16777216) (hk : rs.map (·.2.2) = ks) (hb : ∀ (i : Nat) k, ks[i]? = some k → k.length ≤ 16777216) : ∀ (i : Nat) r, (zs ++ rs)[i]? = some r → r.2.2.length ≤ 16777216 := fun i r hr => by
  rw [List.getElem?_append] at hr
  split at hr
  · exact h i r hr
  · exact hb (i - zs.length) _ (by rw [← hk, List.getElem?_map, hr]; rfl)
theorem LR.far {T e : TypeId} {B0 g n c : Nat} {w x : World} {A : Option Addr} {rs : RowL} {ks : List (List UInt8)} (h : LR T e B0 w A n c rs ks) (hg : g < B0) (hc : Chg (fun b => b = g ∨ w.heap.size ≤ b) w x) : LR T e B0 x A n c rs ks := by
  refine h.chg hc (fun a ha hb => ?_) (fun i r a hr ha hb => ?_)
  · subst ha
    have h1 := World.ownsRow.lt h.ol a.block rfl
    omega
  · have h1 := (h.rows.1 i r hr).lt ha
    omega
theorem far_new {B g b : Nat} {T e : TypeId} {w : World} {lv wv : Value} {zs : RowL} {is js : List Nat} (h : BkH T e B g w lv wv zs is js) (hb : w.heap.size ≤ b) : Far g lv wv b := by
  have h1 := h.gB
  have h2 := h.le
  exact ⟨by omega, fun e' => by have := own_row_lt h.ol b e'; omega, fun e' => by have := own_row_lt h.ow b e'; omega⟩

set_option maxRecDepth 100000 in
set_option maxHeartbeats 8000000 in
theorem lentL_any (v u : Nat) (l r all : List UInt8) (A C D : Option Addr) (n c k kc m d : Nat) (a : Int) (w : World) (hv : v < 18446744073709551616) (hu : u < 18446744073709551616) (hs : Sl w A n c l) (hn : n ≤ 1048576) (hr : Sl w C k kc r) (hk : k ≤ 1048576) (hd : Sl w D m d all) (hm : m ≤ 1048576) (ht : TabAt 0 w) :
    Calls Tryd.prog 9 #[.int .u64 v, .slice A n c, .int .u64 u, .slice C k kc, .slice D m d, .int .i64 a] w fun e w' => e = .returned (.bool true) ∧ Below w.heap.size w w' := by
  have HT : Hid (∀ w', Below w.heap.size w w' → TabAt 0 w') := Lib.hid fun w' h => ht.later h
  have HA : Hid (∀ w', Below w.heap.size w w' → Sl w' A n c l) := Lib.hid fun w' h => hs.later h
  have HC : Hid (∀ w', Below w.heap.size w w' → Sl w' C k kc r) := Lib.hid fun w' h => hr.later h
  have HD : Hid (∀ w', Below w.heap.size w w' → Sl w' D m d all) := Lib.hid fun w' h => hd.later h
  obtain ⟨KS, hKS⟩ : ∃ K, K = ansB v l all a := ⟨_, rfl⟩
  obtain ⟨KT, hKT⟩ : ∃ K, K = ansB u r all a := ⟨_, rfl⟩
  have XS := Lib.hid hKS
  have XT := Lib.hid hKT
  have HLS : Hid (∀ (i : Nat) k, KS[i]? = some k → k.length ≤ 16777216) := Lib.hid (by rw [hKS]; exact ans_le hv (by rw [hs.len]; omega) (by rw [hd.len]; omega))
  have HLT : Hid (∀ (i : Nat) k, KT[i]? = some k → k.length ≤ 16777216) := Lib.hid (by rw [hKT]; exact ans_le hu (by rw [hr.len]; omega) (by rw [hd.len]; omega))
  have HV := Lib.hid hv
  have HU := Lib.hid hu
  have tok1 : True := trivial
  clear hs hr hd ht hKS hKT hv hu
  go_enter Tryd.func9, Tryd.ntmps9
  go_upto_region 2 with fail
  obtain ⟨gb, hgb⟩ : ∃ g, g = w.heap.size := ⟨_, rfl⟩
  have HB0 := Lib.hid ((Below.refl w.heap.size w).alloc (Nat.le_refl _) (.cells #[.slice none 0 0, .slice none 0 0] 56))
  have HBC : Hid (BkC (w.alloc (.cells #[.slice none 0 0, .slice none 0 0] 56)) gb (.slice none 0 0) (.slice none 0 0)) := Lib.hid (by
    subst hgb
    exact ⟨by simp, by simp, by simp, by simp⟩)
  have HSZ : Hid (gb < (w.alloc (.cells #[.slice none 0 0, .slice none 0 0] 56)).heap.size) := Lib.hid (by subst hgb; simp)
  have HGW : Hid (w.heap.size ≤ gb) := Lib.hid (by omega)
  rw [← hgb]
  clear hgb
  generalize w.alloc _ = w0 at *
  go_upto_region 4 with (first
    | (go_at_call 40; have _t := tok1; go_must (refine (wants_any v l all A D n c m d a _ HV.out (HA.out _ HB0.out) hn (HD.out _ HB0.out) hm).mono ?_); rintro e w1 ⟨A1, c1, rs1, rfl, hlr1, hb1⟩; rw [← XS.out] at hlr1; have L1 := Lib.hid hlr1; have HB1 := Lib.hid (HB0.out.trans (hb1.mono HB0.out.size)); have K1 := Lib.hid hb1; clear tok1 hlr1 hb1)
    | (go_at_call 40; go_must (refine (wants_any u r all C D k kc m d a _ HU.out (HC.out _ HB1.out) hk (HD.out _ HB1.out) hm).mono ?_); rintro e w2 ⟨A2, c2, rs2, rfl, hlr2, hb2⟩; rw [← XT.out] at hlr2; have L2 := Lib.hid hlr2; have HB2 := Lib.hid (HB1.out.trans (hb2.mono HB1.out.size)); have K2 := Lib.hid (K1.out.trans (hb2.mono K1.out.size)); have L12 := Lib.hid (L1.out.later hb2); have S12 := Lib.hid hb2.size; clear hlr2 hb2))
  have HG2 : Hid (gb < w2.heap.size) := Lib.hid (Nat.lt_of_lt_of_le HSZ.out K2.out.size)
  have HONE : Hid (∀ x, Chg (fun b => b = gb ∨ w2.heap.size ≤ b) w2 x → RBs x x.heap.size A1 9 KS) := Lib.hid fun x hx => (L12.out.far HSZ.out hx).rbs
  have HTWO : Hid (∀ x, Chg (fun b => b = gb ∨ w2.heap.size ≤ b) w2 x → RBs x x.heap.size A2 9 KT) := Lib.hid fun x hx => (L2.out.far (Nat.lt_of_lt_of_le HSZ.out K1.out.size) hx).rbs
  have HBX : Hid (∀ x, Chg (fun b => b = gb ∨ w2.heap.size ≤ b) w2 x → Below w.heap.size w x) := Lib.hid fun x hx => HB2.out.trans (hx.below HB2.out.size fun b _ hb => by have h1 := HGW.out; have h2 := HB2.out.size; omega)
  have BK0 : Hid (BkH 5 22 w2.heap.size gb w2 (.slice none 0 0) (.slice none 0 0) [] [] []) := Lib.hid ⟨HBC.out.chg (S := fun _ => False) (Below.chg0 K2.out) (fun e => e), HG2.out, Nat.le_refl _, RowsB.nil, own_nil _ _ _ _, own_nil _ _ _ _, fun g hg => (by cases hg), fun g hg => (by cases hg), fun g hg => (by cases hg), List.nodup_nil, fun i hi => (by cases hi)⟩
  clear HBC HSZ L1 L2 L12 K1 K2 S12 HB0 HB1
  go_wp2_with fail
  go_loopw [16] (fun i wr => ∃ (q : Nat) (lv wv : Value) (zs : RowL) (is js : List Nat), q ≤ 3 ∧ i = .int .i64 q ∧ Hid (BkH 5 22 w2.heap.size gb wr lv wv zs is js) ∧ Hid (SameC zs is js) ∧ Hid (is.length = 36 * q) ∧ Hid (∀ (i : Nat) r, zs[i]? = some r → r.2.2.length ≤ 16777216) ∧ Hid (Chg (fun b => b = gb ∨ w2.heap.size ≤ b) w2 wr)) (fun i _ => 3 - (intOf i).toNat)
  case atStart => exact ⟨0, _, _, [], [], [], by omega, rfl, BK0, Lib.hid ⟨rfl, fun k i j hk => by simp at hk⟩, Lib.hid rfl, Lib.hid (fun i r h => by simp at h), Lib.hid (Chg.refl _ _)⟩
  case round =>
    obtain ⟨q, lv, wv, zs, is, js, hq, rfl, BK, SM, LN, CB, HCH⟩ := hrel
    have HBW := Lib.hid (HBX.out wr HCH.out)
    by_cases hlt : q < 3
    case neg =>
      have hd : decide ((q : Int) < 3) = false := decide_eq_false (by omega)
      go_wp2_with (first
        | (go_at_call 42; go_must (refine (settle_any w2.heap.size gb zs is js lv wv _ BK.out SM.out (by have := LN.out; omega) CB.out).mono ?_); rintro e w3 ⟨rfl, hb3⟩; have HC3 := Lib.hid (HCH.out.trans ((Below.chg hb3).mono fun b _ hb => .inr hb)); have HB3 := Lib.hid (HBX.out w3 HC3.out); clear hb3)
        | (go_at_call 35; go_must (refine (answers_any v l all A D n c m d a _ HV.out (HA.out _ HB3.out) hn (HD.out _ HB3.out) hm (HT.out _ HB3.out)).mono ?_); rintro e w4 ⟨A4, c4, rs4, rfl, hlr4, hb4⟩; rw [← XS.out] at hlr4; have L4 := Lib.hid hlr4; have HC4 := Lib.hid (HC3.out.trans (Below.chg0 hb4)); have HB4 := Lib.hid (HBX.out w4 HC4.out); clear hlr4 hb4)
        | (go_at_call 39; go_must (refine (sameAll_any KS A4 A1 9 c4 c1 _ L4.out.rbs (HONE.out _ HC4.out) (by omega)).mono ?_); rintro e w5 ⟨rfl, hb5⟩; have HB5 := Lib.hid (HB4.out.trans (hb5.mono HB4.out.size)); clear hb5)
        | (go_at_call 18; go_must (refine (started_any _ (HT.out _ HB5.out)).mono ?_); rintro e w6 ⟨rfl, hb6⟩; have HB6 := Lib.hid (HB5.out.trans (hb6.mono HB5.out.size)); clear hb6))
      go_ret
      exact ⟨rfl, HB6.out⟩
    have hd : decide ((q : Int) < 3) = true := decide_eq_true (by omega)
    have t1 : True := trivial
    have t2 : True := trivial
    have t3 : True := trivial
    have s1 : True := trivial
    have s2 : True := trivial
    have s3 : True := trivial
    go_upto_region 13 with (first
      | (go_at_call 35; have _t := t1; go_must (refine (answers_any v l all A D n c m d a _ HV.out (HA.out _ HBW.out) hn (HD.out _ HBW.out) hm (HT.out _ HBW.out)).mono ?_); rintro e w3 ⟨A3, c3, rs3, rfl, hlr3, hb3⟩; rw [← XS.out] at hlr3; have L3 := Lib.hid hlr3; have BK3 := Lib.hid (BK.out.add hb3 hlr3.rows); have HC3 := Lib.hid (HCH.out.trans (Below.chg0 hb3)); have HB3 := Lib.hid (HBX.out w3 HC3.out); have S3 := Lib.hid hb3.size; clear t1 hlr3 hb3)
      | (go_at_call 35; have _t := t2; go_must (refine (answers_any v l all A D n c m d a _ HV.out (HA.out _ HB3.out) hn (HD.out _ HB3.out) hm (HT.out _ HB3.out)).mono ?_); rintro e w4 ⟨A4, c4, rs4, rfl, hlr4, hb4⟩; rw [← XS.out] at hlr4; have L4 := Lib.hid hlr4; have L34 := Lib.hid (L3.out.later hb4); have BK4 := Lib.hid (BK3.out.add hb4 hlr4.rows); have HC4 := Lib.hid (HC3.out.trans (Below.chg0 hb4)); have HB4 := Lib.hid (HBX.out w4 HC4.out); have S4 := Lib.hid (Nat.le_trans S3.out hb4.size); clear t2 hlr4 hb4)
      | (go_at_call 35; have _t := t3; go_must (refine (answers_any u r all C D k kc m d a _ HU.out (HC.out _ HB4.out) hk (HD.out _ HB4.out) hm (HT.out _ HB4.out)).mono ?_); rintro e w5 ⟨A5, c5, rs5, rfl, hlr5, hb5⟩; rw [← XT.out] at hlr5; have L5 := Lib.hid hlr5; have L35 := Lib.hid (L34.out.later hb5); have L45 := Lib.hid (L4.out.later hb5); have BK5 := Lib.hid (BK4.out.add hb5 hlr5.rows); have HC5 := Lib.hid (HC4.out.trans (Below.chg0 hb5)); have HB5 := Lib.hid (HBX.out w5 HC5.out); have S5 := Lib.hid (Nat.le_trans S4.out hb5.size); clear t3 hlr5 hb5)
      | (go_at_call 35; go_must (refine (answers_any u r all C D k kc m d a _ HU.out (HC.out _ HB5.out) hk (HD.out _ HB5.out) hm (HT.out _ HB5.out)).mono ?_); rintro e w6 ⟨A6, c6, rs6, rfl, hlr6, hb6⟩; rw [← XT.out] at hlr6; have L6 := Lib.hid hlr6; have L36 := Lib.hid (L35.out.later hb6); have L46 := Lib.hid (L45.out.later hb6); have L56 := Lib.hid (L5.out.later hb6); have BK6 := Lib.hid (BK5.out.add hb6 hlr6.rows); have HC6 := Lib.hid (HC5.out.trans (Below.chg0 hb6)); clear hlr6 hb6 L3 L4 L5 L34 L35 L45)
      | (go_at_call 39; have _t := s1; go_must (refine (sameAll_any KS A3 A1 9 c3 c1 _ L36.out.rbs (HONE.out _ HC6.out) (by omega)).mono ?_); rintro e w7 ⟨rfl, hb7⟩; have J7 := Lib.hid hb7; have HC7 := Lib.hid (HC6.out.trans (Below.chg0 hb7)); clear s1 hb7)
      | (go_at_call 39; have _t := s2; go_must (refine (sameAll_any KS A4 A1 9 c4 c1 _ (L46.out.later J7.out).rbs (HONE.out _ HC7.out) (by omega)).mono ?_); rintro e w8 ⟨rfl, hb8⟩; have J8 := Lib.hid (J7.out.trans (hb8.mono J7.out.size)); have HC8 := Lib.hid (HC7.out.trans (Below.chg0 hb8)); clear s2 hb8)
      | (go_at_call 39; have _t := s3; go_must (refine (sameAll_any KT A5 A2 9 c5 c2 _ (L56.out.later J8.out).rbs (HTWO.out _ HC8.out) (by omega)).mono ?_); rintro e w9 ⟨rfl, hb9⟩; have J9 := Lib.hid (J8.out.trans (hb9.mono J8.out.size)); have HC9 := Lib.hid (HC8.out.trans (Below.chg0 hb9)); clear s3 hb9)
      | (go_at_call 39; go_must (refine (sameAll_any KT A6 A2 9 c6 c2 _ (L6.out.later J9.out).rbs (HTWO.out _ HC9.out) (by omega)).mono ?_); rintro e w10 ⟨rfl, hb10⟩; have J10 := Lib.hid (J9.out.trans (hb10.mono J9.out.size)); have HC10 := Lib.hid (HC9.out.trans (Below.chg0 hb10)); clear hb10))
    have HP9 := Lib.hid (get36 zs rs3 rs4 rs5 rs6 L36.out.len L46.out.len L56.out.len L6.out.len)
    obtain ⟨g3, e3, ge3, lt3, hc3⟩ := (L36.out.later J10.out).holds (by omega)
    obtain ⟨g4, e4, ge4, lt4, hc4⟩ := (L46.out.later J10.out).holds (by omega)
    obtain ⟨g5, e5, ge5, lt5, hc5⟩ := (L56.out.later J10.out).holds (by omega)
    obtain ⟨g6, e6, ge6, lt6, hc6⟩ := (L6.out.later J10.out).holds (by omega)
    subst e3; subst e4; subst e5; subst e6
    obtain ⟨p, hp⟩ : ∃ p, p = zs.length := ⟨_, rfl⟩
    obtain ⟨z0, hz0⟩ : ∃ z, z = zs ++ rs3 ++ rs4 ++ rs5 ++ rs6 := ⟨_, rfl⟩
    obtain ⟨bs, hbs⟩ : ∃ b, b = [g3, g4, g5, g6] := ⟨_, rfl⟩
    have HX3 : Hid (∀ j, j < 9 → ∃ a ca lj, lj.length ≤ 16777216 ∧ z0[p + j]? = some (a, ca, lj) ∧ ∀ x, Chg (fun b => b ∉ bs) w10 x → x.cell? ⟨g3, j, none⟩ = some (.slice a lj.length ca)) := Lib.hid fun j hj => by
      obtain ⟨a, ca, lj, h1, h2⟩ := L36.out.at9 HLS.out hj
      exact ⟨a, ca, lj, h2, by rw [hz0, hp, (HP9.out.2 j hj).1]; exact h1, fun x hx => hx.cell (hc3 j a ca lj h1) (fun e => e (by simp [hbs]))⟩
    have HX4 : Hid (∀ j, j < 9 → ∃ a ca lj, lj.length ≤ 16777216 ∧ z0[p + 9 + j]? = some (a, ca, lj) ∧ ∀ x, Chg (fun b => b ∉ bs) w10 x → x.cell? ⟨g4, j, none⟩ = some (.slice a lj.length ca)) := Lib.hid fun j hj => by
      obtain ⟨a, ca, lj, h1, h2⟩ := L46.out.at9 HLS.out hj
      exact ⟨a, ca, lj, h2, by rw [hz0, hp, (HP9.out.2 j hj).2.1]; exact h1, fun x hx => hx.cell (hc4 j a ca lj h1) (fun e => e (by simp [hbs]))⟩
    have HX5 : Hid (∀ j, j < 9 → ∃ a ca lj, lj.length ≤ 16777216 ∧ z0[p + 18 + j]? = some (a, ca, lj) ∧ ∀ x, Chg (fun b => b ∉ bs) w10 x → x.cell? ⟨g5, j, none⟩ = some (.slice a lj.length ca)) := Lib.hid fun j hj => by
      obtain ⟨a, ca, lj, h1, h2⟩ := L56.out.at9 HLT.out hj
      exact ⟨a, ca, lj, h2, by rw [hz0, hp, (HP9.out.2 j hj).2.2.1]; exact h1, fun x hx => hx.cell (hc5 j a ca lj h1) (fun e => e (by simp [hbs]))⟩
    have HX6 : Hid (∀ j, j < 9 → ∃ a ca lj, lj.length ≤ 16777216 ∧ z0[p + 27 + j]? = some (a, ca, lj) ∧ ∀ x, Chg (fun b => b ∉ bs) w10 x → x.cell? ⟨g6, j, none⟩ = some (.slice a lj.length ca)) := Lib.hid fun j hj => by
      obtain ⟨a, ca, lj, h1, h2⟩ := L6.out.at9 HLT.out hj
      exact ⟨a, ca, lj, h2, by rw [hz0, hp, (HP9.out.2 j hj).2.2.2]; exact h1, fun x hx => hx.cell (hc6 j a ca lj h1) (fun e => e (by simp [hbs]))⟩
    have hb3 : ∀ b, b ∈ bs → wr.heap.size ≤ b ∧ b < w10.heap.size := fun b hb => by
      rw [hbs] at hb
      have h3 := S3.out
      have h4 := S4.out
      have h5 := S5.out
      simp only [List.mem_cons, List.not_mem_nil, or_false] at hb
      rcases hb with rfl | rfl | rfl | rfl <;> omega
    have LT0 : Hid (LtS 5 22 w2.heap.size gb p w2 w10 bs z0 (36 * q) (fun _ => False) w10 lv wv z0 is js) := Lib.hid (by
      have hbk := BK6.out.later J10.out
      rw [← hz0] at hbk
      refine ⟨hbk, ?_, LN.out, ?_, HC10.out, Chg.refl _ _, fun k hk => rfl, by rw [hz0, hp, HP9.out.1]; exact Nat.le_refl _, fun k hk => .inl (by rw [hp]; exact BK.out.lt k hk), fun b hb => far_new BK.out (hb3 b hb).1, fun b hb => (hb3 b hb).2⟩
      · rw [hz0, List.append_assoc, List.append_assoc, List.append_assoc]
        exact SM.out.app BK.out.lt _
      · rw [hz0]
        exact cb_app (cb_app (cb_app (cb_app CB.out L36.out.cont HLS.out) L46.out.cont HLS.out) L56.out.cont HLT.out) L6.out.cont HLT.out)
    obtain ⟨wo, rfl⟩ : ∃ wo : World, wo = wr := ⟨_, rfl⟩
    clear hb3 hz0 hbs hp hc3 hc4 hc5 hc6 ge3 ge4 ge5 ge6 lt3 lt4 lt5 lt6 BK SM LN CB HCH HBW BK3 BK4 BK5 BK6 L36 L46 L56 L6 HC3 HC4 HC5 HC6 HC7 HC8 HC9 HB3 HB4 HB5 S3 S4 S5 J7 J8 J9 J10 HP9
    go_wp2_with fail
    go_loopw [21] (fun i wr => ∃ (j : Nat) (lv wv : Value) (zz : RowL) (is js : List Nat), j ≤ 9 ∧ i = .int .i64 j ∧ Hid (LtS 5 22 w2.heap.size gb p w2 w10 bs z0 (36 * q + 2 * j) (fun k => (p ≤ k ∧ k < p + j) ∨ (p + 9 ≤ k ∧ k < p + 9 + j)) wr lv wv zz is js)) (fun i _ => 9 - (intOf i).toNat)
    case atStart => exact ⟨0, _, _, _, _, _, by omega, rfl, Lib.hid (LT0.out.mono fun k h => h.elim)⟩
    case round =>
      clear LT0
      obtain ⟨j, lv, wv, zz, is, js, hj, rfl, LT⟩ := hrel
      by_cases hjl : j < 9
      case neg =>
        have hd9 : decide ((j : Int) < 9) = false := decide_eq_false (by omega)
        have LT0 : Hid (LtS 5 22 w2.heap.size gb p w2 w10 bs z0 (36 * q + 18) (fun k => p ≤ k ∧ k < p + 18) wr lv wv zz is js) := Lib.hid (by
          have h := LT.out
          rw [show 36 * q + 2 * j = 36 * q + 18 from by omega] at h
          exact h.mono fun k hk => by omega)
        clear LT
        go_wp2_with fail
        go_loopw [22] (fun i wr => ∃ (j : Nat) (lv wv : Value) (zz : RowL) (is js : List Nat), j ≤ 9 ∧ i = .int .i64 j ∧ Hid (LtS 5 22 w2.heap.size gb p w2 w10 bs z0 (36 * q + 18 + 2 * j) (fun k => (p ≤ k ∧ k < p + 18) ∨ (p + 18 ≤ k ∧ k < p + 18 + j) ∨ (p + 27 ≤ k ∧ k < p + 27 + j)) wr lv wv zz is js)) (fun i _ => 9 - (intOf i).toNat)
        case atStart => exact ⟨0, _, _, _, _, _, by omega, rfl, Lib.hid (LT0.out.mono fun k h => .inl h)⟩
        case round =>
          clear LT0 hd9 hjl
          obtain ⟨j2, lv, wv, zz, is, js, hj2, rfl, LT⟩ := hrel
          by_cases hjl : j2 < 9
          case neg =>
            have hd9 : decide ((j2 : Int) < 9) = false := decide_eq_false (by omega)
            have LNN : Hid (is.length = 36 * (q + 1)) := Lib.hid (by rw [LT.out.ln]; omega)
            go_wp2_with fail
            go_roundw
            case rel => exact ⟨q + 1, lv, wv, zz, is, js, by omega, by go_num, Lib.hid LT.out.bk, Lib.hid LT.out.sm, LNN, Lib.hid LT.out.cb, Lib.hid LT.out.c2⟩
            case measure => simp [intOf]; omega
          have hd9 : decide ((j2 : Int) < 9) = true := decide_eq_true (by omega)
          obtain ⟨a1, ca1, lj1, hb1, hz1, hc1⟩ := HX5.out j2 hjl
          obtain ⟨a2, ca2, lj2, hb2, hz2, hc2⟩ := HX6.out j2 hjl
          obtain ⟨N1, hN1⟩ : ∃ N, N = lj1.length := ⟨_, rfl⟩
          obtain ⟨N2, hN2⟩ : ∃ N, N = lj2.length := ⟨_, rfl⟩
          rw [← hN1] at hb1 hc1
          rw [← hN2] at hb2 hc2
          have m1 := hc1 wr LT.out.c10
          have HZ1 := Lib.hid hz1
          have HZ2 := Lib.hid hz2
          have XN1 := Lib.hid hN1
          have XN2 := Lib.hid hN2
          have HC2 := Lib.hid hc2
          have ILEN : Hid (is.length ≤ 1000 ∧ js.length ≤ 1000) := Lib.hid ⟨by rw [LT.out.ln]; omega, by rw [← LT.out.sm.1, LT.out.ln]; omega⟩
          have q1 : (0 : Int) ≤ (j2 : Int) := by omega
          have q2 : (j2 : Int) < 9 := by omega
          have tk : True := trivial
          clear hz1 hz2 hc1 hc2 hN1 hN2
          go_wp2_with (first
            | (go_at_call 41; have _t := tk; go_must (refine (keep_any w2.heap.size gb zz is js lv wv (p + 18 + j2) a1 N1 ca1 lj1 _ LT.out.bk ((LT.out.pre _ (by omega)).trans HZ1.out) (LT.out.notin (by omega) (by omega) (by omega)) XN1.out.symm hb1 (by have := ILEN.out.1; omega) (by have := ILEN.out.2; omega)).mono ?_); rintro e w11 hpp; obtain ⟨rfl, lv1, wv1, zs1, is1, js1, hlt1⟩ := LT.out.keep (by omega) (by omega) HZ1.out hpp; have LT1 := Lib.hid hlt1; have m2 := HC2.out w11 hlt1.c10; have ILEN1 : Hid (is1.length ≤ 1000 ∧ js1.length ≤ 1000) := Lib.hid ⟨by rw [hlt1.ln]; omega, by rw [← hlt1.sm.1, hlt1.ln]; omega⟩; clear tk hpp hlt1 m1)
            | (go_at_call 41; go_must (refine (keep_any w2.heap.size gb zs1 is1 js1 lv1 wv1 (p + 27 + j2) a2 N2 ca2 lj2 _ LT1.out.bk ((LT1.out.pre _ (by omega)).trans HZ2.out) (LT1.out.notin (by omega) (by omega) (by omega)) XN2.out.symm hb2 (by have := ILEN1.out.1; omega) (by have := ILEN1.out.2; omega)).mono ?_); rintro e w12 hpp; obtain ⟨rfl, lv2, wv2, zs2, is2, js2, hlt2⟩ := LT1.out.keep (by omega) (by omega) HZ2.out hpp; have LT2 := Lib.hid hlt2; clear hpp hlt2))
          go_roundw
          case rel => exact ⟨j2 + 1, lv2, wv2, zs2, is2, js2, by omega, by go_num, Lib.hid (by have h := LT2.out; rw [show 36 * q + 18 + 2 * j2 + 1 + 1 = 36 * q + 18 + 2 * (j2 + 1) from by omega] at h; exact h.mono fun k hk => by omega)⟩
          case measure => simp [intOf]; omega
      have hd9 : decide ((j : Int) < 9) = true := decide_eq_true (by omega)
      obtain ⟨a1, ca1, lj1, hb1, hz1, hc1⟩ := HX3.out j hjl
      obtain ⟨a2, ca2, lj2, hb2, hz2, hc2⟩ := HX4.out j hjl
      obtain ⟨N1, hN1⟩ : ∃ N, N = lj1.length := ⟨_, rfl⟩
      obtain ⟨N2, hN2⟩ : ∃ N, N = lj2.length := ⟨_, rfl⟩
      rw [← hN1] at hb1 hc1
      rw [← hN2] at hb2 hc2
      have m1 := hc1 wr LT.out.c10
      have HZ1 := Lib.hid hz1
      have HZ2 := Lib.hid hz2
      have XN1 := Lib.hid hN1
      have XN2 := Lib.hid hN2
      have HC2 := Lib.hid hc2
      have ILEN : Hid (is.length ≤ 1000 ∧ js.length ≤ 1000) := Lib.hid ⟨by rw [LT.out.ln]; omega, by rw [← LT.out.sm.1, LT.out.ln]; omega⟩
      have q1 : (0 : Int) ≤ (j : Int) := by omega
      have q2 : (j : Int) < 9 := by omega
      have tk : True := trivial
      clear hz1 hz2 hc1 hc2 hN1 hN2
      go_wp2_with (first
        | (go_at_call 41; have _t := tk; go_must (refine (keep_any w2.heap.size gb zz is js lv wv (p + j) a1 N1 ca1 lj1 _ LT.out.bk ((LT.out.pre _ (by omega)).trans HZ1.out) (LT.out.notin (by omega) (by omega) (by omega)) XN1.out.symm hb1 (by have := ILEN.out.1; omega) (by have := ILEN.out.2; omega)).mono ?_); rintro e w11 hpp; obtain ⟨rfl, lv1, wv1, zs1, is1, js1, hlt1⟩ := LT.out.keep (by omega) (by omega) HZ1.out hpp; have LT1 := Lib.hid hlt1; have m2 := HC2.out w11 hlt1.c10; have ILEN1 : Hid (is1.length ≤ 1000 ∧ js1.length ≤ 1000) := Lib.hid ⟨by rw [hlt1.ln]; omega, by rw [← hlt1.sm.1, hlt1.ln]; omega⟩; clear tk hpp hlt1 m1)
        | (go_at_call 41; go_must (refine (keep_any w2.heap.size gb zs1 is1 js1 lv1 wv1 (p + 9 + j) a2 N2 ca2 lj2 _ LT1.out.bk ((LT1.out.pre _ (by omega)).trans HZ2.out) (LT1.out.notin (by omega) (by omega) (by omega)) XN2.out.symm hb2 (by have := ILEN1.out.1; omega) (by have := ILEN1.out.2; omega)).mono ?_); rintro e w12 hpp; obtain ⟨rfl, lv2, wv2, zs2, is2, js2, hlt2⟩ := LT1.out.keep (by omega) (by omega) HZ2.out hpp; have LT2 := Lib.hid hlt2; clear hpp hlt2))
      go_roundw
      case rel => exact ⟨j + 1, lv2, wv2, zs2, is2, js2, by omega, by go_num, Lib.hid (by have h := LT2.out; rw [show 36 * q + 2 * j + 1 + 1 = 36 * q + 2 * (j + 1) from by omega] at h; exact h.mono fun k hk => by omega)⟩
      case measure => simp [intOf]; omega

theorem lentL_at (y z : Int) (l r all : List UInt8) (A C D : Option Addr) (n c k kc m d : Nat) (a : Int) (w : World) (hy : 0 ≤ y ∧ y < 18446744073709551616) (hz : 0 ≤ z ∧ z < 18446744073709551616) (hs : Sl w A n c l) (hn : n ≤ 1048576) (hr : Sl w C k kc r) (hk : k ≤ 1048576) (hd : Sl w D m d all) (hm : m ≤ 1048576) (ht : TabAt 0 w) :
    Calls Tryd.prog 9 #[.int .u64 y, .slice A n c, .int .u64 z, .slice C k kc, .slice D m d, .int .i64 a] w fun e w' => e = .returned (.bool true) ∧ Below w.heap.size w w' := by
  obtain ⟨v, rfl⟩ : ∃ v : Nat, y = (v : Int) := ⟨y.toNat, by omega⟩
  obtain ⟨u, rfl⟩ : ∃ v : Nat, z = (v : Int) := ⟨z.toNat, by omega⟩
  exact lentL_any v u l r all A C D n c k kc m d a w (by omega) (by omega) hs hn hr hk hd hm ht

end Go.Proofs.YtkkfiffgldhahaaDoor
