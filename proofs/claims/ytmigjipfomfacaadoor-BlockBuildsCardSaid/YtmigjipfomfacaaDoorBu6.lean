/-
  Laid together by merge.py: BlockM4, BlockM5, Kit42, BlockM6, BlockM3, BlockC4, BlockR1, BlockR2, BlockL2.
-/
import Derived.Test.YtmigjipfomfacaaDoorBu5
import Derived.Test.YtmigjipfomfacaaDoorBu4
namespace Go.Proofs.YtmigjipfomfacaaDoor
open Go.RowKit
theorem flat7_snoc5 (rs : List ER) (r : ER) : (rs ++ [r]).flatMap ER.cells = rs.flatMap ER.cells ++ r.cells := flat7_snoc rs r
theorem build_snoc {R : Nat} {L : List Ent} {e : Ent} (h0 : (buildK R [] L).1 = 0) : (buildK R [] (L ++ [e])).1 = addC R L e := by
  rw [buildK_app, if_pos h0, List.nil_append]
  unfold buildK
  split
  · rename_i h; rw [h]; rfl
  · rfl
theorem build_alike1 {R : Nat} {L : List Ent} {e : Ent} (h : (buildK R [] L).1 = 0) (hc : checkE e = 0) (hl : ¬ lastOk L e = false) : (∀ l, l ∈ L ++ [e] → checkE l = 0) ∧ ∀ k x, (L ++ [e])[k]? = some x → alikeB R (runB R ((L ++ [e]).take k)) (keyE x) < (keyE x).length := by
  have hk := buildK_checked R L [] (fun l h => by cases h) h
  rw [List.nil_append] at hk
  refine ⟨fun l hm => ?_, fun k x hx => ?_⟩
  · rcases List.mem_append.1 hm with h1 | h1
    · exact hk l h1
    · obtain rfl : l = e := by simpa using h1
      exact hc
  · rcases Nat.lt_trichotomy k L.length with h1 | h1 | h1
    · rw [List.getElem?_append_left h1] at hx
      rw [List.take_append_of_le_length (Nat.le_of_lt h1)]
      exact build_alike h k x hx
    · subst h1
      rw [List.getElem?_append_right (Nat.le_refl _), Nat.sub_self] at hx
      injection hx with hx
      subst hx
      rw [List.take_left' rfl]
      exact alike_lt hk hc hl
    · rw [List.getElem?_eq_none (by rw [List.length_append]; exact h1)] at hx
      cases hx
def RAddP (R : Nat) (L : List Ent) (rs : List ER) (er : ER) (A : Option Addr) (k c : Nat) (w : World) (r : Ending) (z : World) : Prop :=
  (addC R L er.e = 0 ∧ ∃ A' c', r = .returned (.tuple #[.slice A' (k + 1) c', .int .i64 0]) ∧ OW w [rowO 37 7 (.slice A' (k + 1) c') (k + 1) ((rs ++ [er]).flatMap ER.cells)] z) ∨
  (addC R L er.e ≠ 0 ∧ r = .returned (.tuple #[.slice A k c, .int .i64 (addC R L er.e)]) ∧ Below w.heap.size w z)
set_option maxRecDepth 100000 in
set_option maxHeartbeats 4000000 in
theorem radd_any (R : Nat) (L : List Ent) (rs : List ER) (A : Option Addr) (k c : Nat) (e : Ent) (Ar : Option Addr) (ec : Nat) (B : Option Addr) (d : Nat) (D : Option Addr) (q : Nat) (w : World) (hR : 1 ≤ R ∧ R ≤ 16) (h0 : (buildK R [] L).1 = 0) (hs : Srt w rs L) (hrd : Reads w w.heap.size 7 A k (rs.flatMap ER.cells)) (hk : k ≤ 1000) (he : En w Ar e.row.length ec B e.qual.length d D e.val.length q e) :
    Calls Tryd.prog 33 #[.int .i64 (R : Int), .slice A k c, entV Ar e.row.length ec B e.qual.length d D e.val.length q e] w (RAddP R L rs (⟨Ar, ec, B, d, D, q, e⟩ : ER) A k c w) := by
  have HRS : Hid (∀ z, Below w.heap.size w z → Reads z w.heap.size 7 A k (rs.flatMap ER.cells)) := Lib.hid fun z hz => hrd.below hz
  have HEN : Hid (∀ z, Below w.heap.size w z → En z Ar e.row.length ec B e.qual.length d D e.val.length q e) := Lib.hid fun z hz => he.later hz
  have HRL : Hid (rs.length = k) := Lib.hid (by have h := hrd.1; rw [flat7_len] at h; omega)
  have HSN : Hid (Srt w (rs ++ [(⟨Ar, ec, B, d, D, q, e⟩ : ER)]) (L ++ [e])) := Lib.hid ⟨by rw [List.map_append, hs.ents]; rfl, fun r hr z hz => by
    rcases List.mem_append.1 hr with h1 | h1
    · exact hs.en r h1 z hz
    · obtain rfl : r = (⟨Ar, ec, B, d, D, q, e⟩ : ER) := by simpa using h1
      exact HEN.out z hz⟩
  have HSR := Lib.hid hs
  have HLL : Hid (L.length = k) := Lib.hid (by rw [← hs.len]; exact HRL.out)
  have HB0 := Lib.hid h0
  obtain ⟨hR1, hR2⟩ := hR
  obtain ⟨ce, hce⟩ : ∃ z, z = checkE e := ⟨_, rfl⟩
  have HCE := Lib.hid hce.symm
  have HX0 := Lib.hid (OW.nil w)
  clear hrd he hs h0 hce
  unfold entV
  go_enter Tryd.func33, Tryd.ntmps33
  by_cases hc : ce = 0
  case neg =>
    have hd3 : (ce != 0) = true := bne_iff_ne.2 hc
    have HAD : Hid (addC R L e = ce) := Lib.hid (by unfold addC; rw [if_pos (by rw [HCE.out]; exact hc), HCE.out])
    go_wp2_with (first
      | (refine wl_box rfl (.tmp 2) rfl [.slice Ar e.row.length ec, .int .i64 e.fam, .slice B e.qual.length d, .int .i64 e.ts, .int .i64 e.seq, .int .i64 e.kind, .slice D e.val.length q] rfl HX0.out ?_; intro gb x1 hz _; have HX := Lib.hid hz; clear hz HX0)
      | (refine wpList_load_row7 rfl 37 (.tmp 5) rfl rfl (HX.out.range (i := 0) rfl) ent_rowM ?_)
      | (go_at_call 42; go_must (refine (rCheckE_any e Ar _ ec B _ d D _ q _ (HEN.out _ HX.out.up)).mono ?_); rw [HCE.out]; rintro r y1 ⟨rfl, hb⟩; have HX1 := Lib.hid (HX.out.later hb); clear hb HX))
    go_ret2
    exact .inr ⟨by rw [HAD.out]; exact hc, by rw [HAD.out]; rfl, HX1.out.up⟩
  have hd3 : (ce != 0) = false := by rw [hc]; rfl
  have HC0 : Hid (checkE e = 0) := Lib.hid (by rw [HCE.out, hc])
  go_upto_region 4 with (first
    | (refine wl_box rfl (.tmp 2) rfl [.slice Ar e.row.length ec, .int .i64 e.fam, .slice B e.qual.length d, .int .i64 e.ts, .int .i64 e.seq, .int .i64 e.kind, .slice D e.val.length q] rfl HX0.out ?_; intro gb x1 hz _; have HX := Lib.hid hz; clear hz HX0)
    | (refine wpList_load_row7 rfl 37 (.tmp 5) rfl rfl (HX.out.range (i := 0) rfl) ent_rowM ?_)
    | (go_at_call 42; go_must (refine (rCheckE_any e Ar _ ec B _ d D _ q _ (HEN.out _ HX.out.up)).mono ?_); rw [HCE.out]; rintro r y1 ⟨rfl, hb⟩; have HX1 := Lib.hid (HX.out.later hb); clear hb HX))
  clear hd3
  obtain ⟨ln, hln⟩ : ∃ z, z = (layB R (L ++ [e])).length := ⟨_, rfl⟩
  have HLN := Lib.hid hln.symm
  have HSZ : Hid (ln = sizeS (stepB R (runB R L) (keyE e) e.val)) := Lib.hid (by rw [hln, layB_len R (by simp), runB_snoc])
  clear hln
  have HTL : Hid (¬ lastOk L e = false → (131072 < ln → addC R L e = 53) ∧ (¬ 131072 < ln → addC R L e = 0)) := Lib.hid fun hl => ⟨fun h => by
    unfold addC; rw [if_neg (by rw [HC0.out]; decide), if_neg hl, if_pos (by rw [← HSZ.out]; exact h)], fun h => by
    unfold addC; rw [if_neg (by rw [HC0.out]; decide), if_neg hl, if_neg (by rw [← HSZ.out]; exact h)]⟩
  by_cases hk0 : k = 0
  case pos =>
    have hd2 : decide ((k : Int) > 0) = false := decide_eq_false (by omega)
    have hkN : ¬ 0 < k := by omega
    have hkN2 : decide (0 < k) = false := decide_eq_false hkN
    have HLO : Hid (¬ lastOk L e = false) := Lib.hid (by
      have h1 : L = [] := List.eq_nil_of_length_eq_zero (by rw [HLL.out]; exact hk0)
      rw [h1]; show ¬ true = false; decide)
    have HOKN := Lib.hid (build_alike1 (R := R) HB0.out HC0.out HLO.out).1
    have HALN := Lib.hid (build_alike1 (R := R) HB0.out HC0.out HLO.out).2
    have HBIG := Lib.hid (HTL.out HLO.out)
    clear hk0
    refine lt_start [] (by kernel_rfl) ?_
    intro xd hd
    refine ⟨fun z => OW w [boxO gb [.slice Ar e.row.length ec, .int .i64 e.fam, .slice B e.qual.length d, .int .i64 e.ts, .int .i64 e.seq, .int .i64 e.kind, .slice D e.val.length q]] z, ?_⟩
    have HS := Lib.hid (HX1.out.later hd)
    refine lt_pure 0 rfl (by kernel_rfl) (by kernel_rfl) (by kernel_rfl) (by kernel_rfl) (fun _ _ _ h => h) (v := ?_) (yi_run rfl (fun w => ?_)) (fun _ => HS.out) ?_
    rotate_left
    · first | (go_simp; done) | (go_simp; with_reducible rfl)
    simp only [Act.put, List.setIfInBounds_toArray, List.set_cons_zero, List.set_cons_succ]
    refine lt_pure 1 rfl (by kernel_rfl) (by kernel_rfl) (by kernel_rfl) (by kernel_rfl) (fun _ _ _ h => h) (v := ?_) (yi_run rfl (fun w => ?_)) (fun _ => HS.out) ?_
    rotate_left
    · first | (go_simp; done) | (go_simp; with_reducible rfl)
    simp only [Act.put, List.setIfInBounds_toArray, List.set_cons_zero, List.set_cons_succ]
    refine lt_pure 2 rfl (by kernel_rfl) (by kernel_rfl) (by kernel_rfl) (by kernel_rfl) (fun _ _ _ h => h) (v := ?_) (yi_run rfl (fun w => ?_)) (fun _ => HS.out) ?_
    rotate_left
    · first | (go_simp; done) | (go_simp; with_reducible rfl)
    simp only [Act.put, List.setIfInBounds_toArray, List.set_cons_zero, List.set_cons_succ]
    refine lt_pure 3 rfl (by kernel_rfl) (by kernel_rfl) (by kernel_rfl) (by kernel_rfl) (fun _ _ _ h => h) (v := ?_) (yi_run rfl (fun w => ?_)) (fun _ => HS.out) ?_
    rotate_left
    · first | (go_simp; done) | (go_simp; with_reducible rfl)
    simp only [Act.put, List.setIfInBounds_toArray, List.set_cons_zero, List.set_cons_succ]
    refine lt_skip 4 rfl (by kernel_rfl) (by kernel_rfl) (by kernel_rfl) (by kernel_rfl) (fun _ _ _ h => h) rfl (fun _ => HS.out) ?_
    simp only [Act.put, List.setIfInBounds_toArray, List.set_cons_zero, List.set_cons_succ]
    refine lt_skip 5 rfl (by kernel_rfl) (by kernel_rfl) (by kernel_rfl) (by kernel_rfl) (fun _ _ _ h => h) rfl (fun _ => HS.out) ?_
    simp only [Act.put, List.setIfInBounds_toArray, List.set_cons_zero, List.set_cons_succ]
    refine lt_skip 6 rfl (by kernel_rfl) (by kernel_rfl) (by kernel_rfl) (by kernel_rfl) (fun _ _ _ h => h) rfl (fun _ => HS.out) ?_
    simp only [Act.put, List.setIfInBounds_toArray, List.set_cons_zero, List.set_cons_succ]
    refine lt_skip 7 rfl (by kernel_rfl) (by kernel_rfl) (by kernel_rfl) (by kernel_rfl) (fun _ _ _ h => h) rfl (fun _ => HS.out) ?_
    simp only [Act.put, List.setIfInBounds_toArray, List.set_cons_zero, List.set_cons_succ]
    refine lt_skip 8 rfl (by kernel_rfl) (by kernel_rfl) (by kernel_rfl) (by kernel_rfl) (fun _ _ _ h => h) rfl (fun _ => HS.out) ?_
    simp only [Act.put, List.setIfInBounds_toArray, List.set_cons_zero, List.set_cons_succ]
    refine lt_skip 9 rfl (by kernel_rfl) (by kernel_rfl) (by kernel_rfl) (by kernel_rfl) (fun _ _ _ h => h) rfl (fun _ => HS.out) ?_
    simp only [Act.put, List.setIfInBounds_toArray, List.set_cons_zero, List.set_cons_succ]
    refine lt_skip 10 rfl (by kernel_rfl) (by kernel_rfl) (by kernel_rfl) (by kernel_rfl) (fun _ _ _ h => h) rfl (fun _ => HS.out) ?_
    simp only [Act.put, List.setIfInBounds_toArray, List.set_cons_zero, List.set_cons_succ]
    refine lt_skip 11 rfl (by kernel_rfl) (by kernel_rfl) (by kernel_rfl) (by kernel_rfl) (fun _ _ _ h => h) rfl (fun _ => HS.out) ?_
    simp only [Act.put, List.setIfInBounds_toArray, List.set_cons_zero, List.set_cons_succ]
    refine lt_skip 12 rfl (by kernel_rfl) (by kernel_rfl) (by kernel_rfl) (by kernel_rfl) (fun _ _ _ h => h) rfl (fun _ => HS.out) ?_
    simp only [Act.put, List.setIfInBounds_toArray, List.set_cons_zero, List.set_cons_succ]
    refine lt_pure 13 rfl (by kernel_rfl) (by kernel_rfl) (by kernel_rfl) (by kernel_rfl) (fun _ _ _ h => h) (v := ?_) (yi_run rfl (fun w => ?_)) (fun _ => HS.out) ?_
    rotate_left
    · first | (go_simp; done) | (go_simp; with_reducible rfl)
    simp only [Act.put, List.setIfInBounds_toArray, List.set_cons_zero, List.set_cons_succ]
    refine lt_done (by kernel_rfl) ?_
    have HS9 := HS
    clear HS
    clear HX1
    have HN0 : Hid (OW w [boxO gb [.slice Ar e.row.length ec, .int .i64 e.fam, .slice B e.qual.length d, .int .i64 e.ts, .int .i64 e.seq, .int .i64 e.kind, .slice D e.val.length q], rowO 37 7 (.slice none 0 0) 0 []] _) := Lib.hid (HS9.out.nilRow 37 7)
    clear HS9
    have tk1 : True := trivial
    have tk2 : True := trivial
    go_upto_region 10 with (first
      | (at_builtin; have _t := tk1; go_must (refine wl_append rfl (.tmp 32) (.tmp 33) rfl Tryd.entsS HN0.out 1 rfl rfl _ A k c (rs.flatMap ER.cells) rfl (HRS.out _ HN0.out.up) (fun u hu => cells_one hu) (by unfold maxLen; omega) (by omega) ?_); intro A1 c1 z1 hz _; rw [Nat.zero_add] at hz; rw [Nat.zero_add]; have HX2 : Hid (OW w [boxO gb [.slice Ar e.row.length ec, .int .i64 e.fam, .slice B e.qual.length d, .int .i64 e.ts, .int .i64 e.seq, .int .i64 e.kind, .slice D e.val.length q], rowO 37 7 (.slice A1 k c1) k (rs.flatMap ER.cells)] z1) := Lib.hid hz; clear hz HN0 tk1 _t)
      | (refine wpList_load_row7 rfl 37 (.tmp 5) rfl rfl (HX2.out.range (i := 0) rfl) ent_rowM ?_)
      | (refine wl_build rfl #[(0, .tmp 36)] rfl #[.slice Ar e.row.length ec, .int .i64 e.fam, .slice B e.qual.length d, .int .i64 e.ts, .int .i64 e.seq, .int .i64 e.kind, .slice D e.val.length q] Tryd.entsS (.agg #[.slice none 0 0, .int .i64 0, .slice none 0 0, .int .i64 0, .int .i64 0, .int .i64 0, .slice none 0 0]) (by kernel_rfl) (by decide) (by decide) (by decide) rfl (by kernel_rfl) HX2.out ?_; intro g5 z5 hz _; have HX5 := Lib.hid hz; clear hz HX2)
      | (at_builtin; have _t := tk2; go_must (refine wl_append rfl (.tmp 35) (.tmp 37) rfl Tryd.entsS HX5.out 1 rfl rfl _ (some ⟨g5, 0, none⟩) 1 1 [.slice Ar e.row.length ec, .int .i64 e.fam, .slice B e.qual.length d, .int .i64 e.ts, .int .i64 e.seq, .int .i64 e.kind, .slice D e.val.length q] rfl (Reads.own (HX5.out.row (i := 2) rfl)) (by simp [Value.oneCell']) (by unfold maxLen; omega) (by omega) ?_); intro A6 c6 z6 hz _; have HX6 : Hid (OW w [rowO 37 7 (.slice A6 (k + 1) c6) (k + 1) ((rs ++ [(⟨Ar, ec, B, d, D, q, e⟩ : ER)]).flatMap ER.cells)] z6) := Lib.hid (by rw [flat7_snoc]; exact (hz.erase 2).erase 0); clear hz HX5 tk2 _t)
      | (go_at_call 60; go_must (refine (rlay_any R (L ++ [e]) A6 (k + 1) c6 _ (HSN.out.ens HX6.out (i := 0) rfl) (by omega) ⟨hR1, hR2⟩ HOKN.out HALN.out).mono ?_); rintro r z7 hp; obtain ⟨A7, c7, rfl, _, ho, hb⟩ := hp.at_ (n := ln) HLN.out; have HX7 := Lib.hid (HX6.out.later hb); clear hp ho hb HX6))
    by_cases hbig : 131072 < ln
    · have hd9 : decide ((ln : Int) > 131072) = true := decide_eq_true (by omega)
      go_wp2_with fail
      go_ret2
      exact .inr ⟨HBIG.out.1 hbig ▸ (by decide), by rw [HBIG.out.1 hbig]; rfl, HX7.out.up⟩
    · have hd9 : decide ((ln : Int) > 131072) = false := decide_eq_false (by omega)
      go_wp2_with fail
      go_ret2
      exact .inl ⟨HBIG.out.2 hbig, A6, c6, rfl, HX7.out⟩
  obtain ⟨p, hp⟩ : ∃ p, k = p + 1 := ⟨k - 1, by omega⟩
  have hd2 : decide ((k : Int) > 0) = true := decide_eq_true (by omega)
  have hkI : (0 : Int) < (k : Int) := by omega
  have hkN : 0 < k := by omega
  obtain ⟨gr, orr, hA, hgl, hcl⟩ := (HRS.out w (Below.refl _ _)).2 hkN
  subst hA
  obtain ⟨a, ha⟩ : ∃ a, rs[p]? = some a := ⟨_, List.getElem?_eq_getElem (by have := HRL.out; omega)⟩
  have HEA : Hid (∀ z, Below w.heap.size w z → a.En z) := Lib.hid fun z hz => HSR.out.en a (List.mem_of_getElem? ha) z hz
  have HLA : Hid (L.getLast? = some a.e) := Lib.hid (by
    have h1 := HSR.out.at_ ha
    have h2 : L.length = p + 1 := by rw [HLL.out, hp]
    rw [List.getLast?_eq_getElem?, h2]; exact h1)
  have HRG : Hid (∀ z, Below w.heap.size w z → z.rangeAt gr (orr + p * 7) a.cells) := Lib.hid fun z hz j v hj => by
    have hj7 : j < 7 := (List.getElem?_eq_some_iff.1 hj).1
    rw [Nat.add_assoc]
    exact (hz.cell (p := ⟨gr, _, none⟩) hgl).trans (hcl _ v (by rw [flat7_at ha j hj7]; exact hj))
  obtain ⟨Aa, ac, Ba, ad, Da, aq, ae⟩ := a
  obtain ⟨cv, hcv⟩ : ∃ z, z = cmpE ae e := ⟨_, rfl⟩
  have HCV := Lib.hid hcv.symm
  have s1 : IntKind.i64.wrap (p : Int) = (p : Int) := i64_sum (by omega) (by omega)
  have s2 : (k : Int) - 1 = (p : Int) := by omega
  have i3 : (0 : Int) ≤ (p : Int) := by omega
  have i4 : (p : Int) < (k : Int) := by omega
  clear hp ha hcl hcv hk0
  refine lt_start [] (by kernel_rfl) ?_
  intro xd hd
  refine ⟨fun z => OW w [boxO gb [.slice Ar e.row.length ec, .int .i64 e.fam, .slice B e.qual.length d, .int .i64 e.ts, .int .i64 e.seq, .int .i64 e.kind, .slice D e.val.length q]] z, ?_⟩
  have HS := Lib.hid (HX1.out.later hd)
  refine lt_pure 0 rfl (by kernel_rfl) (by kernel_rfl) (by kernel_rfl) (by kernel_rfl) (fun _ _ _ h => h) (v := ?_) (yi_run rfl (fun w => ?_)) (fun _ => HS.out) ?_
  rotate_left
  · first | (go_simp; done) | (go_simp; with_reducible rfl)
  simp only [Act.put, List.setIfInBounds_toArray, List.set_cons_zero, List.set_cons_succ]
  refine lt_pure 1 rfl (by kernel_rfl) (by kernel_rfl) (by kernel_rfl) (by kernel_rfl) (fun _ _ _ h => h) (v := ?_) (yi_run rfl (fun w => ?_)) (fun _ => HS.out) ?_
  rotate_left
  · first | (go_simp; done) | (go_simp; with_reducible rfl)
  simp only [Act.put, List.setIfInBounds_toArray, List.set_cons_zero, List.set_cons_succ]
  refine lt_pure 2 rfl (by kernel_rfl) (by kernel_rfl) (by kernel_rfl) (by kernel_rfl) (fun _ _ _ h => h) (v := ?_) (yi_run rfl (fun w => ?_)) (fun _ => HS.out) ?_
  rotate_left
  · first | (go_simp; done) | (go_simp; with_reducible rfl)
  simp only [Act.put, List.setIfInBounds_toArray, List.set_cons_zero, List.set_cons_succ]
  refine lt_pure 3 rfl (by kernel_rfl) (by kernel_rfl) (by kernel_rfl) (by kernel_rfl) (fun _ _ _ h => h) (v := ?_) (yi_run rfl (fun w => ?_)) (fun _ => HS.out) ?_
  rotate_left
  · first | (go_simp; done) | (go_simp; with_reducible rfl)
  simp only [Act.put, List.setIfInBounds_toArray, List.set_cons_zero, List.set_cons_succ]
  refine lt_pure 4 rfl (by kernel_rfl) (by kernel_rfl) (by kernel_rfl) (by kernel_rfl) (fun _ _ _ h => h) (v := ?_) (yi_run rfl (fun w => ?_)) (fun _ => HS.out) ?_
  rotate_left
  · first | (go_simp; done) | (go_simp; with_reducible rfl)
  simp only [Act.put, List.setIfInBounds_toArray, List.set_cons_zero, List.set_cons_succ]
  refine lt_pure 5 rfl (by kernel_rfl) (by kernel_rfl) (by kernel_rfl) (by kernel_rfl) (fun _ _ _ h => h) (v := ?_) (yi_run rfl (fun w => ?_)) (fun _ => HS.out) ?_
  rotate_left
  · first | (go_simp; done) | (go_simp; with_reducible rfl)
  simp only [Act.put, List.setIfInBounds_toArray, List.set_cons_zero, List.set_cons_succ]
  refine lt_pure 6 rfl (by kernel_rfl) (by kernel_rfl) (by kernel_rfl) (by kernel_rfl) (fun _ _ _ h => h) (v := ?_) (yi_run rfl (fun w => ?_)) (fun _ => HS.out) ?_
  rotate_left
  · first | (go_simp; done) | (go_simp; with_reducible rfl)
  simp only [Act.put, List.setIfInBounds_toArray, List.set_cons_zero, List.set_cons_succ]
  refine lt_pure 7 rfl (by kernel_rfl) (by kernel_rfl) (by kernel_rfl) (by kernel_rfl) (fun _ _ _ h => h) (v := ?_) (yi_run rfl (fun w => ?_)) (fun _ => HS.out) ?_
  rotate_left
  · first | (go_simp; done) | (go_simp; with_reducible rfl)
  simp only [Act.put, List.setIfInBounds_toArray, List.set_cons_zero, List.set_cons_succ]
  refine lt_pure 8 rfl (by kernel_rfl) (by kernel_rfl) (by kernel_rfl) (by kernel_rfl) (fun _ _ _ h => h) (v := ?_) (yi_run rfl (fun w => ?_)) (fun _ => HS.out) ?_
  rotate_left
  · first | (go_simp; done) | (go_simp; with_reducible rfl)
  simp only [Act.put, List.setIfInBounds_toArray, List.set_cons_zero, List.set_cons_succ]
  refine lt_take 9 [11, 12, 13] rfl (by kernel_rfl) (by kernel_rfl) (by kernel_rfl) (by kernel_rfl) (by kernel_rfl) (fun _ _ _ h => h) (yi_rowO rfl rfl rfl (fun w hS => HRG.out _ (OW.up hS)) ent_rowM) HS.out ?_
  simp only [Act.put, List.setIfInBounds_toArray, List.set_cons_zero, List.set_cons_succ]
  refine lt_take 10 [11, 12, 13] rfl (by kernel_rfl) (by kernel_rfl) (by kernel_rfl) (by kernel_rfl) (by kernel_rfl) (fun _ _ _ h => h) (yi_row rfl rfl rfl (fun w hS => OW.range hS (i := 0) rfl) ent_rowM) HS.out ?_
  simp only [Act.put, List.setIfInBounds_toArray, List.set_cons_zero, List.set_cons_succ]
  refine lt_call 11 rfl (by kernel_rfl) rfl rfl ⟨_, Tryd.func43, by decide, by kernel_rfl⟩ [entV Aa ae.row.length ac Ba ae.qual.length ad Da ae.val.length aq ae, entV Ar e.row.length ec B e.qual.length d D e.val.length q e] rfl ?_
  refine (rcompare_any ae e Aa _ ac Ba _ ad Da _ aq Ar _ ec B _ d D _ q _ (HEA.out _ HS.out.up) (HEN.out _ HS.out.up)).mono ?_
  rw [HCV.out]
  rintro r z9 ⟨rfl, hb⟩
  replace HS := Lib.hid (HS.out.later hb)
  clear hb
  refine ⟨_, rfl, fun _ => HS.out, ?_⟩
  simp only [Act.put, List.setIfInBounds_toArray, List.set_cons_zero, List.set_cons_succ]
  refine lt_pure 12 rfl (by kernel_rfl) (by kernel_rfl) (by kernel_rfl) (by kernel_rfl) (fun _ _ _ h => h) (v := ?_) (yi_run rfl (fun w => ?_)) (fun _ => HS.out) ?_
  rotate_left
  · first | (go_simp; done) | (go_simp; with_reducible rfl)
  simp only [Act.put, List.setIfInBounds_toArray, List.set_cons_zero, List.set_cons_succ]
  refine lt_pure 13 rfl (by kernel_rfl) (by kernel_rfl) (by kernel_rfl) (by kernel_rfl) (fun _ _ _ h => h) (v := ?_) (yi_run rfl (fun w => ?_)) (fun _ => HS.out) ?_
  rotate_left
  · first | (go_simp; done) | (go_simp; with_reducible rfl)
  simp only [Act.put, List.setIfInBounds_toArray, List.set_cons_zero, List.set_cons_succ]
  refine lt_done (by kernel_rfl) ?_
  have HS9 := HS
  clear HS
  clear HX1
  by_cases hcn : cv ≥ 0
  case pos =>
    have hd8 : decide (cv ≥ 0) = true := decide_eq_true hcn
    have HAD : Hid (addC R L e = 30) := Lib.hid (by
      unfold addC
      rw [if_neg (by rw [HC0.out]; decide), if_pos (by unfold lastOk; rw [HLA.out]; show decide (cmpE ae e < 0) = false; rw [HCV.out]; exact decide_eq_false (by omega))])
    go_wp2_with fail
    go_ret2
    exact .inr ⟨by rw [HAD.out]; decide, by rw [HAD.out]; rfl, HS9.out.up⟩
  have hd8 : decide (cv ≥ 0) = false := decide_eq_false hcn
  have HLO : Hid (¬ lastOk L e = false) := Lib.hid (by
    unfold lastOk; rw [HLA.out]; show ¬ decide (cmpE ae e < 0) = false; rw [HCV.out, decide_eq_true (by omega)]; decide)
  have HOKN := Lib.hid (build_alike1 (R := R) HB0.out HC0.out HLO.out).1
  have HALN := Lib.hid (build_alike1 (R := R) HB0.out HC0.out HLO.out).2
  have HBIG := Lib.hid (HTL.out HLO.out)
  have HN0 : Hid (OW w [boxO gb [.slice Ar e.row.length ec, .int .i64 e.fam, .slice B e.qual.length d, .int .i64 e.ts, .int .i64 e.seq, .int .i64 e.kind, .slice D e.val.length q], rowO 37 7 (.slice none 0 0) 0 []] _) := Lib.hid (HS9.out.nilRow 37 7)
  clear HS9
  have tk1 : True := trivial
  have tk2 : True := trivial
  go_upto_region 10 with (first
    | (at_builtin; have _t := tk1; go_must (refine wl_append rfl (.tmp 32) (.tmp 33) rfl Tryd.entsS HN0.out 1 rfl rfl _ (some ⟨gr, orr, none⟩) k c (rs.flatMap ER.cells) rfl (HRS.out _ HN0.out.up) (fun u hu => cells_one hu) (by unfold maxLen; omega) (by omega) ?_); intro A1 c1 z1 hz _; rw [Nat.zero_add] at hz; rw [Nat.zero_add]; have HX2 : Hid (OW w [boxO gb [.slice Ar e.row.length ec, .int .i64 e.fam, .slice B e.qual.length d, .int .i64 e.ts, .int .i64 e.seq, .int .i64 e.kind, .slice D e.val.length q], rowO 37 7 (.slice A1 k c1) k (rs.flatMap ER.cells)] z1) := Lib.hid hz; clear hz HN0 tk1 _t)
    | (refine wpList_load_row7 rfl 37 (.tmp 5) rfl rfl (HX2.out.range (i := 0) rfl) ent_rowM ?_)
    | (refine wl_build rfl #[(0, .tmp 36)] rfl #[.slice Ar e.row.length ec, .int .i64 e.fam, .slice B e.qual.length d, .int .i64 e.ts, .int .i64 e.seq, .int .i64 e.kind, .slice D e.val.length q] Tryd.entsS (.agg #[.slice none 0 0, .int .i64 0, .slice none 0 0, .int .i64 0, .int .i64 0, .int .i64 0, .slice none 0 0]) (by kernel_rfl) (by decide) (by decide) (by decide) rfl (by kernel_rfl) HX2.out ?_; intro g5 z5 hz _; have HX5 := Lib.hid hz; clear hz HX2)
    | (at_builtin; have _t := tk2; go_must (refine wl_append rfl (.tmp 35) (.tmp 37) rfl Tryd.entsS HX5.out 1 rfl rfl _ (some ⟨g5, 0, none⟩) 1 1 [.slice Ar e.row.length ec, .int .i64 e.fam, .slice B e.qual.length d, .int .i64 e.ts, .int .i64 e.seq, .int .i64 e.kind, .slice D e.val.length q] rfl (Reads.own (HX5.out.row (i := 2) rfl)) (by simp [Value.oneCell']) (by unfold maxLen; omega) (by omega) ?_); intro A6 c6 z6 hz _; have HX6 : Hid (OW w [rowO 37 7 (.slice A6 (k + 1) c6) (k + 1) ((rs ++ [(⟨Ar, ec, B, d, D, q, e⟩ : ER)]).flatMap ER.cells)] z6) := Lib.hid (by rw [flat7_snoc]; exact (hz.erase 2).erase 0); clear hz HX5 tk2 _t)
    | (go_at_call 60; go_must (refine (rlay_any R (L ++ [e]) A6 (k + 1) c6 _ (HSN.out.ens HX6.out (i := 0) rfl) (by omega) ⟨hR1, hR2⟩ HOKN.out HALN.out).mono ?_); rintro r z7 hp; obtain ⟨A7, c7, rfl, _, ho, hb⟩ := hp.at_ (n := ln) HLN.out; have HX7 := Lib.hid (HX6.out.later hb); clear hp ho hb HX6))
  by_cases hbig : 131072 < ln
  · have hd9 : decide ((ln : Int) > 131072) = true := decide_eq_true (by omega)
    go_wp2_with fail
    go_ret2
    exact .inr ⟨HBIG.out.1 hbig ▸ (by decide), by rw [HBIG.out.1 hbig]; rfl, HX7.out.up⟩
  · have hd9 : decide ((ln : Int) > 131072) = false := decide_eq_false (by omega)
    go_wp2_with fail
    go_ret2
    exact .inl ⟨HBIG.out.2 hbig, A6, c6, rfl, HX7.out⟩
end Go.Proofs.YtmigjipfomfacaaDoor
namespace Go.Proofs.YtmigjipfomfacaaDoor
open Go.RowKit
structure HalfD where
  R : Nat
  b : Nat
  hg : Nat
  L : List Ent
  rs : List ER
  A : Option Addr
  k : Nat
  c : Nat
def HalfD.box (h : HalfD) : Ob := boxO h.hg [.pointer (some ⟨h.b, 0, none⟩), .int .i64 (h.R : Int), .slice h.A h.k h.c]
def HalfD.row (h : HalfD) : Ob := rowO 37 7 (.slice h.A h.k h.c) h.k (h.rs.flatMap ER.cells)
structure HalfD.Ok (h : HalfD) (rest : List Ob) : Prop where
  box : h.box ∈ rest
  row : h.row ∈ rest
  ents : h.rs.map ER.e = h.L
  en : ∀ r, r ∈ h.rs → ∀ o, o ∈ entR r → o ∈ rest
  ok : (buildK h.R [] h.L).1 = 0
  hk : h.k ≤ 80
theorem HalfD.Ok.ens {h : HalfD} {rest os : List Ob} {w z : World} (k : h.Ok rest) (hx : OW w os z) (hm : ∀ o, o ∈ rest → o ∈ os) : Ens z h.A h.k h.L :=
  ⟨h.rs, k.ents, Reads.own (hx.rowm (hm _ k.row)), fun r hr => entO_en hx fun o ho => hm o (k.en r hr o ho)⟩
theorem HalfD.Ok.len {h : HalfD} {rest os : List Ob} {w z : World} (k : h.Ok rest) (hx : OW w os z) (hm : ∀ o, o ∈ rest → o ∈ os) : h.L.length = h.k := (k.ens hx hm).len
theorem permA {α : Type} (f b r : List α) (o : α) : ((f ++ (b ++ r)) ++ [o]).Perm (b ++ ((f ++ r) ++ [o])) := by
  rw [← List.append_assoc, ← List.append_assoc]
  refine List.Perm.append_right _ ?_
  rw [← List.append_assoc]
  exact List.Perm.append_right _ List.perm_append_comm
theorem permB {α : Type} (f b r : List α) (o p : α) : (b ++ ((f ++ r) ++ [o, p])).Perm ((f ++ p :: (b ++ r)) ++ [o]) := by
  refine List.Perm.trans ?_ (List.perm_append_singleton o (f ++ p :: (b ++ r))).symm
  refine List.Perm.trans (List.perm_append_comm (l₁ := b)) ?_
  rw [List.append_assoc, List.append_assoc]
  refine List.Perm.trans (l₂ := o :: p :: (f ++ (r ++ b))) ?_ ?_
  · rw [← List.append_assoc, ← List.append_assoc, ← List.append_assoc]
    refine List.Perm.trans (List.Perm.append_right b (List.perm_append_comm (l₁ := f ++ r) (l₂ := [o, p]))) ?_
    exact List.Perm.refl _
  · refine List.Perm.cons o ?_
    refine List.Perm.trans ?_ List.perm_middle.symm
    exact List.Perm.cons p (List.Perm.append_left f List.perm_append_comm)
set_option maxRecDepth 10000000 in
set_option maxHeartbeats 8000000 in
theorem asks_any {w x : World} {fg : Nat} {osF osB rest : List Ob} (h : HalfD) (hF : Fl fg osF) (hB : Bld h.R h.L h.b osB) (hx : OW w (osF ++ (osB ++ rest)) x) (hok : h.Ok rest) (ht : TabAt 0 w) :
    Calls Tryd.prog 36 #[.pointer (some ⟨h.hg, 0, none⟩), .pointer (some ⟨fg, 0, none⟩)] x fun e z => e = .returned (.bool true) ∧ ∃ osF', Fl fg osF' ∧ OW w (osF' ++ (osB ++ rest)) z := by
  have hl0 := hok.len hx (fun o ho => List.mem_append_right _ (List.mem_append_right _ ho))
  have HEN : Hid (∀ z, OW w (osF ++ (osB ++ rest)) z → Ens z h.A h.k h.L) := Lib.hid fun z hz => hok.ens hz (fun o ho => List.mem_append_right _ (List.mem_append_right _ ho))
  have HCK := Lib.hid (show (∀ l, l ∈ h.L → checkE l = 0) ∧ ∀ k e, h.L[k]? = some e → alikeB h.R (runB h.R (h.L.take k)) (keyE e) < (keyE e).length from ⟨hB.2.2.2.1, build_alike hok.ok⟩)
  have HM : Hid (h.box ∈ rest) := Lib.hid hok.box
  have hk80 := hok.hk
  obtain ⟨R, b, hg, L, rs, A, k, c⟩ := h
  have HB := Lib.hid hB
  have HF := Lib.hid hF
  have hR1 : 1 ≤ R := hB.1.1
  have hR2 : R ≤ 16 := hB.1.2
  have hk8 : k ≤ 80 := hk80
  obtain ⟨want, hwant⟩ : ∃ z, z = layB R L := ⟨_, rfl⟩
  obtain ⟨ln, hln⟩ : ∃ z, z = want.length := ⟨_, rfl⟩
  have HFE : Hid ((finE R L).1 = want) := Lib.hid (by
    rw [hwant]; unfold finE
    split
    · rename_i h; rw [h]; rfl
    · rfl)
  have HSZ : Hid (szB R L = ln) := Lib.hid (by rw [← fin_len R, HFE.out, hln])
  have hlb : ln ≤ 131072 := by
    have h1 := HSZ.out
    have h2 : sizeS (runB R L) ≤ 131072 := hB.2.1
    unfold szB at h1
    split at h1 <;> omega
  have HWA := Lib.hid hwant.symm
  have HLN := Lib.hid hln.symm
  have HLL : Hid (L.length = k) := Lib.hid hl0
  have HTB : Hid (∀ z, Below w.heap.size w z → TabAt 0 z) := Lib.hid fun z hz => ht.later hz
  have HMB : Hid (boxO hg [.pointer (some ⟨b, 0, none⟩), .int .i64 (R : Int), .slice A k c] ∈ osF ++ (osB ++ rest)) := Lib.hid (List.mem_append_right _ (List.mem_append_right _ HM.out))
  have HX := Lib.hid hx
  clear hB hF hx hok ht hln hwant hl0 hk80
  show Calls Tryd.prog 36 #[.pointer (some ⟨hg, 0, none⟩), .pointer (some ⟨fg, 0, none⟩)] x fun e z => e = .returned (.bool true) ∧ ∃ osF', Fl fg osF' ∧ OW w (osF' ++ (osB ++ rest)) z
  obtain ⟨fc, hfc⟩ : ∃ z, z = (finE R L).2 := ⟨_, rfl⟩
  have HFC := Lib.hid hfc.symm
  have hfk : (k = 0 ∧ fc = 54) ∨ (0 < k ∧ fc = 0) := by
    rw [hfc]; unfold finE
    split
    · rename_i h; exact .inl ⟨by rw [← HLL.out, h]; rfl, rfl⟩
    · rename_i h; exact .inr ⟨by rw [← HLL.out]; exact List.length_pos_iff.2 h, rfl⟩
  clear hfc
  go_enter Tryd.func36, Tryd.ntmps36
  go_upto_region 1 with fail
  refine lt_start [] (by kernel_rfl) ?_
  intro xd hd
  refine ⟨fun z => OW w (osF ++ (osB ++ rest)) z, ?_⟩
  have HS := Lib.hid (HX.out.later hd)
  refine lt_pure 0 rfl (by kernel_rfl) (by kernel_rfl) (by kernel_rfl) (by kernel_rfl) (fun _ _ _ h => h) (v := ?_) (yi_run rfl (fun w => ?_)) (fun _ => HS.out) ?_
  rotate_left
  · first | (go_simp; done) | (go_simp; with_reducible rfl)
  simp only [Act.put, List.setIfInBounds_toArray, List.set_cons_zero, List.set_cons_succ]
  refine lt_pure 1 rfl (by kernel_rfl) (by kernel_rfl) (by kernel_rfl) (by kernel_rfl) (fun _ _ _ h => h) (v := ?_) (yi_run rfl (fun w => ?_)) (fun _ => HS.out) ?_
  rotate_left
  · first | (go_simp; done) | (go_simp; with_reducible rfl)
  simp only [Act.put, List.setIfInBounds_toArray, List.set_cons_zero, List.set_cons_succ]
  refine lt_pure 2 rfl (by kernel_rfl) (by kernel_rfl) (by kernel_rfl) (by kernel_rfl) (fun _ _ _ h => h) (v := ?_) (yi_run rfl (fun w => ?_)) (fun _ => HS.out) ?_
  rotate_left
  · first | (go_simp; done) | (go_simp; with_reducible rfl)
  simp only [Act.put, List.setIfInBounds_toArray, List.set_cons_zero, List.set_cons_succ]
  refine lt_take 3 [8, 9] rfl (by kernel_rfl) (by kernel_rfl) (by kernel_rfl) (by kernel_rfl) (by kernel_rfl) (fun _ _ _ h => h) (yi_cell rfl rfl rfl (fun w hS => OW.cellm hS HMB.out (j := 1) rfl) (fun w => Tryd.isAgg3 w)) HS.out ?_
  simp only [Act.put, List.setIfInBounds_toArray, List.set_cons_zero, List.set_cons_succ]
  refine lt_pure 4 rfl (by kernel_rfl) (by kernel_rfl) (by kernel_rfl) (by kernel_rfl) (fun _ _ _ h => h) (v := ?_) (yi_run rfl (fun w => ?_)) (fun _ => HS.out) ?_
  rotate_left
  · first | (go_simp; done) | (go_simp; with_reducible rfl)
  simp only [Act.put, List.setIfInBounds_toArray, List.set_cons_zero, List.set_cons_succ]
  refine lt_pure 5 rfl (by kernel_rfl) (by kernel_rfl) (by kernel_rfl) (by kernel_rfl) (fun _ _ _ h => h) (v := ?_) (yi_run rfl (fun w => ?_)) (fun _ => HS.out) ?_
  rotate_left
  · first | (go_simp; done) | (go_simp; with_reducible rfl)
  simp only [Act.put, List.setIfInBounds_toArray, List.set_cons_zero, List.set_cons_succ]
  refine lt_pure 6 rfl (by kernel_rfl) (by kernel_rfl) (by kernel_rfl) (by kernel_rfl) (fun _ _ _ h => h) (v := ?_) (yi_run rfl (fun w => ?_)) (fun _ => HS.out) ?_
  rotate_left
  · first | (go_simp; done) | (go_simp; with_reducible rfl)
  simp only [Act.put, List.setIfInBounds_toArray, List.set_cons_zero, List.set_cons_succ]
  refine lt_take 7 [8, 9] rfl (by kernel_rfl) (by kernel_rfl) (by kernel_rfl) (by kernel_rfl) (by kernel_rfl) (fun _ _ _ h => h) (yi_cell rfl rfl rfl (fun w hS => OW.cellm hS HMB.out (j := 2) rfl) (fun w => Tryd.isAgg22 w)) HS.out ?_
  simp only [Act.put, List.setIfInBounds_toArray, List.set_cons_zero, List.set_cons_succ]
  refine lt_call 8 rfl (by kernel_rfl) rfl rfl ⟨_, Tryd.func60, by decide, by kernel_rfl⟩ [.int .i64 (R : Int), .slice A k c] rfl ?_
  refine (rlay_any R L A k c _ (HEN.out _ HS.out) (by omega) ⟨hR1, hR2⟩ HCK.out.1 HCK.out.2).mono ?_
  rw [HWA.out]
  rintro r z7 hp
  obtain ⟨A1, c1, rfl, _, ho, hb⟩ := hp.at_ (n := ln) HLN.out
  have HQ : Hid (OW w ((osF ++ (osB ++ rest)) ++ [bytO 5 (A1, c1, want)]) z7) := Lib.hid (HS.out.app (OW.byt1 hb ho))
  replace HS := Lib.hid (HS.out.later hb)
  clear hp ho hb
  refine ⟨_, rfl, fun _ => HS.out, ?_⟩
  simp only [Act.put, List.setIfInBounds_toArray, List.set_cons_zero, List.set_cons_succ]
  refine lt_pure 9 rfl (by kernel_rfl) (by kernel_rfl) (by kernel_rfl) (by kernel_rfl) (fun _ _ _ h => h) (v := ?_) (yi_run rfl (fun w => ?_)) (fun _ => HS.out) ?_
  rotate_left
  · first | (go_simp; done) | (go_simp; with_reducible rfl)
  simp only [Act.put, List.setIfInBounds_toArray, List.set_cons_zero, List.set_cons_succ]
  refine lt_done (by kernel_rfl) ?_
  clear HS
  clear HX
  have HMQ : Hid (boxO hg [.pointer (some ⟨b, 0, none⟩), .int .i64 (R : Int), .slice A k c] ∈ (osF ++ (osB ++ rest)) ++ [bytO 5 (A1, c1, want)]) := Lib.hid (List.mem_append_left _ HMB.out)
  go_upto_region 3 with (first
    | (refine wpList_load_cell rfl 57 (.tmp 20) rfl rfl (HQ.out.cellm HMQ.out (j := 0) rfl) (fun w => Tryd.isAgg57 w) ?_)
    | (go_at_call 24; go_must (refine (finish_any HB.out (HQ.out.perm (permA osF osB rest _)) (HTB.out _ HQ.out.up)).mono ?_); rw [HFE.out, HFC.out]; rintro e y1 hp; obtain ⟨A2, c2, rfl, _, ho, hb⟩ := hp.at_ (n := ln) HLN.out rfl; have HY : Hid (OW w (osB ++ ((osF ++ rest) ++ [bytO 5 (A1, c1, want), bytO 5 (A2, c2, want)])) y1) := Lib.hid (by have h9 := (HQ.out.perm (permA osF osB rest _)).app (OW.byt1 hb ho); rw [List.append_assoc, List.append_assoc] at h9; exact h9); clear hp ho hb HQ))
  have HML : Hid (boxO hg [.pointer (some ⟨b, 0, none⟩), .int .i64 (R : Int), .slice A k c] ∈ osB ++ ((osF ++ rest) ++ [bytO 5 (A1, c1, want), bytO 5 (A2, c2, want)])) := Lib.hid (List.mem_append_right _ (List.mem_append_left _ (List.mem_append_right _ HM.out)))
  have HW1 : Hid (∀ z, OW w (osB ++ ((osF ++ rest) ++ [bytO 5 (A1, c1, want), bytO 5 (A2, c2, want)])) z → RB z z.heap.size A1 ln want) := Lib.hid fun z hz => (hz.slm (T := 5) (c := c1) (List.mem_append_right _ (List.mem_append_right _ (.head _))) HLN.out).rb
  have HW2 : Hid (∀ z, OW w (osB ++ ((osF ++ rest) ++ [bytO 5 (A1, c1, want), bytO 5 (A2, c2, want)])) z → RB z z.heap.size A2 ln want) := Lib.hid fun z hz => (hz.slm (T := 5) (c := c2) (List.mem_append_right _ (List.mem_append_right _ (.tail _ (.head _)))) HLN.out).rb
  have HSB : Hid (SlB (bytO 5 (A2, c2, want)) A2 ln c2) := Lib.hid (by have h9 := slB_byt 5 A2 c2 want; rw [HLN.out] at h9; exact h9)
  clear HMQ HM HMB
  rcases hfk with ⟨hk0, rfl⟩ | ⟨hk0, rfl⟩
  · have hd1 : decide ((k : Int) > 0) = false := decide_eq_false (by omega)
    have hd2 : decide (0 < k) = false := decide_eq_false (by omega)
    have hkN : ¬ 0 < k := by omega
    clear hk0
    refine lt_start [] (by kernel_rfl) ?_
    intro xd hd
    refine ⟨fun z => OW w (osB ++ ((osF ++ rest) ++ [bytO 5 (A1, c1, want), bytO 5 (A2, c2, want)])) z, ?_⟩
    have HS := Lib.hid (HY.out.later hd)
    refine lt_pure 0 rfl (by kernel_rfl) (by kernel_rfl) (by kernel_rfl) (by kernel_rfl) (fun _ _ _ h => h) (v := ?_) (yi_run rfl (fun w => ?_)) (fun _ => HS.out) ?_
    rotate_left
    · first | (go_simp; done) | (go_simp; with_reducible rfl)
    simp only [Act.put, List.setIfInBounds_toArray, List.set_cons_zero, List.set_cons_succ]
    refine lt_pure 1 rfl (by kernel_rfl) (by kernel_rfl) (by kernel_rfl) (by kernel_rfl) (fun _ _ _ h => h) (v := ?_) (yi_run rfl (fun w => ?_)) (fun _ => HS.out) ?_
    rotate_left
    · first | (go_simp; done) | (go_simp; with_reducible rfl)
    simp only [Act.put, List.setIfInBounds_toArray, List.set_cons_zero, List.set_cons_succ]
    refine lt_pure 2 rfl (by kernel_rfl) (by kernel_rfl) (by kernel_rfl) (by kernel_rfl) (fun _ _ _ h => h) (v := ?_) (yi_run rfl (fun w => ?_)) (fun _ => HS.out) ?_
    rotate_left
    · first | (go_simp; done) | (go_simp; with_reducible rfl)
    simp only [Act.put, List.setIfInBounds_toArray, List.set_cons_zero, List.set_cons_succ]
    refine lt_take 3 [4, 10, 11, 12, 13, 14, 15, 16, 17, 18, 19, 20, 21, 22, 23, 24, 25, 26, 27, 28, 29, 30, 31, 32, 33, 34, 35, 36, 37, 38, 39, 40, 41, 42, 43, 44, 45] rfl (by kernel_rfl) (by kernel_rfl) (by kernel_rfl) (by kernel_rfl) (by kernel_rfl) (fun _ _ _ h => h) (yi_cell rfl rfl rfl (fun w hS => OW.cellm hS HML.out (j := 0) rfl) (fun w => Tryd.isAgg57 w)) HS.out ?_
    simp only [Act.put, List.setIfInBounds_toArray, List.set_cons_zero, List.set_cons_succ]
    refine lt_pure 5 rfl (by kernel_rfl) (by kernel_rfl) (by kernel_rfl) (by kernel_rfl) (fun _ _ _ h => h) (v := ?_) (yi_run rfl (fun w => ?_)) (fun _ => HS.out) ?_
    rotate_left
    · first | (go_simp; done) | (go_simp; with_reducible rfl)
    simp only [Act.put, List.setIfInBounds_toArray, List.set_cons_zero, List.set_cons_succ]
    refine lt_pure 6 rfl (by kernel_rfl) (by kernel_rfl) (by kernel_rfl) (by kernel_rfl) (fun _ _ _ h => h) (v := ?_) (yi_run rfl (fun w => ?_)) (fun _ => HS.out) ?_
    rotate_left
    · first | (go_simp; done) | (go_simp; with_reducible rfl)
    simp only [Act.put, List.setIfInBounds_toArray, List.set_cons_zero, List.set_cons_succ]
    refine lt_pure 7 rfl (by kernel_rfl) (by kernel_rfl) (by kernel_rfl) (by kernel_rfl) (fun _ _ _ h => h) (v := ?_) (yi_run rfl (fun w => ?_)) (fun _ => HS.out) ?_
    rotate_left
    · first | (go_simp; done) | (go_simp; with_reducible rfl)
    simp only [Act.put, List.setIfInBounds_toArray, List.set_cons_zero, List.set_cons_succ]
    refine lt_take 8 [9, 10, 11, 12, 13, 14, 15, 16, 17, 18, 19, 20, 21, 22, 23, 24, 25, 26, 27, 28, 29, 30, 31, 32, 33, 34, 35, 36, 37, 38, 39, 40, 41, 42, 43, 44, 45] rfl (by kernel_rfl) (by kernel_rfl) (by kernel_rfl) (by kernel_rfl) (by kernel_rfl) (fun _ _ _ h => h) (yi_cell rfl rfl rfl (fun w hS => OW.cellm hS HML.out (j := 2) rfl) (fun w => Tryd.isAgg22 w)) HS.out ?_
    simp only [Act.put, List.setIfInBounds_toArray, List.set_cons_zero, List.set_cons_succ]
    refine lt_pure 9 rfl (by kernel_rfl) (by kernel_rfl) (by kernel_rfl) (by kernel_rfl) (fun _ _ _ h => h) (v := ?_) (yi_run rfl (fun w => ?_)) (fun _ => HS.out) ?_
    rotate_left
    · first | (go_simp; done) | (go_simp; with_reducible rfl)
    simp only [Act.put, List.setIfInBounds_toArray, List.set_cons_zero, List.set_cons_succ]
    refine lt_call 4 rfl (by kernel_rfl) rfl rfl ⟨_, Tryd.func41, by decide, by kernel_rfl⟩ [.pointer (some ⟨b, 0, none⟩)] rfl ?_
    refine (count_any HB.out HS.out).mono ?_
    rw [HLL.out]
    rintro r z4 ⟨rfl, hb⟩
    replace HS := Lib.hid (HS.out.later hb)
    clear hb
    refine ⟨_, rfl, fun _ => HS.out, ?_⟩
    simp only [Act.put, List.setIfInBounds_toArray, List.set_cons_zero, List.set_cons_succ]
    refine lt_pure 10 rfl (by kernel_rfl) (by kernel_rfl) (by kernel_rfl) (by kernel_rfl) (fun _ _ _ h => h) (v := ?_) (yi_run rfl (fun w => ?_)) (fun _ => HS.out) ?_
    rotate_left
    · first | (go_simp; done) | (go_simp; with_reducible rfl)
    simp only [Act.put, List.setIfInBounds_toArray, List.set_cons_zero, List.set_cons_succ]
    refine lt_pure 11 rfl (by kernel_rfl) (by kernel_rfl) (by kernel_rfl) (by kernel_rfl) (fun _ _ _ h => h) (v := ?_) (yi_run rfl (fun w => ?_)) (fun _ => HS.out) ?_
    rotate_left
    · first | (go_simp; done) | (go_simp; with_reducible rfl)
    simp only [Act.put, List.setIfInBounds_toArray, List.set_cons_zero, List.set_cons_succ]
    refine lt_pure 12 rfl (by kernel_rfl) (by kernel_rfl) (by kernel_rfl) (by kernel_rfl) (fun _ _ _ h => h) (v := ?_) (yi_run rfl (fun w => ?_)) (fun _ => HS.out) ?_
    rotate_left
    · first | (go_simp; done) | (go_simp; with_reducible rfl)
    simp only [Act.put, List.setIfInBounds_toArray, List.set_cons_zero, List.set_cons_succ]
    refine lt_pure 13 rfl (by kernel_rfl) (by kernel_rfl) (by kernel_rfl) (by kernel_rfl) (fun _ _ _ h => h) (v := ?_) (yi_run rfl (fun w => ?_)) (fun _ => HS.out) ?_
    rotate_left
    · first | (go_simp; done) | (go_simp; with_reducible rfl)
    simp only [Act.put, List.setIfInBounds_toArray, List.set_cons_zero, List.set_cons_succ]
    refine lt_pure 14 rfl (by kernel_rfl) (by kernel_rfl) (by kernel_rfl) (by kernel_rfl) (fun _ _ _ h => h) (v := ?_) (yi_run rfl (fun w => ?_)) (fun _ => HS.out) ?_
    rotate_left
    · first | (go_simp; done) | (go_simp; with_reducible rfl)
    simp only [Act.put, List.setIfInBounds_toArray, List.set_cons_zero, List.set_cons_succ]
    refine lt_take 15 [16, 19, 20, 21, 22, 23, 24, 25, 26, 27, 28, 29, 30, 31, 32, 33, 34, 35, 36, 37, 38, 39, 40, 41, 42, 43, 44, 45] rfl (by kernel_rfl) (by kernel_rfl) (by kernel_rfl) (by kernel_rfl) (by kernel_rfl) (fun _ _ _ h => h) (yi_cell rfl rfl rfl (fun w hS => OW.cellm hS HML.out (j := 0) rfl) (fun w => Tryd.isAgg57 w)) HS.out ?_
    simp only [Act.put, List.setIfInBounds_toArray, List.set_cons_zero, List.set_cons_succ]
    refine lt_pure 17 rfl (by kernel_rfl) (by kernel_rfl) (by kernel_rfl) (by kernel_rfl) (fun _ _ _ h => h) (v := ?_) (yi_run rfl (fun w => ?_)) (fun _ => HS.out) ?_
    rotate_left
    · first | (go_simp; done) | (go_simp; with_reducible rfl)
    simp only [Act.put, List.setIfInBounds_toArray, List.set_cons_zero, List.set_cons_succ]
    refine lt_pure 18 rfl (by kernel_rfl) (by kernel_rfl) (by kernel_rfl) (by kernel_rfl) (fun _ _ _ h => h) (v := ?_) (yi_run rfl (fun w => ?_)) (fun _ => HS.out) ?_
    rotate_left
    · first | (go_simp; done) | (go_simp; with_reducible rfl)
    simp only [Act.put, List.setIfInBounds_toArray, List.set_cons_zero, List.set_cons_succ]
    refine lt_call 16 rfl (by kernel_rfl) rfl rfl ⟨_, Tryd.func40, by decide, by kernel_rfl⟩ [.pointer (some ⟨b, 0, none⟩)] rfl ?_
    refine (size_any HB.out HS.out).mono ?_
    rw [HSZ.out]
    rintro r z5 ⟨rfl, hb⟩
    replace HS := Lib.hid (HS.out.later hb)
    clear hb
    refine ⟨_, rfl, fun _ => HS.out, ?_⟩
    simp only [Act.put, List.setIfInBounds_toArray, List.set_cons_zero, List.set_cons_succ]
    refine lt_pure 19 rfl (by kernel_rfl) (by kernel_rfl) (by kernel_rfl) (by kernel_rfl) (fun _ _ _ h => h) (v := ?_) (yi_run rfl (fun w => ?_)) (fun _ => HS.out) ?_
    rotate_left
    · first | (go_simp; done) | (go_simp; with_reducible rfl)
    simp only [Act.put, List.setIfInBounds_toArray, List.set_cons_zero, List.set_cons_succ]
    refine lt_pure 20 rfl (by kernel_rfl) (by kernel_rfl) (by kernel_rfl) (by kernel_rfl) (fun _ _ _ h => h) (v := ?_) (yi_run rfl (fun w => ?_)) (fun _ => HS.out) ?_
    rotate_left
    · first | (go_simp; done) | (go_simp; with_reducible rfl)
    simp only [Act.put, List.setIfInBounds_toArray, List.set_cons_zero, List.set_cons_succ]
    refine lt_pure 21 rfl (by kernel_rfl) (by kernel_rfl) (by kernel_rfl) (by kernel_rfl) (fun _ _ _ h => h) (v := ?_) (yi_run rfl (fun w => ?_)) (fun _ => HS.out) ?_
    rotate_left
    · first | (go_simp; done) | (go_simp; with_reducible rfl)
    simp only [Act.put, List.setIfInBounds_toArray, List.set_cons_zero, List.set_cons_succ]
    refine lt_pure 22 rfl (by kernel_rfl) (by kernel_rfl) (by kernel_rfl) (by kernel_rfl) (fun _ _ _ h => h) (v := ?_) (yi_run rfl (fun w => ?_)) (fun _ => HS.out) ?_
    rotate_left
    · first | (go_simp; done) | (go_simp; with_reducible rfl)
    simp only [Act.put, List.setIfInBounds_toArray, List.set_cons_zero, List.set_cons_succ]
    refine lt_pure 23 rfl (by kernel_rfl) (by kernel_rfl) (by kernel_rfl) (by kernel_rfl) (fun _ _ _ h => h) (v := ?_) (yi_run rfl (fun w => ?_)) (fun _ => HS.out) ?_
    rotate_left
    · first | (go_simp; done) | (go_simp; with_reducible rfl)
    simp only [Act.put, List.setIfInBounds_toArray, List.set_cons_zero, List.set_cons_succ]
    refine lt_pure 24 rfl (by kernel_rfl) (by kernel_rfl) (by kernel_rfl) (by kernel_rfl) (fun _ _ _ h => h) (v := ?_) (yi_run rfl (fun w => ?_)) (fun _ => HS.out) ?_
    rotate_left
    · first | (go_simp; done) | (go_simp; with_reducible rfl)
    simp only [Act.put, List.setIfInBounds_toArray, List.set_cons_zero, List.set_cons_succ]
    refine lt_pure 25 rfl (by kernel_rfl) (by kernel_rfl) (by kernel_rfl) (by kernel_rfl) (fun _ _ _ h => h) (v := ?_) (yi_run rfl (fun w => ?_)) (fun _ => HS.out) ?_
    rotate_left
    · first | (go_simp; done) | (go_simp; with_reducible rfl)
    simp only [Act.put, List.setIfInBounds_toArray, List.set_cons_zero, List.set_cons_succ]
    refine lt_pure 26 rfl (by kernel_rfl) (by kernel_rfl) (by kernel_rfl) (by kernel_rfl) (fun _ _ _ h => h) (v := ?_) (yi_run rfl (fun w => ?_)) (fun _ => HS.out) ?_
    rotate_left
    · first | (go_simp; done) | (go_simp; with_reducible rfl)
    simp only [Act.put, List.setIfInBounds_toArray, List.set_cons_zero, List.set_cons_succ]
    refine lt_take 27 [28, 29, 30, 31, 32, 33, 34, 35, 36, 37, 38, 39, 40, 41, 42, 43, 44, 45] rfl (by kernel_rfl) (by kernel_rfl) (by kernel_rfl) (by kernel_rfl) (by kernel_rfl) (fun _ _ _ h => h) (yi_cell rfl rfl rfl (fun w hS => OW.cellm hS HML.out (j := 2) rfl) (fun w => Tryd.isAgg22 w)) HS.out ?_
    simp only [Act.put, List.setIfInBounds_toArray, List.set_cons_zero, List.set_cons_succ]
    refine lt_pure 28 rfl (by kernel_rfl) (by kernel_rfl) (by kernel_rfl) (by kernel_rfl) (fun _ _ _ h => h) (v := ?_) (yi_run rfl (fun w => ?_)) (fun _ => HS.out) ?_
    rotate_left
    · first | (go_simp; done) | (go_simp; with_reducible rfl)
    simp only [Act.put, List.setIfInBounds_toArray, List.set_cons_zero, List.set_cons_succ]
    refine lt_pure 29 rfl (by kernel_rfl) (by kernel_rfl) (by kernel_rfl) (by kernel_rfl) (fun _ _ _ h => h) (v := ?_) (yi_run rfl (fun w => ?_)) (fun _ => HS.out) ?_
    rotate_left
    · first | (go_simp; done) | (go_simp; with_reducible rfl)
    simp only [Act.put, List.setIfInBounds_toArray, List.set_cons_zero, List.set_cons_succ]
    refine lt_pure 30 rfl (by kernel_rfl) (by kernel_rfl) (by kernel_rfl) (by kernel_rfl) (fun _ _ _ h => h) (v := ?_) (yi_run rfl (fun w => ?_)) (fun _ => HS.out) ?_
    rotate_left
    · first | (go_simp; done) | (go_simp; with_reducible rfl)
    simp only [Act.put, List.setIfInBounds_toArray, List.set_cons_zero, List.set_cons_succ]
    refine lt_pure 31 rfl (by kernel_rfl) (by kernel_rfl) (by kernel_rfl) (by kernel_rfl) (fun _ _ _ h => h) (v := ?_) (yi_run rfl (fun w => ?_)) (fun _ => HS.out) ?_
    rotate_left
    · first | (go_simp; done) | (go_simp; with_reducible rfl)
    simp only [Act.put, List.setIfInBounds_toArray, List.set_cons_zero, List.set_cons_succ]
    refine lt_pure 32 rfl (by kernel_rfl) (by kernel_rfl) (by kernel_rfl) (by kernel_rfl) (fun _ _ _ h => h) (v := ?_) (yi_run rfl (fun w => ?_)) (fun _ => HS.out) ?_
    rotate_left
    · first | (go_simp; done) | (go_simp; with_reducible rfl)
    simp only [Act.put, List.setIfInBounds_toArray, List.set_cons_zero, List.set_cons_succ]
    refine lt_pure 33 rfl (by kernel_rfl) (by kernel_rfl) (by kernel_rfl) (by kernel_rfl) (fun _ _ _ h => h) (v := ?_) (yi_run rfl (fun w => ?_)) (fun _ => HS.out) ?_
    rotate_left
    · first | (go_simp; done) | (go_simp; with_reducible rfl)
    simp only [Act.put, List.setIfInBounds_toArray, List.set_cons_zero, List.set_cons_succ]
    refine lt_pure 34 rfl (by kernel_rfl) (by kernel_rfl) (by kernel_rfl) (by kernel_rfl) (fun _ _ _ h => h) (v := ?_) (yi_run rfl (fun w => ?_)) (fun _ => HS.out) ?_
    rotate_left
    · first | (go_simp; done) | (go_simp; with_reducible rfl)
    simp only [Act.put, List.setIfInBounds_toArray, List.set_cons_zero, List.set_cons_succ]
    refine lt_pure 35 rfl (by kernel_rfl) (by kernel_rfl) (by kernel_rfl) (by kernel_rfl) (fun _ _ _ h => h) (v := ?_) (yi_run rfl (fun w => ?_)) (fun _ => HS.out) ?_
    rotate_left
    · first | (go_simp; done) | (go_simp; with_reducible rfl)
    simp only [Act.put, List.setIfInBounds_toArray, List.set_cons_zero, List.set_cons_succ]
    refine lt_pure 36 rfl (by kernel_rfl) (by kernel_rfl) (by kernel_rfl) (by kernel_rfl) (fun _ _ _ h => h) (v := ?_) (yi_run rfl (fun w => ?_)) (fun _ => HS.out) ?_
    rotate_left
    · first | (go_simp; done) | (go_simp; with_reducible rfl)
    simp only [Act.put, List.setIfInBounds_toArray, List.set_cons_zero, List.set_cons_succ]
    refine lt_pure 37 rfl (by kernel_rfl) (by kernel_rfl) (by kernel_rfl) (by kernel_rfl) (fun _ _ _ h => h) (v := ?_) (yi_run rfl (fun w => ?_)) (fun _ => HS.out) ?_
    rotate_left
    · first | (go_simp; done) | (go_simp; with_reducible rfl)
    simp only [Act.put, List.setIfInBounds_toArray, List.set_cons_zero, List.set_cons_succ]
    refine lt_pure 38 rfl (by kernel_rfl) (by kernel_rfl) (by kernel_rfl) (by kernel_rfl) (fun _ _ _ h => h) (v := ?_) (yi_run rfl (fun w => ?_)) (fun _ => HS.out) ?_
    rotate_left
    · first | (go_simp; done) | (go_simp; with_reducible rfl)
    simp only [Act.put, List.setIfInBounds_toArray, List.set_cons_zero, List.set_cons_succ]
    refine lt_pure 39 rfl (by kernel_rfl) (by kernel_rfl) (by kernel_rfl) (by kernel_rfl) (fun _ _ _ h => h) (v := ?_) (yi_run rfl (fun w => ?_)) (fun _ => HS.out) ?_
    rotate_left
    · first | (go_simp; done) | (go_simp; with_reducible rfl)
    simp only [Act.put, List.setIfInBounds_toArray, List.set_cons_zero, List.set_cons_succ]
    refine lt_pure 40 rfl (by kernel_rfl) (by kernel_rfl) (by kernel_rfl) (by kernel_rfl) (fun _ _ _ h => h) (v := ?_) (yi_run rfl (fun w => ?_)) (fun _ => HS.out) ?_
    rotate_left
    · first | (go_simp; done) | (go_simp; with_reducible rfl)
    simp only [Act.put, List.setIfInBounds_toArray, List.set_cons_zero, List.set_cons_succ]
    refine lt_pure 41 rfl (by kernel_rfl) (by kernel_rfl) (by kernel_rfl) (by kernel_rfl) (fun _ _ _ h => h) (v := ?_) (yi_run rfl (fun w => ?_)) (fun _ => HS.out) ?_
    rotate_left
    · first | (go_simp; done) | (go_simp; with_reducible rfl)
    simp only [Act.put, List.setIfInBounds_toArray, List.set_cons_zero, List.set_cons_succ]
    refine lt_pure 42 rfl (by kernel_rfl) (by kernel_rfl) (by kernel_rfl) (by kernel_rfl) (fun _ _ _ h => h) (v := ?_) (yi_run rfl (fun w => ?_)) (fun _ => HS.out) ?_
    rotate_left
    · first | (go_simp; done) | (go_simp; with_reducible rfl)
    simp only [Act.put, List.setIfInBounds_toArray, List.set_cons_zero, List.set_cons_succ]
    refine lt_call 43 rfl (by kernel_rfl) rfl rfl ⟨_, Tryd.func16, by decide, by kernel_rfl⟩ [.slice A2 ln c2, .slice A1 ln c1] rfl ?_
    refine (same_any want want A2 A1 ln c2 ln c1 _ (by omega) (HW2.out _ HS.out) (HW1.out _ HS.out)).mono ?_
    rw [beq_self_eq_true]
    rintro r z6 ⟨rfl, hb⟩
    replace HS := Lib.hid (HS.out.later hb)
    clear hb
    refine ⟨_, rfl, fun _ => HS.out, ?_⟩
    simp only [Act.put, List.setIfInBounds_toArray, List.set_cons_zero, List.set_cons_succ]
    refine lt_pure 44 rfl (by kernel_rfl) (by kernel_rfl) (by kernel_rfl) (by kernel_rfl) (fun _ _ _ h => h) (v := ?_) (yi_run rfl (fun w => ?_)) (fun _ => HS.out) ?_
    rotate_left
    · first | (go_simp; done) | (go_simp; with_reducible rfl)
    simp only [Act.put, List.setIfInBounds_toArray, List.set_cons_zero, List.set_cons_succ]
    refine lt_pure 45 rfl (by kernel_rfl) (by kernel_rfl) (by kernel_rfl) (by kernel_rfl) (fun _ _ _ h => h) (v := ?_) (yi_run rfl (fun w => ?_)) (fun _ => HS.out) ?_
    rotate_left
    · first | (go_simp; done) | (go_simp; with_reducible rfl)
    simp only [Act.put, List.setIfInBounds_toArray, List.set_cons_zero, List.set_cons_succ]
    refine lt_done (by kernel_rfl) ?_
    have HS9 := HS
    clear HS
    clear HY
    go_wp2_with (first
      | (go_at_call 75; go_must (refine (take_any HF.out HSB.out ((HS9.out.perm (permB osF osB rest _ _)).left) (by omega)).mono ?_); rintro e z2 ⟨rfl, osF', hf, hz⟩; have HFZ := Lib.hid hf; have HZ := Lib.hid hz; clear hf hz HS9))
    go_ret
    exact ⟨rfl, osF', HFZ.out, HZ.out⟩
  · have hd1 : decide ((k : Int) > 0) = true := decide_eq_true (by omega)
    have hd2 : decide (0 < k) = true := decide_eq_true (by omega)
    refine lt_start [] (by kernel_rfl) ?_
    intro xd hd
    refine ⟨fun z => OW w (osB ++ ((osF ++ rest) ++ [bytO 5 (A1, c1, want), bytO 5 (A2, c2, want)])) z, ?_⟩
    have HS := Lib.hid (HY.out.later hd)
    refine lt_pure 0 rfl (by kernel_rfl) (by kernel_rfl) (by kernel_rfl) (by kernel_rfl) (fun _ _ _ h => h) (v := ?_) (yi_run rfl (fun w => ?_)) (fun _ => HS.out) ?_
    rotate_left
    · first | (go_simp; done) | (go_simp; with_reducible rfl)
    simp only [Act.put, List.setIfInBounds_toArray, List.set_cons_zero, List.set_cons_succ]
    refine lt_pure 1 rfl (by kernel_rfl) (by kernel_rfl) (by kernel_rfl) (by kernel_rfl) (fun _ _ _ h => h) (v := ?_) (yi_run rfl (fun w => ?_)) (fun _ => HS.out) ?_
    rotate_left
    · first | (go_simp; done) | (go_simp; with_reducible rfl)
    simp only [Act.put, List.setIfInBounds_toArray, List.set_cons_zero, List.set_cons_succ]
    refine lt_pure 2 rfl (by kernel_rfl) (by kernel_rfl) (by kernel_rfl) (by kernel_rfl) (fun _ _ _ h => h) (v := ?_) (yi_run rfl (fun w => ?_)) (fun _ => HS.out) ?_
    rotate_left
    · first | (go_simp; done) | (go_simp; with_reducible rfl)
    simp only [Act.put, List.setIfInBounds_toArray, List.set_cons_zero, List.set_cons_succ]
    refine lt_take 3 [4, 10, 11, 12, 13, 14, 15, 16, 17, 18, 19, 20, 21, 22, 23, 24, 25, 26, 27, 28, 29, 30, 31, 32, 33, 34, 35, 36, 37, 38, 39, 40, 41, 42, 43, 44, 45] rfl (by kernel_rfl) (by kernel_rfl) (by kernel_rfl) (by kernel_rfl) (by kernel_rfl) (fun _ _ _ h => h) (yi_cell rfl rfl rfl (fun w hS => OW.cellm hS HML.out (j := 0) rfl) (fun w => Tryd.isAgg57 w)) HS.out ?_
    simp only [Act.put, List.setIfInBounds_toArray, List.set_cons_zero, List.set_cons_succ]
    refine lt_pure 5 rfl (by kernel_rfl) (by kernel_rfl) (by kernel_rfl) (by kernel_rfl) (fun _ _ _ h => h) (v := ?_) (yi_run rfl (fun w => ?_)) (fun _ => HS.out) ?_
    rotate_left
    · first | (go_simp; done) | (go_simp; with_reducible rfl)
    simp only [Act.put, List.setIfInBounds_toArray, List.set_cons_zero, List.set_cons_succ]
    refine lt_pure 6 rfl (by kernel_rfl) (by kernel_rfl) (by kernel_rfl) (by kernel_rfl) (fun _ _ _ h => h) (v := ?_) (yi_run rfl (fun w => ?_)) (fun _ => HS.out) ?_
    rotate_left
    · first | (go_simp; done) | (go_simp; with_reducible rfl)
    simp only [Act.put, List.setIfInBounds_toArray, List.set_cons_zero, List.set_cons_succ]
    refine lt_pure 7 rfl (by kernel_rfl) (by kernel_rfl) (by kernel_rfl) (by kernel_rfl) (fun _ _ _ h => h) (v := ?_) (yi_run rfl (fun w => ?_)) (fun _ => HS.out) ?_
    rotate_left
    · first | (go_simp; done) | (go_simp; with_reducible rfl)
    simp only [Act.put, List.setIfInBounds_toArray, List.set_cons_zero, List.set_cons_succ]
    refine lt_take 8 [9, 10, 11, 12, 13, 14, 15, 16, 17, 18, 19, 20, 21, 22, 23, 24, 25, 26, 27, 28, 29, 30, 31, 32, 33, 34, 35, 36, 37, 38, 39, 40, 41, 42, 43, 44, 45] rfl (by kernel_rfl) (by kernel_rfl) (by kernel_rfl) (by kernel_rfl) (by kernel_rfl) (fun _ _ _ h => h) (yi_cell rfl rfl rfl (fun w hS => OW.cellm hS HML.out (j := 2) rfl) (fun w => Tryd.isAgg22 w)) HS.out ?_
    simp only [Act.put, List.setIfInBounds_toArray, List.set_cons_zero, List.set_cons_succ]
    refine lt_pure 9 rfl (by kernel_rfl) (by kernel_rfl) (by kernel_rfl) (by kernel_rfl) (fun _ _ _ h => h) (v := ?_) (yi_run rfl (fun w => ?_)) (fun _ => HS.out) ?_
    rotate_left
    · first | (go_simp; done) | (go_simp; with_reducible rfl)
    simp only [Act.put, List.setIfInBounds_toArray, List.set_cons_zero, List.set_cons_succ]
    refine lt_call 4 rfl (by kernel_rfl) rfl rfl ⟨_, Tryd.func41, by decide, by kernel_rfl⟩ [.pointer (some ⟨b, 0, none⟩)] rfl ?_
    refine (count_any HB.out HS.out).mono ?_
    rw [HLL.out]
    rintro r z4 ⟨rfl, hb⟩
    replace HS := Lib.hid (HS.out.later hb)
    clear hb
    refine ⟨_, rfl, fun _ => HS.out, ?_⟩
    simp only [Act.put, List.setIfInBounds_toArray, List.set_cons_zero, List.set_cons_succ]
    refine lt_pure 10 rfl (by kernel_rfl) (by kernel_rfl) (by kernel_rfl) (by kernel_rfl) (fun _ _ _ h => h) (v := ?_) (yi_run rfl (fun w => ?_)) (fun _ => HS.out) ?_
    rotate_left
    · first | (go_simp; done) | (go_simp; with_reducible rfl)
    simp only [Act.put, List.setIfInBounds_toArray, List.set_cons_zero, List.set_cons_succ]
    refine lt_pure 11 rfl (by kernel_rfl) (by kernel_rfl) (by kernel_rfl) (by kernel_rfl) (fun _ _ _ h => h) (v := ?_) (yi_run rfl (fun w => ?_)) (fun _ => HS.out) ?_
    rotate_left
    · first | (go_simp; done) | (go_simp; with_reducible rfl)
    simp only [Act.put, List.setIfInBounds_toArray, List.set_cons_zero, List.set_cons_succ]
    refine lt_pure 12 rfl (by kernel_rfl) (by kernel_rfl) (by kernel_rfl) (by kernel_rfl) (fun _ _ _ h => h) (v := ?_) (yi_run rfl (fun w => ?_)) (fun _ => HS.out) ?_
    rotate_left
    · first | (go_simp; done) | (go_simp; with_reducible rfl)
    simp only [Act.put, List.setIfInBounds_toArray, List.set_cons_zero, List.set_cons_succ]
    refine lt_pure 13 rfl (by kernel_rfl) (by kernel_rfl) (by kernel_rfl) (by kernel_rfl) (fun _ _ _ h => h) (v := ?_) (yi_run rfl (fun w => ?_)) (fun _ => HS.out) ?_
    rotate_left
    · first | (go_simp; done) | (go_simp; with_reducible rfl)
    simp only [Act.put, List.setIfInBounds_toArray, List.set_cons_zero, List.set_cons_succ]
    refine lt_pure 14 rfl (by kernel_rfl) (by kernel_rfl) (by kernel_rfl) (by kernel_rfl) (fun _ _ _ h => h) (v := ?_) (yi_run rfl (fun w => ?_)) (fun _ => HS.out) ?_
    rotate_left
    · first | (go_simp; done) | (go_simp; with_reducible rfl)
    simp only [Act.put, List.setIfInBounds_toArray, List.set_cons_zero, List.set_cons_succ]
    refine lt_take 15 [16, 19, 20, 21, 22, 23, 24, 25, 26, 27, 28, 29, 30, 31, 32, 33, 34, 35, 36, 37, 38, 39, 40, 41, 42, 43, 44, 45] rfl (by kernel_rfl) (by kernel_rfl) (by kernel_rfl) (by kernel_rfl) (by kernel_rfl) (fun _ _ _ h => h) (yi_cell rfl rfl rfl (fun w hS => OW.cellm hS HML.out (j := 0) rfl) (fun w => Tryd.isAgg57 w)) HS.out ?_
    simp only [Act.put, List.setIfInBounds_toArray, List.set_cons_zero, List.set_cons_succ]
    refine lt_pure 17 rfl (by kernel_rfl) (by kernel_rfl) (by kernel_rfl) (by kernel_rfl) (fun _ _ _ h => h) (v := ?_) (yi_run rfl (fun w => ?_)) (fun _ => HS.out) ?_
    rotate_left
    · first | (go_simp; done) | (go_simp; with_reducible rfl)
    simp only [Act.put, List.setIfInBounds_toArray, List.set_cons_zero, List.set_cons_succ]
    refine lt_pure 18 rfl (by kernel_rfl) (by kernel_rfl) (by kernel_rfl) (by kernel_rfl) (fun _ _ _ h => h) (v := ?_) (yi_run rfl (fun w => ?_)) (fun _ => HS.out) ?_
    rotate_left
    · first | (go_simp; done) | (go_simp; with_reducible rfl)
    simp only [Act.put, List.setIfInBounds_toArray, List.set_cons_zero, List.set_cons_succ]
    refine lt_call 16 rfl (by kernel_rfl) rfl rfl ⟨_, Tryd.func40, by decide, by kernel_rfl⟩ [.pointer (some ⟨b, 0, none⟩)] rfl ?_
    refine (size_any HB.out HS.out).mono ?_
    rw [HSZ.out]
    rintro r z5 ⟨rfl, hb⟩
    replace HS := Lib.hid (HS.out.later hb)
    clear hb
    refine ⟨_, rfl, fun _ => HS.out, ?_⟩
    simp only [Act.put, List.setIfInBounds_toArray, List.set_cons_zero, List.set_cons_succ]
    refine lt_pure 19 rfl (by kernel_rfl) (by kernel_rfl) (by kernel_rfl) (by kernel_rfl) (fun _ _ _ h => h) (v := ?_) (yi_run rfl (fun w => ?_)) (fun _ => HS.out) ?_
    rotate_left
    · first | (go_simp; done) | (go_simp; with_reducible rfl)
    simp only [Act.put, List.setIfInBounds_toArray, List.set_cons_zero, List.set_cons_succ]
    refine lt_pure 20 rfl (by kernel_rfl) (by kernel_rfl) (by kernel_rfl) (by kernel_rfl) (fun _ _ _ h => h) (v := ?_) (yi_run rfl (fun w => ?_)) (fun _ => HS.out) ?_
    rotate_left
    · first | (go_simp; done) | (go_simp; with_reducible rfl)
    simp only [Act.put, List.setIfInBounds_toArray, List.set_cons_zero, List.set_cons_succ]
    refine lt_pure 21 rfl (by kernel_rfl) (by kernel_rfl) (by kernel_rfl) (by kernel_rfl) (fun _ _ _ h => h) (v := ?_) (yi_run rfl (fun w => ?_)) (fun _ => HS.out) ?_
    rotate_left
    · first | (go_simp; done) | (go_simp; with_reducible rfl)
    simp only [Act.put, List.setIfInBounds_toArray, List.set_cons_zero, List.set_cons_succ]
    refine lt_pure 22 rfl (by kernel_rfl) (by kernel_rfl) (by kernel_rfl) (by kernel_rfl) (fun _ _ _ h => h) (v := ?_) (yi_run rfl (fun w => ?_)) (fun _ => HS.out) ?_
    rotate_left
    · first | (go_simp; done) | (go_simp; with_reducible rfl)
    simp only [Act.put, List.setIfInBounds_toArray, List.set_cons_zero, List.set_cons_succ]
    refine lt_pure 23 rfl (by kernel_rfl) (by kernel_rfl) (by kernel_rfl) (by kernel_rfl) (fun _ _ _ h => h) (v := ?_) (yi_run rfl (fun w => ?_)) (fun _ => HS.out) ?_
    rotate_left
    · first | (go_simp; done) | (go_simp; with_reducible rfl)
    simp only [Act.put, List.setIfInBounds_toArray, List.set_cons_zero, List.set_cons_succ]
    refine lt_pure 24 rfl (by kernel_rfl) (by kernel_rfl) (by kernel_rfl) (by kernel_rfl) (fun _ _ _ h => h) (v := ?_) (yi_run rfl (fun w => ?_)) (fun _ => HS.out) ?_
    rotate_left
    · first | (go_simp; done) | (go_simp; with_reducible rfl)
    simp only [Act.put, List.setIfInBounds_toArray, List.set_cons_zero, List.set_cons_succ]
    refine lt_pure 25 rfl (by kernel_rfl) (by kernel_rfl) (by kernel_rfl) (by kernel_rfl) (fun _ _ _ h => h) (v := ?_) (yi_run rfl (fun w => ?_)) (fun _ => HS.out) ?_
    rotate_left
    · first | (go_simp; done) | (go_simp; with_reducible rfl)
    simp only [Act.put, List.setIfInBounds_toArray, List.set_cons_zero, List.set_cons_succ]
    refine lt_pure 26 rfl (by kernel_rfl) (by kernel_rfl) (by kernel_rfl) (by kernel_rfl) (fun _ _ _ h => h) (v := ?_) (yi_run rfl (fun w => ?_)) (fun _ => HS.out) ?_
    rotate_left
    · first | (go_simp; done) | (go_simp; with_reducible rfl)
    simp only [Act.put, List.setIfInBounds_toArray, List.set_cons_zero, List.set_cons_succ]
    refine lt_take 27 [28, 29, 30, 31, 32, 33, 34, 35, 36, 37, 38, 39, 40, 41, 42, 43, 44, 45] rfl (by kernel_rfl) (by kernel_rfl) (by kernel_rfl) (by kernel_rfl) (by kernel_rfl) (fun _ _ _ h => h) (yi_cell rfl rfl rfl (fun w hS => OW.cellm hS HML.out (j := 2) rfl) (fun w => Tryd.isAgg22 w)) HS.out ?_
    simp only [Act.put, List.setIfInBounds_toArray, List.set_cons_zero, List.set_cons_succ]
    refine lt_pure 28 rfl (by kernel_rfl) (by kernel_rfl) (by kernel_rfl) (by kernel_rfl) (fun _ _ _ h => h) (v := ?_) (yi_run rfl (fun w => ?_)) (fun _ => HS.out) ?_
    rotate_left
    · first | (go_simp; done) | (go_simp; with_reducible rfl)
    simp only [Act.put, List.setIfInBounds_toArray, List.set_cons_zero, List.set_cons_succ]
    refine lt_pure 29 rfl (by kernel_rfl) (by kernel_rfl) (by kernel_rfl) (by kernel_rfl) (fun _ _ _ h => h) (v := ?_) (yi_run rfl (fun w => ?_)) (fun _ => HS.out) ?_
    rotate_left
    · first | (go_simp; done) | (go_simp; with_reducible rfl)
    simp only [Act.put, List.setIfInBounds_toArray, List.set_cons_zero, List.set_cons_succ]
    refine lt_pure 30 rfl (by kernel_rfl) (by kernel_rfl) (by kernel_rfl) (by kernel_rfl) (fun _ _ _ h => h) (v := ?_) (yi_run rfl (fun w => ?_)) (fun _ => HS.out) ?_
    rotate_left
    · first | (go_simp; done) | (go_simp; with_reducible rfl)
    simp only [Act.put, List.setIfInBounds_toArray, List.set_cons_zero, List.set_cons_succ]
    refine lt_pure 31 rfl (by kernel_rfl) (by kernel_rfl) (by kernel_rfl) (by kernel_rfl) (fun _ _ _ h => h) (v := ?_) (yi_run rfl (fun w => ?_)) (fun _ => HS.out) ?_
    rotate_left
    · first | (go_simp; done) | (go_simp; with_reducible rfl)
    simp only [Act.put, List.setIfInBounds_toArray, List.set_cons_zero, List.set_cons_succ]
    refine lt_pure 32 rfl (by kernel_rfl) (by kernel_rfl) (by kernel_rfl) (by kernel_rfl) (fun _ _ _ h => h) (v := ?_) (yi_run rfl (fun w => ?_)) (fun _ => HS.out) ?_
    rotate_left
    · first | (go_simp; done) | (go_simp; with_reducible rfl)
    simp only [Act.put, List.setIfInBounds_toArray, List.set_cons_zero, List.set_cons_succ]
    refine lt_pure 33 rfl (by kernel_rfl) (by kernel_rfl) (by kernel_rfl) (by kernel_rfl) (fun _ _ _ h => h) (v := ?_) (yi_run rfl (fun w => ?_)) (fun _ => HS.out) ?_
    rotate_left
    · first | (go_simp; done) | (go_simp; with_reducible rfl)
    simp only [Act.put, List.setIfInBounds_toArray, List.set_cons_zero, List.set_cons_succ]
    refine lt_pure 34 rfl (by kernel_rfl) (by kernel_rfl) (by kernel_rfl) (by kernel_rfl) (fun _ _ _ h => h) (v := ?_) (yi_run rfl (fun w => ?_)) (fun _ => HS.out) ?_
    rotate_left
    · first | (go_simp; done) | (go_simp; with_reducible rfl)
    simp only [Act.put, List.setIfInBounds_toArray, List.set_cons_zero, List.set_cons_succ]
    refine lt_pure 35 rfl (by kernel_rfl) (by kernel_rfl) (by kernel_rfl) (by kernel_rfl) (fun _ _ _ h => h) (v := ?_) (yi_run rfl (fun w => ?_)) (fun _ => HS.out) ?_
    rotate_left
    · first | (go_simp; done) | (go_simp; with_reducible rfl)
    simp only [Act.put, List.setIfInBounds_toArray, List.set_cons_zero, List.set_cons_succ]
    refine lt_skip 36 rfl (by kernel_rfl) (by kernel_rfl) (by kernel_rfl) (by kernel_rfl) (fun _ _ _ h => h) rfl (fun _ => HS.out) ?_
    simp only [Act.put, List.setIfInBounds_toArray, List.set_cons_zero, List.set_cons_succ]
    refine lt_skip 37 rfl (by kernel_rfl) (by kernel_rfl) (by kernel_rfl) (by kernel_rfl) (fun _ _ _ h => h) rfl (fun _ => HS.out) ?_
    simp only [Act.put, List.setIfInBounds_toArray, List.set_cons_zero, List.set_cons_succ]
    refine lt_pure 38 rfl (by kernel_rfl) (by kernel_rfl) (by kernel_rfl) (by kernel_rfl) (fun _ _ _ h => h) (v := ?_) (yi_run rfl (fun w => ?_)) (fun _ => HS.out) ?_
    rotate_left
    · first | (go_simp; done) | (go_simp; with_reducible rfl)
    simp only [Act.put, List.setIfInBounds_toArray, List.set_cons_zero, List.set_cons_succ]
    refine lt_pure 39 rfl (by kernel_rfl) (by kernel_rfl) (by kernel_rfl) (by kernel_rfl) (fun _ _ _ h => h) (v := ?_) (yi_run rfl (fun w => ?_)) (fun _ => HS.out) ?_
    rotate_left
    · first | (go_simp; done) | (go_simp; with_reducible rfl)
    simp only [Act.put, List.setIfInBounds_toArray, List.set_cons_zero, List.set_cons_succ]
    refine lt_pure 40 rfl (by kernel_rfl) (by kernel_rfl) (by kernel_rfl) (by kernel_rfl) (fun _ _ _ h => h) (v := ?_) (yi_run rfl (fun w => ?_)) (fun _ => HS.out) ?_
    rotate_left
    · first | (go_simp; done) | (go_simp; with_reducible rfl)
    simp only [Act.put, List.setIfInBounds_toArray, List.set_cons_zero, List.set_cons_succ]
    refine lt_pure 41 rfl (by kernel_rfl) (by kernel_rfl) (by kernel_rfl) (by kernel_rfl) (fun _ _ _ h => h) (v := ?_) (yi_run rfl (fun w => ?_)) (fun _ => HS.out) ?_
    rotate_left
    · first | (go_simp; done) | (go_simp; with_reducible rfl)
    simp only [Act.put, List.setIfInBounds_toArray, List.set_cons_zero, List.set_cons_succ]
    refine lt_pure 42 rfl (by kernel_rfl) (by kernel_rfl) (by kernel_rfl) (by kernel_rfl) (fun _ _ _ h => h) (v := ?_) (yi_run rfl (fun w => ?_)) (fun _ => HS.out) ?_
    rotate_left
    · first | (go_simp; done) | (go_simp; with_reducible rfl)
    simp only [Act.put, List.setIfInBounds_toArray, List.set_cons_zero, List.set_cons_succ]
    refine lt_call 43 rfl (by kernel_rfl) rfl rfl ⟨_, Tryd.func16, by decide, by kernel_rfl⟩ [.slice A2 ln c2, .slice A1 ln c1] rfl ?_
    refine (same_any want want A2 A1 ln c2 ln c1 _ (by omega) (HW2.out _ HS.out) (HW1.out _ HS.out)).mono ?_
    rw [beq_self_eq_true]
    rintro r z6 ⟨rfl, hb⟩
    replace HS := Lib.hid (HS.out.later hb)
    clear hb
    refine ⟨_, rfl, fun _ => HS.out, ?_⟩
    simp only [Act.put, List.setIfInBounds_toArray, List.set_cons_zero, List.set_cons_succ]
    refine lt_pure 44 rfl (by kernel_rfl) (by kernel_rfl) (by kernel_rfl) (by kernel_rfl) (fun _ _ _ h => h) (v := ?_) (yi_run rfl (fun w => ?_)) (fun _ => HS.out) ?_
    rotate_left
    · first | (go_simp; done) | (go_simp; with_reducible rfl)
    simp only [Act.put, List.setIfInBounds_toArray, List.set_cons_zero, List.set_cons_succ]
    refine lt_pure 45 rfl (by kernel_rfl) (by kernel_rfl) (by kernel_rfl) (by kernel_rfl) (fun _ _ _ h => h) (v := ?_) (yi_run rfl (fun w => ?_)) (fun _ => HS.out) ?_
    rotate_left
    · first | (go_simp; done) | (go_simp; with_reducible rfl)
    simp only [Act.put, List.setIfInBounds_toArray, List.set_cons_zero, List.set_cons_succ]
    refine lt_done (by kernel_rfl) ?_
    have HS9 := HS
    clear HS
    clear HY
    go_wp2_with (first
      | (go_at_call 75; go_must (refine (take_any HF.out HSB.out ((HS9.out.perm (permB osF osB rest _ _)).left) (by omega)).mono ?_); rintro e z2 ⟨rfl, osF', hf, hz⟩; have HFZ := Lib.hid hf; have HZ := Lib.hid hz; clear hf hz HS9))
    go_ret
    exact ⟨rfl, osF', HFZ.out, HZ.out⟩
end Go.Proofs.YtmigjipfomfacaaDoor
namespace Go.Proofs.YtmigjipfomfacaaDoor
open Go.RowKit
noncomputable def cntO {α : Type} (a : α) (l : List α) : Nat := @List.count α (@instBEqOfDecidableEq α (fun a b => Classical.propDecidable (a = b))) a l
noncomputable def cnt1 {α : Type} (a x : α) : Nat := cntO a [x]
theorem cntO_app {α : Type} (a : α) (l m : List α) : cntO a (l ++ m) = cntO a l + cntO a m := by
  letI : DecidableEq α := fun a b => Classical.propDecidable (a = b)
  exact List.count_append
theorem cntO_cons {α : Type} (a x : α) (l : List α) : cntO a (x :: l) = cnt1 a x + cntO a l := by
  unfold cnt1
  rw [← cntO_app]; rfl
theorem cntO_nil {α : Type} (a : α) : cntO a [] = 0 := by
  letI : DecidableEq α := fun a b => Classical.propDecidable (a = b)
  exact List.count_nil
theorem perm_of_cnt {α : Type} {l m : List α} (h : ∀ a, cntO a l = cntO a m) : l.Perm m := by
  letI : DecidableEq α := fun a b => Classical.propDecidable (a = b)
  exact List.perm_iff_count.2 fun a => h a
theorem permO_test {α : Type} (a b c : List α) (x y : α) : (a ++ (x :: b) ++ (c ++ [y])).Perm (y :: (b ++ (c ++ (x :: a)))) := by (refine perm_of_cnt fun a => ?_; (simp only [cntO_app, cntO_cons, cntO_nil]) <;> omega)
section
variable {P : Program} {Q : Exit → Act → World → Prop} {F : List Nat} {S : World → Prop} {l : List Oper} {listed : Array Bool} {fuel : Nat} {a : Act} {w : World}
theorem lt_three (i j k : Nat) {oi oj ok : Oper} (hi : l[i]? = some oi) (hj : l[j]? = some oj) (hk : l[k]? = some ok) (hr : Region.ready .any l.toArray listed = [i, j, k]) (wi : Region.wanted oi (yielded l.toArray a.tmps) = true) (wj : Region.wanted oj (yielded l.toArray a.tmps) = true) (wk : Region.wanted ok (yielded l.toArray a.tmps) = true)
    (h1 : oi.wp P a w (fun a' w' => (finB F (listed.setIfInBounds i true) = false → S w') ∧ wpAnyT P l.toArray Q F S fuel (listed.setIfInBounds i true) a' w') Q)
    (h2 : oj.wp P a w (fun a' w' => (finB F (listed.setIfInBounds j true) = false → S w') ∧ wpAnyT P l.toArray Q F S fuel (listed.setIfInBounds j true) a' w') Q)
    (h3 : ok.wp P a w (fun a' w' => (finB F (listed.setIfInBounds k true) = false → S w') ∧ wpAnyT P l.toArray Q F S fuel (listed.setIfInBounds k true) a' w') Q) : wpAnyT P l.toArray Q F S (fuel + 1) listed a w := by
  refine ⟨fun h0 => ?_, fun m hm => ?_⟩
  · rw [hr] at h0; cases h0
  rw [hr] at hm
  have hm' : m = i ∨ m = j ∨ m = k := by simpa using hm
  rcases hm' with rfl | rfl | rfl
  · unfold wpOp
    rw [lx_at hi]
    simp only [wi, if_true]
    exact .inl h1
  · unfold wpOp
    rw [lx_at hj]
    simp only [wj, if_true]
    exact .inl h2
  · unfold wpOp
    rw [lx_at hk]
    simp only [wk, if_true]
    exact .inl h3
theorem wp_callL {o : Oper} {K : Act → World → Prop} {f : FuncId} {xs : List Operand} {ats : Array TypeId} (ho : o.op = .call { callee := .value (.func f), args := xs.toArray, argTypes := ats }) (hf : GoFn P f) (vals : List Value) (hv : xs.map a.eval = vals)
    (hc : Calls P f vals.toArray w fun e w' => ∃ v, e = .returned v ∧ K (a.put o.dst v) w') : o.wp P a w K Q := wp_call_go ho hf vals.toArray (by rw [List.map_toArray, hv]) hc
end
end Go.Proofs.YtmigjipfomfacaaDoor
namespace Go.Proofs.YtmigjipfomfacaaDoor
open Go.RowKit
structure HalfD.Lst (h : HalfD) (n : Nat) (ks : List Ob) : Prop where
  ents : h.rs.map ER.e = h.L
  en : ∀ r, r ∈ h.rs → ∀ o, o ∈ entR r → o ∈ ks
  ok : (buildK h.R [] h.L).1 = 0
  hk : h.k ≤ n
theorem HalfD.Lst.sub {h : HalfD} {n m : Nat} {ks ks' : List Ob} (k : h.Lst n ks) (hn : n ≤ m) (hs : ∀ o, o ∈ ks → o ∈ ks') : h.Lst m ks' :=
  ⟨k.ents, fun r hr o ho => hs o (k.en r hr o ho), k.ok, Nat.le_trans k.hk hn⟩
def restD (h o : HalfD) (hs : Ob) (osO ks : List Ob) : List Ob := osO ++ (h.box :: h.row :: o.box :: o.row :: hs :: ks)
def DuoL (osF osH : List Ob) (h o : HalfD) (hs : Ob) (osO ks : List Ob) : List Ob := osF ++ (osH ++ restD h o hs osO ks)
def Duo (w : World) (fg : Nat) (hs : Ob) (h o : HalfD) (n : Nat) (z : World) : Prop :=
  ∃ osF osH osO ks, Fl fg osF ∧ Bld h.R h.L h.b osH ∧ Bld o.R o.L o.b osO ∧ h.Lst n ks ∧ o.Lst n ks ∧ OW w (DuoL osF osH h o hs osO ks) z
section
variable {w z : World} {fg n : Nat} {hs : Ob} {h o : HalfD}
theorem Duo.swap (d : Duo w fg hs h o n z) : Duo w fg hs o h n z := by
  obtain ⟨osF, osH, osO, ks, hF, hB, hO, h1, h2, hX⟩ := d
  refine ⟨osF, osO, osH, ks, hF, hO, hB, h2, h1, hX.perm ?_⟩
  unfold DuoL restD
  (refine perm_of_cnt fun a => ?_; (simp only [cntO_app, cntO_cons, cntO_nil]) <;> omega)
theorem Duo.up (d : Duo w fg hs h o n z) : Below w.heap.size w z := by
  obtain ⟨_, _, _, _, _, _, _, _, _, hX⟩ := d
  exact hX.up
theorem Duo.later {y : World} (d : Duo w fg hs h o n z) (hb : Below z.heap.size z y) : Duo w fg hs h o n y := by
  obtain ⟨osF, osH, osO, ks, hF, hB, hO, h1, h2, hX⟩ := d
  exact ⟨osF, osH, osO, ks, hF, hB, hO, h1, h2, hX.later hb⟩
theorem Duo.row {T : TypeId} {sz g m c : Nat} {cs : List Value} (d : Duo w fg (rowO T sz (.slice (some ⟨g, 0, none⟩) m c) m cs) h o n z) : z.ownsRow w.heap.size T sz (.slice (some ⟨g, 0, none⟩) m c) m cs := by
  obtain ⟨osF, osH, osO, ks, hF, hB, hO, h1, h2, hX⟩ := d
  exact hX.rowm (T := T) (sz := sz) (by unfold DuoL restD; simp)
set_option maxHeartbeats 1000000 in
theorem asks_duo (d : Duo w fg hs h o n z) (hn : n ≤ 80) (ht : TabAt 0 w) :
    Calls Tryd.prog 36 #[.pointer (some ⟨h.hg, 0, none⟩), .pointer (some ⟨fg, 0, none⟩)] z fun e y => e = .returned (.bool true) ∧ Duo w fg hs h o n y := by
  obtain ⟨osF, osH, osO, ks, hF, hB, hO, h1, h2, hX⟩ := d
  refine (asks_any h hF hB hX ⟨by unfold restD; simp, by unfold restD; simp, h1.ents, fun r hr x hx => ?_, h1.ok, Nat.le_trans h1.hk hn⟩ ht).mono ?_
  · have h9 := h1.en r hr x hx
    unfold restD; simp [h9]
  · rintro e y ⟨rfl, osF', hF', hX'⟩
    exact ⟨rfl, osF', osH, osO, ks, hF', hB, hO, h1, h2, hX'⟩
theorem whole_duo (d : Duo w fg hs h o n z) : Calls Tryd.prog 37 #[.pointer (some ⟨fg, 0, none⟩)] z fun e y => e = .returned (.bool true) ∧ Duo w fg hs h o n y := by
  have hd := d
  obtain ⟨osF, osH, osO, ks, hF, hB, hO, h1, h2, hX⟩ := d
  refine (whole_any hF hX).mono ?_
  rintro e _ ⟨rfl, hb⟩
  exact ⟨rfl, hd.later hb⟩
end
theorem HalfD.Lst.srt {h : HalfD} {n : Nat} {ks os : List Ob} {w z : World} (k : h.Lst n ks) (hX : OW w os z) (hm : ∀ o, o ∈ ks → o ∈ os) : Srt z h.rs h.L :=
  ⟨k.ents, fun r hr _ hy => (entO_en hX fun o ho => hm o (k.en r hr o ho)).later hy⟩
theorem radd_half {w x : World} {fr rest ks : List Ob} {n : Nat} (h : HalfD) (rd : ER) (hX : OW w (fr ++ (h.box :: h.row :: rest)) x) (hL : h.Lst n ks) (hm : ∀ o, o ∈ ks → o ∈ rest) (hd : ∀ o, o ∈ entR rd → o ∈ ks) (hR : 1 ≤ h.R ∧ h.R ≤ 16) (hn : n ≤ 1000) :
    Calls Tryd.prog 33 #[.int .i64 (h.R : Int), .slice h.A h.k h.c, rd.v] x fun r z => ∃ h' : HalfD, h'.R = h.R ∧ h'.b = h.b ∧ h'.hg = h.hg ∧ h'.L = addL h.R h.L rd.e ∧ h'.Lst (n + 1) ks ∧ r = .returned (.tuple #[.slice h'.A h'.k h'.c, .int .i64 (addC h.R h.L rd.e)]) ∧ OW w (fr ++ (h.box :: h'.row :: rest)) z := by
  obtain ⟨rA, rc, rB, rdd, rD, rq, re⟩ := rd
  have hS := hL.srt hX (fun o ho => List.mem_append_right _ (.tail _ (.tail _ (hm o ho))))
  have hE : ER.En x ⟨rA, rc, rB, rdd, rD, rq, re⟩ := entO_en hX fun o ho => List.mem_append_right _ (.tail _ (.tail _ (hm o (hd o ho))))
  have hRd : Reads x x.heap.size 7 h.A h.k (h.rs.flatMap ER.cells) := Reads.own (hX.rowm (T := 37) (sz := 7) (List.mem_append_right _ (.tail _ (.head _))))
  refine (radd_any h.R h.L h.rs h.A h.k h.c re rA rc rB rdd rD rq x hR hL.ok hS hRd (Nat.le_trans hL.hk hn) hE).mono ?_
  rintro r z (⟨h0, A', c', rfl, ho⟩ | ⟨h0, rfl, hb⟩)
  · refine ⟨{ h with L := h.L ++ [re], rs := h.rs ++ [⟨rA, rc, rB, rdd, rD, rq, re⟩], A := A', k := h.k + 1, c := c' }, rfl, rfl, rfl, ?_, ⟨?_, ?_, ?_, ?_⟩, ?_, ?_⟩
    · show h.L ++ [re] = addL h.R h.L re
      unfold addL; rw [if_pos h0]
    · show (h.rs ++ [(⟨rA, rc, rB, rdd, rD, rq, re⟩ : ER)]).map ER.e = _
      rw [List.map_append, hL.ents]; rfl
    · intro r' hr' o' ho'
      rcases List.mem_append.1 hr' with h1 | h1
      · exact hL.en r' h1 o' ho'
      · rw [List.mem_singleton.1 h1] at ho'
        exact hd o' ho'
    · show (buildK h.R [] (h.L ++ [re])).1 = 0
      rw [build_snoc hL.ok]; exact h0
    · exact Nat.succ_le_succ hL.hk
    · show _ = Ending.returned (.tuple #[.slice A' (h.k + 1) c', .int .i64 (addC h.R h.L re)])
      rw [h0]
    · have h9 := hX.app ho
      refine OW.left (ps := [h.row]) (h9.perm ?_)
      unfold HalfD.row HalfD.box
      (refine perm_of_cnt fun a => ?_; (simp only [cntO_app, cntO_cons, cntO_nil]) <;> omega)
  · refine ⟨h, rfl, rfl, rfl, ?_, hL.sub (Nat.le_succ _) (fun _ h => h), rfl, hX.later hb⟩
    unfold addL; rw [if_neg h0]
theorem SlB.le {o : Ob} {A : Option Addr} {n m cap : Nat} (h : SlB o A n cap) (hm : m ≤ n) : SlB o A m cap := fun w x os i hX hi mk => by
  obtain ⟨o', h1, h2⟩ := h w x os i hX hi mk
  refine ⟨o', h1, ?_⟩
  rcases h2 with ⟨h3, h4, h5⟩ | ⟨g, c, h3, h4⟩
  · exact .inl ⟨h3, by omega, h5⟩
  · exact .inr ⟨g, c, h3, by first | exact h4 | (obtain ⟨k1, k2⟩ := h4; exact ⟨by omega, k2⟩)⟩
end Go.Proofs.YtmigjipfomfacaaDoor
namespace Go.Proofs.YtmigjipfomfacaaDoor
open Go.RowKit
structure Made (w : World) (g : Nat) (rs : List ER) : Prop where
  lt : g < w.heap.size
  at_ : ∀ j r, (rs ++ List.replicate 9 markR)[j]? = some r → w.rangeAt g (j * 7) r.cells
  en : ∀ r, r ∈ rs → EnM w r.A r.e.row.length r.c r.B r.e.qual.length r.d r.D r.e.val.length r.q r.e
theorem Made.later {w x : World} {g : Nat} {rs : List ER} (h : Made w g rs) (hb : Below w.heap.size w x) : Made x g rs :=
  ⟨Nat.lt_of_lt_of_le h.lt hb.size, fun j r hj k v hk => (hb.cell (p := ⟨g, _, none⟩) h.lt).trans (h.at_ j r hj k v hk), fun r hr => (h.en r hr).later hb⟩
theorem OW.made {w z : World} {os : List Ob} {g n mc i : Nat} {rs : List ER} {es : List Ent} (h : OW w os z) (hi : os[i]? = some (listO g n 9 mc rs)) (hm : ∀ o, o ∈ rs.flatMap entR → o ∈ os) (he : rs.map ER.e = es.map cut5) : Made z g rs := by
  obtain ⟨g', cap, hv, _, hlt, _, _⟩ := own_form (h.row hi) (show 0 < n + 9 by omega)
  injection hv with hv _ _
  injection hv with hv
  injection hv with hv _ _
  subst hv
  refine ⟨hlt, fun j r hj => OW.rowRange h hi hj, fun r hr => ?_⟩
  have h5 : ∃ e, r.e = cut5 e := by
    have h6 : r.e ∈ rs.map ER.e := List.mem_map_of_mem hr
    rw [he] at h6
    obtain ⟨e, _, h7⟩ := List.mem_map.1 h6
    exact ⟨e, h7.symm⟩
  obtain ⟨e, h5⟩ := h5
  have h8 := cut5_le e
  rw [← h5] at h8
  exact entO_enM h (fun o ho => hm o (List.mem_flatMap.2 ⟨r, hr, ho⟩)) h8.1 h8.2.1 h8.2.2
set_option maxRecDepth 100000 in
set_option maxHeartbeats 4000000 in
theorem listStands_any (rs ds : List ER) (g h n mc md : Nat) (w : World) (hw : Made w g rs) (hd : Made w h ds) (he : rs.map ER.e = ds.map ER.e) (hl : rs.length = n) (hn : n ≤ 1000) (hc : n + 9 ≤ mc) (_hc2 : n + 9 ≤ md) :
    Calls Tryd.prog 39 #[.slice (some ⟨g, 0, none⟩) n mc, .slice (some ⟨h, 0, none⟩) n md] w fun r z => r = .returned (.bool true) ∧ Below w.heap.size w z := by
  have HW : Hid (∀ z, Below w.heap.size w z → Made z g rs) := Lib.hid fun z hz => hw.later hz
  have HD : Hid (∀ z, Below w.heap.size w z → Made z h ds) := Lib.hid fun z hz => hd.later hz
  have HL := Lib.hid hl
  have HE := Lib.hid he
  have hcI : (n : Int) + 1 ≤ (mc : Int) := by omega
  have hcN : n + 1 ≤ mc := by omega
  have HC : Hid (∀ z, Below w.heap.size w z → z.cell? ⟨g, n * 7 + 1, none⟩ = some (.int .i64 (-31))) := Lib.hid fun z hz => by
    have h1 := (HW.out z hz).at_ n markR (by rw [List.getElem?_append_right (by omega), hl, Nat.sub_self]; rfl)
    exact h1 1 _ rfl
  clear hw hd hl he
  have HX := Lib.hid (Below.refl w.heap.size w)
  go_enter Tryd.func39, Tryd.ntmps39
  go_wp2_with (first
    | (refine wpList_load_cell rfl 3 (.tmp 20) rfl rfl (HC.out _ HX.out) (fun w => Tryd.isAgg3 w) ?_))
  go_loopw [6] (fun iv wr => ∃ i : Nat, i ≤ n ∧ iv = .int .i64 i ∧ Hid (Below w.heap.size w wr)) (fun iv _ => n - (intOf iv).toNat)
  case atStart => exact ⟨0, Nat.zero_le _, rfl, HX⟩
  case round =>
    clear HX
    obtain ⟨i, hin, rfl, HX⟩ := hrel
    by_cases hlt : i < n
    case neg =>
      have hd3 : decide ((i : Int) < (n : Int)) = false := decide_eq_false (by omega)
      go_wp2_with fail
      go_ret
      exact ⟨rfl, HX.out⟩
    have hd3 : decide ((i : Int) < (n : Int)) = true := decide_eq_true (by omega)
    have hd4 : i < n := hlt
    have hd5 : i < n + 1 := by omega
    have i1 : (0 : Int) ≤ (i : Int) := by omega
    have i2 : (i : Int) < (n : Int) := by omega
    obtain ⟨a, ha⟩ : ∃ a, rs[i]? = some a := ⟨_, List.getElem?_eq_getElem (by have := HL.out; omega)⟩
    obtain ⟨p, hp, hpe⟩ : ∃ p, ds[i]? = some p ∧ p.e = a.e := by
      have h1 : (ds.map ER.e)[i]? = some a.e := by rw [← HE.out, List.getElem?_map, ha]; rfl
      rw [List.getElem?_map] at h1
      cases h2 : ds[i]? with
      | none => rw [h2] at h1; cases h1
      | some p => rw [h2] at h1; injection h1 with h1; exact ⟨p, rfl, h1⟩
    obtain ⟨Ar, ac, B, d, D, q, e⟩ := a
    obtain ⟨Ap, ap, Bp, dp, Dp, qp, e'⟩ := p
    obtain rfl : e' = e := hpe
    have HRA : Hid (∀ z, Below w.heap.size w z → z.rangeAt g (i * 7) [.slice Ar e'.row.length ac, .int .i64 e'.fam, .slice B e'.qual.length d, .int .i64 e'.ts, .int .i64 e'.seq, .int .i64 e'.kind, .slice D e'.val.length q] ∧ EnM z Ar e'.row.length ac B e'.qual.length d D e'.val.length q e') := Lib.hid fun z hz => ⟨(HW.out z hz).at_ i ⟨Ar, ac, B, d, D, q, e'⟩ (by rw [List.getElem?_append_left (List.getElem?_eq_some_iff.1 ha).1]; exact ha), (HW.out z hz).en _ (List.mem_of_getElem? ha)⟩
    have HRD : Hid (∀ z, Below w.heap.size w z → z.rangeAt h (i * 7) [.slice Ap e'.row.length ap, .int .i64 e'.fam, .slice Bp e'.qual.length dp, .int .i64 e'.ts, .int .i64 e'.seq, .int .i64 e'.kind, .slice Dp e'.val.length qp] ∧ En z Ap e'.row.length ap Bp e'.qual.length dp Dp e'.val.length qp e') := Lib.hid fun z hz => ⟨(HD.out z hz).at_ i ⟨Ap, ap, Bp, dp, Dp, qp, e'⟩ (by rw [List.getElem?_append_left (List.getElem?_eq_some_iff.1 hp).1]; exact hp), ((HD.out z hz).en _ (List.mem_of_getElem? hp)).en⟩
    clear ha hp hlt
    go_upto_region 7 with fail
    refine lt_start [] (by kernel_rfl) ?_
    intro xd hd
    refine ⟨fun z => Below w.heap.size w z, ?_⟩
    have HS := Lib.hid (below_up HX.out hd)
    refine lt_pure 0 rfl (by kernel_rfl) (by kernel_rfl) (by kernel_rfl) (by kernel_rfl) (fun _ _ _ h => h) (v := ?_) (yi_run rfl (fun w => ?_)) (fun _ => HS.out) ?_
    rotate_left
    · first | (go_simp; done) | (go_simp; with_reducible rfl)
    simp only [Act.put, List.setIfInBounds_toArray, List.set_cons_zero, List.set_cons_succ]
    refine lt_pure 1 rfl (by kernel_rfl) (by kernel_rfl) (by kernel_rfl) (by kernel_rfl) (fun _ _ _ h => h) (v := ?_) (yi_run rfl (fun w => ?_)) (fun _ => HS.out) ?_
    rotate_left
    · first | (go_simp; done) | (go_simp; with_reducible rfl)
    simp only [Act.put, List.setIfInBounds_toArray, List.set_cons_zero, List.set_cons_succ]
    refine lt_pure 2 rfl (by kernel_rfl) (by kernel_rfl) (by kernel_rfl) (by kernel_rfl) (fun _ _ _ h => h) (v := ?_) (yi_run rfl (fun w => ?_)) (fun _ => HS.out) ?_
    rotate_left
    · first | (go_simp; done) | (go_simp; with_reducible rfl)
    simp only [Act.put, List.setIfInBounds_toArray, List.set_cons_zero, List.set_cons_succ]
    refine lt_take 3 [8, 9, 10, 11, 12, 13, 14, 15, 16, 17, 18, 19, 20, 21] rfl (by kernel_rfl) (by kernel_rfl) (by kernel_rfl) (by kernel_rfl) (by kernel_rfl) (fun _ _ _ h => h) (yi_rowO rfl rfl rfl (fun w hS => (HRA.out _ hS).1) ent_rowM) HS.out ?_
    simp only [Act.put, List.setIfInBounds_toArray, List.set_cons_zero, List.set_cons_succ]
    refine lt_pure 4 rfl (by kernel_rfl) (by kernel_rfl) (by kernel_rfl) (by kernel_rfl) (fun _ _ _ h => h) (v := ?_) (yi_run rfl (fun w => ?_)) (fun _ => HS.out) ?_
    rotate_left
    · first | (go_simp; done) | (go_simp; with_reducible rfl)
    simp only [Act.put, List.setIfInBounds_toArray, List.set_cons_zero, List.set_cons_succ]
    refine lt_pure 5 rfl (by kernel_rfl) (by kernel_rfl) (by kernel_rfl) (by kernel_rfl) (fun _ _ _ h => h) (v := ?_) (yi_run rfl (fun w => ?_)) (fun _ => HS.out) ?_
    rotate_left
    · first | (go_simp; done) | (go_simp; with_reducible rfl)
    simp only [Act.put, List.setIfInBounds_toArray, List.set_cons_zero, List.set_cons_succ]
    refine lt_pure 6 rfl (by kernel_rfl) (by kernel_rfl) (by kernel_rfl) (by kernel_rfl) (fun _ _ _ h => h) (v := ?_) (yi_run rfl (fun w => ?_)) (fun _ => HS.out) ?_
    rotate_left
    · first | (go_simp; done) | (go_simp; with_reducible rfl)
    simp only [Act.put, List.setIfInBounds_toArray, List.set_cons_zero, List.set_cons_succ]
    refine lt_take 7 [8, 9, 10, 11, 12, 13, 14, 15, 16, 17, 18, 19, 20, 21] rfl (by kernel_rfl) (by kernel_rfl) (by kernel_rfl) (by kernel_rfl) (by kernel_rfl) (fun _ _ _ h => h) (yi_rowO rfl rfl rfl (fun w hS => (HRD.out _ hS).1) ent_rowM) HS.out ?_
    simp only [Act.put, List.setIfInBounds_toArray, List.set_cons_zero, List.set_cons_succ]
    refine lt_call 8 rfl (by kernel_rfl) rfl rfl ⟨_, Tryd.func15, by decide, by kernel_rfl⟩ [entV Ar e'.row.length ac B e'.qual.length d D e'.val.length q e', entV Ap e'.row.length ap Bp e'.qual.length dp Dp e'.val.length qp e'] rfl ?_
    refine (sameEntry_any e' e' Ar _ ac B _ d D _ q Ap _ ap Bp _ dp Dp _ qp _ rfl (HRA.out _ HS.out).2.en (HRD.out _ HS.out).2).mono ?_
    rintro rr z9 ⟨rfl, hb⟩
    replace HS := Lib.hid (below_up HS.out hb)
    clear hb
    refine ⟨_, rfl, fun _ => HS.out, ?_⟩
    simp only [Act.put, List.setIfInBounds_toArray, List.set_cons_zero, List.set_cons_succ]
    refine lt_pure 9 rfl (by kernel_rfl) (by kernel_rfl) (by kernel_rfl) (by kernel_rfl) (fun _ _ _ h => h) (v := ?_) (yi_run rfl (fun w => ?_)) (fun _ => HS.out) ?_
    rotate_left
    · first | (go_simp; done) | (go_simp; with_reducible rfl)
    simp only [Act.put, List.setIfInBounds_toArray, List.set_cons_zero, List.set_cons_succ]
    refine lt_pure 10 rfl (by kernel_rfl) (by kernel_rfl) (by kernel_rfl) (by kernel_rfl) (fun _ _ _ h => h) (v := ?_) (yi_run rfl (fun w => ?_)) (fun _ => HS.out) ?_
    rotate_left
    · first | (go_simp; done) | (go_simp; with_reducible rfl)
    simp only [Act.put, List.setIfInBounds_toArray, List.set_cons_zero, List.set_cons_succ]
    refine lt_pure 11 rfl (by kernel_rfl) (by kernel_rfl) (by kernel_rfl) (by kernel_rfl) (fun _ _ _ h => h) (v := ?_) (yi_run rfl (fun w => ?_)) (fun _ => HS.out) ?_
    rotate_left
    · first | (go_simp; done) | (go_simp; with_reducible rfl)
    simp only [Act.put, List.setIfInBounds_toArray, List.set_cons_zero, List.set_cons_succ]
    refine lt_pure 12 rfl (by kernel_rfl) (by kernel_rfl) (by kernel_rfl) (by kernel_rfl) (fun _ _ _ h => h) (v := ?_) (yi_run rfl (fun w => ?_)) (fun _ => HS.out) ?_
    rotate_left
    · first | (go_simp; done) | (go_simp; with_reducible rfl)
    simp only [Act.put, List.setIfInBounds_toArray, List.set_cons_zero, List.set_cons_succ]
    refine lt_pure 13 rfl (by kernel_rfl) (by kernel_rfl) (by kernel_rfl) (by kernel_rfl) (fun _ _ _ h => h) (v := ?_) (yi_run rfl (fun w => ?_)) (fun _ => HS.out) ?_
    rotate_left
    · first | (go_simp; done) | (go_simp; with_reducible rfl)
    simp only [Act.put, List.setIfInBounds_toArray, List.set_cons_zero, List.set_cons_succ]
    refine lt_take 14 [19, 20, 21] rfl (by kernel_rfl) (by kernel_rfl) (by kernel_rfl) (by kernel_rfl) (by kernel_rfl) (fun _ _ _ h => h) (yi_rowO rfl rfl rfl (fun w hS => (HRA.out _ hS).1) ent_rowM) HS.out ?_
    simp only [Act.put, List.setIfInBounds_toArray, List.set_cons_zero, List.set_cons_succ]
    refine lt_pure 15 rfl (by kernel_rfl) (by kernel_rfl) (by kernel_rfl) (by kernel_rfl) (fun _ _ _ h => h) (v := ?_) (yi_run rfl (fun w => ?_)) (fun _ => HS.out) ?_
    rotate_left
    · first | (go_simp; done) | (go_simp; with_reducible rfl)
    simp only [Act.put, List.setIfInBounds_toArray, List.set_cons_zero, List.set_cons_succ]
    refine lt_pure 16 rfl (by kernel_rfl) (by kernel_rfl) (by kernel_rfl) (by kernel_rfl) (fun _ _ _ h => h) (v := ?_) (yi_run rfl (fun w => ?_)) (fun _ => HS.out) ?_
    rotate_left
    · first | (go_simp; done) | (go_simp; with_reducible rfl)
    simp only [Act.put, List.setIfInBounds_toArray, List.set_cons_zero, List.set_cons_succ]
    refine lt_pure 17 rfl (by kernel_rfl) (by kernel_rfl) (by kernel_rfl) (by kernel_rfl) (fun _ _ _ h => h) (v := ?_) (yi_run rfl (fun w => ?_)) (fun _ => HS.out) ?_
    rotate_left
    · first | (go_simp; done) | (go_simp; with_reducible rfl)
    simp only [Act.put, List.setIfInBounds_toArray, List.set_cons_zero, List.set_cons_succ]
    refine lt_take 18 [19, 20, 21] rfl (by kernel_rfl) (by kernel_rfl) (by kernel_rfl) (by kernel_rfl) (by kernel_rfl) (fun _ _ _ h => h) (yi_rowO rfl rfl rfl (fun w hS => (HRD.out _ hS).1) ent_rowM) HS.out ?_
    simp only [Act.put, List.setIfInBounds_toArray, List.set_cons_zero, List.set_cons_succ]
    refine lt_call 19 rfl (by kernel_rfl) rfl rfl ⟨_, Tryd.func34, by decide, by kernel_rfl⟩ [entV Ar e'.row.length ac B e'.qual.length d D e'.val.length q e', entV Ap e'.row.length ap Bp e'.qual.length dp Dp e'.val.length qp e'] rfl ?_
    refine (stands_any e' Ar _ ac B _ d D _ q Ap ap Bp dp Dp qp _ (HRA.out _ HS.out).2 (HRD.out _ HS.out).2).mono ?_
    rintro rr z9 ⟨rfl, hb⟩
    replace HS := Lib.hid (below_up HS.out hb)
    clear hb
    refine ⟨_, rfl, fun _ => HS.out, ?_⟩
    simp only [Act.put, List.setIfInBounds_toArray, List.set_cons_zero, List.set_cons_succ]
    refine lt_pure 20 rfl (by kernel_rfl) (by kernel_rfl) (by kernel_rfl) (by kernel_rfl) (fun _ _ _ h => h) (v := ?_) (yi_run rfl (fun w => ?_)) (fun _ => HS.out) ?_
    rotate_left
    · first | (go_simp; done) | (go_simp; with_reducible rfl)
    simp only [Act.put, List.setIfInBounds_toArray, List.set_cons_zero, List.set_cons_succ]
    refine lt_pure 21 rfl (by kernel_rfl) (by kernel_rfl) (by kernel_rfl) (by kernel_rfl) (fun _ _ _ h => h) (v := ?_) (yi_run rfl (fun w => ?_)) (fun _ => HS.out) ?_
    rotate_left
    · first | (go_simp; done) | (go_simp; with_reducible rfl)
    simp only [Act.put, List.setIfInBounds_toArray, List.set_cons_zero, List.set_cons_succ]
    refine lt_done (by kernel_rfl) ?_
    have HS9 := HS
    clear HS
    go_wp2_with fail
    go_roundw
    case rel => exact ⟨i + 1, by omega, by go_num, HS9⟩
    case measure => simp [intOf]; omega
end Go.Proofs.YtmigjipfomfacaaDoor
namespace Go.Proofs.YtmigjipfomfacaaDoor
open Go.RowKit
def Bk5 (R : Nat) (L : List Ent) (g : Nat) (os : List Ob) : Prop := ∃ lv kv zs, os = blkO R g lv kv zs ∧ entsZ zs = L ∧ ZOk zs
def OpenP (b : List UInt8) (w : World) (e : Ending) (z : World) : Prop :=
  (∃ L g os, (openE b).1 = some L ∧ e = .returned (.tuple #[.pointer (some ⟨g, 0, none⟩), .int .i64 0]) ∧ Bk5 (resB b) L g os ∧ OW w os z) ∨
  ((openE b).1 = none ∧ e = .returned (.tuple #[.pointer none, .int .i64 (openE b).2]) ∧ Below w.heap.size w z)
theorem open_no {b : List UInt8} {w z : World} {k : Int} (h : openE b = (none, k)) (hb : Below w.heap.size w z) : OpenP b w (.returned (.tuple #[.pointer none, .int .i64 k])) z :=
  .inr ⟨by rw [h], by rw [h], hb⟩
theorem blk_ens {w x : World} {R g : Nat} {lv kv : Value} {zs : List ZR} {rest : List Ob} (h : OW w (blkO R g lv kv zs ++ rest) x) : ∃ A c, lv = .slice A zs.length c ∧ Ens x A zs.length (entsZ zs) := by
  obtain ⟨A, c, rfl, _⟩ := own_slice (h.row (i := 1) rfl)
  refine ⟨A, c, rfl, zs.map (·.1), by unfold entsZ; rw [List.map_map]; rfl, ?_, fun r hr => ?_⟩
  · have h1 := Reads.own (h.row (i := 1) rfl)
    have e : zs.flatMap (·.1.cells) = (zs.map (·.1)).flatMap ER.cells := by rw [List.flatMap_map]
    rw [e] at h1
    exact h1
  · obtain ⟨z, hz, rfl⟩ := List.mem_map.1 hr
    refine ⟨h.slm (T := 5) (List.mem_append_left _ (rowZ_mem hz (by simp [rowsZ]))) rfl, h.slm (T := 5) (List.mem_append_left _ (rowZ_mem hz (by simp [rowsZ]))) rfl, h.slm (T := 5) (List.mem_append_left _ (rowZ_mem hz (by simp [rowsZ]))) rfl⟩
theorem openR_zero {b : List UInt8} (h : resB b = 0) (r : Option (List Ent × List UInt8 × Nat)) : openR b r = (none, 51) := by
  cases r with
  | none => rfl
  | some r =>
    unfold openR
    simp only []
    rw [if_neg]
    rw [h]
    intro e
    unfold buildE5 at e
    rw [if_pos (.inl (by decide))] at e
    injection e with _ e
    cases e
theorem ReadP.form {w z : World} {R g N : Nat} {rest : List Ob} {b : List UInt8} {e : Ending} (h : ReadP w R g rest b N e z) : ∃ lv kv zs bo, e = .returned (.bool bo) ∧ OW w (blkO R g lv kv zs ++ rest) z ∧ ZOk zs ∧ (bo = true → ∃ key a, rdF b N = some (entsZ zs, key, a)) ∧ (bo = false → rdF b N = none) := by
  obtain ⟨lv, kv, zs, h1, h2, ⟨key, a, h3, h4⟩ | ⟨h3, h4⟩⟩ := h
  · exact ⟨lv, kv, zs, true, h4, h1, h2, (fun _ => ⟨key, a, h3⟩), fun h => by cases h⟩
  · exact ⟨lv, kv, zs, false, h4, h1, h2, (fun h => by cases h), fun _ => h3⟩
set_option maxRecDepth 100000 in
set_option maxHeartbeats 4000000 in
theorem open_any (b : List UInt8) (A : Option Addr) (n c : Nat) (w : World) (hs : Sl w A n c b) (ht : TabAt 0 w) :
    Calls Tryd.prog 12 #[.slice A n c] w (OpenP b w) := by
  have HL := Lib.hid hs.rb.len
  by_cases h1 : 131072 < n
  case pos =>
    have HP : Hid (openE b = (none, 2)) := Lib.hid (by unfold openE; rw [if_pos (by rw [HL.out]; exact h1)])
    have hd : decide ((n : Int) > 131072) = true := decide_eq_true (by omega)
    clear hs ht
    go_enter Tryd.func12, Tryd.ntmps12
    go_wp2_with fail
    go_ret2
    exact open_no HP.out (Below.refl _ _)
  have hd1 : decide ((n : Int) > 131072) = false := decide_eq_false (by omega)
  by_cases h2 : n < 9
  case pos =>
    have HP : Hid (openE b = (none, 51)) := Lib.hid (by unfold openE; rw [if_neg (by rw [HL.out]; exact h1), if_pos (by rw [HL.out]; exact h2)])
    have hd : decide ((n : Int) < 9) = true := decide_eq_true (by omega)
    clear hs ht
    go_enter Tryd.func12, Tryd.ntmps12
    go_wp2_with fail
    go_ret2
    exact open_no HP.out (Below.refl _ _)
  have hd2 : decide ((n : Int) < 9) = false := decide_eq_false (by omega)
  have HSM : Hid (∀ z, Below w.heap.size w z → Calls Tryd.prog 44 #[.slice A n c] z fun e w' => e = .returned (.bool (sumOkB b)) ∧ Below z.heap.size z w') := Lib.hid fun z hz => by
    unfold sumOkB
    rw [HL.out]
    exact summed_any b A n c z (hs.later hz) (by omega) (ht.later hz)
  cases h3 : sumOkB b with
  | false =>
    have HP : Hid (openE b = (none, 52)) := Lib.hid (by unfold openE; rw [if_neg (by rw [HL.out]; exact h1), if_neg (by rw [HL.out]; exact h2), if_pos h3])
    rw [h3] at HSM
    clear hs ht h3
    go_enter Tryd.func12, Tryd.ntmps12
    go_wp2_with (go_at_call 44; go_must (refine (HSM.out _ (Below.refl _ _)).mono ?_); rintro e z1 ⟨rfl, hb⟩; have HB := Lib.hid hb; clear hb)
    go_ret2
    exact open_no HP.out HB.out
  | true =>
  rw [h3] at HSM
  obtain ⟨k, rfl⟩ : ∃ k, n = k + 9 := ⟨n - 9, by omega⟩
  have HPE : Hid (openE b = openR b (rdF (b.take k) (cntB b))) := Lib.hid (by
    unfold openE
    rw [if_neg (by rw [HL.out]; exact h1), if_neg (by rw [HL.out]; exact h2), if_neg (by rw [h3]; decide), HL.out]; rfl)
  obtain ⟨N, hN⟩ : ∃ z, z = cntB b := ⟨_, rfl⟩
  obtain ⟨r, hr⟩ : ∃ z, z = resB b := ⟨_, rfl⟩
  have hN32 : N < 4294967296 := by rw [hN]; exact numF_lt _ _
  have hr8 : r ≤ 255 := by rw [hr]; unfold resB; have := (b[b.length - 5]?.getD 0).toNat_lt; omega
  obtain ⟨b1, o1, _, rfl, hbl, _, _⟩ := hs.rb.at_ (show 0 < k + 9 by omega)
  have HSL : Hid (∀ z, Below w.heap.size w z → Sl z (some ⟨b1, o1, none⟩) (k + 9) c b) := Lib.hid fun z hz => hs.later hz
  have HTK : Hid (∀ z, Below w.heap.size w z → Sl z (some ⟨b1, o1, none⟩) k c (b.take k)) := Lib.hid fun z hz => (hs.later hz).take (by omega)
  have HTB : Hid (∀ z, Below w.heap.size w z → TabAt 0 z) := Lib.hid fun z hz => ht.later hz
  have HCE : Hid (∀ i, i < 9 → ∀ z, Below w.heap.size w z → z.cell? ⟨b1, o1 + (k + i), none⟩ = some (.int .u8 ((b[k + i]?.getD 0).toNat : Int))) := Lib.hid fun i hi z hz =>
    (hs.later hz).rb.cell (k := k + i) (by rw [List.getElem?_eq_getElem (by have := HL.out; omega)]; rfl)
  have HM : Hid (bits .or .i64 (bits .or .i64 (bits .or .i64 (wrap64 (wrap64 ((b[k]?.getD 0).toNat : Int) * 16777216)) (wrap64 (wrap64 ((b[k + 1]?.getD 0).toNat : Int) * 65536))) (wrap64 (wrap64 ((b[k + 2]?.getD 0).toNat : Int) * 256))) (wrap64 ((b[k + 3]?.getD 0).toNat : Int)) = (N : Int)) := Lib.hid (by
    rw [numB_walk, hN]; unfold cntB; rw [HL.out]; rfl)
  have HR4 : Hid (((b[k + 4]?.getD 0).toNat : Int) = (r : Int)) := Lib.hid (by rw [hr]; unfold resB; rw [HL.out]; rfl)
  have hcap := hs.cap
  have hlim := hs.lim
  have c4 := HCE.out 4 (by omega) w (Below.refl _ _)
  rw [HR4.out] at c4
  have HN := Lib.hid hN
  have HR := Lib.hid hr
  have hk1 : k ≤ 131063 := by omega
  clear hs ht h3 hN hr hd1 hd2 h1 h2
  have hd1 : decide ((k : Int) + 9 > 131072) = false := decide_eq_false (by omega)
  have hd2 : decide ((k : Int) + 9 < 9) = false := decide_eq_false (by omega)
  go_enter Tryd.func12, Tryd.ntmps12
  go_upto_region 7 with (first
    | (go_at_call 44; go_must (refine (HSM.out _ (Below.refl _ _)).mono ?_); rintro e z1 ⟨rfl, hb⟩; have HB := Lib.hid hb; have HX0 := Lib.hid ((OW.nil w).later hb); have c4 := HCE.out 4 (by omega) z1 HB.out; rw [HR4.out] at c4; clear hb))
  have i1 : (0 : Int) ≤ (k : Int) + 4 := by omega
  have i2 : ((k : Int) + 4).toNat = k + 4 := by omega
  have i3 : (0 : Int) ≤ (k : Int) := by omega
  have i4 : (k : Int) ≤ (c : Int) := by omega
  have i5 : (k : Int) ≤ (k : Int) + 9 := by omega
  go_wp2_with (first
    | (refine wl_box rfl (.tmp 28) rfl [.int .i64 (r : Int), .slice none 0 0, .slice none 0 0] rfl HX0.out ?_; intro g x1 hz _; have HX := Lib.hid ((hz.nilRow 37 7).nilRow 24 1); clear hz HX0))
  have c0 := HCE.out 0 (by omega) x1 HX.out.up
  have c1 := HCE.out 1 (by omega) x1 HX.out.up
  have c2 := HCE.out 2 (by omega) x1 HX.out.up
  have c3 := HCE.out 3 (by omega) x1 HX.out.up
  rw [Nat.add_zero] at c0
  rw [← Nat.add_assoc] at c1 c2 c3
  clear c4 i1 i2 i5
  go_quiet (fail)
  rw [HM.out]
  have HXB : Hid (OW w (blkO r g (.slice none 0 0) (.slice none 0 0) [] ++ []) (x1.drewN nq)) := Lib.hid (by
    have h := HX.out.later (below_drewN (n := nq) (Below.refl _ _))
    exact h)
  clear c0 c1 c2 c3 HX HM HCE
  generalize x1.drewN nq = x2 at *
  by_cases hr0 : r = 0
  case pos =>
    have HP : Hid (openE b = (none, 51)) := Lib.hid (by rw [HPE.out]; exact openR_zero (by rw [← HR.out]; exact hr0) _)
    have hd0 : ((r : Int) == 0) = true := by rw [hr0]; rfl
    clear hr0
    go_wp2_with (refine wpList_load_cell rfl 3 (.tmp 59) rfl rfl (show _ = some (Value.int .i64 (r : Int)) from HXB.out.cell (i := 0) (j := 0) rfl rfl) (fun w => Tryd.isAgg3 w) ?_)
    go_ret2
    exact open_no HP.out HXB.out.up
  have hd0 : ((r : Int) == 0) = false := beq_eq_false_iff_ne.2 (by omega)
  clear hr0
  go_upto_if 72 with (first
    | (refine wpList_load_cell rfl 3 (.tmp 59) rfl rfl (show _ = some (Value.int .i64 (r : Int)) from HXB.out.cell (i := 0) (j := 0) rfl rfl) (fun w => Tryd.isAgg3 w) ?_)
    | (go_at_call 45; go_must (refine (read_any (R := r) (g := g) (rest := []) HXB.out (b.take k) _ k c N (by omega) hN32 HTK.out).mono ?_); intro e z3 hp; obtain ⟨lv, kv, zs, bo, rfl, hx, hz, ht, hf⟩ := hp.form; have HX3 := Lib.hid hx; have HZ := Lib.hid hz; have HBT := Lib.hid ht; have HBF := Lib.hid hf; clear hp hx hz ht hf HXB))
  cases bo with
  | false =>
    have HP : Hid (openE b = (none, 51)) := Lib.hid (by rw [HPE.out, ← HN.out, HBF.out rfl]; rfl)
    go_wp2_with fail
    go_ret2
    exact open_no HP.out HX3.out.up
  | true =>
  obtain ⟨LA, lc, rfl, _⟩ := blk_ens HX3.out
  obtain ⟨L, hL⟩ : ∃ z, z = entsZ zs := ⟨_, rfl⟩
  obtain ⟨m, hm⟩ : ∃ z, z = zs.length := ⟨_, rfl⟩
  obtain ⟨B, be, hB⟩ : ∃ B be, buildE5 (r : Int) L = (B, be) := ⟨_, _, rfl⟩
  have HPQ : Hid (openE b = if (B, be) = (b, 0) then (some L, 0) else (none, 51)) := Lib.hid (by
    obtain ⟨key, a, h⟩ := HBT.out rfl
    rw [HPE.out, ← HN.out, h, ← hB, hL, HR.out]; rfl)
  have HEN : Hid (∀ z, OW w (blkO r g (.slice LA m lc) kv zs ++ []) z → Ens z LA m L) := Lib.hid fun z hz => by
    rw [hm] at hz
    obtain ⟨A', c', e', h⟩ := blk_ens hz
    injection e' with e1 e2 e3
    rw [hm, hL, e1]; exact h
  have HX4 : Hid (OW w (blkO r g (.slice LA m lc) kv zs ++ []) z3) := Lib.hid (by rw [hm]; exact HX3.out)
  obtain ⟨bn, hbn⟩ : ∃ z, z = B.length := ⟨_, rfl⟩
  have HBN := Lib.hid hbn.symm
  have HB := Lib.hid hB
  have hmb : m ≤ 4294967296 := by
    obtain ⟨key, a, h⟩ := HBT.out rfl
    have h1 := rdF_len h
    unfold entsZ at h1
    rw [List.length_map] at h1
    omega
  have HL3 := Lib.hid hL
  have HM3 := Lib.hid hm
  clear hB hL hm hbn HX3
  go_wp2_with fail
  refine lt_start [] (by kernel_rfl) ?_
  intro xd hd
  refine ⟨fun z => OW w (blkO r g (.slice LA m lc) kv zs ++ []) z, ?_⟩
  have HS := Lib.hid (HX4.out.later hd)
  refine lt_pure 0 rfl (by kernel_rfl) (by kernel_rfl) (by kernel_rfl) (by kernel_rfl) (fun _ _ _ h => h) (v := ?_) (yi_run rfl (fun w => ?_)) (fun _ => HS.out) ?_
  rotate_left
  · first | (go_simp; done) | (go_simp; with_reducible rfl)
  simp only [Act.put, List.setIfInBounds_toArray, List.set_cons_zero, List.set_cons_succ]
  refine lt_pure 1 rfl (by kernel_rfl) (by kernel_rfl) (by kernel_rfl) (by kernel_rfl) (fun _ _ _ h => h) (v := ?_) (yi_run rfl (fun w => ?_)) (fun _ => HS.out) ?_
  rotate_left
  · first | (go_simp; done) | (go_simp; with_reducible rfl)
  simp only [Act.put, List.setIfInBounds_toArray, List.set_cons_zero, List.set_cons_succ]
  refine lt_pure 2 rfl (by kernel_rfl) (by kernel_rfl) (by kernel_rfl) (by kernel_rfl) (fun _ _ _ h => h) (v := ?_) (yi_run rfl (fun w => ?_)) (fun _ => HS.out) ?_
  rotate_left
  · first | (go_simp; done) | (go_simp; with_reducible rfl)
  simp only [Act.put, List.setIfInBounds_toArray, List.set_cons_zero, List.set_cons_succ]
  refine lt_take 3 [8, 9, 10, 11, 12, 13] rfl (by kernel_rfl) (by kernel_rfl) (by kernel_rfl) (by kernel_rfl) (by kernel_rfl) (fun _ _ _ h => h) (yi_cell rfl rfl rfl (fun w hS => (show _ = some (Value.int .i64 (r : Int)) from OW.cell hS (i := 0) (j := 0) rfl rfl)) (fun w => Tryd.isAgg3 w)) HS.out ?_
  simp only [Act.put, List.setIfInBounds_toArray, List.set_cons_zero, List.set_cons_succ]
  refine lt_pure 4 rfl (by kernel_rfl) (by kernel_rfl) (by kernel_rfl) (by kernel_rfl) (fun _ _ _ h => h) (v := ?_) (yi_run rfl (fun w => ?_)) (fun _ => HS.out) ?_
  rotate_left
  · first | (go_simp; done) | (go_simp; with_reducible rfl)
  simp only [Act.put, List.setIfInBounds_toArray, List.set_cons_zero, List.set_cons_succ]
  refine lt_pure 5 rfl (by kernel_rfl) (by kernel_rfl) (by kernel_rfl) (by kernel_rfl) (fun _ _ _ h => h) (v := ?_) (yi_run rfl (fun w => ?_)) (fun _ => HS.out) ?_
  rotate_left
  · first | (go_simp; done) | (go_simp; with_reducible rfl)
  simp only [Act.put, List.setIfInBounds_toArray, List.set_cons_zero, List.set_cons_succ]
  refine lt_pure 6 rfl (by kernel_rfl) (by kernel_rfl) (by kernel_rfl) (by kernel_rfl) (fun _ _ _ h => h) (v := ?_) (yi_run rfl (fun w => ?_)) (fun _ => HS.out) ?_
  rotate_left
  · first | (go_simp; done) | (go_simp; with_reducible rfl)
  simp only [Act.put, List.setIfInBounds_toArray, List.set_cons_zero, List.set_cons_succ]
  refine lt_take 7 [8, 9, 10, 11, 12, 13] rfl (by kernel_rfl) (by kernel_rfl) (by kernel_rfl) (by kernel_rfl) (by kernel_rfl) (fun _ _ _ h => h) (yi_cell rfl rfl rfl (fun w hS => OW.cell hS (i := 0) (j := 1) rfl rfl) (fun w => Tryd.isAgg22 w)) HS.out ?_
  simp only [Act.put, List.setIfInBounds_toArray, List.set_cons_zero, List.set_cons_succ]
  refine lt_call 8 rfl (by kernel_rfl) rfl rfl ⟨_, Tryd.func10, by decide, by kernel_rfl⟩ [.int .i64 (r : Int), .slice LA m lc] rfl ?_
  refine (build_any (r : Int) L LA m lc _ (HEN.out _ HS.out) (by omega) (HTB.out _ HS.out.up)).mono ?_
  rw [HB.out]
  intro e z5 hp
  obtain ⟨A5, c5, rfl, ho, _, hb⟩ := hp.at_ HBN.out rfl
  have HO5 := Lib.hid ho
  replace HS := Lib.hid (HS.out.later hb)
  have HD5 := Lib.hid (Below.refl z5.heap.size z5)
  clear hp ho hb
  refine ⟨_, rfl, fun _ => HS.out, ?_⟩
  simp only [Act.put, List.setIfInBounds_toArray, List.set_cons_zero, List.set_cons_succ]
  refine lt_pure 9 rfl (by kernel_rfl) (by kernel_rfl) (by kernel_rfl) (by kernel_rfl) (fun _ _ _ h => h) (v := ?_) (yi_run rfl (fun w => ?_)) (fun _ => HS.out) ?_
  rotate_left
  · first | (go_simp; done) | (go_simp; with_reducible rfl)
  simp only [Act.put, List.setIfInBounds_toArray, List.set_cons_zero, List.set_cons_succ]
  refine lt_pure 10 rfl (by kernel_rfl) (by kernel_rfl) (by kernel_rfl) (by kernel_rfl) (fun _ _ _ h => h) (v := ?_) (yi_run rfl (fun w => ?_)) (fun _ => HS.out) ?_
  rotate_left
  · first | (go_simp; done) | (go_simp; with_reducible rfl)
  simp only [Act.put, List.setIfInBounds_toArray, List.set_cons_zero, List.set_cons_succ]
  refine lt_pure 11 rfl (by kernel_rfl) (by kernel_rfl) (by kernel_rfl) (by kernel_rfl) (fun _ _ _ h => h) (v := ?_) (yi_run rfl (fun w => ?_)) (fun _ => HS.out) ?_
  rotate_left
  · first | (go_simp; done) | (go_simp; with_reducible rfl)
  simp only [Act.put, List.setIfInBounds_toArray, List.set_cons_zero, List.set_cons_succ]
  refine lt_pure 12 rfl (by kernel_rfl) (by kernel_rfl) (by kernel_rfl) (by kernel_rfl) (fun _ _ _ h => h) (v := ?_) (yi_run rfl (fun w => ?_)) (fun _ => HS.out) ?_
  rotate_left
  · first | (go_simp; done) | (go_simp; with_reducible rfl)
  simp only [Act.put, List.setIfInBounds_toArray, List.set_cons_zero, List.set_cons_succ]
  refine lt_pure 13 rfl (by kernel_rfl) (by kernel_rfl) (by kernel_rfl) (by kernel_rfl) (fun _ _ _ h => h) (v := ?_) (yi_run rfl (fun w => ?_)) (fun _ => HS.out) ?_
  rotate_left
  · first | (go_simp; done) | (go_simp; with_reducible rfl)
  simp only [Act.put, List.setIfInBounds_toArray, List.set_cons_zero, List.set_cons_succ]
  refine lt_done (by kernel_rfl) ?_
  have HS5 := HS
  clear HS
  have HX6 := Lib.hid HS5.out
  clear HS5
  have HB6 := HX6.out.up
  by_cases hbe : be = 0
  case neg =>
    have hd9 : (be != 0) = true := bne_iff_ne.2 hbe
    have HP : Hid (openE b = (none, 51)) := Lib.hid (by rw [HPQ.out, if_neg]; intro h; injection h with _ h; exact hbe h)
    clear hbe
    go_wp2_with fail
    go_ret2
    exact open_no HP.out HX6.out.up
  have hd9 : (be != 0) = false := by rw [hbe]; rfl
  have HBE := Lib.hid hbe
  clear hbe
  cases hq : B == b with
  | false =>
    have HP : Hid (openE b = (none, 51)) := Lib.hid (by rw [HPQ.out, if_neg]; intro h; injection h with h _; rw [h] at hq; simp at hq)
    have HQ := Lib.hid hq
    clear hq
    go_wp2_with (go_at_call 46; go_must (refine (equal_any B b _ _ bn _ (k + 9) _ _ (HO5.out.later HD5.out).rb (HSL.out _ HX6.out.up).rb).mono ?_); rw [HQ.out]; rintro e z6 ⟨rfl, rfl⟩)
    go_ret2
    exact open_no HP.out HX6.out.up
  | true =>
    have HP : Hid (openE b = (some L, 0)) := Lib.hid (by rw [HPQ.out, if_pos]; rw [beq_iff_eq] at hq; rw [hq, HBE.out])
    have HQ := Lib.hid hq
    clear hq
    go_wp2_with (go_at_call 46; go_must (refine (equal_any B b _ _ bn _ (k + 9) _ _ (HO5.out.later HD5.out).rb (HSL.out _ HX6.out.up).rb).mono ?_); rw [HQ.out]; rintro e z6 ⟨rfl, rfl⟩)
    go_ret2
    refine .inl ⟨L, g, blkO r g (.slice LA m lc) kv zs, by rw [HP.out], rfl, ?_, ?_⟩
    · rw [← HR.out]; exact ⟨_, _, _, rfl, HL3.out.symm, HZ.out⟩
    · have h := HX6.out; rw [List.append_nil] at h; exact h
end Go.Proofs.YtmigjipfomfacaaDoor
namespace Go.Proofs.YtmigjipfomfacaaDoor
open Go.RowKit
structure BkR (x : World) (R g : Nat) (L : List Ent) : Prop where
  lt : g < x.heap.size
  c0 : x.cell? ⟨g, 0, none⟩ = some (.int .i64 (R : Int))
  c1 : ∃ A c, x.cell? ⟨g, 1, none⟩ = some (.slice A L.length c) ∧ Ens x A L.length L
  c2 : ∃ A c, x.cell? ⟨g, 2, none⟩ = some (.slice A L.length c) ∧ RBs x x.heap.size A L.length (L.map keyE)
theorem BkR.later {x y : World} {R g : Nat} {L : List Ent} (h : BkR x R g L) (hb : Below x.heap.size x y) : BkR y R g L := by
  obtain ⟨h0, h1, ⟨A, c, h2, h3⟩, ⟨B, d, h4, h5⟩⟩ := h
  exact ⟨Nat.lt_of_lt_of_le h0 hb.size, (hb.cell (p := ⟨g, 0, none⟩) h0).trans h1, ⟨A, c, (hb.cell (p := ⟨g, 1, none⟩) h0).trans h2, h3.later hb⟩, ⟨B, d, (hb.cell (p := ⟨g, 2, none⟩) h0).trans h4, h5.later hb⟩⟩
theorem Bk5.reads {w x : World} {R g : Nat} {L : List Ent} {os rest : List Ob} (hb : Bk5 R L g os) (h : OW w (os ++ rest) x) : BkR x R g L := by
  obtain ⟨lv, kv, zs, rfl, rfl, hz⟩ := hb
  obtain ⟨A, c, rfl, he⟩ := blk_ens h
  obtain ⟨B, d, rfl, _⟩ := own_slice (h.row (i := 2) rfl)
  have hl : (entsZ zs).length = zs.length := by unfold entsZ; rw [List.length_map]
  refine ⟨(h.box (i := 0) rfl).2.1, h.cell (i := 0) (j := 0) rfl rfl, ⟨A, c, by rw [hl]; exact h.cell (i := 0) (j := 1) rfl rfl, by rw [hl]; exact he⟩, ⟨B, d, by rw [hl]; exact h.cell (i := 0) (j := 2) rfl rfl, ?_⟩⟩
  rw [hl]
  refine ⟨zs.map (valR ·.2), Reads.own (h.row (i := 2) rfl), by unfold entsZ; simp, fun i k hk => ?_⟩
  unfold entsZ at hk
  rw [List.map_map, List.getElem?_map] at hk
  obtain ⟨z, hzi, hke⟩ := Option.map_eq_some_iff.1 hk
  have hm := List.mem_of_getElem? hzi
  have hkk : z.2.2.2 = k := by rw [(hz z hm).1]; exact hke
  have hsl := h.slm (T := 5) (A := z.2.1) (c := z.2.2.1) (l := z.2.2.2) (List.mem_append_left _ (rowZ_mem hm (by simp [rowsZ]))) rfl
  rw [hkk] at hsl
  exact ⟨z.2.1, z.2.2.1, by rw [List.getElem?_map, hzi]; simp only [Option.map_some, valR]; rw [hkk], hsl.cap, hsl.lim, hsl.nil, hsl.rb⟩
theorem sclip_any (A : Option Addr) (n c : Nat) (w : World) (hc : n ≤ c) (_hl : c ≤ 9223372036854775807) : Calls Tryd.prog 83 #[.slice A n c] w fun e w' => e = .returned (.slice A n n) ∧ w = w' := by
  have i1 : (0 : Int) ≤ (n : Int) := by omega
  have i2 : (n : Int) ≤ (c : Int) := by omega
  go_enter Tryd.func83, Tryd.ntmps83
  go_wp2_with fail
  go_ret
  exact ⟨rfl, rfl⟩
def OwnP (mk : Value → Value) (e : Ent) (w : World) (r : Ending) (x : World) : Prop :=
  ∃ A B D, r = .returned (mk (entV A e.row.length e.row.length B e.qual.length e.qual.length D e.val.length e.val.length e)) ∧ CAt A e.row ∧ CAt B e.qual ∧ CAt D e.val ∧ OW w [clipO A e.row, clipO B e.qual, clipO D e.val] x
theorem OwnP.en {e : Ent} {w x : World} {A B D : Option Addr} (ha : CAt A e.row) (hb : CAt B e.qual) (hd : CAt D e.val) (hn : e.row.length ≤ 9223372036854775807 ∧ e.qual.length ≤ 9223372036854775807 ∧ e.val.length ≤ 9223372036854775807) (h : OW w [clipO A e.row, clipO B e.qual, clipO D e.val] x) : En x A e.row.length e.row.length B e.qual.length e.qual.length D e.val.length e.val.length e :=
  ⟨h.clipSl ha (i := 0) rfl rfl hn.1, h.clipSl hb (i := 1) rfl rfl hn.2.1, h.clipSl hd (i := 2) rfl rfl hn.2.2⟩
theorem ptr3 (g : Nat) : ∀ k : Nat, k < 3 → ∀ w, (Instr.index 118 (.agg #[.pointer (some ⟨g, 0, none⟩), .pointer (some ⟨g, 2, none⟩), .pointer (some ⟨g, 6, none⟩)]) (.int .i64 (k : Int))).run Tryd.prog w = .ok (.pointer (some ⟨g, [0, 2, 6].getD k 0, none⟩)) w := fun k hk w => by
  match k, hk with
  | 0, _ => exact run_index_arr w _ 117 3 _ 0 _ (by kernel_rfl) (by kernel_rfl) (by kernel_rfl) (by decide) rfl
  | 1, _ => exact run_index_arr w _ 117 3 _ 1 _ (by kernel_rfl) (by kernel_rfl) (by kernel_rfl) (by decide) rfl
  | 2, _ => exact run_index_arr w _ 117 3 _ 2 _ (by kernel_rfl) (by kernel_rfl) (by kernel_rfl) (by decide) rfl
set_option maxRecDepth 100000 in
set_option maxHeartbeats 4000000 in
theorem own_any (e : Ent) (A : Option Addr) (n c : Nat) (B : Option Addr) (m d : Nat) (D : Option Addr) (v q : Nat) (w : World) (h : En w A n c B m d D v q e) (hn : n ≤ 140737488355000 ∧ m ≤ 140737488355000 ∧ v ≤ 140737488355000) :
    Calls Tryd.prog 48 #[entV A n c B m d D v q e] w (OwnP (fun v => v) e w) := by
  obtain ⟨hn1, hn2, hn3⟩ := hn
  have HE : Hid (∀ z, Below w.heap.size w z → En z A n c B m d D v q e) := Lib.hid fun z hz => h.later hz
  have HLR := Lib.hid h.row.rb.len
  have HLQ := Lib.hid h.qual.rb.len
  have HLV := Lib.hid h.val.rb.len
  clear h
  have HX := Lib.hid (OW.nil w)
  go_enter Tryd.func48, Tryd.ntmps48
  go_wp2_with (first
    | (refine wl_box rfl (.tmp 0) rfl [.slice A n c, .int .i64 e.fam, .slice B m d, .int .i64 e.ts, .int .i64 e.seq, .int .i64 e.kind, .slice D v q] rfl HX.out ?_; intro gb x1 hz _; replace HX := Lib.hid hz; clear hz)
    | (refine wl_alloc rfl rfl [.slice none 0 0, .int .i64 0, .slice none 0 0, .int .i64 0, .int .i64 0, .int .i64 0, .slice none 0 0] (.inl (by kernel_rfl)) HX.out ?_; intro gr x2 hz _; have HX0 := Lib.hid hz; clear hz HX))
  go_loopw [9] (fun i wr => ∃ k : Nat, k ≤ 3 ∧ i = .int .i64 k ∧ Hid (
    (k = 0 → OW w [boxO gb [.slice A n c, .int .i64 e.fam, .slice B m d, .int .i64 e.ts, .int .i64 e.seq, .int .i64 e.kind, .slice D v q], boxO gr [.slice none 0 0, .int .i64 0, .slice none 0 0, .int .i64 0, .int .i64 0, .int .i64 0, .slice none 0 0]] wr) ∧
    (k = 1 → ∃ A1, CAt A1 e.row ∧ OW w [boxO gb [.slice A1 n n, .int .i64 e.fam, .slice B m d, .int .i64 e.ts, .int .i64 e.seq, .int .i64 e.kind, .slice D v q], boxO gr [.slice none 0 0, .int .i64 0, .slice none 0 0, .int .i64 0, .int .i64 0, .int .i64 0, .slice none 0 0], clipO A1 e.row] wr) ∧
    (k = 2 → ∃ A1 B1, CAt A1 e.row ∧ CAt B1 e.qual ∧ OW w [boxO gb [.slice A1 n n, .int .i64 e.fam, .slice B1 m m, .int .i64 e.ts, .int .i64 e.seq, .int .i64 e.kind, .slice D v q], boxO gr [.slice none 0 0, .int .i64 0, .slice none 0 0, .int .i64 0, .int .i64 0, .int .i64 0, .slice none 0 0], clipO A1 e.row, clipO B1 e.qual] wr) ∧
    (k = 3 → ∃ A1 B1 D1, CAt A1 e.row ∧ CAt B1 e.qual ∧ CAt D1 e.val ∧ OW w [boxO gb [.slice A1 n n, .int .i64 e.fam, .slice B1 m m, .int .i64 e.ts, .int .i64 e.seq, .int .i64 e.kind, .slice D1 v v], boxO gr [.slice none 0 0, .int .i64 0, .slice none 0 0, .int .i64 0, .int .i64 0, .int .i64 0, .slice none 0 0], clipO A1 e.row, clipO B1 e.qual, clipO D1 e.val] wr))) (fun i _ => 3 - (intOf i).toNat)
  case atStart => exact ⟨0, by omega, rfl, Lib.hid ⟨fun _ => HX0.out, fun h => by omega, fun h => by omega, fun h => by omega⟩⟩
  case round =>
    clear HX0
    obtain ⟨k, hk, hi, HS⟩ := hrel
    have hk' : k = 0 ∨ k = 1 ∨ k = 2 ∨ k = 3 := by omega
    clear hk
    rcases hk' with rfl | rfl | rfl | rfl
    case inl =>
      replace hi : _ = Value.int .i64 0 := hi
      subst hi
      have hx := HS.out.1 rfl
      have HX := Lib.hid hx
      clear HS hx 
      have ix : ∀ w, (Instr.index 118 (.agg #[.pointer (some ⟨gb, 0, none⟩), .pointer (some ⟨gb, 2, none⟩), .pointer (some ⟨gb, 6, none⟩)]) (.int .i64 0)).run Tryd.prog w = .ok (.pointer (some ⟨gb, 0, none⟩)) w := fun w => ptr3 gb 0 (by decide) w
      have HN := Lib.hid (HX.out.nilB 5)
      go_wp2_with (first
        | (refine wpList_load_cell rfl 24 (.tmp 14) rfl rfl (HX.out.cell (i := 0) (j := 0) rfl rfl) (fun w => Tryd.isAgg24 w) ?_)
        | (at_builtin; go_must (refine wl_appB rfl (.const (.slice none 0 0)) (.tmp 15) rfl Tryd.u8s' HN.out 2 (n := 0) rfl rfl rfl _ _ n _ e.row rfl (HE.out _ HX.out.up).row.rb (by omega) ?_); intro A1 c9 x5 hz; rw [Nat.zero_add]; have HY := Lib.hid hz; have HCN := Lib.hid (cat_of HY.out (i := 2) rfl); have HY2 := Lib.hid (HY.out.clip (i := 2) rfl); have hcp := (HY.out.sl (i := 2) rfl (show ([] ++ e.row).length = n from HLR.out)); have hc1 := hcp.cap; have hc2 := hcp.lim; clear hz hcp HX HN HY)
        | (go_at_call 83; go_must (refine (sclip_any _ _ _ _ hc1 hc2).mono ?_); rintro r x6 ⟨rfl, rfl⟩)
        | (refine wl_put1 rfl (.tmp 18) (.tmp 17) rfl HY2.out 0 rfl 0 rfl (by show 0 < 7; decide) (.slice A1 n n) rfl (by kernel_rfl) rfl ?_; intro x7 hz _; have HX9 : Hid (OW w [boxO gb [.slice A1 n n, .int .i64 e.fam, .slice B m d, .int .i64 e.ts, .int .i64 e.seq, .int .i64 e.kind, .slice D v q], boxO gr [.slice none 0 0, .int .i64 0, .slice none 0 0, .int .i64 0, .int .i64 0, .int .i64 0, .slice none 0 0], clipO A1 e.row] x7) := Lib.hid hz; clear hz HY2))
      go_roundw
      case rel => exact ⟨1, by omega, rfl, Lib.hid ⟨(fun h => absurd h (by decide)), (fun _ => ⟨A1, HCN.out, HX9.out⟩), (fun h => absurd h (by decide)), (fun h => absurd h (by decide))⟩⟩
      case measure => decide
    case inr.inl =>
      replace hi : _ = Value.int .i64 1 := hi
      subst hi
      obtain ⟨A1, h0, hx⟩ := HS.out.2.1 rfl
      have HX := Lib.hid hx
      have HC0 := Lib.hid h0
      clear HS hx h0
      have ix : ∀ w, (Instr.index 118 (.agg #[.pointer (some ⟨gb, 0, none⟩), .pointer (some ⟨gb, 2, none⟩), .pointer (some ⟨gb, 6, none⟩)]) (.int .i64 1)).run Tryd.prog w = .ok (.pointer (some ⟨gb, 2, none⟩)) w := fun w => ptr3 gb 1 (by decide) w
      have HN := Lib.hid (HX.out.nilB 5)
      go_wp2_with (first
        | (refine wpList_load_cell rfl 24 (.tmp 14) rfl rfl (HX.out.cell (i := 0) (j := 2) rfl rfl) (fun w => Tryd.isAgg24 w) ?_)
        | (at_builtin; go_must (refine wl_appB rfl (.const (.slice none 0 0)) (.tmp 15) rfl Tryd.u8s' HN.out 3 (n := 0) rfl rfl rfl _ _ m _ e.qual rfl (HE.out _ HX.out.up).qual.rb (by omega) ?_); intro B1 c9 x5 hz; rw [Nat.zero_add]; have HY := Lib.hid hz; have HCN := Lib.hid (cat_of HY.out (i := 3) rfl); have HY2 := Lib.hid (HY.out.clip (i := 3) rfl); have hcp := (HY.out.sl (i := 3) rfl (show ([] ++ e.qual).length = m from HLQ.out)); have hc1 := hcp.cap; have hc2 := hcp.lim; clear hz hcp HX HN HY)
        | (go_at_call 83; go_must (refine (sclip_any _ _ _ _ hc1 hc2).mono ?_); rintro r x6 ⟨rfl, rfl⟩)
        | (refine wl_put1 rfl (.tmp 18) (.tmp 17) rfl HY2.out 0 rfl 2 rfl (by show 2 < 7; decide) (.slice B1 m m) rfl (by kernel_rfl) rfl ?_; intro x7 hz _; have HX9 : Hid (OW w [boxO gb [.slice A1 n n, .int .i64 e.fam, .slice B1 m m, .int .i64 e.ts, .int .i64 e.seq, .int .i64 e.kind, .slice D v q], boxO gr [.slice none 0 0, .int .i64 0, .slice none 0 0, .int .i64 0, .int .i64 0, .int .i64 0, .slice none 0 0], clipO A1 e.row, clipO B1 e.qual] x7) := Lib.hid hz; clear hz HY2))
      go_roundw
      case rel => exact ⟨2, by omega, rfl, Lib.hid ⟨(fun h => absurd h (by decide)), (fun h => absurd h (by decide)), (fun _ => ⟨A1, B1, HC0.out, HCN.out, HX9.out⟩), (fun h => absurd h (by decide))⟩⟩
      case measure => decide
    case inr.inr.inl =>
      replace hi : _ = Value.int .i64 2 := hi
      subst hi
      obtain ⟨A1, B1, h0, h1, hx⟩ := HS.out.2.2.1 rfl
      have HX := Lib.hid hx
      have HC0 := Lib.hid h0
      have HC1 := Lib.hid h1
      clear HS hx h0 h1
      have ix : ∀ w, (Instr.index 118 (.agg #[.pointer (some ⟨gb, 0, none⟩), .pointer (some ⟨gb, 2, none⟩), .pointer (some ⟨gb, 6, none⟩)]) (.int .i64 2)).run Tryd.prog w = .ok (.pointer (some ⟨gb, 6, none⟩)) w := fun w => ptr3 gb 2 (by decide) w
      have HN := Lib.hid (HX.out.nilB 5)
      go_wp2_with (first
        | (refine wpList_load_cell rfl 24 (.tmp 14) rfl rfl (HX.out.cell (i := 0) (j := 6) rfl rfl) (fun w => Tryd.isAgg24 w) ?_)
        | (at_builtin; go_must (refine wl_appB rfl (.const (.slice none 0 0)) (.tmp 15) rfl Tryd.u8s' HN.out 4 (n := 0) rfl rfl rfl _ _ v _ e.val rfl (HE.out _ HX.out.up).val.rb (by omega) ?_); intro D1 c9 x5 hz; rw [Nat.zero_add]; have HY := Lib.hid hz; have HCN := Lib.hid (cat_of HY.out (i := 4) rfl); have HY2 := Lib.hid (HY.out.clip (i := 4) rfl); have hcp := (HY.out.sl (i := 4) rfl (show ([] ++ e.val).length = v from HLV.out)); have hc1 := hcp.cap; have hc2 := hcp.lim; clear hz hcp HX HN HY)
        | (go_at_call 83; go_must (refine (sclip_any _ _ _ _ hc1 hc2).mono ?_); rintro r x6 ⟨rfl, rfl⟩)
        | (refine wl_put1 rfl (.tmp 18) (.tmp 17) rfl HY2.out 0 rfl 6 rfl (by show 6 < 7; decide) (.slice D1 v v) rfl (by kernel_rfl) rfl ?_; intro x7 hz _; have HX9 : Hid (OW w [boxO gb [.slice A1 n n, .int .i64 e.fam, .slice B1 m m, .int .i64 e.ts, .int .i64 e.seq, .int .i64 e.kind, .slice D1 v v], boxO gr [.slice none 0 0, .int .i64 0, .slice none 0 0, .int .i64 0, .int .i64 0, .int .i64 0, .slice none 0 0], clipO A1 e.row, clipO B1 e.qual, clipO D1 e.val] x7) := Lib.hid hz; clear hz HY2))
      go_roundw
      case rel => exact ⟨3, by omega, rfl, Lib.hid ⟨(fun h => absurd h (by decide)), (fun h => absurd h (by decide)), (fun h => absurd h (by decide)), (fun _ => ⟨A1, B1, D1, HC0.out, HC1.out, HCN.out, HX9.out⟩)⟩⟩
      case measure => decide
    case inr.inr.inr =>
      replace hi : _ = Value.int .i64 3 := hi
      subst hi
      obtain ⟨A1, B1, D1, h1, h2, h3, h4⟩ := HS.out.2.2.2 rfl
      have HC := Lib.hid (And.intro h1 (And.intro h2 h3))
      have HX := Lib.hid h4
      clear HS h1 h2 h3 h4
      go_wp2_with (first
        | (refine wpList_load_row7 rfl 37 (.tmp 1) rfl rfl (HX.out.range (i := 0) rfl) ent_row5 ?_)
        | (refine wl_put rfl (.tmp 2) (.tmp 20) rfl HX.out 1 rfl rfl [.slice A1 n n, .int .i64 e.fam, .slice B1 m m, .int .i64 e.ts, .int .i64 e.seq, .int .i64 e.kind, .slice D1 v v] rfl rfl (by kernel_rfl) (by simp [Value.oneCell']) ?_; intro x9 hz _; have HY := Lib.hid hz; clear hz))
      refine bodyPost_ret (results_rowL rfl _ _ gr [.slice A1 n n, .int .i64 e.fam, .slice B1 m m, .int .i64 e.ts, .int .i64 e.seq, .int .i64 e.kind, .slice D1 v v] rfl (HY.out.range (i := 1) rfl) (by kernel_rfl) (by kernel_rfl)) rfl ?_
      refine ⟨A1, B1, D1, by rw [HLR.out, HLQ.out, HLV.out], HC.out.1, HC.out.2.1, HC.out.2.2, HY.out.sub ((List.Sublist.refl _).cons _ |>.cons _)⟩
set_option maxRecDepth 100000 in
theorem len_any {x : World} {R g : Nat} {L : List Ent} (h : BkR x R g L) : Calls Tryd.prog 13 #[.pointer (some ⟨g, 0, none⟩)] x fun e x' => e = .returned (.int .i64 (L.length : Nat)) ∧ Below x.heap.size x x' := by
  obtain ⟨A, c, h1, _⟩ := h.c1
  obtain ⟨n, hn⟩ : ∃ z, z = L.length := ⟨_, rfl⟩
  rw [← hn] at h1 ⊢
  clear h hn
  go_enter Tryd.func13, Tryd.ntmps13
  go_wp2_with (refine wpList_load_cell rfl 22 (.tmp 5) rfl rfl h1 (fun w => Tryd.isAgg22 w) ?_)
  go_ret
  exact ⟨rfl, Below.refl _ _⟩
def AtP (L : List Ent) (i : Int) (x : World) (r : Ending) (z : World) : Prop :=
  (∃ (k : Nat) (e : Ent), i = (k : Int) ∧ L[k]? = some e ∧ OwnP (fun v => .tuple #[v, .int .i64 0]) e x r z) ∨
  ((i < 0 ∨ (L.length : Int) ≤ i) ∧ r = .returned (.tuple #[entV none 0 0 none 0 0 none 0 0 noEnt, .int .i64 1]) ∧ Below x.heap.size x z)
theorem OwnP.own {mk : Value → Value} {e : Ent} {w x : World} {r : Ending} (h : OwnP mk e w r x) : ∃ A B D, r = .returned (mk (entV A e.row.length e.row.length B e.qual.length e.qual.length D e.val.length e.val.length e)) ∧ CAt A e.row ∧ CAt B e.qual ∧ CAt D e.val ∧ OW w [clipO A e.row, clipO B e.qual, clipO D e.val] x := h
set_option maxRecDepth 100000 in
set_option maxHeartbeats 4000000 in
theorem at_any {x : World} {R g : Nat} {L : List Ent} (h : BkR x R g L) (hL : ∀ e, e ∈ L → e.row.length ≤ 140737488355000 ∧ e.qual.length ≤ 140737488355000 ∧ e.val.length ≤ 140737488355000) (i : Int) :
    Calls Tryd.prog 26 #[.pointer (some ⟨g, 0, none⟩), .int .i64 i] x (AtP L i x) := by
  have HR := Lib.hid (fun z (hz : Below x.heap.size x z) => h.later hz)
  obtain ⟨A, c, h1, he⟩ := h.c1
  obtain ⟨n, hn⟩ : ∃ z, z = L.length := ⟨_, rfl⟩
  rw [← hn] at h1 he
  have hg := h.lt
  have HC : Hid (∀ z, Below x.heap.size x z → z.cell? ⟨g, 1, none⟩ = some (.slice A n c)) := Lib.hid fun z hz => (hz.cell (p := ⟨g, 1, none⟩) hg).trans h1
  have HES : Hid (∀ z, Below x.heap.size x z → Ens z A n L) := Lib.hid fun z hz => he.later hz
  have HNL := Lib.hid hn
  have HLL := Lib.hid hL
  have HX := Lib.hid (OW.nil x)
  clear h h1 he hn hg hL
  by_cases hi : i < 0
  case pos =>
    have hd : decide (i < 0) = true := decide_eq_true hi
    go_enter Tryd.func26, Tryd.ntmps26
    go_wp2_with (first
      | (refine wl_alloc rfl rfl [.slice none 0 0, .int .i64 0, .slice none 0 0, .int .i64 0, .int .i64 0, .int .i64 0, .slice none 0 0] (.inl (by kernel_rfl)) HX.out ?_; intro gr x2 hz _; replace HX := Lib.hid hz; clear hz)
      | (refine wl_put rfl (.tmp 4) (.tmp 17) rfl HX.out 0 rfl rfl [.slice none 0 0, .int .i64 0, .slice none 0 0, .int .i64 0, .int .i64 0, .int .i64 0, .slice none 0 0] rfl rfl (by kernel_rfl) (by simp [Value.oneCell']) ?_; intro x9 hz _; have HY := Lib.hid hz; clear hz))
    refine bodyPost_ret (results_rowL1 rfl _ _ gr [.slice none 0 0, .int .i64 0, .slice none 0 0, .int .i64 0, .int .i64 0, .int .i64 0, .slice none 0 0] rfl (HY.out.range (i := 0) rfl) (by kernel_rfl) (by kernel_rfl)) rfl ?_
    exact .inr ⟨.inl hi, rfl, HY.out.up⟩
  have hd : decide (i < 0) = false := decide_eq_false hi
  obtain ⟨k, rfl⟩ : ∃ k : Nat, i = (k : Int) := ⟨i.toNat, by omega⟩
  by_cases hk : n ≤ k
  case pos =>
    have hd2 : decide ((k : Int) ≥ (n : Int)) = true := decide_eq_true (by omega)
    have HK : Hid (n ≤ k) := Lib.hid hk
    go_enter Tryd.func26, Tryd.ntmps26
    go_wp2_with (first
      | (refine wl_alloc rfl rfl [.slice none 0 0, .int .i64 0, .slice none 0 0, .int .i64 0, .int .i64 0, .int .i64 0, .slice none 0 0] (.inl (by kernel_rfl)) HX.out ?_; intro gr x2 hz _; replace HX := Lib.hid hz; clear hz)
      | (refine wpList_load_cell rfl 22 (.tmp 12) rfl rfl (HC.out _ HX.out.up) (fun w => Tryd.isAgg22 w) ?_)
      | (refine wl_put rfl (.tmp 4) (.tmp 17) rfl HX.out 0 rfl rfl [.slice none 0 0, .int .i64 0, .slice none 0 0, .int .i64 0, .int .i64 0, .int .i64 0, .slice none 0 0] rfl rfl (by kernel_rfl) (by simp [Value.oneCell']) ?_; intro x9 hz _; have HY := Lib.hid hz; clear hz))
    refine bodyPost_ret (results_rowL1 rfl _ _ gr [.slice none 0 0, .int .i64 0, .slice none 0 0, .int .i64 0, .int .i64 0, .int .i64 0, .slice none 0 0] rfl (HY.out.range (i := 0) rfl) (by kernel_rfl) (by kernel_rfl)) rfl ?_
    exact .inr ⟨.inr (by have := HK.out; rw [← HNL.out]; omega), rfl, HY.out.up⟩
  have hd2 : decide ((k : Int) ≥ (n : Int)) = false := decide_eq_false (by omega)
  obtain ⟨b, o, Ar, ec, B, d, D, q, e, rfl, hbl, hek, hrg, hen⟩ := (HES.out x (Below.refl _ _)).at_ (show k < n by omega)
  have HRG : Hid (∀ z, Below x.heap.size x z → z.rangeAt b (o + k * 7) [.slice Ar e.row.length ec, .int .i64 e.fam, .slice B e.qual.length d, .int .i64 e.ts, .int .i64 e.seq, .int .i64 e.kind, .slice D e.val.length q]) := Lib.hid fun z hz j v hj => (hz.cell (p := ⟨b, _, none⟩) hbl).trans (hrg j v hj)
  have HEN : Hid (∀ z, Below x.heap.size x z → En z Ar e.row.length ec B e.qual.length d D e.val.length q e) := Lib.hid fun z hz => hen.later hz
  have HEK := Lib.hid hek
  have HEB := Lib.hid (HLL.out e (List.mem_of_getElem? hek))
  have i1 : (0 : Int) ≤ (k : Int) := by omega
  have i2 : (k : Int) < (n : Int) := by omega
  clear hek hrg hen
  go_enter Tryd.func26, Tryd.ntmps26
  go_wp2_with (first
    | (refine wl_alloc rfl rfl [.slice none 0 0, .int .i64 0, .slice none 0 0, .int .i64 0, .int .i64 0, .int .i64 0, .slice none 0 0] (.inl (by kernel_rfl)) HX.out ?_; intro gr x2 hz _; replace HX := Lib.hid hz; clear hz)
    | (refine wpList_load_cell rfl 22 (.tmp 12) rfl rfl (HC.out _ HX.out.up) (fun w => Tryd.isAgg22 w) ?_)
    | (refine wpList_load_cell rfl 22 (.tmp 20) rfl rfl (HC.out _ HX.out.up) (fun w => Tryd.isAgg22 w) ?_)
    | (refine wpList_load_at rfl 37 (.tmp 23) rfl rfl (HRG.out _ HX.out.up) ent_row5 ?_)
    | (go_at_call 48; go_must (refine (own_any e Ar _ ec B _ d D _ q _ (HEN.out _ HX.out.up) HEB.out).mono ?_); rintro r x5 ⟨A1, B1, D1, rfl, hc1, hc2, hc3, hx⟩; have HC1 := Lib.hid (And.intro hc1 (And.intro hc2 hc3)); have HY := Lib.hid (HX.out.app hx); clear hc1 hc2 hc3 hx HX)
    | (refine wl_put rfl (.tmp 4) (.tmp 25) rfl HY.out 0 rfl rfl [.slice A1 e.row.length e.row.length, .int .i64 e.fam, .slice B1 e.qual.length e.qual.length, .int .i64 e.ts, .int .i64 e.seq, .int .i64 e.kind, .slice D1 e.val.length e.val.length] rfl rfl (by kernel_rfl) (by simp [Value.oneCell']) ?_; intro x9 hz _; have HQ := Lib.hid hz; clear hz))
  refine bodyPost_ret (results_rowL1 rfl _ _ gr [.slice A1 e.row.length e.row.length, .int .i64 e.fam, .slice B1 e.qual.length e.qual.length, .int .i64 e.ts, .int .i64 e.seq, .int .i64 e.kind, .slice D1 e.val.length e.val.length] rfl (HQ.out.range (i := 0) rfl) (by kernel_rfl) (by kernel_rfl)) rfl ?_
  exact .inl ⟨k, e, rfl, HEK.out, A1, B1, D1, rfl, HC1.out.1, HC1.out.2.1, HC1.out.2.2, HQ.out.sub ((List.Sublist.refl _).cons _)⟩
end Go.Proofs.YtmigjipfomfacaaDoor
namespace Go.Proofs.YtmigjipfomfacaaDoor
open Go.RowKit
theorem RB.later2 {x y : World} {A : Option Addr} {n : Nat} {l : List UInt8} (h : RB x x.heap.size A n l) (hb : Below x.heap.size x y) : RB y y.heap.size A n l := (h.below hb).more hb.size
set_option maxRecDepth 100000 in
set_option maxHeartbeats 2000000 in
theorem below_any {x : World} {R g g1 g2 : Nat} {L : List Ent} (h : BkR x R g L) (h1 : x.cell? ⟨g1, 0, none⟩ = some (.pointer (some ⟨g, 0, none⟩))) (key : List UInt8) (KA : Option Addr) (kn kc : Nat) (h2 : x.cell? ⟨g2, 0, none⟩ = some (.slice KA kn kc)) (hk : Sl x KA kn kc key) (z : Int) (j : Nat) (hz : z = (j : Int)) (e : Ent) (hj : L[j]? = some e) (bo : Bool) (hb : decide (cmpB (keyE e) key < 0) = bo) :
    Calls Tryd.prog 49 #[.int .i64 z, .pointer (some ⟨g1, 0, none⟩), .pointer (some ⟨g2, 0, none⟩)] x fun r y => r = .returned (.bool bo) ∧ Below x.heap.size x y := by
  obtain ⟨A, c, c2, hr⟩ := h.c2
  have hjl : j < L.length := (List.getElem?_eq_some_iff.1 hj).1
  obtain ⟨b, o, k, a, ck, rfl, hbl, hkk, hcell, _, _, _, hrb⟩ := hr.at_ hjl
  obtain rfl : keyE e = k := by
    rw [List.getElem?_map, hj] at hkk
    injection hkk
  obtain ⟨n, hn⟩ : ∃ m, m = L.length := ⟨_, rfl⟩
  obtain ⟨kl, hkl⟩ : ∃ m, m = (keyE e).length := ⟨_, rfl⟩
  obtain ⟨cz, hcz⟩ : ∃ m, m = cmpB (keyE e) key := ⟨_, rfl⟩
  rw [← hn] at c2 hjl
  rw [← hkl] at hcell hrb
  rw [← hcz] at hb
  have HRB := Lib.hid hrb
  have HK := Lib.hid hk
  have HCZ := Lib.hid hcz
  have HB := Lib.hid hb
  subst hz
  have i1 : (0 : Int) ≤ (j : Int) := by omega
  have i2 : (j : Int) < (n : Int) := by omega
  have L1 := Lib.hid (World.block_lt_of_cell? x _ h1)
  have L2 := Lib.hid (World.block_lt_of_cell? x _ c2)
  have L3 := Lib.hid (World.block_lt_of_cell? x _ hcell)
  have L4 := Lib.hid (World.block_lt_of_cell? x _ h2)
  have H1 := Lib.hid h1
  have H2 := Lib.hid h2
  have C2 := Lib.hid c2
  have CE := Lib.hid hcell
  clear h hr hj hkk hrb hk hn hkl hcz hb h1 h2 c2 hcell
  go_enter Tryd.func49, Tryd.ntmps49
  go_wp2_with fail
  refine lt_start [] (by kernel_rfl) ?_
  intro xd hd
  refine ⟨fun z => Below x.heap.size x z, ?_⟩
  have HS := Lib.hid (hd)
  refine lt_take 0 [1, 2, 3, 5, 6, 8, 9, 10] rfl (by kernel_rfl) (by kernel_rfl) (by kernel_rfl) (by kernel_rfl) (by kernel_rfl) (fun _ _ _ h => h) (yi_cell rfl rfl rfl (fun w hS => (hS.cell (p := ⟨g1, 0, none⟩) L1.out).trans H1.out) (fun w => Tryd.isAgg29 w)) HS.out ?_
  simp only [Act.put, List.setIfInBounds_toArray, List.set_cons_zero, List.set_cons_succ]
  refine lt_pure 1 rfl (by kernel_rfl) (by kernel_rfl) (by kernel_rfl) (by kernel_rfl) (fun _ _ _ h => h) (v := ?_) (yi_run rfl (fun w => ?_)) (fun _ => HS.out) ?_
  rotate_left
  · first | (go_simp; done) | (go_simp; with_reducible rfl)
  simp only [Act.put, List.setIfInBounds_toArray, List.set_cons_zero, List.set_cons_succ]
  refine lt_pure 2 rfl (by kernel_rfl) (by kernel_rfl) (by kernel_rfl) (by kernel_rfl) (fun _ _ _ h => h) (v := ?_) (yi_run rfl (fun w => ?_)) (fun _ => HS.out) ?_
  rotate_left
  · first | (go_simp; done) | (go_simp; with_reducible rfl)
  simp only [Act.put, List.setIfInBounds_toArray, List.set_cons_zero, List.set_cons_succ]
  refine lt_take 3 [5, 6, 8, 9, 10] rfl (by kernel_rfl) (by kernel_rfl) (by kernel_rfl) (by kernel_rfl) (by kernel_rfl) (fun _ _ _ h => h) (yi_cell rfl rfl rfl (fun w hS => (hS.cell (p := ⟨g, 2, none⟩) L2.out).trans C2.out) (fun w => Tryd.isAgg52 w)) HS.out ?_
  simp only [Act.put, List.setIfInBounds_toArray, List.set_cons_zero, List.set_cons_succ]
  refine lt_pure 4 rfl (by kernel_rfl) (by kernel_rfl) (by kernel_rfl) (by kernel_rfl) (fun _ _ _ h => h) (v := ?_) (yi_run rfl (fun w => ?_)) (fun _ => HS.out) ?_
  rotate_left
  · first | (go_simp; done) | (go_simp; with_reducible rfl)
  simp only [Act.put, List.setIfInBounds_toArray, List.set_cons_zero, List.set_cons_succ]
  refine lt_pure 5 rfl (by kernel_rfl) (by kernel_rfl) (by kernel_rfl) (by kernel_rfl) (fun _ _ _ h => h) (v := ?_) (yi_run rfl (fun w => ?_)) (fun _ => HS.out) ?_
  rotate_left
  · first | (go_simp; done) | (go_simp; with_reducible rfl)
  simp only [Act.put, List.setIfInBounds_toArray, List.set_cons_zero, List.set_cons_succ]
  refine lt_take 6 [8, 9, 10] rfl (by kernel_rfl) (by kernel_rfl) (by kernel_rfl) (by kernel_rfl) (by kernel_rfl) (fun _ _ _ h => h) (yi_cell rfl rfl rfl (fun w hS => (hS.cell (p := ⟨b, o + j, none⟩) L3.out).trans CE.out) (fun w => Tryd.isAgg24 w)) HS.out ?_
  simp only [Act.put, List.setIfInBounds_toArray, List.set_cons_zero, List.set_cons_succ]
  refine lt_take 7 [8, 9, 10] rfl (by kernel_rfl) (by kernel_rfl) (by kernel_rfl) (by kernel_rfl) (by kernel_rfl) (fun _ _ _ h => h) (yi_cell rfl rfl rfl (fun w hS => (hS.cell (p := ⟨g2, 0, none⟩) L4.out).trans H2.out) (fun w => Tryd.isAgg24 w)) HS.out ?_
  simp only [Act.put, List.setIfInBounds_toArray, List.set_cons_zero, List.set_cons_succ]
  refine lt_call 8 rfl (by kernel_rfl) rfl rfl ⟨_, Tryd.func50, by decide, by kernel_rfl⟩ [.slice a kl ck, .slice KA kn kc] rfl ?_
  refine (bcmp_any (keyE e) key a KA kl ck kn kc _ (HRB.out.later2 HS.out) (HK.out.later HS.out).rb).mono ?_
  rw [← HCZ.out]
  rintro r z9 ⟨rfl, rfl⟩
  refine ⟨_, rfl, fun _ => HS.out, ?_⟩
  simp only [Act.put, List.setIfInBounds_toArray, List.set_cons_zero, List.set_cons_succ]
  refine lt_pure 9 rfl (by kernel_rfl) (by kernel_rfl) (by kernel_rfl) (by kernel_rfl) (fun _ _ _ h => h) (v := ?_) (yi_run rfl (fun w => ?_)) (fun _ => HS.out) ?_
  rotate_left
  · first | (go_simp; done) | (go_simp; with_reducible rfl)
  simp only [Act.put, List.setIfInBounds_toArray, List.set_cons_zero, List.set_cons_succ]
  refine lt_pure 10 rfl (by kernel_rfl) (by kernel_rfl) (by kernel_rfl) (by kernel_rfl) (fun _ _ _ h => h) (v := ?_) (yi_run rfl (fun w => ?_)) (fun _ => HS.out) ?_
  rotate_left
  · first | (go_simp; done) | (go_simp; with_reducible rfl)
  simp only [Act.put, List.setIfInBounds_toArray, List.set_cons_zero, List.set_cons_succ]
  refine lt_done (by kernel_rfl) ?_
  have HS9 := HS
  clear HS
  have HB9 := HS9.out
  go_wp2_with fail
  go_ret
  exact ⟨by rw [← HB.out]; rfl, HB9⟩
theorem quo_res (n R : Nat) (hR : 1 ≤ R) : Int.tdiv ((n : Int) + (R : Int) - 1) (R : Int) = ((resN n R : Nat) : Int) := by
  have e : (n : Int) + (R : Int) - 1 = ((n + R - 1 : Nat) : Int) := by omega
  rw [e, ← Int.ofNat_tdiv]; rfl
set_option maxRecDepth 100000 in
set_option maxHeartbeats 4000000 in
theorem seek_any {x : World} {R g : Nat} {L : List Ent} (h : BkR x R g L) (hR : 1 ≤ R ∧ R ≤ 16) (hn0 : 0 < L.length) (hn1 : L.length ≤ 4294967296) (hA : Asc (L.map keyE)) (key : List UInt8) (KA : Option Addr) (kn kc : Nat) (hk : Sl x KA kn kc key) :
    Calls Tryd.prog 17 #[.pointer (some ⟨g, 0, none⟩), .slice KA kn kc] x fun r y => r = .returned (.int .i64 (seekL L key : Nat)) ∧ Below x.heap.size x y := by
  have HBK := Lib.hid (fun z (hz : Below x.heap.size x z) => h.later hz)
  have HK := Lib.hid (fun z (hz : Below x.heap.size x z) => hk.later hz)
  obtain ⟨A, c, h1, _⟩ := h.c1
  have hg := h.lt
  have h0 := h.c0
  obtain ⟨n, hn⟩ : ∃ m, m = L.length := ⟨_, rfl⟩
  obtain ⟨sk, hsk⟩ : ∃ m, m = seekL L key := ⟨_, rfl⟩
  rw [← hn] at h1 hn0 hn1
  have hskn : sk ≤ n := by rw [hsk, hn]; have := seekN_le (L.map keyE) key; rw [List.length_map] at this; exact this
  have HCR : Hid (∀ z, Below x.heap.size x z → z.cell? ⟨g, 0, none⟩ = some (.int .i64 (R : Int))) := Lib.hid fun z hz => (hz.cell (p := ⟨g, 0, none⟩) hg).trans h0
  have HCL : Hid (∀ z, Below x.heap.size x z → z.cell? ⟨g, 1, none⟩ = some (.slice A n c)) := Lib.hid fun z hz => (hz.cell (p := ⟨g, 1, none⟩) hg).trans h1
  have HIF : Hid (∀ (i : Nat) (e : Ent), L[i]? = some e → decide (cmpB (keyE e) key < 0) = decide (i < sk)) := Lib.hid fun i e he => by
    have := seekN_iff hA (key := key) (i := i) (k := keyE e) (by rw [List.getElem?_map, he]; rfl)
    rw [hsk]
    exact decide_eq_decide.2 this
  have HGE : Hid (∀ i, i < n → ∃ e, L[i]? = some e) := Lib.hid fun i hi => ⟨_, List.getElem?_eq_getElem (by rw [← hn]; exact hi)⟩
  obtain ⟨H, hH⟩ : ∃ m, m = resN n R := ⟨_, rfl⟩
  have hH1 : 1 ≤ H := by rw [hH]; exact resN_pos hn0 hR.1
  have hH2 : H ≤ n := by rw [hH]; exact resN_le hR.1
  have HLT : Hid (∀ k, k < H → k * R < n) := Lib.hid fun k hk => resN_lt hR.1 (by rw [← hH]; exact hk)
  have HQ : Hid (Int.tdiv ((n : Int) + (R : Int) - 1) (R : Int) = (H : Int)) := Lib.hid (by rw [quo_res n R hR.1, hH])
  have HSK := Lib.hid hsk
  obtain ⟨hR1, hR2⟩ := hR
  have HX := Lib.hid (OW.nil x)
  clear h hk h1 h0 hn hsk hA hH
  go_enter Tryd.func17, Tryd.ntmps17
  go_wp2_with (first
    | (refine wl_box rfl (.tmp 0) rfl [.pointer (some ⟨g, 0, none⟩)] rfl HX.out ?_; intro g1 x1 hz _; have HX1 := Lib.hid hz; clear hz HX)
    | (refine wl_box rfl (.tmp 1) rfl [.slice KA kn kc] rfl HX1.out ?_; intro g2 x2 hz _; have HX2 : Hid (OW x [boxO g1 [.pointer (some ⟨g, 0, none⟩)], boxO g2 [.slice KA kn kc]] x2) := Lib.hid hz; clear hz HX1))
  go_step3
  go_wp2_with (first
    | (refine wl_box rfl (.tmp 0) rfl [.pointer (some ⟨g, 0, none⟩)] rfl HX.out ?_; intro g1 x1 hz _; have HX1 := Lib.hid hz; clear hz HX)
    | (refine wl_box rfl (.tmp 1) rfl [.slice KA kn kc] rfl HX1.out ?_; intro g2 x2 hz _; have HX2 : Hid (OW x [boxO g1 [.pointer (some ⟨g, 0, none⟩)], boxO g2 [.slice KA kn kc]] x2) := Lib.hid hz; clear hz HX1))
  have r2 : ¬ R = 0 := by omega
  have s1 : IntKind.i64.wrap ((n : Int) + (R : Int)) = (n : Int) + (R : Int) := i64_sum (by omega) (by omega)
  have s2 : IntKind.i64.wrap ((n : Int) + (R : Int) - 1) = (n : Int) + (R : Int) - 1 := i64_sum (by omega) (by omega)
  have s3 : IntKind.i64.wrap (Int.tdiv ((n : Int) + (R : Int) - 1) (R : Int)) = (H : Int) := by rw [HQ.out]; exact i64_sum (by omega) (by omega)
  refine lt_start [] (by kernel_rfl) ?_
  intro xd hd
  refine ⟨fun z => Below x2.heap.size x2 z, ?_⟩
  have HS := Lib.hid (hd)
  refine lt_take 0 [1, 2, 3, 4, 9, 10, 15, 17] rfl (by kernel_rfl) (by kernel_rfl) (by kernel_rfl) (by kernel_rfl) (by kernel_rfl) (fun _ _ _ h => h) (yi_cell rfl rfl rfl (fun w hS => (HX2.out.later hS).cell (i := 0) (j := 0) rfl rfl) (fun w => Tryd.isAgg29 w)) HS.out ?_
  simp only [Act.put, List.setIfInBounds_toArray, List.set_cons_zero, List.set_cons_succ]
  refine lt_pure 1 rfl (by kernel_rfl) (by kernel_rfl) (by kernel_rfl) (by kernel_rfl) (fun _ _ _ h => h) (v := ?_) (yi_run rfl (fun w => ?_)) (fun _ => HS.out) ?_
  rotate_left
  · first | (go_simp; done) | (go_simp; with_reducible rfl)
  simp only [Act.put, List.setIfInBounds_toArray, List.set_cons_zero, List.set_cons_succ]
  refine lt_pure 2 rfl (by kernel_rfl) (by kernel_rfl) (by kernel_rfl) (by kernel_rfl) (fun _ _ _ h => h) (v := ?_) (yi_run rfl (fun w => ?_)) (fun _ => HS.out) ?_
  rotate_left
  · first | (go_simp; done) | (go_simp; with_reducible rfl)
  simp only [Act.put, List.setIfInBounds_toArray, List.set_cons_zero, List.set_cons_succ]
  refine lt_take 3 [4, 9, 10, 15, 17] rfl (by kernel_rfl) (by kernel_rfl) (by kernel_rfl) (by kernel_rfl) (by kernel_rfl) (fun _ _ _ h => h) (yi_cell rfl rfl rfl (fun w hS => HCL.out _ (HX2.out.later hS).up) (fun w => Tryd.isAgg22 w)) HS.out ?_
  simp only [Act.put, List.setIfInBounds_toArray, List.set_cons_zero, List.set_cons_succ]
  refine lt_pure 4 rfl (by kernel_rfl) (by kernel_rfl) (by kernel_rfl) (by kernel_rfl) (fun _ _ _ h => h) (v := ?_) (yi_run rfl (fun w => ?_)) (fun _ => HS.out) ?_
  rotate_left
  · first | (go_simp; done) | (go_simp; with_reducible rfl)
  simp only [Act.put, List.setIfInBounds_toArray, List.set_cons_zero, List.set_cons_succ]
  refine lt_take 5 [6, 7, 8, 9, 10, 15, 17] rfl (by kernel_rfl) (by kernel_rfl) (by kernel_rfl) (by kernel_rfl) (by kernel_rfl) (fun _ _ _ h => h) (yi_cell rfl rfl rfl (fun w hS => (HX2.out.later hS).cell (i := 0) (j := 0) rfl rfl) (fun w => Tryd.isAgg29 w)) HS.out ?_
  simp only [Act.put, List.setIfInBounds_toArray, List.set_cons_zero, List.set_cons_succ]
  refine lt_pure 6 rfl (by kernel_rfl) (by kernel_rfl) (by kernel_rfl) (by kernel_rfl) (fun _ _ _ h => h) (v := ?_) (yi_run rfl (fun w => ?_)) (fun _ => HS.out) ?_
  rotate_left
  · first | (go_simp; done) | (go_simp; with_reducible rfl)
  simp only [Act.put, List.setIfInBounds_toArray, List.set_cons_zero, List.set_cons_succ]
  refine lt_pure 7 rfl (by kernel_rfl) (by kernel_rfl) (by kernel_rfl) (by kernel_rfl) (fun _ _ _ h => h) (v := ?_) (yi_run rfl (fun w => ?_)) (fun _ => HS.out) ?_
  rotate_left
  · first | (go_simp; done) | (go_simp; with_reducible rfl)
  simp only [Act.put, List.setIfInBounds_toArray, List.set_cons_zero, List.set_cons_succ]
  refine lt_take 8 [9, 10, 15, 17] rfl (by kernel_rfl) (by kernel_rfl) (by kernel_rfl) (by kernel_rfl) (by kernel_rfl) (fun _ _ _ h => h) (yi_cell rfl rfl rfl (fun w hS => HCR.out _ (HX2.out.later hS).up) (fun w => Tryd.isAgg3 w)) HS.out ?_
  simp only [Act.put, List.setIfInBounds_toArray, List.set_cons_zero, List.set_cons_succ]
  refine lt_pure 9 rfl (by kernel_rfl) (by kernel_rfl) (by kernel_rfl) (by kernel_rfl) (fun _ _ _ h => h) (v := ?_) (yi_run rfl (fun w => ?_)) (fun _ => HS.out) ?_
  rotate_left
  · first | (go_simp; done) | (go_simp; with_reducible rfl)
  simp only [Act.put, List.setIfInBounds_toArray, List.set_cons_zero, List.set_cons_succ]
  refine lt_pure 10 rfl (by kernel_rfl) (by kernel_rfl) (by kernel_rfl) (by kernel_rfl) (fun _ _ _ h => h) (v := ?_) (yi_run rfl (fun w => ?_)) (fun _ => HS.out) ?_
  rotate_left
  · first | (go_simp; done) | (go_simp; with_reducible rfl)
  simp only [Act.put, List.setIfInBounds_toArray, List.set_cons_zero, List.set_cons_succ]
  refine lt_take 11 [12, 13, 14, 15, 17] rfl (by kernel_rfl) (by kernel_rfl) (by kernel_rfl) (by kernel_rfl) (by kernel_rfl) (fun _ _ _ h => h) (yi_cell rfl rfl rfl (fun w hS => (HX2.out.later hS).cell (i := 0) (j := 0) rfl rfl) (fun w => Tryd.isAgg29 w)) HS.out ?_
  simp only [Act.put, List.setIfInBounds_toArray, List.set_cons_zero, List.set_cons_succ]
  refine lt_pure 12 rfl (by kernel_rfl) (by kernel_rfl) (by kernel_rfl) (by kernel_rfl) (fun _ _ _ h => h) (v := ?_) (yi_run rfl (fun w => ?_)) (fun _ => HS.out) ?_
  rotate_left
  · first | (go_simp; done) | (go_simp; with_reducible rfl)
  simp only [Act.put, List.setIfInBounds_toArray, List.set_cons_zero, List.set_cons_succ]
  refine lt_pure 13 rfl (by kernel_rfl) (by kernel_rfl) (by kernel_rfl) (by kernel_rfl) (fun _ _ _ h => h) (v := ?_) (yi_run rfl (fun w => ?_)) (fun _ => HS.out) ?_
  rotate_left
  · first | (go_simp; done) | (go_simp; with_reducible rfl)
  simp only [Act.put, List.setIfInBounds_toArray, List.set_cons_zero, List.set_cons_succ]
  refine lt_take 14 [15, 17] rfl (by kernel_rfl) (by kernel_rfl) (by kernel_rfl) (by kernel_rfl) (by kernel_rfl) (fun _ _ _ h => h) (yi_cell rfl rfl rfl (fun w hS => HCR.out _ (HX2.out.later hS).up) (fun w => Tryd.isAgg3 w)) HS.out ?_
  simp only [Act.put, List.setIfInBounds_toArray, List.set_cons_zero, List.set_cons_succ]
  refine lt_pure 15 rfl (by kernel_rfl) (by kernel_rfl) (by kernel_rfl) (by kernel_rfl) (fun _ _ _ h => h) (v := ?_) (yi_run rfl (fun w => ?_)) (fun _ => HS.out) ?_
  rotate_left
  · first | (go_simp; done) | (go_simp; with_reducible rfl)
  simp only [Act.put, List.setIfInBounds_toArray, List.set_cons_zero, List.set_cons_succ]
  refine lt_pure 16 rfl (by kernel_rfl) (by kernel_rfl) (by kernel_rfl) (by kernel_rfl) (fun _ _ _ h => h) (v := ?_) (yi_run rfl (fun w => ?_)) (fun _ => HS.out) ?_
  rotate_left
  · first | (go_simp; done) | (go_simp; with_reducible rfl)
  simp only [Act.put, List.setIfInBounds_toArray, List.set_cons_zero, List.set_cons_succ]
  refine lt_pure 17 rfl (by kernel_rfl) (by kernel_rfl) (by kernel_rfl) (by kernel_rfl) (fun _ _ _ h => h) (v := ?_) (yi_run rfl (fun w => ?_)) (fun _ => HS.out) ?_
  rotate_left
  · first | (go_simp; done) | (go_simp; with_reducible rfl)
  simp only [Act.put, List.setIfInBounds_toArray, List.set_cons_zero, List.set_cons_succ]
  refine lt_done (by kernel_rfl) ?_
  have HS9 := HS
  clear HS
  have HX3 := Lib.hid (HX2.out.later HS9.out)
  clear HX2 s1 s2 s3 HS9
  go_wp2_with fail
  go_loopw [6, 7, 8] (fun lv hv _ wr => ∃ lo hi : Nat, lo < H ∧ hi ≤ H ∧ lv = .int .i64 lo ∧ hv = .int .i64 hi ∧ Hid (lo = 0 ∨ lo * R < sk) ∧ Hid (OW x [boxO g1 [.pointer (some ⟨g, 0, none⟩)], boxO g2 [.slice KA kn kc]] wr)) (fun lv hv _ _ => (intOf hv).toNat - (intOf lv).toNat)
  case atStart => exact ⟨0, H, by omega, Nat.le_refl _, rfl, rfl, Lib.hid (.inl rfl), HX3⟩
  case round =>
    clear HX3
    obtain ⟨lo, hi, hlo, hhi, rfl, rfl, HLO, HX⟩ := hrel
    by_cases hlt : lo + 1 < hi
    case pos =>
      have hd : decide ((lo : Int) + 1 < (hi : Int)) = true := decide_eq_true (by omega)
      obtain ⟨mid, hmid⟩ : ∃ m, m = (lo + hi) / 2 := ⟨_, rfl⟩
      have hm1 : lo < mid := by omega
      have hm2 : mid < hi := by omega
      have qd : ((lo : Int) + (hi : Int)) / 2 = (mid : Int) := by omega
      obtain ⟨j, hj⟩ : ∃ m, m = mid * R := ⟨_, rfl⟩
      have hjn : j < n := by rw [hj]; exact HLT.out mid (by omega)
      have qm : (mid : Int) * (R : Int) = (j : Int) := by rw [hj]; exact (Int.natCast_mul _ _).symm
      obtain ⟨e, he⟩ := HGE.out j hjn
      have HE := Lib.hid he
      have HJ := Lib.hid hj
      clear hmid hj he
      have f1 := HX.out.cell (i := 0) (j := 0) rfl rfl
      have f2 := HX.out.cell (i := 1) (j := 0) rfl rfl
      by_cases hb : j < sk
      case pos =>
        have HB : Hid (decide (cmpB (keyE e) key < 0) = true) := Lib.hid (by rw [HIF.out j e HE.out]; exact decide_eq_true hb)
        have HJ2 : Hid (mid * R < sk) := Lib.hid (by rw [← HJ.out]; exact hb)
        clear hb
        go_wp2_with (first
          | (refine wpList_load_cell rfl 29 (.tmp 2) rfl rfl f1 (fun w => Tryd.isAgg29 w) ?_)
          | (refine wpList_load_cell rfl 3 (.tmp 39) rfl rfl (HCR.out _ HX.out.up) (fun w => Tryd.isAgg3 w) ?_)
          | (go_at_call 49; go_must (refine (below_any (HBK.out _ HX.out.up) f1 key KA kn kc f2 (HK.out _ HX.out.up) _ j rfl e HE.out true HB.out).mono ?_); rintro r z1 ⟨rfl, hb⟩; have HX1 := Lib.hid (HX.out.later hb); clear hb f1 f2 HX))
        go_roundw
        case rel => exact ⟨mid, hi, by omega, hhi, rfl, rfl, Lib.hid (.inr HJ2.out), HX1⟩
        case measure => simp [intOf]; omega
      have HB : Hid (decide (cmpB (keyE e) key < 0) = false) := Lib.hid (by rw [HIF.out j e HE.out]; exact decide_eq_false hb)
      clear hb
      go_wp2_with (first
        | (refine wpList_load_cell rfl 29 (.tmp 2) rfl rfl f1 (fun w => Tryd.isAgg29 w) ?_)
        | (refine wpList_load_cell rfl 3 (.tmp 39) rfl rfl (HCR.out _ HX.out.up) (fun w => Tryd.isAgg3 w) ?_)
        | (go_at_call 49; go_must (refine (below_any (HBK.out _ HX.out.up) f1 key KA kn kc f2 (HK.out _ HX.out.up) _ j rfl e HE.out false HB.out).mono ?_); rintro r z1 ⟨rfl, hb⟩; have HX1 := Lib.hid (HX.out.later hb); clear hb f1 f2 HX))
      go_roundw
      case rel => exact ⟨lo, mid, hlo, by omega, rfl, rfl, HLO, HX1⟩
      case measure => simp [intOf]; omega
    have hd : decide ((lo : Int) + 1 < (hi : Int)) = false := decide_eq_false (by omega)
    obtain ⟨j, hj⟩ : ∃ m, m = lo * R := ⟨_, rfl⟩
    have hjs : j ≤ sk := by
      rw [hj]
      rcases HLO.out with h | h
      · rw [h]; omega
      · omega
    have qm : (lo : Int) * (R : Int) = (j : Int) := by rw [hj]; exact (Int.natCast_mul _ _).symm
    clear hj
    have f1 := HX.out.cell (i := 0) (j := 0) rfl rfl
    go_wp2_with (first
      | (refine wpList_load_cell rfl 29 (.tmp 2) rfl rfl f1 (fun w => Tryd.isAgg29 w) ?_)
      | (refine wpList_load_cell rfl 3 (.tmp 48) rfl rfl (HCR.out _ HX.out.up) (fun w => Tryd.isAgg3 w) ?_))
    go_step3
    go_wp2_with fail
    clear f1 qm
    go_loopw [9, 51] (fun iv _ wr => ∃ i : Nat, i ≤ sk ∧ iv = .int .i64 i ∧ Hid (OW x [boxO g1 [.pointer (some ⟨g, 0, none⟩)], boxO g2 [.slice KA kn kc]] wr)) (fun iv _ _ => n + 1 - (intOf iv).toNat)
    case atStart => exact ⟨j, hjs, rfl, HX⟩
    case round =>
      clear HX HLO
      obtain ⟨i, his, rfl, HX⟩ := hrel
      have f1 := HX.out.cell (i := 0) (j := 0) rfl rfl
      by_cases hin : i = n
      case pos =>
        have hd2 : ((i : Int) == (n : Int)) = true := by rw [beq_iff_eq]; omega
        have HI : Hid (i = sk) := Lib.hid (by omega)
        clear hin
        go_wp2_with (first
          | (refine wpList_load_cell rfl 29 (.tmp 2) rfl rfl f1 (fun w => Tryd.isAgg29 w) ?_)
          | (refine wpList_load_cell rfl 22 (.tmp 55) rfl rfl (HCL.out _ HX.out.up) (fun w => Tryd.isAgg22 w) ?_))
        try rw [Exit.noGoto_ret]
        go_ret
        exact ⟨by rw [← HSK.out, ← HI.out]; rfl, HX.out.up⟩
      have hd2 : ((i : Int) == (n : Int)) = false := by rw [beq_eq_false_iff_ne]; omega
      obtain ⟨e, he⟩ := HGE.out i (by omega)
      have HE := Lib.hid he
      have f2 := HX.out.cell (i := 1) (j := 0) rfl rfl
      clear he
      by_cases hb : i < sk
      case neg =>
        have HB : Hid (decide (cmpB (keyE e) key < 0) = false) := Lib.hid (by rw [HIF.out i e HE.out]; exact decide_eq_false hb)
        have HI : Hid (i = sk) := Lib.hid (by omega)
        clear hb hin
        go_wp2_with (first
          | (refine wpList_load_cell rfl 29 (.tmp 2) rfl rfl f1 (fun w => Tryd.isAgg29 w) ?_)
          | (refine wpList_load_cell rfl 22 (.tmp 55) rfl rfl (HCL.out _ HX.out.up) (fun w => Tryd.isAgg22 w) ?_)
          | (go_at_call 49; go_must (refine (below_any (HBK.out _ HX.out.up) f1 key KA kn kc f2 (HK.out _ HX.out.up) _ i rfl e HE.out false HB.out).mono ?_); rintro r z1 ⟨rfl, hb⟩; have HX1 := Lib.hid (HX.out.later hb); clear hb f1 f2 HX))
        try rw [Exit.noGoto_ret]
        go_ret
        exact ⟨by rw [← HSK.out, ← HI.out]; rfl, HX1.out.up⟩
      have HB : Hid (decide (cmpB (keyE e) key < 0) = true) := Lib.hid (by rw [HIF.out i e HE.out]; exact decide_eq_true hb)
      go_wp2_with (first
        | (refine wpList_load_cell rfl 29 (.tmp 2) rfl rfl f1 (fun w => Tryd.isAgg29 w) ?_)
        | (refine wpList_load_cell rfl 22 (.tmp 55) rfl rfl (HCL.out _ HX.out.up) (fun w => Tryd.isAgg22 w) ?_)
        | (go_at_call 49; go_must (refine (below_any (HBK.out _ HX.out.up) f1 key KA kn kc f2 (HK.out _ HX.out.up) _ i rfl e HE.out true HB.out).mono ?_); rintro r z1 ⟨rfl, hb⟩; have HX1 := Lib.hid (HX.out.later hb); clear hb f1 f2 HX))
      go_roundw
      case rel => exact ⟨i + 1, by omega, by go_num, HX1⟩
      case measure => simp [intOf]; omega
end Go.Proofs.YtmigjipfomfacaaDoor
namespace Go.Proofs.YtmigjipfomfacaaDoor
open Go.RowKit
def toldL : List Ent := [atE 5, atE 4, atE 3]
def toldB : List UInt8 := layB 2 toldL
theorem told_build : buildE5 ((2 : Nat) : Int) toldL = (toldB, 0) := by
  have h : (buildK 2 [] toldL).1 = 0 := by decide +kernel
  unfold buildE5
  rw [if_neg (by decide), Int.toNat_natCast, if_pos h]
  rfl
theorem told_open : openE toldB = (some toldL, 0) ∧ resB toldB = 2 := openE_lay told_build
theorem told_seek : seekL toldL [] = 0 := by decide +kernel
theorem told_nil : openE [] = (none, 51) := by unfold openE; rw [if_neg (by decide), if_pos (by decide)]
def AllP (g : Nat) (x : World) (r : Ending) (z : World) : Prop := ∃ b, r = .returned (.func (.func 47) #[] #[.pointer (some ⟨b, 0, none⟩)]) ∧ x.heap.size ≤ b ∧ z.cell? ⟨b, 0, none⟩ = some (.pointer (some ⟨g, 0, none⟩)) ∧ Below x.heap.size x z
theorem all_any (g : Nat) (x : World) : Calls Tryd.prog 14 #[.pointer (some ⟨g, 0, none⟩)] x (AllP g x) := by
  have HX := Lib.hid (OW.nil x)
  go_enter Tryd.func14, Tryd.ntmps14
  go_wp2_with (refine wl_box rfl (.tmp 0) rfl [.pointer (some ⟨g, 0, none⟩)] rfl HX.out ?_; intro b x1 hz _; have HX1 : Hid (OW x [boxO b [.pointer (some ⟨g, 0, none⟩)]] x1) := Lib.hid hz; clear hz HX)
  go_ret
  exact ⟨b, rfl, (HX1.out.box (i := 0) rfl).1, HX1.out.cell (i := 0) (j := 0) rfl rfl, HX1.out.up⟩
theorem all_not_nil (b : Nat) (w : World) : (binOp .eql 34 (.func (.func 47) #[] #[.pointer (some ⟨b, 0, none⟩)]) .nilFunc).run Tryd.prog w = .ok (.bool false) w := by kernel_rfl
theorem open_lay {b : List UInt8} {L : List Ent} (ho : openE b = (some L, 0)) (A : Option Addr) (n c : Nat) (w : World) (hs : Sl w A n c b) (ht : TabAt 0 w) :
    Calls Tryd.prog 12 #[.slice A n c] w fun e z => ∃ g, e = .returned (.tuple #[.pointer (some ⟨g, 0, none⟩), .int .i64 0]) ∧ BkR z (resB b) g L ∧ Below w.heap.size w z :=
  (open_any b A n c w hs ht).mono fun e z h => by
    rcases h with ⟨L', g, os, h1, h2, h3, h4⟩ | ⟨h1, _⟩
    · rw [ho] at h1
      injection h1 with h1
      subst h1
      exact ⟨g, h2, h3.reads (rest := []) (by rw [List.append_nil]; exact h4), h4.up⟩
    · rw [ho] at h1; cases h1
theorem open_none {b : List UInt8} {k : Int} (ho : openE b = (none, k)) (A : Option Addr) (n c : Nat) (w : World) (hs : Sl w A n c b) (ht : TabAt 0 w) :
    Calls Tryd.prog 12 #[.slice A n c] w fun e z => e = .returned (.tuple #[.pointer none, .int .i64 k]) ∧ Below w.heap.size w z :=
  (open_any b A n c w hs ht).mono fun e z h => by
    rcases h with ⟨L', g, os, h1, _⟩ | ⟨_, h2, h3⟩
    · rw [ho] at h1; cases h1
    · rw [ho] at h2; exact ⟨h2, h3⟩
theorem at_in {x : World} {R g : Nat} {L : List Ent} (h : BkR x R g L) (hL : ∀ e, e ∈ L → e.row.length ≤ 140737488355000 ∧ e.qual.length ≤ 140737488355000 ∧ e.val.length ≤ 140737488355000) {k : Nat} {e : Ent} (hk : L[k]? = some e) :
    Calls Tryd.prog 26 #[.pointer (some ⟨g, 0, none⟩), .int .i64 k] x (OwnP (fun v => .tuple #[v, .int .i64 0]) e x) :=
  (at_any h hL (k : Int)).mono fun r z hp => by
    rcases hp with ⟨k', e', h1, h2, h3⟩ | ⟨h1, _⟩
    · obtain rfl : k = k' := by omega
      rw [hk] at h2
      injection h2 with h2
      subst h2
      exact h3
    · have := (List.getElem?_eq_some_iff.1 hk).1; omega
theorem ens_three {x : World} {e1 e2 e3 : Ent} {A1 B1 D1 A2 B2 D2 A3 B3 D3 : Option Addr} {c1 d1 q1 c2 d2 q2 c3 d3 q3 : Nat} (C : Array Value) {A : Option Addr} (hC : C.toList = [.slice A1 e1.row.length c1, .int .i64 e1.fam, .slice B1 e1.qual.length d1, .int .i64 e1.ts, .int .i64 e1.seq, .int .i64 e1.kind, .slice D1 e1.val.length q1, .slice A2 e2.row.length c2, .int .i64 e2.fam, .slice B2 e2.qual.length d2, .int .i64 e2.ts, .int .i64 e2.seq, .int .i64 e2.kind, .slice D2 e2.val.length q2, .slice A3 e3.row.length c3, .int .i64 e3.fam, .slice B3 e3.qual.length d3, .int .i64 e3.ts, .int .i64 e3.seq, .int .i64 e3.kind, .slice D3 e3.val.length q3])
    (hr : Reads x x.heap.size 7 A 3 C.toList) (h1 : En x A1 e1.row.length c1 B1 e1.qual.length d1 D1 e1.val.length q1 e1) (h2 : En x A2 e2.row.length c2 B2 e2.qual.length d2 D2 e2.val.length q2 e2) (h3 : En x A3 e3.row.length c3 B3 e3.qual.length d3 D3 e3.val.length q3 e3) : Ens x A 3 [e1, e2, e3] := by
  refine ⟨[⟨A1, c1, B1, d1, D1, q1, e1⟩, ⟨A2, c2, B2, d2, D2, q2, e2⟩, ⟨A3, c3, B3, d3, D3, q3, e3⟩], rfl, ?_, fun r hr => ?_⟩
  · rw [hC] at hr; exact hr
  · rcases List.mem_cons.1 hr with rfl | hr
    · exact h1
    · rcases List.mem_cons.1 hr with rfl | hr
      · exact h2
      · rw [List.mem_singleton.1 hr]; exact h3
set_option maxRecDepth 100000 in
set_option maxHeartbeats 4000000 in
theorem told_any (w : World) (ht : TabAt 0 w) : Calls Tryd.prog 11 #[] w fun e z => e = .returned (.bool true) ∧ Below w.heap.size w z := by
  have HTB : Hid (∀ z, Below w.heap.size w z → TabAt 0 z) := Lib.hid fun z hz => ht.later hz
  clear ht
  obtain ⟨L, hL⟩ : ∃ z, z = toldL := ⟨_, rfl⟩
  obtain ⟨tb, htb⟩ : ∃ z, z = toldB := ⟨_, rfl⟩
  obtain ⟨tn, htn⟩ : ∃ z, z = tb.length := ⟨_, rfl⟩
  have HB5 : Hid (buildE5 2 L = (tb, 0)) := Lib.hid (by rw [hL, htb]; exact told_build)
  have HOP : Hid (openE tb = (some L, 0)) := Lib.hid (by rw [htb, hL]; exact told_open.1)
  have HRB : Hid (resB tb = 2) := Lib.hid (by rw [htb]; exact told_open.2)
  have HTN := Lib.hid htn.symm
  have HSK : Hid (seekL L [] = 0) := Lib.hid (by rw [hL]; exact told_seek)
  have HLN : Hid (L.length = 3) := Lib.hid (by rw [hL]; rfl)
  have HL1 : Hid (L[1]? = some (atE 4)) := Lib.hid (by rw [hL]; rfl)
  have HLE : Hid (L = [atE 5, atE 4, atE 3]) := Lib.hid hL
  have HAS : Hid (Asc (L.map keyE)) := Lib.hid (by rw [hL]; exact build_asc told_build)
  have HBD : Hid (∀ e, e ∈ L → e.row.length ≤ 140737488355000 ∧ e.qual.length ≤ 140737488355000 ∧ e.val.length ≤ 140737488355000) := Lib.hid (by
    intro e he
    rw [hL] at he
    rcases List.mem_cons.1 he with rfl | he
    · refine ⟨?_, ?_, ?_⟩ <;> decide
    · rcases List.mem_cons.1 he with rfl | he
      · refine ⟨?_, ?_, ?_⟩ <;> decide
      · rw [List.mem_singleton.1 he]; refine ⟨?_, ?_, ?_⟩ <;> decide)
  have XS : Hid (∀ l : List UInt8, (l == l) = true) := Lib.hid (by simp)
  have htnb : tn ≤ 131072 := by
    have h9 : sizeS (runB 2 toldL) ≤ 131072 := by
      have := buildK_size 2 toldL [] (by show 9 ≤ 131072; decide) (build_parts told_build).2.2.1
      simpa using this
    have h8 := (build_parts told_build).2.2.2.2.1
    rw [htn, htb, h8, layS_len]; exact h9
  clear hL htb htn
  have tk1 : True := trivial
  have tk2 : True := trivial
  go_enter Tryd.func11, Tryd.ntmps11
  go_upto_region 2 with (first
    | (go_at_call 20; have _t := tk1; go_must (refine (atE_any 5 _).mono ?_); rintro r x1 ⟨A1, B1, D1, rfl, he, hb⟩; have HW1 := Lib.hid hb; have HE1 := Lib.hid he; clear hb he tk1)
    | (go_at_call 20; have _t := tk2; go_must (refine (atE_any 4 _).mono ?_); rintro r x2 ⟨A2, B2, D2, rfl, he, hb⟩; have HW2 := Lib.hid (below_up HW1.out hb); have HE12 := Lib.hid (HE1.out.later hb); have HE2 := Lib.hid he; clear hb he tk2)
    | (go_at_call 20; go_must (refine (atE_any 3 _).mono ?_); rintro r x3 ⟨A3, B3, D3, rfl, he, hb⟩; have HW3 := Lib.hid (below_up HW2.out hb); have HE13 := Lib.hid (HE12.out.later hb); have HE23 := Lib.hid (HE2.out.later hb); have HE3 := Lib.hid he; clear hb he)
    | (refine wl_build rfl #[(0, .tmp 14), (1, .tmp 15), (2, .tmp 16)] rfl #[.slice A1 1 1, .int .i64 0, .slice B1 1 1, .int .i64 5, .int .i64 32, .int .i64 1, .slice D1 1 1, .slice A2 1 1, .int .i64 0, .slice B2 1 1, .int .i64 4, .int .i64 32, .int .i64 1, .slice D2 1 1, .slice A3 1 1, .int .i64 0, .slice B3 1 1, .int .i64 3, .int .i64 32, .int .i64 1, .slice D3 1 1] Tryd.entsS (.agg #[.slice none 0 0, .int .i64 0, .slice none 0 0, .int .i64 0, .int .i64 0, .int .i64 0, .slice none 0 0]) (by kernel_rfl) (by decide) (by decide) (by decide) rfl (by kernel_rfl) (OW.nil x3) ?_; intro gl x4 hz hb; have HW4 := Lib.hid (below_up HW3.out hb); have HES4 : Hid (Ens x4 (some ⟨gl, 0, none⟩) 3 L) := Lib.hid (by rw [HLE.out]; exact ens_three #[.slice A1 1 1, .int .i64 0, .slice B1 1 1, .int .i64 5, .int .i64 32, .int .i64 1, .slice D1 1 1, .slice A2 1 1, .int .i64 0, .slice B2 1 1, .int .i64 4, .int .i64 32, .int .i64 1, .slice D2 1 1, .slice A3 1 1, .int .i64 0, .slice B3 1 1, .int .i64 3, .int .i64 32, .int .i64 1, .slice D3 1 1] rfl (Reads.own (OW.row hz (i := 0) rfl)) (HE13.out.later hb) (HE23.out.later hb) (HE3.out.later hb)); clear hz hb))
  have tk3 : True := trivial
  have hfn := all_not_nil
  go_upto_region 10 with (first
    | (go_at_call 10; go_must (refine (build_any 2 L _ 3 3 _ HES4.out (by omega) (HTB.out _ HW4.out)).mono ?_); rw [HB5.out]; rintro r x5 hp; obtain ⟨A5, c5, rfl, hs5, _, hb⟩ := hp.at_ HTN.out rfl; have HW5 := Lib.hid (below_up HW4.out hb); have HES5 := Lib.hid (HES4.out.later hb); have HS5 := Lib.hid hs5; clear hp hb hs5)
    | (go_at_call 21; go_must (refine (rbuild_any 2 L _ 3 3 _ HES5.out (by omega)).mono ?_); rw [HB5.out]; rintro r x6 hp; obtain ⟨A6, c6, rfl, hs6, _, hb⟩ := hp.at_ HTN.out rfl; have HW6 := Lib.hid (below_up HW5.out hb); have HS56 := Lib.hid (HS5.out.later hb); have HS6 := Lib.hid hs6; clear hp hb hs6)
    | (go_at_call 22; go_must (refine (begin_ok 2 _ (by decide) (by decide)).mono ?_); rintro r x7 ⟨g7, os7, rfl, _, hx⟩; have HW7 := Lib.hid (below_up HW6.out hx.up); have HS57 := Lib.hid (HS56.out.later hx.up); have HS67 := Lib.hid (HS6.out.later hx.up); clear hx)
    | (go_at_call 16; go_must (refine (same_any tb tb A5 A6 tn c5 tn c6 _ (by omega) HS57.out.rb HS67.out.rb).mono ?_); rw [XS.out]; rintro r x8 ⟨rfl, hb⟩; have HW8 := Lib.hid (below_up HW7.out hb); have HS58 := Lib.hid (HS57.out.later hb); clear hb)
    | (go_at_call 12; have _t := tk3; go_must (refine (open_lay HOP.out A5 tn c5 _ HS58.out (HTB.out _ HW8.out)).mono ?_); rw [HRB.out]; rintro r x9 ⟨g, rfl, hk, hb⟩; have HW9 := Lib.hid (below_up HW8.out hb); have HK9 := Lib.hid hk; clear hk hb tk3)
    | (go_at_call 13; go_must (refine (len_any HK9.out).mono ?_); rw [HLN.out]; rintro r y1 ⟨rfl, hb⟩; have HW10 := Lib.hid (below_up HW9.out hb); have HK10 := Lib.hid (HK9.out.later hb); clear hb)
    | (go_at_call 17; go_must (refine (seek_any HK10.out ⟨by decide, by decide⟩ (by rw [HLN.out]; decide) (by rw [HLN.out]; decide) HAS.out [] none 0 0 (Sl.none _)).mono ?_); rw [HSK.out]; rintro r y2 ⟨rfl, hb⟩; have HW11 := Lib.hid (below_up HW10.out hb); have HK11 := Lib.hid (HK10.out.later hb); clear hb)
    | (go_at_call 14; go_must (refine (all_any g _).mono ?_); rintro r y3 ⟨b3, rfl, _, _, hb⟩; have HW12 := Lib.hid (below_up HW11.out hb); have HK12 := Lib.hid (HK11.out.later hb); clear hb))
  clear hfn
  go_upto_region 12 with (first
    | (go_at_call 26; go_must (refine (at_in HK12.out HBD.out (k := 1) HL1.out).mono ?_); rintro r y4 ⟨A7, B7, D7, rfl, h1, h2, h3, hx⟩; have HW13 := Lib.hid (below_up HW12.out hx.up); have HEN : Hid (En y4 A7 (atE 4).row.length (atE 4).row.length B7 (atE 4).qual.length (atE 4).qual.length D7 (atE 4).val.length (atE 4).val.length (atE 4)) := Lib.hid (OwnP.en h1 h2 h3 ⟨by decide, by decide, by decide⟩ hx); have HX := Lib.hid (OW.nil y4); clear h1 h2 h3 hx)
    | (refine wl_alloc rfl rfl [.slice none 0 0, .int .i64 0, .slice none 0 0, .int .i64 0, .int .i64 0, .int .i64 0, .slice none 0 0] (.inl (by kernel_rfl)) HX.out ?_; intro ge x8 hz _; have HX8 := Lib.hid hz; clear hz HX)
    | (refine wl_put rfl (.tmp 10) (.tmp 77) rfl HX8.out 0 rfl rfl [.slice A7 (atE 4).row.length (atE 4).row.length, .int .i64 (atE 4).fam, .slice B7 (atE 4).qual.length (atE 4).qual.length, .int .i64 (atE 4).ts, .int .i64 (atE 4).seq, .int .i64 (atE 4).kind, .slice D7 (atE 4).val.length (atE 4).val.length] rfl rfl (by kernel_rfl) (by simp [Value.oneCell']) ?_; intro z9 hz _; have HX9 : Hid (OW y4 [boxO ge [.slice A7 (atE 4).row.length (atE 4).row.length, .int .i64 (atE 4).fam, .slice B7 (atE 4).qual.length (atE 4).qual.length, .int .i64 (atE 4).ts, .int .i64 (atE 4).seq, .int .i64 (atE 4).kind, .slice D7 (atE 4).val.length (atE 4).val.length]] z9) := Lib.hid hz; clear hz HX8)
    | (go_at_call 12; go_must (refine (open_none told_nil none 0 0 _ (Sl.none _) (HTB.out _ (below_up HW13.out HX9.out.up))).mono ?_); rintro r z10 ⟨rfl, hb⟩; have HX10 := Lib.hid (HX9.out.later hb); clear hb))
  refine lt_start [] (by kernel_rfl) ?_
  intro xd hd
  refine ⟨fun z => OW y4 [boxO ge [.slice A7 (atE 4).row.length (atE 4).row.length, .int .i64 (atE 4).fam, .slice B7 (atE 4).qual.length (atE 4).qual.length, .int .i64 (atE 4).ts, .int .i64 (atE 4).seq, .int .i64 (atE 4).kind, .slice D7 (atE 4).val.length (atE 4).val.length]] z, ?_⟩
  have HS := Lib.hid (HX10.out.later hd)
  refine lt_pure 0 rfl (by kernel_rfl) (by kernel_rfl) (by kernel_rfl) (by kernel_rfl) (fun _ _ _ h => h) (v := ?_) (yi_run rfl (fun w => ?_)) (fun _ => HS.out) ?_
  rotate_left
  · first | (go_simp; done) | (go_simp; with_reducible rfl)
  simp only [Act.put, List.setIfInBounds_toArray, List.set_cons_zero, List.set_cons_succ]
  refine lt_pure 1 rfl (by kernel_rfl) (by kernel_rfl) (by kernel_rfl) (by kernel_rfl) (fun _ _ _ h => h) (v := ?_) (yi_run rfl (fun w => ?_)) (fun _ => HS.out) ?_
  rotate_left
  · first | (go_simp; done) | (go_simp; with_reducible rfl)
  simp only [Act.put, List.setIfInBounds_toArray, List.set_cons_zero, List.set_cons_succ]
  refine lt_pure 2 rfl (by kernel_rfl) (by kernel_rfl) (by kernel_rfl) (by kernel_rfl) (fun _ _ _ h => h) (v := ?_) (yi_run rfl (fun w => ?_)) (fun _ => HS.out) ?_
  rotate_left
  · first | (go_simp; done) | (go_simp; with_reducible rfl)
  simp only [Act.put, List.setIfInBounds_toArray, List.set_cons_zero, List.set_cons_succ]
  refine lt_take 3 [5, 6, 7, 8, 9, 10, 11, 12, 13, 14, 15] rfl (by kernel_rfl) (by kernel_rfl) (by kernel_rfl) (by kernel_rfl) (by kernel_rfl) (fun _ _ _ h => h) (yi_row rfl rfl rfl (fun w hS => OW.range hS (i := 0) rfl) ent_row5) HS.out ?_
  simp only [Act.put, List.setIfInBounds_toArray, List.set_cons_zero, List.set_cons_succ]
  refine lt_call 4 rfl (by kernel_rfl) rfl rfl ⟨_, Tryd.func20, by decide, by kernel_rfl⟩ [.int .i64 4] rfl ?_
  refine (atE_any 4 _).mono ?_
  rintro r z11 ⟨A8, B8, D8, rfl, he, hb⟩
  have HE8 := Lib.hid he
  have HEN8 := Lib.hid (HEN.out.later (HS.out.up.trans (hb.mono HS.out.up.size)))
  replace HS := Lib.hid (HS.out.later hb)
  clear he hb
  refine ⟨_, rfl, fun _ => HS.out, ?_⟩
  simp only [Act.put, List.setIfInBounds_toArray, List.set_cons_zero, List.set_cons_succ]
  refine lt_call 5 rfl (by kernel_rfl) rfl rfl ⟨_, Tryd.func15, by decide, by kernel_rfl⟩ [entV A7 (atE 4).row.length (atE 4).row.length B7 (atE 4).qual.length (atE 4).qual.length D7 (atE 4).val.length (atE 4).val.length (atE 4), entV A8 1 1 B8 1 1 D8 1 1 (atE 4)] rfl ?_
  refine (sameEntry_any (atE 4) (atE 4) A7 _ _ B7 _ _ D7 _ _ A8 1 1 B8 1 1 D8 1 1 _ rfl HEN8.out HE8.out).mono ?_
  rintro r z12 ⟨rfl, hb⟩
  replace HS := Lib.hid (HS.out.later hb)
  clear hb
  refine ⟨_, rfl, fun _ => HS.out, ?_⟩
  simp only [Act.put, List.setIfInBounds_toArray, List.set_cons_zero, List.set_cons_succ]
  refine lt_pure 6 rfl (by kernel_rfl) (by kernel_rfl) (by kernel_rfl) (by kernel_rfl) (fun _ _ _ h => h) (v := ?_) (yi_run rfl (fun w => ?_)) (fun _ => HS.out) ?_
  rotate_left
  · first | (go_simp; done) | (go_simp; with_reducible rfl)
  simp only [Act.put, List.setIfInBounds_toArray, List.set_cons_zero, List.set_cons_succ]
  refine lt_pure 7 rfl (by kernel_rfl) (by kernel_rfl) (by kernel_rfl) (by kernel_rfl) (fun _ _ _ h => h) (v := ?_) (yi_run rfl (fun w => ?_)) (fun _ => HS.out) ?_
  rotate_left
  · first | (go_simp; done) | (go_simp; with_reducible rfl)
  simp only [Act.put, List.setIfInBounds_toArray, List.set_cons_zero, List.set_cons_succ]
  refine lt_pure 8 rfl (by kernel_rfl) (by kernel_rfl) (by kernel_rfl) (by kernel_rfl) (fun _ _ _ h => h) (v := ?_) (yi_run rfl (fun w => ?_)) (fun _ => HS.out) ?_
  rotate_left
  · first | (go_simp; done) | (go_simp; with_reducible rfl)
  simp only [Act.put, List.setIfInBounds_toArray, List.set_cons_zero, List.set_cons_succ]
  refine lt_pure 9 rfl (by kernel_rfl) (by kernel_rfl) (by kernel_rfl) (by kernel_rfl) (fun _ _ _ h => h) (v := ?_) (yi_run rfl (fun w => ?_)) (fun _ => HS.out) ?_
  rotate_left
  · first | (go_simp; done) | (go_simp; with_reducible rfl)
  simp only [Act.put, List.setIfInBounds_toArray, List.set_cons_zero, List.set_cons_succ]
  refine lt_pure 10 rfl (by kernel_rfl) (by kernel_rfl) (by kernel_rfl) (by kernel_rfl) (fun _ _ _ h => h) (v := ?_) (yi_run rfl (fun w => ?_)) (fun _ => HS.out) ?_
  rotate_left
  · first | (go_simp; done) | (go_simp; with_reducible rfl)
  simp only [Act.put, List.setIfInBounds_toArray, List.set_cons_zero, List.set_cons_succ]
  refine lt_pure 11 rfl (by kernel_rfl) (by kernel_rfl) (by kernel_rfl) (by kernel_rfl) (fun _ _ _ h => h) (v := ?_) (yi_run rfl (fun w => ?_)) (fun _ => HS.out) ?_
  rotate_left
  · first | (go_simp; done) | (go_simp; with_reducible rfl)
  simp only [Act.put, List.setIfInBounds_toArray, List.set_cons_zero, List.set_cons_succ]
  refine lt_pure 12 rfl (by kernel_rfl) (by kernel_rfl) (by kernel_rfl) (by kernel_rfl) (fun _ _ _ h => h) (v := ?_) (yi_run rfl (fun w => ?_)) (fun _ => HS.out) ?_
  rotate_left
  · first | (go_simp; done) | (go_simp; with_reducible rfl)
  simp only [Act.put, List.setIfInBounds_toArray, List.set_cons_zero, List.set_cons_succ]
  refine lt_pure 13 rfl (by kernel_rfl) (by kernel_rfl) (by kernel_rfl) (by kernel_rfl) (fun _ _ _ h => h) (v := ?_) (yi_run rfl (fun w => ?_)) (fun _ => HS.out) ?_
  rotate_left
  · first | (go_simp; done) | (go_simp; with_reducible rfl)
  simp only [Act.put, List.setIfInBounds_toArray, List.set_cons_zero, List.set_cons_succ]
  refine lt_pure 14 rfl (by kernel_rfl) (by kernel_rfl) (by kernel_rfl) (by kernel_rfl) (fun _ _ _ h => h) (v := ?_) (yi_run rfl (fun w => ?_)) (fun _ => HS.out) ?_
  rotate_left
  · first | (go_simp; done) | (go_simp; with_reducible rfl)
  simp only [Act.put, List.setIfInBounds_toArray, List.set_cons_zero, List.set_cons_succ]
  refine lt_pure 15 rfl (by kernel_rfl) (by kernel_rfl) (by kernel_rfl) (by kernel_rfl) (fun _ _ _ h => h) (v := ?_) (yi_run rfl (fun w => ?_)) (fun _ => HS.out) ?_
  rotate_left
  · first | (go_simp; done) | (go_simp; with_reducible rfl)
  simp only [Act.put, List.setIfInBounds_toArray, List.set_cons_zero]
  refine lt_done (by kernel_rfl) ?_
  have HS9 := HS
  clear HS
  have HX11 := Lib.hid HS9.out
  go_wp2_with fail
  go_ret
  exact ⟨rfl, below_up HW13.out HX11.out.up⟩
end Go.Proofs.YtmigjipfomfacaaDoor
