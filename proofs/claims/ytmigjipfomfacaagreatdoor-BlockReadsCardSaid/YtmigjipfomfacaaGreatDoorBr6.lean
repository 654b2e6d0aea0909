/-
  Laid together by merge.py: BlockD2, BlockR2, BlockQ2, CellW8, CellR6, CellP4, CellW9, BlockL1, BlockL2, BlockA1, PutK, BlockQ3, FullK, FullK2, BlockM1.
-/
import Derived.Test.YtmigjipfomfacaaGreatDoorBr5
import Derived.Test.YtmigjipfomfacaaGreatDoorBr2
import Derived.Test.YtmigjipfomfacaaGreatDoorBr1
import Derived.Test.YtmigjipfomfacaaGreatDoorBr4
import Derived.Deep.DeepCutAuto
import Derived.Test.YtmigjipfomfacaaGreatDoorBr3
import Derived.Lib.SlBytesConst
namespace Go.Proofs.YtmigjipfomfacaaGreatDoor
open Go.RowKit
def beginI (R : Int) : Int := if R < 1 ∨ 16 < R then 1 else 0
theorem rbegin_any (R : Int) (w : World) : Calls Tryz.prog 36 #[.int .i64 R] w fun e w' => e = .returned (.int .i64 (beginI R)) ∧ w = w' := by
  by_cases h1 : R < 1
  · have hd : decide (R < 1) = true := decide_eq_true h1
    have HP : Hid (beginI R = 1) := Lib.hid (if_pos (.inl h1))
    go_enter Tryz.func36, Tryz.ntmps36
    go_wp2_with fail
    go_ret
    exact ⟨by rw [HP.out]; rfl, rfl⟩
  have hd : decide (R < 1) = false := decide_eq_false h1
  by_cases h2 : 16 < R
  · have hd2 : decide (R > 16) = true := decide_eq_true h2
    have HP : Hid (beginI R = 1) := Lib.hid (if_pos (.inr h2))
    go_enter Tryz.func36, Tryz.ntmps36
    go_wp2_with fail
    go_ret
    exact ⟨by rw [HP.out]; rfl, rfl⟩
  have hd2 : decide (R > 16) = false := decide_eq_false h2
  have HP : Hid (beginI R = 0) := Lib.hid (if_neg (by omega))
  go_enter Tryz.func36, Tryz.ntmps36
  go_wp2_with fail
  go_ret
  exact ⟨by rw [HP.out]; rfl, rfl⟩
theorem rCheckE_any (e : Ent) (A : Option Addr) (n c : Nat) (B : Option Addr) (m d : Nat) (D : Option Addr) (v q : Nat) (w : World) (h : En w A n c B m d D v q e) : Calls Tryz.prog 43 #[entV A n c B m d D v q e] w fun r y => r = .returned (.int .i64 (checkE e)) ∧ Below w.heap.size w y := by
  have h1 := h.row.len
  have h2 := h.qual.len
  have h3 := h.val.len
  unfold checkE
  rw [h1, h2, h3]
  exact rCheck_any A n c e.fam B m d e.ts e.seq e.kind D v q w
theorem buildK_at {R : Nat} {es : List Ent} {k : Nat} {e : Ent} (hk : es[k]? = some e) (h0 : (buildK R [] (es.take k)).1 = 0) : (addC R (es.take k) e = 0 → (buildK R [] (es.take (k + 1))).1 = 0) ∧ (∀ er, addC R (es.take k) e = er → er ≠ 0 → buildE5 (R : Int) es = ([], if (R : Int) < 1 ∨ 16 < (R : Int) then 1 else er)) :=
  ⟨fun h => ((addC_step hk h0).1 h).2, fun er h hne => by
    have h1 := (addC_step hk h0).2 (by rw [h]; exact hne)
    unfold buildE5
    split
    · rfl
    · rw [Int.toNat_natCast, if_neg (by rw [h1, h]; exact hne), h1, h]⟩
theorem build_alike {R : Nat} {L : List Ent} (h : (buildK R [] L).1 = 0) : ∀ k e, L[k]? = some e → alikeB R (runB R (L.take k)) (keyE e) < (keyE e).length := fun k e hk => by
  have hc := buildK_checked R L [] (fun l h => by cases h) h
  rw [List.nil_append] at hc
  have e1 : L = L.take k ++ L.drop k := (List.take_append_drop k L).symm
  have h0 : (buildK R [] (L.take k)).1 = 0 := by
    have h2 := buildK_app R (L.take k) [] (L.drop k)
    rw [← e1] at h2
    by_cases h3 : (buildK R [] (L.take k)).1 = 0
    · exact h3
    · rw [if_neg h3] at h2; rw [h2] at h; exact absurd h h3
  have hs := addC_step hk h0
  have ha : addC R (L.take k) e = 0 := by
    by_cases h3 : addC R (L.take k) e = 0
    · exact h3
    · have := hs.2 h3; rw [h] at this; exact absurd this.symm h3
  refine alike_lt (fun l hl => hc l (List.mem_of_mem_take hl)) (hc e (List.mem_of_getElem? hk)) ?_
  intro h4
  unfold addC at ha
  rw [if_neg (by rw [hc e (List.mem_of_getElem? hk)]; decide), if_pos h4] at ha
  cases ha
theorem size_step (R : Nat) (s : BSt) (k v : List UInt8) : sizeS (stepB R s k v) = sizeS s + (if s.n % R = 0 then 4 else 0) + (rowK (alikeB R s k) k v).length := by
  have h1 : (stepB R s k v).body = s.body ++ rowK (alikeB R s k) k v := rfl
  have h2 : (stepB R s k v).places = placesB R s := rfl
  unfold sizeS
  rw [h1, h2, List.length_append]
  unfold placesB
  split
  · rw [List.length_append]; show _ + _ + 4 * (_ + 1) + 9 = _; omega
  · omega
set_option maxRecDepth 100000 in
set_option maxHeartbeats 4000000 in
theorem rbuild_any (R : Int) (es : List Ent) (A : Option Addr) (n c : Nat) (w : World) (hes : Ens w A n es) (hn : n ≤ 500000) :
    Calls Tryz.prog 27 #[.int .i64 R, .slice A n c] w (BytesPost2 5 (buildE5 R es).1 (buildE5 R es).2 w) := by
  have HLE := Lib.hid hes.len
  have HES : Hid (∀ z, Below w.heap.size w z → Ens z A n es) := Lib.hid fun z hz => hes.later hz
  clear hes
  by_cases hR : R < 1 ∨ 16 < R
  case pos =>
    have HP : Hid (buildE5 R es = ([], 1)) := Lib.hid (by unfold buildE5; rw [if_pos hR])
    have HB : Hid (beginI R = 1) := Lib.hid (if_pos hR)
    clear hR
    go_enter Tryz.func27, Tryz.ntmps27
    go_wp2_with (go_at_call 36; go_must (refine (rbegin_any R _).mono ?_); rw [HB.out]; rintro r z1 ⟨rfl, rfl⟩)
    go_ret2
    rw [HP.out]
    exact bytes_post2 (n := 0) (own_nil _ _ _ _) (Below.refl _ _)
  obtain ⟨r, rfl⟩ : ∃ r : Nat, R = (r : Int) := ⟨R.toNat, by omega⟩
  have hr1 : 1 ≤ r := by omega
  have hr2 : r ≤ 16 := by omega
  have HB : Hid (beginI (r : Int) = 0) := Lib.hid (if_neg hR)
  have HRR := Lib.hid hR
  have HX0 : Hid (OW w [bytO 5 (none, 0, [])] w) := Lib.hid ((OW.nil w).nilB 5)
  have r0 : ((r : Int) == 0) = false := beq_eq_false_iff_ne.2 (by omega)
  have r1 : ¬ r = 0 := by omega
  clear hR
  go_enter Tryz.func27, Tryz.ntmps27
  go_wp2_with (go_at_call 36; go_must (refine (rbegin_any (r : Int) _).mono ?_); rw [HB.out]; rintro e z1 ⟨rfl, rfl⟩)
  go_loopw [6, 7, 8, 9] (fun _ sv lv iv wr => ∃ (k sz kl : Nat) (Al : Option Addr) (cl : Nat), k ≤ n ∧ sz ≤ 131072 ∧ kl ≤ 1048 ∧ iv = .int .i64 k ∧ sv = .int .i64 sz ∧ lv = .slice Al kl cl ∧ Hid ((buildK r [] (es.take k)).1 = 0) ∧ Hid (sz = sizeS (runB r (es.take k))) ∧ Hid ((runB r (es.take k)).key.length = kl) ∧ Hid (OW w [bytO 5 (Al, cl, (runB r (es.take k)).key)] wr)) (fun _ _ _ iv _ => n - (intOf iv).toNat)
  case atStart => exact ⟨0, 9, 0, none, 0, Nat.zero_le _, by omega, Nat.zero_le _, rfl, rfl, rfl, Lib.hid rfl, Lib.hid rfl, Lib.hid rfl, HX0⟩
  case round =>
    clear HX0
    obtain ⟨k, sz, kl, Al, cl, hk, hsz, hkl, rfl, rfl, rfl, HBK, HSZ, HK, HX⟩ := hrel
    obtain ⟨s, hs⟩ : ∃ z, z = runB r (es.take k) := ⟨_, rfl⟩
    rw [← hs] at HSZ HK HX
    have HN : Hid (s.n = k) := Lib.hid (by rw [hs, runB_n, List.length_take]; have := HLE.out; omega)
    have HS := Lib.hid hs
    clear hs
    by_cases hlt : k < n
    case neg =>
      have hdk : decide ((k : Int) < (n : Int)) = false := decide_eq_false (by omega)
      have hkn : k = n := by omega
      have HT : Hid (es.take k = es) := Lib.hid (take_all (by have := HLE.out; omega))
      have HPF : Hid (buildE5 (r : Int) es = finE r es) := Lib.hid (by
        have h := HBK.out
        rw [HT.out] at h
        unfold buildE5
        rw [if_neg HRR.out, Int.toNat_natCast, if_pos h])
      subst hkn
      by_cases h0 : k = 0
      · have HPE : Hid (finE r es = ([], 54)) := Lib.hid (by unfold finE; rw [if_pos (List.eq_nil_of_length_eq_zero (by rw [HLE.out, h0]))])
        have hd0 : ((k : Int) == 0) = true := by rw [h0]; rfl
        clear h0
        go_wp2_with fail
        go_ret2
        rw [HPF.out, HPE.out]
        exact bytes_post2 (n := 0) (own_nil _ _ _ _) HX.out.up
      · have HPE : Hid (finE r es = (layB r es, 0)) := Lib.hid (by unfold finE; rw [if_neg]; intro h; have := HLE.out; rw [h] at this; exact h0 (by simpa using this.symm))
        have hd0 : ((k : Int) == 0) = false := beq_eq_false_iff_ne.2 (by omega)
        have HCC : Hid (∀ l, l ∈ es → checkE l = 0) := Lib.hid (by
          have h := HBK.out
          rw [HT.out] at h
          have := buildK_checked r es [] (fun l h => by cases h) h
          simpa using this)
        have HAA := Lib.hid (build_alike (R := r) (L := es) (by have h := HBK.out; rwa [HT.out] at h))
        clear h0
        go_wp2_with (go_at_call 52; go_must (refine (rlay_any r es A k c _ (HES.out _ HX.out.up) hn ⟨hr1, hr2⟩ HCC.out HAA.out).mono ?_); rintro e z2 hp; obtain ⟨A2, c2, rfl, ho, hb⟩ := hp; have HO2 := Lib.hid ho; have HB2 := Lib.hid (HX.out.up.trans (hb.mono HX.out.up.size)); have HX2 := Lib.hid HX.out.up.size; clear ho hb)
        go_ret2
        rw [HPF.out, HPE.out]
        exact ⟨A2, c2, rfl, own_rebase HO2.out HX2.out, HB2.out⟩
    have hdk : decide ((k : Int) < (n : Int)) = true := decide_eq_true (by omega)
    obtain ⟨b, o, Ar, ec, B, d, D, q, e, rfl, hbl2, hek, hrg, hen⟩ := (HES.out w (Below.refl _ _)).at_ hlt
    have HRG : Hid (∀ z, Below w.heap.size w z → z.rangeAt b (o + k * 7) [.slice Ar e.row.length ec, .int .i64 e.fam, .slice B e.qual.length d, .int .i64 e.ts, .int .i64 e.seq, .int .i64 e.kind, .slice D e.val.length q]) := Lib.hid fun z hz j v hj => (hz.cell (p := ⟨b, _, none⟩) hbl2).trans (hrg j v hj)
    have HEN : Hid (∀ z, Below w.heap.size w z → En z Ar e.row.length ec B e.qual.length d D e.val.length q e) := Lib.hid fun z hz => hen.later hz
    have HAT := Lib.hid (buildK_at (R := r) hek HBK.out)
    have HEK := Lib.hid hek
    have i1 : (0 : Int) ≤ (k : Int) := by omega
    have i2 : (k : Int) < (n : Int) := by omega
    obtain ⟨ce, hce⟩ : ∃ z, z = checkE e := ⟨_, rfl⟩
    have HCE := Lib.hid hce.symm
    clear hek hrg hen hce
    by_cases hc : ce = 0
    case neg =>
      have hd1 : (ce != 0) = true := bne_iff_ne.2 hc
      have HPF : Hid (buildE5 (r : Int) es = ([], ce)) := Lib.hid (by
        have h := HAT.out.2 ce (by unfold addC; rw [if_pos (by rw [HCE.out]; exact hc)]; exact HCE.out) hc
        rw [if_neg HRR.out] at h; exact h)
      clear hc
      go_wp2_with (first
        | (refine wpList_load_at rfl 46 (.tmp 26) rfl rfl (HRG.out _ HX.out.up) ent_row5 ?_)
        | (go_at_call 43; go_must (refine (rCheckE_any e Ar _ ec B _ d D _ q _ (HEN.out _ HX.out.up)).mono ?_); rw [HCE.out]; rintro r y1 ⟨rfl, hb⟩; have HB1 := Lib.hid (HX.out.up.trans (hb.mono HX.out.up.size)); clear hb))
      go_ret2
      rw [HPF.out]
      exact bytes_post2 (n := 0) (own_nil _ _ _ _) HB1.out
    have hd1 : (ce != 0) = false := by rw [hc]; rfl
    have HC0 : Hid (checkE e = 0) := Lib.hid (by rw [HCE.out]; exact hc)
    clear hc
    obtain ⟨bo, hbo⟩ : ∃ z : Bool, z = !lastOk (es.take k) e := ⟨_, rfl⟩
    have HBO := Lib.hid hbo
    clear hbo
    go_upto_region 12 with (first
      | (refine wpList_load_at rfl 46 (.tmp 26) rfl rfl (HRG.out _ HX.out.up) ent_row5 ?_)
      | (go_at_call 43; go_must (refine (rCheckE_any e Ar _ ec B _ d D _ q _ (HEN.out _ HX.out.up)).mono ?_); rw [HCE.out]; rintro r y1 ⟨rfl, hb⟩; have HX1 := Lib.hid (HX.out.later hb); clear hb HX))
    go_cut [46] (fun bv wx => bv = .bool bo ∧ Hid (OW w [bytO 5 (Al, cl, s.key)] wx))
    case first =>
      by_cases h0 : k = 0
      · have hb0 : bo = false := by rw [HBO.out, h0]; rfl
        have hd2 : decide ((k : Int) > 0) = false := decide_eq_false (by omega)
        have hd3 : ¬ (0 : Int) < (k : Int) := by omega
        have hd5 : ¬ 0 < k := by omega
        clear h0
        refine lt_start [] (by kernel_rfl) ?_
        intro xd hd
        refine ⟨fun z => OW w [bytO 5 (Al, cl, s.key)] z, ?_⟩
        have HS := Lib.hid (HX1.out.later hd)
        refine lt_pure 0 rfl (by kernel_rfl) (by kernel_rfl) (by kernel_rfl) (by kernel_rfl) (fun _ _ _ h => h) (v := ?_) (yi_run rfl (fun w => ?_)) (fun _ => HS.out) ?_
        rotate_left
        · first | (go_simp; done) | (go_simp; with_reducible rfl)
        simp only [Act.put, List.setIfInBounds_toArray, List.set_cons_zero, List.set_cons_succ]
        refine lt_pure 1 rfl (by kernel_rfl) (by kernel_rfl) (by kernel_rfl) (by kernel_rfl) (fun _ _ _ h => h) (v := ?_) (yi_run rfl (fun w => ?_)) (fun _ => HS.out) ?_
        rotate_left
        · first | (go_simp; done) | (go_simp; with_reducible rfl)
        simp only [Act.put, List.setIfInBounds_toArray, List.set_cons_zero, List.set_cons_succ]
        refine lt_pure 2 rfl (by kernel_rfl) (by kernel_rfl) (by kernel_rfl) (by kernel_rfl) (fun _ _ _ h => h) (v := ?_) (yi_run rfl (fun w => ?_)) (fun _ => HS.out) ?_
        rotate_left
        · first | (go_simp; done) | (go_simp; with_reducible rfl)
        simp only [Act.put, List.setIfInBounds_toArray, List.set_cons_zero, List.set_cons_succ]
        refine lt_skip 3 rfl (by kernel_rfl) (by kernel_rfl) (by kernel_rfl) (by kernel_rfl) (fun _ _ _ h => h) rfl (fun _ => HS.out) ?_
        simp only [Act.put, List.setIfInBounds_toArray, List.set_cons_zero, List.set_cons_succ]
        refine lt_skip 4 rfl (by kernel_rfl) (by kernel_rfl) (by kernel_rfl) (by kernel_rfl) (fun _ _ _ h => h) rfl (fun _ => HS.out) ?_
        simp only [Act.put, List.setIfInBounds_toArray, List.set_cons_zero, List.set_cons_succ]
        refine lt_skip 5 rfl (by kernel_rfl) (by kernel_rfl) (by kernel_rfl) (by kernel_rfl) (fun _ _ _ h => h) rfl (fun _ => HS.out) ?_
        simp only [Act.put, List.setIfInBounds_toArray, List.set_cons_zero, List.set_cons_succ]
        refine lt_skip 6 rfl (by kernel_rfl) (by kernel_rfl) (by kernel_rfl) (by kernel_rfl) (fun _ _ _ h => h) rfl (fun _ => HS.out) ?_
        simp only [Act.put, List.setIfInBounds_toArray, List.set_cons_zero, List.set_cons_succ]
        refine lt_skip 7 rfl (by kernel_rfl) (by kernel_rfl) (by kernel_rfl) (by kernel_rfl) (fun _ _ _ h => h) rfl (fun _ => HS.out) ?_
        simp only [Act.put, List.setIfInBounds_toArray, List.set_cons_zero, List.set_cons_succ]
        refine lt_skip 8 rfl (by kernel_rfl) (by kernel_rfl) (by kernel_rfl) (by kernel_rfl) (fun _ _ _ h => h) rfl (fun _ => HS.out) ?_
        simp only [Act.put, List.setIfInBounds_toArray, List.set_cons_zero, List.set_cons_succ]
        refine lt_skip 9 rfl (by kernel_rfl) (by kernel_rfl) (by kernel_rfl) (by kernel_rfl) (fun _ _ _ h => h) rfl (fun _ => HS.out) ?_
        simp only [Act.put, List.setIfInBounds_toArray, List.set_cons_zero, List.set_cons_succ]
        refine lt_skip 10 rfl (by kernel_rfl) (by kernel_rfl) (by kernel_rfl) (by kernel_rfl) (fun _ _ _ h => h) rfl (fun _ => HS.out) ?_
        simp only [Act.put, List.setIfInBounds_toArray, List.set_cons_zero, List.set_cons_succ]
        refine lt_skip 11 rfl (by kernel_rfl) (by kernel_rfl) (by kernel_rfl) (by kernel_rfl) (fun _ _ _ h => h) rfl (fun _ => HS.out) ?_
        simp only [Act.put, List.setIfInBounds_toArray, List.set_cons_zero, List.set_cons_succ]
        refine lt_skip 12 rfl (by kernel_rfl) (by kernel_rfl) (by kernel_rfl) (by kernel_rfl) (fun _ _ _ h => h) rfl (fun _ => HS.out) ?_
        simp only [Act.put, List.setIfInBounds_toArray, List.set_cons_zero, List.set_cons_succ]
        refine lt_skip 13 rfl (by kernel_rfl) (by kernel_rfl) (by kernel_rfl) (by kernel_rfl) (fun _ _ _ h => h) rfl (fun _ => HS.out) ?_
        simp only [Act.put, List.setIfInBounds_toArray, List.set_cons_zero, List.set_cons_succ]
        refine lt_pure 14 rfl (by kernel_rfl) (by kernel_rfl) (by kernel_rfl) (by kernel_rfl) (fun _ _ _ h => h) (v := ?_) (yi_run rfl (fun w => ?_)) (fun _ => HS.out) ?_
        rotate_left
        · first | (go_simp; done) | (go_simp; with_reducible rfl)
        simp only [Act.put, List.setIfInBounds_toArray, List.set_cons_zero, List.set_cons_succ]
        refine lt_done (by kernel_rfl) ?_
        have HS9 := HS
        clear HS
        have HXD := Lib.hid HS9.out
        go_wp2_with fail
        go_meet
        exact ⟨by rw [hb0], HXD⟩
      · obtain ⟨p, hp⟩ : ∃ p, k = p + 1 := ⟨k - 1, by omega⟩
        have hd2 : decide ((k : Int) > 0) = true := decide_eq_true (by omega)
        have hd3 : (0 : Int) < (k : Int) := by omega
        have hd5 : 0 < k := by omega
        obtain ⟨b2, o2, Ar2, ec2, B2, d2, D2, q2, e2, hA2, hbl3, hek2, hrg2, hen2⟩ := (HES.out w (Below.refl _ _)).at_ (show p < n by omega)
        injection hA2 with hA2; injection hA2 with hb2 ho2 _
        subst hb2 ho2
        have HRG2 : Hid (∀ z, Below w.heap.size w z → z.rangeAt b (o + p * 7) [.slice Ar2 e2.row.length ec2, .int .i64 e2.fam, .slice B2 e2.qual.length d2, .int .i64 e2.ts, .int .i64 e2.seq, .int .i64 e2.kind, .slice D2 e2.val.length q2]) := Lib.hid fun z hz j v hj => (hz.cell (p := ⟨b, _, none⟩) hbl3).trans (hrg2 j v hj)
        have HEN2 : Hid (∀ z, Below w.heap.size w z → En z Ar2 e2.row.length ec2 B2 e2.qual.length d2 D2 e2.val.length q2 e2) := Lib.hid fun z hz => hen2.later hz
        obtain ⟨cv, hcv⟩ : ∃ z, z = cmpE e2 e := ⟨_, rfl⟩
        have hb0 : bo = decide (cv ≥ 0) := by
          have hl : (es.take k).getLast? = some e2 := by rw [hp, take_snoc hek2, List.getLast?_append]; rfl
          rw [HBO.out, hcv]; unfold lastOk; rw [hl]
          by_cases h : cmpE e2 e < 0
          · simp [h, Int.not_le.2 h]
          · simp [h, Int.not_lt.1 h]
        have HCV := Lib.hid hcv.symm
        have HB0 := Lib.hid hb0
        have s1 : IntKind.i64.wrap (p : Int) = (p : Int) := i64_sum (by omega) (by omega)
        have s2 : (k : Int) - 1 = (p : Int) := by omega
        have i3 : (0 : Int) ≤ (p : Int) := by omega
        have i4 : (p : Int) < (n : Int) := by omega
        clear hp h0 hek2 hrg2 hen2 hcv hb0
        refine lt_start [] (by kernel_rfl) ?_
        intro xd hd
        refine ⟨fun z => OW w [bytO 5 (Al, cl, s.key)] z, ?_⟩
        have HS := Lib.hid (HX1.out.later hd)
        refine lt_pure 0 rfl (by kernel_rfl) (by kernel_rfl) (by kernel_rfl) (by kernel_rfl) (fun _ _ _ h => h) (v := ?_) (yi_run rfl (fun w => ?_)) (fun _ => HS.out) ?_
        rotate_left
        · first | (go_simp; done) | (go_simp; with_reducible rfl)
        simp only [Act.put, List.setIfInBounds_toArray, List.set_cons_zero, List.set_cons_succ]
        refine lt_pure 1 rfl (by kernel_rfl) (by kernel_rfl) (by kernel_rfl) (by kernel_rfl) (fun _ _ _ h => h) (v := ?_) (yi_run rfl (fun w => ?_)) (fun _ => HS.out) ?_
        rotate_left
        · first | (go_simp; done) | (go_simp; with_reducible rfl)
        simp only [Act.put, List.setIfInBounds_toArray, List.set_cons_zero, List.set_cons_succ]
        refine lt_pure 2 rfl (by kernel_rfl) (by kernel_rfl) (by kernel_rfl) (by kernel_rfl) (fun _ _ _ h => h) (v := ?_) (yi_run rfl (fun w => ?_)) (fun _ => HS.out) ?_
        rotate_left
        · first | (go_simp; done) | (go_simp; with_reducible rfl)
        simp only [Act.put, List.setIfInBounds_toArray, List.set_cons_zero, List.set_cons_succ]
        refine lt_pure 3 rfl (by kernel_rfl) (by kernel_rfl) (by kernel_rfl) (by kernel_rfl) (fun _ _ _ h => h) (v := ?_) (yi_run rfl (fun w => ?_)) (fun _ => HS.out) ?_
        rotate_left
        · first | (go_simp; done) | (go_simp; with_reducible rfl)
        simp only [Act.put, List.setIfInBounds_toArray, List.set_cons_zero, List.set_cons_succ]
        refine lt_pure 4 rfl (by kernel_rfl) (by kernel_rfl) (by kernel_rfl) (by kernel_rfl) (fun _ _ _ h => h) (v := ?_) (yi_run rfl (fun w => ?_)) (fun _ => HS.out) ?_
        rotate_left
        · first | (go_simp; done) | (go_simp; with_reducible rfl)
        simp only [Act.put, List.setIfInBounds_toArray, List.set_cons_zero, List.set_cons_succ]
        refine lt_pure 5 rfl (by kernel_rfl) (by kernel_rfl) (by kernel_rfl) (by kernel_rfl) (fun _ _ _ h => h) (v := ?_) (yi_run rfl (fun w => ?_)) (fun _ => HS.out) ?_
        rotate_left
        · first | (go_simp; done) | (go_simp; with_reducible rfl)
        simp only [Act.put, List.setIfInBounds_toArray, List.set_cons_zero, List.set_cons_succ]
        refine lt_pure 6 rfl (by kernel_rfl) (by kernel_rfl) (by kernel_rfl) (by kernel_rfl) (fun _ _ _ h => h) (v := ?_) (yi_run rfl (fun w => ?_)) (fun _ => HS.out) ?_
        rotate_left
        · first | (go_simp; done) | (go_simp; with_reducible rfl)
        simp only [Act.put, List.setIfInBounds_toArray, List.set_cons_zero, List.set_cons_succ]
        refine lt_take 7 [12, 13, 14] rfl (by kernel_rfl) (by kernel_rfl) (by kernel_rfl) (by kernel_rfl) (by kernel_rfl) (fun _ _ _ h => h) (yi_rowO rfl rfl rfl (fun w hS => HRG2.out _ (OW.up hS)) ent_row5) HS.out ?_
        simp only [Act.put, List.setIfInBounds_toArray, List.set_cons_zero, List.set_cons_succ]
        refine lt_pure 8 rfl (by kernel_rfl) (by kernel_rfl) (by kernel_rfl) (by kernel_rfl) (fun _ _ _ h => h) (v := ?_) (yi_run rfl (fun w => ?_)) (fun _ => HS.out) ?_
        rotate_left
        · first | (go_simp; done) | (go_simp; with_reducible rfl)
        simp only [Act.put, List.setIfInBounds_toArray, List.set_cons_zero, List.set_cons_succ]
        refine lt_pure 9 rfl (by kernel_rfl) (by kernel_rfl) (by kernel_rfl) (by kernel_rfl) (fun _ _ _ h => h) (v := ?_) (yi_run rfl (fun w => ?_)) (fun _ => HS.out) ?_
        rotate_left
        · first | (go_simp; done) | (go_simp; with_reducible rfl)
        simp only [Act.put, List.setIfInBounds_toArray, List.set_cons_zero, List.set_cons_succ]
        refine lt_pure 10 rfl (by kernel_rfl) (by kernel_rfl) (by kernel_rfl) (by kernel_rfl) (fun _ _ _ h => h) (v := ?_) (yi_run rfl (fun w => ?_)) (fun _ => HS.out) ?_
        rotate_left
        · first | (go_simp; done) | (go_simp; with_reducible rfl)
        simp only [Act.put, List.setIfInBounds_toArray, List.set_cons_zero, List.set_cons_succ]
        refine lt_take 11 [12, 13, 14] rfl (by kernel_rfl) (by kernel_rfl) (by kernel_rfl) (by kernel_rfl) (by kernel_rfl) (fun _ _ _ h => h) (yi_rowO rfl rfl rfl (fun w hS => HRG.out _ (OW.up hS)) ent_row5) HS.out ?_
        simp only [Act.put, List.setIfInBounds_toArray, List.set_cons_zero, List.set_cons_succ]
        refine lt_call 12 rfl (by kernel_rfl) rfl rfl ⟨_, Tryz.func48, by decide, by kernel_rfl⟩ [entV Ar2 e2.row.length ec2 B2 e2.qual.length d2 D2 e2.val.length q2 e2, entV Ar e.row.length ec B e.qual.length d D e.val.length q e] rfl ?_
        refine (rcompare_any e2 e Ar2 _ ec2 B2 _ d2 D2 _ q2 Ar _ ec B _ d D _ q _ (HEN2.out _ HS.out.up) (HEN.out _ HS.out.up)).mono ?_
        rw [HCV.out]
        rintro r z9 ⟨rfl, hb⟩
        replace HS := Lib.hid (HS.out.later hb)
        clear hb
        refine ⟨_, rfl, fun _ => HS.out, ?_⟩
        simp only [Act.put, List.setIfInBounds_toArray, List.set_cons_zero, List.set_cons_succ]
        refine lt_pure 13 rfl (by kernel_rfl) (by kernel_rfl) (by kernel_rfl) (by kernel_rfl) (fun _ _ _ h => h) (v := ?_) (yi_run rfl (fun w => ?_)) (fun _ => HS.out) ?_
        rotate_left
        · first | (go_simp; done) | (go_simp; with_reducible rfl)
        simp only [Act.put, List.setIfInBounds_toArray, List.set_cons_zero, List.set_cons_succ]
        refine lt_pure 14 rfl (by kernel_rfl) (by kernel_rfl) (by kernel_rfl) (by kernel_rfl) (fun _ _ _ h => h) (v := ?_) (yi_run rfl (fun w => ?_)) (fun _ => HS.out) ?_
        rotate_left
        · first | (go_simp; done) | (go_simp; with_reducible rfl)
        simp only [Act.put, List.setIfInBounds_toArray, List.set_cons_zero, List.set_cons_succ]
        refine lt_done (by kernel_rfl) ?_
        have HS9 := HS
        clear HS
        have HXD := Lib.hid HS9.out
        go_wp2_with fail
        go_meet
        exact ⟨by rw [HB0.out], HXD⟩
    clear HX1
    obtain ⟨rfl, HX⟩ := hcut
    obtain ⟨w4, rfl⟩ : ∃ z : World, z = wc := ⟨_, rfl⟩
    by_cases hlo : lastOk (es.take k) e = false
    case pos =>
      have hb1 : bo = true := by rw [HBO.out, hlo]; rfl
      have HPF : Hid (buildE5 (r : Int) es = ([], 30)) := Lib.hid (by
        have h := HAT.out.2 30 (by unfold addC; rw [if_neg (fun h => h HC0.out), if_pos hlo]) (by decide)
        rw [if_neg HRR.out] at h; exact h)
      clear HBO hlo
      subst hb1
      go_wp2_with fail
      go_ret2
      rw [HPF.out]
      exact bytes_post2 (n := 0) (own_nil _ _ _ _) HX.out.up
    have hb1 : bo = false := by rw [HBO.out]; cases h : lastOk (es.take k) e <;> simp_all
    have HLO := Lib.hid hlo
    clear HBO hlo
    subst hb1
    obtain ⟨kb, hkb⟩ : ∃ z, z = keyE e := ⟨_, rfl⟩
    obtain ⟨kn, hkn⟩ : ∃ z, z = kb.length := ⟨_, rfl⟩
    have hok := ok_of HC0.out
    have hknb : kn ≤ 1048 := by rw [hkn, hkb]; exact keyE_len hok
    have hvb : e.val.length ≤ 4096 := hok.val.1
    obtain ⟨al, hal⟩ : ∃ z, z = alikeB r s kb := ⟨_, rfl⟩
    obtain ⟨sh, hsh⟩ : ∃ z, z = shareN s.key kb := ⟨_, rfl⟩
    have HALL : Hid (∀ l, l ∈ es.take k → checkE l = 0) := Lib.hid (by
      have := buildK_checked r (es.take k) [] (fun l h => by cases h) HBK.out
      simpa using this)
    have halk : al < kn := by have h9 := alike_lt (R := r) HALL.out HC0.out HLO.out; rw [hal, hkn, hkb, HS.out]; exact h9
    have HKB := Lib.hid hkb.symm
    have HKE : Hid (KeyE e = (kb, 0)) := Lib.hid (by unfold KeyE; rw [if_pos HC0.out, hkb])
    have HKN := Lib.hid hkn.symm
    have HAL := Lib.hid hal
    have HSH := Lib.hid hsh.symm
    have HTK : Hid (runB r (es.take (k + 1)) = stepB r s kb e.val) := Lib.hid (by rw [runB_take r es HEK.out, ← HS.out, hkb])
    obtain ⟨sz2, hsz2⟩ : ∃ z, z = sz + (if s.n % r = 0 then 4 else 0) := ⟨_, rfl⟩
    have HSZ2 := Lib.hid hsz2
    have hsz2b : sz2 ≤ 131076 := by rw [hsz2]; split <;> omega
    have HV0 : Hid (∀ z, Below w.heap.size w z → z.cell? ⟨b, o + k * 7 + 6, none⟩ = some (.slice D e.val.length q)) := Lib.hid fun z hz => (HRG.out z hz) 6 _ rfl
    clear hkb hkn hal hsh hsz2 hok
    go_upto_if 61 with (first
      | (refine wpList_load_at rfl 46 (.tmp 50) rfl rfl (HRG.out _ HX.out.up) ent_row5 ?_)
      | (go_at_call 20; go_must (refine (rKey_any e Ar _ ec B _ d D _ q _ (HEN.out _ HX.out.up)).mono ?_); rw [HKE.out]; rintro r y1 hp; obtain ⟨Ak, ck, rfl, _, ho, hb⟩ := hp.at_ HKN.out rfl; have HY := Lib.hid (HX.out.addF9 (OW.byt1 hb ho)); clear hp ho hb HX)
      | (go_at_call 49; go_must (refine (rshared_any s.key kb Al Ak kl cl kn ck _ (by omega) (HY.out.sl (i := 1) rfl HK.out).rb (HY.out.sl (i := 0) rfl HKN.out).rb).mono ?_); rw [HSH.out]; rintro r y2 ⟨rfl, hb⟩; have HZ := Lib.hid (HY.out.later hb); clear hb HY))
    obtain ⟨w5, rfl⟩ : ∃ z : World, z = y2 := ⟨_, rfl⟩
    go_cut [7, 12] (fun sv nv wx => w5 = wx ∧ sv = .int .i64 (sz2 : Int) ∧ nv = .int .i64 (al : Int))
    case first =>
      by_cases hf : k % r = 0
      · have e1 : ((k : Int).tmod (r : Int)) = 0 := by rw [← Int.ofNat_tmod, hf]; rfl
        have e2 : ((k : Int) % (r : Int)) = 0 := by rw [← Int.natCast_emod, hf]; rfl
        have HA0 : Hid (al = 0) := Lib.hid (by rw [HAL.out]; unfold alikeB; rw [HN.out, if_pos hf])
        have HQ : Hid (sz2 = sz + 4) := Lib.hid (by rw [HSZ2.out, HN.out, if_pos hf])
        clear hf
        go_wp2_with fail
        go_meet
        exact ⟨rfl, by rw [HQ.out]; rfl, by rw [HA0.out]; rfl⟩
      · have e1 : ¬ ((k : Int).tmod (r : Int)) = 0 := by rw [← Int.ofNat_tmod]; omega
        have e3 : (((k : Int).tmod (r : Int)) == 0) = false := beq_eq_false_iff_ne.2 e1
        have e2 : ¬ ((k : Int) % (r : Int)) = 0 := by rw [← Int.natCast_emod]; omega
        have e4 : (((k : Int) % (r : Int)) == 0) = false := beq_eq_false_iff_ne.2 e2
        have HA0 : Hid (al = sh) := Lib.hid (by rw [HAL.out, ← HSH.out]; unfold alikeB; rw [HN.out, if_neg hf])
        have HQ : Hid (sz2 = sz) := Lib.hid (by rw [HSZ2.out, HN.out, if_neg hf]; rfl)
        clear hf
        go_wp2_with fail
        go_meet
        exact ⟨rfl, by rw [HQ.out], by rw [HA0.out]⟩
    obtain ⟨rfl, rfl, rfl⟩ := hcut
    obtain ⟨U, hU⟩ : ∃ z, z = uintB al := ⟨_, rfl⟩
    obtain ⟨un, hun⟩ : ∃ z, z = U.length := ⟨_, rfl⟩
    have hun2 : un ≤ 10 := by rw [hun, hU]; exact uintB_le10 (by omega)
    obtain ⟨kd, hkd⟩ : ∃ z, z = kb.drop al := ⟨_, rfl⟩
    have hkdl : kd.length = kn - al := by rw [hkd, List.length_drop, HKN.out]
    obtain ⟨V, hV⟩ : ∃ z, z = uintB kd.length ++ kd := ⟨_, rfl⟩
    obtain ⟨vn, hvn⟩ : ∃ z, z = V.length := ⟨_, rfl⟩
    have hvn2 : vn ≤ 1058 := by rw [hvn, hV, List.length_append]; have := uintB_le10 (n := kd.length) (by omega); omega
    obtain ⟨W, hW⟩ : ∃ z, z = uintB e.val.length ++ e.val := ⟨_, rfl⟩
    obtain ⟨wn, hwn⟩ : ∃ z, z = W.length := ⟨_, rfl⟩
    have hwn2 : wn ≤ 4106 := by rw [hwn, hW, List.length_append]; have := uintB_le10 (n := e.val.length) (by omega); omega
    have HU := Lib.hid hU.symm
    have HUN := Lib.hid hun.symm
    have HKD := Lib.hid hkd
    have HV := Lib.hid hV.symm
    have HVN := Lib.hid hvn.symm
    have HW := Lib.hid hW.symm
    have HWN := Lib.hid hwn.symm
    have HSS : Hid (sizeS (stepB r s kb e.val) = sz2 + un + vn + wn) := Lib.hid (by
      rw [size_step, ← HSZ.out, ← HSZ2.out, ← HAL.out]
      unfold rowK
      rw [List.length_append, List.length_append, HU.out, ← hkd, HV.out, HW.out, HUN.out, HVN.out, HWN.out]
      omega)
    obtain ⟨vl, hvl⟩ : ∃ z, z = e.val.length := ⟨_, rfl⟩
    have HEV : Hid (∀ z, Below w.heap.size w z → RB z z.heap.size D vl e.val) := Lib.hid fun z hz => by rw [hvl]; exact (HEN.out z hz).val.rb
    have HVC2 : Hid (∀ z, Below w.heap.size w z → z.cell? ⟨b, o + k * 7 + 6, none⟩ = some (.slice D vl q)) := Lib.hid fun z hz => by rw [hvl]; exact HV0.out z hz
    have hvlb : vl ≤ 4096 := by omega
    have hckc : kn ≤ ck := (HZ.out.sl (i := 0) rfl HKN.out).cap
    obtain ⟨gk, cpk, hv, _⟩ := own_form (HZ.out.row (i := 0) rfl) (by show 0 < kb.length; have := HKN.out; omega)
    injection hv with hv _ hcp
    subst hv
    subst hcp
    have HSD : Hid (∀ z, Sl z (some ⟨gk, 0, none⟩) kn ck kb → Sl z (some ⟨gk, al, none⟩) (kn - al) (ck - al) kd) := Lib.hid fun z h => by
      have h1 := h.drop (k := al) (by omega) (by omega)
      rw [← HKD.out, Option.map_some, show (⟨gk, 0, none⟩ : Addr).add al = ⟨gk, al, none⟩ from by simp [Addr.add]; omega] at h1
      exact h1
    have j1 : (0 : Int) ≤ (al : Int) := by omega
    have j2 : (al : Int) ≤ (kn : Int) := by omega
    have j3 : (kn : Int) ≤ (ck : Int) := by omega
    have q1 : IntKind.i64.wrap ((sz2 : Int) + (un : Int)) = (sz2 : Int) + (un : Int) := i64_sum (by omega) (by omega)
    have q2 : IntKind.i64.wrap ((sz2 : Int) + (un : Int) + (vn : Int)) = (sz2 : Int) + (un : Int) + (vn : Int) := i64_sum (by omega) (by omega)
    have q3 : IntKind.i64.wrap ((sz2 : Int) + (un : Int) + (vn : Int) + (wn : Int)) = (sz2 : Int) + (un : Int) + (vn : Int) + (wn : Int) := i64_sum (by omega) (by omega)
    have HKDL := Lib.hid hkdl
    clear hU hun hkd hkdl hV hvn hW hwn hvl HV0 hvb
    go_wp2_with fail
    have k6 : ck ≠ al := by omega
    have k7 : ¬ al = ck := by omega
    have q0 : IntKind.u64.wrap (al : Int) = (al : Int) := by rw [IntKind.wrap_u64]; omega
    refine lt_start [] (by kernel_rfl) ?_
    intro xd hd
    refine ⟨fun z => OW w [bytO 5 (some ⟨gk, 0, none⟩, ck, kb), bytO 5 (Al, cl, s.key)] z, ?_⟩
    have HS := Lib.hid (HZ.out.later hd)
    refine lt_pure 0 rfl (by kernel_rfl) (by kernel_rfl) (by kernel_rfl) (by kernel_rfl) (fun _ _ _ h => h) (v := ?_) (yi_run rfl (fun w => ?_)) (fun _ => HS.out) ?_
    rotate_left
    · first | (go_simp; done) | (go_simp; with_reducible rfl)
    simp only [Act.put, List.setIfInBounds_toArray, List.set_cons_zero, List.set_cons_succ]
    refine lt_pure 1 rfl (by kernel_rfl) (by kernel_rfl) (by kernel_rfl) (by kernel_rfl) (fun _ _ _ h => h) (v := ?_) (yi_run rfl (fun w => ?_)) (fun _ => HS.out) ?_
    rotate_left
    · first | (go_simp; done) | (go_simp; with_reducible rfl)
    simp only [Act.put, List.setIfInBounds_toArray, List.set_cons_zero, List.set_cons_succ]
    refine lt_pure 2 rfl (by kernel_rfl) (by kernel_rfl) (by kernel_rfl) (by kernel_rfl) (fun _ _ _ h => h) (v := ?_) (yi_run rfl (fun w => ?_)) (fun _ => HS.out) ?_
    rotate_left
    · first | (go_simp; done) | (go_simp; with_reducible rfl)
    simp only [Act.put, List.setIfInBounds_toArray, List.set_cons_zero, List.set_cons_succ]
    refine lt_pure 6 rfl (by kernel_rfl) (by kernel_rfl) (by kernel_rfl) (by kernel_rfl) (fun _ _ _ h => h) (v := ?_) (yi_run rfl (fun w => ?_)) (fun _ => HS.out) ?_
    rotate_left
    · first | (go_simp; done) | (go_simp; with_reducible rfl)
    simp only [Act.put, List.setIfInBounds_toArray, List.set_cons_zero, List.set_cons_succ]
    refine lt_pure 7 rfl (by kernel_rfl) (by kernel_rfl) (by kernel_rfl) (by kernel_rfl) (fun _ _ _ h => h) (v := ?_) (yi_run rfl (fun w => ?_)) (fun _ => HS.out) ?_
    rotate_left
    · first | (go_simp; done) | (go_simp; with_reducible rfl)
    simp only [Act.put, List.setIfInBounds_toArray, List.set_cons_zero, List.set_cons_succ]
    refine lt_pure 8 rfl (by kernel_rfl) (by kernel_rfl) (by kernel_rfl) (by kernel_rfl) (fun _ _ _ h => h) (v := ?_) (yi_run rfl (fun w => ?_)) (fun _ => HS.out) ?_
    rotate_left
    · first | (go_simp; done) | (go_simp; with_reducible rfl)
    simp only [Act.put, List.setIfInBounds_toArray, List.set_cons_zero, List.set_cons_succ]
    refine lt_pure 12 rfl (by kernel_rfl) (by kernel_rfl) (by kernel_rfl) (by kernel_rfl) (fun _ _ _ h => h) (v := ?_) (yi_run rfl (fun w => ?_)) (fun _ => HS.out) ?_
    rotate_left
    · first | (go_simp; done) | (go_simp; with_reducible rfl)
    simp only [Act.put, List.setIfInBounds_toArray, List.set_cons_zero, List.set_cons_succ]
    refine lt_pure 13 rfl (by kernel_rfl) (by kernel_rfl) (by kernel_rfl) (by kernel_rfl) (fun _ _ _ h => h) (v := ?_) (yi_run rfl (fun w => ?_)) (fun _ => HS.out) ?_
    rotate_left
    · first | (go_simp; done) | (go_simp; with_reducible rfl)
    simp only [Act.put, List.setIfInBounds_toArray, List.set_cons_zero, List.set_cons_succ]
    refine lt_pure 14 rfl (by kernel_rfl) (by kernel_rfl) (by kernel_rfl) (by kernel_rfl) (fun _ _ _ h => h) (v := ?_) (yi_run rfl (fun w => ?_)) (fun _ => HS.out) ?_
    rotate_left
    · first | (go_simp; done) | (go_simp; with_reducible rfl)
    simp only [Act.put, List.setIfInBounds_toArray, List.set_cons_zero, List.set_cons_succ]
    refine lt_pure 15 rfl (by kernel_rfl) (by kernel_rfl) (by kernel_rfl) (by kernel_rfl) (fun _ _ _ h => h) (v := ?_) (yi_run rfl (fun w => ?_)) (fun _ => HS.out) ?_
    rotate_left
    · first | (go_simp; done) | (go_simp; with_reducible rfl)
    simp only [Act.put, List.setIfInBounds_toArray, List.set_cons_zero, List.set_cons_succ]
    refine lt_take 16 [17, 18, 19, 20] rfl (by kernel_rfl) (by kernel_rfl) (by kernel_rfl) (by kernel_rfl) (by kernel_rfl) (fun _ _ _ h => h) (yi_cell rfl rfl rfl (fun w hS => HVC2.out _ (OW.up hS)) (fun w => Tryz.isAgg22 w)) HS.out ?_
    simp only [Act.put, List.setIfInBounds_toArray, List.set_cons_zero, List.set_cons_succ]
    refine lt_call 3 rfl (by kernel_rfl) rfl rfl ⟨_, Tryz.func50, by decide, by kernel_rfl⟩ [.int .u64 (al : Int)] rfl ?_
    refine (rUint_any al _ (by omega)).mono ?_
    rw [HU.out]
    rintro r z11 hp
    obtain ⟨A11, c11, rfl, _, ho, hb⟩ := hp.at_ (n := un) HUN.out
    replace HS := Lib.hid (HS.out.later hb)
    clear hp ho hb
    refine ⟨_, rfl, fun _ => HS.out, ?_⟩
    simp only [Act.put, List.setIfInBounds_toArray, List.set_cons_zero, List.set_cons_succ]
    refine lt_pure 4 rfl (by kernel_rfl) (by kernel_rfl) (by kernel_rfl) (by kernel_rfl) (fun _ _ _ h => h) (v := ?_) (yi_run rfl (fun w => ?_)) (fun _ => HS.out) ?_
    rotate_left
    · first | (go_simp; done) | (go_simp; with_reducible rfl)
    simp only [Act.put, List.setIfInBounds_toArray, List.set_cons_zero, List.set_cons_succ]
    refine lt_pure 5 rfl (by kernel_rfl) (by kernel_rfl) (by kernel_rfl) (by kernel_rfl) (fun _ _ _ h => h) (v := ?_) (yi_run rfl (fun w => ?_)) (fun _ => HS.out) ?_
    rotate_left
    · first | (go_simp; done) | (go_simp; with_reducible rfl)
    simp only [Act.put, List.setIfInBounds_toArray, List.set_cons_zero, List.set_cons_succ]
    refine lt_call 9 rfl (by kernel_rfl) rfl rfl ⟨_, Tryz.func51, by decide, by kernel_rfl⟩ [.slice (some ⟨gk, al, none⟩) (kn - al) (ck - al)] rfl ?_
    refine (rBytes_any kd _ (kn - al) _ _ (by omega) (HSD.out _ (HS.out.sl (i := 0) rfl HKN.out)).rb).mono ?_
    rw [HV.out]
    rintro r z12 hp
    obtain ⟨A12, c12, rfl, _, ho, hb⟩ := hp.at_ (n := vn) HVN.out
    replace HS := Lib.hid (HS.out.later hb)
    clear hp ho hb
    refine ⟨_, rfl, fun _ => HS.out, ?_⟩
    simp only [Act.put, List.setIfInBounds_toArray, List.set_cons_zero, List.set_cons_succ]
    refine lt_pure 10 rfl (by kernel_rfl) (by kernel_rfl) (by kernel_rfl) (by kernel_rfl) (fun _ _ _ h => h) (v := ?_) (yi_run rfl (fun w => ?_)) (fun _ => HS.out) ?_
    rotate_left
    · first | (go_simp; done) | (go_simp; with_reducible rfl)
    simp only [Act.put, List.setIfInBounds_toArray, List.set_cons_zero, List.set_cons_succ]
    refine lt_pure 11 rfl (by kernel_rfl) (by kernel_rfl) (by kernel_rfl) (by kernel_rfl) (fun _ _ _ h => h) (v := ?_) (yi_run rfl (fun w => ?_)) (fun _ => HS.out) ?_
    rotate_left
    · first | (go_simp; done) | (go_simp; with_reducible rfl)
    simp only [Act.put, List.setIfInBounds_toArray, List.set_cons_zero, List.set_cons_succ]
    refine lt_call 17 rfl (by kernel_rfl) rfl rfl ⟨_, Tryz.func51, by decide, by kernel_rfl⟩ [.slice D vl q] rfl ?_
    refine (rBytes_any e.val _ vl _ _ (by omega) (HEV.out _ HS.out.up)).mono ?_
    rw [HW.out]
    rintro r z13 hp
    obtain ⟨A13, c13, rfl, _, ho, hb⟩ := hp.at_ (n := wn) HWN.out
    replace HS := Lib.hid (HS.out.later hb)
    clear hp ho hb
    refine ⟨_, rfl, fun _ => HS.out, ?_⟩
    simp only [Act.put, List.setIfInBounds_toArray, List.set_cons_zero, List.set_cons_succ]
    refine lt_pure 18 rfl (by kernel_rfl) (by kernel_rfl) (by kernel_rfl) (by kernel_rfl) (fun _ _ _ h => h) (v := ?_) (yi_run rfl (fun w => ?_)) (fun _ => HS.out) ?_
    rotate_left
    · first | (go_simp; done) | (go_simp; with_reducible rfl)
    simp only [Act.put, List.setIfInBounds_toArray, List.set_cons_zero, List.set_cons_succ]
    refine lt_pure 19 rfl (by kernel_rfl) (by kernel_rfl) (by kernel_rfl) (by kernel_rfl) (fun _ _ _ h => h) (v := ?_) (yi_run rfl (fun w => ?_)) (fun _ => HS.out) ?_
    rotate_left
    · first | (go_simp; done) | (go_simp; with_reducible rfl)
    simp only [Act.put, List.setIfInBounds_toArray, List.set_cons_zero, List.set_cons_succ]
    refine lt_pure 20 rfl (by kernel_rfl) (by kernel_rfl) (by kernel_rfl) (by kernel_rfl) (fun _ _ _ h => h) (v := ?_) (yi_run rfl (fun w => ?_)) (fun _ => HS.out) ?_
    rotate_left
    · first | (go_simp; done) | (go_simp; with_reducible rfl)
    simp only [Act.put, List.setIfInBounds_toArray, List.set_cons_zero, List.set_cons_succ]
    refine lt_done (by kernel_rfl) ?_
    have HS9 := HS
    clear HS
    have HQ0 := Lib.hid HS9.out
    clear HS9 k6 k7 q0 q1 q2 q3 HZ
    by_cases hbig : 131072 < sz2 + un + vn + wn
    case pos =>
      have HPF : Hid (buildE5 (r : Int) es = ([], 53)) := Lib.hid (by
        have h := HAT.out.2 53 (by unfold addC; rw [if_neg (fun h => h HC0.out), if_neg HLO.out, if_pos (by rw [← HS.out, HKB.out, HSS.out]; exact hbig)]) (by decide)
        rw [if_neg HRR.out] at h; exact h)
      have h1 : (131072 : Int) < (sz2 : Int) + (un : Int) + (vn : Int) + (wn : Int) := by omega
      clear hbig
      go_wp2_with fail
      go_ret2
      rw [HPF.out]
      exact bytes_post2 (n := 0) (own_nil _ _ _ _) HQ0.out.up
    have h1 : ¬ (131072 : Int) < (sz2 : Int) + (un : Int) + (vn : Int) + (wn : Int) := by omega
    have HBG := Lib.hid hbig
    clear hbig
    go_wp2_with fail
    go_roundw
    case rel =>
      have hb9 := HBG.out
      refine ⟨k + 1, sz2 + un + vn + wn, kn, some ⟨gk, 0, none⟩, ck, by omega, by omega, hknb, by go_num, rfl, rfl, Lib.hid (HAT.out.1 ?_), Lib.hid (by rw [HTK.out, HSS.out]), Lib.hid (by rw [HTK.out]; exact HKN.out), Lib.hid ?_⟩
      · unfold addC
        rw [if_neg (fun h => h HC0.out), if_neg HLO.out, if_neg (by rw [← HS.out, HKB.out, HSS.out]; exact hb9)]
      · rw [HTK.out]
        exact HQ0.out.sub (.cons_cons _ (.cons _ (List.Sublist.refl _)))
    case measure => simp [intOf]; omega
end Go.Proofs.YtmigjipfomfacaaGreatDoor
namespace Go.Proofs.YtmigjipfomfacaaGreatDoor
open Go.RowKit
theorem RB.later2 {x y : World} {A : Option Addr} {n : Nat} {l : List UInt8} (h : RB x x.heap.size A n l) (hb : Below x.heap.size x y) : RB y y.heap.size A n l := (h.below hb).more hb.size
set_option maxRecDepth 100000 in
set_option maxHeartbeats 2000000 in
theorem below_any {x : World} {R g g1 g2 : Nat} {L : List Ent} (h : BkR x R g L) (h1 : x.cell? ⟨g1, 0, none⟩ = some (.pointer (some ⟨g, 0, none⟩))) (key : List UInt8) (KA : Option Addr) (kn kc : Nat) (h2 : x.cell? ⟨g2, 0, none⟩ = some (.slice KA kn kc)) (hk : Sl x KA kn kc key) (z : Int) (j : Nat) (hz : z = (j : Int)) (e : Ent) (hj : L[j]? = some e) (bo : Bool) (hb : decide (cmpB (keyE e) key < 0) = bo) :
    Calls Tryz.prog 38 #[.int .i64 z, .pointer (some ⟨g1, 0, none⟩), .pointer (some ⟨g2, 0, none⟩)] x fun r y => r = .returned (.bool bo) ∧ Below x.heap.size x y := by
  obtain ⟨A, c, c2, hr⟩ := h.c2
  have hjl : j < L.length := (List.getElem?_eq_some_iff.1 hj).1
  obtain ⟨b, o, k, a, ck, rfl, hbl, hkk, hcell, _, _, _, hrb⟩ := hr.at_ hjl
  obtain rfl : keyE e = k := by
    rw [List.getElem?_map, hj] at hkk
    injection hkk
  obtain ⟨n, hn⟩ : ∃ m, m = L.length := ⟨_, rfl⟩
  obtain ⟨kl, hkl⟩ : ∃ m, m = (keyE e).length := ⟨_, rfl⟩
  obtain ⟨cz, hcz⟩ : ∃ m, m = cmpB (keyE e) key := ⟨_, rfl⟩
  rw [← hn] at c2 hjl
  rw [← hkl] at hcell hrb
  rw [← hcz] at hb
  have HRB := Lib.hid hrb
  have HK := Lib.hid hk
  have HCZ := Lib.hid hcz
  have HB := Lib.hid hb
  subst hz
  have i1 : (0 : Int) ≤ (j : Int) := by omega
  have i2 : (j : Int) < (n : Int) := by omega
  have L1 := Lib.hid (World.block_lt_of_cell? x _ h1)
  have L2 := Lib.hid (World.block_lt_of_cell? x _ c2)
  have L3 := Lib.hid (World.block_lt_of_cell? x _ hcell)
  have L4 := Lib.hid (World.block_lt_of_cell? x _ h2)
  have H1 := Lib.hid h1
  have H2 := Lib.hid h2
  have C2 := Lib.hid c2
  have CE := Lib.hid hcell
  clear h hr hj hkk hrb hk hn hkl hcz hb h1 h2 c2 hcell
  go_enter Tryz.func38, Tryz.ntmps38
  go_wp2_with fail
  refine lt_start [] (by kernel_rfl) ?_
  intro xd hd
  refine ⟨fun z => Below x.heap.size x z, ?_⟩
  have HS := Lib.hid (hd)
  refine lt_take 0 [1, 2, 3, 5, 6, 8, 9, 10] rfl (by kernel_rfl) (by kernel_rfl) (by kernel_rfl) (by kernel_rfl) (by kernel_rfl) (fun _ _ _ h => h) (yi_cell rfl rfl rfl (fun w hS => (hS.cell (p := ⟨g1, 0, none⟩) L1.out).trans H1.out) (fun w => Tryz.isAgg26 w)) HS.out ?_
  simp only [Act.put, List.setIfInBounds_toArray, List.set_cons_zero, List.set_cons_succ]
  refine lt_pure 1 rfl (by kernel_rfl) (by kernel_rfl) (by kernel_rfl) (by kernel_rfl) (fun _ _ _ h => h) (v := ?_) (yi_run rfl (fun w => ?_)) (fun _ => HS.out) ?_
  rotate_left
  · first | (go_simp; done) | (go_simp; with_reducible rfl)
  simp only [Act.put, List.setIfInBounds_toArray, List.set_cons_zero, List.set_cons_succ]
  refine lt_pure 2 rfl (by kernel_rfl) (by kernel_rfl) (by kernel_rfl) (by kernel_rfl) (fun _ _ _ h => h) (v := ?_) (yi_run rfl (fun w => ?_)) (fun _ => HS.out) ?_
  rotate_left
  · first | (go_simp; done) | (go_simp; with_reducible rfl)
  simp only [Act.put, List.setIfInBounds_toArray, List.set_cons_zero, List.set_cons_succ]
  refine lt_take 3 [5, 6, 8, 9, 10] rfl (by kernel_rfl) (by kernel_rfl) (by kernel_rfl) (by kernel_rfl) (by kernel_rfl) (fun _ _ _ h => h) (yi_cell rfl rfl rfl (fun w hS => (hS.cell (p := ⟨g, 2, none⟩) L2.out).trans C2.out) (fun w => Tryz.isAgg35 w)) HS.out ?_
  simp only [Act.put, List.setIfInBounds_toArray, List.set_cons_zero, List.set_cons_succ]
  refine lt_pure 4 rfl (by kernel_rfl) (by kernel_rfl) (by kernel_rfl) (by kernel_rfl) (fun _ _ _ h => h) (v := ?_) (yi_run rfl (fun w => ?_)) (fun _ => HS.out) ?_
  rotate_left
  · first | (go_simp; done) | (go_simp; with_reducible rfl)
  simp only [Act.put, List.setIfInBounds_toArray, List.set_cons_zero, List.set_cons_succ]
  refine lt_pure 5 rfl (by kernel_rfl) (by kernel_rfl) (by kernel_rfl) (by kernel_rfl) (fun _ _ _ h => h) (v := ?_) (yi_run rfl (fun w => ?_)) (fun _ => HS.out) ?_
  rotate_left
  · first | (go_simp; done) | (go_simp; with_reducible rfl)
  simp only [Act.put, List.setIfInBounds_toArray, List.set_cons_zero, List.set_cons_succ]
  refine lt_take 6 [8, 9, 10] rfl (by kernel_rfl) (by kernel_rfl) (by kernel_rfl) (by kernel_rfl) (by kernel_rfl) (fun _ _ _ h => h) (yi_cell rfl rfl rfl (fun w hS => (hS.cell (p := ⟨b, o + j, none⟩) L3.out).trans CE.out) (fun w => Tryz.isAgg22 w)) HS.out ?_
  simp only [Act.put, List.setIfInBounds_toArray, List.set_cons_zero, List.set_cons_succ]
  refine lt_take 7 [8, 9, 10] rfl (by kernel_rfl) (by kernel_rfl) (by kernel_rfl) (by kernel_rfl) (by kernel_rfl) (fun _ _ _ h => h) (yi_cell rfl rfl rfl (fun w hS => (hS.cell (p := ⟨g2, 0, none⟩) L4.out).trans H2.out) (fun w => Tryz.isAgg22 w)) HS.out ?_
  simp only [Act.put, List.setIfInBounds_toArray, List.set_cons_zero, List.set_cons_succ]
  refine lt_call 8 rfl (by kernel_rfl) rfl rfl ⟨_, Tryz.func39, by decide, by kernel_rfl⟩ [.slice a kl ck, .slice KA kn kc] rfl ?_
  refine (bcmp_any (keyE e) key a KA kl ck kn kc _ (HRB.out.later2 HS.out) (HK.out.later HS.out).rb).mono ?_
  rw [← HCZ.out]
  rintro r z9 ⟨rfl, rfl⟩
  refine ⟨_, rfl, fun _ => HS.out, ?_⟩
  simp only [Act.put, List.setIfInBounds_toArray, List.set_cons_zero, List.set_cons_succ]
  refine lt_pure 9 rfl (by kernel_rfl) (by kernel_rfl) (by kernel_rfl) (by kernel_rfl) (fun _ _ _ h => h) (v := ?_) (yi_run rfl (fun w => ?_)) (fun _ => HS.out) ?_
  rotate_left
  · first | (go_simp; done) | (go_simp; with_reducible rfl)
  simp only [Act.put, List.setIfInBounds_toArray, List.set_cons_zero, List.set_cons_succ]
  refine lt_pure 10 rfl (by kernel_rfl) (by kernel_rfl) (by kernel_rfl) (by kernel_rfl) (fun _ _ _ h => h) (v := ?_) (yi_run rfl (fun w => ?_)) (fun _ => HS.out) ?_
  rotate_left
  · first | (go_simp; done) | (go_simp; with_reducible rfl)
  simp only [Act.put, List.setIfInBounds_toArray, List.set_cons_zero, List.set_cons_succ]
  refine lt_done (by kernel_rfl) ?_
  have HS9 := HS
  clear HS
  have HB9 := HS9.out
  go_wp2_with fail
  go_ret
  exact ⟨by rw [← HB.out]; rfl, HB9⟩
theorem quo_res (n R : Nat) (hR : 1 ≤ R) : Int.tdiv ((n : Int) + (R : Int) - 1) (R : Int) = ((resN n R : Nat) : Int) := by
  have e : (n : Int) + (R : Int) - 1 = ((n + R - 1 : Nat) : Int) := by omega
  rw [e, ← Int.ofNat_tdiv]; rfl
set_option maxRecDepth 100000 in
set_option maxHeartbeats 4000000 in
theorem seek_any {x : World} {R g : Nat} {L : List Ent} (h : BkR x R g L) (hR : 1 ≤ R ∧ R ≤ 16) (hn0 : 0 < L.length) (hn1 : L.length ≤ 4294967296) (hA : Asc (L.map keyE)) (key : List UInt8) (KA : Option Addr) (kn kc : Nat) (hk : Sl x KA kn kc key) :
    Calls Tryz.prog 14 #[.pointer (some ⟨g, 0, none⟩), .slice KA kn kc] x fun r y => r = .returned (.int .i64 (seekL L key : Nat)) ∧ Below x.heap.size x y := by
  have HBK := Lib.hid (fun z (hz : Below x.heap.size x z) => h.later hz)
  have HK := Lib.hid (fun z (hz : Below x.heap.size x z) => hk.later hz)
  obtain ⟨A, c, h1, _⟩ := h.c1
  have hg := h.lt
  have h0 := h.c0
  obtain ⟨n, hn⟩ : ∃ m, m = L.length := ⟨_, rfl⟩
  obtain ⟨sk, hsk⟩ : ∃ m, m = seekL L key := ⟨_, rfl⟩
  rw [← hn] at h1 hn0 hn1
  have hskn : sk ≤ n := by rw [hsk, hn]; have := seekN_le (L.map keyE) key; rw [List.length_map] at this; exact this
  have HCR : Hid (∀ z, Below x.heap.size x z → z.cell? ⟨g, 0, none⟩ = some (.int .i64 (R : Int))) := Lib.hid fun z hz => (hz.cell (p := ⟨g, 0, none⟩) hg).trans h0
  have HCL : Hid (∀ z, Below x.heap.size x z → z.cell? ⟨g, 1, none⟩ = some (.slice A n c)) := Lib.hid fun z hz => (hz.cell (p := ⟨g, 1, none⟩) hg).trans h1
  have HIF : Hid (∀ (i : Nat) (e : Ent), L[i]? = some e → decide (cmpB (keyE e) key < 0) = decide (i < sk)) := Lib.hid fun i e he => by
    have := seekN_iff hA (key := key) (i := i) (k := keyE e) (by rw [List.getElem?_map, he]; rfl)
    rw [hsk]
    exact decide_eq_decide.2 this
  have HGE : Hid (∀ i, i < n → ∃ e, L[i]? = some e) := Lib.hid fun i hi => ⟨_, List.getElem?_eq_getElem (by rw [← hn]; exact hi)⟩
  obtain ⟨H, hH⟩ : ∃ m, m = resN n R := ⟨_, rfl⟩
  have hH1 : 1 ≤ H := by rw [hH]; exact resN_pos hn0 hR.1
  have hH2 : H ≤ n := by rw [hH]; exact resN_le hR.1
  have HLT : Hid (∀ k, k < H → k * R < n) := Lib.hid fun k hk => resN_lt hR.1 (by rw [← hH]; exact hk)
  have HQ : Hid (Int.tdiv ((n : Int) + (R : Int) - 1) (R : Int) = (H : Int)) := Lib.hid (by rw [quo_res n R hR.1, hH])
  have HSK := Lib.hid hsk
  obtain ⟨hR1, hR2⟩ := hR
  have HX := Lib.hid (OW.nil x)
  clear h hk h1 h0 hn hsk hA hH
  go_enter Tryz.func14, Tryz.ntmps14
  go_wp2_with (first
    | (refine wl_box rfl (.tmp 0) rfl [.pointer (some ⟨g, 0, none⟩)] rfl HX.out ?_; intro g1 x1 hz _; have HX1 := Lib.hid hz; clear hz HX)
    | (refine wl_box rfl (.tmp 1) rfl [.slice KA kn kc] rfl HX1.out ?_; intro g2 x2 hz _; have HX2 : Hid (OW x [boxO g1 [.pointer (some ⟨g, 0, none⟩)], boxO g2 [.slice KA kn kc]] x2) := Lib.hid hz; clear hz HX1))
  go_step3
  go_wp2_with (first
    | (refine wl_box rfl (.tmp 0) rfl [.pointer (some ⟨g, 0, none⟩)] rfl HX.out ?_; intro g1 x1 hz _; have HX1 := Lib.hid hz; clear hz HX)
    | (refine wl_box rfl (.tmp 1) rfl [.slice KA kn kc] rfl HX1.out ?_; intro g2 x2 hz _; have HX2 : Hid (OW x [boxO g1 [.pointer (some ⟨g, 0, none⟩)], boxO g2 [.slice KA kn kc]] x2) := Lib.hid hz; clear hz HX1))
  have r2 : ¬ R = 0 := by omega
  have s1 : IntKind.i64.wrap ((n : Int) + (R : Int)) = (n : Int) + (R : Int) := i64_sum (by omega) (by omega)
  have s2 : IntKind.i64.wrap ((n : Int) + (R : Int) - 1) = (n : Int) + (R : Int) - 1 := i64_sum (by omega) (by omega)
  have s3 : IntKind.i64.wrap (Int.tdiv ((n : Int) + (R : Int) - 1) (R : Int)) = (H : Int) := by rw [HQ.out]; exact i64_sum (by omega) (by omega)
  refine lt_start [] (by kernel_rfl) ?_
  intro xd hd
  refine ⟨fun z => Below x2.heap.size x2 z, ?_⟩
  have HS := Lib.hid (hd)
  refine lt_take 0 [1, 2, 3, 4, 9, 10, 15, 17] rfl (by kernel_rfl) (by kernel_rfl) (by kernel_rfl) (by kernel_rfl) (by kernel_rfl) (fun _ _ _ h => h) (yi_cell rfl rfl rfl (fun w hS => (HX2.out.later hS).cell (i := 0) (j := 0) rfl rfl) (fun w => Tryz.isAgg26 w)) HS.out ?_
  simp only [Act.put, List.setIfInBounds_toArray, List.set_cons_zero, List.set_cons_succ]
  refine lt_pure 1 rfl (by kernel_rfl) (by kernel_rfl) (by kernel_rfl) (by kernel_rfl) (fun _ _ _ h => h) (v := ?_) (yi_run rfl (fun w => ?_)) (fun _ => HS.out) ?_
  rotate_left
  · first | (go_simp; done) | (go_simp; with_reducible rfl)
  simp only [Act.put, List.setIfInBounds_toArray, List.set_cons_zero, List.set_cons_succ]
  refine lt_pure 2 rfl (by kernel_rfl) (by kernel_rfl) (by kernel_rfl) (by kernel_rfl) (fun _ _ _ h => h) (v := ?_) (yi_run rfl (fun w => ?_)) (fun _ => HS.out) ?_
  rotate_left
  · first | (go_simp; done) | (go_simp; with_reducible rfl)
  simp only [Act.put, List.setIfInBounds_toArray, List.set_cons_zero, List.set_cons_succ]
  refine lt_take 3 [4, 9, 10, 15, 17] rfl (by kernel_rfl) (by kernel_rfl) (by kernel_rfl) (by kernel_rfl) (by kernel_rfl) (fun _ _ _ h => h) (yi_cell rfl rfl rfl (fun w hS => HCL.out _ (HX2.out.later hS).up) (fun w => Tryz.isAgg30 w)) HS.out ?_
  simp only [Act.put, List.setIfInBounds_toArray, List.set_cons_zero, List.set_cons_succ]
  refine lt_pure 4 rfl (by kernel_rfl) (by kernel_rfl) (by kernel_rfl) (by kernel_rfl) (fun _ _ _ h => h) (v := ?_) (yi_run rfl (fun w => ?_)) (fun _ => HS.out) ?_
  rotate_left
  · first | (go_simp; done) | (go_simp; with_reducible rfl)
  simp only [Act.put, List.setIfInBounds_toArray, List.set_cons_zero, List.set_cons_succ]
  refine lt_take 5 [6, 7, 8, 9, 10, 15, 17] rfl (by kernel_rfl) (by kernel_rfl) (by kernel_rfl) (by kernel_rfl) (by kernel_rfl) (fun _ _ _ h => h) (yi_cell rfl rfl rfl (fun w hS => (HX2.out.later hS).cell (i := 0) (j := 0) rfl rfl) (fun w => Tryz.isAgg26 w)) HS.out ?_
  simp only [Act.put, List.setIfInBounds_toArray, List.set_cons_zero, List.set_cons_succ]
  refine lt_pure 6 rfl (by kernel_rfl) (by kernel_rfl) (by kernel_rfl) (by kernel_rfl) (fun _ _ _ h => h) (v := ?_) (yi_run rfl (fun w => ?_)) (fun _ => HS.out) ?_
  rotate_left
  · first | (go_simp; done) | (go_simp; with_reducible rfl)
  simp only [Act.put, List.setIfInBounds_toArray, List.set_cons_zero, List.set_cons_succ]
  refine lt_pure 7 rfl (by kernel_rfl) (by kernel_rfl) (by kernel_rfl) (by kernel_rfl) (fun _ _ _ h => h) (v := ?_) (yi_run rfl (fun w => ?_)) (fun _ => HS.out) ?_
  rotate_left
  · first | (go_simp; done) | (go_simp; with_reducible rfl)
  simp only [Act.put, List.setIfInBounds_toArray, List.set_cons_zero, List.set_cons_succ]
  refine lt_take 8 [9, 10, 15, 17] rfl (by kernel_rfl) (by kernel_rfl) (by kernel_rfl) (by kernel_rfl) (by kernel_rfl) (fun _ _ _ h => h) (yi_cell rfl rfl rfl (fun w hS => HCR.out _ (HX2.out.later hS).up) (fun w => Tryz.isAgg3 w)) HS.out ?_
  simp only [Act.put, List.setIfInBounds_toArray, List.set_cons_zero, List.set_cons_succ]
  refine lt_pure 9 rfl (by kernel_rfl) (by kernel_rfl) (by kernel_rfl) (by kernel_rfl) (fun _ _ _ h => h) (v := ?_) (yi_run rfl (fun w => ?_)) (fun _ => HS.out) ?_
  rotate_left
  · first | (go_simp; done) | (go_simp; with_reducible rfl)
  simp only [Act.put, List.setIfInBounds_toArray, List.set_cons_zero, List.set_cons_succ]
  refine lt_pure 10 rfl (by kernel_rfl) (by kernel_rfl) (by kernel_rfl) (by kernel_rfl) (fun _ _ _ h => h) (v := ?_) (yi_run rfl (fun w => ?_)) (fun _ => HS.out) ?_
  rotate_left
  · first | (go_simp; done) | (go_simp; with_reducible rfl)
  simp only [Act.put, List.setIfInBounds_toArray, List.set_cons_zero, List.set_cons_succ]
  refine lt_take 11 [12, 13, 14, 15, 17] rfl (by kernel_rfl) (by kernel_rfl) (by kernel_rfl) (by kernel_rfl) (by kernel_rfl) (fun _ _ _ h => h) (yi_cell rfl rfl rfl (fun w hS => (HX2.out.later hS).cell (i := 0) (j := 0) rfl rfl) (fun w => Tryz.isAgg26 w)) HS.out ?_
  simp only [Act.put, List.setIfInBounds_toArray, List.set_cons_zero, List.set_cons_succ]
  refine lt_pure 12 rfl (by kernel_rfl) (by kernel_rfl) (by kernel_rfl) (by kernel_rfl) (fun _ _ _ h => h) (v := ?_) (yi_run rfl (fun w => ?_)) (fun _ => HS.out) ?_
  rotate_left
  · first | (go_simp; done) | (go_simp; with_reducible rfl)
  simp only [Act.put, List.setIfInBounds_toArray, List.set_cons_zero, List.set_cons_succ]
  refine lt_pure 13 rfl (by kernel_rfl) (by kernel_rfl) (by kernel_rfl) (by kernel_rfl) (fun _ _ _ h => h) (v := ?_) (yi_run rfl (fun w => ?_)) (fun _ => HS.out) ?_
  rotate_left
  · first | (go_simp; done) | (go_simp; with_reducible rfl)
  simp only [Act.put, List.setIfInBounds_toArray, List.set_cons_zero, List.set_cons_succ]
  refine lt_take 14 [15, 17] rfl (by kernel_rfl) (by kernel_rfl) (by kernel_rfl) (by kernel_rfl) (by kernel_rfl) (fun _ _ _ h => h) (yi_cell rfl rfl rfl (fun w hS => HCR.out _ (HX2.out.later hS).up) (fun w => Tryz.isAgg3 w)) HS.out ?_
  simp only [Act.put, List.setIfInBounds_toArray, List.set_cons_zero, List.set_cons_succ]
  refine lt_pure 15 rfl (by kernel_rfl) (by kernel_rfl) (by kernel_rfl) (by kernel_rfl) (fun _ _ _ h => h) (v := ?_) (yi_run rfl (fun w => ?_)) (fun _ => HS.out) ?_
  rotate_left
  · first | (go_simp; done) | (go_simp; with_reducible rfl)
  simp only [Act.put, List.setIfInBounds_toArray, List.set_cons_zero, List.set_cons_succ]
  refine lt_pure 16 rfl (by kernel_rfl) (by kernel_rfl) (by kernel_rfl) (by kernel_rfl) (fun _ _ _ h => h) (v := ?_) (yi_run rfl (fun w => ?_)) (fun _ => HS.out) ?_
  rotate_left
  · first | (go_simp; done) | (go_simp; with_reducible rfl)
  simp only [Act.put, List.setIfInBounds_toArray, List.set_cons_zero, List.set_cons_succ]
  refine lt_pure 17 rfl (by kernel_rfl) (by kernel_rfl) (by kernel_rfl) (by kernel_rfl) (fun _ _ _ h => h) (v := ?_) (yi_run rfl (fun w => ?_)) (fun _ => HS.out) ?_
  rotate_left
  · first | (go_simp; done) | (go_simp; with_reducible rfl)
  simp only [Act.put, List.setIfInBounds_toArray, List.set_cons_zero, List.set_cons_succ]
  refine lt_done (by kernel_rfl) ?_
  have HS9 := HS
  clear HS
  have HX3 := Lib.hid (HX2.out.later HS9.out)
  clear HX2 s1 s2 s3 HS9
  go_wp2_with fail
  go_loopw [6, 7, 8] (fun lv hv _ wr => ∃ lo hi : Nat, lo < H ∧ hi ≤ H ∧ lv = .int .i64 lo ∧ hv = .int .i64 hi ∧ Hid (lo = 0 ∨ lo * R < sk) ∧ Hid (OW x [boxO g1 [.pointer (some ⟨g, 0, none⟩)], boxO g2 [.slice KA kn kc]] wr)) (fun lv hv _ _ => (intOf hv).toNat - (intOf lv).toNat)
  case atStart => exact ⟨0, H, by omega, Nat.le_refl _, rfl, rfl, Lib.hid (.inl rfl), HX3⟩
  case round =>
    clear HX3
    obtain ⟨lo, hi, hlo, hhi, rfl, rfl, HLO, HX⟩ := hrel
    by_cases hlt : lo + 1 < hi
    case pos =>
      have hd : decide ((lo : Int) + 1 < (hi : Int)) = true := decide_eq_true (by omega)
      obtain ⟨mid, hmid⟩ : ∃ m, m = (lo + hi) / 2 := ⟨_, rfl⟩
      have hm1 : lo < mid := by omega
      have hm2 : mid < hi := by omega
      have qd : ((lo : Int) + (hi : Int)) / 2 = (mid : Int) := by omega
      obtain ⟨j, hj⟩ : ∃ m, m = mid * R := ⟨_, rfl⟩
      have hjn : j < n := by rw [hj]; exact HLT.out mid (by omega)
      have qm : (mid : Int) * (R : Int) = (j : Int) := by rw [hj]; exact (Int.natCast_mul _ _).symm
      obtain ⟨e, he⟩ := HGE.out j hjn
      have HE := Lib.hid he
      have HJ := Lib.hid hj
      clear hmid hj he
      have f1 := HX.out.cell (i := 0) (j := 0) rfl rfl
      have f2 := HX.out.cell (i := 1) (j := 0) rfl rfl
      by_cases hb : j < sk
      case pos =>
        have HB : Hid (decide (cmpB (keyE e) key < 0) = true) := Lib.hid (by rw [HIF.out j e HE.out]; exact decide_eq_true hb)
        have HJ2 : Hid (mid * R < sk) := Lib.hid (by rw [← HJ.out]; exact hb)
        clear hb
        go_wp2_with (first
          | (refine wpList_load_cell rfl 26 (.tmp 2) rfl rfl f1 (fun w => Tryz.isAgg26 w) ?_)
          | (refine wpList_load_cell rfl 3 (.tmp 39) rfl rfl (HCR.out _ HX.out.up) (fun w => Tryz.isAgg3 w) ?_)
          | (go_at_call 38; go_must (refine (below_any (HBK.out _ HX.out.up) f1 key KA kn kc f2 (HK.out _ HX.out.up) _ j rfl e HE.out true HB.out).mono ?_); rintro r z1 ⟨rfl, hb⟩; have HX1 := Lib.hid (HX.out.later hb); clear hb f1 f2 HX))
        go_roundw
        case rel => exact ⟨mid, hi, by omega, hhi, rfl, rfl, Lib.hid (.inr HJ2.out), HX1⟩
        case measure => simp [intOf]; omega
      have HB : Hid (decide (cmpB (keyE e) key < 0) = false) := Lib.hid (by rw [HIF.out j e HE.out]; exact decide_eq_false hb)
      clear hb
      go_wp2_with (first
        | (refine wpList_load_cell rfl 26 (.tmp 2) rfl rfl f1 (fun w => Tryz.isAgg26 w) ?_)
        | (refine wpList_load_cell rfl 3 (.tmp 39) rfl rfl (HCR.out _ HX.out.up) (fun w => Tryz.isAgg3 w) ?_)
        | (go_at_call 38; go_must (refine (below_any (HBK.out _ HX.out.up) f1 key KA kn kc f2 (HK.out _ HX.out.up) _ j rfl e HE.out false HB.out).mono ?_); rintro r z1 ⟨rfl, hb⟩; have HX1 := Lib.hid (HX.out.later hb); clear hb f1 f2 HX))
      go_roundw
      case rel => exact ⟨lo, mid, hlo, by omega, rfl, rfl, HLO, HX1⟩
      case measure => simp [intOf]; omega
    have hd : decide ((lo : Int) + 1 < (hi : Int)) = false := decide_eq_false (by omega)
    obtain ⟨j, hj⟩ : ∃ m, m = lo * R := ⟨_, rfl⟩
    have hjs : j ≤ sk := by
      rw [hj]
      rcases HLO.out with h | h
      · rw [h]; omega
      · omega
    have qm : (lo : Int) * (R : Int) = (j : Int) := by rw [hj]; exact (Int.natCast_mul _ _).symm
    clear hj
    have f1 := HX.out.cell (i := 0) (j := 0) rfl rfl
    go_wp2_with (first
      | (refine wpList_load_cell rfl 26 (.tmp 2) rfl rfl f1 (fun w => Tryz.isAgg26 w) ?_)
      | (refine wpList_load_cell rfl 3 (.tmp 48) rfl rfl (HCR.out _ HX.out.up) (fun w => Tryz.isAgg3 w) ?_))
    go_step3
    go_wp2_with fail
    clear f1 qm
    go_loopw [9, 51] (fun iv _ wr => ∃ i : Nat, i ≤ sk ∧ iv = .int .i64 i ∧ Hid (OW x [boxO g1 [.pointer (some ⟨g, 0, none⟩)], boxO g2 [.slice KA kn kc]] wr)) (fun iv _ _ => n + 1 - (intOf iv).toNat)
    case atStart => exact ⟨j, hjs, rfl, HX⟩
    case round =>
      clear HX HLO
      obtain ⟨i, his, rfl, HX⟩ := hrel
      have f1 := HX.out.cell (i := 0) (j := 0) rfl rfl
      by_cases hin : i = n
      case pos =>
        have hd2 : ((i : Int) == (n : Int)) = true := by rw [beq_iff_eq]; omega
        have HI : Hid (i = sk) := Lib.hid (by omega)
        clear hin
        go_wp2_with (first
          | (refine wpList_load_cell rfl 26 (.tmp 2) rfl rfl f1 (fun w => Tryz.isAgg26 w) ?_)
          | (refine wpList_load_cell rfl 30 (.tmp 55) rfl rfl (HCL.out _ HX.out.up) (fun w => Tryz.isAgg30 w) ?_))
        try rw [Exit.noGoto_ret]
        go_ret
        exact ⟨by rw [← HSK.out, ← HI.out]; rfl, HX.out.up⟩
      have hd2 : ((i : Int) == (n : Int)) = false := by rw [beq_eq_false_iff_ne]; omega
      obtain ⟨e, he⟩ := HGE.out i (by omega)
      have HE := Lib.hid he
      have f2 := HX.out.cell (i := 1) (j := 0) rfl rfl
      clear he
      by_cases hb : i < sk
      case neg =>
        have HB : Hid (decide (cmpB (keyE e) key < 0) = false) := Lib.hid (by rw [HIF.out i e HE.out]; exact decide_eq_false hb)
        have HI : Hid (i = sk) := Lib.hid (by omega)
        clear hb hin
        go_wp2_with (first
          | (refine wpList_load_cell rfl 26 (.tmp 2) rfl rfl f1 (fun w => Tryz.isAgg26 w) ?_)
          | (refine wpList_load_cell rfl 30 (.tmp 55) rfl rfl (HCL.out _ HX.out.up) (fun w => Tryz.isAgg30 w) ?_)
          | (go_at_call 38; go_must (refine (below_any (HBK.out _ HX.out.up) f1 key KA kn kc f2 (HK.out _ HX.out.up) _ i rfl e HE.out false HB.out).mono ?_); rintro r z1 ⟨rfl, hb⟩; have HX1 := Lib.hid (HX.out.later hb); clear hb f1 f2 HX))
        try rw [Exit.noGoto_ret]
        go_ret
        exact ⟨by rw [← HSK.out, ← HI.out]; rfl, HX1.out.up⟩
      have HB : Hid (decide (cmpB (keyE e) key < 0) = true) := Lib.hid (by rw [HIF.out i e HE.out]; exact decide_eq_true hb)
      go_wp2_with (first
        | (refine wpList_load_cell rfl 26 (.tmp 2) rfl rfl f1 (fun w => Tryz.isAgg26 w) ?_)
        | (refine wpList_load_cell rfl 30 (.tmp 55) rfl rfl (HCL.out _ HX.out.up) (fun w => Tryz.isAgg30 w) ?_)
        | (go_at_call 38; go_must (refine (below_any (HBK.out _ HX.out.up) f1 key KA kn kc f2 (HK.out _ HX.out.up) _ i rfl e HE.out true HB.out).mono ?_); rintro r z1 ⟨rfl, hb⟩; have HX1 := Lib.hid (HX.out.later hb); clear hb f1 f2 HX))
      go_roundw
      case rel => exact ⟨i + 1, by omega, by go_num, HX1⟩
      case measure => simp [intOf]; omega
end Go.Proofs.YtmigjipfomfacaaGreatDoor
namespace Go.Proofs.YtmigjipfomfacaaGreatDoor
open Go.RowKit
theorem REntP.no {b key : List UInt8} {a : Nat} {w z : World} {r : Ending} (h : REntP b a key w r z) (hq : rq1 b a key = none) : r = .returned (.tuple #[entV none 0 0 none 0 0 none 0 0 noEnt, .slice none 0 0, .int .i64 0, .bool false]) ∧ Below w.heap.size w z := by
  rcases h with ⟨_, h⟩ | ⟨e, k, p, A, c, B, d, D, q, KA, kc, h, _⟩
  · exact h
  · rw [hq] at h; cases h
theorem REntP.yes {b key k : List UInt8} {a p : Nat} {e : Ent} {w z : World} {r : Ending} (h : REntP b a key w r z) (hq : rq1 b a key = some (e, k, p)) : ∃ A c B d D q KA kc, r = .returned (.tuple #[entV A e.row.length c B e.qual.length d D e.val.length q e, .slice KA k.length kc, .int .i64 (p : Nat), .bool true]) ∧
    OW w [bytO 5 (KA, kc, k), bytO 5 (A, c, e.row), bytO 5 (B, d, e.qual), bytO 5 (D, q, e.val)] z := by
  rcases h with ⟨h, _⟩ | ⟨e', k', p', A, c, B, d, D, q, KA, kc, h, h1, h2⟩
  · rw [hq] at h; cases h
  · rw [hq] at h; injection h with h; injection h with h3 h; injection h with h4 h5
    subst h3; subst h4; subst h5
    exact ⟨A, c, B, d, D, q, KA, kc, h1, h2⟩
theorem rq1_key {b key k : List UInt8} {a p : Nat} {e : Ent} (h : rq1 b a key = some (e, k, p)) : k.length ≤ 1048 := by
  unfold rq1 at h
  split at h
  · cases h
  · split at h
    · cases h
    · split at h
      · cases h
      · split at h
        · cases h
        · rename_i h4
          injection h with h; injection h with _ h; injection h with h _
          have h5 := ParseKey_is (b := k) (by rw [← h]; exact Decidable.not_not.1 h4)
          have h6 := keyE_len h5.1
          rw [h5.2.1] at h6; exact h6
def rowE (r : ER) : List Ob := [bytO 5 (r.A, r.c, r.e.row), bytO 5 (r.B, r.d, r.e.qual), bytO 5 (r.D, r.q, r.e.val)]
theorem rowE_snoc (rs : List ER) (r : ER) : (rs ++ [r]).flatMap rowE = rs.flatMap rowE ++ rowE r := by rw [List.flatMap_append, List.flatMap_cons, List.flatMap_nil, List.append_nil]
theorem cellE_snoc (rs : List ER) (r : ER) : (rs ++ [r]).flatMap ER.cells = rs.flatMap ER.cells ++ r.cells := by rw [List.flatMap_append, List.flatMap_cons, List.flatMap_nil, List.append_nil]
def entsO (A : Option Addr) (n c : Nat) (rs : List ER) : List Ob := rowO 46 7 (.slice A n c) n (rs.flatMap ER.cells) :: rs.flatMap rowE
theorem rowE_ens {w x : World} {os : List Ob} {A : Option Addr} {n c : Nat} {rs : List ER} (h : OW w (entsO A n c rs ++ os) x) : Ens x A n (rs.map ER.e) := by
  refine h.ens (T := 46) (i := 0) rfl fun r hr => ?_
  have hm : ∀ o, o ∈ rowE r → o ∈ entsO A n c rs ++ os := fun o ho => List.mem_append_left _ (List.mem_cons_of_mem _ (List.mem_flatMap.2 ⟨r, hr, ho⟩))
  exact ⟨h.slm (T := 5) (hm _ (by simp [rowE])) rfl, h.slm (T := 5) (hm _ (by simp [rowE])) rfl, h.slm (T := 5) (hm _ (by simp [rowE])) rfl⟩
def ROpenP (b : List UInt8) (w : World) (r : Ending) (z : World) : Prop :=
  (∃ rs A n c, openE b = (some (rs.map ER.e), 0) ∧ rs.length = n ∧ n ≤ 131072 ∧ r = .returned (.tuple #[.slice A n c, .int .i64 0]) ∧ OW w (entsO A n c rs) z) ∨
  ((openE b).1 = none ∧ r = .returned (.tuple #[.slice none 0 0, .int .i64 (openE b).2]) ∧ Below w.heap.size w z)
theorem openQ_no {b : List UInt8} {k : Int} (h : openQ b = ([], k)) (hk : k ≠ 0) : (openE b).1 = none ∧ (openE b).2 = k := by
  rw [openQ_is] at h
  injection h with h1 h2
  refine ⟨?_, h2⟩
  cases ho : (openE b).1 with
  | none => rfl
  | some L => exact absurd ((openE_ok ho).2.symm.trans h2).symm hk
theorem openQ_yes {b : List UInt8} {L : List Ent} (h : openQ b = (L, 0)) : openE b = (some L, 0) := by
  rw [openQ_is] at h
  injection h with h1 h2
  cases ho : (openE b).1 with
  | none => exact absurd h2 (openE_no ho)
  | some L' =>
    rw [ho] at h1
    have h1 : L' = L := h1
    exact Prod.ext (ho.trans (by rw [h1])) h2
theorem ropen_no {b : List UInt8} {w z : World} {k : Int} (h : openQ b = ([], k)) (hk : k ≠ 0) (hb : Below w.heap.size w z) : ROpenP b w (.returned (.tuple #[.slice none 0 0, .int .i64 k])) z := by
  obtain ⟨h1, h2⟩ := openQ_no h hk
  exact .inr ⟨h1, by rw [h2], hb⟩
set_option maxRecDepth 100000 in
set_option maxHeartbeats 4000000 in
theorem ropen_any (b : List UInt8) (A : Option Addr) (n c : Nat) (w : World) (hs : Sl w A n c b) :
    Calls Tryz.prog 10 #[.slice A n c] w (ROpenP b w) := by
  have HL := Lib.hid hs.rb.len
  have HX := Lib.hid (OW.nil w)
  by_cases h1 : 131072 < n
  case pos =>
    have HP : Hid (openQ b = ([], 2)) := Lib.hid (by unfold openQ; rw [if_pos (by rw [HL.out]; exact h1)])
    have hd : decide ((n : Int) > 131072) = true := decide_eq_true (by omega)
    clear hs
    go_enter Tryz.func10, Tryz.ntmps10
    go_wp2_with fail
    go_ret2
    exact ropen_no HP.out (by decide) (Below.refl _ _)
  have hd1 : decide ((n : Int) > 131072) = false := decide_eq_false (by omega)
  by_cases h2 : n < 9
  case pos =>
    have HP : Hid (openQ b = ([], 51)) := Lib.hid (by unfold openQ; rw [if_neg (by rw [HL.out]; exact h1), if_pos (by rw [HL.out]; exact h2)])
    have hd : decide ((n : Int) < 9) = true := decide_eq_true (by omega)
    clear hs
    go_enter Tryz.func10, Tryz.ntmps10
    go_wp2_with fail
    go_ret2
    exact ropen_no HP.out (by decide) (Below.refl _ _)
  have hd2 : decide ((n : Int) < 9) = false := decide_eq_false (by omega)
  obtain ⟨k, rfl⟩ : ∃ k, n = k + 9 := ⟨n - 9, by omega⟩
  have hk1 : k ≤ 131063 := by omega
  have hcap := hs.cap
  have hlim := hs.lim
  obtain ⟨b1, o1, _, rfl, hbl, _, _⟩ := hs.rb.at_ (show 0 < k + 9 by omega)
  have HSL : Hid (∀ z, Below w.heap.size w z → Sl z (some ⟨b1, o1, none⟩) (k + 9) c b) := Lib.hid fun z hz => hs.later hz
  obtain ⟨S1, hS1⟩ : ∃ z, z = b.take (k + 5) := ⟨_, rfl⟩
  obtain ⟨S2, hS2⟩ : ∃ z, z = b.drop (k + 5) := ⟨_, rfl⟩
  obtain ⟨sm, hsm⟩ : ∃ z, z = lowB (sumL S1) := ⟨_, rfl⟩
  have HSM : Hid (sumOkB b = (sm == S2)) := Lib.hid (by unfold sumOkB; rw [HL.out, hsm, hS1, hS2]; rfl)
  have HS1 : Hid (∀ z, Below w.heap.size w z → Sl z (some ⟨b1, o1, none⟩) (k + 5) c S1) := Lib.hid fun z hz => by rw [hS1]; exact (hs.later hz).take (by omega)
  have HS2 : Hid (∀ z, Below w.heap.size w z → RB z z.heap.size (some ⟨b1, o1 + (k + 5), none⟩) 4 S2) := Lib.hid fun z hz => by
    rw [hS2]
    have h := ((hs.later hz).drop (k := k + 5) (by omega) (by omega)).rb
    rw [show k + 9 - (k + 5) = 4 from by omega] at h
    exact h
  have HSM4 : Hid (sm.length = 4) := Lib.hid (by rw [hsm, lowB_len])
  have HSMS := Lib.hid hsm.symm
  have HTK : Hid (∀ m, m ≤ k → ∀ z, Below w.heap.size w z → Sl z (some ⟨b1, o1, none⟩) m c (b.take m)) := Lib.hid fun m hm z hz => (hs.later hz).take (by omega)
  obtain ⟨N, hN⟩ : ∃ z, z = cntB b := ⟨_, rfl⟩
  obtain ⟨r, hr⟩ : ∃ z, z = resB b := ⟨_, rfl⟩
  have hN32 : N < 4294967296 := by rw [hN]; exact numF_lt _ _
  have hr8 : r ≤ 255 := by rw [hr]; unfold resB; have := (b[b.length - 5]?.getD 0).toNat_lt; omega
  have HNF : Hid (numF b k = N) := Lib.hid (by rw [hN]; unfold cntB; rw [HL.out]; rfl)
  have HC4 : Hid (∀ z, Below w.heap.size w z → z.cell? ⟨b1, o1 + (k + 4), none⟩ = some (.int .u8 (r : Int))) := Lib.hid fun z hz => by
    have h : z.cell? ⟨b1, o1 + (k + 4), none⟩ = some (.int .u8 ((b[k + 4]?.getD 0).toNat : Int)) := (hs.later hz).rb.cell (k := k + 4) (by rw [List.getElem?_eq_getElem (by have := HL.out; omega)]; rfl)
    have e : ((b[k + 4]?.getD 0).toNat : Int) = (r : Int) := by rw [hr]; unfold resB; rw [HL.out]; rfl
    rw [← e]; exact h
  have HQ : Hid (openQ b = if (sm == S2) = false then ([], 52) else if r < 1 ∨ 16 < r then ([], 51) else if N < 1 ∨ k + 9 < N then ([], 51)
      else if bodyQ5 b < 0 then ([], 51) else openQR b (rqF (b.take (bodyQ5 b).toNat) N)) := Lib.hid (by
    unfold openQ
    rw [if_neg (by rw [HL.out]; exact h1), if_neg (by rw [HL.out]; exact h2), HSM.out, ← hN, ← hr, HL.out])
  have HBD : Hid (bodyQ5 b = (k : Int) - 4 * (resN N r : Nat)) := Lib.hid (by unfold bodyQ5; rw [HL.out, ← hN, ← hr]; omega)
  have HR := Lib.hid hr
  clear hs hS1 hS2 hsm hN hr hd1 hd2 h1 h2 HSM
  have hd1 : decide ((k : Int) + 9 > 131072) = false := decide_eq_false (by omega)
  have hd2 : decide ((k : Int) + 9 < 9) = false := decide_eq_false (by omega)
  have i1 : (0 : Int) ≤ (k : Int) + 5 := by omega
  have i2 : (k : Int) + 5 ≤ (c : Int) := by omega
  have i3 : (k : Int) + 5 ≤ (k : Int) + 9 := by omega
  have i4 : ((k : Int) + 5).toNat = k + 5 := by omega
  have i5 : (k : Int) + 9 - 4 = (k : Int) + 5 := by omega
  have i6 : IntKind.i64.wrap ((k : Int) + 5) = (k : Int) + 5 := i64_sum (by omega) (by omega)
  have i7 : ¬ c = k + 5 := by omega
  go_enter Tryz.func10, Tryz.ntmps10
  go_upto_region 6 with fail
  refine lt_start [] (by kernel_rfl) ?_
  intro xd hd
  refine ⟨fun z => Below w.heap.size w z, ?_⟩
  have HS := Lib.hid (hd)
  refine lt_pure 0 rfl (by kernel_rfl) (by kernel_rfl) (by kernel_rfl) (by kernel_rfl) (fun _ _ _ h => h) (v := ?_) (yi_run rfl (fun w => ?_)) (fun _ => HS.out) ?_
  rotate_left
  · first | (go_simp; done) | (go_simp; with_reducible rfl)
  simp only [Act.put, List.setIfInBounds_toArray, List.set_cons_zero, List.set_cons_succ]
  refine lt_pure 1 rfl (by kernel_rfl) (by kernel_rfl) (by kernel_rfl) (by kernel_rfl) (fun _ _ _ h => h) (v := ?_) (yi_run rfl (fun w => ?_)) (fun _ => HS.out) ?_
  rotate_left
  · first | (go_simp; done) | (go_simp; with_reducible rfl)
  simp only [Act.put, List.setIfInBounds_toArray, List.set_cons_zero, List.set_cons_succ]
  refine lt_pure 2 rfl (by kernel_rfl) (by kernel_rfl) (by kernel_rfl) (by kernel_rfl) (fun _ _ _ h => h) (v := ?_) (yi_run rfl (fun w => ?_)) (fun _ => HS.out) ?_
  rotate_left
  · first | (go_simp; done) | (go_simp; with_reducible rfl)
  simp only [Act.put, List.setIfInBounds_toArray, List.set_cons_zero, List.set_cons_succ]
  refine lt_pure 3 rfl (by kernel_rfl) (by kernel_rfl) (by kernel_rfl) (by kernel_rfl) (fun _ _ _ h => h) (v := ?_) (yi_run rfl (fun w => ?_)) (fun _ => HS.out) ?_
  rotate_left
  · first | (go_simp; done) | (go_simp; with_reducible rfl)
  simp only [Act.put, List.setIfInBounds_toArray, List.set_cons_zero, List.set_cons_succ]
  refine lt_pure 5 rfl (by kernel_rfl) (by kernel_rfl) (by kernel_rfl) (by kernel_rfl) (fun _ _ _ h => h) (v := ?_) (yi_run rfl (fun w => ?_)) (fun _ => HS.out) ?_
  rotate_left
  · first | (go_simp; done) | (go_simp; with_reducible rfl)
  simp only [Act.put, List.setIfInBounds_toArray, List.set_cons_zero, List.set_cons_succ]
  refine lt_pure 6 rfl (by kernel_rfl) (by kernel_rfl) (by kernel_rfl) (by kernel_rfl) (fun _ _ _ h => h) (v := ?_) (yi_run rfl (fun w => ?_)) (fun _ => HS.out) ?_
  rotate_left
  · first | (go_simp; done) | (go_simp; with_reducible rfl)
  simp only [Act.put, List.setIfInBounds_toArray, List.set_cons_zero, List.set_cons_succ]
  refine lt_pure 7 rfl (by kernel_rfl) (by kernel_rfl) (by kernel_rfl) (by kernel_rfl) (fun _ _ _ h => h) (v := ?_) (yi_run rfl (fun w => ?_)) (fun _ => HS.out) ?_
  rotate_left
  · first | (go_simp; done) | (go_simp; with_reducible rfl)
  simp only [Act.put, List.setIfInBounds_toArray, List.set_cons_zero, List.set_cons_succ]
  refine lt_pure 8 rfl (by kernel_rfl) (by kernel_rfl) (by kernel_rfl) (by kernel_rfl) (fun _ _ _ h => h) (v := ?_) (yi_run rfl (fun w => ?_)) (fun _ => HS.out) ?_
  rotate_left
  · first | (go_simp; done) | (go_simp; with_reducible rfl)
  simp only [Act.put, List.setIfInBounds_toArray, List.set_cons_zero, List.set_cons_succ]
  refine lt_call 4 rfl (by kernel_rfl) rfl rfl ⟨_, Tryz.func34, by decide, by kernel_rfl⟩ [.slice (some ⟨b1, o1, none⟩) (k + 5) c] rfl ?_
  refine (sealed_any S1 (some ⟨b1, o1, none⟩) (k + 5) c _ (HS1.out _ HS.out)).mono ?_
  rw [HSMS.out]
  intro e z1 hp
  obtain ⟨A3, c3, rfl, hs3, _, hb⟩ := hp.at_ HSM4.out
  have HO3 := Lib.hid hs3
  replace HS := Lib.hid (HS.out.trans (hb.mono HS.out.size))
  clear hp hb hs3
  refine ⟨_, rfl, fun _ => HS.out, ?_⟩
  simp only [Act.put, List.setIfInBounds_toArray, List.set_cons_zero, List.set_cons_succ]
  refine lt_call 9 rfl (by kernel_rfl) rfl rfl ⟨_, Tryz.func33, by decide, by kernel_rfl⟩ [.slice A3 4 c3, .slice (some ⟨b1, o1 + (k + 5), none⟩) 4 (c - (k + 5))] rfl ?_
  refine (rSame_any sm S2 A3 (some ⟨b1, o1 + (k + 5), none⟩) 4 c3 4 (c - (k + 5)) _ HO3.out.rb (HS2.out _ HS.out)).mono ?_
  rintro e z2 ⟨rfl, rfl⟩
  refine ⟨_, rfl, fun _ => HS.out, ?_⟩
  simp only [Act.put, List.setIfInBounds_toArray, List.set_cons_zero, List.set_cons_succ]
  refine lt_pure 10 rfl (by kernel_rfl) (by kernel_rfl) (by kernel_rfl) (by kernel_rfl) (fun _ _ _ h => h) (v := ?_) (yi_run rfl (fun w => ?_)) (fun _ => HS.out) ?_
  rotate_left
  · first | (go_simp; done) | (go_simp; with_reducible rfl)
  simp only [Act.put, List.setIfInBounds_toArray, List.set_cons_zero, List.set_cons_succ]
  refine lt_done (by kernel_rfl) ?_
  have HB1 := HS.out
  cases hq : sm == S2 with
  | false =>
    have HP : Hid (openQ b = ([], 52)) := Lib.hid (by rw [HQ.out, hq]; rfl)
    clear hq
    go_wp2_with fail
    go_ret2
    exact ropen_no HP.out (by decide) HB1
  | true =>
  have HQ2 : Hid (openQ b = if r < 1 ∨ 16 < r then ([], 51) else if N < 1 ∨ k + 9 < N then ([], 51)
      else if bodyQ5 b < 0 then ([], 51) else openQR b (rqF (b.take (bodyQ5 b).toNat) N)) := Lib.hid (by rw [HQ.out, hq]; rfl)
  have HB2 := Lib.hid HB1
  have c4 := HC4.out _ HB1
  have j1 : (0 : Int) ≤ (k : Int) + 4 := by omega
  have j2 : ((k : Int) + 4).toNat = k + 4 := by omega
  have j3 : (k : Int) + 4 < (k : Int) + 9 := by omega
  clear hq HB1 HQ
  go_upto_region 10 with (go_at_call 35; go_must (refine (r5num_any b _ (k + 9) c k _ (HSL.out _ HB2.out) (by omega) (by omega)).mono ?_); rw [HNF.out]; rintro e z3 ⟨rfl, hb⟩; have HB3 := Lib.hid (HB2.out.trans (hb.mono HB2.out.size)); clear hb)
  clear c4
  by_cases hr0 : r < 1 ∨ 16 < r
  case pos =>
    have HP : Hid (openQ b = ([], 51)) := Lib.hid (by rw [HQ2.out, if_pos hr0])
    have HBE : Hid (beginI (r : Int) = 1) := Lib.hid (by unfold beginI; rw [if_pos (by omega)])
    clear hr0
    go_wp2_with (go_at_call 36; go_must (refine (rbegin_any (r : Int) _).mono ?_); rw [HBE.out]; rintro e z4 ⟨rfl, rfl⟩)
    go_ret2
    exact ropen_no HP.out (by decide) HB3.out
  have HBE : Hid (beginI (r : Int) = 0) := Lib.hid (by unfold beginI; rw [if_neg (by omega)])
  have HQ3 : Hid (openQ b = if N < 1 ∨ k + 9 < N then ([], 51) else if bodyQ5 b < 0 then ([], 51) else openQR b (rqF (b.take (bodyQ5 b).toNat) N)) := Lib.hid (by rw [HQ2.out, if_neg hr0])
  have hr1 : 1 ≤ r := by omega
  have hr16 : r ≤ 16 := by omega
  clear hr0 HQ2
  by_cases hN1 : N < 1
  case pos =>
    have HP : Hid (openQ b = ([], 51)) := Lib.hid (by rw [HQ3.out, if_pos (.inl hN1)])
    have d1 : decide ((N : Int) < 1) = true := decide_eq_true (by omega)
    go_wp2_with (go_at_call 36; go_must (refine (rbegin_any (r : Int) _).mono ?_); rw [HBE.out]; rintro e z4 ⟨rfl, rfl⟩)
    go_ret2
    exact ropen_no HP.out (by decide) HB3.out
  have d1 : decide ((N : Int) < 1) = false := decide_eq_false (by omega)
  by_cases hN2 : k + 9 < N
  case pos =>
    have HP : Hid (openQ b = ([], 51)) := Lib.hid (by rw [HQ3.out, if_pos (.inr hN2)])
    have d2 : decide ((N : Int) > (k : Int) + 9) = true := decide_eq_true (by omega)
    go_wp2_with (go_at_call 36; go_must (refine (rbegin_any (r : Int) _).mono ?_); rw [HBE.out]; rintro e z4 ⟨rfl, rfl⟩)
    go_ret2
    exact ropen_no HP.out (by decide) HB3.out
  have d2 : decide ((N : Int) > (k : Int) + 9) = false := decide_eq_false (by omega)
  have HQ4 : Hid (openQ b = if bodyQ5 b < 0 then ([], 51) else openQR b (rqF (b.take (bodyQ5 b).toNat) N)) := Lib.hid (by rw [HQ3.out, if_neg (by omega)])
  obtain ⟨m, hm⟩ : ∃ z, z = resN N r := ⟨_, rfl⟩
  have hmN : m ≤ N := by rw [hm]; exact resN_le hr1
  have HMQ : Hid (Int.tdiv ((N : Int) + (r : Int) - 1) (r : Int) = (m : Int)) := Lib.hid (by rw [hm]; exact quo_res N r hr1)
  have HBM : Hid (bodyQ5 b = (k : Int) - 4 * (m : Int)) := Lib.hid (by rw [HBD.out, ← hm])
  clear HQ3 hm HBD
  go_upto_region 12 with (go_at_call 36; go_must (refine (rbegin_any (r : Int) _).mono ?_); rw [HBE.out]; rintro e z4 ⟨rfl, rfl⟩)
  have HB4 := HB3
  go_cut [7] (fun v wx => v = .int .i64 ((k : Int) - 4 * (m : Int)) ∧ Hid (Below w.heap.size w wx))
  case first =>
    have r2 : ¬ r = 0 := by omega
    have s1 : IntKind.i64.wrap ((N : Int) + (r : Int)) = (N : Int) + (r : Int) := i64_sum (by omega) (by omega)
    have s2 : IntKind.i64.wrap ((N : Int) + (r : Int) - 1) = (N : Int) + (r : Int) - 1 := i64_sum (by omega) (by omega)
    have s3 : IntKind.i64.wrap (Int.tdiv ((N : Int) + (r : Int) - 1) (r : Int)) = (m : Int) := by rw [HMQ.out]; exact i64_sum (by omega) (by omega)
    have s4 := HMQ.out
    go_wp2_with fail
    go_meet
    exact ⟨by first | rfl | go_num, HB4⟩
  obtain ⟨rfl, HB5⟩ := hcut
  clear HB3 HB4 HMQ d1 d2
  by_cases hb0 : (k : Int) - 4 * (m : Int) < 0
  case pos =>
    have HP : Hid (openQ b = ([], 51)) := Lib.hid (by rw [HQ4.out, HBM.out, if_pos hb0])
    have d3 : decide ((k : Int) - 4 * (m : Int) < 0) = true := decide_eq_true hb0
    go_wp2_with fail
    go_ret2
    exact ropen_no HP.out (by decide) HB5.out
  obtain ⟨bd, hbd⟩ : ∃ z : Nat, (k : Int) - 4 * (m : Int) = (z : Int) := ⟨((k : Int) - 4 * (m : Int)).toNat, by omega⟩
  have hbdk : bd ≤ k := by omega
  rw [hbd] at HBM ⊢
  have HQ5 : Hid (openQ b = openQR b (rqF (b.take bd) N)) := Lib.hid (by rw [HQ4.out, HBM.out, if_neg (by omega), Int.toNat_natCast])
  obtain ⟨b2, hb2⟩ : ∃ z, z = b.take bd := ⟨_, rfl⟩
  have HSB : Hid (∀ z, Below w.heap.size w z → Sl z (some ⟨b1, o1, none⟩) bd c b2) := Lib.hid fun z hz => by rw [hb2]; exact HTK.out bd hbdk z hz
  rw [← hb2] at HQ5
  have d3 : decide ((bd : Int) < 0) = false := decide_eq_false (by omega)
  have hNn : N ≤ k + 9 := by omega
  clear hbd hb0 HQ4 hb2 hN1 hN2 HBM HTK
  have HX0 : Hid (OW w [rowO 46 7 (.slice none 0 0) 0 [], bytO 5 (none, 0, [])] wc) := Lib.hid ((((OW.nil w).later HB5.out).nilRow 46 7).nilB 5)
  clear HB5
  have k1 : (0 : Int) ≤ (bd : Int) := by omega
  have k2 : (bd : Int) ≤ (c : Int) := by omega
  go_wp2_with fail
  go_loopw [8, 9, 10, 11] (fun lv kv av iv wr => ∃ (i a : Nat) (rs : List ER) (LA : Option Addr) (lc : Nat) (KA : Option Addr) (kl kc : Nat) (key : List UInt8), i ≤ N ∧ iv = .int .i64 i ∧ av = .int .i64 a ∧ lv = .slice LA i lc ∧ kv = .slice KA kl kc ∧ kl ≤ 1048 ∧ Hid (key.length = kl) ∧ Hid (rs.length = i) ∧ Hid (rqF b2 i = some (rs.map ER.e, key, a)) ∧ Hid (OW w (rowO 46 7 (.slice LA i lc) i (rs.flatMap ER.cells) :: bytO 5 (KA, kc, key) :: rs.flatMap rowE) wr)) (fun _ _ _ iv _ => N - (intOf iv).toNat)
  case atStart => exact ⟨0, 0, [], none, 0, none, 0, 0, [], Nat.zero_le _, rfl, rfl, rfl, rfl, Nat.zero_le _, Lib.hid rfl, Lib.hid rfl, Lib.hid rfl, HX0⟩
  case round =>
    clear HX0
    obtain ⟨i, a, rs, LA, lc, KA, kl, kc, key, hiN, rfl, rfl, rfl, rfl, hkl, HKL, HRL, HRD, HX⟩ := hrel
    by_cases hlt : i < N
    case neg =>
      obtain rfl : i = N := by omega
      have d4 : decide ((i : Int) < (i : Int)) = false := decide_eq_false (by omega)
      have HEN : Hid (∀ z, OW w (rowO 46 7 (.slice LA i lc) i (rs.flatMap ER.cells) :: bytO 5 (KA, kc, key) :: rs.flatMap rowE) z → Ens z LA i (rs.map ER.e)) := Lib.hid fun z hz => rowE_ens (os := []) (by rw [List.append_nil]; exact hz.sub (List.Sublist.cons_cons _ (List.Sublist.cons _ (List.Sublist.refl _))))
      obtain ⟨L, hL⟩ : ∃ z, z = rs.map ER.e := ⟨_, rfl⟩
      have HL2 := Lib.hid hL
      have hll : L.length = i := by rw [hL, List.length_map, HRL.out]
      rw [← hL] at HEN
      obtain ⟨B, be, hB⟩ : ∃ B be, buildE5 (r : Int) L = (B, be) := ⟨_, _, rfl⟩
      have HBU := Lib.hid hB
      obtain ⟨bn, hbn⟩ : ∃ z, z = B.length := ⟨_, rfl⟩
      have HBN := Lib.hid hbn.symm
      have HQ6 : Hid (openQ b = if (B, be) = (b, 0) then (L, 0) else ([], 51)) := Lib.hid (by rw [HQ5.out, HRD.out, ← hB, hL]; unfold openQR; rw [HR.out])
      clear hL hB hbn HRD HQ5 hlt hll
      go_upto_region 28 with (go_at_call 27; go_must (refine (rbuild_any (r : Int) L LA i lc _ (HEN.out _ HX.out) (by omega)).mono ?_); rw [HBU.out]; rintro e z5 hp; obtain ⟨A5, c5, rfl, hs5, _, hb⟩ := hp.at_ HBN.out rfl; have HS5 := Lib.hid hs5; have HX5 := Lib.hid (HX.out.later hb); clear hp hb hs5 HX)
      by_cases hbe : be = 0
      case neg =>
        have d9 : (be != 0) = true := bne_iff_ne.2 hbe
        have HP : Hid (openQ b = ([], 51)) := Lib.hid (by rw [HQ6.out, if_neg]; intro h; injection h with _ h; exact hbe h)
        clear hbe
        go_wp2_with fail
        go_ret2
        exact ropen_no HP.out (by decide) HX5.out.up
      have d9 : (be != 0) = false := by rw [hbe]; rfl
      cases hq : B == b with
      | false =>
        have HP : Hid (openQ b = ([], 51)) := Lib.hid (by rw [HQ6.out, if_neg]; intro h; injection h with h _; rw [h] at hq; simp at hq)
        have HQQ := Lib.hid hq
        clear hq hbe
        go_wp2_with (go_at_call 33; go_must (refine (rSame_any B b _ _ bn _ (k + 9) _ _ (HS5.out).rb (HSL.out _ HX5.out.up).rb).mono ?_); rw [HQQ.out]; rintro e z6 ⟨rfl, rfl⟩)
        go_ret2
        exact ropen_no HP.out (by decide) HX5.out.up
      | true =>
        have HP : Hid (openE b = (some L, 0)) := Lib.hid (openQ_yes (by rw [HQ6.out, if_pos]; rw [beq_iff_eq] at hq; rw [hq, hbe]))
        have HQQ := Lib.hid hq
        clear hq hbe
        go_wp2_with (go_at_call 33; go_must (refine (rSame_any B b _ _ bn _ (k + 9) _ _ (HS5.out).rb (HSL.out _ HX5.out.up).rb).mono ?_); rw [HQQ.out]; rintro e z6 ⟨rfl, rfl⟩)
        go_ret2
        exact .inl ⟨rs, LA, i, lc, by rw [HP.out, HL2.out], HRL.out, by omega, rfl, HX5.out.sub (List.Sublist.cons_cons _ (List.Sublist.cons _ (List.Sublist.refl _)))⟩
    have d4 : decide ((i : Int) < (N : Int)) = true := decide_eq_true (by omega)
    cases hq : rq1 b2 a key with
    | none =>
      have HP : Hid (openQ b = ([], 51)) := Lib.hid (by rw [HQ5.out, rqF_stop HRD.out hq hlt]; rfl)
      have HQQ := Lib.hid hq
      clear hq
      go_wp2_with (first
        | (go_at_call 37; go_must (refine (rentry_any b2 key (some ⟨b1, o1, none⟩) KA bd c kl kc a _ (by omega) (by omega) (HSB.out _ HX.out.up) (HX.out.sl (i := 1) rfl HKL.out)).mono ?_); intro e z5 hp; obtain ⟨rfl, hb⟩ := hp.no HQQ.out; have HX5 := Lib.hid (HX.out.later hb); clear hp hb HX)
        | (refine wl_alloc rfl rfl [.slice none 0 0, .int .i64 0, .slice none 0 0, .int .i64 0, .int .i64 0, .int .i64 0, .slice none 0 0] (.inl (by kernel_rfl)) HX5.out ?_; intro ge z6 hz _; have HX6 := Lib.hid (hz.perm List.perm_append_comm); clear hz HX5)
        | (refine wl_put rfl (.tmp 12) (.tmp 81) rfl HX6.out 0 rfl rfl [.slice none 0 0, .int .i64 0, .slice none 0 0, .int .i64 0, .int .i64 0, .int .i64 0, .slice none 0 0] rfl rfl (by kernel_rfl) (by simp [Value.oneCell']) ?_; intro z7 hz _; have HX7 := Lib.hid hz.up; clear hz HX6))
      go_ret2
      exact ropen_no HP.out (by decide) HX7.out
    | some q =>
    obtain ⟨e, K, p⟩ := q
    have hK := rq1_key hq
    obtain ⟨kn, hkn⟩ : ∃ z, z = K.length := ⟨_, rfl⟩
    have HKN := Lib.hid hkn.symm
    have hkn2 : kn ≤ 1048 := by rw [hkn]; exact hK
    have HRG : Hid (rqF b2 (i + 1) = some (rs.map ER.e ++ [e], K, p)) := Lib.hid (rqF_go HRD.out hq)
    have HQQ := Lib.hid hq
    clear hq hkn hK
    go_wp2_with (first
      | (go_at_call 37; go_must (refine (rentry_any b2 key (some ⟨b1, o1, none⟩) KA bd c kl kc a _ (by omega) (by omega) (HSB.out _ HX.out.up) (HX.out.sl (i := 1) rfl HKL.out)).mono ?_); intro r5 z5 hp; obtain ⟨A5, c5, B5, d5, D5, q5, K5, kc5, rfl, ho⟩ := hp.yes HQQ.out; rw [HKN.out]; have HX5 := Lib.hid (HX.out.app ho); clear hp ho HX)
      | (refine wl_alloc rfl rfl [.slice none 0 0, .int .i64 0, .slice none 0 0, .int .i64 0, .int .i64 0, .int .i64 0, .slice none 0 0] (.inl (by kernel_rfl)) HX5.out ?_; intro ge z6 hz _; have HX6 := Lib.hid (hz.perm List.perm_append_comm); clear hz HX5)
      | (refine wl_put rfl (.tmp 12) (.tmp 81) rfl HX6.out 0 rfl rfl [.slice A5 e.row.length c5, .int .i64 e.fam, .slice B5 e.qual.length d5, .int .i64 e.ts, .int .i64 e.seq, .int .i64 e.kind, .slice D5 e.val.length q5] rfl rfl (by kernel_rfl) (by simp [Value.oneCell']) ?_; intro z7 hz _; have HX7 : Hid (OW w (boxO ge [.slice A5 e.row.length c5, .int .i64 e.fam, .slice B5 e.qual.length d5, .int .i64 e.ts, .int .i64 e.seq, .int .i64 e.kind, .slice D5 e.val.length q5] :: rowO 46 7 (.slice LA i lc) i (rs.flatMap ER.cells) :: bytO 5 (KA, kc, key) :: (rs.flatMap rowE ++ [bytO 5 (K5, kc5, K), bytO 5 (A5, c5, e.row), bytO 5 (B5, d5, e.qual), bytO 5 (D5, q5, e.val)])) z7) := Lib.hid hz; clear hz HX6)
      | (refine wpList_load_row7 rfl 46 (.tmp 12) rfl rfl (HX7.out.range (i := 0) rfl) ent_row5 ?_)
      | (refine wl_build rfl #[(0, .tmp 88)] rfl #[.slice A5 e.row.length c5, .int .i64 e.fam, .slice B5 e.qual.length d5, .int .i64 e.ts, .int .i64 e.seq, .int .i64 e.kind, .slice D5 e.val.length q5] Tryz.entsS (.agg #[.slice none 0 0, .int .i64 0, .slice none 0 0, .int .i64 0, .int .i64 0, .int .i64 0, .slice none 0 0]) (by kernel_rfl) (by decide) (by decide) (by decide) rfl (by kernel_rfl) HX7.out ?_; intro g8 z8 hz _; have HX8 := Lib.hid (hz.perm List.perm_append_comm); clear hz HX7)
      | (at_builtin; go_must (refine wl_append rfl (.tmp 87) (.tmp 89) rfl Tryz.entsS HX8.out 2 rfl rfl _ (some ⟨g8, 0, none⟩) 1 1 [.slice A5 e.row.length c5, .int .i64 e.fam, .slice B5 e.qual.length d5, .int .i64 e.ts, .int .i64 e.seq, .int .i64 e.kind, .slice D5 e.val.length q5] rfl (Reads.own (HX8.out.row (i := 0) rfl)) (by simp [Value.oneCell']) (by unfold maxLen; omega) (by omega) ?_); intro A9 c9 z9 hz _; have HX9 := Lib.hid ((hz.erase 0).erase 0); clear hz HX8))
    go_roundw
    case rel =>
      refine ⟨i + 1, p, rs ++ [(⟨A5, c5, B5, d5, D5, q5, e⟩ : ER)], A9, c9, K5, kn, kc5, K, by omega, by go_num, rfl, rfl, rfl, hkn2, HKN, Lib.hid (by rw [List.length_append, HRL.out]; rfl), Lib.hid (by rw [List.map_append]; exact HRG.out), Lib.hid ?_⟩
      rw [cellE_snoc, rowE_snoc]
      have h : OW w (rowO 46 7 (.slice A9 (i + 1) c9) (i + 1) (rs.flatMap ER.cells ++ [.slice A5 e.row.length c5, .int .i64 e.fam, .slice B5 e.qual.length d5, .int .i64 e.ts, .int .i64 e.seq, .int .i64 e.kind, .slice D5 e.val.length q5]) :: bytO 5 (KA, kc, key) :: (rs.flatMap rowE ++ [bytO 5 (K5, kc5, K), bytO 5 (A5, c5, e.row), bytO 5 (B5, d5, e.qual), bytO 5 (D5, q5, e.val)])) z9 := HX9.out
      have h2 : OW w (rowO 46 7 (.slice A9 (i + 1) c9) (i + 1) (rs.flatMap ER.cells ++ [.slice A5 e.row.length c5, .int .i64 e.fam, .slice B5 e.qual.length d5, .int .i64 e.ts, .int .i64 e.seq, .int .i64 e.kind, .slice D5 e.val.length q5]) :: (rs.flatMap rowE ++ [bytO 5 (K5, kc5, K), bytO 5 (A5, c5, e.row), bytO 5 (B5, d5, e.qual), bytO 5 (D5, q5, e.val)])) z9 := h.erase 1
      exact h2.perm (List.Perm.cons _ (List.perm_middle (a := bytO 5 (K5, kc5, K))))
    case measure => simp [intOf]; omega
theorem rseek_le (L : List Ent) (key : List UInt8) : rseekN L key ≤ L.length := by
  unfold rseekN; exact (List.takeWhile_sublist _).length_le
theorem rseek_at : ∀ {L : List Ent} {key : List UInt8} {i : Nat} {e : Ent}, L[i]? = some e → i ≤ rseekN L key → (cmpB (keyE e) key < 0 → i + 1 ≤ rseekN L key) ∧ (¬ cmpB (keyE e) key < 0 → rseekN L key = i)
  | [], _, _, _, h, _ => by cases h
  | a :: L, key, i, e, h, hi => by
    have hc : rseekN (a :: L) key = if cmpB (keyE a) key < 0 then rseekN L key + 1 else 0 := by
      unfold rseekN
      rw [List.takeWhile_cons]
      by_cases ha : cmpB (keyE a) key < 0
      · rw [if_pos (by simpa using ha), if_pos ha, List.length_cons]
      · rw [if_neg (by simpa using ha), if_neg ha]; rfl
    rw [hc] at hi ⊢
    cases i with
    | zero =>
      injection h with h; subst h
      refine ⟨fun h => by rw [if_pos h]; omega, fun h => by rw [if_neg h]⟩
    | succ i =>
      split at hi
      · rename_i ha
        rw [if_pos ha]
        obtain ⟨h1, h2⟩ := rseek_at (L := L) (key := key) (i := i) h (by omega)
        exact ⟨fun h => by have := h1 h; omega, fun h => by rw [h2 h]⟩
      · omega
set_option maxRecDepth 100000 in
set_option maxHeartbeats 4000000 in
theorem rseek_any (L : List Ent) (key : List UInt8) (A KA : Option Addr) (n c kn kc : Nat) (w : World) (hes : Ens w A n L) (hn : n ≤ 1000000) (hok : ∀ e, e ∈ L → checkE e = 0) (hkn : kn ≤ 9223372036854775807) (hk : Sl w KA kn kc key) :
    Calls Tryz.prog 15 #[.slice A n c, .slice KA kn kc] w fun e z => e = .returned (.int .i64 (rseekN L key : Nat)) ∧ Below w.heap.size w z := by
  have HLE := Lib.hid hes.len
  have HES : Hid (∀ z, Below w.heap.size w z → Ens z A n L) := Lib.hid fun z hz => hes.later hz
  have HK : Hid (∀ z, Below w.heap.size w z → Sl z KA kn kc key) := Lib.hid fun z hz => hk.later hz
  have HOK := Lib.hid hok
  have HB0 : Hid (Below w.heap.size w w) := Lib.hid (Below.refl _ _)
  obtain ⟨sk, hsk⟩ : ∃ z, z = rseekN L key := ⟨_, rfl⟩
  have HAT : Hid (∀ i e, L[i]? = some e → i ≤ sk → (cmpB (keyE e) key < 0 → i + 1 ≤ sk) ∧ (¬ cmpB (keyE e) key < 0 → sk = i)) := Lib.hid fun i e h1 h2 => by rw [hsk] at h2 ⊢; exact rseek_at h1 h2
  have hskn : sk ≤ n := by rw [hsk, ← HLE.out]; exact rseek_le L key
  rw [← hsk]
  clear hes hk hok hsk
  go_enter Tryz.func15, Tryz.ntmps15
  go_wp2_with fail
  go_loopw [5] (fun iv wr => ∃ i : Nat, i ≤ n ∧ i ≤ sk ∧ iv = .int .i64 i ∧ Hid (Below w.heap.size w wr)) (fun iv _ => n - (intOf iv).toNat)
  case atStart => exact ⟨0, Nat.zero_le _, Nat.zero_le _, rfl, HB0⟩
  case round =>
    clear HB0
    obtain ⟨i, hin, his, rfl, HB⟩ := hrel
    by_cases hlt : i < n
    case neg =>
      have hin2 : i = n := by omega
      have hsi : sk = i := by omega
      subst hin2; subst hsi
      have d1 : decide ((sk : Int) < (sk : Int)) = false := decide_eq_false (by omega)
      go_wp2_with fail
      go_ret
      exact ⟨rfl, HB.out⟩
    have d1 : decide ((i : Int) < (n : Int)) = true := decide_eq_true (by omega)
    obtain ⟨b, o, Ar, ec, B, d, D, q, e, rfl, hbl2, hek, hrg, hen⟩ := (HES.out w (Below.refl _ _)).at_ hlt
    have HRG : Hid (∀ z, Below w.heap.size w z → z.rangeAt b (o + i * 7) [.slice Ar e.row.length ec, .int .i64 e.fam, .slice B e.qual.length d, .int .i64 e.ts, .int .i64 e.seq, .int .i64 e.kind, .slice D e.val.length q]) := Lib.hid fun z hz j v hj => (hz.cell (p := ⟨b, _, none⟩) hbl2).trans (hrg j v hj)
    have HEN : Hid (∀ z, Below w.heap.size w z → En z Ar e.row.length ec B e.qual.length d D e.val.length q e) := Lib.hid fun z hz => hen.later hz
    have hck := HOK.out e (List.mem_of_getElem? hek)
    have hat := HAT.out i e hek his
    obtain ⟨kb, hkb⟩ : ∃ z, z = keyE e := ⟨_, rfl⟩
    obtain ⟨kl, hkl⟩ : ∃ z, z = kb.length := ⟨_, rfl⟩
    have hkl2 : kl ≤ 1048 := by rw [hkl, hkb]; exact keyE_len (ok_of hck)
    have HKE : Hid (KeyE e = (kb, 0)) := Lib.hid (by unfold KeyE; rw [if_pos hck, hkb])
    have HKL := Lib.hid hkl.symm
    rw [← hkb] at hat
    obtain ⟨cv, hcv⟩ : ∃ z, z = cmpB kb key := ⟨_, rfl⟩
    rw [← hcv] at hat
    have HCV := Lib.hid hcv.symm
    have HAT2 := Lib.hid hat
    have i1 : (0 : Int) ≤ (i : Int) := by omega
    have i2 : (i : Int) < (n : Int) := by omega
    clear hek hrg hen hck hkb hkl hcv hat
    go_upto_if 25 with (first
      | (refine wpList_load_at rfl 46 (.tmp 17) rfl rfl (HRG.out _ HB.out) ent_row5 ?_)
      | (go_at_call 20; go_must (refine (rKey_any e Ar _ ec B _ d D _ q _ (HEN.out _ HB.out)).mono ?_); rw [HKE.out]; rintro r y1 hp; obtain ⟨Ak, ck, rfl, hsk, _, hb⟩ := hp.at_ HKL.out rfl; have HSK := Lib.hid hsk; have HB1 := Lib.hid (HB.out.trans (hb.mono HB.out.size)); clear hp hsk hb HB)
      | (go_at_call 40; go_must (refine (rBcmp_any kb key Ak KA kl ck kn kc _ (by omega) (by omega) HSK.out.rb (HK.out _ HB1.out).rb).mono ?_); rw [HCV.out]; rintro r y2 ⟨rfl, hb⟩; have HB2 := Lib.hid (HB1.out.trans (hb.mono HB1.out.size)); clear hb HB1))
    by_cases hc : cv < 0
    case neg =>
      have d2 : decide (cv ≥ 0) = true := decide_eq_true (by omega)
      have d3 : 0 ≤ cv := by omega
      have HE : Hid (sk = i) := Lib.hid (HAT2.out.2 (by omega))
      go_wp2_with fail
      go_ret
      exact ⟨by rw [HE.out]; rfl, HB2.out⟩
    have d2 : decide (cv ≥ 0) = false := decide_eq_false (by omega)
    have d3 : ¬ 0 ≤ cv := by omega
    have hsk1 := HAT2.out.1 (by omega)
    go_wp2_with fail
    go_roundw
    case rel => exact ⟨i + 1, by omega, hsk1, by go_num, HB2⟩
    case measure => simp [intOf]; omega
end Go.Proofs.YtmigjipfomfacaaGreatDoor
namespace Go.Proofs.YtmigjipfomfacaaGreatDoor
open Go.RowKit
end Go.Proofs.YtmigjipfomfacaaGreatDoor
namespace Go.Proofs.YtmigjipfomfacaaGreatDoor
open Go.RowKit
end Go.Proofs.YtmigjipfomfacaaGreatDoor
namespace Go.Proofs.YtmigjipfomfacaaGreatDoor
open Go.RowKit
end Go.Proofs.YtmigjipfomfacaaGreatDoor
namespace Go.Proofs.YtmigjipfomfacaaGreatDoor
open Go.RowKit
end Go.Proofs.YtmigjipfomfacaaGreatDoor
namespace Go.Proofs.YtmigjipfomfacaaGreatDoor
open Go.RowKit
set_option maxRecDepth 100000 in
set_option maxHeartbeats 1000000 in
theorem same_any (a b : List UInt8) (A B : Option Addr) (n c m d : Nat) (w : World) (hn : n ≤ 9223372036854775807) (ha : RB w w.heap.size A n a) (hb : RB w w.heap.size B m b) :
    Calls Tryz.prog 29 #[.slice A n c, .slice B m d] w fun e w' => e = .returned (.bool (a == b)) ∧ Below w.heap.size w w' := by
  have HLA := Lib.hid ha.len
  have HLB := Lib.hid hb.len
  have HA : Hid (∀ w', Below w.heap.size w w' → RB w' w'.heap.size A n a) := Lib.hid fun w' h => ha.later h
  have HB : Hid (∀ w', Below w.heap.size w w' → RB w' w'.heap.size B m b) := Lib.hid fun w' h => hb.later h
  clear ha hb
  by_cases hnm : n = m
  case neg =>
    have HE : Hid ((a == b) = false) := Lib.hid (by rw [beq_eq_false_iff_ne]; intro h; exact hnm (by rw [← HLA.out, ← HLB.out, h]))
    have hd : ((n : Int) != (m : Int)) = true := by rw [bne_iff_ne]; omega
    have hd2 : (n != m) = true := by rw [bne_iff_ne]; omega
    clear hnm
    go_enter Tryz.func29, Tryz.ntmps29
    go_wp2
    go_ret
    exact ⟨by rw [HE.out]; rfl, Below.refl _ _⟩
  subst hnm
  go_enter Tryz.func29, Tryz.ntmps29
  go_wp2
  go_loopw [5] (fun i wr => ∃ k : Nat, k ≤ n ∧ i = .int .i64 k ∧ Hid (a.take k = b.take k) ∧ Hid (Below w.heap.size w wr)) (fun i _ => n - (intOf i).toNat)
  case atStart => exact ⟨0, Nat.zero_le _, rfl, Lib.hid rfl, Lib.hid (Below.refl _ _)⟩
  case round =>
    obtain ⟨k, hkn, rfl, HT, HW⟩ := hrel
    by_cases hlt : k < n
    case neg =>
      have HE : Hid ((a == b) = true) := Lib.hid (by
        have h := HT.out
        rw [List.take_of_length_le (by have := HLA.out; omega), List.take_of_length_le (by have := HLB.out; omega)] at h
        rw [h]; simp)
      have hd1 : decide ((k : Int) < (n : Int)) = false := decide_eq_false (by omega)
      have hd2 : decide (k < n) = false := decide_eq_false hlt
      go_wp2
      go_ret
      exact ⟨by rw [HE.out]; rfl, HW.out⟩
    have hd1 : decide ((k : Int) < (n : Int)) = true := decide_eq_true (by omega)
    have hd2 : decide (k < n) = true := decide_eq_true hlt
    have hk1 : (k : Int) < (n : Int) := by omega
    obtain ⟨b1, o1, x, rfl, _, hx, _⟩ := (HA.out _ HW.out).at_ hlt
    obtain ⟨b2, o2, y, rfl, _, hy, _⟩ := (HB.out _ HW.out).at_ hlt
    have HX := Lib.hid hx
    have HY := Lib.hid hy
    have c1 := (HA.out _ HW.out).cell HX.out
    have c2 := (HB.out _ HW.out).cell HY.out
    clear hx hy
    by_cases hxy : x = y
    case neg =>
      have HE : Hid ((a == b) = false) := Lib.hid (by
        rw [beq_eq_false_iff_ne]; intro h
        have h1 := HX.out; have h2 := HY.out
        rw [h, h2] at h1; injection h1 with h1; exact hxy h1.symm)
      have e1 : ((x.toNat : Int) != (y.toNat : Int)) = true := by rw [bne_iff_ne]; intro h; exact hxy (UInt8.toNat_inj.1 (by omega))
      have e2 : (x.toNat != y.toNat) = true := by rw [bne_iff_ne]; intro h; exact hxy (UInt8.toNat_inj.1 h)
      have HW2 := Lib.hid (fun k => below_drewN (n := k) HW.out)
      clear hxy
      go_wp2_with fail
      go_quiet (fail)
      have HW3 := Lib.hid (HW2.out nq)
      clear c1 c2
      generalize wr.drewN nq = w3 at *
      go_wp2
      go_ret
      exact ⟨by rw [HE.out]; rfl, HW3.out⟩
    subst hxy
    have HE := Lib.hid (cmp_eq_at HT.out HX.out HY.out)
    have e1 : ((x.toNat : Int) != (x.toNat : Int)) = false := by simp
    have HW2 := Lib.hid (fun k => below_drewN (n := k) HW.out)
    go_wp2_with fail
    go_quiet (fail)
    have HW3 := Lib.hid (HW2.out nq)
    clear c1 c2
    generalize wr.drewN nq = w3 at *
    go_wp2
    go_roundw
    case rel => exact ⟨k + 1, by omega, by go_num, HE, HW3⟩
    case measure => simp [intOf]; omega
set_option maxRecDepth 100000 in
set_option maxHeartbeats 1000000 in
theorem copied_any (l : List UInt8) (A : Option Addr) (n c : Nat) (w : World) (hn : n ≤ 140737488355000) (hr : RB w w.heap.size A n l) :
    Calls Tryz.prog 8 #[.slice A n c] w (BytesPost 5 l w) := by
  have HR := Lib.hid hr
  clear hr
  go_enter Tryz.func8, Tryz.ntmps8
  go_wp2_with (at_builtin; go_must (refine wpList_append_reads _ rfl (.tmp 4) (.tmp 5) rfl Tryz.u8s' w.heap.size (.slice none 0 0) 0 [] rfl (own_nil _ _ _ _) _ A n c (u8s l) rfl HR.out (u8s_one _) (by unfold maxLen; omega) (by omega) (Nat.le_refl _) ?_); intro v1 w1 hown1 hg1 hat1; have HB1 := Lib.hid (below_app (Below.refl w.heap.size w) (own_nil _ w.heap.size 5 1) hg1 (Nat.le_refl _) (Nat.le_refl _)); rw [List.nil_append, Nat.zero_add] at hown1; have HO1 := Lib.hid hown1; clear hown1 hg1 hat1)
  go_ret
  exact bytes_post HO1.out HB1.out
set_option maxRecDepth 100000 in
set_option maxHeartbeats 2000000 in
theorem sameEntry_any (a b : Ent) (A : Option Addr) (n c : Nat) (B : Option Addr) (m d : Nat) (D : Option Addr) (v q : Nat) (A' : Option Addr) (n' c' : Nat) (B' : Option Addr) (m' d' : Nat) (D' : Option Addr) (v' q' : Nat) (w : World) (he : a = b) (ha : En w A n c B m d D v q a) (hb : En w A' n' c' B' m' d' D' v' q' b) :
    Calls Tryz.prog 17 #[entV A n c B m d D v q a, entV A' n' c' B' m' d' D' v' q' b] w fun e w1 => e = .returned (.bool true) ∧ Below w.heap.size w w1 := by
  have HT := Lib.hid (Two.new w 46 #[.slice A n c, .int .i64 a.fam, .slice B m d, .int .i64 a.ts, .int .i64 a.seq, .int .i64 a.kind, .slice D v q] #[.slice A' n' c', .int .i64 b.fam, .slice B' m' d', .int .i64 b.ts, .int .i64 b.seq, .int .i64 b.kind, .slice D' v' q'])
  have HA : Hid (∀ x, Below w.heap.size w x → En x A n c B m d D v q a) := Lib.hid fun x h => ha.later h
  have HC : Hid (∀ x, Below w.heap.size w x → En x A' n' c' B' m' d' D' v' q' b) := Lib.hid fun x h => hb.later h
  have HLE : Hid (n ≤ 9223372036854775807 ∧ m ≤ 9223372036854775807 ∧ v ≤ 9223372036854775807) := Lib.hid ⟨ha.row.le, ha.qual.le, ha.val.le⟩
  have HQ : Hid (a.row = b.row ∧ a.qual = b.qual ∧ a.val = b.val) := Lib.hid ⟨by rw [he], by rw [he], by rw [he]⟩
  have XS : Hid (∀ l : List UInt8, (l == l) = true) := Lib.hid (by simp)
  have e1 : a.fam = b.fam := by rw [he]
  have e2 : a.ts = b.ts := by rw [he]
  have e3 : a.seq = b.seq := by rw [he]
  have e4 : a.kind = b.kind := by rw [he]
  unfold entV
  rw [e1, e2, e3, e4] at HT ⊢
  clear ha hb he e1 e2 e3 e4
  have tok1 : True := trivial
  have tok2 : True := trivial
  go_enter Tryz.func17, Tryz.ntmps17
  go_wp2_with (first
    | (go_at_call 29; have _t := tok1; go_must (refine (same_any a.row a.row _ _ _ _ _ _ _ HLE.out.1 (HA.out _ HT.out.up).row.rb (by have h := (HC.out _ HT.out.up).row.rb; rw [← HQ.out.1] at h; exact h)).mono ?_); rw [XS.out]; rintro e x1 ⟨rfl, hb1⟩; have HT1 := Lib.hid (HT.out.later hb1); clear hb1 tok1; have a2 := boxed1 HT1.out (i := 2) (v := .slice B m d) rfl; have b2 := boxed2 HT1.out (i := 2) (v := .slice B' m' d') rfl)
    | (go_at_call 29; have _t := tok2; go_must (refine (same_any a.qual a.qual _ _ _ _ _ _ _ HLE.out.2.1 (HA.out _ HT1.out.up).qual.rb (by have h := (HC.out _ HT1.out.up).qual.rb; rw [← HQ.out.2.1] at h; exact h)).mono ?_); rw [XS.out]; rintro e x2 ⟨rfl, hb2⟩; have HT2 := Lib.hid (HT1.out.later hb2); clear hb2 tok2; have a6 := boxed1 HT2.out (i := 6) (v := .slice D v q) rfl; have b6 := boxed2 HT2.out (i := 6) (v := .slice D' v' q') rfl)
    | (go_at_call 29; go_must (refine (same_any a.val a.val _ _ _ _ _ _ _ HLE.out.2.2 (HA.out _ HT2.out.up).val.rb (by have h := (HC.out _ HT2.out.up).val.rb; rw [← HQ.out.2.2] at h; exact h)).mono ?_); rw [XS.out]; rintro e x3 ⟨rfl, hb3⟩; have HT3 := Lib.hid (HT2.out.later hb3); clear hb3))
  go_ret
  exact ⟨rfl, HT3.out.up⟩
theorem conv_const (W : World) (C : Array Value) (n c g : Nat) (hg : g = W.heap.size) : (convert 22 22 (.slice (some ⟨g, 0, none⟩) n c)).run Tryz.prog (W.alloc (.cells C 5)) = .ok (.slice (some ⟨g, 0, none⟩) n c) (W.alloc (.cells C 5 (C.size, C.size + 1))) := by
  subst hg; exact Lib.run_convert_bytes_const (P := Tryz.prog) W 22 5 C n c Tryz.underlying22 Tryz.underlying5
theorem three_lits (w : World) (o : Obj) (a b d : UInt8) (t : TypeId) (fr : Nat × Nat) : ∀ W, W = (((w.alloc o).alloc (.cells #[u8v a] t fr)).alloc (.cells #[u8v b] t fr)).alloc (.cells #[u8v d] t fr) →
    Sl W (some ⟨w.heap.size + 1, 0, none⟩) 1 1 [a] ∧ Sl W (some ⟨w.heap.size + 1 + 1, 0, none⟩) 1 1 [b] ∧ Sl W (some ⟨w.heap.size + 1 + 1 + 1, 0, none⟩) 1 1 [d] ∧ Below (w.alloc o).heap.size (w.alloc o) W := by
  rintro W rfl
  have hz : ∀ (x : World) (o : Obj), (x.alloc o).heap.size = x.heap.size + 1 := fun x o => by show (x.heap.push _).size = _; simp
  have hb : ∀ (x : World) (o : Obj), Below x.heap.size x (x.alloc o) := fun x o => (Below.refl _ x).alloc (Nat.le_refl _) o
  have s1 := Sl.lit (w.alloc o) #[u8v a] [a] t fr rfl rfl (by show (1 : Nat) ≤ 9223372036854775807; decide)
  have s2 := Sl.lit ((w.alloc o).alloc (.cells #[u8v a] t fr)) #[u8v b] [b] t fr rfl rfl (by show (1 : Nat) ≤ 9223372036854775807; decide)
  have s3 := Sl.lit (((w.alloc o).alloc (.cells #[u8v a] t fr)).alloc (.cells #[u8v b] t fr)) #[u8v d] [d] t fr rfl rfl (by show (1 : Nat) ≤ 9223372036854775807; decide)
  rw [hz w o] at s1
  rw [hz _ _, hz w o] at s2
  rw [hz _ _, hz _ _, hz w o] at s3
  exact ⟨(s1.later (hb _ _)).later (hb _ _), s2.later (hb _ _), s3, ((hb _ _).trans ((hb _ _).mono (by rw [hz (w.alloc o)]; omega))).trans ((hb _ _).mono (by rw [hz ((w.alloc o).alloc _), hz (w.alloc o)]; omega))⟩
def atE (ts : Int) : Ent := ⟨[114], 0, [113], ts, 32, 1, [118]⟩
def AtPost (ts : Int) (w : World) (r : Ending) (w' : World) : Prop := ∃ A B D, r = .returned (entV A 1 1 B 1 1 D 1 1 (atE ts)) ∧ En w' A 1 1 B 1 1 D 1 1 (atE ts) ∧ Below w.heap.size w w'
set_option maxRecDepth 100000 in
set_option maxHeartbeats 2000000 in
theorem atE_any (ts : Int) (w : World) : Calls Tryz.prog 25 #[.int .i64 ts] w (AtPost ts w) := by
  have kc := conv_const
  go_enter Tryz.func25, Tryz.ntmps25
  go_wp2
  (try simp only [Exit.inBlock, Exit.then])
  obtain ⟨h1, h2, h3, hb⟩ := three_lits w (.cells #[.slice (some ⟨w.heap.size + 1, 0, none⟩) 1 1, .int .i64 0, .slice (some ⟨w.heap.size + 1 + 1, 0, none⟩) 1 1, .int .i64 ts, .int .i64 32, .int .i64 1, .slice (some ⟨w.heap.size + 1 + 1 + 1, 0, none⟩) 1 1] 46) 114 113 118 5 (1, 2) _ rfl
  have HB := (Bxs.one w 46 #[.slice (some ⟨w.heap.size + 1, 0, none⟩) 1 1, .int .i64 0, .slice (some ⟨w.heap.size + 1 + 1, 0, none⟩) 1 1, .int .i64 ts, .int .i64 32, .int .i64 1, .slice (some ⟨w.heap.size + 1 + 1 + 1, 0, none⟩) 1 1]).later hb
  refine bodyPost_ret (results_box0 rfl _ _ w.heap.size _ rfl (HB.cells0 rfl) (by kernel_rfl) (by kernel_rfl)) rfl ?_
  exact ⟨_, _, _, rfl, ⟨h1, h2, h3⟩, HB.up⟩
end Go.Proofs.YtmigjipfomfacaaGreatDoor
namespace Go.Proofs.YtmigjipfomfacaaGreatDoor
open Go.RowKit
def toldL : List Ent := [atE 5, atE 4, atE 3]
def toldB : List UInt8 := layB 2 toldL
theorem told_build : buildE5 ((2 : Nat) : Int) toldL = (toldB, 0) := by
  have h : (buildK 2 [] toldL).1 = 0 := by decide +kernel
  unfold buildE5
  rw [if_neg (by decide), Int.toNat_natCast, if_pos h]
  rfl
theorem told_open : openE toldB = (some toldL, 0) ∧ resB toldB = 2 := openE_lay told_build
theorem told_seek : seekL toldL [] = 0 := by decide +kernel
theorem told_nil : openE [] = (none, 51) := by unfold openE; rw [if_neg (by decide), if_pos (by decide)]
def AllP (g : Nat) (x : World) (r : Ending) (z : World) : Prop := ∃ b, r = .returned (.func (.func 41) #[] #[.pointer (some ⟨b, 0, none⟩)]) ∧ x.heap.size ≤ b ∧ z.cell? ⟨b, 0, none⟩ = some (.pointer (some ⟨g, 0, none⟩)) ∧ Below x.heap.size x z
theorem all_any (g : Nat) (x : World) : Calls Tryz.prog 16 #[.pointer (some ⟨g, 0, none⟩)] x (AllP g x) := by
  have HX := Lib.hid (OW.nil x)
  go_enter Tryz.func16, Tryz.ntmps16
  go_wp2_with (refine wl_box rfl (.tmp 0) rfl [.pointer (some ⟨g, 0, none⟩)] rfl HX.out ?_; intro b x1 hz _; have HX1 : Hid (OW x [boxO b [.pointer (some ⟨g, 0, none⟩)]] x1) := Lib.hid hz; clear hz HX)
  go_ret
  exact ⟨b, rfl, (HX1.out.box (i := 0) rfl).1, HX1.out.cell (i := 0) (j := 0) rfl rfl, HX1.out.up⟩
theorem all_not_nil (b : Nat) (w : World) : (binOp .eql 43 (.func (.func 41) #[] #[.pointer (some ⟨b, 0, none⟩)]) .nilFunc).run Tryz.prog w = .ok (.bool false) w := by kernel_rfl
theorem open_lay {b : List UInt8} {L : List Ent} (ho : openE b = (some L, 0)) (A : Option Addr) (n c : Nat) (w : World) (hs : Sl w A n c b) (ht : TabAt 0 w) :
    Calls Tryz.prog 9 #[.slice A n c] w fun e z => ∃ g, e = .returned (.tuple #[.pointer (some ⟨g, 0, none⟩), .int .i64 0]) ∧ BkR z (resB b) g L ∧ Below w.heap.size w z :=
  (open_any b A n c w hs ht).mono fun e z h => by
    rcases h with ⟨L', g, os, h1, h2, h3, h4⟩ | ⟨h1, _⟩
    · rw [ho] at h1
      injection h1 with h1
      subst h1
      exact ⟨g, h2, h3.reads (rest := []) (by rw [List.append_nil]; exact h4), h4.up⟩
    · rw [ho] at h1; cases h1
theorem open_none {b : List UInt8} {k : Int} (ho : openE b = (none, k)) (A : Option Addr) (n c : Nat) (w : World) (hs : Sl w A n c b) (ht : TabAt 0 w) :
    Calls Tryz.prog 9 #[.slice A n c] w fun e z => e = .returned (.tuple #[.pointer none, .int .i64 k]) ∧ Below w.heap.size w z :=
  (open_any b A n c w hs ht).mono fun e z h => by
    rcases h with ⟨L', g, os, h1, _⟩ | ⟨_, h2, h3⟩
    · rw [ho] at h1; cases h1
    · rw [ho] at h2; exact ⟨h2, h3⟩
theorem at_in {x : World} {R g : Nat} {L : List Ent} (h : BkR x R g L) (hL : ∀ e, e ∈ L → e.row.length ≤ 140737488355000 ∧ e.qual.length ≤ 140737488355000 ∧ e.val.length ≤ 140737488355000) {k : Nat} {e : Ent} (hk : L[k]? = some e) :
    Calls Tryz.prog 19 #[.pointer (some ⟨g, 0, none⟩), .int .i64 k] x (OwnP (fun v => .tuple #[v, .int .i64 0]) e x) :=
  (at_any h hL (k : Int)).mono fun r z hp => by
    rcases hp with ⟨k', e', h1, h2, h3⟩ | ⟨h1, _⟩
    · obtain rfl : k = k' := by omega
      rw [hk] at h2
      injection h2 with h2
      subst h2
      exact h3
    · have := (List.getElem?_eq_some_iff.1 hk).1; omega
theorem ens_three {x : World} {e1 e2 e3 : Ent} {A1 B1 D1 A2 B2 D2 A3 B3 D3 : Option Addr} {c1 d1 q1 c2 d2 q2 c3 d3 q3 : Nat} (C : Array Value) {A : Option Addr} (hC : C.toList = [.slice A1 e1.row.length c1, .int .i64 e1.fam, .slice B1 e1.qual.length d1, .int .i64 e1.ts, .int .i64 e1.seq, .int .i64 e1.kind, .slice D1 e1.val.length q1, .slice A2 e2.row.length c2, .int .i64 e2.fam, .slice B2 e2.qual.length d2, .int .i64 e2.ts, .int .i64 e2.seq, .int .i64 e2.kind, .slice D2 e2.val.length q2, .slice A3 e3.row.length c3, .int .i64 e3.fam, .slice B3 e3.qual.length d3, .int .i64 e3.ts, .int .i64 e3.seq, .int .i64 e3.kind, .slice D3 e3.val.length q3])
    (hr : Reads x x.heap.size 7 A 3 C.toList) (h1 : En x A1 e1.row.length c1 B1 e1.qual.length d1 D1 e1.val.length q1 e1) (h2 : En x A2 e2.row.length c2 B2 e2.qual.length d2 D2 e2.val.length q2 e2) (h3 : En x A3 e3.row.length c3 B3 e3.qual.length d3 D3 e3.val.length q3 e3) : Ens x A 3 [e1, e2, e3] := by
  refine ⟨[⟨A1, c1, B1, d1, D1, q1, e1⟩, ⟨A2, c2, B2, d2, D2, q2, e2⟩, ⟨A3, c3, B3, d3, D3, q3, e3⟩], rfl, ?_, fun r hr => ?_⟩
  · rw [hC] at hr; exact hr
  · rcases List.mem_cons.1 hr with rfl | hr
    · exact h1
    · rcases List.mem_cons.1 hr with rfl | hr
      · exact h2
      · rw [List.mem_singleton.1 hr]; exact h3
set_option maxRecDepth 100000 in
set_option maxHeartbeats 4000000 in
theorem told_any (w : World) (ht : TabAt 0 w) : Calls Tryz.prog 5 #[] w fun e z => e = .returned (.bool true) ∧ Below w.heap.size w z := by
  have HTB : Hid (∀ z, Below w.heap.size w z → TabAt 0 z) := Lib.hid fun z hz => ht.later hz
  clear ht
  obtain ⟨L, hL⟩ : ∃ z, z = toldL := ⟨_, rfl⟩
  obtain ⟨tb, htb⟩ : ∃ z, z = toldB := ⟨_, rfl⟩
  obtain ⟨tn, htn⟩ : ∃ z, z = tb.length := ⟨_, rfl⟩
  have HB5 : Hid (buildE5 2 L = (tb, 0)) := Lib.hid (by rw [hL, htb]; exact told_build)
  have HOP : Hid (openE tb = (some L, 0)) := Lib.hid (by rw [htb, hL]; exact told_open.1)
  have HRB : Hid (resB tb = 2) := Lib.hid (by rw [htb]; exact told_open.2)
  have HTN := Lib.hid htn.symm
  have HSK : Hid (seekL L [] = 0) := Lib.hid (by rw [hL]; exact told_seek)
  have HLN : Hid (L.length = 3) := Lib.hid (by rw [hL]; rfl)
  have HL1 : Hid (L[1]? = some (atE 4)) := Lib.hid (by rw [hL]; rfl)
  have HLE : Hid (L = [atE 5, atE 4, atE 3]) := Lib.hid hL
  have HAS : Hid (Asc (L.map keyE)) := Lib.hid (by rw [hL]; exact build_asc told_build)
  have HBD : Hid (∀ e, e ∈ L → e.row.length ≤ 140737488355000 ∧ e.qual.length ≤ 140737488355000 ∧ e.val.length ≤ 140737488355000) := Lib.hid (by
    intro e he
    rw [hL] at he
    rcases List.mem_cons.1 he with rfl | he
    · refine ⟨?_, ?_, ?_⟩ <;> decide
    · rcases List.mem_cons.1 he with rfl | he
      · refine ⟨?_, ?_, ?_⟩ <;> decide
      · rw [List.mem_singleton.1 he]; refine ⟨?_, ?_, ?_⟩ <;> decide)
  have XS : Hid (∀ l : List UInt8, (l == l) = true) := Lib.hid (by simp)
  have htnb : tn ≤ 131072 := by
    have h9 : sizeS (runB 2 toldL) ≤ 131072 := by
      have := buildK_size 2 toldL [] (by show 9 ≤ 131072; decide) (build_parts told_build).2.2.1
      simpa using this
    have h8 := (build_parts told_build).2.2.2.2.1
    rw [htn, htb, h8, layS_len]; exact h9
  clear hL htb htn
  have tk1 : True := trivial
  have tk2 : True := trivial
  go_enter Tryz.func5, Tryz.ntmps5
  go_upto_region 2 with (first
    | (go_at_call 25; have _t := tk1; go_must (refine (atE_any 5 _).mono ?_); rintro r x1 ⟨A1, B1, D1, rfl, he, hb⟩; have HW1 := Lib.hid hb; have HE1 := Lib.hid he; clear hb he tk1)
    | (go_at_call 25; have _t := tk2; go_must (refine (atE_any 4 _).mono ?_); rintro r x2 ⟨A2, B2, D2, rfl, he, hb⟩; have HW2 := Lib.hid (below_up HW1.out hb); have HE12 := Lib.hid (HE1.out.later hb); have HE2 := Lib.hid he; clear hb he tk2)
    | (go_at_call 25; go_must (refine (atE_any 3 _).mono ?_); rintro r x3 ⟨A3, B3, D3, rfl, he, hb⟩; have HW3 := Lib.hid (below_up HW2.out hb); have HE13 := Lib.hid (HE12.out.later hb); have HE23 := Lib.hid (HE2.out.later hb); have HE3 := Lib.hid he; clear hb he)
    | (refine wl_build rfl #[(0, .tmp 14), (1, .tmp 15), (2, .tmp 16)] rfl #[.slice A1 1 1, .int .i64 0, .slice B1 1 1, .int .i64 5, .int .i64 32, .int .i64 1, .slice D1 1 1, .slice A2 1 1, .int .i64 0, .slice B2 1 1, .int .i64 4, .int .i64 32, .int .i64 1, .slice D2 1 1, .slice A3 1 1, .int .i64 0, .slice B3 1 1, .int .i64 3, .int .i64 32, .int .i64 1, .slice D3 1 1] Tryz.entsS (.agg #[.slice none 0 0, .int .i64 0, .slice none 0 0, .int .i64 0, .int .i64 0, .int .i64 0, .slice none 0 0]) (by kernel_rfl) (by decide) (by decide) (by decide) rfl (by kernel_rfl) (OW.nil x3) ?_; intro gl x4 hz hb; have HW4 := Lib.hid (below_up HW3.out hb); have HES4 : Hid (Ens x4 (some ⟨gl, 0, none⟩) 3 L) := Lib.hid (by rw [HLE.out]; exact ens_three #[.slice A1 1 1, .int .i64 0, .slice B1 1 1, .int .i64 5, .int .i64 32, .int .i64 1, .slice D1 1 1, .slice A2 1 1, .int .i64 0, .slice B2 1 1, .int .i64 4, .int .i64 32, .int .i64 1, .slice D2 1 1, .slice A3 1 1, .int .i64 0, .slice B3 1 1, .int .i64 3, .int .i64 32, .int .i64 1, .slice D3 1 1] rfl (Reads.own (OW.row hz (i := 0) rfl)) (HE13.out.later hb) (HE23.out.later hb) (HE3.out.later hb)); clear hz hb))
  have tk3 : True := trivial
  have hfn := all_not_nil
  go_upto_region 10 with (first
    | (go_at_call 26; go_must (refine (build_any 2 L _ 3 3 _ HES4.out (by omega) (HTB.out _ HW4.out)).mono ?_); rw [HB5.out]; rintro r x5 hp; obtain ⟨A5, c5, rfl, hs5, _, hb⟩ := hp.at_ HTN.out rfl; have HW5 := Lib.hid (below_up HW4.out hb); have HES5 := Lib.hid (HES4.out.later hb); have HS5 := Lib.hid hs5; clear hp hb hs5)
    | (go_at_call 27; go_must (refine (rbuild_any 2 L _ 3 3 _ HES5.out (by omega)).mono ?_); rw [HB5.out]; rintro r x6 hp; obtain ⟨A6, c6, rfl, hs6, _, hb⟩ := hp.at_ HTN.out rfl; have HW6 := Lib.hid (below_up HW5.out hb); have HS56 := Lib.hid (HS5.out.later hb); have HS6 := Lib.hid hs6; clear hp hb hs6)
    | (go_at_call 28; go_must (refine (begin_ok 2 _ (by decide) (by decide)).mono ?_); rintro r x7 ⟨g7, os7, rfl, _, hx⟩; have HW7 := Lib.hid (below_up HW6.out hx.up); have HS57 := Lib.hid (HS56.out.later hx.up); have HS67 := Lib.hid (HS6.out.later hx.up); clear hx)
    | (go_at_call 29; go_must (refine (same_any tb tb A5 A6 tn c5 tn c6 _ (by omega) HS57.out.rb HS67.out.rb).mono ?_); rw [XS.out]; rintro r x8 ⟨rfl, hb⟩; have HW8 := Lib.hid (below_up HW7.out hb); have HS58 := Lib.hid (HS57.out.later hb); clear hb)
    | (go_at_call 9; have _t := tk3; go_must (refine (open_lay HOP.out A5 tn c5 _ HS58.out (HTB.out _ HW8.out)).mono ?_); rw [HRB.out]; rintro r x9 ⟨g, rfl, hk, hb⟩; have HW9 := Lib.hid (below_up HW8.out hb); have HK9 := Lib.hid hk; clear hk hb tk3)
    | (go_at_call 13; go_must (refine (len_any HK9.out).mono ?_); rw [HLN.out]; rintro r y1 ⟨rfl, hb⟩; have HW10 := Lib.hid (below_up HW9.out hb); have HK10 := Lib.hid (HK9.out.later hb); clear hb)
    | (go_at_call 14; go_must (refine (seek_any HK10.out ⟨by decide, by decide⟩ (by rw [HLN.out]; decide) (by rw [HLN.out]; decide) HAS.out [] none 0 0 (Sl.none _)).mono ?_); rw [HSK.out]; rintro r y2 ⟨rfl, hb⟩; have HW11 := Lib.hid (below_up HW10.out hb); have HK11 := Lib.hid (HK10.out.later hb); clear hb)
    | (go_at_call 16; go_must (refine (all_any g _).mono ?_); rintro r y3 ⟨b3, rfl, _, _, hb⟩; have HW12 := Lib.hid (below_up HW11.out hb); have HK12 := Lib.hid (HK11.out.later hb); clear hb))
  clear hfn
  go_upto_region 12 with (first
    | (go_at_call 19; go_must (refine (at_in HK12.out HBD.out (k := 1) HL1.out).mono ?_); rintro r y4 ⟨A7, B7, D7, rfl, h1, h2, h3, hx⟩; have HW13 := Lib.hid (below_up HW12.out hx.up); have HEN : Hid (En y4 A7 (atE 4).row.length (atE 4).row.length B7 (atE 4).qual.length (atE 4).qual.length D7 (atE 4).val.length (atE 4).val.length (atE 4)) := Lib.hid (OwnP.en h1 h2 h3 ⟨by decide, by decide, by decide⟩ hx); have HX := Lib.hid (OW.nil y4); clear h1 h2 h3 hx)
    | (refine wl_alloc rfl rfl [.slice none 0 0, .int .i64 0, .slice none 0 0, .int .i64 0, .int .i64 0, .int .i64 0, .slice none 0 0] (.inl (by kernel_rfl)) HX.out ?_; intro ge x8 hz _; have HX8 := Lib.hid hz; clear hz HX)
    | (refine wl_put rfl (.tmp 10) (.tmp 77) rfl HX8.out 0 rfl rfl [.slice A7 (atE 4).row.length (atE 4).row.length, .int .i64 (atE 4).fam, .slice B7 (atE 4).qual.length (atE 4).qual.length, .int .i64 (atE 4).ts, .int .i64 (atE 4).seq, .int .i64 (atE 4).kind, .slice D7 (atE 4).val.length (atE 4).val.length] rfl rfl (by kernel_rfl) (by simp [Value.oneCell']) ?_; intro z9 hz _; have HX9 : Hid (OW y4 [boxO ge [.slice A7 (atE 4).row.length (atE 4).row.length, .int .i64 (atE 4).fam, .slice B7 (atE 4).qual.length (atE 4).qual.length, .int .i64 (atE 4).ts, .int .i64 (atE 4).seq, .int .i64 (atE 4).kind, .slice D7 (atE 4).val.length (atE 4).val.length]] z9) := Lib.hid hz; clear hz HX8)
    | (go_at_call 9; go_must (refine (open_none told_nil none 0 0 _ (Sl.none _) (HTB.out _ (below_up HW13.out HX9.out.up))).mono ?_); rintro r z10 ⟨rfl, hb⟩; have HX10 := Lib.hid (HX9.out.later hb); clear hb))
  refine lt_start [] (by kernel_rfl) ?_
  intro xd hd
  refine ⟨fun z => OW y4 [boxO ge [.slice A7 (atE 4).row.length (atE 4).row.length, .int .i64 (atE 4).fam, .slice B7 (atE 4).qual.length (atE 4).qual.length, .int .i64 (atE 4).ts, .int .i64 (atE 4).seq, .int .i64 (atE 4).kind, .slice D7 (atE 4).val.length (atE 4).val.length]] z, ?_⟩
  have HS := Lib.hid (HX10.out.later hd)
  refine lt_pure 0 rfl (by kernel_rfl) (by kernel_rfl) (by kernel_rfl) (by kernel_rfl) (fun _ _ _ h => h) (v := ?_) (yi_run rfl (fun w => ?_)) (fun _ => HS.out) ?_
  rotate_left
  · first | (go_simp; done) | (go_simp; with_reducible rfl)
  simp only [Act.put, List.setIfInBounds_toArray, List.set_cons_zero, List.set_cons_succ]
  refine lt_pure 1 rfl (by kernel_rfl) (by kernel_rfl) (by kernel_rfl) (by kernel_rfl) (fun _ _ _ h => h) (v := ?_) (yi_run rfl (fun w => ?_)) (fun _ => HS.out) ?_
  rotate_left
  · first | (go_simp; done) | (go_simp; with_reducible rfl)
  simp only [Act.put, List.setIfInBounds_toArray, List.set_cons_zero, List.set_cons_succ]
  refine lt_pure 2 rfl (by kernel_rfl) (by kernel_rfl) (by kernel_rfl) (by kernel_rfl) (fun _ _ _ h => h) (v := ?_) (yi_run rfl (fun w => ?_)) (fun _ => HS.out) ?_
  rotate_left
  · first | (go_simp; done) | (go_simp; with_reducible rfl)
  simp only [Act.put, List.setIfInBounds_toArray, List.set_cons_zero, List.set_cons_succ]
  refine lt_take 3 [5, 6, 7, 8, 9, 10, 11, 12, 13, 14, 15] rfl (by kernel_rfl) (by kernel_rfl) (by kernel_rfl) (by kernel_rfl) (by kernel_rfl) (fun _ _ _ h => h) (yi_row rfl rfl rfl (fun w hS => OW.range hS (i := 0) rfl) ent_row5) HS.out ?_
  simp only [Act.put, List.setIfInBounds_toArray, List.set_cons_zero, List.set_cons_succ]
  refine lt_call 4 rfl (by kernel_rfl) rfl rfl ⟨_, Tryz.func25, by decide, by kernel_rfl⟩ [.int .i64 4] rfl ?_
  refine (atE_any 4 _).mono ?_
  rintro r z11 ⟨A8, B8, D8, rfl, he, hb⟩
  have HE8 := Lib.hid he
  have HEN8 := Lib.hid (HEN.out.later (HS.out.up.trans (hb.mono HS.out.up.size)))
  replace HS := Lib.hid (HS.out.later hb)
  clear he hb
  refine ⟨_, rfl, fun _ => HS.out, ?_⟩
  simp only [Act.put, List.setIfInBounds_toArray, List.set_cons_zero, List.set_cons_succ]
  refine lt_call 5 rfl (by kernel_rfl) rfl rfl ⟨_, Tryz.func17, by decide, by kernel_rfl⟩ [entV A7 (atE 4).row.length (atE 4).row.length B7 (atE 4).qual.length (atE 4).qual.length D7 (atE 4).val.length (atE 4).val.length (atE 4), entV A8 1 1 B8 1 1 D8 1 1 (atE 4)] rfl ?_
  refine (sameEntry_any (atE 4) (atE 4) A7 _ _ B7 _ _ D7 _ _ A8 1 1 B8 1 1 D8 1 1 _ rfl HEN8.out HE8.out).mono ?_
  rintro r z12 ⟨rfl, hb⟩
  replace HS := Lib.hid (HS.out.later hb)
  clear hb
  refine ⟨_, rfl, fun _ => HS.out, ?_⟩
  simp only [Act.put, List.setIfInBounds_toArray, List.set_cons_zero, List.set_cons_succ]
  refine lt_pure 6 rfl (by kernel_rfl) (by kernel_rfl) (by kernel_rfl) (by kernel_rfl) (fun _ _ _ h => h) (v := ?_) (yi_run rfl (fun w => ?_)) (fun _ => HS.out) ?_
  rotate_left
  · first | (go_simp; done) | (go_simp; with_reducible rfl)
  simp only [Act.put, List.setIfInBounds_toArray, List.set_cons_zero, List.set_cons_succ]
  refine lt_pure 7 rfl (by kernel_rfl) (by kernel_rfl) (by kernel_rfl) (by kernel_rfl) (fun _ _ _ h => h) (v := ?_) (yi_run rfl (fun w => ?_)) (fun _ => HS.out) ?_
  rotate_left
  · first | (go_simp; done) | (go_simp; with_reducible rfl)
  simp only [Act.put, List.setIfInBounds_toArray, List.set_cons_zero, List.set_cons_succ]
  refine lt_pure 8 rfl (by kernel_rfl) (by kernel_rfl) (by kernel_rfl) (by kernel_rfl) (fun _ _ _ h => h) (v := ?_) (yi_run rfl (fun w => ?_)) (fun _ => HS.out) ?_
  rotate_left
  · first | (go_simp; done) | (go_simp; with_reducible rfl)
  simp only [Act.put, List.setIfInBounds_toArray, List.set_cons_zero, List.set_cons_succ]
  refine lt_pure 9 rfl (by kernel_rfl) (by kernel_rfl) (by kernel_rfl) (by kernel_rfl) (fun _ _ _ h => h) (v := ?_) (yi_run rfl (fun w => ?_)) (fun _ => HS.out) ?_
  rotate_left
  · first | (go_simp; done) | (go_simp; with_reducible rfl)
  simp only [Act.put, List.setIfInBounds_toArray, List.set_cons_zero, List.set_cons_succ]
  refine lt_pure 10 rfl (by kernel_rfl) (by kernel_rfl) (by kernel_rfl) (by kernel_rfl) (fun _ _ _ h => h) (v := ?_) (yi_run rfl (fun w => ?_)) (fun _ => HS.out) ?_
  rotate_left
  · first | (go_simp; done) | (go_simp; with_reducible rfl)
  simp only [Act.put, List.setIfInBounds_toArray, List.set_cons_zero, List.set_cons_succ]
  refine lt_pure 11 rfl (by kernel_rfl) (by kernel_rfl) (by kernel_rfl) (by kernel_rfl) (fun _ _ _ h => h) (v := ?_) (yi_run rfl (fun w => ?_)) (fun _ => HS.out) ?_
  rotate_left
  · first | (go_simp; done) | (go_simp; with_reducible rfl)
  simp only [Act.put, List.setIfInBounds_toArray, List.set_cons_zero, List.set_cons_succ]
  refine lt_pure 12 rfl (by kernel_rfl) (by kernel_rfl) (by kernel_rfl) (by kernel_rfl) (fun _ _ _ h => h) (v := ?_) (yi_run rfl (fun w => ?_)) (fun _ => HS.out) ?_
  rotate_left
  · first | (go_simp; done) | (go_simp; with_reducible rfl)
  simp only [Act.put, List.setIfInBounds_toArray, List.set_cons_zero, List.set_cons_succ]
  refine lt_pure 13 rfl (by kernel_rfl) (by kernel_rfl) (by kernel_rfl) (by kernel_rfl) (fun _ _ _ h => h) (v := ?_) (yi_run rfl (fun w => ?_)) (fun _ => HS.out) ?_
  rotate_left
  · first | (go_simp; done) | (go_simp; with_reducible rfl)
  simp only [Act.put, List.setIfInBounds_toArray, List.set_cons_zero, List.set_cons_succ]
  refine lt_pure 14 rfl (by kernel_rfl) (by kernel_rfl) (by kernel_rfl) (by kernel_rfl) (fun _ _ _ h => h) (v := ?_) (yi_run rfl (fun w => ?_)) (fun _ => HS.out) ?_
  rotate_left
  · first | (go_simp; done) | (go_simp; with_reducible rfl)
  simp only [Act.put, List.setIfInBounds_toArray, List.set_cons_zero, List.set_cons_succ]
  refine lt_pure 15 rfl (by kernel_rfl) (by kernel_rfl) (by kernel_rfl) (by kernel_rfl) (fun _ _ _ h => h) (v := ?_) (yi_run rfl (fun w => ?_)) (fun _ => HS.out) ?_
  rotate_left
  · first | (go_simp; done) | (go_simp; with_reducible rfl)
  simp only [Act.put, List.setIfInBounds_toArray, List.set_cons_zero]
  refine lt_done (by kernel_rfl) ?_
  have HS9 := HS
  clear HS
  have HX11 := Lib.hid HS9.out
  go_wp2_with fail
  go_ret
  exact ⟨rfl, below_up HW13.out HX11.out.up⟩
end Go.Proofs.YtmigjipfomfacaaGreatDoor
namespace Go.Proofs.YtmigjipfomfacaaGreatDoor
open Go.RowKit
def HandE (e : Ent) (vs : Array Value) (W W1 : World) : Prop := ∃ A B D, vs = #[entV A e.row.length e.row.length B e.qual.length e.qual.length D e.val.length e.val.length e] ∧ CAt A e.row ∧ CAt B e.qual ∧ CAt D e.val ∧ OW W [clipO A e.row, clipO B e.qual, clipO D e.val] W1
theorem HandE.ok {e : Ent} {vs : Array Value} {W W1 : World} (h : HandE e vs W W1) : vs.size = 1 ∧ Below W.heap.size W W1 := by
  obtain ⟨A, B, D, rfl, _, _, _, h⟩ := h
  exact ⟨rfl, h.up⟩
def ItrB (g gb : Nat) (A : Option Addr) (c : Nat) (L : List Ent) (z : World) : Prop := z.cell? ⟨gb, 0, none⟩ = some (.pointer (some ⟨g, 0, none⟩)) ∧ z.cell? ⟨g, 1, none⟩ = some (.slice A L.length c) ∧ Ens z A L.length L
theorem pre_take {L : List Ent} {k : Nat} {e : Ent} (h : L[k]? = some e) : L.take k ++ [e] <+: L := by
  rw [← take_snoc h]; exact List.take_prefix _ _
set_option maxRecDepth 100000 in
set_option maxHeartbeats 4000000 in
theorem all1_iter (g gb : Nat) (A : Option Addr) (c : Nat) (L : List Ent) (hLn : L.length ≤ 1000000000) (hL : ∀ e, e ∈ L → e.row.length ≤ 140737488355000 ∧ e.qual.length ≤ 140737488355000 ∧ e.val.length ≤ 140737488355000) :
    IterOK Tryz.prog 41 #[.pointer (some ⟨gb, 0, none⟩)] L (ItrB g gb A c L) HandE := by
  intro l J Jx W hit hJ hJx hY h0
  have HIT := Lib.hid hit
  have HJ := Lib.hid hJ
  have HJX := Lib.hid hJx
  have HY := Lib.hid hY
  have HL := Lib.hid hL
  obtain ⟨hb, c1, _⟩ := hit [] W h0
  obtain ⟨n, hn⟩ : ∃ z, z = L.length := ⟨_, rfl⟩
  rw [← hn] at c1 hLn
  have HN := Lib.hid hn.symm
  have H0 := Lib.hid h0
  clear hit hJ hJx hY hL hn h0
  refine (callsIn_wide (n := 10)).1 (callsIn_of_wp Tryz.func41 rfl trivial ?_ rfl)
  simp only [Tryz.ntmps41, List.size_toArray, List.length_cons, List.length_nil, Nat.reduceAdd, Nat.reduceSub, Array.replicate_succ, Array.replicate_zero, List.push_toArray, List.append_toArray, List.nil_append, List.cons_append]
  gi_wp2
  gi_loopw [4, 10] (fun _ iv wr => ∃ k : Nat, k ≤ n ∧ iv = .int .i64 k ∧ Hid (J (L.take k) wr)) (fun _ iv _ => n - (intOf iv).toNat)
  case atStart => exact ⟨0, Nat.zero_le _, rfl, H0⟩
  case round =>
    clear H0 hb c1
    obtain ⟨k, hk, rfl, HJK⟩ := hrel
    by_cases hlt : k < n
    case neg =>
      have hdk : decide ((k : Int) < (n : Int)) = false := decide_eq_false (by omega)
      have HE : Hid (J L wr) := Lib.hid (by have h := HJK.out; rwa [take_all (by rw [HN.out]; omega)] at h)
      gi_wp2
      go_end0
      exact ⟨⟨_, rfl⟩, .inl HE.out⟩
    have hdk : decide ((k : Int) < (n : Int)) = true := decide_eq_true (by omega)
    have i0 : (0 : Int) ≤ (k : Int) := by omega
    have i1 : (k : Int) < (n : Int) := by omega
    obtain ⟨_, _, hens⟩ := HIT.out _ _ HJK.out
    rw [HN.out] at hens
    obtain ⟨b, o, Ar, rc, B, d, D, q, e, rfl, hbl, hke, hrg, hen⟩ := hens.at_ hlt
    have HR := Lib.hid hrg
    have HKE := Lib.hid hke
    have HEN : Hid (∀ z, Below wr.heap.size wr z → En z Ar e.row.length rc B e.qual.length d D e.val.length q e) := Lib.hid fun z hz => hen.later hz
    have HX := Lib.hid (OW.nil wr)
    have HLE := Lib.hid (HL.out e (List.mem_of_getElem? hke))
    clear hens hbl hke hrg hen
    gi_wp2_with (first
      | (refine wlIn_one (ro := none) rfl ?_; refine wpList_load_at rfl 46 (.tmp 12) rfl rfl HR.out ent_row5 ?_; refine wlIn_back ?_)
      | (refine wlIn_one (ro := none) rfl ?_; refine wl_alloc rfl rfl [.slice none 0 0, .int .i64 0, .slice none 0 0, .int .i64 0, .int .i64 0, .int .i64 0, .slice none 0 0] (.inl (by kernel_rfl)) HX.out ?_; intro ge x1 hz _; have HX1 := Lib.hid hz; clear hz HX; refine wlIn_back ?_)
      | (refine wlIn_one (ro := none) rfl ?_; refine wl_put rfl (.tmp 4) (.tmp 13) rfl HX1.out 0 rfl rfl [.slice Ar e.row.length rc, .int .i64 e.fam, .slice B e.qual.length d, .int .i64 e.ts, .int .i64 e.seq, .int .i64 e.kind, .slice D e.val.length q] rfl rfl (by kernel_rfl) (by simp [Value.oneCell']) ?_; intro x2 hz _; have HX2 : Hid (OW wr [boxO ge [.slice Ar e.row.length rc, .int .i64 e.fam, .slice B e.qual.length d, .int .i64 e.ts, .int .i64 e.seq, .int .i64 e.kind, .slice D e.val.length q]] x2) := Lib.hid hz; clear hz HX1; refine wlIn_back ?_)
      | (refine wlIn_one (ro := none) rfl ?_; refine wpList_load_row7 rfl 46 (.tmp 4) rfl rfl (HX2.out.range (i := 0) rfl) ent_row5 ?_; refine wlIn_back ?_)
      | (refine ⟨trivial, ?_⟩; gi_at_call 42; go_must (refine CallsIn.mono (callsIn_fw (ro := none) (own_any e Ar _ rc B _ d D _ q _ (HEN.out _ HX2.out.up) HLE.out)) ?_); rintro r x3 hp; obtain ⟨A3, B3, D3, rfl, ca, cb, cd, ho⟩ := hp.own; have hy0 := HY.out (L.take k) e wr _ x3 (pre_take HKE.out) HJK.out ⟨A3, B3, D3, rfl, ca, cb, cd, (HX2.out.app ho).erase 0⟩; obtain ⟨fn, tmps, assign, body, hy, hR⟩ := hy0; clear hp ca cb cd ho HX2))
    have HT := Lib.hid (take_snoc HKE.out)
    refine hR.mono ?_
    rintro e' W' (⟨rfl, hJ'⟩ | ⟨rfl, hJx'⟩)
    · rw [← HT.out] at hJ'
      have HJ' := Lib.hid hJ'
      clear hJ' hR hy
      gi_wp2
      go_roundw
      case rel => exact ⟨k + 1, by omega, by go_num, HJ'⟩
      case measure => simp [intOf]; omega
    · have HJ' : Hid (Jx (L.take k ++ [e]) W' ∧ L.take k ++ [e] <+: L) := Lib.hid ⟨hJx', pre_take HKE.out⟩
      clear hJx' hR hy
      gi_wp2
      refine bodyPost_ret (results_none rfl _ _ _) rfl ?_
      exact ⟨⟨_, rfl⟩, .inr ⟨_, HJ'.out.2, HJ'.out.1⟩⟩
end Go.Proofs.YtmigjipfomfacaaGreatDoor
namespace Go.Proofs.YtmigjipfomfacaaGreatDoor
open Go.RowKit
theorem wrap_u8 (x : Int) : ∃ u : UInt8, IntKind.u8.wrap x = (u.toNat : Int) := by
  refine ⟨UInt8.ofNat (x % 256).toNat, ?_⟩
  rw [UInt8.toNat_ofNat']
  have h : IntKind.u8.wrap x = x % 256 := by simp [IntKind.wrap, IntKind.signed, IntKind.bits]
  rw [h]
  omega
end Go.Proofs.YtmigjipfomfacaaGreatDoor
namespace Go.Proofs.YtmigjipfomfacaaGreatDoor
open Go.RowKit
theorem all_newQ (g : Nat) (x : World) : Calls Tryz.prog 16 #[.pointer (some ⟨g, 0, none⟩)] x fun r z => ∃ b, r = .returned (.func (.func 41) #[] #[.pointer (some ⟨b, 0, none⟩)]) ∧ OW x [boxO b [.pointer (some ⟨g, 0, none⟩)]] z := by
  have HX := Lib.hid (OW.nil x)
  go_enter Tryz.func16, Tryz.ntmps16
  go_wp2_with (refine wl_box rfl (.tmp 0) rfl [.pointer (some ⟨g, 0, none⟩)] rfl HX.out ?_; intro b x1 hz _; have HX1 : Hid (OW x [boxO b [.pointer (some ⟨g, 0, none⟩)]] x1) := Lib.hid hz; clear hz HX)
  go_ret
  exact ⟨b, rfl, HX1.out⟩
theorem ok_lensQ {e : Ent} (h : checkE e = 0) : e.row.length ≤ 140737488355000 ∧ e.qual.length ≤ 140737488355000 ∧ e.val.length ≤ 140737488355000 := by
  have h1 := ok_of h
  have h2 := h1.row
  have h3 := h1.qual
  have h4 := h1.val
  omega
theorem pre_atQ {α : Type} {L pre : List α} {e : α} (h : pre ++ [e] <+: L) : L[pre.length]? = some e := by
  obtain ⟨t, rfl⟩ := h
  rw [List.append_assoc, List.getElem?_append_right (Nat.le_refl _), Nat.sub_self]; rfl
theorem perm4Q {α : Type} (a b c : List α) : ((a ++ b) ++ c).Perm ((c ++ a) ++ b) := by
  rw [List.append_assoc c]
  exact List.perm_append_comm
structure BkOk (R : Nat) (L : List Ent) : Prop where
  res : 1 ≤ R ∧ R ≤ 16
  pos : 0 < L.length
  len : L.length ≤ 131072
  asc : Asc (L.map keyE)
  chk : ∀ e, e ∈ L → checkE e = 0
theorem BkOk.of {b : List UInt8} {L : List Ent} (h : (openE b).1 = some L) : BkOk (resB b) L := by
  obtain ⟨h1, h2⟩ := openE_ne h
  have h3 := (openE_ok h).1
  obtain ⟨g1, g2, g3, _, g5, g6⟩ := build_parts h3
  have hn := runB_n (resB b) L
  have hm := n_le_size _ (runB_many (resB b) L)
  have hl := layS_len (resB b) (runB (resB b) L)
  rw [← g5] at hl
  exact ⟨⟨g1, g2⟩, List.length_pos_iff.2 h1, by omega, build_asc h3, g6⟩
end Go.Proofs.YtmigjipfomfacaaGreatDoor
namespace Go.Proofs.YtmigjipfomfacaaGreatDoor
open Go.RowKit
theorem Tryz.kssF : SliceOf Tryz.prog 35 22 1 24 := SliceOf.mk' (z := .slice none 0 0) Tryz.underlying35 (by kernel_rfl) rfl (by decide)
def FlK (vals : List Value) (ms : List UInt8) (ks : List Ob) : Prop := ∀ (i : Nat) (v : Value) (m : UInt8), vals[i]? = some v → ms[i]? = some m → ∃ A n cap, v = Value.slice A n cap ∧ n ≤ 1000000101 ∧ Marked ks A n cap m
structure FlD where
  lv : Value
  mA : Option Addr
  mc : Nat
  N : Nat
  vals : List Value
  ms : List UInt8
  ks : List Ob
def flO (g : Nat) (d : FlD) (rest : List Ob) : List Ob := boxO g [d.lv, .slice d.mA d.ms.length d.mc, .int .i64 (d.N : Nat)] :: rowO 22 1 d.lv d.vals.length d.vals :: bytO 5 (d.mA, d.mc, d.ms) :: rest
structure FlOk (d : FlD) : Prop where
  len : d.vals.length = d.ms.length
  few : 50 * d.vals.length ≤ d.N
  lim : d.N ≤ 5000000000
  keep : FlK d.vals d.ms d.ks
def Fl (g : Nat) (os : List Ob) : Prop := ∃ d, os = flO g d d.ks ∧ FlOk d
theorem Fl.new {w x : World} {g : Nat} {os : List Ob} (h : OW w (os ++ [boxO g [.slice none 0 0, .slice none 0 0, .int .i64 0]]) x) : ∃ of, Fl g of ∧ OW w (os ++ of) x := by
  have h1 := (h.nilRow 22 1).nilB 5
  refine ⟨_, ⟨⟨.slice none 0 0, none, 0, 0, [], [], []⟩, rfl, rfl, Nat.le_refl _, by decide, fun i v m hv => by cases hv⟩, ?_⟩
  rw [List.append_assoc, List.append_assoc] at h1
  exact h1
theorem FlK.le {vals : List Value} {ms : List UInt8} {ks ks' : List Ob} (h : FlK vals ms ks) (hk : LeM ks ks') : FlK vals ms ks' := fun i v m hv hm => by
  obtain ⟨A, n, cap, h1, h2, h3⟩ := h i v m hv hm
  exact ⟨A, n, cap, h1, h2, hk _ _ _ _ h3⟩
theorem FlK.add {vals : List Value} {ms : List UInt8} {ks : List Ob} (h : FlK vals ms ks) (hl : vals.length = ms.length) {us : List Value} {m : UInt8} {k : Nat} (hu : us.length = k) (hus : ∀ v, v ∈ us → ∃ A n cap, v = Value.slice A n cap ∧ n ≤ 1000000101 ∧ Marked ks A n cap m) : FlK (vals ++ us) (ms ++ List.replicate k m) ks := fun i v m' hv hm => by
  by_cases hi : i < vals.length
  · rw [List.getElem?_append_left hi] at hv
    rw [List.getElem?_append_left (by omega)] at hm
    exact h i v m' hv hm
  · rw [List.getElem?_append_right (by omega)] at hv
    rw [List.getElem?_append_right (by omega), List.getElem?_replicate] at hm
    split at hm
    · injection hm with hm; subst hm
      exact hus v (List.mem_of_getElem? hv)
    · cases hm
theorem perm_take {α : Type} (f ks rest : List α) (o : α) : ((f ++ ks) ++ o :: rest).Perm ((f ++ rest) ++ o :: ks) := by
  rw [List.append_assoc, List.append_assoc]
  refine List.Perm.append_left f ?_
  have h1 : (ks ++ o :: rest).Perm (o :: (ks ++ rest)) := List.perm_middle
  have h2 : (rest ++ o :: ks).Perm (o :: (rest ++ ks)) := List.perm_middle
  exact h1.trans ((List.Perm.cons o List.perm_append_comm).trans h2.symm)
theorem perm3 {α : Type} (a b c : List α) : ((a ++ b) ++ c).Perm ((a ++ c) ++ b) := by
  rw [List.append_assoc, List.append_assoc]
  exact List.Perm.append_left a List.perm_append_comm
theorem perm_back3 {α : Type} (f ks rest : List α) : ((f ++ rest) ++ ks).Perm ((f ++ ks) ++ rest) := by
  rw [List.append_assoc, List.append_assoc]
  exact List.Perm.append_left f List.perm_append_comm
theorem drop3 {w z : World} {f ks : List Ob} {a b c : Ob} (h : OW w ((((f ++ [a]) ++ [b]) ++ [c]) ++ ks) z) : OW w (f ++ ks) z := by
  refine h.sub (List.Sublist.append ?_ (List.Sublist.refl _))
  exact (List.sublist_append_left f [a]).trans ((List.sublist_append_left _ [b]).trans (List.sublist_append_left _ [c]))
def markN (q : Nat) : Nat := q / 4 % 200 + 20
def markU (q : Nat) : UInt8 := UInt8.ofNat (markN q)
theorem markN_le (q : Nat) : markN q ≤ 219 := by unfold markN; omega
theorem markU_v (q : Nat) : u8v (markU q) = .int .u8 (markN q : Int) := by
  have h := markN_le q
  unfold u8v markU
  rw [UInt8.toNat_ofNat', Nat.mod_eq_of_lt (by omega)]
theorem OW.marks {w x : World} {os : List Ob} {T : TypeId} {g k c : Nat} {m : UInt8} (h : OW w os x) (hm : rowO T 1 (.slice (some ⟨g, 0, none⟩) k c) k (u8s (List.replicate k m)) ∈ os) : RB x x.heap.size (some ⟨g, 0, none⟩) k (List.replicate k m) := Reads.own (h.rowm hm)
set_option maxRecDepth 1000000 in
set_option maxHeartbeats 8000000 in
theorem take_any {w x : World} {g : Nat} {osF rest : List Ob} {o : Ob} {A : Option Addr} {n cap : Nat} (hF : Fl g osF) (hS : SlB o A n cap) (h : OW w (osF ++ o :: rest) x) (hn : n ≤ 1000000000) :
    Calls Tryz.prog 12 #[.pointer (some ⟨g, 0, none⟩), .slice A n cap] x fun e z => e = .returned (.tuple #[]) ∧ ∃ osF', Fl g osF' ∧ OW w (osF' ++ rest) z := by
  obtain ⟨⟨lv, mA, mc, N, vals, ms, ks0⟩, rfl, hd⟩ := hF
  obtain ⟨q, hq⟩ : ∃ z, z = vals.length := ⟨_, rfl⟩
  obtain ⟨LA, lc, hlv, _⟩ := own_slice (h.row (i := 1) rfl)
  have hlv : lv = .slice LA vals.length lc := hlv
  subst hlv
  have hq2 : vals.length = ms.length := hd.len
  have hq1 : 50 * vals.length ≤ N := hd.few
  have hlim : N ≤ 5000000000 := hd.lim
  have HFK := Lib.hid hd.keep
  have h : OW w (([boxO g [.slice LA vals.length lc, .slice mA ms.length mc, .int .i64 (N : Nat)], rowO 22 1 (.slice LA vals.length lc) vals.length vals, bytO 5 (mA, mc, ms)] ++ ks0) ++ o :: rest) x := h
  have HOUT := Lib.hid h
  have HD := Lib.hid hd
  rw [← hq2, ← hq] at h
  rw [← hq] at hq1 hq2
  have HQ := Lib.hid hq.symm
  have HQM := Lib.hid hq2.symm
  have hql : q ≤ 100000000 := by omega
  have hc : x.cell? ⟨g, 2, none⟩ = some (.int .i64 (N : Nat)) := h.cell (i := 0) (j := 2) rfl rfl
  clear hd hq hq2
  by_cases hN : 1000000 < N
  · have dN : decide ((N : Int) > 1000000) = true := decide_eq_true (by omega)
    clear h hq1
    go_enter Tryz.func12, Tryz.ntmps12
    go_wp2_with (refine wpList_load_cell rfl 3 (.tmp 10) rfl rfl hc (fun w => Tryz.isAgg3 w) ?_)
    refine bodyPost_ret (results_none rfl _ _ _) rfl ?_
    exact ⟨rfl, _, ⟨⟨.slice LA vals.length lc, mA, mc, N, vals, ms, ks0⟩, rfl, HD.out⟩, HOUT.out.dropE⟩
  have dN : decide ((N : Int) > 1000000) = false := decide_eq_false (by omega)
  obtain ⟨mm, hmm⟩ : ∃ z, z = markN q := ⟨_, rfl⟩
  obtain ⟨m, hm⟩ : ∃ z, z = markU q := ⟨_, rfl⟩
  have hmv : u8v m = .int .u8 (mm : Int) := by rw [hm, hmm]; exact markU_v q
  have hm219 : mm ≤ 219 := by rw [hmm]; exact markN_le q
  have HMV := Lib.hid hmv
  obtain ⟨q4, hq4⟩ : ∃ z, z = q / 4 := ⟨_, rfl⟩
  obtain ⟨q5, hq5⟩ : ∃ z, z = q4 % 200 := ⟨_, rfl⟩
  have r1 : (q : Int) / 4 = (q4 : Int) := by omega
  have r2 : (q4 : Int) % 200 = (q5 : Int) := by omega
  have r3 : (q5 : Int) + 20 = (mm : Int) := by rw [hmm]; unfold markN; omega
  have hq40 : (0 : Int) ≤ (q4 : Int) := by omega
  have hq50 : (0 : Int) ≤ (q5 : Int) := by omega
  have hq5l : q5 ≤ 199 := by omega
  obtain ⟨N2, hN2⟩ : ∃ z, z = N + 4 * n + 200 := ⟨_, rfl⟩
  have HN2 : Hid (N2 = N + 4 * n + 200 ∧ 50 * (q + 4) ≤ N2 ∧ N2 ≤ 5000000000) := Lib.hid ⟨hN2, by omega, by omega⟩
  have HIN : Hid (Value.int .i64 (((N : Int) + 4 * (n : Int)) + 200) = .int .i64 ((N2 : Nat) : Int)) := Lib.hid (by congr 1; omega)
  have hperm := h.perm (perm_take [boxO g [.slice LA q lc, .slice mA q mc, .int .i64 (N : Nat)], rowO 22 1 (.slice LA q lc) q vals, bytO 5 (mA, mc, ms)] ks0 rest o)
  obtain ⟨o', hset, hcase⟩ := hS w x _ _ hperm (getE_app _ o ks0) m
  rw [setE_app] at hset
  have HX : Hid (OW w (([boxO g [.slice LA q lc, .slice mA q mc, .int .i64 (N : Nat)], rowO 22 1 (.slice LA q lc) q vals, bytO 5 (mA, mc, ms)] ++ rest) ++ o' :: ks0) x) := Lib.hid hset
  have HCASE := Lib.hid hcase
  have hc0 : x.cell? ⟨g, 0, none⟩ = some (.slice LA q lc) := hset.cell (i := 0) (j := 0) rfl rfl
  have hncap : n ≤ cap := by
    rcases hcase with ⟨_, h1, h2⟩ | ⟨_, _, _, h1, _⟩ <;> omega
  clear h hm hmm hmv hq4 hq5 hperm hset hcase hS HOUT HD hN2 hq1
  go_enter Tryz.func12, Tryz.ntmps12
  go_wp2_with (first
    | (refine wpList_load_cell rfl 3 (.tmp 10) rfl rfl hc (fun w => Tryz.isAgg3 w) ?_)
    | (refine wpList_load_cell rfl 3 (.tmp 16) rfl rfl hc (fun w => Tryz.isAgg3 w) ?_)
    | (refine wl_put1 rfl (.tmp 24) (.tmp 22) rfl HX.out 0 rfl 2 rfl (by simp) (.int .i64 (N2 : Nat)) HIN.out (by kernel_rfl) rfl ?_; intro x1 hz _; have HX1 : Hid (OW w (([boxO g [.slice LA q lc, .slice mA q mc, .int .i64 (N2 : Nat)], rowO 22 1 (.slice LA q lc) q vals, bytO 5 (mA, mc, ms)] ++ rest) ++ o' :: ks0) x1) := Lib.hid hz; have hc1 : x1.cell? ⟨g, 0, none⟩ = some (.slice LA q lc) := hz.cell (i := 0) (j := 0) rfl rfl; clear hz HX hc hc0)
    | (refine wpList_load_cell rfl 35 (.tmp 27) rfl rfl hc1 (fun w => Tryz.isAgg35 w) ?_))
  clear hc1 r1 r2 r3 hq40 hq50 hq5l
  go_loopw [5] (fun iv wr => ∃ (j : Nat) (k0 : Ob), j ≤ n ∧ iv = .int .i64 j ∧ Hid (OW w (([boxO g [.slice LA q lc, .slice mA q mc, .int .i64 (N2 : Nat)], rowO 22 1 (.slice LA q lc) q vals, bytO 5 (mA, mc, ms)] ++ rest) ++ k0 :: ks0) wr) ∧ Hid ((A = none ∧ n = 0 ∧ cap = 0) ∨ ∃ g c, A = some ⟨g, 0, none⟩ ∧ n ≤ cap ∧ cap ≤ c ∧ k0 = fillO g c j m)) (fun iv _ => n - (intOf iv).toNat)
  case atStart => exact ⟨0, o', Nat.zero_le _, rfl, HX1, HCASE⟩
  case round =>
    clear HX1 HCASE
    obtain ⟨j, k0, hj, rfl, HX2, HC2⟩ := hrel
    by_cases hlt : j < n
    case pos =>
      have hdj : decide ((j : Int) < (n : Int)) = true := decide_eq_true (by omega)
      have i0 : (0 : Int) ≤ (j : Int) := by omega
      have i1 : (j : Int) < (n : Int) := by omega
      rcases HC2.out with ⟨_, h1, _⟩ | ⟨gb, c, rfl, h1, h2, rfl⟩
      · omega
      go_wp2_with (refine wl_storeM rfl (.tmp 43) (.tmp 42) rfl HX2.out (by omega) rfl HMV.out.symm (by kernel_rfl) ?_; intro x3 hz; have HX3 := Lib.hid hz; clear hz HX2)
      go_roundw
      case rel => exact ⟨j + 1, _, by omega, by go_num, HX3, Lib.hid (.inr ⟨gb, c, rfl, h1, h2, rfl⟩)⟩
      case measure => simp [intOf]; omega
    obtain rfl : j = n := by omega
    have hdj : decide ((j : Int) < (j : Int)) = false := decide_eq_false (by omega)
    obtain ⟨ks1, hks1⟩ : ∃ z, z = k0 :: ks0 := ⟨_, rfl⟩
    have HM : Hid (Marked ks1 A j cap m) := Lib.hid (by
      rcases HC2.out with ⟨h1, h2, h3⟩ | ⟨gb, c, h1, h2, h3, h4⟩
      · exact .inl ⟨h1, h2, h3⟩
      · exact .inr ⟨gb, c, j, h1, Nat.le_refl _, h2, h3, by rw [hks1, h4]; exact List.mem_cons_self ..⟩)
    have HL1 : Hid (LeM ks0 ks1) := Lib.hid (LeM.sub fun _ ho => by rw [hks1]; exact List.mem_cons_of_mem _ ho)
    rw [← hks1] at HX2
    clear HC2 hks1 hlt hj
    go_wp2_with (first
      | (refine wl_build rfl #[(0, .tmp 45)] rfl #[.int .u8 (mm : Int)] Tryz.u8s' (.int .u8 0) (by kernel_rfl) (by decide) (by decide) (by decide) rfl (by kernel_rfl) HX2.out ?_; intro g7 x4 hz _; have HX4 := Lib.hid hz.left; have HRB : Hid (RB x4 x4.heap.size (some ⟨g7, 0, none⟩) 1 (List.replicate 1 m)) := Lib.hid (by have h9 := Reads.own (hz.right.row (i := 0) rfl); rw [← HMV.out] at h9; exact h9); clear hz HX2)
      | (at_builtin; go_must (refine wl_appM rfl (.tmp 44) (.tmp 46) rfl Tryz.u8s' HX4.out HM.out rfl _ 1 1 rfl HRB.out (by omega) (by omega) ?_); intro A5 c5 ks5 x5 h1 h2 h3; have HX5 := Lib.hid h1; have HL5 := Lib.hid (HL1.out.trans h2); have HM5 := Lib.hid h3; have HMB := Lib.hid (h2 _ _ _ _ HM.out); clear h1 h2 h3 HX4 HRB HL1 HM))
    go_loopw [6, 7] (fun gv iv wr => ∃ (k : Nat) (A6 : Option Addr) (c6 : Nat) (ks6 : List Ob), k ≤ 100 ∧ gv = .slice A6 (j + 1 + k) c6 ∧ iv = .int .i64 k ∧ Hid (OW w (([boxO g [.slice LA q lc, .slice mA q mc, .int .i64 (N2 : Nat)], rowO 22 1 (.slice LA q lc) q vals, bytO 5 (mA, mc, ms)] ++ rest) ++ ks6) wr) ∧ Hid (LeM ks0 ks6) ∧ Hid (Marked ks6 A6 (j + 1 + k) c6 m) ∧ Hid (Marked ks6 A j cap m)) (fun _ iv _ => 100 - (intOf iv).toNat)
    case atStart => exact ⟨0, A5, c5, ks5, by omega, rfl, rfl, HX5, HL5, HM5, HMB⟩
    case round =>
      clear HX5 HL5 HM5 HMB
      obtain ⟨k, A6, c6, ks6, hk, rfl, rfl, HX6, HL6, HM6, HMB6⟩ := hrel
      by_cases hlt : k < 100
      case pos =>
        have hdk : decide ((k : Int) < 100) = true := decide_eq_true (by omega)
        go_wp2_with (first
          | (refine wl_build rfl #[(0, .tmp 53)] rfl #[.int .u8 (mm : Int)] Tryz.u8s' (.int .u8 0) (by kernel_rfl) (by decide) (by decide) (by decide) rfl (by kernel_rfl) HX6.out ?_; intro g7 x6 hz _; have HX7 := Lib.hid hz.left; have HRB : Hid (RB x6 x6.heap.size (some ⟨g7, 0, none⟩) 1 (List.replicate 1 m)) := Lib.hid (by have h9 := Reads.own (hz.right.row (i := 0) rfl); rw [← HMV.out] at h9; exact h9); clear hz HX6)
          | (at_builtin; go_must (refine wl_appM rfl (.tmp 52) (.tmp 54) rfl Tryz.u8s' HX7.out HM6.out rfl _ 1 1 rfl HRB.out (by omega) (by omega) ?_); intro A7 c7 ks7 x7 h1 h2 h3; have HX8 := Lib.hid h1; have HL7 := Lib.hid (HL6.out.trans h2); have HM7 := Lib.hid h3; have HMB7 := Lib.hid (h2 _ _ _ _ HMB6.out); clear h1 h2 h3 HX7 HRB))
        go_roundw
        case rel => exact ⟨k + 1, A7, c7, ks7, by omega, rfl, by go_num, HX8, HL7, HM7, HMB7⟩
        case measure => simp [intOf]; omega
      obtain rfl : k = 100 := by omega
      have hdk : decide (((100 : Nat) : Int) < 100) = false := by decide
      clear hlt hk
      go_upto_region 12 with fail
      go_cut [4] (fun mv wx => mv = .int .u8 (mm : Int) ∧ ∃ (L17 : Option Addr) (c17 : Nat) (A9 : Option Addr) (c9 : Nat) (A14 : Option Addr) (c14 : Nat) (ks7 : List Ob), Hid (OW w (([boxO g [.slice L17 (q + 4) c17, .slice mA q mc, .int .i64 (N2 : Nat)], rowO 22 1 (.slice L17 (q + 4) c17) (q + 4) (vals ++ [.slice A j cap, .slice A9 (j + 1) c9, .slice A14 (j + 2) c14, .slice A6 (j + 1 + 100) c6]), bytO 5 (mA, mc, ms)] ++ rest) ++ ks7) wx) ∧ Hid (LeM ks0 ks7) ∧ Hid (Marked ks7 A j cap m) ∧ Hid (Marked ks7 A9 (j + 1) c9 m) ∧ Hid (Marked ks7 A14 (j + 2) c14 m) ∧ Hid (Marked ks7 A6 (j + 1 + 100) c6 m))
      case first =>
        refine lt_start [20] (by kernel_rfl) ?_
        intro xd hd
        refine ⟨fun z => z.cell? ⟨g, 0, none⟩ = some (.slice LA q lc), ?_⟩
        have HX := Lib.hid (HX6.out.later hd)
        have HS : Hid (xd.cell? ⟨g, 0, none⟩ = some (.slice LA q lc)) := Lib.hid (HX.out.cell (i := 0) (j := 0) rfl rfl)
        have e1 : Hid ((#[Value.int .u8 (mm : Int)] : Array Value).toList = u8s (List.replicate 1 m)) := Lib.hid (by rw [← HMV.out]; rfl)
        have e2 : Hid ((#[Value.int .u8 (mm : Int), .int .u8 (mm : Int)] : Array Value).toList = u8s (List.replicate 2 m)) := Lib.hid (by rw [← HMV.out]; rfl)
        clear hd HX6
        refine lt_pure 0 rfl (by kernel_rfl) (by kernel_rfl) (by kernel_rfl) (by kernel_rfl) (fun _ _ _ h => h) (v := ?_) (yi_run rfl (fun w => ?_)) (fun _ => HS.out) ?_
        rotate_left
        · first | (go_simp; done) | (go_simp; with_reducible rfl)
        simp only [Act.put, List.setIfInBounds_toArray, List.set_cons_zero, List.set_cons_succ]
        refine lt_pure 1 rfl (by kernel_rfl) (by kernel_rfl) (by kernel_rfl) (by kernel_rfl) (fun _ _ _ h => h) (v := ?_) (yi_run rfl (fun w => ?_)) (fun _ => HS.out) ?_
        rotate_left
        · first | (go_simp; done) | (go_simp; with_reducible rfl)
        simp only [Act.put, List.setIfInBounds_toArray, List.set_cons_zero, List.set_cons_succ]
        refine lt_pure 2 rfl (by kernel_rfl) (by kernel_rfl) (by kernel_rfl) (by kernel_rfl) (fun _ _ _ h => h) (v := ?_) (yi_run rfl (fun w => ?_)) (fun _ => HS.out) ?_
        rotate_left
        · first | (go_simp; done) | (go_simp; with_reducible rfl)
        simp only [Act.put, List.setIfInBounds_toArray, List.set_cons_zero, List.set_cons_succ]
        refine lt_pure 3 rfl (by kernel_rfl) (by kernel_rfl) (by kernel_rfl) (by kernel_rfl) (fun _ _ _ h => h) (v := ?_) (yi_run rfl (fun w => ?_)) (fun _ => HS.out) ?_
        rotate_left
        · first | (go_simp; done) | (go_simp; with_reducible rfl)
        simp only [Act.put, List.setIfInBounds_toArray, List.set_cons_zero, List.set_cons_succ]
        refine lt_take 4 [17, 18, 19, 20] rfl (by kernel_rfl) (by kernel_rfl) (by kernel_rfl) (by kernel_rfl) (by kernel_rfl) (fun _ _ _ h => h) (yi_cell rfl rfl rfl (fun w hS => hS) (fun w => Tryz.isAgg35 w)) HS.out ?_
        simp only [Act.put, List.setIfInBounds_toArray, List.set_cons_zero, List.set_cons_succ]
        refine lt_pure 5 rfl (by kernel_rfl) (by kernel_rfl) (by kernel_rfl) (by kernel_rfl) (fun _ _ _ h => h) (v := ?_) (yi_run rfl (fun w => ?_)) (fun _ => HS.out) ?_
        rotate_left
        · first | (go_simp; done) | (go_simp; with_reducible rfl)
        simp only [Act.put, List.setIfInBounds_toArray, List.set_cons_zero, List.set_cons_succ]
        refine lt_pure 6 rfl (by kernel_rfl) (by kernel_rfl) (by kernel_rfl) (by kernel_rfl) (fun _ _ _ h => h) (v := ?_) (yi_run rfl (fun w => ?_)) (fun _ => HS.out) ?_
        rotate_left
        · first | (go_simp; done) | (go_simp; with_reducible rfl)
        simp only [Act.put, List.setIfInBounds_toArray, List.set_cons_zero, List.set_cons_succ]
        refine lt_pure 7 rfl (by kernel_rfl) (by kernel_rfl) (by kernel_rfl) (by kernel_rfl) (fun _ _ _ h => h) (v := ?_) (yi_run rfl (fun w => ?_)) (fun _ => HS.out) ?_
        rotate_left
        · first | (go_simp; done) | (go_simp; with_reducible rfl)
        simp only [Act.put, List.setIfInBounds_toArray, List.set_cons_zero, List.set_cons_succ]
        refine lt_pure 10 rfl (by kernel_rfl) (by kernel_rfl) (by kernel_rfl) (by kernel_rfl) (fun _ _ _ h => h) (v := ?_) (yi_run rfl (fun w => ?_)) (fun _ => HS.out) ?_
        rotate_left
        · first | (go_simp; done) | (go_simp; with_reducible rfl)
        simp only [Act.put, List.setIfInBounds_toArray, List.set_cons_zero, List.set_cons_succ]
        refine lt_pure 11 rfl (by kernel_rfl) (by kernel_rfl) (by kernel_rfl) (by kernel_rfl) (fun _ _ _ h => h) (v := ?_) (yi_run rfl (fun w => ?_)) (fun _ => HS.out) ?_
        rotate_left
        · first | (go_simp; done) | (go_simp; with_reducible rfl)
        simp only [Act.put, List.setIfInBounds_toArray, List.set_cons_zero, List.set_cons_succ]
        refine lt_pure 12 rfl (by kernel_rfl) (by kernel_rfl) (by kernel_rfl) (by kernel_rfl) (fun _ _ _ h => h) (v := ?_) (yi_run rfl (fun w => ?_)) (fun _ => HS.out) ?_
        rotate_left
        · first | (go_simp; done) | (go_simp; with_reducible rfl)
        simp only [Act.put, List.setIfInBounds_toArray, List.set_cons_zero, List.set_cons_succ]
        refine lt_pure 15 rfl (by kernel_rfl) (by kernel_rfl) (by kernel_rfl) (by kernel_rfl) (fun _ _ _ h => h) (v := ?_) (yi_run rfl (fun w => ?_)) (fun _ => HS.out) ?_
        rotate_left
        · first | (go_simp; done) | (go_simp; with_reducible rfl)
        simp only [Act.put, List.setIfInBounds_toArray, List.set_cons_zero, List.set_cons_succ]
        refine lt_two 8 13 rfl rfl (by kernel_rfl) rfl rfl ?_ ?_
        · refine wpo_build rfl #[.int .u8 (mm : Int)] Tryz.u8s' (.int .u8 0) (by kernel_rfl) (by decide) (by decide) (by decide) rfl (by kernel_rfl) HX.out ?_
          intro g8 y8 hz _
          rw [e1.out] at hz
          replace HX := Lib.hid (hz.perm (perm3 _ _ _))
          replace HS := Lib.hid (HX.out.cell (i := 0) (j := 0) rfl rfl)
          clear hz
          refine ⟨fun _ => HS.out, ?_⟩
          simp only [Act.put, List.setIfInBounds_toArray, List.set_cons_zero, List.set_cons_succ]
          refine lt_two 9 13 rfl rfl (by kernel_rfl) rfl rfl ?_ ?_
          · refine wpo_appM (.tmp 62) (.tmp 64) rfl Tryz.u8s' HX.out HMB6.out rfl _ 1 1 rfl (HX.out.marks (T := 5) (c := 1) (List.mem_append_left _ (by simp))) (by omega) (by omega) ?_
            intro A9 c9 ks9 y9 h1 h2 h3
            replace HX := Lib.hid h1
            replace HS := Lib.hid (HX.out.cell (i := 0) (j := 0) rfl rfl)
            replace HL6 := Lib.hid (HL6.out.trans h2)
            replace HMB6 := Lib.hid (h2 _ _ _ _ HMB6.out)
            replace HM6 := Lib.hid (h2 _ _ _ _ HM6.out)
            have HM9 := Lib.hid h3
            clear h1 h2 h3
            refine ⟨fun _ => HS.out, ?_⟩
            simp only [Act.put, List.setIfInBounds_toArray, List.set_cons_zero, List.set_cons_succ]
            refine lt_op 13 rfl (by kernel_rfl) rfl ?_
            refine wpo_build rfl #[.int .u8 (mm : Int), .int .u8 (mm : Int)] Tryz.u8s' (.int .u8 0) (by kernel_rfl) (by decide) (by decide) (by decide) rfl (by kernel_rfl) HX.out ?_
            intro g13 y13 hz _
            rw [e2.out] at hz
            replace HX := Lib.hid (hz.perm (perm3 _ _ _))
            replace HS := Lib.hid (HX.out.cell (i := 0) (j := 0) rfl rfl)
            clear hz
            refine ⟨fun _ => HS.out, ?_⟩
            simp only [Act.put, List.setIfInBounds_toArray, List.set_cons_zero, List.set_cons_succ]
            refine lt_op 14 rfl (by kernel_rfl) rfl ?_
            refine wpo_appM (.tmp 66) (.tmp 69) rfl Tryz.u8s' HX.out HMB6.out rfl _ 2 2 rfl (HX.out.marks (T := 5) (c := 2) (List.mem_append_left _ (by simp))) (by omega) (by omega) ?_
            intro A14 c14 ks14 y14 h1 h2 h3
            replace HX := Lib.hid h1
            replace HS := Lib.hid (HX.out.cell (i := 0) (j := 0) rfl rfl)
            replace HL6 := Lib.hid (HL6.out.trans h2)
            replace HMB6 := Lib.hid (h2 _ _ _ _ HMB6.out)
            replace HM6 := Lib.hid (h2 _ _ _ _ HM6.out)
            replace HM9 := Lib.hid (h2 _ _ _ _ HM9.out)
            have HM14 := Lib.hid h3
            clear h1 h2 h3
            refine ⟨fun _ => HS.out, ?_⟩
            simp only [Act.put, List.setIfInBounds_toArray, List.set_cons_zero, List.set_cons_succ]
            refine lt_op 16 rfl (by kernel_rfl) rfl ?_
            refine wpo_build rfl #[Value.slice A j cap, .slice A9 (j + 1) c9, .slice A14 (j + 2) c14, .slice A6 (j + 1 + 100) c6] Tryz.kssF (.slice none 0 0) (by kernel_rfl) (by decide) (by decide) (by decide) rfl (by kernel_rfl) HX.out ?_
            intro g16 y16 hz _
            replace HX := Lib.hid (hz.perm (perm3 _ _ _))
            replace HS := Lib.hid (HX.out.cell (i := 0) (j := 0) rfl rfl)
            clear hz
            refine ⟨fun _ => HS.out, ?_⟩
            simp only [Act.put, List.setIfInBounds_toArray, List.set_cons_zero, List.set_cons_succ]
            refine lt_op 17 rfl (by kernel_rfl) rfl ?_
            refine wpo_append (.tmp 60) (.tmp 72) rfl Tryz.kssF HX.out 1 rfl rfl _ (some ⟨g16, 0, none⟩) 4 4 [Value.slice A j cap, .slice A9 (j + 1) c9, .slice A14 (j + 2) c14, .slice A6 (j + 1 + 100) c6] rfl (Reads.own (HX.out.rowm (T := 22) (sz := 1) (v := .slice (some ⟨g16, 0, none⟩) 4 4) (n := 4) (List.mem_append_left _ (by simp)))) (by simp [Value.oneCell']) (by unfold maxLen; omega) (by omega) ?_
            intro L17 c17 y17 hz _
            replace HX := Lib.hid hz
            replace HS := Lib.hid (HX.out.cell (i := 0) (j := 0) rfl rfl)
            clear hz
            refine ⟨fun _ => HS.out, ?_⟩
            simp only [Act.put, List.setIfInBounds_toArray, List.set_cons_zero, List.set_cons_succ]
            refine lt_pure 18 rfl (by kernel_rfl) (by kernel_rfl) (by kernel_rfl) (by kernel_rfl) (fun _ _ _ h => h) (v := ?_) (yi_run rfl (fun w => ?_)) (fun _ => HS.out) ?_
            rotate_left
            · first | (go_simp; done) | (go_simp; with_reducible rfl)
            simp only [Act.put, List.setIfInBounds_toArray, List.set_cons_zero, List.set_cons_succ]
            refine lt_pure 19 rfl (by kernel_rfl) (by kernel_rfl) (by kernel_rfl) (by kernel_rfl) (fun _ _ _ h => h) (v := ?_) (yi_run rfl (fun w => ?_)) (fun _ => HS.out) ?_
            rotate_left
            · first | (go_simp; done) | (go_simp; with_reducible rfl)
            simp only [Act.put, List.setIfInBounds_toArray, List.set_cons_zero, List.set_cons_succ]
            refine lt_end 20 rfl (by kernel_rfl) rfl (by kernel_rfl) ?_
            refine wpo_put1 rfl HX.out 0 rfl 0 rfl (by simp) _ rfl (by kernel_rfl) rfl ?_
            intro y20 hz _
            replace HX := Lib.hid hz
            clear hz
            simp only [Act.put]
            refine lt_done (by kernel_rfl) ?_
            go_wp2_with fail
            go_meet
            exact ⟨rfl, L17, c17, A9, c9, A14, c14, _, Lib.hid (drop3 (f := [boxO g [.slice L17 (q + 4) c17, .slice mA q mc, .int .i64 (N2 : Nat)], rowO 22 1 (.slice L17 (q + 4) c17) (q + 4) (vals ++ [.slice A j cap, .slice A9 (j + 1) c9, .slice A14 (j + 2) c14, .slice A6 (j + 1 + 100) c6]), bytO 5 (mA, mc, ms)] ++ rest) HX.out), HL6, HMB6, HM9, HM14, HM6⟩
          · refine wpo_build rfl #[.int .u8 (mm : Int), .int .u8 (mm : Int)] Tryz.u8s' (.int .u8 0) (by kernel_rfl) (by decide) (by decide) (by decide) rfl (by kernel_rfl) HX.out ?_
            intro g13 y13 hz _
            rw [e2.out] at hz
            replace HX := Lib.hid (hz.perm (perm3 _ _ _))
            replace HS := Lib.hid (HX.out.cell (i := 0) (j := 0) rfl rfl)
            clear hz
            refine ⟨fun _ => HS.out, ?_⟩
            simp only [Act.put, List.setIfInBounds_toArray, List.set_cons_zero, List.set_cons_succ]
            refine lt_op 9 rfl (by kernel_rfl) rfl ?_
            refine wpo_appM (.tmp 62) (.tmp 64) rfl Tryz.u8s' HX.out HMB6.out rfl _ 1 1 rfl (HX.out.marks (T := 5) (c := 1) (List.mem_append_left _ (by simp))) (by omega) (by omega) ?_
            intro A9 c9 ks9 y9 h1 h2 h3
            replace HX := Lib.hid h1
            replace HS := Lib.hid (HX.out.cell (i := 0) (j := 0) rfl rfl)
            replace HL6 := Lib.hid (HL6.out.trans h2)
            replace HMB6 := Lib.hid (h2 _ _ _ _ HMB6.out)
            replace HM6 := Lib.hid (h2 _ _ _ _ HM6.out)
            have HM9 := Lib.hid h3
            clear h1 h2 h3
            refine ⟨fun _ => HS.out, ?_⟩
            simp only [Act.put, List.setIfInBounds_toArray, List.set_cons_zero, List.set_cons_succ]
            refine lt_op 14 rfl (by kernel_rfl) rfl ?_
            refine wpo_appM (.tmp 66) (.tmp 69) rfl Tryz.u8s' HX.out HMB6.out rfl _ 2 2 rfl (HX.out.marks (T := 5) (c := 2) (List.mem_append_left _ (by simp))) (by omega) (by omega) ?_
            intro A14 c14 ks14 y14 h1 h2 h3
            replace HX := Lib.hid h1
            replace HS := Lib.hid (HX.out.cell (i := 0) (j := 0) rfl rfl)
            replace HL6 := Lib.hid (HL6.out.trans h2)
            replace HMB6 := Lib.hid (h2 _ _ _ _ HMB6.out)
            replace HM6 := Lib.hid (h2 _ _ _ _ HM6.out)
            replace HM9 := Lib.hid (h2 _ _ _ _ HM9.out)
            have HM14 := Lib.hid h3
            clear h1 h2 h3
            refine ⟨fun _ => HS.out, ?_⟩
            simp only [Act.put, List.setIfInBounds_toArray, List.set_cons_zero, List.set_cons_succ]
            refine lt_op 16 rfl (by kernel_rfl) rfl ?_
            refine wpo_build rfl #[Value.slice A j cap, .slice A9 (j + 1) c9, .slice A14 (j + 2) c14, .slice A6 (j + 1 + 100) c6] Tryz.kssF (.slice none 0 0) (by kernel_rfl) (by decide) (by decide) (by decide) rfl (by kernel_rfl) HX.out ?_
            intro g16 y16 hz _
            replace HX := Lib.hid (hz.perm (perm3 _ _ _))
            replace HS := Lib.hid (HX.out.cell (i := 0) (j := 0) rfl rfl)
            clear hz
            refine ⟨fun _ => HS.out, ?_⟩
            simp only [Act.put, List.setIfInBounds_toArray, List.set_cons_zero, List.set_cons_succ]
            refine lt_op 17 rfl (by kernel_rfl) rfl ?_
            refine wpo_append (.tmp 60) (.tmp 72) rfl Tryz.kssF HX.out 1 rfl rfl _ (some ⟨g16, 0, none⟩) 4 4 [Value.slice A j cap, .slice A9 (j + 1) c9, .slice A14 (j + 2) c14, .slice A6 (j + 1 + 100) c6] rfl (Reads.own (HX.out.rowm (T := 22) (sz := 1) (v := .slice (some ⟨g16, 0, none⟩) 4 4) (n := 4) (List.mem_append_left _ (by simp)))) (by simp [Value.oneCell']) (by unfold maxLen; omega) (by omega) ?_
            intro L17 c17 y17 hz _
            replace HX := Lib.hid hz
            replace HS := Lib.hid (HX.out.cell (i := 0) (j := 0) rfl rfl)
            clear hz
            refine ⟨fun _ => HS.out, ?_⟩
            simp only [Act.put, List.setIfInBounds_toArray, List.set_cons_zero, List.set_cons_succ]
            refine lt_pure 18 rfl (by kernel_rfl) (by kernel_rfl) (by kernel_rfl) (by kernel_rfl) (fun _ _ _ h => h) (v := ?_) (yi_run rfl (fun w => ?_)) (fun _ => HS.out) ?_
            rotate_left
            · first | (go_simp; done) | (go_simp; with_reducible rfl)
            simp only [Act.put, List.setIfInBounds_toArray, List.set_cons_zero, List.set_cons_succ]
            refine lt_pure 19 rfl (by kernel_rfl) (by kernel_rfl) (by kernel_rfl) (by kernel_rfl) (fun _ _ _ h => h) (v := ?_) (yi_run rfl (fun w => ?_)) (fun _ => HS.out) ?_
            rotate_left
            · first | (go_simp; done) | (go_simp; with_reducible rfl)
            simp only [Act.put, List.setIfInBounds_toArray, List.set_cons_zero, List.set_cons_succ]
            refine lt_end 20 rfl (by kernel_rfl) rfl (by kernel_rfl) ?_
            refine wpo_put1 rfl HX.out 0 rfl 0 rfl (by simp) _ rfl (by kernel_rfl) rfl ?_
            intro y20 hz _
            replace HX := Lib.hid hz
            clear hz
            simp only [Act.put]
            refine lt_done (by kernel_rfl) ?_
            go_wp2_with fail
            go_meet
            exact ⟨rfl, L17, c17, A9, c9, A14, c14, _, Lib.hid (drop3 (f := [boxO g [.slice L17 (q + 4) c17, .slice mA q mc, .int .i64 (N2 : Nat)], rowO 22 1 (.slice L17 (q + 4) c17) (q + 4) (vals ++ [.slice A j cap, .slice A9 (j + 1) c9, .slice A14 (j + 2) c14, .slice A6 (j + 1 + 100) c6]), bytO 5 (mA, mc, ms)] ++ rest) HX.out), HL6, HMB6, HM9, HM14, HM6⟩
        · refine wpo_build rfl #[.int .u8 (mm : Int), .int .u8 (mm : Int)] Tryz.u8s' (.int .u8 0) (by kernel_rfl) (by decide) (by decide) (by decide) rfl (by kernel_rfl) HX.out ?_
          intro g13 y13 hz _
          rw [e2.out] at hz
          replace HX := Lib.hid (hz.perm (perm3 _ _ _))
          replace HS := Lib.hid (HX.out.cell (i := 0) (j := 0) rfl rfl)
          clear hz
          refine ⟨fun _ => HS.out, ?_⟩
          simp only [Act.put, List.setIfInBounds_toArray, List.set_cons_zero, List.set_cons_succ]
          refine lt_op 8 rfl (by kernel_rfl) rfl ?_
          refine wpo_build rfl #[.int .u8 (mm : Int)] Tryz.u8s' (.int .u8 0) (by kernel_rfl) (by decide) (by decide) (by decide) rfl (by kernel_rfl) HX.out ?_
          intro g8 y8 hz _
          rw [e1.out] at hz
          replace HX := Lib.hid (hz.perm (perm3 _ _ _))
          replace HS := Lib.hid (HX.out.cell (i := 0) (j := 0) rfl rfl)
          clear hz
          refine ⟨fun _ => HS.out, ?_⟩
          simp only [Act.put, List.setIfInBounds_toArray, List.set_cons_zero, List.set_cons_succ]
          refine lt_op 9 rfl (by kernel_rfl) rfl ?_
          refine wpo_appM (.tmp 62) (.tmp 64) rfl Tryz.u8s' HX.out HMB6.out rfl _ 1 1 rfl (HX.out.marks (T := 5) (c := 1) (List.mem_append_left _ (by simp))) (by omega) (by omega) ?_
          intro A9 c9 ks9 y9 h1 h2 h3
          replace HX := Lib.hid h1
          replace HS := Lib.hid (HX.out.cell (i := 0) (j := 0) rfl rfl)
          replace HL6 := Lib.hid (HL6.out.trans h2)
          replace HMB6 := Lib.hid (h2 _ _ _ _ HMB6.out)
          replace HM6 := Lib.hid (h2 _ _ _ _ HM6.out)
          have HM9 := Lib.hid h3
          clear h1 h2 h3
          refine ⟨fun _ => HS.out, ?_⟩
          simp only [Act.put, List.setIfInBounds_toArray, List.set_cons_zero, List.set_cons_succ]
          refine lt_op 14 rfl (by kernel_rfl) rfl ?_
          refine wpo_appM (.tmp 66) (.tmp 69) rfl Tryz.u8s' HX.out HMB6.out rfl _ 2 2 rfl (HX.out.marks (T := 5) (c := 2) (List.mem_append_left _ (by simp))) (by omega) (by omega) ?_
          intro A14 c14 ks14 y14 h1 h2 h3
          replace HX := Lib.hid h1
          replace HS := Lib.hid (HX.out.cell (i := 0) (j := 0) rfl rfl)
          replace HL6 := Lib.hid (HL6.out.trans h2)
          replace HMB6 := Lib.hid (h2 _ _ _ _ HMB6.out)
          replace HM6 := Lib.hid (h2 _ _ _ _ HM6.out)
          replace HM9 := Lib.hid (h2 _ _ _ _ HM9.out)
          have HM14 := Lib.hid h3
          clear h1 h2 h3
          refine ⟨fun _ => HS.out, ?_⟩
          simp only [Act.put, List.setIfInBounds_toArray, List.set_cons_zero, List.set_cons_succ]
          refine lt_op 16 rfl (by kernel_rfl) rfl ?_
          refine wpo_build rfl #[Value.slice A j cap, .slice A9 (j + 1) c9, .slice A14 (j + 2) c14, .slice A6 (j + 1 + 100) c6] Tryz.kssF (.slice none 0 0) (by kernel_rfl) (by decide) (by decide) (by decide) rfl (by kernel_rfl) HX.out ?_
          intro g16 y16 hz _
          replace HX := Lib.hid (hz.perm (perm3 _ _ _))
          replace HS := Lib.hid (HX.out.cell (i := 0) (j := 0) rfl rfl)
          clear hz
          refine ⟨fun _ => HS.out, ?_⟩
          simp only [Act.put, List.setIfInBounds_toArray, List.set_cons_zero, List.set_cons_succ]
          refine lt_op 17 rfl (by kernel_rfl) rfl ?_
          refine wpo_append (.tmp 60) (.tmp 72) rfl Tryz.kssF HX.out 1 rfl rfl _ (some ⟨g16, 0, none⟩) 4 4 [Value.slice A j cap, .slice A9 (j + 1) c9, .slice A14 (j + 2) c14, .slice A6 (j + 1 + 100) c6] rfl (Reads.own (HX.out.rowm (T := 22) (sz := 1) (v := .slice (some ⟨g16, 0, none⟩) 4 4) (n := 4) (List.mem_append_left _ (by simp)))) (by simp [Value.oneCell']) (by unfold maxLen; omega) (by omega) ?_
          intro L17 c17 y17 hz _
          replace HX := Lib.hid hz
          replace HS := Lib.hid (HX.out.cell (i := 0) (j := 0) rfl rfl)
          clear hz
          refine ⟨fun _ => HS.out, ?_⟩
          simp only [Act.put, List.setIfInBounds_toArray, List.set_cons_zero, List.set_cons_succ]
          refine lt_pure 18 rfl (by kernel_rfl) (by kernel_rfl) (by kernel_rfl) (by kernel_rfl) (fun _ _ _ h => h) (v := ?_) (yi_run rfl (fun w => ?_)) (fun _ => HS.out) ?_
          rotate_left
          · first | (go_simp; done) | (go_simp; with_reducible rfl)
          simp only [Act.put, List.setIfInBounds_toArray, List.set_cons_zero, List.set_cons_succ]
          refine lt_pure 19 rfl (by kernel_rfl) (by kernel_rfl) (by kernel_rfl) (by kernel_rfl) (fun _ _ _ h => h) (v := ?_) (yi_run rfl (fun w => ?_)) (fun _ => HS.out) ?_
          rotate_left
          · first | (go_simp; done) | (go_simp; with_reducible rfl)
          simp only [Act.put, List.setIfInBounds_toArray, List.set_cons_zero, List.set_cons_succ]
          refine lt_end 20 rfl (by kernel_rfl) rfl (by kernel_rfl) ?_
          refine wpo_put1 rfl HX.out 0 rfl 0 rfl (by simp) _ rfl (by kernel_rfl) rfl ?_
          intro y20 hz _
          replace HX := Lib.hid hz
          clear hz
          simp only [Act.put]
          refine lt_done (by kernel_rfl) ?_
          go_wp2_with fail
          go_meet
          exact ⟨rfl, L17, c17, A9, c9, A14, c14, _, Lib.hid (drop3 (f := [boxO g [.slice L17 (q + 4) c17, .slice mA q mc, .int .i64 (N2 : Nat)], rowO 22 1 (.slice L17 (q + 4) c17) (q + 4) (vals ++ [.slice A j cap, .slice A9 (j + 1) c9, .slice A14 (j + 2) c14, .slice A6 (j + 1 + 100) c6]), bytO 5 (mA, mc, ms)] ++ rest) HX.out), HL6, HMB6, HM9, HM14, HM6⟩
      clear HX6 HL6 HM6 HMB6
      obtain ⟨rfl, L17, c17, A9, c9, A14, c14, ks7, HX7, HL7, HMB, HM9, HM14, HM6⟩ := hcut
      have e4 : Hid ((#[Value.int .u8 (mm : Int), .int .u8 (mm : Int), .int .u8 (mm : Int), .int .u8 (mm : Int)] : Array Value).toList = u8s (List.replicate 4 m)) := Lib.hid (by rw [← HMV.out]; rfl)
      go_wp2_with (first
        | (refine wpList_load_cell rfl 22 (.tmp 79) rfl rfl (HX7.out.cell (i := 0) (j := 1) rfl rfl) (fun w => Tryz.isAgg22 w) ?_)
        | (refine wl_build rfl #[(0, .tmp 81), (1, .tmp 82), (2, .tmp 83), (3, .tmp 84)] rfl #[.int .u8 (mm : Int), .int .u8 (mm : Int), .int .u8 (mm : Int), .int .u8 (mm : Int)] Tryz.u8s' (.int .u8 0) (by kernel_rfl) (by decide) (by decide) (by decide) rfl (by kernel_rfl) HX7.out ?_; intro g9 x9 hz _; have HX9 := Lib.hid hz.left; have HRB : Hid (RB x9 x9.heap.size (some ⟨g9, 0, none⟩) 4 (List.replicate 4 m)) := Lib.hid (by have h9 := Reads.own (hz.right.row (i := 0) rfl); rw [e4.out] at h9; exact h9); clear hz HX7)
        | (at_builtin; go_must (refine wl_appB rfl (.tmp 80) (.tmp 85) rfl Tryz.u8s' HX9.out 2 rfl HQM.out rfl _ _ 4 _ (List.replicate 4 m) rfl HRB.out (by omega) ?_); intro M13 d13 y1 hz; have HY := Lib.hid hz; clear hz HX9 HRB)
        | (refine wl_put1 rfl (.tmp 88) (.tmp 86) rfl HY.out 0 rfl 1 rfl (by simp) _ rfl (by kernel_rfl) rfl ?_; intro y2 hz _; have HZ : Hid (OW w (([boxO g [.slice L17 (q + 4) c17, .slice M13 (q + 4) d13, .int .i64 (N2 : Nat)], rowO 22 1 (.slice L17 (q + 4) c17) (q + 4) (vals ++ [.slice A j cap, .slice A9 (j + 1) c9, .slice A14 (j + 2) c14, .slice A6 (j + 1 + 100) c6]), bytO 5 (M13, d13, ms ++ List.replicate 4 m)] ++ rest) ++ ks7) y2) := Lib.hid hz; clear hz HY))
      go_end0
      have hl1 : (vals ++ [Value.slice A j cap, .slice A9 (j + 1) c9, .slice A14 (j + 2) c14, .slice A6 (j + 1 + 100) c6]).length = q + 4 := by rw [List.length_append, HQ.out]; rfl
      have hl2 : (ms ++ List.replicate 4 m).length = q + 4 := by rw [List.length_append, HQM.out, List.length_replicate]
      have hk1 : FlK (vals ++ [Value.slice A j cap, .slice A9 (j + 1) c9, .slice A14 (j + 2) c14, .slice A6 (j + 1 + 100) c6]) (ms ++ List.replicate 4 m) ks7 := FlK.add (HFK.out.le HL7.out) (HQ.out.trans HQM.out.symm) (k := 4) rfl (fun v hv => by
        simp only [List.mem_cons, List.not_mem_nil, or_false] at hv
        rcases hv with rfl | rfl | rfl | rfl
        · exact ⟨_, _, _, rfl, by omega, HMB.out⟩
        · exact ⟨_, _, _, rfl, by omega, HM9.out⟩
        · exact ⟨_, _, _, rfl, by omega, HM14.out⟩
        · exact ⟨_, _, _, rfl, by omega, HM6.out⟩)
      refine ⟨rfl, _, ⟨⟨.slice L17 (q + 4) c17, M13, d13, N2, vals ++ [Value.slice A j cap, .slice A9 (j + 1) c9, .slice A14 (j + 2) c14, .slice A6 (j + 1 + 100) c6], ms ++ List.replicate 4 m, ks7⟩, rfl, ⟨hl1.trans hl2.symm, by show 50 * (vals ++ [Value.slice A j cap, .slice A9 (j + 1) c9, .slice A14 (j + 2) c14, .slice A6 (j + 1 + 100) c6]).length ≤ N2; rw [hl1]; exact HN2.out.2.1, HN2.out.2.2, hk1⟩⟩, ?_⟩
      have h9 := HZ.out.perm (perm_back3 _ _ _)
      unfold flO
      rw [hl1, hl2]
      exact h9
end Go.Proofs.YtmigjipfomfacaaGreatDoor
namespace Go.Proofs.YtmigjipfomfacaaGreatDoor
open Go.RowKit
set_option maxRecDepth 100000 in
set_option maxHeartbeats 4000000 in
theorem fentry_any {w x : World} {g : Nat} {osF rest : List Ob} {oA oB oD : Ob} {A : Option Addr} {n c : Nat} {B : Option Addr} {m d : Nat} {D : Option Addr} {v q : Nat} (e : Ent) (hF : Fl g osF) (sA : SlB oA A n c) (sB : SlB oB B m d) (sD : SlB oD D v q) (h : OW w (osF ++ oA :: oB :: oD :: rest) x) (h1 : n ≤ 1000000000) (h2 : m ≤ 1000000000) (h3 : v ≤ 1000000000) :
    Calls Tryz.prog 18 #[.pointer (some ⟨g, 0, none⟩), entV A n c B m d D v q e] x fun r z => r = .returned (.tuple #[]) ∧ ∃ osF', Fl g osF' ∧ OW w (osF' ++ rest) z := by
  have HX := Lib.hid h
  have HF := Lib.hid hF
  have SA := Lib.hid sA
  have SB := Lib.hid sB
  have SD := Lib.hid sD
  clear h hF sA sB sD
  go_enter Tryz.func18, Tryz.ntmps18
  go_wp2_with (first
    | (refine wl_box rfl (.tmp 1) rfl [.slice A n c, .int .i64 e.fam, .slice B m d, .int .i64 e.ts, .int .i64 e.seq, .int .i64 e.kind, .slice D v q] rfl HX.out ?_; intro gb x1 hz _; rw [List.append_assoc] at hz; have HX1 : Hid (OW w (osF ++ oA :: oB :: oD :: (rest ++ [boxO gb [.slice A n c, .int .i64 e.fam, .slice B m d, .int .i64 e.ts, .int .i64 e.seq, .int .i64 e.kind, .slice D v q]])) x1) := Lib.hid hz; have tk1 : True := trivial; clear hz HX)
    | (refine wpList_load_cell rfl 22 (.tmp 5) rfl rfl (HX1.out.cellm (g := gb) (cs := [.slice A n c, .int .i64 e.fam, .slice B m d, .int .i64 e.ts, .int .i64 e.seq, .int .i64 e.kind, .slice D v q]) (j := 0) (List.mem_append_right _ (by simp)) rfl) (fun w => Tryz.isAgg22 w) ?_)
    | (go_at_call 12; (have _t := tk1); go_must (refine (take_any HF.out SA.out HX1.out h1).mono ?_); rintro r x2 ⟨rfl, os1, hf, ho⟩; have HF1 := Lib.hid hf; have HX2 := Lib.hid ho; have tk2 : True := trivial; clear hf ho HX1 HF tk1 _t)
    | (refine wpList_load_cell rfl 22 (.tmp 9) rfl rfl (HX2.out.cellm (g := gb) (cs := [.slice A n c, .int .i64 e.fam, .slice B m d, .int .i64 e.ts, .int .i64 e.seq, .int .i64 e.kind, .slice D v q]) (j := 2) (List.mem_append_right _ (by simp)) rfl) (fun w => Tryz.isAgg22 w) ?_)
    | (go_at_call 12; (have _t := tk2); go_must (refine (take_any HF1.out SB.out HX2.out h2).mono ?_); rintro r x3 ⟨rfl, os2, hf, ho⟩; have HF2 := Lib.hid hf; have HX3 := Lib.hid ho; have tk3 : True := trivial; clear hf ho HX2 HF1 tk2 _t)
    | (refine wpList_load_cell rfl 22 (.tmp 13) rfl rfl (HX3.out.cellm (g := gb) (cs := [.slice A n c, .int .i64 e.fam, .slice B m d, .int .i64 e.ts, .int .i64 e.seq, .int .i64 e.kind, .slice D v q]) (j := 6) (List.mem_append_right _ (by simp)) rfl) (fun w => Tryz.isAgg22 w) ?_)
    | (go_at_call 12; (have _t := tk3); go_must (refine (take_any HF2.out SD.out HX3.out h3).mono ?_); rintro r x4 ⟨rfl, os3, hf, ho⟩; have HF3 := Lib.hid hf; have HX4 := Lib.hid ho; clear hf ho HX3 HF2 tk3 _t))
  go_end0
  exact ⟨rfl, os3, HF3.out, HX4.out.sub (List.Sublist.append (List.Sublist.refl _) (List.sublist_append_left _ _))⟩
theorem Fl.read {w x : World} {g : Nat} {osF rest : List Ob} (hF : Fl g osF) (h : OW w (osF ++ rest) x) : ∃ (LA MA : Option Addr) (q lc mc : Nat), q ≤ 100000000 ∧ x.cell? ⟨g, 0, none⟩ = some (.slice LA q lc) ∧ x.cell? ⟨g, 1, none⟩ = some (.slice MA q mc) ∧
    ∀ i, i < q → ∃ (lg mg : Nat) (A : Option Addr) (n cap mm : Nat), LA = some ⟨lg, 0, none⟩ ∧ MA = some ⟨mg, 0, none⟩ ∧ n ≤ 1000000101 ∧ x.cell? ⟨lg, i, none⟩ = some (.slice A n cap) ∧ x.cell? ⟨mg, i, none⟩ = some (.int .u8 (mm : Int)) ∧ ∀ k, k < n → ∃ b, A = some ⟨b, 0, none⟩ ∧ x.cell? ⟨b, k, none⟩ = some (.int .u8 (mm : Int)) := by
  obtain ⟨⟨lv, mA, mc, N, vals, ms, ks⟩, rfl, hd⟩ := hF
  obtain ⟨LA, lc, hlv, _⟩ := own_slice (h.row (i := 1) rfl)
  have hlv : lv = .slice LA vals.length lc := hlv
  subst hlv
  have hl : vals.length = ms.length := hd.len
  have hq1 : 50 * vals.length ≤ N := hd.few
  have hq2 : N ≤ 5000000000 := hd.lim
  have hr := h.row (i := 1) rfl
  have hm := h.byt (i := 2) rfl
  refine ⟨LA, mA, vals.length, lc, mc, by omega, h.cell (i := 0) (j := 0) rfl rfl, by have h1 := h.cell (i := 0) (j := 1) rfl rfl; rw [h1, hl], fun i hi => ?_⟩
  obtain ⟨lg, lcap, hv, _⟩ := own_form hr (show 0 < vals.length by omega)
  injection hv with hv _ _
  obtain ⟨mg, mcap, hv2, _⟩ := own_form hm (show 0 < ms.length by omega)
  injection hv2 with hv2 _ _
  obtain ⟨v, hvi⟩ : ∃ v, vals[i]? = some v := ⟨_, List.getElem?_eq_getElem hi⟩
  obtain ⟨m, hmi⟩ : ∃ v, ms[i]? = some v := ⟨_, List.getElem?_eq_getElem (by omega)⟩
  obtain ⟨A, n, cap, rfl, hn, hmk⟩ := hd.keep i v m hvi hmi
  subst hv; subst hv2
  have hS := OW.marked h (A := A) (n := n) (cap := cap) (m := m) (by
    rcases hmk with hk | ⟨g', c', N', k1, k2, k3, k4, k5⟩
    · exact .inl hk
    · exact .inr ⟨g', c', N', k1, k2, k3, k4, List.mem_append_left _ (.tail _ (.tail _ (.tail _ k5)))⟩)
  refine ⟨lg, mg, A, n, cap, m.toNat, rfl, rfl, hn, (World.ownsRow.cellAt hr i (by show i < vals.length * 1; omega)).trans hvi, (World.ownsRow.cellAt hm i (by show i < ms.length * 1; omega)).trans (u8s_at hmi), fun k hk => ?_⟩
  obtain ⟨b, o, rfl, _, hc⟩ := hS.rb.2 (by omega)
  have ho : o = 0 := by
    rcases hmk with ⟨h1, _⟩ | ⟨_, _, _, h1, _⟩
    · cases h1
    · injection h1 with h1; injection h1
  subst ho
  have := hc k _ (u8s_at (show (List.replicate n m)[k]? = some m by simp [hk]))
  rw [Nat.zero_add] at this
  exact ⟨b, rfl, this⟩
set_option maxRecDepth 100000 in
set_option maxHeartbeats 4000000 in
theorem whole_any {w x : World} {g : Nat} {osF rest : List Ob} (hF : Fl g osF) (h : OW w (osF ++ rest) x) :
    Calls Tryz.prog 21 #[.pointer (some ⟨g, 0, none⟩)] x fun e z => e = .returned (.bool true) ∧ Below x.heap.size x z := by
  obtain ⟨LA, MA, q, lc, mc, hq, h0, h1, hi⟩ := hF.read h
  have L0 := Lib.hid (World.block_lt_of_cell? _ _ h0)
  have HI := Lib.hid hi
  have H0 : Hid (∀ z, Below x.heap.size x z → z.cell? ⟨g, 0, none⟩ = some (.slice LA q lc)) := Lib.hid fun z hz => (hz.cell (p := ⟨g, 0, none⟩) L0.out).trans h0
  have H1 : Hid (∀ z, Below x.heap.size x z → z.cell? ⟨g, 1, none⟩ = some (.slice MA q mc)) := Lib.hid fun z hz => (hz.cell (p := ⟨g, 1, none⟩) L0.out).trans h1
  clear hF h h0 h1 hi
  go_enter Tryz.func21, Tryz.ntmps21
  go_wp2_with fail
  go_loopw [3, 4] (fun iv _ wr => ∃ i : Nat, i ≤ q ∧ iv = .int .i64 i ∧ Hid (Below x.heap.size x wr)) (fun iv _ _ => q - (intOf iv).toNat)
  case atStart => exact ⟨0, Nat.zero_le _, rfl, Lib.hid (Below.refl _ _)⟩
  case round =>
    obtain ⟨i, hiq, rfl, HB⟩ := hrel
    have c0 := H0.out _ HB.out
    by_cases hlt : i < q
    case neg =>
      have hd : decide ((i : Int) < (q : Int)) = false := decide_eq_false (by omega)
      go_wp2_with (refine wpList_load_cell rfl 35 (.tmp 8) rfl rfl c0 (fun w => Tryz.isAgg35 w) ?_)
      go_ret
      exact ⟨rfl, HB.out⟩
    have hd : decide ((i : Int) < (q : Int)) = true := decide_eq_true (by omega)
    obtain ⟨lg, mg, A, n, cap, mm, rfl, rfl, hn, hl, hm, hk⟩ := HI.out i hlt
    have HL : Hid (∀ z, Below x.heap.size x z → z.cell? ⟨lg, i, none⟩ = some (.slice A n cap)) := Lib.hid fun z hz => (hz.cell (p := ⟨lg, i, none⟩) (World.block_lt_of_cell? _ _ hl)).trans hl
    have HM : Hid (∀ z, Below x.heap.size x z → z.cell? ⟨mg, i, none⟩ = some (.int .u8 (mm : Int))) := Lib.hid fun z hz => (hz.cell (p := ⟨mg, i, none⟩) (World.block_lt_of_cell? _ _ hm)).trans hm
    have HK := Lib.hid hk
    have i0 : (0 : Int) ≤ (i : Int) := by omega
    have i1 : (i : Int) < (q : Int) := by omega
    clear hl hm hk
    go_wp2_with (refine wpList_load_cell rfl 35 (.tmp 8) rfl rfl c0 (fun w => Tryz.isAgg35 w) ?_)
    go_loopw [4] (fun kv wy => ∃ k : Nat, k ≤ n ∧ kv = .int .i64 k ∧ Hid (Below x.heap.size x wy)) (fun kv _ => n - (intOf kv).toNat)
    case atStart => exact ⟨0, Nat.zero_le _, rfl, HB⟩
    case round =>
      clear c0
      obtain ⟨k, hkn, rfl, HB2⟩ := hrel
      have c0 := H0.out _ HB2.out
      have c1 := HL.out _ HB2.out
      by_cases hlk : k < n
      case neg =>
        have hd2 : decide ((k : Int) < (n : Int)) = false := decide_eq_false (by omega)
        go_wp2_with (first
          | (refine wpList_load_cell rfl 35 (.tmp 17) rfl rfl c0 (fun w => Tryz.isAgg35 w) ?_)
          | (refine wpList_load_cell rfl 22 (.tmp 20) rfl rfl c1 (fun w => Tryz.isAgg22 w) ?_))
        go_roundw
        case rel => exact ⟨i + 1, by omega, by go_num, HB2⟩
        case measure => simp [intOf]; omega
      have hd2 : decide ((k : Int) < (n : Int)) = true := decide_eq_true (by omega)
      obtain ⟨b, rfl, hcb⟩ := HK.out k hlk
      have c2 : _ = _ := (HB2.out.cell (p := ⟨b, k, none⟩) (World.block_lt_of_cell? _ _ hcb)).trans hcb
      have c3 := H1.out _ HB2.out
      have c4 := HM.out _ HB2.out
      have k0 : (0 : Int) ≤ (k : Int) := by omega
      have k1 : (k : Int) < (n : Int) := by omega
      go_wp2_with (first
        | (refine wpList_load_cell rfl 35 (.tmp 17) rfl rfl c0 (fun w => Tryz.isAgg35 w) ?_)
        | (refine wpList_load_cell rfl 22 (.tmp 20) rfl rfl c1 (fun w => Tryz.isAgg22 w) ?_))
      go_quiet (fail)
      have HB3 := Lib.hid (below_drewN (n := nq) HB2.out)
      generalize wr.drewN nq = wz at *
      go_wp2_with fail
      go_roundw
      case rel => exact ⟨k + 1, by omega, by go_num, HB3⟩
      case measure => simp [intOf]; omega
end Go.Proofs.YtmigjipfomfacaaGreatDoor
namespace Go.Proofs.YtmigjipfomfacaaGreatDoor
open Go.RowKit
def mkL (j : Nat) : List UInt8 := [201, 202, 203, 204, 205] ++ List.replicate j 206
theorem mkL_len (j : Nat) : (mkL j).length = j + 5 := by simp [mkL]
set_option maxRecDepth 100000 in
set_option maxHeartbeats 1000000 in
theorem intact_any (l : List UInt8) (A B : Option Addr) (n c d : Nat) (w : World) (ha : Sl w A (n + 75) c (l ++ mkL 70)) (hb : RB w w.heap.size B n l) (hn : n ≤ 1000000) :
    Calls Tryz.prog 11 #[.slice A n c, .slice B n d] w fun e w' => e = .returned (.bool true) ∧ Below w.heap.size w w' := by
  have hcap := ha.cap
  have hlim := ha.lim
  have HLB := Lib.hid hb.len
  have HA : Hid (∀ x, Below w.heap.size w x → Sl x A (n + 75) c (l ++ mkL 70)) := Lib.hid fun x h => ha.later h
  have HB : Hid (∀ x, Below w.heap.size w x → RB x x.heap.size B n l) := Lib.hid fun x h => hb.later h
  have H1 : Hid (∀ x, Below w.heap.size w x → Sl x A n c l) := Lib.hid fun x h => by
    have h2 := (HA.out x h).take (m := n) (by omega)
    rwa [List.take_left' HLB.out] at h2
  have H2 : Hid (∀ x, Below w.heap.size w x → Sl x (A.map (·.add n)) 5 (c - n) [201, 202, 203, 204, 205]) := Lib.hid fun x h => by
    have h2 := ((HA.out x h).take (m := n + 5) (by omega)).drop (k := n) (by omega) (by omega)
    have e : ((l ++ mkL 70).take (n + 5)).drop n = [201, 202, 203, 204, 205] := by
      have hl := HLB.out
      subst hl
      rw [List.take_length_add_append, List.drop_left]
      rfl
    rw [e, show n + 5 - n = 5 from by omega] at h2
    exact h2
  have XS : Hid ((l == l) = true) := Lib.hid (by simp)
  have XM : Hid ((([201, 202, 203, 204, 205] : List UInt8) == [201, 202, 203, 204, 205]) = true) := Lib.hid rfl
  have hA0 : ∃ aa, A = some aa := by
    cases A with
    | none => exact absurd (ha.nil rfl) (by omega)
    | some aa => exact ⟨aa, rfl⟩
  obtain ⟨aa, rfl⟩ := hA0
  have k1 : (n : Int) + 5 ≤ (c : Int) := by omega
  have k2 : IntKind.i64.wrap ((n : Int) + 5) = (n : Int) + 5 := i64_sum (by omega) (by omega)
  have tok1 : True := trivial
  clear ha hb
  go_enter Tryz.func11, Tryz.ntmps11
  go_wp2_with (first
    | (go_at_call 29; have _t := tok1; go_must (refine (same_any l l (some aa) B n c n d _ (by omega) (H1.out _ (Below.refl _ _)).rb (HB.out _ (Below.refl _ _))).mono ?_); rw [XS.out]; rintro e x1 ⟨rfl, hb1⟩; have HB1 := Lib.hid hb1; clear hb1 tok1)
    | (go_at_call 29; go_must (refine (same_any [201, 202, 203, 204, 205] [201, 202, 203, 204, 205] _ _ 5 _ 5 _ _ (by decide) (H2.out _ (HB1.out.alloc HB1.out.size _)).rb (Sl.lit x1 #[.int .u8 201, .int .u8 202, .int .u8 203, .int .u8 204, .int .u8 205] [201, 202, 203, 204, 205] 5 (0, 0) rfl rfl (by decide)).rb).mono ?_); rw [XM.out]; rintro e x2 ⟨rfl, hb2⟩; have HB2 := Lib.hid (below_up (HB1.out.alloc HB1.out.size (.cells #[.int .u8 201, .int .u8 202, .int .u8 203, .int .u8 204, .int .u8 205] 5)) hb2); clear hb2))
  go_ret
  exact ⟨rfl, HB2.out⟩
structure EnM (w : World) (A : Option Addr) (n c : Nat) (B : Option Addr) (m d : Nat) (D : Option Addr) (v q : Nat) (e : Ent) : Prop where
  row : Sl w A (n + 75) c (e.row ++ mkL 70)
  qual : Sl w B (m + 75) d (e.qual ++ mkL 70)
  val : Sl w D (v + 75) q (e.val ++ mkL 70)
  lr : e.row.length = n ∧ n ≤ 5000
  lq : e.qual.length = m ∧ m ≤ 5000
  lv : e.val.length = v ∧ v ≤ 5000
section
variable {w x : World} {A : Option Addr} {n c : Nat} {B : Option Addr} {m d : Nat} {D : Option Addr} {v q : Nat} {e : Ent}
theorem EnM.later (h : EnM w A n c B m d D v q e) (hb : Below w.heap.size w x) : EnM x A n c B m d D v q e := ⟨h.row.later hb, h.qual.later hb, h.val.later hb, h.lr, h.lq, h.lv⟩
theorem sl_front {l : List UInt8} {k : Nat} (h : Sl w A (n + k) c (l ++ mkL 70)) (hl : l.length = n) : Sl w A n c l := by
  have h2 := h.take (m := n) (by omega)
  rwa [List.take_left' hl] at h2
theorem EnM.en (h : EnM w A n c B m d D v q e) : En w A n c B m d D v q e := ⟨sl_front h.row h.lr.1, sl_front h.qual h.lq.1, sl_front h.val h.lv.1⟩
end
theorem sl_front' {w : World} {A : Option Addr} {c n k : Nat} {l : List UInt8} (h : Sl w A (l ++ mkL k).length c (l ++ mkL k)) (hl : l.length = n) : Sl w A n c l := by
  have h2 := h.take (m := n) (by rw [List.length_append]; omega)
  rwa [List.take_left' hl] at h2
set_option maxRecDepth 100000 in
set_option maxHeartbeats 2000000 in
theorem laid5_any (l : List UInt8) (A : Option Addr) (n c : Nat) (w : World) (hs : Sl w A n c l) (hn : n ≤ 1000000) :
    Calls Tryz.prog 6 #[.slice A n c] w fun r z => ∃ A' c', r = .returned (.slice A' n c') ∧ OW w [bytO 5 (A', c', l ++ mkL 70)] z := by
  have HS := Lib.hid hs
  have hl := hs.len
  have HL := Lib.hid hl
  clear hs
  go_enter Tryz.func6, Tryz.ntmps6
  go_wp2_with (first
    | (go_at_call 8; go_must (refine (copied_any l A n c _ (by omega) HS.out.rb).mono ?_); rintro e x1 hp; obtain ⟨A1, c1, rfl, _, ho, hb⟩ := hp.at_ HL.out; have HX1 : Hid (OW w [bytO 5 (A1, c1, l)] x1) := Lib.hid (OW.byt1 hb ho); clear hp ho hb)
    | (refine wl_build rfl #[(0, .const (.int .u8 201)), (1, .const (.int .u8 202)), (2, .const (.int .u8 203)), (3, .const (.int .u8 204)), (4, .const (.int .u8 205))] rfl #[.int .u8 201, .int .u8 202, .int .u8 203, .int .u8 204, .int .u8 205] Tryz.u8s' (.int .u8 0) (by kernel_rfl) (by decide) (by decide) (by decide) rfl (by kernel_rfl) HX1.out ?_; intro g2 x2 hz _; have HX2 := Lib.hid hz.left; have HRB : Hid (RB x2 x2.heap.size (some ⟨g2, 0, none⟩) 5 [201, 202, 203, 204, 205]) := Lib.hid (Reads.own (hz.right.row (i := 0) rfl)); clear hz HX1)
    | (at_builtin; go_must (refine wl_appB rfl (.tmp 7) (.tmp 8) rfl Tryz.u8s' HX2.out 0 rfl HL.out rfl _ _ 5 _ [201, 202, 203, 204, 205] rfl HRB.out (by omega) ?_); intro A3 c3 x3 hz; have HX3 : Hid (OW w [bytO 5 (A3, c3, l ++ mkL 0)] x3) := Lib.hid hz; clear hz HX2 HRB))
  go_loopw [3, 4] (fun v i wr => ∃ (j : Nat) (A' : Option Addr) (c' : Nat), j ≤ 70 ∧ i = .int .i64 j ∧ v = .slice A' (n + 5 + j) c' ∧ Hid (OW w [bytO 5 (A', c', l ++ mkL j)] wr)) (fun _ i _ => 70 - (intOf i).toNat)
  case atStart => exact ⟨0, A3, c3, by omega, rfl, rfl, HX3⟩
  case round =>
    clear HX3
    obtain ⟨j, A4, c4, hj, rfl, rfl, HX⟩ := hrel
    have HLJ : Hid ((l ++ mkL j).length = n + 5 + j) := Lib.hid (by rw [List.length_append, HL.out, mkL_len]; omega)
    by_cases hlt : j < 70
    · have hd3 : decide ((j : Int) < 70) = true := decide_eq_true (by omega)
      have HE : Hid (l ++ mkL j ++ [206] = l ++ mkL (j + 1)) := Lib.hid (by unfold mkL; rw [List.replicate_succ']; simp)
      go_wp2_with (first
        | (refine wl_build rfl #[(0, .const (.int .u8 206))] rfl #[.int .u8 206] Tryz.u8s' (.int .u8 0) (by kernel_rfl) (by decide) (by decide) (by decide) rfl (by kernel_rfl) HX.out ?_; intro g5 x5 hz _; have HX5 := Lib.hid hz.left; have HRB : Hid (RB x5 x5.heap.size (some ⟨g5, 0, none⟩) 1 [206]) := Lib.hid (Reads.own (hz.right.row (i := 0) rfl)); clear hz HX)
        | (at_builtin; go_must (refine wl_appB rfl (.tmp 14) (.tmp 15) rfl Tryz.u8s' HX5.out 0 rfl HLJ.out rfl _ _ 1 _ [206] rfl HRB.out (by omega) ?_); intro A6 c6 x6 hz; rw [HE.out] at hz; have HX6 : Hid (OW w [bytO 5 (A6, c6, l ++ mkL (j + 1))] x6) := Lib.hid hz; clear hz HX5 HRB))
      go_roundw
      case rel => exact ⟨j + 1, A6, c6, by omega, by go_num, rfl, HX6⟩
      case measure => simp [intOf]; omega
    · have hd3 : decide ((j : Int) < 70) = false := decide_eq_false (by omega)
      obtain rfl : j = 70 := by omega
      have h5 : (l ++ mkL 70).length ≤ c4 := (HX.out.byt (i := 0) rfl).cap.1
      have h7 : (l ++ mkL 70).length = n + 5 + 70 := HLJ.out
      have h5I : (n : Int) ≤ (c4 : Int) := by omega
      have h5N : n ≤ c4 := by omega
      clear hlt h7 h5
      go_wp2_with fail
      go_ret
      exact ⟨A4, c4, rfl, HX.out⟩
set_option maxRecDepth 100000 in
theorem cut5_any (l : List UInt8) (A : Option Addr) (n c N : Nat) (w : World) (hs : Sl w A n c l) (hN : N ≤ 1000000) :
    Calls Tryz.prog 7 #[.slice A n c, .int .i64 (N : Int)] w fun r z => r = .returned (.slice A (min n N) c) ∧ z = w := by
  have hcap := hs.cap
  have hlim := hs.lim
  by_cases h : N < n
  · have hd : decide ((n : Int) > (N : Int)) = true := decide_eq_true (by omega)
    have hd2 : decide (N < n) = true := decide_eq_true h
    have hcI : (N : Int) ≤ (c : Int) := by omega
    have hm : min n N = N := by omega
    rw [hm]
    clear hs hm
    go_enter Tryz.func7, Tryz.ntmps7
    go_wp2_with fail
    go_ret
    exact ⟨rfl, rfl⟩
  · have hd : decide ((n : Int) > (N : Int)) = false := decide_eq_false (by omega)
    have hd2 : decide (N < n) = false := decide_eq_false h
    have hm : min n N = n := by omega
    rw [hm]
    clear hs hm
    go_enter Tryz.func7, Tryz.ntmps7
    go_wp2_with fail
    go_ret
    exact ⟨rfl, rfl⟩
end Go.Proofs.YtmigjipfomfacaaGreatDoor
