/-
  BloomLent, walked.
-/
import Derived.Test.YthjjihipodhkiaaBm2
import Derived.Test.YthjjihipodhkiaaBm3
namespace Go.Proofs.Ythjjihipodhkiaa
open Go.RowKit

/-- The turns: three numbers each. -/
def Turns (w : World) (A : Option Addr) (n : Nat) : Prop := 0 < n → ∃ b o, A = some ⟨b, o, none⟩ ∧ b < w.heap.size ∧ ∀ i, i < n → ∃ t0 t1 t2 : Int, (-9223372036854775808 ≤ t1 ∧ t1 < 9223372036854775808) ∧ (-9223372036854775808 ≤ t2 ∧ t2 < 9223372036854775808) ∧
  w.cell? ⟨b, o + i * 3, none⟩ = some (.int .i64 t0) ∧ w.cell? ⟨b, o + i * 3 + 1, none⟩ = some (.int .i64 t1) ∧ w.cell? ⟨b, o + i * 3 + 2, none⟩ = some (.int .i64 t2)
theorem turn_row : RowTy Try.prog 52 3 := ⟨⟨_, Try.underlying52, rfl⟩, by kernel_rfl⟩
theorem turn_zero : (Try.prog.info? 52).bind (·.zero) = some (.agg [Value.int .i64 0, .int .i64 0, .int .i64 0].toArray) := by kernel_rfl
theorem turn_size : (Try.prog.info? 52).map (·.size) = some 3 := by kernel_rfl
theorem turn_one {a b c : Int} : ∀ u ∈ [Value.int .i64 a, .int .i64 b, .int .i64 c], u.oneCell' = true := fun u hu => by
  simp only [List.mem_cons, List.not_mem_nil, or_false] at hu
  rcases hu with rfl | rfl | rfl <;> rfl
theorem cut_snoc (ks : List (List UInt8)) (f g : List UInt8) : (ks ++ [f, g]).take ks.length = ks := List.take_left' rfl

set_option maxRecDepth 100000 in
set_option maxHeartbeats 8000000 in
theorem lentB_any (K N : Int) (ks : List (List UInt8)) (f g : List UInt8) (KA A G TA : Option Addr) (kn kc n c m d tn tc : Nat) (w : World) (hk : RBs w w.heap.size KA kn ks) (hkn : kn ≤ 1048576) (hkb : ks.flatten.length ≤ 1048576) (hs : Sl w A n c f) (hn : n ≤ 1048576) (hg : Sl w G m d g) (hm : m ≤ 1048576) (ht : Turns w TA tn) (htn : tn ≤ 9223372036854775807) :
    Calls Try.prog 11 #[.agg #[.int .i64 K, .int .i64 N, .slice KA kn kc, .slice A n c, .slice G m d], .slice TA tn tc] w fun e w' => e = .returned (.bool true) ∧ Below w.heap.size w w' := by
  have HB0 := Lib.hid ((Below.refl w.heap.size w).alloc (Nat.le_refl _) (.cells #[.int .i64 K, .int .i64 N, .slice KA kn kc, .slice A n c, .slice G m d] 45))
  have HX := box5 w #[.int .i64 K, .int .i64 N, .slice KA kn kc, .slice A n c, .slice G m d] 45 _ _ _ _ _ rfl
  have HK : Hid (∀ w', Below w.heap.size w w' → RBs w' w'.heap.size KA kn ks) := Lib.hid fun w' h => hk.later h
  have HS : Hid (∀ w', Below w.heap.size w w' → Sl w' A n c f) := Lib.hid fun w' h => hs.later h
  have HG : Hid (∀ w', Below w.heap.size w w' → Sl w' G m d g) := Lib.hid fun w' h => hg.later h
  have HTN : Hid (∀ w', Below w.heap.size w w' → ∀ i, i < tn → ∃ (b o : Nat) (t0 t1 t2 : Int), TA = some ⟨b, o, none⟩ ∧ (-9223372036854775808 ≤ t1 ∧ t1 < 9223372036854775808) ∧ (-9223372036854775808 ≤ t2 ∧ t2 < 9223372036854775808) ∧ w'.cell? ⟨b, o + i * 3, none⟩ = some (.int .i64 t0) ∧ w'.cell? ⟨b, o + i * 3 + 1, none⟩ = some (.int .i64 t1) ∧ w'.cell? ⟨b, o + i * 3 + 2, none⟩ = some (.int .i64 t2)) := Lib.hid fun w' h i hi => by
    obtain ⟨b, o, e, hb, hq⟩ := ht (by omega)
    obtain ⟨t0, t1, t2, h1, h2, c0, c1, c2⟩ := hq i hi
    exact ⟨b, o, t0, t1, t2, e, h1, h2, (h.cell (p := ⟨b, o + i * 3, none⟩) hb).trans c0, (h.cell (p := ⟨b, o + i * 3 + 1, none⟩) hb).trans c1, (h.cell (p := ⟨b, o + i * 3 + 2, none⟩) hb).trans c2⟩
  have HKC := Lib.hid (keys_lie hk)
  have HKL := Lib.hid hk.len
  have HFL := Lib.hid hs.len
  have HGL := Lib.hid hg.len
  have HKB : Hid (∀ (k : Nat) (x : List UInt8), ks[k]? = some x → x.length ≤ 1048576) := Lib.hid fun k x h => Nat.le_trans (flat_at_leB h) hkb
  obtain ⟨gb, hgb⟩ : ∃ g, g = w.heap.size := ⟨_, rfl⟩
  have tok0 : True := trivial
  clear hk hkb hs hg ht
  go_enter Try.func11, Try.ntmps11
  go_wp2_with (go_at_call 12; have _t := tok0; go_must (refine (started_any _).mono ?_); rintro e w1 ⟨rfl, hb1⟩; have HB1 := Lib.hid (HB0.out.trans (hb1.mono HB0.out.size)); have HX1 := Lib.hid (fun x (h : Below w1.heap.size w1 x) => HX.out x (hb1.trans (h.mono hb1.size))); clear tok0 hb1)
  rw [← hgb] at HX1 ⊢
  clear hgb HX HB0
  go_loopw [6, 7, 8] (fun u v i wr => ∃ (k : Nat) (zs : RowL), k ≤ kn ∧ i = .int .i64 k ∧ Hid (zs.length = k) ∧ Hid (LnS 5 24 w1.heap.size wr u v k k (zs.map cutR) (zs.map valR) zs) ∧ Hid (zs.map (·.2.2) = (ks.take k).map (· ++ mkB)) ∧ Hid (Below w1.heap.size w1 wr)) (fun _ _ i _ => kn - (intOf i).toNat)
  case atStart => exact ⟨0, [], Nat.zero_le _, rfl, Lib.hid rfl, Lib.hid (LnS.nil (Nat.le_refl _)), Lib.hid (by rw [List.take_zero]; rfl), Lib.hid (Below.refl _ _)⟩
  case round =>
    as_aux_lemma =>
      obtain ⟨k, zs, hk, rfl, HZL, HLN, HCT, HW⟩ := hrel
      obtain ⟨x0, x1, x2, x3, x4⟩ := HX1.out wr HW.out
      have HBW := Lib.hid (HB1.out.trans (HW.out.mono HB1.out.size))
      obtain ⟨v, hv⟩ : ∃ v, v = u7 := ⟨_, rfl⟩
      obtain ⟨u, hu⟩ : ∃ v, v = u6 := ⟨_, rfl⟩
      rw [← hv, ← hu] at HLN ⊢
      clear hv hu
      by_cases hlt : k < kn
      case neg =>
        as_aux_lemma =>
          have hd : decide ((k : Int) < (kn : Int)) = false := decide_eq_false (by omega)
          have HKK : Hid (k = kn) := Lib.hid (by omega)
          have HZC : Hid (zs.length = kn ∧ zs.map (·.2.2) = ks.map (· ++ mkB)) := Lib.hid ⟨by rw [HZL.out]; exact HKK.out, by rw [HCT.out, HKK.out, take_all (by have := HKL.out; omega)]⟩
          have HO : Hid (OW w1 (rowO 24 1 u kn (zs.map cutR) :: rowO 24 1 v kn (zs.map valR) :: zs.map (bytO 5)) wr) := Lib.hid (by have h := HLN.out; rw [HKK.out] at h; exact lns_ow h HW.out)
          obtain ⟨LA, lc, rfl, _⟩ := own_slice (HO.out.row (i := 0) rfl)
          obtain ⟨WA, wcp, rfl, _⟩ := own_slice (HO.out.row (i := 1) rfl)
          obtain ⟨RF, hRF⟩ : ∃ R, R = f ++ mkB := ⟨_, rfl⟩
          obtain ⟨RG, hRG⟩ : ∃ R, R = g ++ mkB := ⟨_, rfl⟩
          have XRF := Lib.hid hRF
          have XRG := Lib.hid hRG
          have XLF : Hid (RF.length = n + 5) := Lib.hid (by rw [hRF, List.length_append, HFL.out]; rfl)
          have XLG : Hid (RG.length = m + 5) := Lib.hid (by rw [hRG, List.length_append, HGL.out]; rfl)
          obtain ⟨wq, rfl⟩ : ∃ z : World, z = wr := ⟨_, rfl⟩
          have tok1 : True := trivial
          clear hRF hRG HZL HLN HCT hk HKC HK
          go_wp2_with (go_at_call 25; have _t := tok1; go_must (refine (wide_any f A n c _ (by omega) (HS.out _ HBW.out).rb).mono ?_); rintro e w2 hz; rw [← XRF.out] at hz; obtain ⟨Aw, cw, rfl, hS2, hO2, hb2⟩ := hz.at_ XLF.out; have HW2 := Lib.hid (HW.out.trans (hb2.mono HW.out.size)); have HO2 := Lib.hid (HO.out.app (OW.byt1 hb2 hO2)); have HBW2 := Lib.hid (HBW.out.trans (hb2.mono HBW.out.size)); have hcw := hS2.cap; obtain ⟨y0, y1, y2, y3, y4⟩ := HX1.out w2 HW2.out; clear hz hS2 hO2 hb2 x0 x1 x2 x3 x4 tok1)
          have tok1 : True := trivial
          go_wp2_with (go_at_call 25; have _t := tok1; go_must (refine (wide_any g G m d _ (by omega) (HG.out _ HBW2.out).rb).mono ?_); rintro e w3 hz; rw [← XRG.out] at hz; obtain ⟨Ax, cx, rfl, hS3, hO3, hb3⟩ := hz.at_ XLG.out; have HW3 := Lib.hid (HW2.out.trans (hb3.mono HW2.out.size)); have HO3 := Lib.hid (HO2.out.app (OW.byt1 hb3 hO3)); have HBW3 := Lib.hid (HBW2.out.trans (hb3.mono HBW2.out.size)); have hcx := hS3.cap; obtain ⟨x0, x1, x2, x3, x4⟩ := HX1.out w3 HW3.out; clear hz hS3 hO3 hb3 y0 y1 y2 y3 y4 tok1)
          have HBX : Hid (w.heap.size ≤ w1.heap.size) := Lib.hid HB1.out.size
          clear HO HO2 HW HW2 HBW HBW2 HB1 HS HG
          obtain ⟨zz, hzz⟩ : ∃ z, z = zs ++ [(Aw, cw, RF), (Ax, cx, RG)] := ⟨_, rfl⟩
          have HOZ : Hid (OW w1 (rowO 24 1 (.slice LA kn lc) kn ((zz.take kn).map cutR) :: rowO 24 1 (.slice WA kn wcp) kn ((zz.take kn).map valR) :: zz.map (bytO 5)) w3) := Lib.hid (by
            have h := HO3.out
            rw [hzz, List.take_left' HZC.out.1]
            simp only [List.map_append, List.map_cons, List.map_nil, List.cons_append, List.append_assoc, List.nil_append] at h ⊢
            exact h)
          have HST : Hid (StB 5 w1.heap.size w3 (.slice LA kn lc) (.slice WA kn wcp) zz w3 zz (ks ++ [f, g])) := Lib.hid ⟨(HOZ.out.sub (((List.Sublist.refl _).cons _).cons _)).toRows, rfl, by rw [hzz, List.map_append, HZC.out.2, List.map_append, XRF.out, XRG.out]; rfl, Chg.refl _ _, Below.refl _ _⟩
          have HZ2 : Hid (zz[kn]? = some (Aw, cw, RF) ∧ zz[kn + 1]? = some (Ax, cx, RG)) := Lib.hid (by
            rw [hzz, ← HZC.out.1]
            refine ⟨by rw [List.getElem?_append_right (Nat.le_refl _), Nat.sub_self]; rfl, by rw [List.getElem?_append_right (by omega), show zs.length + 1 - zs.length = 1 from by omega]; rfl⟩)
          have HZL2 : Hid (∀ (i : Nat) r, zz[i]? = some r → r.2.2.length ≤ 2000000) := Lib.hid fun i r hr => by
            have h1 : (zz.map (·.2.2))[i]? = some r.2.2 := by rw [List.getElem?_map, hr]; rfl
            rw [HST.out.cont, List.getElem?_map] at h1
            cases hq : (ks ++ [f, g])[i]? with
            | none => rw [hq] at h1; cases h1
            | some q =>
              rw [hq] at h1; injection h1 with h1
              rw [← h1, List.length_append, mkB_len]
              have hql : q.length ≤ 1048576 := by
                rcases List.mem_append.1 (List.mem_of_getElem? hq) with hm | hm
                · obtain ⟨j, hj⟩ := List.getElem?_of_mem hm
                  exact HKB.out j q hj
                · simp only [List.mem_cons, List.not_mem_nil, or_false] at hm
                  rcases hm with rfl | rfl
                  · have := HFL.out; omega
                  · have := HGL.out; omega
              omega
          have HQ0 : Hid ((ks ++ [f, g]).length = kn + 2) := Lib.hid (by rw [List.length_append, HKL.out]; rfl)
          have hmm : ∀ (o : Ob) r, r ∈ zz → bytO 5 r ∈ o :: zz.map (bytO 5) := fun o r hr => List.mem_cons_of_mem _ (List.mem_map_of_mem hr)
          have HOFF : Hid (Off (.slice LA kn lc) zz ∧ Off (.slice WA kn wcp) zz) := Lib.hid ⟨ow_off HOZ.out rfl fun r hr => hmm _ r hr, ow_off (HOZ.out.sub ((List.Sublist.refl _).cons _)) rfl fun r hr => List.mem_map_of_mem hr⟩
          have HTF : Hid (∀ z zy qs y, StB 5 w1.heap.size w3 (.slice LA kn lc) (.slice WA kn wcp) zz z zy qs → qs.length = kn + 2 → w1.heap.size ≤ z.heap.size → Below z.heap.size z y → TurnF kn LA WA z zy qs y) := Lib.hid fun z zy qs y h1 h2 h3 h4 => turn_facts (HOZ.out.row (i := 0) rfl) (HOZ.out.row (i := 1) rfl) h1 (by omega) h3 h4
          have HFG : Hid (∀ z zy qs, StB 5 w1.heap.size w3 (.slice LA kn lc) (.slice WA kn wcp) zz z zy qs → qs.length = kn + 2 → ∃ F G, qs[kn]? = some F ∧ qs[kn + 1]? = some G ∧ F.length = n ∧ G.length = m ∧ zy[kn]? = some (Aw, cw, F ++ mkB) ∧ zy[kn + 1]? = some (Ax, cx, G ++ mkB) ∧ Sl z Aw (n + 5) cw (F ++ mkB) ∧ Sl z Aw n cw F ∧ Sl z Ax (m + 5) cx (G ++ mkB) ∧ Sl z Ax m cx G) := Lib.hid fun z zy qs h1 h2 => by
            have e1 : qs[kn]? = some (qs[kn]'(by omega)) := List.getElem?_eq_getElem _
            have e2 : qs[kn + 1]? = some (qs[kn + 1]'(by omega)) := List.getElem?_eq_getElem _
            obtain ⟨a, c1, h3, ⟨l0, h4, h5⟩, h6, h7⟩ := h1.at_ e1
            obtain ⟨a', c1', h3', ⟨l0', h4', h5'⟩, h6', h7'⟩ := h1.at_ e2
            rw [HZ2.out.1] at h4
            rw [HZ2.out.2] at h4'
            injection h4 with h4; injection h4 with q1 h4; injection h4 with q2 q3
            injection h4' with h4'; injection h4' with q1' h4'; injection h4' with q2' q3'
            subst q1 q2 q1' q2'
            have n1 : (qs[kn]'(by omega)).length = n := by rw [← q3, XLF.out] at h5; omega
            have n2 : (qs[kn + 1]'(by omega)).length = m := by rw [← q3', XLG.out] at h5'; omega
            rw [n1] at h6 h7
            rw [n2] at h6' h7'
            exact ⟨_, _, e1, e2, n1, n2, h3, h3', h6, h7, h6', h7'⟩
          have HLEN : Hid (∀ z zy qs, StB 5 w1.heap.size w3 (.slice LA kn lc) (.slice WA kn wcp) zz z zy qs → ∀ (i : Nat) q, qs[i]? = some q → q.length ≤ 2000000) := Lib.hid fun z zy qs h1 i q hq => by
            obtain ⟨a, c1, _, ⟨l0, h4, h5⟩, _, _⟩ := h1.at_ hq
            have h6 := HZL2.out i _ h4
            have h6 : l0.length ≤ 2000000 := h6
            omega
          clear hzz hmm HZC HO3 XRF XRG XLF XLG
          go_loopw [5, 14] (fun o i wr => ∃ (t : Nat) (zy : RowL) (qs : List (List UInt8)), t ≤ tn ∧ t ≤ 41 ∧ o = .bool true ∧ i = .int .i64 t ∧ Hid (StB 5 w1.heap.size w3 (.slice LA kn lc) (.slice WA kn wcp) zz wr zy qs) ∧ Hid (qs.length = kn + 2)) (fun _ i _ => 41 - (intOf i).toNat)
          case atStart => exact ⟨0, zz, _, by omega, by omega, rfl, rfl, HST, HQ0⟩
          case round =>
            as_aux_lemma =>
              clear x0 x1 x2 x3 x4 HST HQ0
              obtain ⟨t, zy, qs, ht, ht41, rfl, rfl, HS5, HQL⟩ := hrel
              obtain ⟨wo, rfl⟩ : ∃ z : World, z = wr := ⟨_, rfl⟩
              have HWO : Hid (Below w1.heap.size w1 wo) := Lib.hid (HW3.out.trans HS5.out.bel)
              have HBO : Hid (Below w.heap.size w wo) := Lib.hid (HBW3.out.trans (HS5.out.bel.mono (by have := HBX.out; exact this)))
              have hdt : decide ((t : Int) ≤ (tn : Int)) = true := decide_eq_true (by omega)
              have tk : True := trivial
              by_cases ht40 : t ≤ 40
              case neg =>
                have hd40 : decide ((t : Int) ≤ 40) = false := decide_eq_false (by omega)
                go_wp2_with (go_at_call 12; have _t := tk; go_must (refine (started_any _).mono ?_); rintro e w9 ⟨rfl, hb⟩; have HB9 := Lib.hid (HBO.out.trans (hb.mono HBO.out.size)); clear hb tk)
                go_ret
                exact ⟨rfl, HB9.out⟩
              have hd40 : decide ((t : Int) ≤ 40) = true := decide_eq_true (by omega)
              obtain ⟨F, GG, e1, e2, e3, e4, e5, e6, s1, s2, s3, s4⟩ := HFG.out _ _ _ HS5.out HQL.out
              have HQF := Lib.hid (And.intro e1 e2)
              have HFN := Lib.hid (And.intro e3 e4)
              have HZF := Lib.hid (And.intro e5 e6)
              obtain ⟨RF, hRF⟩ : ∃ R, R = F ++ mkB := ⟨_, rfl⟩
              obtain ⟨RG, hRG⟩ : ∃ R, R = GG ++ mkB := ⟨_, rfl⟩
              rw [← hRF] at s1
              rw [← hRG] at s3
              have XRF := Lib.hid hRF
              have XRG := Lib.hid hRG
              have HSL : Hid (∀ y, Below wo.heap.size wo y → Sl y Aw (n + 5) cw RF ∧ Sl y Aw n cw F ∧ Sl y Ax (m + 5) cx RG ∧ Sl y Ax m cx GG) := Lib.hid fun y h => ⟨s1.later h, s2.later h, s3.later h, s4.later h⟩
              have hcw : n ≤ cw := s2.cap
              have hcx : m ≤ cx := s4.cap
              obtain ⟨QS, hQS⟩ : ∃ q, q = qs.take kn := ⟨_, rfl⟩
              have HQS := Lib.hid hQS
              obtain ⟨BR, hBR⟩ : ∃ b, b = bres N QS := ⟨_, rfl⟩
              obtain ⟨LB, hLB⟩ : ∃ l, l = BR.length := ⟨_, rfl⟩
              obtain ⟨eb, heb⟩ : ∃ z : Int, z = (buildE N QS : Int) := ⟨_, rfl⟩
              obtain ⟨hz, hhz⟩ : ∃ b, b = hasB F GG := ⟨_, rfl⟩
              obtain ⟨ce, hce⟩ : ∃ z, z = checkE F := ⟨_, rfl⟩
              obtain ⟨on, hon⟩ : ∃ z, z = onesN F := ⟨_, rfl⟩
              have XB := Lib.hid hBR
              have XLB : Hid (BR.length = LB) := Lib.hid hLB.symm
              have XLB2 : Hid (LB ≤ 2621446) := Lib.hid (by rw [hLB, hBR]; exact bres_len _ _)
              have XE := Lib.hid heb
              have XH := Lib.hid hhz
              have XC := Lib.hid hce
              have XO := Lib.hid hon
              have XS : Hid (∀ l : List UInt8, (l == l) = true) := Lib.hid (by simp)
              clear e1 e2 e3 e4 e5 e6 s1 s2 s3 s4 hRF hRG hQS hBR hLB heb hhz hce hon tk
              go_wp2_with fail
              go_loopw [15, 16] (fun kv i wr => ∃ (j : Nat) (cps : RowL), j ≤ kn ∧ i = .int .i64 j ∧ Hid (OW wo (rowO 24 1 kv j (cps.map valR) :: cps.map (bytO 5)) wr) ∧ Hid (cps.map (·.2.2) = qs.take j)) (fun _ i _ => kn - (intOf i).toNat)
              case atStart => exact ⟨0, [], Nat.zero_le _, rfl, Lib.hid (OW.nil1 wo), Lib.hid rfl⟩
              case round =>
                as_aux_lemma =>
                  obtain ⟨j, cps, hj, rfl, HK, HC⟩ := hrel
                  obtain ⟨kv, hkv⟩ : ∃ v, v = u15 := ⟨_, rfl⟩
                  rw [← hkv] at HK ⊢
                  clear hkv
                  obtain ⟨Ak, ck, rfl, _⟩ := own_slice (HK.out.row (i := 0) rfl)
                  by_cases hjk : j < kn
                  case pos =>
                    as_aux_lemma =>
                      have hdj : decide ((j : Int) < (kn : Int)) = true := decide_eq_true (by omega)
                      obtain ⟨b1, o1, b2, o2, a, c1, q, rfl, rfl, hq, hzq, hc1, hc2, hs5, hs1⟩ := (HTF.out wo zy qs wr HS5.out HQL.out HWO.out.size HK.out.up).key j hjk
                      obtain ⟨ql, hql⟩ : ∃ l, l = q.length := ⟨_, rfl⟩
                      rw [← hql] at hc1 hs1
                      have HQ := Lib.hid hq
                      have HQN := Lib.hid hql.symm
                      have HS1 := Lib.hid hs1
                      have hqb : Hid (ql ≤ 140737488355000) := Lib.hid (by rw [hql]; exact Nat.le_trans (HLEN.out _ _ _ HS5.out _ _ hq) (by decide))
                      have i1 : (0 : Int) ≤ (j : Int) := by omega
                      have i2 : (j : Int) < (kn : Int) := by omega
                      have tk1 : True := trivial
                      clear hq hzq hc2 hs5 hs1 hql
                      go_wp2_with (first
                        | (go_at_call 20; have _t := tk1; go_must (refine (copied_any q a ql c1 _ hqb.out HS1.out.rb).mono ?_); rintro e y1 hp; obtain ⟨A2, c2, rfl, _, ho, hb⟩ := hp.at_ HQN.out; have HK2 := Lib.hid (HK.out.app (OW.byt1 hb ho)); clear hp ho hb tk1 hc1)
                        | (at_builtin; go_must (refine wl_append rfl (.tmp 95) (.tmp 101) rfl Try.keyss (HK2.out.al (.cells #[.slice A2 ql c2] 24)) 0 rfl rfl _ (some ⟨y1.heap.size, 0, none⟩) 1 1 [.slice A2 ql c2] rfl (lit_one8 _ _ _ _ rfl) (by simp [Value.oneCell']) (by unfold maxLen; omega) (by omega) ?_); intro A3 c3 y2 hz3 _; have HK3 := Lib.hid hz3; clear hz3))
                      go_roundw
                      case rel =>
                        refine ⟨j + 1, cps ++ [(A2, c2, q)], by omega, by go_num, Lib.hid ?_, Lib.hid (by rw [List.map_append, HC.out, take_snoc HQ.out]; rfl)⟩
                        have h := HK3.out
                        simp only [List.cons_append, List.set_cons_zero] at h
                        rw [List.map_append, List.map_append]
                        have e1 : [(A2, c2, q)].map valR = [.slice A2 ql c2] := by simp only [List.map_cons, List.map_nil, valR]; rw [HQN.out]
                        rw [e1]
                        exact h
                      case measure => simp [intOf]; omega
                  have hdj : decide ((j : Int) < (kn : Int)) = false := decide_eq_false (by omega)
                  have HJ : Hid (j = kn) := Lib.hid (by omega)
                  have HKR : Hid (∀ y, Below wr.heap.size wr y → RBs y y.heap.size Ak j QS) := Lib.hid fun y hy => val_rbs (HK.out.later hy) (i := 0) rfl (fun r hr => List.mem_cons_of_mem _ (List.mem_map_of_mem hr)) (by rw [HC.out, HQS.out, HJ.out])
                  have HWK : Hid (Below wo.heap.size wo wr) := Lib.hid HK.out.up
                  have HKC : Hid (∀ y, Below wr.heap.size wr y → ∀ i, i < j → ∃ (bk : Nat) (a2 : Option Addr) (d2 : Nat) (q : List UInt8), Ak = some ⟨bk, 0, none⟩ ∧ qs[i]? = some q ∧ y.cell? ⟨bk, i, none⟩ = some (.slice a2 q.length d2) ∧ Sl y a2 q.length d2 q) := Lib.hid fun y hy i hi => by
                    have h := HK.out.later hy
                    obtain ⟨q, hq⟩ : ∃ q, qs[i]? = some q := ⟨_, List.getElem?_eq_getElem (by have := HQL.out; have := HJ.out; omega)⟩
                    obtain ⟨a2, d2, hz⟩ := cont_one10 HC.out (show (qs.take j)[i]? = some q by rw [List.getElem?_take_of_lt hi]; exact hq)
                    obtain ⟨bk, cap, hv, _, _, _⟩ := own_form (h.row (i := 0) rfl) (by omega)
                    injection hv with hv _ _
                    subst hv
                    refine ⟨bk, a2, d2, q, rfl, hq, ?_, h.slm (List.mem_cons_of_mem _ (List.mem_map_of_mem (List.mem_of_getElem? hz))) rfl⟩
                    exact (World.ownsRow.cellAt (h.row (i := 0) rfl) i (by omega)).trans (by rw [List.getElem?_map, hz]; rfl)
                  obtain ⟨wk, rfl⟩ : ∃ z : World, z = wr := ⟨_, rfl⟩
                  have HR := Lib.hid (OW.nil wk)
                  have hjb : j ≤ 1048576 := by have := HJ.out; omega
                  clear HK HC hj
                  have HBo : Hid (∀ y, Below wk.heap.size wk y → Below wo.heap.size wo y) := Lib.hid fun y h => HWK.out.trans (h.mono HWK.out.size)
                  have HXW : Hid (∀ y, Below wk.heap.size wk y → Below w1.heap.size w1 y) := Lib.hid fun y h => HWO.out.trans ((HBo.out y h).mono HWO.out.size)
                  have HBW : Hid (∀ y, Below wk.heap.size wk y → Below w.heap.size w y) := Lib.hid fun y h => HBO.out.trans ((HBo.out y h).mono HBO.out.size)
                  have HS1 : Hid (∀ y, Below wk.heap.size wk y → Sl y Aw (n + 5) cw RF ∧ Sl y Aw n cw F ∧ Sl y Ax (m + 5) cx RG ∧ Sl y Ax m cx GG) := Lib.hid fun y h => HSL.out y (HBo.out y h)
                  have hlb : LB ≤ 2621446 := XLB2.out
                  have tk : True := trivial
                  go_wp2_with (first | (go_at_call 20; have _t := tk; go_must (refine (copied_any F Aw n cw _ (by omega) (HS1.out _ HR.out.up).2.1.rb).mono ?_); rintro e q1 hp; obtain ⟨Af, cf, rfl, _, ho, hb⟩ := hp.at_ HFN.out.1; replace HR := Lib.hid (HR.out.app (OW.byt1 hb ho)); clear hp ho hb tk))
                  have tk : True := trivial
                  go_wp2_with (first | (go_at_call 20; have _t := tk; go_must (refine (copied_any GG Ax m cx _ (by omega) (HS1.out _ HR.out.up).2.2.2.rb).mono ?_); rintro e q2 hp; obtain ⟨Ag, cg, rfl, _, ho, hb⟩ := hp.at_ HFN.out.2; replace HR := Lib.hid (HR.out.app (OW.byt1 hb ho)); clear hp ho hb tk) | (refine wpList_load_cell rfl 3 (.tmp 108) rfl rfl (HX1.out _ (HXW.out _ HR.out.up)).2.1 (fun w => Try.isAgg3 w) ?_))
                  have tk : True := trivial
                  go_wp2_with (first | (go_at_call 13; have _t := tk; go_must (refine (build_any N QS LA kn lc _ (by omega) (by rw [HQS.out]; exact (HTF.out wo zy qs _ HS5.out HQL.out HWO.out.size (HBo.out _ HR.out.up)).rbs)).mono ?_); rintro e q3 hp; have hp := build_post hp; rw [← XB.out, ← XE.out] at hp; obtain ⟨A3, c3, rfl, _, ho, hb⟩ := hp.at_ XLB.out rfl; replace HR := Lib.hid (HR.out.app (OW.byt1 hb ho)); clear hp ho hb tk) | (refine wpList_load_cell rfl 3 (.tmp 115) rfl rfl (HX1.out _ (HXW.out _ HR.out.up)).2.1 (fun w => Try.isAgg3 w) ?_))
                  have tk : True := trivial
                  go_wp2_with (first | (go_at_call 26; have _t := tk; go_must (refine (rbuild_any N QS Ak j ck _ (by omega) (HKR.out _ HR.out.up)).mono ?_); rintro e q4 hp; rw [← XB.out, ← XE.out] at hp; obtain ⟨A4, c4, rfl, _, ho, hb⟩ := hp.at_ XLB.out rfl; replace HR := Lib.hid (HR.out.app (OW.byt1 hb ho)); clear hp ho hb tk))
                  have tk : True := trivial
                  go_wp2_with (first | (go_at_call 14; refine (num_any _ _).mono ?_; rintro e z ⟨rfl, rfl⟩) | (go_at_call 15; have _t := tk; go_must (refine (alike_any BR BR A3 A4 LB c3 LB c4 _ (HR.out.sl (i := 2) rfl XLB.out).rb (HR.out.sl (i := 3) rfl XLB.out).rb).mono ?_); rw [XS.out]; rintro e z ⟨rfl, rfl⟩; clear tk))
                  have tk : True := trivial
                  go_wp2_with (first | (go_at_call 23; have _t := tk; go_must (refine (has_any F GG Aw Ax n cw m cx _ (by omega) (HS1.out _ HR.out.up).2.1.rb (by omega) (HS1.out _ HR.out.up).2.2.2.rb).mono ?_); rw [← XH.out, ← XC.out]; rintro e q5 ⟨rfl, hb⟩; replace HR := Lib.hid (HR.out.later hb); clear hb tk))
                  have tk : True := trivial
                  go_wp2_with (first | (go_at_call 27; have _t := tk; go_must (refine (rhas_any F GG Af Ag n cf m cg _ (by omega) (HR.out.sl (i := 0) rfl HFN.out.1).rb (by omega) (HR.out.sl (i := 1) rfl HFN.out.2).rb).mono ?_); rw [← XH.out, ← XC.out]; rintro e q6 ⟨rfl, hb⟩; replace HR := Lib.hid (HR.out.later hb); clear hb tk))
                  have tk : True := trivial
                  go_wp2_with (first | (go_at_call 14; refine (num_any _ _).mono ?_; rintro e z ⟨rfl, rfl⟩) | (go_at_call 24; have _t := tk; go_must (refine (check_any F Aw n cw _ (by omega) (HS1.out _ HR.out.up).2.1.rb).mono ?_); rw [← XC.out]; rintro e q7 ⟨rfl, hb⟩; replace HR := Lib.hid (HR.out.later hb); clear hb tk))
                  have tk : True := trivial
                  go_wp2_with (first | (go_at_call 14; refine (num_any _ _).mono ?_; rintro e z ⟨rfl, rfl⟩) | (go_at_call 28; have _t := tk; go_must (refine (rcheck_any F Af n cf _ (by omega) (HR.out.sl (i := 0) rfl HFN.out.1).rb).mono ?_); rw [← XC.out]; rintro e q8 ⟨rfl, hb⟩; replace HR := Lib.hid (HR.out.later hb); clear hb tk))
                  have tk : True := trivial
                  go_wp2_with (first | (go_at_call 17; have _t := tk; go_must (refine (ones_any F Aw n cw _ (by omega) (by omega) (HS1.out _ HR.out.up).2.1.rb).mono ?_); rw [← XO.out]; rintro e q9 ⟨rfl, hb⟩; replace HR := Lib.hid (HR.out.later hb); clear hb tk))
                  have tk : True := trivial
                  go_wp2_with (first | (go_at_call 29; have _t := tk; go_must (refine (rones_any F Af n cf _ (by omega) (HR.out.sl (i := 0) rfl HFN.out.1).rb).mono ?_); rw [← XO.out]; rintro e q10 ⟨rfl, hb⟩; replace HR := Lib.hid (HR.out.later hb); clear hb tk))
                  have HR2 : Hid (OW wk [bytO 5 (Af, cf, F), bytO 5 (Ag, cg, GG)] q10) := Lib.hid (OW.left (os := [_, _]) (ps := [_, _]) HR.out)
                  clear HR
                  go_loopw [5, 25] (fun o k wr => ∃ jj : Nat, jj ≤ 2 ∧ o = .bool true ∧ k = .int .i64 jj ∧ Hid (OW wk [bytO 5 (Af, cf, F), bytO 5 (Ag, cg, GG)] wr)) (fun _ k _ => 2 - (intOf k).toNat)
                  case atStart => exact ⟨0, by omega, rfl, rfl, HR2⟩
                  case round =>
                    as_aux_lemma =>
                      clear HR2
                      obtain ⟨jj, hjj, rfl, rfl, HR⟩ := hrel
                      by_cases hj2 : jj < 2
                      case pos =>
                        as_aux_lemma =>
                          have hd2 : decide ((jj : Int) < 2) = true := decide_eq_true (by omega)
                          go_upto_if 179 with fail
                          go_cut [26, 27] (fun h hn wx => wr = wx ∧ ∃ (P : List UInt8) (A7 : Option Addr) (n7 c7 : Nat) (A8 : Option Addr) (c8 : Nat), h = .slice A7 n7 c7 ∧ hn = .slice A8 n7 c8 ∧ Hid ((∀ y, Below wr.heap.size wr y → Sl y A7 n7 c7 P) ∧ ∀ y, Below wr.heap.size wr y → Sl y A8 n7 c8 P))
                          case first =>
                            have HA1 : Hid ((∀ y, Below wr.heap.size wr y → Sl y Ax m cx GG) ∧ ∀ y, Below wr.heap.size wr y → Sl y Ag m cg GG) := Lib.hid ⟨fun y h => (HS1.out y (HR.out.up.trans (h.mono HR.out.up.size))).2.2.2, fun y h => (HR.out.later h).sl (i := 1) rfl HFN.out.2⟩
                            have HA2 : Hid ((∀ y, Below wr.heap.size wr y → Sl y Aw n cw F) ∧ ∀ y, Below wr.heap.size wr y → Sl y Af n cf F) := Lib.hid ⟨fun y h => (HS1.out y (HR.out.up.trans (h.mono HR.out.up.size))).2.1, fun y h => (HR.out.later h).sl (i := 0) rfl HFN.out.1⟩
                            go_wp2_with fail
                            all_goals go_meet
                            all_goals first | exact ⟨rfl, GG, Ax, m, cx, Ag, cg, rfl, rfl, HA1⟩ | exact ⟨rfl, F, Aw, n, cw, Af, cf, rfl, rfl, HA2⟩
                          obtain ⟨rfl, P, A7, n7, c7, A8, c8, rfl, rfl, HP⟩ := hcut
                          obtain ⟨U, hU⟩ : ∃ b, b = ures F P := ⟨_, rfl⟩
                          obtain ⟨LU, hLU⟩ : ∃ l, l = U.length := ⟨_, rfl⟩
                          obtain ⟨ue, hue⟩ : ∃ z : Int, z = unionE F P := ⟨_, rfl⟩
                          have XU := Lib.hid hU
                          have XUE := Lib.hid hue
                          have XLU : Hid (U.length = LU) := Lib.hid hLU.symm
                          have hlu : LU ≤ 1048576 := by rw [hLU, hU]; have := ures_len F P; have := HFN.out.1; omega
                          have hn7 : n7 ≤ 9223372036854775807 := (HP.out.1 _ (Below.refl _ _)).le
                          have HQ := Lib.hid (OW.nil wr)
                          clear hU hLU hue
                          have tk : True := trivial
                          go_wp2_with (first | (go_at_call 18; have _t := tk; go_must (refine (union_any F P Aw A7 n cw n7 c7 _ (by omega) (HS1.out _ (HR.out.up.trans (HQ.out.up.mono HR.out.up.size))).2.1.rb hn7 (HP.out.1 _ HQ.out.up).rb).mono ?_); rintro e q11 hp; have hp := union_post hp; rw [← XU.out, ← XUE.out] at hp; obtain ⟨A5, c5, rfl, _, ho, hb⟩ := hp.at_ XLU.out rfl; replace HQ := Lib.hid (HQ.out.app (OW.byt1 hb ho)); clear hp ho hb tk))
                          have tk : True := trivial
                          go_wp2_with (first | (go_at_call 30; have _t := tk; go_must (refine (runion_any F P Af A8 n cf n7 c8 _ (by omega) ((HR.out.later HQ.out.up).sl (i := 0) rfl HFN.out.1).rb hn7 (HP.out.2 _ HQ.out.up).rb).mono ?_); rintro e q12 hp; rw [← XU.out, ← XUE.out] at hp; obtain ⟨A6, c6, rfl, _, ho, hb⟩ := hp.at_ XLU.out rfl; replace HQ := Lib.hid (HQ.out.app (OW.byt1 hb ho)); clear hp ho hb tk))
                          have tk : True := trivial
                          go_wp2_with (first | (go_at_call 14; refine (num_any _ _).mono ?_; rintro e z ⟨rfl, rfl⟩) | (go_at_call 15; have _t := tk; go_must (refine (alike_any U U A5 A6 LU c5 LU c6 _ (HQ.out.sl (i := 0) rfl XLU.out).rb (HQ.out.sl (i := 1) rfl XLU.out).rb).mono ?_); rw [XS.out]; rintro e z ⟨rfl, rfl⟩; clear tk))
                          go_roundw
                          case rel => exact ⟨jj + 1, by omega, rfl, by go_num, Lib.hid (HR.out.later HQ.out.up)⟩
                          case measure => simp [intOf]; omega
                      have hd2 : decide ((jj : Int) < 2) = false := decide_eq_false (by omega)
                      have tk : True := trivial
                      go_wp2_with (first | (go_at_call 31; have _t := tk; go_must (refine (kept_any F RF Aw Af n cw cf _ XRF.out (HS1.out _ HR.out.up).1 (HR.out.sl (i := 0) rfl HFN.out.1) (by omega)).mono ?_); rintro e q13 ⟨rfl, hb⟩; replace HR := Lib.hid (HR.out.later hb); clear hb tk))
                      have tk : True := trivial
                      go_wp2_with (first | (go_at_call 31; have _t := tk; go_must (refine (kept_any GG RG Ax Ag m cx cg _ XRG.out (HS1.out _ HR.out.up).2.2.1 (HR.out.sl (i := 1) rfl HFN.out.2) (by omega)).mono ?_); rintro e q14 ⟨rfl, hb⟩; replace HR := Lib.hid (HR.out.later hb); clear hb tk))
                      obtain ⟨wu, rfl⟩ : ∃ z : World, z = wr := ⟨_, rfl⟩
                      go_loopw [5, 28] (fun o k wr => ∃ i9 : Nat, i9 ≤ kn ∧ o = .bool true ∧ k = .int .i64 i9 ∧ Hid (OW wk [bytO 5 (Af, cf, F), bytO 5 (Ag, cg, GG)] wr)) (fun _ k _ => kn - (intOf k).toNat)
                      case atStart => exact ⟨0, by omega, rfl, rfl, HR⟩
                      case round =>
                        as_aux_lemma =>
                          clear HR
                          obtain ⟨i9, hi9, rfl, rfl, HR⟩ := hrel
                          by_cases hik : i9 < kn
                          case pos =>
                            as_aux_lemma =>
                              have hdi : decide ((i9 : Int) < (kn : Int)) = true := decide_eq_true (by omega)
                              obtain ⟨b1, o1, b2, o2, a, c1, q, rfl, rfl, hq, hzq, hc1, hc2, hs5, hs1⟩ := (HTF.out wo zy qs wr HS5.out HQL.out HWO.out.size (HBo.out _ HR.out.up)).key i9 hik
                              obtain ⟨bk, a2, d2, q', rfl, hq', hck, hsk⟩ := HKC.out wr HR.out.up i9 (by have := HJ.out; omega)
                              rw [hq] at hq'
                              injection hq' with hq'
                              subst hq'
                              obtain ⟨ql, hql⟩ : ∃ l, l = q.length := ⟨_, rfl⟩
                              obtain ⟨RQ, hRQ⟩ : ∃ R, R = q ++ mkB := ⟨_, rfl⟩
                              have hqb : Hid (ql ≤ 140737488355000) := Lib.hid (by rw [hql]; exact Nat.le_trans (HLEN.out _ _ _ HS5.out _ _ hq) (by decide))
                              rw [← hql] at hc2 hs5 hck hsk
                              rw [← hRQ] at hs5
                              have XRQ := Lib.hid hRQ
                              have HC1 : Hid (∀ y, Below wr.heap.size wr y → y.cell? ⟨b2, o2 + i9, none⟩ = some (.slice a (ql + 5) c1) ∧ y.cell? ⟨bk, i9, none⟩ = some (.slice a2 ql d2) ∧ Sl y a (ql + 5) c1 RQ ∧ Sl y a2 ql d2 q) := Lib.hid fun y h => ⟨cell_below h hc2, cell_below h hck, hs5.later h, hsk.later h⟩
                              have i1 : (0 : Int) ≤ (i9 : Int) := by omega
                              have i2 : (i9 : Int) < (kn : Int) := by omega
                              have i3 : (i9 : Int) < (j : Int) := by have := HJ.out; omega
                              clear hq hzq hc1 hc2 hs5 hs1 hck hsk hql hRQ
                              go_wp2_with fail
                              refine lt_start [] (by kernel_rfl) ?_
                              intro xd hd0
                              refine ⟨fun z => Below wr.heap.size wr z, ?_⟩
                              have HS := Lib.hid (hd0)
                              refine lt_pure 0 rfl (by kernel_rfl) (by kernel_rfl) (by kernel_rfl) (by kernel_rfl) (fun _ _ _ h => h) (v := ?_) (yi_run rfl (fun w => ?_)) (fun _ => HS.out) ?_
                              rotate_left
                              · first | (go_simp; done) | (go_simp; with_reducible rfl)
                              simp only [Act.put, List.setIfInBounds_toArray, List.set_cons_zero, List.set_cons_succ]
                              refine lt_pure 1 rfl (by kernel_rfl) (by kernel_rfl) (by kernel_rfl) (by kernel_rfl) (fun _ _ _ h => h) (v := ?_) (yi_run rfl (fun w => ?_)) (fun _ => HS.out) ?_
                              rotate_left
                              · first | (go_simp; done) | (go_simp; with_reducible rfl)
                              simp only [Act.put, List.setIfInBounds_toArray, List.set_cons_zero, List.set_cons_succ]
                              refine lt_pure 2 rfl (by kernel_rfl) (by kernel_rfl) (by kernel_rfl) (by kernel_rfl) (fun _ _ _ h => h) (v := ?_) (yi_run rfl (fun w => ?_)) (fun _ => HS.out) ?_
                              rotate_left
                              · first | (go_simp; done) | (go_simp; with_reducible rfl)
                              simp only [Act.put, List.setIfInBounds_toArray, List.set_cons_zero, List.set_cons_succ]
                              refine lt_pure 3 rfl (by kernel_rfl) (by kernel_rfl) (by kernel_rfl) (by kernel_rfl) (fun _ _ _ h => h) (v := ?_) (yi_run rfl (fun w => ?_)) (fun _ => HS.out) ?_
                              rotate_left
                              · first | (go_simp; done) | (go_simp; with_reducible rfl)
                              simp only [Act.put, List.setIfInBounds_toArray, List.set_cons_zero, List.set_cons_succ]
                              refine lt_pure 4 rfl (by kernel_rfl) (by kernel_rfl) (by kernel_rfl) (by kernel_rfl) (fun _ _ _ h => h) (v := ?_) (yi_run rfl (fun w => ?_)) (fun _ => HS.out) ?_
                              rotate_left
                              · first | (go_simp; done) | (go_simp; with_reducible rfl)
                              simp only [Act.put, List.setIfInBounds_toArray, List.set_cons_zero, List.set_cons_succ]
                              refine lt_take 5 [10, 11, 12] rfl (by kernel_rfl) (by kernel_rfl) (by kernel_rfl) (by kernel_rfl) (by kernel_rfl) (fun _ _ _ h => h) (yi_cell rfl rfl rfl (fun w hS => (HC1.out w hS).1) (fun w => Try.isAgg24 w)) HS.out ?_
                              simp only [Act.put, List.setIfInBounds_toArray, List.set_cons_zero, List.set_cons_succ]
                              refine lt_pure 6 rfl (by kernel_rfl) (by kernel_rfl) (by kernel_rfl) (by kernel_rfl) (fun _ _ _ h => h) (v := ?_) (yi_run rfl (fun w => ?_)) (fun _ => HS.out) ?_
                              rotate_left
                              · first | (go_simp; done) | (go_simp; with_reducible rfl)
                              simp only [Act.put, List.setIfInBounds_toArray, List.set_cons_zero, List.set_cons_succ]
                              refine lt_pure 7 rfl (by kernel_rfl) (by kernel_rfl) (by kernel_rfl) (by kernel_rfl) (fun _ _ _ h => h) (v := ?_) (yi_run rfl (fun w => ?_)) (fun _ => HS.out) ?_
                              rotate_left
                              · first | (go_simp; done) | (go_simp; with_reducible rfl)
                              simp only [Act.put, List.setIfInBounds_toArray, List.set_cons_zero, List.set_cons_succ]
                              refine lt_pure 8 rfl (by kernel_rfl) (by kernel_rfl) (by kernel_rfl) (by kernel_rfl) (fun _ _ _ h => h) (v := ?_) (yi_run rfl (fun w => ?_)) (fun _ => HS.out) ?_
                              rotate_left
                              · first | (go_simp; done) | (go_simp; with_reducible rfl)
                              simp only [Act.put, List.setIfInBounds_toArray, List.set_cons_zero, List.set_cons_succ]
                              refine lt_take 9 [10, 11, 12] rfl (by kernel_rfl) (by kernel_rfl) (by kernel_rfl) (by kernel_rfl) (by kernel_rfl) (fun _ _ _ h => h) (yi_cell rfl rfl rfl (fun w hS => (HC1.out w hS).2.1) (fun w => Try.isAgg24 w)) HS.out ?_
                              simp only [Act.put, List.setIfInBounds_toArray, List.set_cons_zero, List.set_cons_succ]
                              refine lt_call 10 rfl (by kernel_rfl) rfl rfl ⟨_, Try.func31, by decide, by kernel_rfl⟩ [.slice a (ql + 5) c1, .slice a2 ql d2] rfl ?_
                              refine (kept_any q RQ a a2 ql c1 d2 _ XRQ.out (HC1.out _ HS.out).2.2.1 (HC1.out _ HS.out).2.2.2 hqb.out).mono ?_
                              rintro e z9 ⟨rfl, hb⟩
                              replace HS := Lib.hid (HS.out.trans (hb.mono HS.out.size))
                              clear hb
                              refine ⟨_, rfl, fun _ => HS.out, ?_⟩
                              simp only [Act.put, List.setIfInBounds_toArray, List.set_cons_zero, List.set_cons_succ]
                              refine lt_pure 11 rfl (by kernel_rfl) (by kernel_rfl) (by kernel_rfl) (by kernel_rfl) (fun _ _ _ h => h) (v := ?_) (yi_run rfl (fun w => ?_)) (fun _ => HS.out) ?_
                              rotate_left
                              · first | (go_simp; done) | (go_simp; with_reducible rfl)
                              simp only [Act.put, List.setIfInBounds_toArray, List.set_cons_zero, List.set_cons_succ]
                              refine lt_pure 12 rfl (by kernel_rfl) (by kernel_rfl) (by kernel_rfl) (by kernel_rfl) (fun _ _ _ h => h) (v := ?_) (yi_run rfl (fun w => ?_)) (fun _ => HS.out) ?_
                              rotate_left
                              · first | (go_simp; done) | (go_simp; with_reducible rfl)
                              simp only [Act.put, List.setIfInBounds_toArray, List.set_cons_zero, List.set_cons_succ]
                              refine lt_done (by kernel_rfl) ?_
                              have HS9 := HS
                              clear HS
                              replace HR := Lib.hid (HR.out.later HS9.out)
                              clear HS9
                              go_wp2_with fail
                              go_roundw
                              case rel => exact ⟨i9 + 1, by omega, rfl, by go_num, HR⟩
                              case measure => simp [intOf]; omega
                          have hdi : decide ((i9 : Int) < (kn : Int)) = false := decide_eq_false (by omega)
                          by_cases hte : t = tn
                          case pos =>
                            have hdte : ((t : Int) == (tn : Int)) = true := by subst hte; simp
                            have tk : True := trivial
                            go_wp2_with (go_at_call 12; have _t := tk; go_must (refine (started_any _).mono ?_); rintro e w9 ⟨rfl, hb⟩; have HB9 := Lib.hid ((HBW.out _ HR.out.up).trans (hb.mono (HBW.out _ HR.out.up).size)); clear hb tk)
                            go_ret
                            exact ⟨rfl, HB9.out⟩
                          have hdte : ((t : Int) == (tn : Int)) = false := beq_eq_false_iff_ne.2 (by omega)
                          obtain ⟨tb, tf, T0, T1, T2, hTA, ⟨ta1, ta2⟩, ⟨tb1, tb2⟩, tc0, tc1, tc2⟩ := HTN.out wr (HBW.out _ HR.out.up) t (by omega)
                          have HT3 : Hid (∀ y, Below wr.heap.size wr y → y.rangeAt tb (tf + t * 3) [.int .i64 T0, .int .i64 T1, .int .i64 T2]) := Lib.hid fun y h j v hj => by
                            match j, hj with
                            | 0, hj => injection hj with hj; subst hj; exact cell_below h tc0
                            | 1, hj => injection hj with hj; subst hj; exact cell_below h tc1
                            | 2, hj => injection hj with hj; subst hj; exact cell_below h tc2
                          subst hTA
                          clear tc0 tc1 tc2 ta1 ta2 tb1 tb2
                          have i1 : (0 : Int) ≤ (t : Int) := by omega
                          have i2 : (t : Int) < (tn : Int) := by omega
                          have HQ := Lib.hid (OW.nil wr)
                          go_upto_if 246 with (first
                            | (refine wpList_load_rowO rfl 52 (.tmp 241) rfl rfl (HT3.out _ HQ.out.up) turn_row ?_)
                            | (refine wl_alloc rfl rfl [.int .i64 0, .int .i64 0, .int .i64 0] (.inl turn_zero) HQ.out ?_; intro g3 x1 hz _; replace HQ := Lib.hid hz; clear hz)
                            | (refine wl_put rfl (.tmp 29) (.tmp 242) rfl HQ.out 0 rfl rfl [.int .i64 T0, .int .i64 T1, .int .i64 T2] rfl rfl turn_size turn_one ?_; intro x2 hz _; replace HQ := Lib.hid hz; clear hz)
                            | (refine wpList_load_cell rfl 3 (.tmp 244) rfl rfl (HQ.out.cell (i := 0) (j := 0) rfl rfl) (fun w => Try.isAgg3 w) ?_))
                          clear i1 i2 HT3
                          go_cut [30] (fun l wx => ∃ (r : Nat) (q : List UInt8) (a : Option Addr) (c : Nat), qs[r]? = some q ∧ zy[r]? = some (a, c, q ++ mkB) ∧ l = .slice a q.length c ∧ Hid (OW wr [boxO g3 [.int .i64 T0, .int .i64 T1, .int .i64 T2]] wx))
                          case first =>
                            as_aux_lemma =>
                              by_cases h1 : T0 = 1
                              case pos =>
                                have hd1 : (T0 == 1) = true := by subst h1; rfl
                                go_wp2_with fail
                                go_meet
                                exact ⟨kn, F, Aw, cw, HQF.out.1, HZF.out.1, by rw [HFN.out.1], HQ⟩
                              have hd1 : (T0 == 1) = false := beq_eq_false_iff_ne.2 h1
                              go_wp2_with fail
                              go_meet
                              exact ⟨kn + 1, GG, Ax, cx, HQF.out.2, HZF.out.2, by rw [HFN.out.2], HQ⟩
                          clear HQ
                          obtain ⟨r0, q0, a0, c0, hq, hzq, rfl, HQ⟩ := hcut
                          obtain ⟨wd, rfl⟩ : ∃ z : World, z = wc := ⟨_, rfl⟩
                          have HQ0 := Lib.hid hq
                          have HZ0 := Lib.hid hzq
                          clear hq hzq
                          obtain ⟨bb, hbb⟩ : ∃ b : Bool, b = decide (T0 = 0 ∧ 0 < kn) := ⟨_, rfl⟩
                          have HBB := Lib.hid hbb
                          clear hbb
                          go_upto_region 50 with fail
                          go_cut [255] (fun bv wx => wd = wx ∧ bv = .bool bb)
                          case first =>
                            as_aux_lemma =>
                              by_cases h0 : T0 = 0
                              case pos =>
                                as_aux_lemma =>
                                  have hd0 : (T0 == 0) = true := by subst h0; rfl
                                  by_cases hk0 : 0 < kn
                                  case pos =>
                                    have hdk : decide ((kn : Int) > 0) = true := decide_eq_true (by omega)
                                    go_wp2_with (refine wpList_load_cell rfl 3 (.tmp 248) rfl rfl (HQ.out.cell (i := 0) (j := 0) rfl rfl) (fun w => Try.isAgg3 w) ?_)
                                    go_meet
                                    exact ⟨rfl, by rw [HBB.out, decide_eq_true (And.intro h0 hk0)]⟩
                                  have hdk : decide ((kn : Int) > 0) = false := decide_eq_false (by omega)
                                  go_wp2_with (refine wpList_load_cell rfl 3 (.tmp 248) rfl rfl (HQ.out.cell (i := 0) (j := 0) rfl rfl) (fun w => Try.isAgg3 w) ?_)
                                  go_meet
                                  exact ⟨rfl, by rw [HBB.out, decide_eq_false (fun h => hk0 h.2)]⟩
                              have hd0 : (T0 == 0) = false := beq_eq_false_iff_ne.2 h0
                              go_wp2_with (refine wpList_load_cell rfl 3 (.tmp 248) rfl rfl (HQ.out.cell (i := 0) (j := 0) rfl rfl) (fun w => Try.isAgg3 w) ?_)
                              go_meet
                              exact ⟨rfl, by rw [HBB.out, decide_eq_false (fun h => h0 h.1)]⟩
                          obtain ⟨rfl, rfl⟩ := hcut
                          go_upto_if 255 with fail
                          go_cut [30] (fun l wx => ∃ (r : Nat) (q : List UInt8) (a : Option Addr) (c : Nat), qs[r]? = some q ∧ zy[r]? = some (a, c, q ++ mkB) ∧ l = .slice a q.length c ∧ Hid (OW wr [boxO g3 [.int .i64 T0, .int .i64 T1, .int .i64 T2]] wx))
                          case first =>
                            as_aux_lemma =>
                              by_cases hB : T0 = 0 ∧ 0 < kn
                              case pos =>
                                as_aux_lemma =>
                                  have hb1 : bb = true := by rw [HBB.out]; exact decide_eq_true hB
                                  clear HBB
                                  subst hb1
                                  have tk : True := trivial
                                  go_wp2_with (first
                                    | (refine wpList_load_cell rfl 3 (.tmp 257) rfl rfl (HQ.out.cell (i := 0) (j := 2) rfl rfl) (fun w => Try.isAgg3 w) ?_)
                                    | (go_at_call 32; have _t := tk; go_must (refine (spot_any T2 kn _ hB.2 (by omega)).mono ?_); rintro e z9 ⟨⟨r, hr, rfl⟩, rfl⟩; obtain ⟨b1, o1, b2, o2, a, c1, q, rfl, rfl, hq, hzq, hc1, _, _, _⟩ := (HTF.out wo zy qs _ HS5.out HQL.out HWO.out.size (HBo.out _ (HR.out.up.trans (HQ.out.up.mono HR.out.up.size)))).key r hr; have j1 : (0 : Int) ≤ (r : Int) := (by omega); have j2 : (r : Int) < (kn : Int) := (by omega); clear tk)
                                    | (refine wpList_load_cell rfl 24 (.tmp 262) rfl rfl hc1 (fun w => Try.isAgg24 w) ?_))
                                  go_meet
                                  exact ⟨r, q, a, c1, hq, hzq, rfl, HQ⟩
                              have hb1 : bb = false := by rw [HBB.out]; exact decide_eq_false hB
                              clear HBB
                              subst hb1
                              go_wp2_with fail
                              go_meet
                              exact ⟨r0, q0, a0, c0, HQ0.out, HZ0.out, rfl, HQ⟩
                          clear HQ
                          as_aux_lemma =>
                            obtain ⟨r, q, a, c, hq, hzq, rfl, HQ⟩ := hcut
                            have HBC : Hid (∀ y, Below wc.heap.size wc y → Below wo.heap.size wo y) := Lib.hid fun y h => HBo.out y (HR.out.up.trans ((HQ.out.later h).up.mono HR.out.up.size))
                            have HSX : Hid (∀ y, Below wc.heap.size wc y → StB 5 w1.heap.size w3 (.slice LA kn lc) (.slice WA kn wcp) zz y zy qs) := Lib.hid fun y h => HS5.out.later HWO.out.size (HBC.out y h)
                            have HQ1 := Lib.hid hq
                            have HZ1 := Lib.hid hzq
                            obtain ⟨ql, hql⟩ : ∃ l, l = q.length := ⟨_, rfl⟩
                            have hqb : ql ≤ 2000000 := by rw [hql]; exact HLEN.out _ _ _ HS5.out _ _ hq
                            rw [← hql]
                            have HQN := Lib.hid hql
                            clear hq hzq hql
                            by_cases hq0 : 0 < ql
                            case pos =>
                              as_aux_lemma =>
                                have hdq : decide ((ql : Int) > 0) = true := decide_eq_true (by omega)
                                obtain ⟨gk, rfl, _, _⟩ := (HSX.out _ (Below.refl _ _)).rows.form HZ1.out (by rw [List.length_append]; show 0 < q.length + 5; omega)
                                have HC3 : Hid (∀ y, Below wc.heap.size wc y → y.cell? ⟨g3, 1, none⟩ = some (.int .i64 T1) ∧ y.cell? ⟨g3, 2, none⟩ = some (.int .i64 T2)) := Lib.hid fun y h => ⟨(HQ.out.later h).cell (i := 0) (j := 1) rfl rfl, (HQ.out.later h).cell (i := 0) (j := 2) rfl rfl⟩
                                go_wp2_with fail
                                refine lt_start [10] (by kernel_rfl) ?_
                                intro xd hd0
                                refine ⟨fun z => Below wc.heap.size wc z, ?_⟩
                                have HS := Lib.hid (hd0)
                                refine lt_pure 0 rfl (by kernel_rfl) (by kernel_rfl) (by kernel_rfl) (by kernel_rfl) (fun _ _ _ h => h) (v := ?_) (yi_run rfl (fun w => ?_)) (fun _ => HS.out) ?_
                                rotate_left
                                · first | (go_simp; done) | (go_simp; with_reducible rfl)
                                simp only [Act.put, List.setIfInBounds_toArray, List.set_cons_zero, List.set_cons_succ]
                                refine lt_pure 1 rfl (by kernel_rfl) (by kernel_rfl) (by kernel_rfl) (by kernel_rfl) (fun _ _ _ h => h) (v := ?_) (yi_run rfl (fun w => ?_)) (fun _ => HS.out) ?_
                                rotate_left
                                · first | (go_simp; done) | (go_simp; with_reducible rfl)
                                simp only [Act.put, List.setIfInBounds_toArray, List.set_cons_zero, List.set_cons_succ]
                                refine lt_take 2 [5, 9, 10] rfl (by kernel_rfl) (by kernel_rfl) (by kernel_rfl) (by kernel_rfl) (by kernel_rfl) (fun _ _ _ h => h) (yi_cell rfl rfl rfl (fun w hS => (HC3.out w hS).1) (fun w => Try.isAgg3 w)) HS.out ?_
                                simp only [Act.put, List.setIfInBounds_toArray, List.set_cons_zero, List.set_cons_succ]
                                refine lt_pure 3 rfl (by kernel_rfl) (by kernel_rfl) (by kernel_rfl) (by kernel_rfl) (fun _ _ _ h => h) (v := ?_) (yi_run rfl (fun w => ?_)) (fun _ => HS.out) ?_
                                rotate_left
                                · first | (go_simp; done) | (go_simp; with_reducible rfl)
                                simp only [Act.put, List.setIfInBounds_toArray, List.set_cons_zero, List.set_cons_succ]
                                refine lt_pure 4 rfl (by kernel_rfl) (by kernel_rfl) (by kernel_rfl) (by kernel_rfl) (fun _ _ _ h => h) (v := ?_) (yi_run rfl (fun w => ?_)) (fun _ => HS.out) ?_
                                rotate_left
                                · first | (go_simp; done) | (go_simp; with_reducible rfl)
                                simp only [Act.put, List.setIfInBounds_toArray, List.set_cons_zero, List.set_cons_succ]
                                refine lt_pure 6 rfl (by kernel_rfl) (by kernel_rfl) (by kernel_rfl) (by kernel_rfl) (fun _ _ _ h => h) (v := ?_) (yi_run rfl (fun w => ?_)) (fun _ => HS.out) ?_
                                rotate_left
                                · first | (go_simp; done) | (go_simp; with_reducible rfl)
                                simp only [Act.put, List.setIfInBounds_toArray, List.set_cons_zero, List.set_cons_succ]
                                refine lt_take 7 [8, 9, 10] rfl (by kernel_rfl) (by kernel_rfl) (by kernel_rfl) (by kernel_rfl) (by kernel_rfl) (fun _ _ _ h => h) (yi_cell rfl rfl rfl (fun w hS => (HC3.out w hS).2) (fun w => Try.isAgg3 w)) HS.out ?_
                                simp only [Act.put, List.setIfInBounds_toArray, List.set_cons_zero, List.set_cons_succ]
                                refine lt_pure 8 rfl (by kernel_rfl) (by kernel_rfl) (by kernel_rfl) (by kernel_rfl) (fun _ _ _ h => h) (v := ?_) (yi_run rfl (fun w => ?_)) (fun _ => HS.out) ?_
                                rotate_left
                                · first | (go_simp; done) | (go_simp; with_reducible rfl)
                                simp only [Act.put, List.setIfInBounds_toArray, List.set_cons_zero, List.set_cons_succ]
                                refine lt_call 5 rfl (by kernel_rfl) rfl rfl ⟨_, Try.func32, by decide, by kernel_rfl⟩ [.int .i64 T1, .int .i64 ql] rfl ?_
                                refine (spot_any T1 ql _ hq0 (by omega)).mono ?_
                                rintro e z9 ⟨⟨kk, hkk, rfl⟩, rfl⟩
                                have j1 : (0 : Int) ≤ (kk : Int) := by omega
                                have j2 : (kk : Int) < (ql : Int) := by omega
                                refine ⟨_, rfl, fun _ => HS.out, ?_⟩
                                simp only [Act.put, List.setIfInBounds_toArray, List.set_cons_zero, List.set_cons_succ]
                                refine lt_pure 9 rfl (by kernel_rfl) (by kernel_rfl) (by kernel_rfl) (by kernel_rfl) (fun _ _ _ h => h) (v := ?_) (yi_run rfl (fun w => ?_)) (fun _ => HS.out) ?_
                                rotate_left
                                · first | (go_simp; done) | (go_simp; with_reducible rfl)
                                simp only [Act.put, List.setIfInBounds_toArray, List.set_cons_zero, List.set_cons_succ]
                                refine lt_end 10 rfl (by kernel_rfl) rfl (by kernel_rfl) ?_
                                have hst := HSX.out _ HS.out
                                obtain ⟨uw, huw⟩ := wrap_u8 T2
                                obtain ⟨u0, hu0⟩ : ∃ u, (q ++ mkB)[kk]? = some u := ⟨_, List.getElem?_eq_getElem (by rw [List.length_append]; show kk < q.length + 5; have := HQN.out; omega)⟩
                                refine wpo_cell rfl rfl (hst.rows.cell HZ1.out hu0).1 (hst.rows.cell HZ1.out hu0).2 (u8v uw) (by first | (show Value.int .u8 _ = _; unfold u8v; rw [← huw]; done) | (show Value.int .u8 _ = _; unfold u8v; rw [← huw]; rfl)) (by kernel_rfl) rfl ?_
                                have HS6 := Lib.hid (hst.store HOFF.out.1 HOFF.out.2 HZ1.out HQ1.out (k := kk) (by rw [← HQN.out]; exact hkk) uw)
                                clear hst huw hu0
                                simp only [Act.put]
                                refine lt_done (by kernel_rfl) ?_
                                clear HS
                                go_wp2_with fail
                                go_roundw
                                case rel => exact ⟨t + 1, _, _, by omega, by omega, rfl, by go_num, HS6, Lib.hid (by rw [List.length_set]; exact HQL.out)⟩
                                case measure => simp [intOf]; omega
                            have hdq : decide ((ql : Int) > 0) = false := decide_eq_false (by omega)
                            go_wp2_with fail
                            go_roundw
                            case rel => exact ⟨t + 1, zy, qs, by omega, by omega, rfl, by go_num, Lib.hid (HSX.out _ (Below.refl _ _)), HQL⟩
                            case measure => simp [intOf]; omega
      obtain ⟨b, o, p, a, cp, rfl, hp, hcc⟩ := HKC.out k hlt
      have hpl := HKB.out k p hp
      obtain ⟨q, hq⟩ : ∃ q, q = p.length := ⟨_, rfl⟩
      obtain ⟨RP, hRP⟩ : ∃ R, R = p ++ mkB := ⟨_, rfl⟩
      have XRP := Lib.hid hRP
      have XQ := Lib.hid hq
      have XPL : Hid (RP.length = q + 5) := Lib.hid (by rw [hRP, List.length_append, hq]; rfl)
      rw [← hq] at hcc hpl
      have HCC := Lib.hid hcc
      have HKP := Lib.hid hp
      have hcp := (HCC.out wr HBW.out).1
      have tok1 : True := trivial
      clear hq hRP hcc hp
      go_wp2_with (first
        | (go_at_call 25; go_must (refine (wide_any p a q cp _ (by omega) (HCC.out wr HBW.out).2.rb).mono ?_); rintro e w2 hz; rw [← XRP.out] at hz; obtain ⟨A2, c2, rfl, hS2, hO2, hb2⟩ := hz.at_ XPL.out; have HW2 := Lib.hid (HW.out.trans (hb2.mono HW.out.size)); have HL2 := Lib.hid (HLN.out.fresh hb2 hO2); have HBW2 := Lib.hid (HBW.out.trans (hb2.mono HBW.out.size)); have hcp2 := (HCC.out w2 HBW2.out).1; have hc2 := hS2.cap; obtain ⟨y0, y1, y2, y3, y4⟩ := HX1.out w2 HW2.out; clear hz hS2 hO2 hb2 hcp x0 x1 x2 x3 x4)
        | (at_builtin; have _t := tok1; go_must (refine wpList_append_reads _ rfl (.tmp 45) (.tmp 47) rfl Try.keyss w1.heap.size v k (zs.map valR) rfl (HL2.out.ow.alloc _) (w2.heap.size + 1) (some ⟨w2.heap.size, 0, none⟩) 1 1 [.slice A2 (q + 5) c2] rfl (lit_one8 _ _ _ _ rfl) (by simp [Value.oneCell']) (by unfold maxLen; omega) (by omega) (by have := HW2.out.size; simp; omega) ?_); intro v3 w3 hown3 hg3 hat3; clear tok1; have HW3 := Lib.hid ((HW2.out.alloc HW2.out.size (.cells #[.slice A2 (q + 5) c2] 24)).grown hg3 (by have := HW2.out.size; simp; omega) (fun g hg => (World.ownsRow.lt HL2.out.ow g hg).1)); have HL3 := Lib.hid (HL2.out.appW hown3 hg3 hat3); have HBW3 := Lib.hid (HB1.out.trans (HW3.out.mono HB1.out.size)); have hcp3 := (HCC.out w3 HBW3.out).1; obtain ⟨z0, z1, z2, z3, z4⟩ := HX1.out w3 HW3.out; clear hown3 hg3 hat3 hcp2 y0 y1 y2 y3 y4)
        | (at_builtin; go_must (refine wpList_append_reads _ rfl (.tmp 49) (.tmp 58) rfl Try.keyss w1.heap.size u k (zs.map cutR) rfl (HL3.out.ol.alloc _) (w3.heap.size + 1) (some ⟨w3.heap.size, 0, none⟩) 1 1 [.slice A2 q c2] rfl (lit_one8 _ _ _ _ rfl) (by simp [Value.oneCell']) (by unfold maxLen; omega) (by omega) (by have := HW3.out.size; simp; omega) ?_); intro u4 w4 hown4 hg4 hat4; have HW4 := Lib.hid ((HW3.out.alloc HW3.out.size (.cells #[.slice A2 q c2] 24)).grown hg4 (by have := HW3.out.size; simp; omega) (fun g hg => (World.ownsRow.lt HL3.out.ol g hg).1)); have HL4 := Lib.hid (HL3.out.appL hown4 hg4 hat4); clear hown4 hg4 hat4))
      have HEND : Hid (LnS 5 24 w1.heap.size w4 u4 v3 (k + 1) (k + 1) ((zs ++ [(A2, c2, RP)]).map cutR) ((zs ++ [(A2, c2, RP)]).map valR) (zs ++ [(A2, c2, RP)])) := Lib.hid (by
        have h := HL4.out
        rw [List.map_append, List.map_append]
        have e1 : [(A2, c2, RP)].map cutR = [.slice A2 q c2] := by simp only [List.map_cons, List.map_nil, cutR]; rw [XPL.out, Nat.add_sub_cancel]
        have e2 : [(A2, c2, RP)].map valR = [.slice A2 (q + 5) c2] := by simp only [List.map_cons, List.map_nil, valR]; rw [XPL.out]
        rw [e1, e2]
        exact h)
      go_roundw
      case rel => exact ⟨k + 1, _, by omega, by go_num, Lib.hid (by rw [List.length_append, HZL.out]; rfl), HEND, Lib.hid (by rw [List.map_append, HCT.out, take_snoc HKP.out, List.map_append, XRP.out]; rfl), HW4⟩
      case measure => simp [intOf]; omega

end Go.Proofs.Ythjjihipodhkiaa
