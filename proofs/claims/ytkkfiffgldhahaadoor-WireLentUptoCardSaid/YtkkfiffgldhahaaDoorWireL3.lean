/-
  The statements' wants, walked; the book between two askings.
-/
import Derived.Test.YtkkfiffgldhahaaDoorWireL2
import Derived.Test.YtkkfiffgldhahaaDoorWireO5
import Derived.Test.YtkkfiffgldhahaaDoorWireR6
namespace Go.Proofs.YtkkfiffgldhahaaDoor
open Go.RowKit

theorem ap_lit {T e : TypeId} {B : Nat} {w : World} {rs : RowL} {C : Array Value} (hR : RowsB T B w rs) (hC : C.toList = rs.map valR) (hle : B ≤ w.heap.size) (hn : rs.length ≤ maxLen) :
    ApSt T e B (w.alloc (.cells C e)) (.slice (some ⟨w.heap.size, 0, none⟩) rs.length rs.length) (.slice none 0 0) rs [] [] := by
  have hsz : C.size = rs.length * 1 := by
    have := congrArg List.length hC
    rw [Array.length_toList, List.length_map] at this
    omega
  have hol := own_lit w C e B rs.length 1 hle hn hsz
  rw [hC] at hol
  have hb : Below w.heap.size w (w.alloc (.cells C e)) := (Below.refl _ _).alloc (Nat.le_refl _) _
  refine ⟨by rw [List.append_nil, List.append_nil]; exact hR.later hb, hol, own_nil _ _ _ _, ?_, fun g hg => (by cases hg), fun g hg hu => (by cases hu), Nat.le_trans hle hb.size⟩
  rw [List.append_nil, List.append_nil]
  intro g hg i r a hr ha e'
  injection hg with hg
  have h1 := ((hR.1 i r hr).lt ha).2
  have h2 : w.heap.size = g := hg
  omega

set_option maxRecDepth 100000 in
set_option maxHeartbeats 4000000 in
theorem wants_any (v : Nat) (l all : List UInt8) (A D : Option Addr) (n c m d : Nat) (a : Int) (w : World) (hv : v < 18446744073709551616) (hs : Sl w A n c l) (hn : n ≤ 1048576) (hd : Sl w D m d all) (hm : m ≤ 1048576) :
    Calls Tryd.prog 40 #[.int .u64 v, .slice A n c, .slice D m d, .int .i64 a] w fun e w' => ∃ A' c' rs, e = .returned (.slice A' 9 c') ∧ LR 5 22 w.heap.size w' A' 9 c' rs (ansB v l all a) ∧ Below w.heap.size w w' := by
  have HA : Hid (∀ w', Below w.heap.size w w' → Sl w' A n c l) := Lib.hid fun w' h => hs.later h
  have HD : Hid (∀ w', Below w.heap.size w w' → Sl w' D m d all) := Lib.hid fun w' h => hd.later h
  have HML := Lib.hid hd.len
  have HL := Lib.hid hs.len
  obtain ⟨N, hN⟩ : ∃ N, N = v / 2 := ⟨_, rfl⟩
  have hNb : N < 9223372036854775808 := by omega
  have HV := Lib.hid hv
  have HNb := Lib.hid hNb
  have hsh : (v : Int) / 2 = (N : Int) := by omega
  have hsw : IntKind.i64.wrap ((v : Int) / 2) = (N : Int) := by rw [hsh]; exact i64_sum (by omega) (by omega)
  have HNN := Lib.hid hN
  have HFR : Hid (frameR l = frameB l ∧ frameE l = 0) := Lib.hid (by unfold frameR frameE; rw [HL.out, if_pos hn, if_pos hn]; exact ⟨rfl, rfl⟩)
  obtain ⟨U, hU⟩ : ∃ U, U = uintB v := ⟨_, rfl⟩
  obtain ⟨P, hP⟩ : ∃ P, P = uintB l.length ++ l := ⟨_, rfl⟩
  obtain ⟨O, hO⟩ : ∃ O, O = ordB l := ⟨_, rfl⟩
  obtain ⟨F, hF⟩ : ∃ F, F = frameB l := ⟨_, rfl⟩
  obtain ⟨R1, hR1⟩ : ∃ R, R = (readBy all a all.length).1 := ⟨_, rfl⟩
  obtain ⟨R2, hR2⟩ : ∃ R, R = (readO all a).1 := ⟨_, rfl⟩
  obtain ⟨R3, hR3⟩ : ∃ R, R = (readFA all a).1 := ⟨_, rfl⟩
  obtain ⟨G1, hG1⟩ : ∃ R, R = risB N := ⟨_, rfl⟩
  obtain ⟨G2, hG2⟩ : ∃ R, R = risB (9223372036854775807 - N) := ⟨_, rfl⟩
  obtain ⟨LU, hLU⟩ : ∃ L, L = U.length := ⟨_, rfl⟩
  obtain ⟨LP, hLP⟩ : ∃ L, L = P.length := ⟨_, rfl⟩
  obtain ⟨LO, hLO⟩ : ∃ L, L = O.length := ⟨_, rfl⟩
  obtain ⟨LF, hLF⟩ : ∃ L, L = F.length := ⟨_, rfl⟩
  obtain ⟨L1, hL1⟩ : ∃ L, L = R1.length := ⟨_, rfl⟩
  obtain ⟨L2, hL2⟩ : ∃ L, L = R2.length := ⟨_, rfl⟩
  obtain ⟨L3, hL3⟩ : ∃ L, L = R3.length := ⟨_, rfl⟩
  have XG1 : Hid (G1.length = 8 ∧ risB N = G1) := Lib.hid ⟨by rw [hG1]; exact rTo_len8 _, hG1.symm⟩
  have XG2 : Hid (G2.length = 8 ∧ risB (9223372036854775807 - N) = G2) := Lib.hid ⟨by rw [hG2]; exact rTo_len8 _, hG2.symm⟩
  have X1 : Hid ((readBy all a (m : Int)).1 = R1) := Lib.hid (by rw [hR1, HML.out])
  have X2 := Lib.hid hR2
  have X3 := Lib.hid hR3
  have XU := Lib.hid hU
  have XP := Lib.hid hP
  have XO := Lib.hid hO
  have XF := Lib.hid hF
  have XLU := Lib.hid hLU
  have XLP := Lib.hid hLP
  have XLO := Lib.hid hLO
  have XLF := Lib.hid hLF
  have XL1 := Lib.hid hL1
  have XL2 := Lib.hid hL2
  have XL3 := Lib.hid hL3
  have HANS : Hid ([U, G1, G2, P, O] ++ [F] ++ [R1, R2, R3] = ansB v l all a) := Lib.hid (by
    rw [hU, hG1, hG2, hP, hO, hF, hR1, hR2, hR3, hN]; rfl)
  have tok1 : True := trivial
  have hdd : decide ((n : Int) ≤ 1048576) = true := decide_eq_true (by omega)
  clear hs hd hN hv hU hP hO hF hR1 hR2 hR3 hG1 hG2 hLU hLP hLO hLF hL1 hL2 hL3
  go_enter Tryd.func40, Tryd.ntmps40
  go_upto_region 5 with (first
    | (go_at_call 58; go_must (refine (rRising_any N _ HNb.out).mono ?_); rintro e w1 hp; rw [XG1.out.2] at hp; obtain ⟨A1, c1, rfl, _, hO1, hb1⟩ := BytesPost2.at_ (n := 8) (k' := 0) hp XG1.out.1 rfl; have HB1 := Lib.hid hb1; have hR := (RowsB.nil (T := 5) (base := w.heap.size) (w := w)).fresh hb1 hO1 (Nat.le_refl _); have Q1 := Lib.hid hR; clear hp hb1 hO1 hR)
    | (go_at_call 59; go_must (refine (rFalling_any N _ HNb.out).mono ?_); rintro e w2 hp; rw [XG2.out.2] at hp; obtain ⟨A2, c2, rfl, _, hO2, hb2⟩ := BytesPost2.at_ (n := 8) (k' := 0) hp XG2.out.1 rfl; have HB2 := Lib.hid (HB1.out.trans (hb2.mono HB1.out.size)); have hR := Q1.out.fresh hb2 hO2 HB1.out.size; have Q2 := Lib.hid hR; clear hp hb2 hO2 hR)
    | (go_at_call 60; go_must (refine (rUint_any v _ HV.out).mono ?_); rintro e w3 hp; rw [← XU.out] at hp; obtain ⟨A3, c3, rfl, _, hO3, hb3⟩ := hp.at_ XLU.out.symm; have HB3 := Lib.hid (HB2.out.trans (hb3.mono HB2.out.size)); have hR := Q2.out.fresh hb3 hO3 HB2.out.size; have Q3 := Lib.hid hR; clear hp hb3 hO3 hR)
    | (go_at_call 61; go_must (refine (rBytes_any l A n c _ (by omega) (HA.out _ HB3.out).rb).mono ?_); rintro e w4 hp; rw [← XP.out] at hp; obtain ⟨A4, c4, rfl, _, hO4, hb4⟩ := hp.at_ XLP.out.symm; have HB4 := Lib.hid (HB3.out.trans (hb4.mono HB3.out.size)); have hR := Q3.out.fresh hb4 hO4 HB3.out.size; have Q4 := Lib.hid hR; clear hp hb4 hO4 hR)
    | (go_at_call 62; go_must (refine (rOrdered_any l A n c _ (by omega) (HA.out _ HB4.out).rb).mono ?_); rintro e w5 hp; rw [← XO.out] at hp; obtain ⟨A5, c5, rfl, _, hO5, hb5⟩ := hp.at_ XLO.out.symm; have HB5 := Lib.hid (HB4.out.trans (hb5.mono HB4.out.size)); have hR := Q4.out.fresh hb5 hO5 HB4.out.size; have Q5 := Lib.hid hR; clear hp hb5 hO5 hR))
  have hq : RowsB 5 w.heap.size w5 [(A3, c3, U), (A1, c1, G1), (A2, c2, G2), (A4, c4, P), (A5, c5, O)] := Q5.out.pick (fun i => if i = 0 then 2 else if i = 1 then 0 else if i = 2 then 1 else i) (fun i j hi hj hij => by
      simp only [List.length_cons, List.length_nil] at hi hj
      split <;> split <;> (try split) <;> (try split) <;> (try split) <;> (try split) <;> omega) (fun i s hs => by
      have hi := (List.getElem?_eq_some_iff.1 hs).1
      simp only [List.length_cons, List.length_nil] at hi
      match i, hi with
      | 0, _ => exact hs
      | 1, _ => exact hs
      | 2, _ => exact hs
      | 3, _ => exact hs
      | 4, _ => exact hs)
  have S0 : Hid (ApSt 5 22 w.heap.size (w5.alloc (.cells #[.slice A3 LU c3, .slice A1 8 c1, .slice A2 8 c2, .slice A4 LP c4, .slice A5 LO c5] 22)) (.slice (some ⟨w5.heap.size, 0, none⟩) 5 5) (.slice none 0 0) [(A3, c3, U), (A1, c1, G1), (A2, c2, G2), (A4, c4, P), (A5, c5, O)] [] []) := Lib.hid (ap_lit (rs := [(A3, c3, U), (A1, c1, G1), (A2, c2, G2), (A4, c4, P), (A5, c5, O)]) hq (by simp only [List.map_cons, List.map_nil, valR, XG1.out.1, XG2.out.1, ← XLU.out, ← XLP.out, ← XLO.out]) HB5.out.size (by unfold maxLen; simp))
  have HB6 := Lib.hid (HB5.out.alloc HB5.out.size (.cells #[.slice A3 LU c3, .slice A1 8 c1, .slice A2 8 c2, .slice A4 LP c4, .slice A5 LO c5] 22))
  obtain ⟨g5, hg5⟩ : ∃ g, g = w5.heap.size := ⟨_, rfl⟩
  rw [← hg5] at S0 ⊢
  clear hg5
  generalize w5.alloc _ = w6 at *
  clear hq Q1 Q2 Q3 Q4 Q5
  go_wp2_with (first
    | (go_at_call 63; go_must (refine (rFrame_any l A n c _ (HA.out _ HB6.out)).mono ?_); rintro e w7 hp; rw [HFR.out.1, HFR.out.2, ← XF.out] at hp; obtain ⟨A7, c7, rfl, _, hF7, hb7⟩ := BytesPost2.at_ (n := LF) (k' := 0) hp XLF.out.symm rfl; have HB7 := Lib.hid (HB6.out.trans (hb7.mono HB6.out.size)); have hS := S0.out.fresh hb7 hF7; have S1 := Lib.hid hS; clear hp hb7 hF7 hS)
    | (at_builtin; have _t := tok1; go_must (refine wpList_append_reads _ rfl (.tmp 56) (.tmp 58) rfl Tryd.kss w.heap.size (.slice (some ⟨g5, 0, none⟩) 5 5) 5 ([(A3, c3, U), (A1, c1, G1), (A2, c2, G2), (A4, c4, P), (A5, c5, O)].map valR) rfl (S1.out.ol.alloc _) (w7.heap.size + 1) (some ⟨w7.heap.size, 0, none⟩) 1 1 [.slice A7 LF c7] rfl (lit_one8 _ _ _ _ rfl) (by simp [Value.oneCell']) (by unfold maxLen; omega) (by omega) (by have := HB7.out.size; simp; omega) ?_); intro v8 w8 hown8 hg8 hat8; have HB8 := Lib.hid ((HB7.out.alloc HB7.out.size (.cells #[.slice A7 LF c7] 22)).grown hg8 (by have := HB7.out.size; simp; omega) (fun g hg => (World.ownsRow.lt S1.out.ol g hg).1)); have hS := S1.out.appL (v' := v8) rfl (by simp only [List.nil_append, List.map_cons, List.map_nil, valR, ← XLF.out]) hown8 hg8 hat8; have S2 := Lib.hid hS; clear tok1 hown8 hg8 hat8 hS)
    | (go_at_call 64; go_must (refine (rRby_any all D m d a (m : Int) _ (HD.out _ HB8.out) (by omega) (by omega)).mono ?_); rintro e w9 hp; rw [X1.out] at hp; obtain ⟨A9, c9, rfl, _, hO9, hb9⟩ := hp.at_ XL1.out.symm rfl rfl; have HB9 := Lib.hid (HB8.out.trans (hb9.mono HB8.out.size)); have hS := S2.out.fresh hb9 hO9; have S3 := Lib.hid hS; clear hp hb9 hO9 hS)
    | (go_at_call 65; go_must (refine (rRo_any all D m d a _ (HD.out _ HB9.out) (by omega)).mono ?_); rintro e w10 hp; rw [← X2.out] at hp; obtain ⟨A10, c10, rfl, _, hO10, hb10⟩ := hp.at_ XL2.out.symm rfl rfl; have HB10 := Lib.hid (HB9.out.trans (hb10.mono HB9.out.size)); have hS := S3.out.fresh hb10 hO10; have S4 := Lib.hid hS; clear hp hb10 hO10 hS)
    | (go_at_call 66; go_must (refine (rRframe_any all D m d a _ (HD.out _ HB10.out) (by omega)).mono ?_); rintro e w11 hp; rw [← X3.out] at hp; obtain ⟨A11, c11, rfl, _, hO11, hb11⟩ := hp.at_ XL3.out.symm rfl rfl; have HB11 := Lib.hid (HB10.out.trans (hb11.mono HB10.out.size)); have hS := S4.out.fresh hb11 hO11; have S5 := Lib.hid hS; clear hp hb11 hO11 hS)
    | (at_builtin; go_must (refine wpList_append_reads _ rfl (.tmp 83) (.tmp 87) rfl Tryd.kss w.heap.size v8 6 _ rfl (S5.out.ol.alloc _) (w11.heap.size + 1) (some ⟨w11.heap.size, 0, none⟩) 3 3 [.slice A9 L1 c9, .slice A10 L2 c10, .slice A11 L3 c11] rfl (lit3 _ _ _ _ _ _ rfl) (by simp [Value.oneCell']) (by unfold maxLen; omega) (by omega) (by have := HB11.out.size; simp; omega) ?_); intro v12 w12 hown12 hg12 hat12; have HB12 := Lib.hid ((HB11.out.alloc HB11.out.size (.cells #[.slice A9 L1 c9, .slice A10 L2 c10, .slice A11 L3 c11] 22)).grown hg12 (by have := HB11.out.size; simp; omega) (fun g hg => (World.ownsRow.lt S5.out.ol g hg).1)); have hS := S5.out.appL (v' := v12) rfl (by simp only [List.nil_append, List.cons_append, List.map_cons, List.map_nil, valR, ← XL1.out, ← XL2.out, ← XL3.out]) hown12 hg12 hat12; obtain ⟨A12, c12, rfl, hlr⟩ := hS.lr (n := 9) rfl rfl; have HLR := Lib.hid hlr; clear hown12 hg12 hat12 hS hlr))
  go_ret
  refine ⟨A12, c12, _, rfl, ⟨HLR.out.ol, HLR.out.rows, HLR.out.off, ?_, HLR.out.len⟩, HB12.out⟩
  rw [← HANS.out]
  rfl

end Go.Proofs.YtkkfiffgldhahaaDoor
