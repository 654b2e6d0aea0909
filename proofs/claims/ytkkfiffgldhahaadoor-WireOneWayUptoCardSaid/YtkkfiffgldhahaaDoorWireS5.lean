/-
  WireSorts, walked.
-/
import Derived.Test.YtkkfiffgldhahaaDoorWireW11
import Derived.Test.YtkkfiffgldhahaaDoorWireS1
import Derived.Lib.MinMax
import Derived.Deep.CutRange
import Derived.Deep.DeepCutAuto
namespace Go.Proofs.YtkkfiffgldhahaaDoor
open Go.RowKit

theorem risB_len (v : Nat) : (risB v).length = 8 := rTo_len v 8
theorem ris_lt {m n : Nat} (hm : m < 9223372036854775808) (hn : n < 9223372036854775808) (h : m < n) : cmpB (risB m) (risB n) = -1 := by
  rw [ris_sorts m n (by omega) (by omega), if_pos h]
theorem ris_gt {m n : Nat} (hm : m < 9223372036854775808) (hn : n < 9223372036854775808) (h : n < m) : cmpB (risB m) (risB n) = 1 := by
  rw [ris_sorts m n (by omega) (by omega), if_neg (by omega), if_pos h]

set_option maxRecDepth 100000 in
set_option maxHeartbeats 4000000 in
theorem sorts_any (a b x y : List UInt8) (A B X Y : Option Addr) (na ca nb cb nx cx ny cy : Nat) (m n : Int) (w : World) (ha : Sl w A na ca a) (hb : Sl w B nb cb b) (hx : Sl w X nx cx x) (hy : Sl w Y ny cy y)
    (h1 : na ≤ 1048576) (h2 : nb ≤ 1048576) (h3 : nx ≤ 1048576) (h4 : ny ≤ 1048576) (hm : -9223372036854775808 ≤ m ∧ m < 9223372036854775808) (hn : -9223372036854775808 ≤ n ∧ n < 9223372036854775808) (ht : TabAt 0 w) :
    Calls Tryd.prog 7 #[.slice A na ca, .slice B nb cb, .slice X nx cx, .slice Y ny cy, .int .i64 m, .int .i64 n] w fun e w' => e = .returned (.bool true) ∧ Below w.heap.size w w' := by
  have HT : Hid (∀ w', Below w.heap.size w w' → TabAt 0 w') := Lib.hid fun w' h => ht.later h
  have HA : Hid (∀ w', Below w.heap.size w w' → Sl w' A na ca a) := Lib.hid fun w' h => ha.later h
  have HB : Hid (∀ w', Below w.heap.size w w' → Sl w' B nb cb b) := Lib.hid fun w' h => hb.later h
  have HX : Hid (∀ w', Below w.heap.size w w' → Sl w' X nx cx x) := Lib.hid fun w' h => hx.later h
  have HY : Hid (∀ w', Below w.heap.size w w' → Sl w' Y ny cy y) := Lib.hid fun w' h => hy.later h
  obtain ⟨K, hK⟩ : ∃ K, K = cmpB a b := ⟨_, rfl⟩
  obtain ⟨OP, hOP⟩ : ∃ x, x = ordB a := ⟨_, rfl⟩
  obtain ⟨OQ, hOQ⟩ : ∃ x, x = ordB b := ⟨_, rfl⟩
  have hPL : OP.length ≤ 2097200 := by rw [hOP]; have := ordB_len a; have := ha.len; omega
  have hQL : OQ.length ≤ 2097200 := by rw [hOQ]; have := ordB_len b; have := hb.len; omega
  have HXL := Lib.hid hx.len
  have HYL := Lib.hid hy.len
  have HE0 : Hid (cmpB a b = K) := Lib.hid hK.symm
  have HE1 : Hid (cmpB OP OQ = K) := Lib.hid (by rw [hOP, hOQ, ord_same, hK])
  have HOP := Lib.hid hOP
  have HOQ := Lib.hid hOQ
  have f2 : Hid (∀ x y : List UInt8, [x, y].flatten = x ++ y) := Lib.hid fun x y => by simp
  have tok1 : True := trivial
  have hkk : (K != K) = false := by simp
  have HK := Lib.hid hK
  clear ha hb hx hy ht hOP hOQ hK
  go_enter Tryd.func7, Tryd.ntmps7
  go_upto_region 4 with (first
    | (go_at_call 30; have _t := tok1; go_must (refine (ordered_any a A na ca _ (by omega) (HA.out _ (Below.refl _ _)).rb).mono ?_); rintro e w1 hp; rw [← HOP.out] at hp; obtain ⟨A1, c1, rfl, hS1, _, hb1⟩ := hp.at_ rfl; have HS1 := Lib.hid hS1; have HB1 := Lib.hid hb1; clear hp hS1 hb1 tok1)
    | (go_at_call 30; go_must (refine (ordered_any b B nb cb _ (by omega) (HB.out _ HB1.out).rb).mono ?_); rintro e w2 hp; rw [← HOQ.out] at hp; obtain ⟨A2, c2, rfl, hS2, _, hb2⟩ := hp.at_ rfl; have HS2 := Lib.hid hS2; have HB2 := Lib.hid (HB1.out.trans (hb2.mono HB1.out.size)); have HSP := Lib.hid (HS1.out.later hb2); clear hp hS2 hb2)
    | (go_at_call 31; go_must (refine (order_any a b A B na ca nb cb _ (by omega) (by omega) (HA.out _ HB2.out).rb (HB.out _ HB2.out).rb).mono ?_); rintro e w3 ⟨rfl, hb3⟩; rw [HE0.out]; have HB3 := Lib.hid (HB2.out.trans (hb3.mono HB2.out.size)); have HP := Lib.hid (HSP.out.later hb3); have HQ := Lib.hid (HS2.out.later hb3); clear hb3))
  go_cut [70] (fun c wx => c = .bool false ∧ Hid (Below w.heap.size w wx))
  case first =>
    by_cases hk0 : K = 0
    · have hk1 : (K != 0) = false := by simp [hk0]
      clear hk0
      go_wp2_with (go_at_call 31; go_must (refine (order_any OP OQ A1 A2 OP.length c1 OQ.length c2 _ (by omega) (by omega) HP.out.rb HQ.out.rb).mono ?_); rintro e w4 ⟨rfl, hb4⟩; rw [HE1.out]; have HB4 := Lib.hid (HB3.out.trans (hb4.mono HB3.out.size)); clear hb4)
      go_meet
      exact ⟨rfl, HB4⟩
    · have hk1 : (K != 0) = true := by simp [hk0]
      have HN1 : Hid (begB OP OQ = false) := Lib.hid (by rw [HOP.out, HOQ.out]; exact ord_begins a b (by rw [HE0.out]; exact hk0))
      have HN2 : Hid (begB OQ OP = false) := Lib.hid (by rw [HOP.out, HOQ.out]; exact ord_begins b a (by rw [cmpB_swap a b, HE0.out]; omega))
      obtain ⟨J1, hJ1⟩ : ∃ J, J = OP ++ x := ⟨_, rfl⟩
      obtain ⟨J2, hJ2⟩ : ∃ J, J = OQ ++ y := ⟨_, rfl⟩
      have HJL1 : Hid (J1.length ≤ 4000000) := Lib.hid (by rw [hJ1, List.length_append, HXL.out]; omega)
      have HJL2 : Hid (J2.length ≤ 4000000) := Lib.hid (by rw [hJ2, List.length_append, HYL.out]; omega)
      have HE5 : Hid (cmpB J1 J2 = K) := Lib.hid (by rw [hJ1, hJ2, HOP.out, HOQ.out, ord_sorts, HE0.out, if_neg hk0])
      have HJ1 := Lib.hid hJ1
      have HJ2 := Lib.hid hJ2
      have tok1 : True := trivial
      have tok2 : True := trivial
      have tok3 : True := trivial
      clear hk0 hJ1 hJ2
      go_wp2_with (first
        | (go_at_call 31; have _t := tok1; go_must (refine (order_any OP OQ A1 A2 OP.length c1 OQ.length c2 _ (by omega) (by omega) HP.out.rb HQ.out.rb).mono ?_); rintro e w4 ⟨rfl, hb4⟩; rw [HE1.out]; clear tok1; have HB4 := Lib.hid (HB3.out.trans (hb4.mono HB3.out.size)); have HP4 := Lib.hid (HP.out.later hb4); have HQ4 := Lib.hid (HQ.out.later hb4); clear hb4)
        | (go_at_call 32; have _t := tok2; go_must (refine (begins_any OP OQ A1 A2 OP.length c1 OQ.length c2 _ (by omega) HQ4.out.cap HP4.out.rb HQ4.out.rb).mono ?_); rintro e wn ⟨rfl, rfl⟩; rw [HN1.out]; clear tok2)
        | (go_at_call 32; go_must (refine (begins_any OQ OP A2 A1 OQ.length c2 OP.length c1 _ (by omega) HP4.out.cap HQ4.out.rb HP4.out.rb).mono ?_); rintro e wn ⟨rfl, rfl⟩; rw [HN2.out])
        | (go_at_call 23; have _t := tok3; have HB5 := Lib.hid (HB4.out.alloc HB4.out.size (.cells #[.slice A1 OP.length c1, .slice X nx cx] 22)); go_must (refine (join_any [OP, x] _ 2 2 _ (by omega) (by exact kv_lit_at _ #[.slice A1 OP.length c1, .slice X nx cx] [OP, x] 2 _ _ _ (HP4.out.cons ((HX.out _ HB4.out).cons KV.nil)) rfl (by simp)) (by rw [f2.out, List.length_append, HXL.out]; omega)).mono ?_); rintro e w6 hp; rw [f2.out, ← HJ1.out] at hp; obtain ⟨A6, c6, rfl, hS6, _, hb6⟩ := hp.at_ rfl; have HS6 := Lib.hid hS6; have HB6 := Lib.hid (HB5.out.trans (hb6.mono HB5.out.size)); have HQ6 := Lib.hid (HQ4.out.later (((Below.refl _ _).alloc (Nat.le_refl _) (.cells #[.slice A1 OP.length c1, .slice X nx cx] 22)).trans (hb6.mono (by simp)))); clear hp hS6 hb6 tok3)
        | (go_at_call 23; have HB7 := Lib.hid (HB6.out.alloc HB6.out.size (.cells #[.slice A2 OQ.length c2, .slice Y ny cy] 22)); go_must (refine (join_any [OQ, y] _ 2 2 _ (by omega) (by exact kv_lit_at _ #[.slice A2 OQ.length c2, .slice Y ny cy] [OQ, y] 2 _ _ _ (HQ6.out.cons ((HY.out _ HB6.out).cons KV.nil)) rfl (by simp)) (by rw [f2.out, List.length_append, HYL.out]; omega)).mono ?_); rintro e w8 hp; rw [f2.out, ← HJ2.out] at hp; obtain ⟨A8, c8, rfl, hS8, _, hb8⟩ := hp.at_ rfl; have HS8 := Lib.hid hS8; have HB8 := Lib.hid (HB7.out.trans (hb8.mono HB7.out.size)); have HS68 := Lib.hid (HS6.out.later (((Below.refl _ _).alloc (Nat.le_refl _) (.cells #[.slice A2 OQ.length c2, .slice Y ny cy] 22)).trans (hb8.mono (by simp)))); clear hp hS8 hb8)
        | (go_at_call 31; go_must (refine (order_any J1 J2 A6 A8 J1.length c6 J2.length c8 _ (by have := HJL1.out; omega) (by have := HJL2.out; omega) HS68.out.rb HS8.out.rb).mono ?_); rintro e w9 ⟨rfl, hb9⟩; rw [HE5.out]; have HB9 := Lib.hid (HB8.out.trans (hb9.mono HB8.out.size)); clear hb9))
      go_meet
      exact ⟨rfl, HB9⟩
  case rest =>
    obtain ⟨rfl, HB3'⟩ := hcut
    clear HE0 HE1 HK HOP HOQ HXL HYL HA HB HX HY HB3 HP HQ HSP HS1 HS2 HB1 HB2 f2 hkk
    generalize wc = w5 at *
    by_cases hmm : m < 0
    · have hmin : min m n < 0 := by omega
      have hd1 : decide (m < 0) = true := decide_eq_true hmm
      have tok1 : True := trivial
      go_wp2_with (first
        | (go_at_call 20; refine (num_any _ _).mono ?_; rintro e wn ⟨rfl, rfl⟩)
        | (go_at_call 33; go_must (refine (rising_neg _ _ hmin).mono ?_); rintro e w6 hp; obtain ⟨A6, c6, rfl, hS6, _, hb6⟩ := BytesPost2.at_ (n := 0) (k' := 1) hp rfl rfl; have HB6 := Lib.hid (HB3'.out.trans (hb6.mono HB3'.out.size)); clear hp hS6 hb6)
        | (go_at_call 34; go_must (refine (falling_neg _ _ hmin).mono ?_); rintro e w7 hp; obtain ⟨A7, c7, rfl, hS7, _, hb7⟩ := BytesPost2.at_ (n := 0) (k' := 1) hp rfl rfl; have HB7 := Lib.hid (HB6.out.trans (hb7.mono HB6.out.size)); clear hp hS7 hb7)
        | (go_at_call 18; go_must (refine (started_any _ (HT.out _ HB7.out)).mono ?_); rintro e w8 ⟨rfl, hb8⟩; have HB8 := Lib.hid (HB7.out.trans (hb8.mono HB7.out.size)); clear hb8))
      go_ret
      exact ⟨rfl, HB8.out⟩
    by_cases hnn : n < 0
    · have hmin : min m n < 0 := by omega
      have hd1 : decide (m < 0) = false := decide_eq_false hmm
      have hd2 : decide (n < 0) = true := decide_eq_true hnn
      have tok1 : True := trivial
      go_wp2_with (first
        | (go_at_call 20; refine (num_any _ _).mono ?_; rintro e wn ⟨rfl, rfl⟩)
        | (go_at_call 33; go_must (refine (rising_neg _ _ hmin).mono ?_); rintro e w6 hp; obtain ⟨A6, c6, rfl, hS6, _, hb6⟩ := BytesPost2.at_ (n := 0) (k' := 1) hp rfl rfl; have HB6 := Lib.hid (HB3'.out.trans (hb6.mono HB3'.out.size)); clear hp hS6 hb6)
        | (go_at_call 34; go_must (refine (falling_neg _ _ hmin).mono ?_); rintro e w7 hp; obtain ⟨A7, c7, rfl, hS7, _, hb7⟩ := BytesPost2.at_ (n := 0) (k' := 1) hp rfl rfl; have HB7 := Lib.hid (HB6.out.trans (hb7.mono HB6.out.size)); clear hp hS7 hb7)
        | (go_at_call 18; go_must (refine (started_any _ (HT.out _ HB7.out)).mono ?_); rintro e w8 ⟨rfl, hb8⟩; have HB8 := Lib.hid (HB7.out.trans (hb8.mono HB7.out.size)); clear hb8))
      go_ret
      exact ⟨rfl, HB8.out⟩
    obtain ⟨M, rfl⟩ : ∃ M : Nat, m = (M : Int) := ⟨m.toNat, by omega⟩
    obtain ⟨N, rfl⟩ : ∃ N : Nat, n = (N : Int) := ⟨n.toNat, by omega⟩
    have hd1 : decide ((M : Int) < 0) = false := decide_eq_false (by omega)
    have hd2 : decide ((N : Int) < 0) = false := decide_eq_false (by omega)
    have hM : M < 9223372036854775808 := by omega
    have hN : N < 9223372036854775808 := by omega
    have HM := Lib.hid hM
    have HN := Lib.hid hN
    have tok1 : True := trivial
    have tok2 : True := trivial
    have tok3 : True := trivial
    rcases Nat.lt_trichotomy M N with h | h | h
    · have q1 : decide ((M : Int) < (N : Int)) = true := decide_eq_true (by omega)
      have q2 : decide (M < N) = true := decide_eq_true (by omega)
      have q3 : decide ((N : Int) < (M : Int)) = false := decide_eq_false (by omega)
      have q4 : decide (N < M) = false := decide_eq_false (by omega)
      have HE1 : Hid (cmpB (risB M) (risB N) = -1) := Lib.hid (ris_lt hM hN h)
      have HE2 : Hid (cmpB (risB (9223372036854775807 - N)) (risB (9223372036854775807 - M)) = -1) := Lib.hid (ris_lt (by omega) (by omega) (by omega))
      clear h hM hN hm hn hmm hnn
      go_wp2_with (first
        | (go_at_call 33; have _t := tok1; go_must (refine (rising_any M _ HM.out).mono ?_); rintro e w6 hp; obtain ⟨A6, c6, rfl, hS6, _, hb6⟩ := BytesPost2.at_ (n := 8) (k' := 0) hp (risB_len _) rfl; have HS6 := Lib.hid hS6; have HB6 := Lib.hid (HB3'.out.trans (hb6.mono HB3'.out.size)); clear hp hS6 hb6 tok1)
        | (go_at_call 33; go_must (refine (rising_any N _ HN.out).mono ?_); rintro e w7 hp; obtain ⟨A7, c7, rfl, hS7, _, hb7⟩ := BytesPost2.at_ (n := 8) (k' := 0) hp (risB_len _) rfl; have HS7 := Lib.hid hS7; have HB7 := Lib.hid (HB6.out.trans (hb7.mono HB6.out.size)); have HR7 := Lib.hid (HS6.out.later hb7); clear hp hS7 hb7)
        | (go_at_call 34; have _t := tok2; go_must (refine (falling_any M _ HM.out).mono ?_); rintro e w8 hp; obtain ⟨A8, c8, rfl, hS8, _, hb8⟩ := BytesPost2.at_ (n := 8) (k' := 0) hp (risB_len _) rfl; have HS8 := Lib.hid hS8; have HB8 := Lib.hid (HB7.out.trans (hb8.mono HB7.out.size)); have HR8 := Lib.hid (HR7.out.later hb8); have HQ8 := Lib.hid (HS7.out.later hb8); clear hp hS8 hb8 tok2)
        | (go_at_call 34; go_must (refine (falling_any N _ HN.out).mono ?_); rintro e w9 hp; obtain ⟨A9, c9, rfl, hS9, _, hb9⟩ := BytesPost2.at_ (n := 8) (k' := 0) hp (risB_len _) rfl; have HS9 := Lib.hid hS9; have HB9 := Lib.hid (HB8.out.trans (hb9.mono HB8.out.size)); have HR9 := Lib.hid (HR8.out.later hb9); have HQ9 := Lib.hid (HQ8.out.later hb9); have HT9 := Lib.hid (HS8.out.later hb9); clear hp hS9 hb9)
        | (go_at_call 18; go_must (refine (started_any _ (HT.out _ HB9.out)).mono ?_); rintro e wa ⟨rfl, hba⟩; have HBa := Lib.hid (HB9.out.trans (hba.mono HB9.out.size)); have HRa := Lib.hid (HR9.out.later hba); have HQa := Lib.hid (HQ9.out.later hba); have HTa := Lib.hid (HT9.out.later hba); have HUa := Lib.hid (HS9.out.later hba); clear hba)
        | (go_at_call 31; have _t := tok3; go_must (refine (order_any (risB M) (risB N) A6 A7 8 c6 8 c7 _ (by decide) (by decide) HRa.out.rb HQa.out.rb).mono ?_); rintro e wb ⟨rfl, hbb⟩; rw [HE1.out]; have HBb := Lib.hid (HBa.out.trans (hbb.mono HBa.out.size)); have HTb := Lib.hid (HTa.out.later hbb); have HUb := Lib.hid (HUa.out.later hbb); clear hbb tok3)
        | (go_at_call 31; go_must (refine (order_any (risB (9223372036854775807 - N)) (risB (9223372036854775807 - M)) A9 A8 8 c9 8 c8 _ (by decide) (by decide) HUb.out.rb HTb.out.rb).mono ?_); rintro e wd ⟨rfl, hbd⟩; rw [HE2.out]; have HBd := Lib.hid (HBb.out.trans (hbd.mono HBb.out.size)); clear hbd))
      go_ret
      exact ⟨rfl, HBd.out⟩
    · subst h
      have q1 : decide ((M : Int) < (M : Int)) = false := decide_eq_false (by omega)
      have q2 : decide (M < M) = false := decide_eq_false (by omega)
      have HE1 : Hid (cmpB (risB M) (risB M) = 0) := Lib.hid (cmpB_self _)
      have HE2 : Hid (cmpB (risB (9223372036854775807 - M)) (risB (9223372036854775807 - M)) = 0) := Lib.hid (cmpB_self _)
      clear hM hN hm hn hmm hnn
      go_wp2_with (first
        | (go_at_call 33; have _t := tok1; go_must (refine (rising_any M _ HM.out).mono ?_); rintro e w6 hp; obtain ⟨A6, c6, rfl, hS6, _, hb6⟩ := BytesPost2.at_ (n := 8) (k' := 0) hp (risB_len _) rfl; have HS6 := Lib.hid hS6; have HB6 := Lib.hid (HB3'.out.trans (hb6.mono HB3'.out.size)); clear hp hS6 hb6 tok1)
        | (go_at_call 33; go_must (refine (rising_any M _ HN.out).mono ?_); rintro e w7 hp; obtain ⟨A7, c7, rfl, hS7, _, hb7⟩ := BytesPost2.at_ (n := 8) (k' := 0) hp (risB_len _) rfl; have HS7 := Lib.hid hS7; have HB7 := Lib.hid (HB6.out.trans (hb7.mono HB6.out.size)); have HR7 := Lib.hid (HS6.out.later hb7); clear hp hS7 hb7)
        | (go_at_call 34; have _t := tok2; go_must (refine (falling_any M _ HM.out).mono ?_); rintro e w8 hp; obtain ⟨A8, c8, rfl, hS8, _, hb8⟩ := BytesPost2.at_ (n := 8) (k' := 0) hp (risB_len _) rfl; have HS8 := Lib.hid hS8; have HB8 := Lib.hid (HB7.out.trans (hb8.mono HB7.out.size)); have HR8 := Lib.hid (HR7.out.later hb8); have HQ8 := Lib.hid (HS7.out.later hb8); clear hp hS8 hb8 tok2)
        | (go_at_call 34; go_must (refine (falling_any M _ HN.out).mono ?_); rintro e w9 hp; obtain ⟨A9, c9, rfl, hS9, _, hb9⟩ := BytesPost2.at_ (n := 8) (k' := 0) hp (risB_len _) rfl; have HS9 := Lib.hid hS9; have HB9 := Lib.hid (HB8.out.trans (hb9.mono HB8.out.size)); have HR9 := Lib.hid (HR8.out.later hb9); have HQ9 := Lib.hid (HQ8.out.later hb9); have HT9 := Lib.hid (HS8.out.later hb9); clear hp hS9 hb9)
        | (go_at_call 18; go_must (refine (started_any _ (HT.out _ HB9.out)).mono ?_); rintro e wa ⟨rfl, hba⟩; have HBa := Lib.hid (HB9.out.trans (hba.mono HB9.out.size)); have HRa := Lib.hid (HR9.out.later hba); have HQa := Lib.hid (HQ9.out.later hba); have HTa := Lib.hid (HT9.out.later hba); have HUa := Lib.hid (HS9.out.later hba); clear hba)
        | (go_at_call 31; have _t := tok3; go_must (refine (order_any (risB M) (risB M) A6 A7 8 c6 8 c7 _ (by decide) (by decide) HRa.out.rb HQa.out.rb).mono ?_); rintro e wb ⟨rfl, hbb⟩; rw [HE1.out]; have HBb := Lib.hid (HBa.out.trans (hbb.mono HBa.out.size)); have HTb := Lib.hid (HTa.out.later hbb); have HUb := Lib.hid (HUa.out.later hbb); clear hbb tok3)
        | (go_at_call 31; go_must (refine (order_any (risB (9223372036854775807 - M)) (risB (9223372036854775807 - M)) A9 A8 8 c9 8 c8 _ (by decide) (by decide) HUb.out.rb HTb.out.rb).mono ?_); rintro e wd ⟨rfl, hbd⟩; rw [HE2.out]; have HBd := Lib.hid (HBb.out.trans (hbd.mono HBb.out.size)); clear hbd))
      go_ret
      exact ⟨rfl, HBd.out⟩
    · have q1 : decide ((M : Int) < (N : Int)) = false := decide_eq_false (by omega)
      have q2 : decide (M < N) = false := decide_eq_false (by omega)
      have q3 : decide ((N : Int) < (M : Int)) = true := decide_eq_true (by omega)
      have q4 : decide (N < M) = true := decide_eq_true (by omega)
      have HE1 : Hid (cmpB (risB M) (risB N) = 1) := Lib.hid (ris_gt hM hN h)
      have HE2 : Hid (cmpB (risB (9223372036854775807 - N)) (risB (9223372036854775807 - M)) = 1) := Lib.hid (ris_gt (by omega) (by omega) (by omega))
      clear h hM hN hm hn hmm hnn
      go_wp2_with (first
        | (go_at_call 33; have _t := tok1; go_must (refine (rising_any M _ HM.out).mono ?_); rintro e w6 hp; obtain ⟨A6, c6, rfl, hS6, _, hb6⟩ := BytesPost2.at_ (n := 8) (k' := 0) hp (risB_len _) rfl; have HS6 := Lib.hid hS6; have HB6 := Lib.hid (HB3'.out.trans (hb6.mono HB3'.out.size)); clear hp hS6 hb6 tok1)
        | (go_at_call 33; go_must (refine (rising_any N _ HN.out).mono ?_); rintro e w7 hp; obtain ⟨A7, c7, rfl, hS7, _, hb7⟩ := BytesPost2.at_ (n := 8) (k' := 0) hp (risB_len _) rfl; have HS7 := Lib.hid hS7; have HB7 := Lib.hid (HB6.out.trans (hb7.mono HB6.out.size)); have HR7 := Lib.hid (HS6.out.later hb7); clear hp hS7 hb7)
        | (go_at_call 34; have _t := tok2; go_must (refine (falling_any M _ HM.out).mono ?_); rintro e w8 hp; obtain ⟨A8, c8, rfl, hS8, _, hb8⟩ := BytesPost2.at_ (n := 8) (k' := 0) hp (risB_len _) rfl; have HS8 := Lib.hid hS8; have HB8 := Lib.hid (HB7.out.trans (hb8.mono HB7.out.size)); have HR8 := Lib.hid (HR7.out.later hb8); have HQ8 := Lib.hid (HS7.out.later hb8); clear hp hS8 hb8 tok2)
        | (go_at_call 34; go_must (refine (falling_any N _ HN.out).mono ?_); rintro e w9 hp; obtain ⟨A9, c9, rfl, hS9, _, hb9⟩ := BytesPost2.at_ (n := 8) (k' := 0) hp (risB_len _) rfl; have HS9 := Lib.hid hS9; have HB9 := Lib.hid (HB8.out.trans (hb9.mono HB8.out.size)); have HR9 := Lib.hid (HR8.out.later hb9); have HQ9 := Lib.hid (HQ8.out.later hb9); have HT9 := Lib.hid (HS8.out.later hb9); clear hp hS9 hb9)
        | (go_at_call 18; go_must (refine (started_any _ (HT.out _ HB9.out)).mono ?_); rintro e wa ⟨rfl, hba⟩; have HBa := Lib.hid (HB9.out.trans (hba.mono HB9.out.size)); have HRa := Lib.hid (HR9.out.later hba); have HQa := Lib.hid (HQ9.out.later hba); have HTa := Lib.hid (HT9.out.later hba); have HUa := Lib.hid (HS9.out.later hba); clear hba)
        | (go_at_call 31; have _t := tok3; go_must (refine (order_any (risB M) (risB N) A6 A7 8 c6 8 c7 _ (by decide) (by decide) HRa.out.rb HQa.out.rb).mono ?_); rintro e wb ⟨rfl, hbb⟩; rw [HE1.out]; have HBb := Lib.hid (HBa.out.trans (hbb.mono HBa.out.size)); have HTb := Lib.hid (HTa.out.later hbb); have HUb := Lib.hid (HUa.out.later hbb); clear hbb tok3)
        | (go_at_call 31; go_must (refine (order_any (risB (9223372036854775807 - N)) (risB (9223372036854775807 - M)) A9 A8 8 c9 8 c8 _ (by decide) (by decide) HUb.out.rb HTb.out.rb).mono ?_); rintro e wd ⟨rfl, hbd⟩; rw [HE2.out]; have HBd := Lib.hid (HBb.out.trans (hbd.mono HBb.out.size)); clear hbd))
      go_ret
      exact ⟨rfl, HBd.out⟩

end Go.Proofs.YtkkfiffgldhahaaDoor
