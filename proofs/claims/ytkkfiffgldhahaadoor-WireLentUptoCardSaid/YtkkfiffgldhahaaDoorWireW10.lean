/-
  The statements' begins and order; wire.Ordered; walked.
-/
import Derived.Test.YtkkfiffgldhahaaDoorWireW5
import Derived.Test.YtkkfiffgldhahaaDoorWireP7
import Derived.Deep.QuietTactic
import Derived.BigQuiet
namespace Go.Proofs.YtkkfiffgldhahaaDoor
open Go.RowKit

set_option maxRecDepth 100000 in
set_option maxHeartbeats 1000000 in
theorem begins_any (a b : List UInt8) (A B : Option Addr) (n c m d : Nat) (w : World) (hm : m ≤ 9223372036854775807) (hmd : m ≤ d) (ha : RB w w.heap.size A n a) (hb : RB w w.heap.size B m b) :
    Calls Tryd.prog 32 #[.slice A n c, .slice B m d] w fun e w' => e = .returned (.bool (begB a b)) ∧ w = w' := by
  have hla := ha.len
  have hlb := hb.len
  by_cases h : n ≤ m
  · have hd1 : decide ((n : Int) ≤ (m : Int)) = true := decide_eq_true (by omega)
    have hd2 : decide (n ≤ m) = true := decide_eq_true h
    have HE : Hid (begB a b = (a == b.take n)) := Lib.hid (by unfold begB; rw [hla, hlb, hd2]; rfl)
    have HA := Lib.hid ha
    have HB := Lib.hid (hb.take h)
    have k1 : n ≤ d := by omega
    have k2 : n - 0 = n := by omega
    clear ha hb hla hlb
    go_enter Tryd.func32, Tryd.ntmps32
    go_wp2_with (go_at_call 24; go_must (refine (same_any a (b.take n) A B n _ n _ _ HA.out HB.out).mono ?_); rintro e w1 ⟨rfl, rfl⟩)
    go_ret
    exact ⟨by rw [HE.out]; rfl, rfl⟩
  · have hd1 : decide ((n : Int) ≤ (m : Int)) = false := decide_eq_false (by omega)
    have hd2 : decide (n ≤ m) = false := decide_eq_false h
    have HE : Hid (begB a b = false) := Lib.hid (by unfold begB; rw [hla, hlb, hd2]; rfl)
    clear ha hb hla hlb
    go_enter Tryd.func32, Tryd.ntmps32
    go_wp2
    go_ret
    exact ⟨by rw [HE.out]; rfl, rfl⟩

theorem cmp_lt_at {a b : List UInt8} {k : Nat} {x y : UInt8} (h : a.take k = b.take k) (ha : a[k]? = some x) (hb : b[k]? = some y) (hxy : x.toNat < y.toNat) : cmpB a b = -1 := by
  obtain ⟨h1, rfl⟩ := List.getElem?_eq_some_iff.1 ha
  obtain ⟨h2, rfl⟩ := List.getElem?_eq_some_iff.1 hb
  rw [← cmpB_drop a b k h, List.drop_eq_getElem_cons h1, List.drop_eq_getElem_cons h2, cmpB_lt hxy]
theorem cmp_gt_at {a b : List UInt8} {k : Nat} {x y : UInt8} (h : a.take k = b.take k) (ha : a[k]? = some x) (hb : b[k]? = some y) (hxy : y.toNat < x.toNat) : cmpB a b = 1 := by
  obtain ⟨h1, rfl⟩ := List.getElem?_eq_some_iff.1 ha
  obtain ⟨h2, rfl⟩ := List.getElem?_eq_some_iff.1 hb
  rw [← cmpB_drop a b k h, List.drop_eq_getElem_cons h1, List.drop_eq_getElem_cons h2, cmpB_gt hxy]
theorem cmp_eq_at {a b : List UInt8} {k : Nat} {x : UInt8} (h : a.take k = b.take k) (ha : a[k]? = some x) (hb : b[k]? = some x) : a.take (k + 1) = b.take (k + 1) := by
  rw [take_snoc ha, take_snoc hb, h]
theorem cmp_end {a b : List UInt8} {k n m : Nat} (h : a.take k = b.take k) (ha : a.length = n) (hb : b.length = m) (hk : k = n) (hm : k ≤ m) : cmpB a b = if n < m then -1 else 0 := by
  subst hk
  rw [← cmpB_drop a b k h, List.drop_eq_nil_of_le (by omega)]
  split
  · rw [List.drop_eq_getElem_cons (by omega)]; rfl
  · rw [List.drop_eq_nil_of_le (by omega)]; rfl
theorem cmp_end2 {a b : List UInt8} {k n m : Nat} (h : a.take k = b.take k) (ha : a.length = n) (hb : b.length = m) (hk : k = m) (hm : k < n) : cmpB a b = 1 := by
  subst hk
  rw [← cmpB_drop a b k h, show b.drop k = [] from List.drop_eq_nil_of_le (by omega), List.drop_eq_getElem_cons (by omega)]; rfl

set_option maxRecDepth 100000 in
set_option maxHeartbeats 1000000 in
theorem order_any (a b : List UInt8) (A B : Option Addr) (n c m d : Nat) (w : World) (hn : n ≤ 9223372036854775807) (hm : m ≤ 9223372036854775807) (ha : RB w w.heap.size A n a) (hb : RB w w.heap.size B m b) :
    Calls Tryd.prog 31 #[.slice A n c, .slice B m d] w fun e w' => e = .returned (.int .i64 (cmpB a b)) ∧ Below w.heap.size w w' := by
  have HLA := Lib.hid ha.len
  have HLB := Lib.hid hb.len
  have HA : Hid (∀ w', Below w.heap.size w w' → RB w' w'.heap.size A n a) := Lib.hid fun w' h => ha.later h
  have HB : Hid (∀ w', Below w.heap.size w w' → RB w' w'.heap.size B m b) := Lib.hid fun w' h => hb.later h
  clear ha hb
  go_enter Tryd.func31, Tryd.ntmps31
  go_wp2
  go_loopw [5] (fun i wr => ∃ k : Nat, k ≤ n ∧ k ≤ m ∧ i = .int .i64 k ∧ Hid (a.take k = b.take k) ∧ Hid (Below w.heap.size w wr)) (fun i _ => n - (intOf i).toNat)
  case atStart => exact ⟨0, Nat.zero_le _, Nat.zero_le _, rfl, Lib.hid rfl, Lib.hid (Below.refl _ _)⟩
  case round =>
    obtain ⟨k, hkn, hkm, rfl, HT, HW⟩ := hrel
    by_cases hlt : k < n
    case neg =>
      have HE := Lib.hid (cmp_end HT.out HLA.out HLB.out (by omega) hkm)
      have hd1 : decide ((k : Int) < (n : Int)) = false := decide_eq_false (by omega)
      have hd2 : decide (k < n) = false := decide_eq_false hlt
      by_cases hnm : n < m
      · have HE2 : Hid (cmpB a b = -1) := Lib.hid (by rw [HE.out, if_pos hnm])
        clear HE
        go_wp2
        go_ret
        exact ⟨by rw [HE2.out]; rfl, HW.out⟩
      · have HE2 : Hid (cmpB a b = 0) := Lib.hid (by rw [HE.out, if_neg hnm])
        have hd3 : decide ((n : Int) < (m : Int)) = false := decide_eq_false (by omega)
        have hd4 : decide (n < m) = false := decide_eq_false hnm
        have hd5 : decide ((m : Int) < (n : Int)) = false := decide_eq_false (by omega)
        have hd6 : decide (m < n) = false := decide_eq_false (by omega)
        clear HE
        go_wp2
        go_ret
        exact ⟨by rw [HE2.out]; rfl, HW.out⟩
    have hd1 : decide ((k : Int) < (n : Int)) = true := decide_eq_true (by omega)
    have hd2 : decide (k < n) = true := decide_eq_true hlt
    by_cases hmt : k < m
    case neg =>
      have HE := Lib.hid (cmp_end2 HT.out HLA.out HLB.out (by omega) hlt)
      have hd3 : decide ((k : Int) < (m : Int)) = false := decide_eq_false (by omega)
      have hd4 : decide (k < m) = false := decide_eq_false hmt
      have hd5 : decide ((n : Int) < (m : Int)) = false := decide_eq_false (by omega)
      have hd6 : decide (n < m) = false := decide_eq_false (by omega)
      have hd7 : decide ((m : Int) < (n : Int)) = true := decide_eq_true (by omega)
      have hd8 : decide (m < n) = true := decide_eq_true (by omega)
      go_wp2
      go_ret
      exact ⟨by rw [HE.out]; rfl, HW.out⟩
    have hd3 : decide ((k : Int) < (m : Int)) = true := decide_eq_true (by omega)
    have hd4 : decide (k < m) = true := decide_eq_true hmt
    have hk1 : (k : Int) < (n : Int) := by omega
    have hk2 : (k : Int) < (m : Int) := by omega
    obtain ⟨b1, o1, x, rfl, _, hx, _⟩ := (HA.out _ HW.out).at_ hlt
    obtain ⟨b2, o2, y, rfl, _, hy, _⟩ := (HB.out _ HW.out).at_ hmt
    have HX := Lib.hid hx
    have HY := Lib.hid hy
    have HCX : Hid (∀ w', Below w.heap.size w w' → w'.cell? ⟨b1, o1 + k, none⟩ = some (.int .u8 (x.toNat : Int))) := Lib.hid fun w' h => (HA.out w' h).cell HX.out
    have HCY : Hid (∀ w', Below w.heap.size w w' → w'.cell? ⟨b2, o2 + k, none⟩ = some (.int .u8 (y.toNat : Int))) := Lib.hid fun w' h => (HB.out w' h).cell HY.out
    clear hx hy
    by_cases h1 : x.toNat < y.toNat
    · have HE := Lib.hid (cmp_lt_at HT.out HX.out HY.out h1)
      have c1 := HCX.out _ HW.out
      have c2 := HCY.out _ HW.out
      have e1 : decide ((x.toNat : Int) < (y.toNat : Int)) = true := decide_eq_true (by omega)
      have e2 : decide (x.toNat < y.toNat) = true := decide_eq_true h1
      go_wp2_with fail
      go_quiet (fail)
      have HW2 := Lib.hid (below_drewN (n := nq) HW.out)
      clear c1 c2
      generalize wr.drewN nq = w3 at *
      go_wp2
      go_ret
      exact ⟨by rw [HE.out]; rfl, HW2.out⟩
    have c1 := HCX.out _ HW.out
    have c2 := HCY.out _ HW.out
    have e1 : decide ((x.toNat : Int) < (y.toNat : Int)) = false := decide_eq_false (by omega)
    have e2 : decide (x.toNat < y.toNat) = false := decide_eq_false h1
    go_wp2_with fail
    go_quiet (fail)
    have HW2 := Lib.hid (below_drewN (n := nq) HW.out)
    clear c1 c2
    generalize wr.drewN nq = w3 at *
    have c1 := HCX.out _ HW2.out
    have c2 := HCY.out _ HW2.out
    by_cases h2 : y.toNat < x.toNat
    · have HE := Lib.hid (cmp_gt_at HT.out HX.out HY.out h2)
      have e3 : decide ((y.toNat : Int) < (x.toNat : Int)) = true := decide_eq_true (by omega)
      have e4 : decide (y.toNat < x.toNat) = true := decide_eq_true h2
      go_wp2_with fail
      go_quiet (fail)
      have HW3 := Lib.hid (below_drewN (n := nq) HW2.out)
      clear c1 c2
      generalize w3.drewN nq = w4 at *
      go_wp2
      go_ret
      exact ⟨by rw [HE.out]; rfl, HW3.out⟩
    obtain rfl := UInt8.toNat_inj.1 (show x.toNat = y.toNat by omega)
    have HE := Lib.hid (cmp_eq_at HT.out HX.out HY.out)
    have e3 : decide ((x.toNat : Int) < (x.toNat : Int)) = false := decide_eq_false (by omega)
    have e4 : decide (x.toNat < x.toNat) = false := decide_eq_false h2
    go_wp2_with fail
    go_quiet (fail)
    have HW3 := Lib.hid (below_drewN (n := nq) HW2.out)
    clear c1 c2
    generalize w3.drewN nq = w4 at *
    go_wp2
    go_roundw
    case rel => exact ⟨k + 1, by omega, by omega, by go_num, HE, HW3⟩
    case measure => simp [intOf]; omega

theorem ordB_take {l : List UInt8} {k : Nat} {y : UInt8} (h : l[k]? = some y) : (l.take (k + 1)).flatMap ordC = (l.take k).flatMap ordC ++ ordC y := by
  rw [take_snoc h, List.flatMap_append]; simp

set_option maxRecDepth 100000 in
set_option maxHeartbeats 1000000 in
theorem ordered_any (l : List UInt8) (A : Option Addr) (n c : Nat) (w : World) (hn : n ≤ 70368744177000) (hr : RB w w.heap.size A n l) :
    Calls Tryd.prog 30 #[.slice A n c] w (BytesPost 5 (ordB l) w) := by
  have HL := Lib.hid hr.len
  have HR : Hid (∀ w', Below w.heap.size w w' → RB w' w'.heap.size A n l) := Lib.hid fun w' h => hr.later h
  have HF : Hid (∀ k, ((l.take k).flatMap ordC).length ≤ 140737488354000) := Lib.hid fun k => by
    have := ordF_len (l.take k)
    have h2 : (l.take k).length ≤ l.length := by rw [List.length_take]; omega
    have h3 := HL.out
    omega
  clear hr
  go_enter Tryd.func30, Tryd.ntmps30
  go_wp2_with (at_make; go_must (refine wpList_make_own _ rfl (.const (.int .i64 0)) (.tmp 8) 22 rfl w.heap.size 5 Tryd.t5 (.int .u8 0) 1 Tryd.underlying22 (by kernel_rfl) rfl rfl .i64 .i64 _ (n + 2) rfl rfl (by omega) (by show 1 * _ ≤ _; omega) (by unfold maxLen; omega) (Nat.le_refl _) ?_); intro w1 hown1 hg1)
  have HB1 := Lib.hid (below_grown_none hg1)
  have HO1 := Lib.hid hown1
  clear hown1 hg1
  go_loopw [3, 12] (fun v i wr => ∃ (k : Nat) (P : List UInt8), k ≤ n ∧ i = .int .i64 k ∧ Hid (P = (l.take k).flatMap ordC) ∧ wr.ownsRow w.heap.size 5 1 v P.length (u8s P) ∧ Hid (Below w.heap.size w wr)) (fun _ i _ => n - (intOf i).toNat)
  case atStart => exact ⟨0, [], Nat.zero_le _, rfl, Lib.hid rfl, HO1.out, HB1⟩
  case round =>
    clear HO1 HB1
    obtain ⟨k, P, hk, rfl, HP, hown, HB⟩ := hrel
    obtain ⟨v, hv⟩ : ∃ v, v = u3 := ⟨_, rfl⟩
    rw [← hv] at hown ⊢
    clear hv
    have HPL : Hid (P.length ≤ 140737488354000) := Lib.hid (by rw [HP.out]; exact HF.out k)
    by_cases hlt : k < n
    case neg =>
      have HE : Hid (P ++ [0, 1] = ordB l) := Lib.hid (by rw [HP.out, take_all (by have := HL.out; omega)]; rfl)
      go_wp2_with (at_builtin; go_must (refine wpList_append_reads _ rfl (.tmp 26) (.tmp 27) rfl Tryd.u8s' w.heap.size v P.length (u8s P) rfl (hown.alloc _) (wr.heap.size + 1) (some ⟨wr.heap.size, 0, none⟩) 2 2 (u8s [0, 1]) rfl (by exact reads_lit wr _ [0, 1] _ _ rfl) (u8s_one _) (by have := HPL.out; unfold maxLen; omega) (by have := HPL.out; omega) (by have := HB.out.size; simp; omega) ?_); intro v1 w1 hown1 hg1 hat1)
      go_ret
      have hB : w.heap.size ≤ (wr.alloc (.cells #[.int .u8 0, .int .u8 1] 5)).heap.size := by have := HB.out.size; simp; omega
      have HB1 := below_app (HB.out.alloc HB.out.size _) (hown.alloc _) hg1 hB (Nat.le_refl _)
      rw [← u8s_append, HE.out] at hown1
      exact bytes_post hown1 HB1
    obtain ⟨b, o, y, rfl, _, hy, hcy⟩ := (HR.out _ HB.out).at_ hlt
    have HY := Lib.hid (ordB_take hy)
    clear hy
    by_cases h0 : y.toNat = 0
    · have HN : Hid ((P ++ [y]) ++ [255] = (l.take (k + 1)).flatMap ordC) := Lib.hid (by
        rw [HY.out, HP.out]
        unfold ordC
        rw [if_pos h0, UInt8.toNat_inj.1 (show y.toNat = (0 : UInt8).toNat from h0)]; simp)
      have hd : ((y.toNat : Int) == 0) = true := by rw [beq_iff_eq]; omega
      have tok1 : True := trivial
      clear HY h0
      go_wp2_with (first
        | (at_builtin; have _t := tok1; go_must (refine wpList_append_reads _ rfl (.tmp 16) (.tmp 18) rfl Tryd.u8s' w.heap.size v P.length (u8s P) rfl (hown.alloc _) (wr.heap.size + 1) (some ⟨wr.heap.size, 0, none⟩) 1 1 (u8s [y]) rfl (by exact reads_lit wr _ [y] _ _ rfl) (u8s_one _) (by have := HPL.out; unfold maxLen; omega) (by have := HPL.out; omega) (by have := HB.out.size; simp; omega) ?_); intro v1 w1 hown1 hg1 hat1; clear tok1; have HB1 := Lib.hid (below_app (HB.out.alloc HB.out.size (.cells #[.int .u8 (y.toNat : Int)] 5)) (hown.alloc _) hg1 (by have := HB.out.size; simp; omega) (Nat.le_refl _)); rw [← u8s_append] at hown1; have HO1 := Lib.hid hown1; clear hown1 hg1 hat1)
        | (at_builtin; go_must (refine wpList_append_reads _ rfl (.tmp 22) (.tmp 23) rfl Tryd.u8s' w.heap.size v1 (P.length + 1) (u8s (P ++ [y])) rfl (HO1.out.alloc _) (w1.heap.size + 1) (some ⟨w1.heap.size, 0, none⟩) 1 1 (u8s [255]) rfl (by exact reads_lit w1 _ [255] _ _ rfl) (u8s_one _) (by have := HPL.out; unfold maxLen; omega) (by have := HPL.out; omega) (by have := HB1.out.size; simp; omega) ?_); intro v2 w2 hown2 hg2 hat2; have HB2 := Lib.hid (below_app (HB1.out.alloc HB1.out.size (.cells #[.int .u8 255] 5)) (HO1.out.alloc _) hg2 (by have := HB1.out.size; simp; omega) (Nat.le_refl _)); rw [← u8s_append] at hown2; have HO2 := Lib.hid hown2; clear hown2 hg2 hat2))
      have hO2 : w2.ownsRow w.heap.size 5 1 v2 ((P ++ [y]) ++ [255]).length (u8s ((P ++ [y]) ++ [255])) := by
        have := HO2.out
        have e : ((P ++ [y]) ++ [(255 : UInt8)]).length = P.length + 1 + 1 := by simp
        rw [e]; exact this
      clear HO2 HO1
      go_roundw
      case rel => exact ⟨k + 1, (P ++ [y]) ++ [255], by omega, by go_num, HN, hO2, HB2⟩
      case measure => simp [intOf]; omega
    · have HN : Hid (P ++ [y] = (l.take (k + 1)).flatMap ordC) := Lib.hid (by
        rw [HY.out, HP.out]
        unfold ordC
        rw [if_neg h0])
      have hd : ((y.toNat : Int) == 0) = false := by rw [beq_eq_false_iff_ne]; omega
      clear HY h0
      go_wp2_with (at_builtin; go_must (refine wpList_append_reads _ rfl (.tmp 16) (.tmp 18) rfl Tryd.u8s' w.heap.size v P.length (u8s P) rfl (hown.alloc _) (wr.heap.size + 1) (some ⟨wr.heap.size, 0, none⟩) 1 1 (u8s [y]) rfl (by exact reads_lit wr _ [y] _ _ rfl) (u8s_one _) (by have := HPL.out; unfold maxLen; omega) (by have := HPL.out; omega) (by have := HB.out.size; simp; omega) ?_); intro v1 w1 hown1 hg1 hat1; have HB1 := Lib.hid (below_app (HB.out.alloc HB.out.size (.cells #[.int .u8 (y.toNat : Int)] 5)) (hown.alloc _) hg1 (by have := HB.out.size; simp; omega) (Nat.le_refl _)); rw [← u8s_append] at hown1; have HO1 := Lib.hid hown1; clear hown1 hg1 hat1)
      have hO1 : w1.ownsRow w.heap.size 5 1 v1 (P ++ [y]).length (u8s (P ++ [y])) := by
        have := HO1.out
        rw [show (P ++ [y]).length = P.length + 1 from by simp]; exact this
      clear HO1
      go_roundw
      case rel => exact ⟨k + 1, P ++ [y], by omega, by go_num, HN, hO1, HB1⟩
      case measure => simp [intOf]; omega

end Go.Proofs.YtkkfiffgldhahaaDoor
