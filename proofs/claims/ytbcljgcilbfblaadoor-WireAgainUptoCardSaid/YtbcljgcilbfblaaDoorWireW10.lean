/-
  The statements' begins and order; wire.Ordered; walked.
-/
import Derived.Test.YtbcljgcilbfblaaDoorWireW5
import Derived.Test.YtbcljgcilbfblaaDoorWireP7
import Derived.Deep.QuietTactic
import Derived.BigQuiet
namespace Go.Proofs.YtbcljgcilbfblaaDoor
open Go.RowKit

theorem cmp_lt_at {a b : List UInt8} {k : Nat} {x y : UInt8} (h : a.take k = b.take k) (ha : a[k]? = some x) (hb : b[k]? = some y) (hxy : x.toNat < y.toNat) : cmpB a b = -1 := by
  obtain ⟨h1, rfl⟩ := List.getElem?_eq_some_iff.1 ha
  obtain ⟨h2, rfl⟩ := List.getElem?_eq_some_iff.1 hb
  rw [← cmpB_drop a b k h, List.drop_eq_getElem_cons h1, List.drop_eq_getElem_cons h2, cmpB_lt hxy]
theorem cmp_gt_at {a b : List UInt8} {k : Nat} {x y : UInt8} (h : a.take k = b.take k) (ha : a[k]? = some x) (hb : b[k]? = some y) (hxy : y.toNat < x.toNat) : cmpB a b = 1 := by
  obtain ⟨h1, rfl⟩ := List.getElem?_eq_some_iff.1 ha
  obtain ⟨h2, rfl⟩ := List.getElem?_eq_some_iff.1 hb
  rw [← cmpB_drop a b k h, List.drop_eq_getElem_cons h1, List.drop_eq_getElem_cons h2, cmpB_gt hxy]
theorem cmp_eq_at {a b : List UInt8} {k : Nat} {x : UInt8} (h : a.take k = b.take k) (ha : a[k]? = some x) (hb : b[k]? = some x) : a.take (k + 1) = b.take (k + 1) := by
  rw [take_snoc ha, take_snoc hb, h]
theorem cmp_end {a b : List UInt8} {k n m : Nat} (h : a.take k = b.take k) (ha : a.length = n) (hb : b.length = m) (hk : k = n) (hm : k ≤ m) : cmpB a b = if n < m then -1 else 0 := by
  subst hk
  rw [← cmpB_drop a b k h, List.drop_eq_nil_of_le (by omega)]
  split
  · rw [List.drop_eq_getElem_cons (by omega)]; rfl
  · rw [List.drop_eq_nil_of_le (by omega)]; rfl
theorem cmp_end2 {a b : List UInt8} {k n m : Nat} (h : a.take k = b.take k) (ha : a.length = n) (hb : b.length = m) (hk : k = m) (hm : k < n) : cmpB a b = 1 := by
  subst hk
  rw [← cmpB_drop a b k h, show b.drop k = [] from List.drop_eq_nil_of_le (by omega), List.drop_eq_getElem_cons (by omega)]; rfl

theorem ordB_take {l : List UInt8} {k : Nat} {y : UInt8} (h : l[k]? = some y) : (l.take (k + 1)).flatMap ordC = (l.take k).flatMap ordC ++ ordC y := by
  rw [take_snoc h, List.flatMap_append]; simp

set_option maxRecDepth 100000 in
set_option maxHeartbeats 1000000 in
theorem ordered_any (l : List UInt8) (A : Option Addr) (n c : Nat) (w : World) (hn : n ≤ 70368744177000) (hr : RB w w.heap.size A n l) :
    Calls Tryd.prog 37 #[.slice A n c] w (BytesPost 5 (ordB l) w) := by
  have HL := Lib.hid hr.len
  have HR : Hid (∀ w', Below w.heap.size w w' → RB w' w'.heap.size A n l) := Lib.hid fun w' h => hr.later h
  have HF : Hid (∀ k, ((l.take k).flatMap ordC).length ≤ 140737488354000) := Lib.hid fun k => by
    have := ordF_len (l.take k)
    have h2 : (l.take k).length ≤ l.length := by rw [List.length_take]; omega
    have h3 := HL.out
    omega
  clear hr
  go_enter Tryd.func37, Tryd.ntmps37
  go_wp2_with (at_make; go_must (refine wpList_make_own _ rfl (.const (.int .i64 0)) (.tmp 8) 25 rfl w.heap.size 5 Tryd.t5 (.int .u8 0) 1 Tryd.underlying25 (by kernel_rfl) rfl rfl .i64 .i64 _ (n + 2) rfl rfl (by omega) (by show 1 * _ ≤ _; omega) (by unfold maxLen; omega) (Nat.le_refl _) ?_); intro w1 hown1 hg1)
  have HB1 := Lib.hid (below_grown_none hg1)
  have HO1 := Lib.hid hown1
  clear hown1 hg1
  go_loopw [3, 12] (fun v i wr => ∃ (k : Nat) (P : List UInt8), k ≤ n ∧ i = .int .i64 k ∧ Hid (P = (l.take k).flatMap ordC) ∧ wr.ownsRow w.heap.size 5 1 v P.length (u8s P) ∧ Hid (Below w.heap.size w wr)) (fun _ i _ => n - (intOf i).toNat)
  case atStart => exact ⟨0, [], Nat.zero_le _, rfl, Lib.hid rfl, HO1.out, HB1⟩
  case round =>
    clear HO1 HB1
    obtain ⟨k, P, hk, rfl, HP, hown, HB⟩ := hrel
    obtain ⟨v, hv⟩ : ∃ v, v = u3 := ⟨_, rfl⟩
    rw [← hv] at hown ⊢
    clear hv
    have HPL : Hid (P.length ≤ 140737488354000) := Lib.hid (by rw [HP.out]; exact HF.out k)
    by_cases hlt : k < n
    case neg =>
      have HE : Hid (P ++ [0, 1] = ordB l) := Lib.hid (by rw [HP.out, take_all (by have := HL.out; omega)]; rfl)
      go_wp2_with (at_builtin; go_must (refine wpList_append_reads _ rfl (.tmp 26) (.tmp 27) rfl Tryd.u8s' w.heap.size v P.length (u8s P) rfl (hown.alloc _) (wr.heap.size + 1) (some ⟨wr.heap.size, 0, none⟩) 2 2 (u8s [0, 1]) rfl (by exact reads_lit wr _ [0, 1] _ _ rfl) (u8s_one _) (by have := HPL.out; unfold maxLen; omega) (by have := HPL.out; omega) (by have := HB.out.size; simp; omega) ?_); intro v1 w1 hown1 hg1 hat1)
      go_ret
      have hB : w.heap.size ≤ (wr.alloc (.cells #[.int .u8 0, .int .u8 1] 5)).heap.size := by have := HB.out.size; simp; omega
      have HB1 := below_app (HB.out.alloc HB.out.size _) (hown.alloc _) hg1 hB (Nat.le_refl _)
      rw [← u8s_append, HE.out] at hown1
      exact bytes_post hown1 HB1
    obtain ⟨b, o, y, rfl, _, hy, hcy⟩ := (HR.out _ HB.out).at_ hlt
    have HY := Lib.hid (ordB_take hy)
    clear hy
    by_cases h0 : y.toNat = 0
    · have HN : Hid ((P ++ [y]) ++ [255] = (l.take (k + 1)).flatMap ordC) := Lib.hid (by
        rw [HY.out, HP.out]
        unfold ordC
        rw [if_pos h0, UInt8.toNat_inj.1 (show y.toNat = (0 : UInt8).toNat from h0)]; simp)
      have hd : ((y.toNat : Int) == 0) = true := by rw [beq_iff_eq]; omega
      have tok1 : True := trivial
      clear HY h0
      go_wp2_with (first
        | (at_builtin; have _t := tok1; go_must (refine wpList_append_reads _ rfl (.tmp 16) (.tmp 18) rfl Tryd.u8s' w.heap.size v P.length (u8s P) rfl (hown.alloc _) (wr.heap.size + 1) (some ⟨wr.heap.size, 0, none⟩) 1 1 (u8s [y]) rfl (by exact reads_lit wr _ [y] _ _ rfl) (u8s_one _) (by have := HPL.out; unfold maxLen; omega) (by have := HPL.out; omega) (by have := HB.out.size; simp; omega) ?_); intro v1 w1 hown1 hg1 hat1; clear tok1; have HB1 := Lib.hid (below_app (HB.out.alloc HB.out.size (.cells #[.int .u8 (y.toNat : Int)] 5)) (hown.alloc _) hg1 (by have := HB.out.size; simp; omega) (Nat.le_refl _)); rw [← u8s_append] at hown1; have HO1 := Lib.hid hown1; clear hown1 hg1 hat1)
        | (at_builtin; go_must (refine wpList_append_reads _ rfl (.tmp 22) (.tmp 23) rfl Tryd.u8s' w.heap.size v1 (P.length + 1) (u8s (P ++ [y])) rfl (HO1.out.alloc _) (w1.heap.size + 1) (some ⟨w1.heap.size, 0, none⟩) 1 1 (u8s [255]) rfl (by exact reads_lit w1 _ [255] _ _ rfl) (u8s_one _) (by have := HPL.out; unfold maxLen; omega) (by have := HPL.out; omega) (by have := HB1.out.size; simp; omega) ?_); intro v2 w2 hown2 hg2 hat2; have HB2 := Lib.hid (below_app (HB1.out.alloc HB1.out.size (.cells #[.int .u8 255] 5)) (HO1.out.alloc _) hg2 (by have := HB1.out.size; simp; omega) (Nat.le_refl _)); rw [← u8s_append] at hown2; have HO2 := Lib.hid hown2; clear hown2 hg2 hat2))
      have hO2 : w2.ownsRow w.heap.size 5 1 v2 ((P ++ [y]) ++ [255]).length (u8s ((P ++ [y]) ++ [255])) := by
        have := HO2.out
        have e : ((P ++ [y]) ++ [(255 : UInt8)]).length = P.length + 1 + 1 := by simp
        rw [e]; exact this
      clear HO2 HO1
      go_roundw
      case rel => exact ⟨k + 1, (P ++ [y]) ++ [255], by omega, by go_num, HN, hO2, HB2⟩
      case measure => simp [intOf]; omega
    · have HN : Hid (P ++ [y] = (l.take (k + 1)).flatMap ordC) := Lib.hid (by
        rw [HY.out, HP.out]
        unfold ordC
        rw [if_neg h0])
      have hd : ((y.toNat : Int) == 0) = false := by rw [beq_eq_false_iff_ne]; omega
      clear HY h0
      go_wp2_with (at_builtin; go_must (refine wpList_append_reads _ rfl (.tmp 16) (.tmp 18) rfl Tryd.u8s' w.heap.size v P.length (u8s P) rfl (hown.alloc _) (wr.heap.size + 1) (some ⟨wr.heap.size, 0, none⟩) 1 1 (u8s [y]) rfl (by exact reads_lit wr _ [y] _ _ rfl) (u8s_one _) (by have := HPL.out; unfold maxLen; omega) (by have := HPL.out; omega) (by have := HB.out.size; simp; omega) ?_); intro v1 w1 hown1 hg1 hat1; have HB1 := Lib.hid (below_app (HB.out.alloc HB.out.size (.cells #[.int .u8 (y.toNat : Int)] 5)) (hown.alloc _) hg1 (by have := HB.out.size; simp; omega) (Nat.le_refl _)); rw [← u8s_append] at hown1; have HO1 := Lib.hid hown1; clear hown1 hg1 hat1)
      have hO1 : w1.ownsRow w.heap.size 5 1 v1 (P ++ [y]).length (u8s (P ++ [y])) := by
        have := HO1.out
        rw [show (P ++ [y]).length = P.length + 1 from by simp]; exact this
      clear HO1
      go_roundw
      case rel => exact ⟨k + 1, P ++ [y], by omega, by go_num, HN, hO1, HB1⟩
      case measure => simp [intOf]; omega

end Go.Proofs.YtbcljgcilbfblaaDoor
