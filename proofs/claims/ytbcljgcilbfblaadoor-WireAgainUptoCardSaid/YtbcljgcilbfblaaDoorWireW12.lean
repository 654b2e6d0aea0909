/-
  wire.ReadOrdered, wire.ReadRising, wire.ReadFalling, walked.
-/
import Derived.Test.YtbcljgcilbfblaaDoorWireW11
import Derived.Test.YtbcljgcilbfblaaDoorWireP8
namespace Go.Proofs.YtbcljgcilbfblaaDoor
open Go.RowKit

theorem drop_of_get {l : List UInt8} {k : Nat} {c : UInt8} (h : l[k]? = some c) : l.drop k = c :: l.drop (k + 1) := by
  obtain ⟨h1, rfl⟩ := List.getElem?_eq_some_iff.1 h
  exact List.drop_eq_getElem_cons h1

set_option maxRecDepth 100000 in
set_option maxHeartbeats 2000000 in
theorem ro_any (l : List UInt8) (A : Option Addr) (n c : Nat) (a : Int) (w : World) (hs : Sl w A n c l) (hn : n ≤ 140737488355000) :
    Calls Tryd.prog 39 #[.slice A n c, .int .i64 a] w (BytesPost3 5 (readO l a).1 ((readO l a).2.1 : Nat) ((readO l a).2.2 : Nat) w) := by
  have hl := hs.len
  have HR : Hid (∀ w', Below w.heap.size w w' → RB w' w'.heap.size A n l) := Lib.hid fun w' h => hs.rb.later h
  by_cases ho : outB n a = true
  · have HO := Lib.hid ho
    have H : Hid (BytesPost3 5 (readO l a).1 ((readO l a).2.1 : Nat) ((readO l a).2.2 : Nat) w (.returned (.tuple #[.slice none 0 0, .int .i64 0, .int .i64 1])) w) := Lib.hid (by
      unfold outB at ho
      simp at ho
      unfold readO
      rw [if_pos (by omega)]
      exact bytes_none3 (Below.refl _ _))
    clear hs ho hl
    go_enter Tryd.func39, Tryd.ntmps39
    go_wp2_with (go_at_call 18; go_must (refine (outside_any A n c a _).mono ?_); rintro e w0 ⟨rfl, rfl⟩; rw [HO.out])
    go_ret3
    exact H.out
  have ho : outB n a = false := by simpa using ho
  have HO := Lib.hid ho
  have ha : 0 ≤ a ∧ a ≤ n := by unfold outB at ho; simp at ho; omega
  obtain ⟨K, rfl⟩ : ∃ K : Nat, a = (K : Int) := ⟨a.toNat, by omega⟩
  have HL := Lib.hid hl
  obtain ⟨R, hR⟩ : ∃ R, R = readO l (K : Int) := ⟨_, rfl⟩
  rw [← hR]
  have HS : Hid (glO [] K (rdO (l.drop K)) = R) := Lib.hid (by rw [hR, readO_in (by omega)])
  have hK : K ≤ n := by omega
  clear hs ho hl ha hR
  go_enter Tryd.func39, Tryd.ntmps39
  go_wp2_with (go_at_call 18; go_must (refine (outside_any A n c (K : Int) _).mono ?_); rintro e w0 ⟨rfl, rfl⟩; rw [HO.out])
  go_loopw [1, 7] (fun i v wr => ∃ (k : Nat) (P : List UInt8), k ≤ n ∧ i = .int .i64 k ∧ Hid (P.length ≤ k) ∧ Hid (glO P k (rdO (l.drop k)) = R) ∧ wr.ownsRow w.heap.size 5 1 v P.length (u8s P) ∧ Hid (Below w.heap.size w wr)) (fun i _ _ => n - (intOf i).toNat)
  case atStart => exact ⟨K, [], hK, rfl, Lib.hid (by simp), HS, own_nil _ _ _ _, Lib.hid (Below.refl _ _)⟩
  case round =>
    clear HS
    obtain ⟨k, P, hk, rfl, HPL, HG, hown, HB⟩ := hrel
    obtain ⟨v, hv⟩ : ∃ v, v = u7 := ⟨_, rfl⟩
    rw [← hv] at hown ⊢
    clear hv
    have HT : Hid (rdO [] = ([], 0, 10) ∧ ∀ x, rdO [x] = ([], 0, 10)) := Lib.hid ⟨rfl, fun _ => rfl⟩
    have HE : Hid (∀ e, e ≠ 0 → R = ([], 0, e) → BytesPost3 5 R.1 (R.2.1 : Nat) (R.2.2 : Nat) w (.returned (.tuple #[.slice none 0 0, .int .i64 0, .int .i64 e])) wr) := Lib.hid fun e _ h => by
      rw [h]; exact bytes_none3 HB.out
    by_cases hlt : k < n
    case neg =>
      have hd : decide ((k : Int) < (n : Int)) = false := decide_eq_false (by omega)
      have H := Lib.hid (HE.out 10 (by decide) (by rw [← HG.out, List.drop_eq_nil_of_le (by have := HL.out; omega), HT.out.1]; rfl))
      clear HE
      go_wp2
      go_ret3
      exact H.out
    have hd : decide ((k : Int) < (n : Int)) = true := decide_eq_true (by omega)
    obtain ⟨b, o, x, rfl, _, hx, hcx⟩ := (HR.out _ HB.out).at_ hlt
    have HX := Lib.hid (drop_of_get hx)
    clear hx
    by_cases hx0 : x.toNat = 0
    case neg =>
      have hd2 : ((x.toNat : Int) != 0) = true := by rw [bne_iff_ne]; omega
      have HN : Hid (glO (P ++ [x]) (k + 1) (rdO (l.drop (k + 1))) = R) := Lib.hid (by rw [← HG.out, HX.out, rdO_ne hx0, glO_add])
      have HPL2 : Hid ((P ++ [x]).length ≤ k + 1) := Lib.hid (by rw [List.length_append]; have := HPL.out; simp; omega)
      clear HE hx0
      go_wp2_with (at_builtin; go_must (refine wpList_append_reads _ rfl (.tmp 24) (.tmp 26) rfl Tryd.u8s' w.heap.size v P.length (u8s P) rfl (hown.alloc _) (wr.heap.size + 1) (some ⟨wr.heap.size, 0, none⟩) 1 1 (u8s [x]) rfl (by exact reads_lit wr _ [x] _ _ rfl) (u8s_one _) (by have := HPL.out; unfold maxLen; omega) (by have := HPL.out; omega) (by have := HB.out.size; simp; omega) ?_); intro v1 w1 hown1 hg1 hat1; have HB1 := Lib.hid (below_app (HB.out.alloc HB.out.size (.cells #[.int .u8 (x.toNat : Int)] 5)) (hown.alloc _) hg1 (by have := HB.out.size; simp; omega) (Nat.le_refl _)); rw [← u8s_append] at hown1; have HO1 := Lib.hid hown1; clear hown1 hg1 hat1)
      have hO1 : w1.ownsRow w.heap.size 5 1 v1 (P ++ [x]).length (u8s (P ++ [x])) := by
        have := HO1.out
        rw [show (P ++ [x]).length = P.length + 1 from by simp]; exact this
      clear HO1
      go_roundw
      case rel => exact ⟨k + 1, P ++ [x], by omega, by go_num, HPL2, HN, hO1, HB1⟩
      case measure => simp [intOf]; omega
    have hd2 : ((x.toNat : Int) != 0) = false := by rw [bne_eq_false_iff_eq]; omega
    have hq1 : IntKind.i64.wrap ((k : Int) + 1) = (k : Int) + 1 := i64_sum (by omega) (by omega)
    by_cases hlt2 : k + 1 < n
    case neg =>
      have hd3 : ((k : Int) + 1 == (n : Int)) = true := by rw [beq_iff_eq]; omega
      have H := Lib.hid (HE.out 10 (by decide) (by rw [← HG.out, HX.out, List.drop_eq_nil_of_le (by have := HL.out; omega), HT.out.2]; rfl))
      clear HE hx0
      go_wp2
      go_ret3
      exact H.out
    have hd3 : ((k : Int) + 1 == (n : Int)) = false := by rw [beq_eq_false_iff_ne]; omega
    have hq2 : (0 : Int) ≤ (k : Int) + 1 := by omega
    have hq3 : (k : Int) + 1 < (n : Int) := by omega
    have hq4 : ((k : Int) + 1).toNat = k + 1 := by omega
    have hq5 : IntKind.i64.wrap ((k : Int) + 1 + 1) = (k : Int) + 2 := by rw [i64_sum (by omega) (by omega)]; omega
    obtain ⟨b', o', y, e', _, hy, hcy⟩ := (HR.out _ HB.out).at_ hlt2
    injection e' with e'
    injection e' with e1 e2
    subst e1; subst e2
    have HY := Lib.hid (drop_of_get hy)
    clear hy
    by_cases hy1 : y.toNat = 1
    · have hd4 : ((y.toNat : Int) == 1) = true := by rw [beq_iff_eq]; omega
      have H : Hid (BytesPost3 5 R.1 (R.2.1 : Nat) (R.2.2 : Nat) w (.returned (.tuple #[v, .int .i64 ((k : Int) + 2), .int .i64 0])) wr) := Lib.hid (by
        rw [← HG.out, HX.out, HY.out, rdO_one hx0 hy1]
        unfold glO
        rw [if_pos rfl]
        show BytesPost3 5 (P ++ []) ((k + 2 : Nat) : Int) 0 w _ wr
        rw [List.append_nil]
        exact bytes_post3 hown HB.out)
      clear HE hx0
      go_wp2
      go_ret3
      exact H.out
    have hd4 : ((y.toNat : Int) == 1) = false := by rw [beq_eq_false_iff_ne]; omega
    by_cases hy2 : y.toNat = 255
    · have hd5 : ((y.toNat : Int) == 255) = true := by rw [beq_iff_eq]; omega
      have HN : Hid (glO (P ++ [0]) (k + 2) (rdO (l.drop (k + 2))) = R) := Lib.hid (by rw [← HG.out, HX.out, HY.out, rdO_zero hx0 hy2, glO_add])
      have HPL2 : Hid ((P ++ [(0 : UInt8)]).length ≤ k + 2) := Lib.hid (by rw [List.length_append]; have := HPL.out; simp; omega)
      clear HE hx0
      go_wp2_with (at_builtin; go_must (refine wpList_append_reads _ rfl (.tmp 43) (.tmp 44) rfl Tryd.u8s' w.heap.size v P.length (u8s P) rfl (hown.alloc _) (wr.heap.size + 1) (some ⟨wr.heap.size, 0, none⟩) 1 1 (u8s [0]) rfl (by exact reads_lit wr _ [0] _ _ rfl) (u8s_one _) (by have := HPL.out; unfold maxLen; omega) (by have := HPL.out; omega) (by have := HB.out.size; simp; omega) ?_); intro v1 w1 hown1 hg1 hat1; have HB1 := Lib.hid (below_app (HB.out.alloc HB.out.size (.cells #[.int .u8 0] 5)) (hown.alloc _) hg1 (by have := HB.out.size; simp; omega) (Nat.le_refl _)); rw [← u8s_append] at hown1; have HO1 := Lib.hid hown1; clear hown1 hg1 hat1)
      have hO1 : w1.ownsRow w.heap.size 5 1 v1 (P ++ [(0 : UInt8)]).length (u8s (P ++ [(0 : UInt8)])) := by
        have := HO1.out
        rw [show (P ++ [(0 : UInt8)]).length = P.length + 1 from by simp]; exact this
      clear HO1
      go_roundw
      case rel => exact ⟨k + 2, P ++ [0], by omega, by go_num, HPL2, HN, hO1, HB1⟩
      case measure => simp [intOf]; omega
    · have hd5 : ((y.toNat : Int) == 255) = false := by rw [beq_eq_false_iff_ne]; omega
      have H := Lib.hid (HE.out 11 (by decide) (by rw [← HG.out, HX.out, HY.out, rdO_form hx0 hy1 hy2]; rfl))
      clear HE hx0
      go_wp2
      go_ret3
      exact H.out

/-- A number, a place, an error. -/
def RRPost (r : Nat × Nat × Nat) (w : World) (e : Ending) (w' : World) : Prop := e = .returned (.tuple #[.int .i64 r.1, .int .i64 r.2.1, .int .i64 r.2.2]) ∧ w = w'

set_option maxRecDepth 100000 in
set_option maxHeartbeats 2000000 in
theorem rr_any (l : List UInt8) (A : Option Addr) (n c : Nat) (a : Int) (w : World) (hs : Sl w A n c l) (_hn : n ≤ 140737488355000) :
    Calls Tryd.prog 27 #[.slice A n c, .int .i64 a] w (RRPost (readR l a) w) := by
  have hl := hs.len
  by_cases ho : outB n a = true
  · have HO := Lib.hid ho
    have H : Hid (readR l a = (0, 0, 1)) := Lib.hid (by
      unfold outB at ho
      simp at ho
      unfold readR
      rw [if_pos (by omega)])
    clear hs ho hl
    go_enter Tryd.func27, Tryd.ntmps27
    go_wp2_with (go_at_call 18; go_must (refine (outside_any A n c a _).mono ?_); rintro e w0 ⟨rfl, rfl⟩; rw [HO.out])
    go_ret3
    rw [H.out]
    exact ⟨rfl, rfl⟩
  have ho : outB n a = false := by simpa using ho
  have HO := Lib.hid ho
  have ha : 0 ≤ a ∧ a ≤ n := by unfold outB at ho; simp at ho; omega
  obtain ⟨k, rfl⟩ : ∃ k : Nat, a = (k : Int) := ⟨a.toNat, by omega⟩
  have hk : k ≤ n := by omega
  have hbase : readR l (k : Int) = if n < k + 8 then (0, 0, 10) else if 127 < (l[k]?.getD 0).toNat then (0, 0, 13) else (big (cutS l k 8), k + 8, 0) := by
    unfold readR; rw [if_neg (by omega), Int.toNat_natCast, hl]
  have hcap := hs.cap
  have hlim := hs.lim
  by_cases h8 : n < k + 8
  · have H : Hid (readR l (k : Int) = (0, 0, 10)) := Lib.hid (by rw [hbase, if_pos h8])
    have hd : decide ((n : Int) - (k : Int) < 8) = true := decide_eq_true (by omega)
    clear hs ho hl ha hbase
    go_enter Tryd.func27, Tryd.ntmps27
    go_wp2_with (go_at_call 18; go_must (refine (outside_any A n c (k : Int) _).mono ?_); rintro e w0 ⟨rfl, rfl⟩; rw [HO.out])
    go_ret3
    rw [H.out]
    exact ⟨rfl, rfl⟩
  rw [if_neg h8] at hbase
  have hd : decide ((n : Int) - (k : Int) < 8) = false := decide_eq_false (by omega)
  have hkn : k < n := by omega
  obtain ⟨b, o, x, rfl, _, hx, hcx⟩ := hs.rb.at_ hkn
  rw [hx] at hbase
  by_cases hbig : 127 < x.toNat
  · have H : Hid (readR l (k : Int) = (0, 0, 13)) := Lib.hid (by rw [hbase, Option.getD_some, if_pos hbig])
    have hd2 : decide ((127 : Int) < (x.toNat : Int)) = true := decide_eq_true (by omega)
    have hd3 : decide (127 < x.toNat) = true := decide_eq_true hbig
    clear hs ho hl ha hbase hx
    go_enter Tryd.func27, Tryd.ntmps27
    go_wp2_with (go_at_call 18; go_must (refine (outside_any _ n c (k : Int) _).mono ?_); rintro e w0 ⟨rfl, rfl⟩; rw [HO.out])
    go_ret3
    rw [H.out]
    exact ⟨rfl, rfl⟩
  have HBS : Hid (readR l (k : Int) = (big (cutS l k 8), k + 8, 0)) := Lib.hid (by rw [hbase, Option.getD_some, if_neg hbig])
  have hd2 : decide ((127 : Int) < (x.toNat : Int)) = false := decide_eq_false (by omega)
  have hd3 : decide (127 < x.toNat) = false := decide_eq_false hbig
  obtain ⟨L, hL⟩ : ∃ L, L = cutS l k 8 := ⟨_, rfl⟩
  rw [← hL] at HBS
  have HLL : Hid (L.length = 8) := Lib.hid (by rw [hL]; unfold cutS; rw [List.length_take, List.length_drop]; omega)
  have H0 : Hid ((L[0]?.getD 0).toNat ≤ 127) := Lib.hid (by
    have e : L[0]? = l[k]? := by rw [hL]; unfold cutS; rw [List.getElem?_take_of_lt (by omega), List.getElem?_drop, Nat.add_zero]
    rw [e, hx, Option.getD_some]; omega)
  have HC : Hid (∀ (j : Nat) (y : UInt8), L[j]? = some y → w.cell? ⟨b, o + k + j, none⟩ = some (.int .u8 (y.toNat : Int))) := Lib.hid fun j y hy => by
    have hj : j < 8 := by have := (List.getElem?_eq_some_iff.1 hy).1; rw [HLL.out] at this; exact this
    have e : L[j]? = l[k + j]? := by rw [hL]; unfold cutS; rw [List.getElem?_take_of_lt hj, List.getElem?_drop]
    rw [e] at hy
    rw [Nat.add_assoc]
    exact hs.rb.cell hy
  have k0 : IntKind.i64.wrap ((k : Int) + 8) = (k : Int) + 8 := i64_sum (by omega) (by omega)
  have k1 : (0 : Int) ≤ (k : Int) + 8 := by omega
  have k2 : (k : Int) + 8 ≤ (c : Int) := by omega
  have k3 : ((k : Int) + 8).toNat = k + 8 := by omega
  have k4 : k ≤ k + 8 := by omega
  have k5 : k + 8 - k = 8 := by omega
  have k6 : c ≠ k := by omega
  clear hs ho hl ha hbase hx hL hbig
  go_enter Tryd.func27, Tryd.ntmps27
  go_wp2_with (go_at_call 18; go_must (refine (outside_any _ n c (k : Int) _).mono ?_); rintro e w0 ⟨rfl, rfl⟩; rw [HO.out])
  go_loop [7, 32] (fun s i => ∃ j : Nat, j ≤ 8 ∧ i = .int .i64 j ∧ ∃ N : Nat, Hid (N = big (L.take j)) ∧ N < 9223372036854775808 ∧ s = .int .i64 N) (fun _ i => 8 - (intOf i).toNat)
  case atStart => exact ⟨0, by omega, rfl, 0, Lib.hid (by simp [big]), by omega, rfl⟩
  case round =>
    obtain ⟨j, hj, rfl, N, HN, hN, rfl⟩ := hrel
    by_cases hlt : j < 8
    case neg =>
      have hdj : decide ((j : Int) < 8) = false := decide_eq_false (by omega)
      have HE : Hid (readR l (k : Int) = (N, k + 8, 0)) := Lib.hid (by rw [HBS.out, HN.out, take_all (by rw [HLL.out]; omega)])
      go_wp2
      go_ret3
      rw [HE.out]
      exact ⟨rfl, rfl⟩
    have hdj : decide ((j : Int) < 8) = true := decide_eq_true (by omega)
    obtain ⟨y, hy⟩ : ∃ y, L[j]? = some y := ⟨_, List.getElem?_eq_getElem (by rw [HLL.out]; exact hlt)⟩
    have hcy := HC.out j y hy
    have HB7 := Lib.hid (big_take H0.out (j := j) (by omega))
    have hNb : N < 36028797018963968 := by have := HB7.out; rw [← HN.out] at this; exact this
    have e1 := or_step N y hNb
    have e2 : wrap64 ((N : Int) * 256) = (N : Int) * 256 := wrap64_id (by omega) (by omega)
    have e3 : IntKind.i64.wrap ((N : Int) * 256) = (N : Int) * 256 := i64_sum (by omega) (by omega)
    have HN2 : Hid (N * 256 + y.toNat = big (L.take (j + 1))) := Lib.hid (by rw [take_snoc hy, big_snoc, HN.out])
    have hy8 := y.toNat_lt
    clear hy
    go_wp2
    go_round
    case rel => exact ⟨j + 1, by omega, by go_num, N * 256 + y.toNat, HN2, by omega, rfl⟩
    case measure => simp [intOf]; omega

set_option maxRecDepth 100000 in
set_option maxHeartbeats 2000000 in
theorem rfl_any (l : List UInt8) (A : Option Addr) (n c : Nat) (a : Int) (w : World) (hs : Sl w A n c l) (hn : n ≤ 140737488355000) :
    Calls Tryd.prog 31 #[.slice A n c, .int .i64 a] w (RRPost (readFl l a) w) := by
  have hend := readR_end l a
  have HC := Lib.hid (rr_any l A n c a w hs hn)
  obtain ⟨v, hv⟩ : ∃ v, v = (readR l a).1 := ⟨_, rfl⟩
  obtain ⟨p, hp⟩ : ∃ p, p = (readR l a).2.1 := ⟨_, rfl⟩
  obtain ⟨k, hk⟩ : ∃ k, k = (readR l a).2.2 := ⟨_, rfl⟩
  have hbase : readFl l a = if k = 0 then (9223372036854775807 - v, p, 0) else (0, 0, k) := by unfold readFl; rw [hv, hp, hk]
  have HU : Hid (RRPost (readR l a) w = RRPost (v, p, k) w) := Lib.hid (by rw [hv, hp, hk])
  rw [← hv, ← hk] at hend
  clear hv hp hk hs
  by_cases hk0 : k = 0
  · have H : Hid (readFl l a = (9223372036854775807 - v, p, 0)) := Lib.hid (by rw [hbase, if_pos hk0])
    obtain ⟨_, _, _, _, hv⟩ := hend hk0
    subst hk0
    have q1 : IntKind.i64.wrap (9223372036854775807 - (v : Int)) = ((9223372036854775807 - v : Nat) : Int) := by rw [i64_sum (by omega) (by omega)]; omega
    have q2 : (9223372036854775807 - (v : Int)) = ((9223372036854775807 - v : Nat) : Int) := by omega
    have HQ := Lib.hid q2
    clear hbase hend q2
    go_enter Tryd.func31, Tryd.ntmps31
    go_wp2_with (go_at_call 27; go_must (refine HC.out.mono ?_); rw [HU.out]; rintro e w1 ⟨rfl, rfl⟩)
    go_ret3
    rw [H.out]
    refine ⟨?_, rfl⟩
    first
      | rfl
      | (rw [← HQ.out]; rfl)
  · have H : Hid (readFl l a = (0, 0, k)) := Lib.hid (by rw [hbase, if_neg hk0])
    have hd : ((k : Int) != 0) = true := by rw [bne_iff_ne]; omega
    clear hbase hend
    go_enter Tryd.func31, Tryd.ntmps31
    go_wp2_with (go_at_call 27; go_must (refine HC.out.mono ?_); rw [HU.out]; rintro e w1 ⟨rfl, rfl⟩)
    go_ret3
    rw [H.out]
    exact ⟨rfl, rfl⟩

end Go.Proofs.YtbcljgcilbfblaaDoor
