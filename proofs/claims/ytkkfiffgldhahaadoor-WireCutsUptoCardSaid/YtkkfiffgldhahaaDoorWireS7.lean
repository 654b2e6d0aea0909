/-
  WireBack, walked.
-/
import Derived.Test.YtkkfiffgldhahaaDoorWireW14
import Derived.Test.YtkkfiffgldhahaaDoorWireS1
import Derived.Deep.RegionHeld3
import Derived.Deep.CutRange
namespace Go.Proofs.YtkkfiffgldhahaaDoor
open Go.RowKit

theorem wB_pos (v : Nat) (l : List UInt8) (i : Nat) (hi : i < 6) : 0 < (wB v l i).length := by
  match i, hi with
  | 0, _ => exact uintB_pos v
  | 1, _ => show 0 < (risB _).length; rw [rTo_len8]; omega
  | 2, _ => show 0 < (risB _).length; rw [rTo_len8]; omega
  | 3, _ => show 0 < (uintB l.length ++ l).length; rw [List.length_append]; have := uintB_pos l.length; omega
  | 4, _ => show 0 < (ordB l).length; unfold ordB; rw [List.length_append, show ([0, 1] : List UInt8).length = 2 from rfl]; omega
  | 5, _ => show 0 < (frameB l).length; rw [frameB_length]; omega
theorem wB_len (v : Nat) (l : List UInt8) (i : Nat) (hi : i < 6) (hv : v < 18446744073709551616) (hl : l.length ≤ 1048576) : (wB v l i).length ≤ 2097200 := by
  match i, hi with
  | 0, _ => show (uintB v).length ≤ _; have := uintB_ten hv; omega
  | 1, _ => show (risB _).length ≤ _; rw [rTo_len8]; omega
  | 2, _ => show (risB _).length ≤ _; rw [rTo_len8]; omega
  | 3, _ => show (uintB l.length ++ l).length ≤ _; rw [List.length_append]; have := uintB_ten (v := l.length) (by omega); omega
  | 4, _ => show (ordB l).length ≤ _; have := ordB_len l; omega
  | 5, _ => show (frameB l).length ≤ _; rw [frameB_length]; omega
theorem reads_all (p r l : List UInt8) (XA A : Option Addr) (m cm n c a v N q : Nat) (w : World) (i : Nat) (hi : i < 6) (hx : Sl w XA m cm (p ++ wB v l i ++ r)) (hs : Sl w A n c l) (hm : m ≤ 140737488355000) (hn : n ≤ 1048576) (ht : TabAt 0 w)
    (hv : v < 18446744073709551616) (hN : N = v / 2) (ha : a = p.length) (hq : q = p.length + (wB v l i).length) :
    Calls Tryd.prog 45 #[.slice XA m cm, .int .i64 a, .int .u64 v, .int .i64 N, .slice A n c, .int .i64 (wK i), .int .i64 q] w fun e w' => e = .returned (.bool true) ∧ Below w.heap.size w w' := by
  subst ha
  have hl := hs.len
  match i, hi with
  | 0, _ => exact reads_0 _ l XA A m cm n c _ q v N w hx hs hm (by rw [hq]; exact readU_back p r v hv)
  | 1, _ => exact reads_1 _ l XA A m cm n c _ q v N w hx hs hm (by rw [hq, hN]; show readR (p ++ risB (v / 2) ++ r) _ = (_, p.length + (risB (v / 2)).length, 0); rw [rTo_len8]; exact readR_back p r _ (by omega))
  | 2, _ => exact reads_2 _ l XA A m cm n c _ q v N w hx hs hm (by rw [hq, hN]; show readFl (p ++ risB (9223372036854775807 - v / 2) ++ r) _ = (_, p.length + (risB (9223372036854775807 - v / 2)).length, 0); rw [rTo_len8]; exact readFl_back p r _ (by omega))
  | 3, _ => exact reads_3 _ l XA A m cm n c _ q v N w hx hs hm (by rw [hq]; exact readBy_back p r l n (by omega) (by omega)) hn
  | 4, _ => exact reads_4 _ l XA A m cm n c _ q v N w hx hs hm (by rw [hq]; exact readO_back p l r)
  | 5, _ => exact reads_5 _ l XA A m cm n c _ q v N w hx hs hm (by rw [hq]; exact readFA_back p l r (by omega)) ht
theorem keep2 {w x y : World} {p q : Addr} {u v : Value} (h : x.cell? p = some u ∧ x.cell? q = some v ∧ Below w.heap.size w x) (hb : Below x.heap.size x y) : y.cell? p = some u ∧ y.cell? q = some v ∧ Below w.heap.size w y :=
  ⟨(hb.cell (World.block_lt_of_cell? x p h.1)).trans h.1, (hb.cell (World.block_lt_of_cell? x q h.2.1)).trans h.2.1, h.2.2.trans (hb.mono h.2.2.size)⟩

set_option maxRecDepth 100000 in
set_option maxHeartbeats 4000000 in
theorem back_any (v : Nat) (l p r : List UInt8) (A P R : Option Addr) (n c np cp nr cr : Nat) (w : World) (hv : v < 18446744073709551616) (hs : Sl w A n c l) (hp : Sl w P np cp p) (hr : Sl w R nr cr r) (hn : n ≤ 1048576) (hnp : np ≤ 1048576) (hnr : nr ≤ 1048576) (ht : TabAt 0 w) :
    Calls Tryd.prog 14 #[.int .u64 v, .slice A n c, .slice P np cp, .slice R nr cr] w fun e w' => e = .returned (.bool true) ∧ Below w.heap.size w w' := by
  have HT : Hid (∀ w', Below w.heap.size w w' → TabAt 0 w') := Lib.hid fun w' h => ht.later h
  have HA : Hid (∀ w', Below w.heap.size w w' → Sl w' A n c l) := Lib.hid fun w' h => hs.later h
  have HP : Hid (∀ w', Below w.heap.size w w' → Sl w' P np cp p) := Lib.hid fun w' h => hp.later h
  have HR : Hid (∀ w', Below w.heap.size w w' → Sl w' R nr cr r) := Lib.hid fun w' h => hr.later h
  have HL := Lib.hid hs.len
  have HPL := Lib.hid hp.len
  have HRL := Lib.hid hr.len
  have HV := Lib.hid hv
  have f3 : Hid (∀ x y z : List UInt8, [x, y, z].flatten = x ++ y ++ z) := Lib.hid fun x y z => by simp
  obtain ⟨N, hN⟩ : ∃ N, N = v / 2 := ⟨_, rfl⟩
  have hsh : (v : Int) / 2 = (N : Int) := by omega
  have hsw : IntKind.i64.wrap (N : Int) = (N : Int) := i64_sum (by omega) (by omega)
  have HN := Lib.hid hN
  clear hs hp hr ht hv hN
  go_enter Tryd.func14, Tryd.ntmps14
  go_wp2_with (go_at_call 44; go_must (refine (written_any v l A n c _ HV.out (HA.out _ (Below.refl _ _)) hn (HT.out _ (Below.refl _ _))).mono ?_); rintro e w1 ⟨b, o, cv, rfl, hbl, hit, hb1⟩; have HB1 := Lib.hid hb1; have HIT := Lib.hid hit; have HBL := Lib.hid hbl; clear hb1 hit hbl)
  go_loopw [10] (fun i wr => ∃ k : Nat, k ≤ 6 ∧ i = .int .i64 k ∧ Hid (Below w1.heap.size w1 wr)) (fun i _ => 6 - (intOf i).toNat)
  case atStart => exact ⟨0, by omega, rfl, Lib.hid (Below.refl _ _)⟩
  case round =>
    obtain ⟨k, hk, rfl, HW⟩ := hrel
    have HBW := Lib.hid (HB1.out.trans (HW.out.mono HB1.out.size))
    by_cases hlt : k < 6
    case neg =>
      have hd : decide ((k : Int) < 6) = false := decide_eq_false (by omega)
      go_wp2_with (go_at_call 18; go_must (refine (started_any _ (HT.out _ HBW.out)).mono ?_); rintro e w9 ⟨rfl, hb9⟩; have HB9 := Lib.hid (HBW.out.trans (hb9.mono HBW.out.size)); clear hb9)
      go_ret
      exact ⟨rfl, HB9.out⟩
    have hd : decide ((k : Int) < 6) = true := decide_eq_true (by omega)
    have hk6 : (k : Int) < 6 := by omega
    obtain ⟨IA, ic, hc1, hc2, hsl⟩ := HIT.out k hlt
    obtain ⟨B, hB⟩ : ∃ B, B = wB v l k := ⟨_, rfl⟩
    rw [← hB] at hc1 hsl
    obtain ⟨J, hJ⟩ : ∃ J, J = p ++ B ++ r := ⟨_, rfl⟩
    have HJ := Lib.hid hJ
    have HBB := Lib.hid hB
    have hBL : B.length ≤ 2097200 := by rw [hB]; exact wB_len v l k hlt HV.out (by rw [HL.out]; exact hn)
    have hB0 : ((B.length : Int) == 0) = false := by rw [beq_eq_false_iff_ne]; have := wB_pos v l k hlt; rw [← hB] at this; omega
    have HJL : Hid (J.length ≤ 5000000) := Lib.hid (by rw [hJ, List.length_append, List.length_append, HPL.out, HRL.out]; omega)
    have HSL := Lib.hid (hsl.later HW.out)
    have hcr1 : wr.cell? ⟨b, o + 2 * k, none⟩ = some (.slice IA B.length ic) := (HW.out.cell (p := ⟨b, o + 2 * k, none⟩) HBL.out).trans hc1
    have hcr2 : wr.cell? ⟨b, o + (2 * k + 1), none⟩ = some (.int .i64 (wK k)) := (HW.out.cell (p := ⟨b, o + (2 * k + 1), none⟩) HBL.out).trans hc2
    have hcr1' : wr.cell? ⟨b, o + k * 2, none⟩ = some (.slice IA B.length ic) := by rw [Nat.mul_comm]; exact hcr1
    clear hc1 hc2 hsl hB hJ
    clear hcr1
    go_upto_region 6 with (go_at_call 23; have HB5 := Lib.hid (HBW.out.alloc HBW.out.size (.cells #[.slice P np cp, .slice IA B.length ic, .slice R nr cr] 22)); go_must (refine (join_any [p, B, r] _ 3 3 _ (by omega) (by exact kv_lit wr #[.slice P np cp, .slice IA B.length ic, .slice R nr cr] [p, B, r] 3 _ _ ((HP.out _ HBW.out).cons (HSL.out.cons ((HR.out _ HBW.out).cons KV.nil))) rfl) (by rw [f3.out, ← HJ.out]; have := HJL.out; omega)).mono ?_); rintro e w6 hpo; rw [f3.out, ← HJ.out] at hpo; obtain ⟨A6, c6, rfl, hS6, _, hb6⟩ := hpo.at_ rfl; have HS6 := Lib.hid hS6; have HB6 := Lib.hid (HB5.out.trans (hb6.mono HB5.out.size)); have HW6 := Lib.hid ((HW.out.alloc HW.out.size (.cells #[.slice P np cp, .slice IA B.length ic, .slice R nr cr] 22)).trans (hb6.mono (HW.out.alloc HW.out.size (.cells #[.slice P np cp, .slice IA B.length ic, .slice R nr cr] 22)).size)); have HX6 := Lib.hid (((Below.refl wr.heap.size wr).alloc (Nat.le_refl _) (.cells #[.slice P np cp, .slice IA B.length ic, .slice R nr cr] 22)).trans (hb6.mono (by simp))); clear hpo hS6 hb6)
    have hbw : b < wr.heap.size := Nat.lt_of_lt_of_le HBL.out HW.out.size
    have hd1 : w6.cell? ⟨b, o + k * 2, none⟩ = some (.slice IA B.length ic) := (HX6.out.cell (p := ⟨b, o + k * 2, none⟩) hbw).trans hcr1'
    have hd2 : w6.cell? ⟨b, o + k * 2 + 1, none⟩ = some (.int .i64 (wK k)) := (HX6.out.cell (p := ⟨b, o + k * 2 + 1, none⟩) hbw).trans (by rw [show o + k * 2 + 1 = o + (2 * k + 1) from by omega]; exact hcr2)
    have hq1 : IntKind.i64.wrap ((np : Int) + (B.length : Int)) = ((np + B.length : Nat) : Int) := by rw [i64_sum (by omega) (by omega)]; omega
    have HRD : Hid (∀ (q : Int) (x : World), q = ((np + B.length : Nat) : Int) → Below w6.heap.size w6 x → Calls Tryd.prog 45 #[.slice A6 J.length c6, .int .i64 np, .int .u64 v, .int .i64 N, .slice A n c, .int .i64 (wK k), .int .i64 q] x fun e w' => e = .returned (.bool true) ∧ Below x.heap.size x w') := Lib.hid fun q x hq hx => by
      subst hq
      exact reads_all p r l A6 A J.length c6 n c np v N (np + B.length) x k hlt (by rw [← HBB.out, ← HJ.out]; exact HS6.out.later hx) (HA.out _ (HB6.out.trans (hx.mono HB6.out.size))) (by have := HJL.out; omega) hn (HT.out _ (HB6.out.trans (hx.mono HB6.out.size))) HV.out HN.out HPL.out.symm (by rw [HPL.out, ← HBB.out])
    clear hcr1' hcr2 hbw
    go_region_held3 (fun w' => w'.cell? ⟨b, o + k * 2, none⟩ = some (.slice IA B.length ic) ∧ w'.cell? ⟨b, o + k * 2 + 1, none⟩ = some (.int .i64 (wK k)) ∧ Below w6.heap.size w6 w') (first | assumption | exact ⟨hd1, hd2, (Below.refl _ _).drew⟩ | exact keep2 ‹_› hb7) (first
      | (go_at_call 45; refine (HRD.out _ _ (by omega) (by have h9 : _ ∧ _ ∧ _ := ‹_ ∧ _ ∧ Below w6.heap.size w6 _›; exact h9.2.2)).mono ?_; rintro e w7 ⟨rfl, hb7⟩))
    go_wp2_with fail
    go_roundw
    case rel => exact ⟨k + 1, by omega, by go_num, Lib.hid (HW6.out.trans (Below.mono (And.right (And.right ‹w7.cell? ⟨b, o + k * 2, none⟩ = some (.slice IA B.length ic) ∧ w7.cell? ⟨b, o + k * 2 + 1, none⟩ = some (.int .i64 (wK k)) ∧ Below w6.heap.size w6 w7›)) HW6.out.size))⟩
    case measure => simp [intOf]; omega
theorem back_at (z : Int) (l p r : List UInt8) (A P R : Option Addr) (n c np cp nr cr : Nat) (w : World) (hz : 0 ≤ z ∧ z < 18446744073709551616) (hs : Sl w A n c l) (hp : Sl w P np cp p) (hr : Sl w R nr cr r) (hn : n ≤ 1048576) (hnp : np ≤ 1048576) (hnr : nr ≤ 1048576) (ht : TabAt 0 w) :
    Calls Tryd.prog 14 #[.int .u64 z, .slice A n c, .slice P np cp, .slice R nr cr] w fun e w' => e = .returned (.bool true) ∧ Below w.heap.size w w' := by
  obtain ⟨v, rfl⟩ : ∃ v : Nat, z = (v : Int) := ⟨z.toNat, by omega⟩
  exact back_any v l p r A P R n c np cp nr cr w (by omega) hs hp hr hn hnp hnr ht
end Go.Proofs.YtkkfiffgldhahaaDoor
