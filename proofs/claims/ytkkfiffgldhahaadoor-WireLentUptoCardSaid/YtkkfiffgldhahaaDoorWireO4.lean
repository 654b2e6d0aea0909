/-
  The statements' written, answers: what is handed out is new, each row apart; walked.
-/
import Derived.Test.YtkkfiffgldhahaaDoorWireO2
import Derived.Test.YtkkfiffgldhahaaDoorWireW4
import Derived.Test.YtkkfiffgldhahaaDoorWireW9
import Derived.Test.YtkkfiffgldhahaaDoorWireW12
import Derived.Deep.CutRange
import Derived.Deep.Onto
import Derived.Deep.DeepCutAuto
namespace Go.Proofs.YtkkfiffgldhahaaDoor
open Go.RowKit

set_option maxRecDepth 100000 in
set_option maxHeartbeats 1000000 in
theorem written_own (v : Nat) (l : List UInt8) (A : Option Addr) (n c : Nat) (w : World) (hv : v < 18446744073709551616) (hs : Sl w A n c l) (hn : n ≤ 1048576) (ht : TabAt 0 w) :
    Calls Tryd.prog 44 #[.int .u64 v, .slice A n c] w fun e w' => ∃ b o cv rs, e = .returned (.slice (some ⟨b, o, none⟩) 6 cv) ∧ b < w'.heap.size ∧ RowsB 5 w.heap.size w' rs ∧ rs.map (·.2.2) = (List.range 6).map (wB v l) ∧ (∀ (i : Nat) a ca k, rs[i]? = some (a, ca, k) → w'.cell? ⟨b, o + 2 * i, none⟩ = some (.slice a k.length ca)) ∧ Below w.heap.size w w' := by
  have HT : Hid (∀ w', Below w.heap.size w w' → TabAt 0 w') := Lib.hid fun w' h => ht.later h
  have HA : Hid (∀ w', Below w.heap.size w w' → Sl w' A n c l) := Lib.hid fun w' h => hs.later h
  have HL := Lib.hid hs.len
  obtain ⟨N, hN⟩ : ∃ N, N = v / 2 := ⟨_, rfl⟩
  have hNb : N < 9223372036854775808 := by omega
  have HV := Lib.hid hv
  have HNb := Lib.hid hNb
  have hsh : (v : Int) / 2 = (N : Int) := by omega
  have hsw : IntKind.i64.wrap ((v : Int) / 2) = (N : Int) := by rw [hsh]; exact i64_sum (by omega) (by omega)
  have tok1 : True := trivial
  have HNN := Lib.hid hN
  clear hs ht hN hv
  go_enter Tryd.func44, Tryd.ntmps44
  go_upto_region 5 with (first
    | (go_at_call 33; go_must (refine (rising_any N _ HNb.out).mono ?_); rintro e w1 hp; obtain ⟨A1, c1, rfl, hS1, hO1, hb1⟩ := BytesPost2.at_ (n := 8) (k' := 0) hp (rTo_len _ _) rfl; have HB1 := Lib.hid hb1; have hR := (RowsB.nil (T := 5) (base := w.heap.size) (w := w)).fresh hb1 hO1 (Nat.le_refl _); have R1 := Lib.hid hR; clear hp hS1 hb1 hO1 hR)
    | (go_at_call 34; go_must (refine (falling_any N _ HNb.out).mono ?_); rintro e w2 hp; obtain ⟨A2, c2, rfl, hS2, hO2, hb2⟩ := BytesPost2.at_ (n := 8) (k' := 0) hp (rTo_len _ _) rfl; have HB2 := Lib.hid (HB1.out.trans (hb2.mono HB1.out.size)); have hR := R1.out.fresh hb2 hO2 HB1.out.size; have R2 := Lib.hid hR; clear hp hS2 hb2 hO2 hR)
    | (go_at_call 26; go_must (refine (uint_any v _ HV.out).mono ?_); rintro e w3 hp; obtain ⟨A3, c3, rfl, hS3, hO3, hb3⟩ := hp.at_ rfl; have HB3 := Lib.hid (HB2.out.trans (hb3.mono HB2.out.size)); have hR := R2.out.fresh hb3 hO3 HB2.out.size; have R3 := Lib.hid hR; clear hp hS3 hb3 hO3 hR)
    | (go_at_call 27; go_must (refine (bytes_any l A n c _ (by omega) (HA.out _ HB3.out).rb).mono ?_); rintro e w4 hp; obtain ⟨A4, c4, rfl, hS4, hO4, hb4⟩ := hp.at_ rfl; have HB4 := Lib.hid (HB3.out.trans (hb4.mono HB3.out.size)); have hR := R3.out.fresh hb4 hO4 HB3.out.size; have R4 := Lib.hid hR; clear hp hS4 hb4 hO4 hR)
    | (go_at_call 30; go_must (refine (ordered_any l A n c _ (by omega) (HA.out _ HB4.out).rb).mono ?_); rintro e w5 hp; obtain ⟨A5, c5, rfl, hS5, hO5, hb5⟩ := hp.at_ rfl; have HB5 := Lib.hid (HB4.out.trans (hb5.mono HB4.out.size)); have hR := R4.out.fresh hb5 hO5 HB4.out.size; have R5 := Lib.hid hR; clear hp hS5 hb5 hO5 hR))
  have hd : decide ((n : Int) ≤ 1048576) = true := decide_eq_true (by omega)
  have HOL := Lib.hid (own_lit w5 #[.slice A3 (uintB v).length c3, .int .i64 2, .slice A1 8 c1, .int .i64 6, .slice A2 8 c2, .int .i64 8, .slice A4 (uintB l.length ++ l).length c4, .int .i64 4, .slice A5 (ordB l).length c5, .int .i64 10] 65 w.heap.size 5 2 HB5.out.size (by unfold maxLen; omega) rfl)
  have HB6 := Lib.hid (HB5.out.alloc HB5.out.size (.cells #[.slice A3 (uintB v).length c3, .int .i64 2, .slice A1 8 c1, .int .i64 6, .slice A2 8 c2, .int .i64 8, .slice A4 (uintB l.length ++ l).length c4, .int .i64 4, .slice A5 (ordB l).length c5, .int .i64 10] 65))
  have HW56 := Lib.hid ((Below.refl w5.heap.size w5).alloc (Nat.le_refl _) (.cells #[.slice A3 (uintB v).length c3, .int .i64 2, .slice A1 8 c1, .int .i64 6, .slice A2 8 c2, .int .i64 8, .slice A4 (uintB l.length ++ l).length c4, .int .i64 4, .slice A5 (ordB l).length c5, .int .i64 10] 65))
  have HSZ : Hid (w5.heap.size < (w5.alloc (.cells #[.slice A3 (uintB v).length c3, .int .i64 2, .slice A1 8 c1, .int .i64 6, .slice A2 8 c2, .int .i64 8, .slice A4 (uintB l.length ++ l).length c4, .int .i64 4, .slice A5 (ordB l).length c5, .int .i64 10] 65)).heap.size) := Lib.hid (by simp)
  have hR6 := R5.out.later HW56.out
  have R6 := Lib.hid hR6
  have HLT6 : Hid (∀ (i : Nat) r a, ([(A1, c1, risB N), (A2, c2, risB (9223372036854775807 - N)), (A3, c3, uintB v), (A4, c4, uintB l.length ++ l), (A5, c5, ordB l)] : RowL)[i]? = some r → r.1 = some a → a.block < w5.heap.size) := Lib.hid fun i r a hr ha => ((R5.out.1 i r hr).lt ha).2
  clear hR6
  simp only [← List.length_append]
  generalize w5.alloc _ = w6 at *
  obtain ⟨xs, hxs⟩ : ∃ xs : List Value, xs = [.slice A3 (uintB v).length c3, .int .i64 2, .slice A1 8 c1, .int .i64 6, .slice A2 8 c2, .int .i64 8, .slice A4 (uintB l.length ++ l).length c4, .int .i64 4, .slice A5 (ordB l).length c5, .int .i64 10] := ⟨_, rfl⟩
  have HXS := Lib.hid hxs
  have HO6 : Hid (w6.ownsRow w.heap.size 65 2 (.slice (some ⟨w5.heap.size, 0, none⟩) 5 5) 5 xs) := Lib.hid (by rw [hxs]; exact HOL.out)
  have HFR : Hid (frameR l = frameB l ∧ frameE l = 0) := Lib.hid (by unfold frameR frameE; rw [HL.out, if_pos hn, if_pos hn]; exact ⟨rfl, rfl⟩)
  obtain ⟨g5, hg5⟩ : ∃ g, g = w5.heap.size := ⟨_, rfl⟩
  have HG5 := Lib.hid hg5
  rw [← hg5] at HO6 ⊢
  clear HOL hxs hg5
  go_wp2_with (first
    | (go_at_call 19; go_must (refine (frame_any l A n c _ (by omega) (HA.out _ HB6.out).cap (HA.out _ HB6.out).lim (HA.out _ HB6.out).nil (HA.out _ HB6.out).rb (HT.out _ HB6.out)).mono ?_); rintro e w7 hp; rw [HFR.out.1, HFR.out.2] at hp; obtain ⟨A7, c7, rfl, _, hF7, hb7⟩ := BytesPost2.at_ (n := (frameB l).length) (k' := 0) hp rfl rfl; have HB7 := Lib.hid (HB6.out.trans (hb7.mono HB6.out.size)); have HF7 := Lib.hid hF7; have hR7 := R6.out.fresh hb7 hF7 HB6.out.size; have R7 := Lib.hid hR7; clear hR7; have HB57 := Lib.hid (HW56.out.trans (hb7.mono HW56.out.size)); have HO7 := Lib.hid (own_below HO6.out hb7); clear hp hb7 hF7)
    | (at_builtin; go_must (refine wpList_append_reads _ rfl (.tmp 48) (.tmp 51) rfl Tryd.wrs w.heap.size (.slice (some ⟨g5, 0, none⟩) 5 5) 5 xs rfl (HO7.out.alloc _) (w7.heap.size + 1) (some ⟨w7.heap.size, 0, none⟩) 1 1 [.slice A7 (frameB l).length c7, .int .i64 13] rfl (by exact Reads.new w7 #[.slice A7 (frameB l).length c7, .int .i64 13] _ 2 1 rfl) (by simp [Value.oneCell']) (by unfold maxLen; omega) (by omega) (by have := HB7.out.size; simp; omega) ?_); intro v8 w8 hown8 hg8 hat8))
  have hsz := HB7.out.size
  have HB8 := Lib.hid (below_app (HB7.out.alloc hsz _) (HO7.out.alloc _) hg8 (by simp; omega) (Nat.le_refl _))
  have HG8 := Lib.hid (show (w7.alloc (.cells #[.slice A7 (frameB l).length c7, .int .i64 13] 65)).grownBy w8 (some g5) from hg8)
  have HX := Lib.hid (HB57.out.alloc HB57.out.size (.cells #[.slice A7 (frameB l).length c7, .int .i64 13] 65))
  have hR8 := (R7.out.later ((Below.refl w7.heap.size w7).alloc (Nat.le_refl _) (.cells #[.slice A7 (frameB l).length c7, .int .i64 13] 65))).chg (grown_chg HG8.out) (fun i r hr a ha e' => by
    injection e' with e'
    by_cases hi : i < 5
    · have := HLT6.out i r a (by rw [← hr]; exact (List.getElem?_append_left hi).symm) ha
      rw [HG5.out] at e'
      omega
    · have hr' : (([(A1, c1, risB N), (A2, c2, risB (9223372036854775807 - N)), (A3, c3, uintB v), (A4, c4, uintB l.length ++ l), (A5, c5, ordB l)] : RowL) ++ [(A7, c7, frameB l)])[i]? = some r := hr
      rw [List.getElem?_append_right (by simp only [List.length_cons, List.length_nil]; omega)] at hr'
      simp only [List.length_cons, List.length_nil] at hr'
      have h0 : i - (0 + 1 + 1 + 1 + 1 + 1) = 0 := by
        have := (List.getElem?_eq_some_iff.1 hr').1
        simp at this; omega
      rw [h0] at hr'
      injection hr' with hr'
      subst hr'
      have h1 := (HF7.out.lt ha).1
      have h2 := HSZ.out
      rw [HG5.out] at e'
      omega)
  have R8 : Hid (RowsB 5 w.heap.size w8 [(A3, c3, uintB v), (A1, c1, risB N), (A2, c2, risB (9223372036854775807 - N)), (A4, c4, uintB l.length ++ l), (A5, c5, ordB l), (A7, c7, frameB l)]) := Lib.hid (hR8.pick (fun i => if i = 0 then 2 else if i = 1 then 0 else if i = 2 then 1 else i) (fun i j hi hj hij => by
      simp only [List.length_cons, List.length_nil] at hi hj
      split <;> split <;> (try split) <;> (try split) <;> (try split) <;> (try split) <;> omega) (fun i s hs => by
      have hi := (List.getElem?_eq_some_iff.1 hs).1
      simp only [List.length_cons, List.length_nil] at hi
      match i, hi with
      | 0, _ => exact hs
      | 1, _ => exact hs
      | 2, _ => exact hs
      | 3, _ => exact hs
      | 4, _ => exact hs
      | 5, _ => exact hs))
  clear hR8
  obtain ⟨A8, c8, rfl, _⟩ := own_slice hown8
  obtain ⟨b8, o8, rfl, hb8, hc8⟩ := (Reads.own hown8).2 (by omega)
  rw [HXS.out] at hc8
  have HC8 := Lib.hid hc8
  clear hown8 hg8 hat8 hc8
  go_ret
  refine ⟨b8, o8, c8, _, rfl, hb8, R8.out, by rw [HNN.out]; rfl, fun i a ca k hk => ?_, HB8.out⟩
  have hi := (List.getElem?_eq_some_iff.1 hk).1
  simp only [List.length_cons, List.length_nil] at hi
  match i, hi with
  | 0, _ => injection hk with hk; injection hk with h1 hk; injection hk with h2 h3; subst h1; subst h2; subst h3; exact HC8.out 0 _ rfl
  | 1, _ => injection hk with hk; injection hk with h1 hk; injection hk with h2 h3; subst h1; subst h2; subst h3; rw [rTo_len8]; exact HC8.out 2 _ rfl
  | 2, _ => injection hk with hk; injection hk with h1 hk; injection hk with h2 h3; subst h1; subst h2; subst h3; rw [rTo_len8]; exact HC8.out 4 _ rfl
  | 3, _ => injection hk with hk; injection hk with h1 hk; injection hk with h2 h3; subst h1; subst h2; subst h3; exact HC8.out 6 _ rfl
  | 4, _ => injection hk with hk; injection hk with h1 hk; injection hk with h2 h3; subst h1; subst h2; subst h3; exact HC8.out 8 _ rfl
  | 5, _ => injection hk with hk; injection hk with h1 hk; injection hk with h2 h3; subst h1; subst h2; subst h3; exact HC8.out 10 _ rfl

/-- What the calls hand out. -/
def ansB (v : Nat) (l all : List UInt8) (a : Int) : List (List UInt8) := (List.range 6).map (wB v l) ++ [(readBy all a all.length).1, (readO all a).1, (readFA all a).1]
theorem ansB_len (v : Nat) (l all : List UInt8) (a : Int) : (ansB v l all a).length = 9 := by simp [ansB]

set_option maxRecDepth 100000 in
set_option maxHeartbeats 2000000 in
theorem answers_any (v : Nat) (l all : List UInt8) (A D : Option Addr) (n c m d : Nat) (a : Int) (w : World) (hv : v < 18446744073709551616) (hs : Sl w A n c l) (hn : n ≤ 1048576) (hd : Sl w D m d all) (hm : m ≤ 1048576) (ht : TabAt 0 w) :
    Calls Tryd.prog 35 #[.int .u64 v, .slice A n c, .slice D m d, .int .i64 a] w fun e w' => ∃ A' c' rs, e = .returned (.slice A' 9 c') ∧ LR 5 22 w.heap.size w' A' 9 c' rs (ansB v l all a) ∧ Below w.heap.size w w' := by
  have HT : Hid (∀ w', Below w.heap.size w w' → TabAt 0 w') := Lib.hid fun w' h => ht.later h
  have HA : Hid (∀ w', Below w.heap.size w w' → Sl w' A n c l) := Lib.hid fun w' h => hs.later h
  have HD : Hid (∀ w', Below w.heap.size w w' → Sl w' D m d all) := Lib.hid fun w' h => hd.later h
  have HML := Lib.hid hd.len
  clear hs hd ht
  go_enter Tryd.func35, Tryd.ntmps35
  go_wp2_with (go_at_call 44; go_must (refine (written_own v l A n c _ hv (HA.out _ (Below.refl _ _)) hn (HT.out _ (Below.refl _ _))).mono ?_); rintro e w1 ⟨b, o, cv, rs, rfl, hblt, hrows, hcont, hcells, hb1⟩; have HB1 := Lib.hid hb1; have HRW := Lib.hid hrows; have HCT := Lib.hid hcont; have HCL : Hid (∀ x, Below w1.heap.size w1 x → ∀ (i : Nat) a ca k, rs[i]? = some (a, ca, k) → x.cell? ⟨b, o + 2 * i, none⟩ = some (.slice a k.length ca)) := Lib.hid (fun x hx i a ca k hk => (hx.cell (p := ⟨b, o + 2 * i, none⟩) hblt).trans (hcells i a ca k hk)); clear hrows hcont hcells hb1 hblt)
  have HRL : Hid (rs.length = 6) := Lib.hid (by have := congrArg List.length HCT.out; simpa using this)
  go_loopw [10, 11] (fun v i wr => ∃ k : Nat, k ≤ 6 ∧ i = .int .i64 k ∧ wr.ownsRow w1.heap.size 22 1 v k ((rs.take k).map valR) ∧ Hid (Below w1.heap.size w1 wr)) (fun _ i _ => 6 - (intOf i).toNat)
  case atStart => exact ⟨0, by omega, rfl, own_nil _ _ _ _, Lib.hid (Below.refl _ _)⟩
  case round =>
    obtain ⟨k, hk, rfl, hown, HB⟩ := hrel
    obtain ⟨v5, hv5⟩ : ∃ v, v = u10 := ⟨_, rfl⟩
    rw [← hv5] at hown ⊢
    have HO := Lib.hid hown
    clear hv5 hown
    by_cases hlt : k < 6
    case neg =>
      have hd6 : decide ((k : Int) < 6) = false := decide_eq_false (by omega)
      obtain rfl : k = 6 := by omega
      have HBW := Lib.hid (HB1.out.trans (HB.out.mono HB1.out.size))
      have HAP : Hid (ApSt 5 22 w.heap.size wr v5 (.slice none 0 0) rs [] []) := Lib.hid (by
        have ho := HO.out
        rw [take_all (by rw [HRL.out]; exact Nat.le_refl _)] at ho
        have hr := HRW.out.later HB.out
        refine ⟨by rw [List.append_nil, List.append_nil]; exact hr, by rw [HRL.out]; exact World.ownsRow.mono ho HB1.out.size, own_nil _ _ _ _, ?_, fun g hg => (by cases hg), fun g hg hu => (by cases hu), HBW.out.size⟩
        rw [List.append_nil, List.append_nil]
        intro g hg i r x hri hx e
        have h1 := (World.ownsRow.lt ho g hg).1
        have h2 := ((HRW.out.1 i r hri).lt hx).2
        omega)
      obtain ⟨R1, hR1⟩ : ∃ R, R = (readBy all a all.length).1 := ⟨_, rfl⟩
      obtain ⟨R2, hR2⟩ : ∃ R, R = (readO all a).1 := ⟨_, rfl⟩
      obtain ⟨R3, hR3⟩ : ∃ R, R = (readFA all a).1 := ⟨_, rfl⟩
      obtain ⟨L1, hL1⟩ : ∃ L, L = R1.length := ⟨_, rfl⟩
      obtain ⟨L2, hL2⟩ : ∃ L, L = R2.length := ⟨_, rfl⟩
      obtain ⟨L3, hL3⟩ : ∃ L, L = R3.length := ⟨_, rfl⟩
      have X1 : Hid ((readBy all a (m : Int)).1 = R1) := Lib.hid (by rw [hR1, HML.out])
      have X2 := Lib.hid hR2
      have X3 := Lib.hid hR3
      have XR1 := Lib.hid hR1
      have XL1 := Lib.hid hL1
      have XL2 := Lib.hid hL2
      have XL3 := Lib.hid hL3
      clear hR1 hR2 hR3 hL1 hL2 hL3
      go_wp2_with (first
        | (go_at_call 29; go_must (refine (rby_any all D m d a (m : Int) _ (HD.out _ HBW.out) (by omega) (by omega)).mono ?_); rintro e w3 hp; rw [X1.out] at hp; obtain ⟨A3, c3, rfl, _, hO3, hb3⟩ := hp.at_ XL1.out.symm rfl rfl; have HB3 := Lib.hid (HBW.out.trans (hb3.mono HBW.out.size)); have hS := HAP.out.fresh hb3 hO3; have S3 : Hid (ApSt 5 22 w.heap.size w3 v5 (.slice none 0 0) rs [] [(A3, c3, R1)]) := Lib.hid hS; clear hp hb3 hO3 hS)
        | (go_at_call 46; go_must (refine (ro_any all D m d a _ (HD.out _ HB3.out) (by omega)).mono ?_); rintro e w4 hp; rw [← X2.out] at hp; obtain ⟨A4, c4, rfl, _, hO4, hb4⟩ := hp.at_ XL2.out.symm rfl rfl; have HB4 := Lib.hid (HB3.out.trans (hb4.mono HB3.out.size)); have hS := S3.out.fresh hb4 hO4; have S4 : Hid (ApSt 5 22 w.heap.size w4 v5 (.slice none 0 0) rs [] [(A3, c3, R1), (A4, c4, R2)]) := Lib.hid hS; clear hp hb4 hO4 hS)
        | (go_at_call 22; go_must (refine (rframe_any all D m d a _ (by omega) (HD.out _ HB4.out).cap (HD.out _ HB4.out).lim (HD.out _ HB4.out).nil (HD.out _ HB4.out).rb (HT.out _ HB4.out)).mono ?_); rintro e w5 hp; rw [← X3.out] at hp; obtain ⟨A5, c5, rfl, _, hO5, hb5⟩ := hp.at_ XL3.out.symm rfl rfl; have HB5 := Lib.hid (HB4.out.trans (hb5.mono HB4.out.size)); have hS := S4.out.fresh hb5 hO5; have S5 : Hid (ApSt 5 22 w.heap.size w5 v5 (.slice none 0 0) rs [] [(A3, c3, R1), (A4, c4, R2), (A5, c5, R3)]) := Lib.hid hS; clear hp hb5 hO5 hS)
        | (at_builtin; go_must (refine wpList_append_reads _ rfl (.tmp 61) (.tmp 65) rfl Tryd.kss w.heap.size v5 rs.length (rs.map valR) rfl (S5.out.ol.alloc _) (w5.heap.size + 1) (some ⟨w5.heap.size, 0, none⟩) 3 3 [.slice A3 L1 c3, .slice A4 L2 c4, .slice A5 L3 c5] rfl (lit3 _ _ _ _ _ _ rfl) (by simp [Value.oneCell']) (by have := HRL.out; unfold maxLen; omega) (by have := HRL.out; omega) (by have := HB5.out.size; simp; omega) ?_); intro v6 w6 hown6 hg6 hat6; have HB6 := Lib.hid ((HB5.out.alloc HB5.out.size (.cells #[.slice A3 L1 c3, .slice A4 L2 c4, .slice A5 L3 c5] 22)).grown hg6 (by have := HB5.out.size; simp; omega) (fun g hg => (World.ownsRow.lt S5.out.ol g hg).1)); have hS := S5.out.appL (v' := v6) rfl (by simp only [List.map_cons, List.map_nil, valR, ← XL1.out, ← XL2.out, ← XL3.out]) hown6 hg6 hat6; obtain ⟨A6, c6, rfl, hlr⟩ := hS.lr (n := 9) rfl (by rw [List.length_append, HRL.out]; rfl); have HLR := Lib.hid hlr; clear hown6 hg6 hat6 hS hlr))
      go_ret
      refine ⟨A6, c6, _, rfl, ⟨HLR.out.ol, HLR.out.rows, HLR.out.off, ?_, HLR.out.len⟩, HB6.out⟩
      rw [List.map_append, HCT.out]
      unfold ansB
      rw [← XR1.out, ← X2.out, ← X3.out]
      rfl
    have hd6 : decide ((k : Int) < 6) = true := decide_eq_true (by omega)
    obtain ⟨r, hr⟩ : ∃ r, rs[k]? = some r := ⟨_, List.getElem?_eq_getElem (by rw [HRL.out]; exact hlt)⟩
    obtain ⟨ra, rc, rk⟩ := r
    have hc := HCL.out wr HB.out k _ _ _ hr
    rw [Nat.mul_comm 2 k] at hc
    obtain ⟨L, hL⟩ : ∃ L, L = rk.length := ⟨_, rfl⟩
    rw [← hL] at hc
    have XR : Hid ((rs.take (k + 1)).map valR = (rs.take k).map valR ++ [.slice ra L rc]) := Lib.hid (by rw [take_snoc hr, List.map_append, hL]; rfl)
    have q1 : (0 : Int) ≤ (k : Int) := by omega
    have q2 : (k : Int) < 6 := by omega
    have HTL : Hid (((rs.take k).map valR).length = k) := Lib.hid (by rw [List.length_map, List.length_take, HRL.out]; omega)
    clear hr hL
    go_wp2_with (at_builtin; go_must (refine wpList_append_reads _ rfl (.tmp 30) (.tmp 36) rfl Tryd.kss w1.heap.size v5 k ((rs.take k).map valR) rfl (HO.out.alloc _) (wr.heap.size + 1) (some ⟨wr.heap.size, 0, none⟩) 1 1 [.slice ra L rc] rfl (lit_one8 _ _ _ _ rfl) (by simp [Value.oneCell']) (by unfold maxLen; omega) (by omega) (by have := HB.out.size; simp; omega) ?_); intro v6 w6 hown6 hg6 hat6; have HO6 := Lib.hid hown6; have HB6 := Lib.hid ((HB.out.alloc HB.out.size (.cells #[.slice ra L rc] 22)).grown hg6 (by have := HB.out.size; simp; omega) (fun g hg => (World.ownsRow.lt HO.out g hg).1)); clear hown6 hg6 hat6)
    have hO6 := HO6.out
    rw [← XR.out] at hO6
    go_roundw
    case rel => exact ⟨k + 1, by omega, by go_num, hO6, HB6⟩
    case measure => simp [intOf]; omega

end Go.Proofs.YtkkfiffgldhahaaDoor
