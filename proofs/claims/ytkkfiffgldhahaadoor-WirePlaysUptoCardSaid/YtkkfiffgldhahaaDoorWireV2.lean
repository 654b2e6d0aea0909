/-
  The statements' roomy, plays, walked.
-/
import Derived.Test.YtkkfiffgldhahaaDoorWireV1
import Derived.Test.YtkkfiffgldhahaaDoorKit5
import Derived.Deep.DeepCutAuto
import Derived.Outline
import Derived.Deep.CutBlock
namespace Go.Proofs.YtkkfiffgldhahaaDoor
open Go.RowKit

theorem Tryd.pts : SliceOf Tryd.prog 37 22 1 24 := SliceOf.mk' (z := .slice none 0 0) Tryd.underlying37 (by kernel_rfl) rfl (by decide)
/-- The five marks. -/
def mk5 : List UInt8 := [201, 202, 203, 204, 205]
theorem mk5_len : mk5.length = 5 := rfl

set_option maxRecDepth 100000 in
set_option maxHeartbeats 1000000 in
theorem roomy_any (l : List UInt8) (A : Option Addr) (n c : Nat) (w : World) (hn : n ≤ 140737488355000) (hr : RB w w.heap.size A n l) :
    Calls Tryd.prog 81 #[.slice A n c] w (BytesPost 5 (l ++ mk5) w) := by
  have HR : Hid (∀ w', Below w.heap.size w w' → RB w' w'.heap.size A n l) := Lib.hid fun w' h => hr.later h
  have HL := Lib.hid hr.len
  have tok1 : True := trivial
  clear hr
  go_enter Tryd.func81, Tryd.ntmps81
  go_wp2_with (first
    | (at_builtin; have _t := tok1; go_must (refine wpList_append_reads _ rfl (.tmp 4) (.tmp 5) rfl Tryd.u8s' w.heap.size (.slice none 0 0) 0 [] rfl (own_nil _ _ _ _) _ A n c (u8s l) rfl (HR.out _ (Below.refl _ _)) (u8s_one _) (by unfold maxLen; omega) (by omega) (Nat.le_refl _) ?_); intro v1 w1 hown1 hg1 hat1; clear tok1; have HB1 := Lib.hid (below_app (Below.refl w.heap.size w) (own_nil _ w.heap.size 5 1) hg1 (Nat.le_refl _) (Nat.le_refl _)); rw [List.nil_append, Nat.zero_add] at hown1; have HO1 := Lib.hid hown1; clear hown1 hg1 hat1)
    | (at_builtin; go_must (refine wpList_append_reads _ rfl (.tmp 7) (.tmp 8) rfl Tryd.u8s' w.heap.size v1 n (u8s l) rfl (HO1.out.alloc _) (w1.heap.size + 1) (some ⟨w1.heap.size, 0, none⟩) 5 5 (u8s mk5) rfl (by exact reads_lit w1 _ mk5 _ _ rfl) (u8s_one _) (by unfold maxLen; omega) (by omega) (by have := HB1.out.size; simp; omega) ?_); intro v2 w2 hown2 hg2 hat2; have HB2 := Lib.hid (below_app (HB1.out.alloc HB1.out.size (.cells #[.int .u8 201, .int .u8 202, .int .u8 203, .int .u8 204, .int .u8 205] 5)) (HO1.out.alloc _) hg2 (by have := HB1.out.size; simp; omega) (Nat.le_refl _)); rw [← u8s_append] at hown2; have HO2 := Lib.hid hown2; clear hown2 hg2 hat2))
  go_ret
  exact bytes_post HO2.out HB2.out

theorem box_all (w : World) (C : Array Value) (t : TypeId) (u0 u1 u2 u3 u4 u5 : Value) (h : C = #[u0, u1, u2, u3, u4, u5]) :
    Hid (∀ x, Below (w.alloc (.cells C t)).heap.size (w.alloc (.cells C t)) x → x.cell? ⟨w.heap.size, 0, none⟩ = some u0 ∧ x.cell? ⟨w.heap.size, 1, none⟩ = some u1 ∧ x.cell? ⟨w.heap.size, 2, none⟩ = some u2 ∧ x.cell? ⟨w.heap.size, 3, none⟩ = some u3 ∧ x.cell? ⟨w.heap.size, 4, none⟩ = some u4 ∧ x.cell? ⟨w.heap.size, 5, none⟩ = some u5) := Lib.hid fun x hb => by
  subst h
  exact ⟨(hb.cell (p := ⟨w.heap.size, 0, none⟩) (by simp)).trans (by simp), (hb.cell (p := ⟨w.heap.size, 1, none⟩) (by simp)).trans (by simp), (hb.cell (p := ⟨w.heap.size, 2, none⟩) (by simp)).trans (by simp), (hb.cell (p := ⟨w.heap.size, 3, none⟩) (by simp)).trans (by simp), (hb.cell (p := ⟨w.heap.size, 4, none⟩) (by simp)).trans (by simp), (hb.cell (p := ⟨w.heap.size, 5, none⟩) (by simp)).trans (by simp)⟩

theorem flat_take_le (ks : List (List UInt8)) (k : Nat) : (ks.take k).flatten.length ≤ ks.flatten.length := by
  have e := congrArg List.length (congrArg List.flatten (List.take_append_drop k ks))
  rw [List.flatten_append, List.length_append] at e
  omega
theorem flat_at_le {ks : List (List UInt8)} {k : Nat} {x : List UInt8} (h : ks[k]? = some x) : x.length ≤ ks.flatten.length := by
  have := flat_take_le ks (k + 1)
  have e : ([x] : List (List UInt8)).flatten = x := by simp
  rw [take_snoc h, List.flatten_append, List.length_append, e] at this
  omega

theorem lit_one (w : World) (u : Value) (t : TypeId) (H : Nat) (h : w.heap.size = H) : Reads (w.alloc (.cells #[u] t)) (H + 1) 1 (some ⟨H, 0, none⟩) 1 [u] := by
  subst h; exact Reads.new w #[u] t 1 1 rfl
/-- Behind the last append: the parts, each with its marks, and the one more. -/
def PlaysEnd (wr w1 w4 : World) (v4 : Value) (k : Nat) (ps : List (List UInt8)) : Prop :=
  ∃ (A4 : Option Addr) (c4 : Nat) (us : List Value), v4 = Value.slice A4 (k + 1) c4 ∧ Reads w4 w4.heap.size 1 A4 (k + 1) us ∧ k + 1 ≤ c4 ∧ c4 ≤ 9223372036854775807 ∧ Below w1.heap.size wr w4 ∧
    (∀ (i : Nat) (p : List UInt8), ps[i]? = some p → ∃ (a : Option Addr) (c : Nat), us[i]? = some (Value.slice a p.length c) ∧ Sl w4 a (p.length + 5) c (p ++ mk5)) ∧ (∃ a : Option Addr, us[k]? = some (Value.slice a 1 1) ∧ Sl w4 a 1 1 [207]) ∧ RBs w4 w4.heap.size A4 k ps
theorem plays_end (wr w1 : World) (v v4 : Value) (w4 : World) (k : Nat) (t e : TypeId) (vs : List Value) (ps : List (List UInt8)) (hk : ps.length = k) (ho : wr.ownsRow w1.heap.size e 1 v k vs) (hf : Fam wr v.ownBlock vs ps mk5)
    (hown : w4.ownsRow w1.heap.size e 1 v4 (k + 1) (vs ++ [.slice (some ⟨wr.heap.size, 0, none⟩) 1 1])) (hg : ((wr.alloc (.cells #[.int .u8 207] t)).alloc (.cells #[.slice (some ⟨wr.heap.size, 0, none⟩) 1 1] e)).grownBy w4 v.ownBlock)
    (hat : v4.ownBlock = v.ownBlock ∨ v4.ownBlock = some ((wr.alloc (.cells #[.int .u8 207] t)).alloc (.cells #[.slice (some ⟨wr.heap.size, 0, none⟩) 1 1] e)).heap.size) (hle : w1.heap.size ≤ wr.heap.size) : PlaysEnd wr w1 w4 v4 k ps := by
  have hb2 : Below wr.heap.size wr ((wr.alloc (.cells #[.int .u8 207] t)).alloc (.cells #[.slice (some ⟨wr.heap.size, 0, none⟩) 1 1] e)) := ((Below.refl _ _).alloc (Nat.le_refl _) _).alloc (by simp) _
  have hbw : Below w1.heap.size wr w4 := (hb2.mono hle).grown hg (Nat.le_trans hle hb2.size) (fun g hg => (World.ownsRow.lt ho g hg).1)
  have hm0 : Sl (wr.alloc (.cells #[.int .u8 207] t)) (some ⟨wr.heap.size, 0, none⟩) 1 1 [207] := Sl.lit wr #[.int .u8 207] [207] t (0, 0) rfl rfl (by decide)
  have hm1 := hm0.later ((Below.refl _ _).alloc (Nat.le_refl _) (.cells #[.slice (some ⟨wr.heap.size, 0, none⟩) 1 1] e))
  have hne : ∀ x, some (⟨wr.heap.size, 0, none⟩ : Addr) = some x → some x.block ≠ v.ownBlock := by
    intro x hx h
    injection hx with hx; subst hx
    have := own_row_lt ho _ h.symm
    simp at this
  have hm2 := hm1.apart hg (fun _ => hne)
  have hf2 := (hf.later hb2).step (by decide) hg hat
  obtain ⟨A4, c4, e4, hl1, hl2, _, hrl⟩ := own_slice hown
  have hvl : vs.length = k := by rw [hf.1, hk]
  refine ⟨A4, c4, _, e4, hrl, hl1, hl2, hbw, fun i p hp => ?_, ⟨some ⟨wr.heap.size, 0, none⟩, ?_, hm2⟩, ?_⟩
  · obtain ⟨a, c, q1, q2⟩ := hf2.at_ hp
    refine ⟨a, c, ?_, q2⟩
    rw [List.getElem?_append_left (by have := (List.getElem?_eq_some_iff.1 q1).1; exact this)]
    exact q1
  · rw [List.getElem?_append_right (by omega), hvl, Nat.sub_self]; rfl
  · have h := hrl.take1 (m := k) (by omega)
    rw [List.take_left' hvl] at h
    exact hf2.kv.rbs h

theorem plays_drew {w w7 : World} {n : Nat} (h : Below (w.drewN n).heap.size (w.drewN n) w7) : Below w.heap.size w w7 := (below_drewN (Below.refl w.heap.size w)).trans h
theorem plays_step (wr w1 : World) (v v3 : Value) (w2 w3 : World) (k : Nat) (e : TypeId) (vs : List Value) (ps : List (List UInt8)) (p RP : List UInt8) (A2 : Option Addr) (q c2 : Nat) {T : TypeId} (hp : ps[k]? = some p) (hRP : RP = p ++ mk5) (hq : q = p.length)
    (ho : wr.ownsRow w1.heap.size e 1 v k vs) (hf : Fam wr v.ownBlock vs (ps.take k) mk5) (hb2 : Below wr.heap.size wr w2) (hs2 : Sl w2 A2 (q + 5) c2 RP) (ho2 : OwnB T wr.heap.size w2 A2 c2 RP)
    (hg : (w2.alloc (.cells #[.slice A2 q c2] e)).grownBy w3 v.ownBlock) (hat : v3.ownBlock = v.ownBlock ∨ v3.ownBlock = some (w2.alloc (.cells #[.slice A2 q c2] e)).heap.size) (hle : w1.heap.size ≤ wr.heap.size) :
    Fam w3 v3.ownBlock (vs ++ [.slice A2 q c2]) (ps.take (k + 1)) mk5 ∧ Below w1.heap.size wr w3 := by
  subst hq; subst hRP
  have hb3 : Below wr.heap.size wr (w2.alloc (.cells #[.slice A2 p.length c2] e)) := hb2.alloc hb2.size _
  have hf2 := (hf.later hb3)
  have hs3 := hs2.later ((Below.refl _ _).alloc (Nat.le_refl _) (.cells #[.slice A2 p.length c2] e))
  have hf3 := hf2.snoc (c := c2) (a := A2) (k := p) hs3 (ho2.far (own_row_lt ho))
  have hf4 := hf3.step (by decide) hg hat
  rw [take_snoc hp]
  exact ⟨hf4, (hb3.mono hle).grown hg (Nat.le_trans hle hb3.size) (fun g hg => (World.ownsRow.lt ho g hg).1)⟩
theorem plays_wide {w1 w5 : World} {WA : Option Addr} {n wc : Nat} {l RL : List UInt8} (h : Sl w1 WA (n + 5) wc RL) (hl : l.length = n) (hr : RL = l ++ mk5) (hb : Below w1.heap.size w1 w5) : Sl w5 WA n wc l := by
  have := (h.later hb).take (m := n) (by omega)
  rw [hr, List.take_left' hl] at this
  exact this

set_option maxRecDepth 100000 in
set_option maxHeartbeats 8000000 in
theorem plays_any (K a N V : Int) (l : List UInt8) (ps : List (List UInt8)) (A PA : Option Addr) (n c pn pc : Nat) (w : World) (hs : Sl w A n c l) (hp : RBs w w.heap.size PA pn ps) (hpc : pn ≤ pc) (hn : n ≤ 1048576) (hpn : pn ≤ 1048576) (hpb : ps.flatten.length ≤ 1048576)
    (hV : 0 ≤ V ∧ V < 18446744073709551616) (hN : -9223372036854775808 ≤ N ∧ N < 9223372036854775808) (ht : TabAt 0 w) :
    Calls Tryd.prog 69 #[.agg #[.int .i64 K, .slice A n c, .int .i64 a, .int .i64 N, .int .u64 V, .slice PA pn pc]] w fun e w' => e = .returned (.bool true) ∧ Below w.heap.size w w' := by
  have HB0 := Lib.hid ((Below.refl w.heap.size w).alloc (Nat.le_refl _) (.cells #[.int .i64 K, .slice A n c, .int .i64 a, .int .i64 N, .int .u64 V, .slice PA pn pc] 78))
  have HX := box_all w #[.int .i64 K, .slice A n c, .int .i64 a, .int .i64 N, .int .u64 V, .slice PA pn pc] 78 _ _ _ _ _ _ rfl
  have HS : Hid (∀ w', Below w.heap.size w w' → Sl w' A n c l) := Lib.hid fun w' h => hs.later h
  have HP : Hid (∀ w', Below w.heap.size w w' → RBs w' w'.heap.size PA pn ps) := Lib.hid fun w' h => hp.later h
  have HT : Hid (∀ w', Below w.heap.size w w' → TabAt 0 w') := Lib.hid fun w' h => ht.later h
  have HL := Lib.hid hs.len
  have HPL := Lib.hid hp.len
  have HPB : Hid (∀ (k : Nat) (x : List UInt8), ps[k]? = some x → x.length ≤ 1048576) := Lib.hid fun k x h => Nat.le_trans (flat_at_le h) hpb
  obtain ⟨gb, hgb⟩ : ∃ g, g = w.heap.size := ⟨_, rfl⟩
  have HGB := Lib.hid hgb
  obtain ⟨RL, hRL⟩ : ∃ R, R = l ++ mk5 := ⟨_, rfl⟩
  have XRL := Lib.hid hRL
  have XLL : Hid (RL.length = n + 5) := Lib.hid (by rw [hRL, List.length_append, hs.len]; rfl)
  have HVV := Lib.hid hV
  clear hs hp ht hpb hV hRL
  go_enter Tryd.func69, Tryd.ntmps69
  go_wp2_with (go_at_call 81; go_must (refine (roomy_any l A n c _ (by omega) (HS.out _ HB0.out).rb).mono ?_); rintro e w1 hq; rw [← XRL.out] at hq; obtain ⟨WA, wc1, rfl, hS1, hO1, hb1⟩ := hq.at_ XLL.out; have HB1 := Lib.hid (HB0.out.trans (hb1.mono HB0.out.size)); have HS1 := Lib.hid hS1; have HO1 := Lib.hid hO1; have HX1 := Lib.hid (fun x (h : Below w1.heap.size w1 x) => HX.out x (hb1.trans (h.mono hb1.size))); clear hq hS1 hO1 hb1)
  rw [← hgb] at HX1 ⊢
  clear hgb HX
  go_loopw [4, 5] (fun v i wr => ∃ (k : Nat) (vs : List Value), k ≤ pn ∧ i = .int .i64 k ∧ wr.ownsRow w1.heap.size 22 1 v k vs ∧ Hid (Fam wr v.ownBlock vs (ps.take k) mk5) ∧ Hid (Below w1.heap.size w1 wr)) (fun _ i _ => pn - (intOf i).toNat)
  case atStart => exact ⟨0, [], Nat.zero_le _, rfl, own_nil _ _ _ _, Lib.hid (by rw [List.take_zero]; exact Fam.nil), Lib.hid (Below.refl _ _)⟩
  case round =>
    obtain ⟨k, vs, hk, rfl, hown, HF, HW⟩ := hrel
    obtain ⟨x0, x1, x2, x3, x4, x5⟩ := HX1.out wr HW.out
    have HBW := Lib.hid (HB1.out.trans (HW.out.mono HB1.out.size))
    by_cases hlt : k < pn
    case neg =>
      obtain rfl : k = pn := by omega
      have hF0 := HF.out
      rw [take_all (by have := HPL.out; omega)] at hF0
      have HF0 := Lib.hid hF0
      obtain ⟨v, hv⟩ : ∃ v, v = u4 := ⟨_, rfl⟩
      rw [← hv] at hown HF0 ⊢
      have HO := Lib.hid hown
      have HXW := Lib.hid (fun x (h : Below wr.heap.size wr x) => HX1.out x (HW.out.trans (h.mono HW.out.size)))
      clear hv hown hF0 HF
      go_upto_region 9 with (at_builtin; go_must (refine wpList_append_reads _ rfl (.tmp 38) (.tmp 40) rfl Tryd.pts w1.heap.size v k vs rfl ((HO.out.alloc _).alloc _) (wr.heap.size + 1 + 1) (some ⟨wr.heap.size + 1, 0, none⟩) 1 1 [.slice (some ⟨wr.heap.size, 0, none⟩) 1 1] rfl (lit_one _ _ _ _ (by simp)) (by simp [Value.oneCell']) (by unfold maxLen; omega) (by omega) (by have := HW.out.size; simp; omega) ?_); intro v4 w4 hown4 hg4 hat4; have HA := (plays_end wr w1 v v4 w4 k 5 22 vs ps HPL.out HO.out HF0.out hown4 hg4 hat4 HW.out.size); obtain ⟨PA4, pc4, us, rfl, hrl, hl1, hl2, hb4, hus, h207, hrb⟩ := HA; have HB4 := Lib.hid (HW.out.trans hb4); have HRL := Lib.hid hrl; have HUS := Lib.hid hus; have H207 := Lib.hid h207; have HRB := Lib.hid hrb; obtain ⟨y0, y1, y2, y3, y4, y5⟩ := HX1.out w4 HB4.out; clear hown4 hg4 hat4 hrl hb4 hus h207 hrb)
      have hw1 : (n : Int) ≤ (wc1 : Int) := by have := HS1.out.cap; omega
      have hw2 : (k : Int) ≤ (pc4 : Int) := by omega
      have hw3 : n ≤ n + 5 := by omega
      have z0 : ∀ o, (w4.alloc o).cell? ⟨gb, 0, none⟩ = some (.int .i64 K) := fun o => cell_alloc_old y0
      have z1 : ∀ o, (w4.alloc o).cell? ⟨gb, 1, none⟩ = some (.slice A n c) := fun o => cell_alloc_old y1
      have z5 : ∀ o, (w4.alloc o).cell? ⟨gb, 5, none⟩ = some (.slice PA k pc) := fun o => cell_alloc_old y5
      clear hl1 hl2 x0 x1 x2 x3 x4 x5
      go_upto_block 2 with fail
      have HB5 := Lib.hid (HB4.out.alloc HB4.out.size (.cells #[.int .i64 K, .slice WA n wc1, .int .i64 a, .int .i64 N, .int .u64 V, .slice PA4 k pc4] 78))
      have HY := box_all w4 #[.int .i64 K, .slice WA n wc1, .int .i64 a, .int .i64 N, .int .u64 V, .slice PA4 k pc4] 78 _ _ _ _ _ _ rfl
      obtain ⟨g5, hg5⟩ : ∃ g, g = w4.heap.size := ⟨_, rfl⟩
      have H45 := Lib.hid ((Below.refl w4.heap.size w4).alloc (Nat.le_refl _) (.cells #[.int .i64 K, .slice WA n wc1, .int .i64 a, .int .i64 N, .int .u64 V, .slice PA4 k pc4] 78))
      rw [← hg5] at HY ⊢
      clear hg5 z0 z1 z5 y0 y1 y2 y3 y4 y5
      generalize hw5 : w4.alloc _ = w5 at *
      clear hw5
      obtain ⟨p0, p1, p2, p3, p4, p5⟩ := HY.out w5 (Below.refl _ _)
      have HWA4 := Lib.hid ((HS1.out.later HB4.out))
      go_cut [8] (fun s8 wx => s8 = .bool true ∧ Hid (Below w5.heap.size w5 wx))
      case first =>
        have hcase : (K = 1 ∨ K = 2 ∨ K = 5 ∨ K = 6 ∨ K = 7 ∨ K = 8) ∨ (K = 3 ∨ K = 4 ∨ K = 9 ∨ K = 10 ∨ K = 11 ∨ K = 12 ∨ K = 13) ∨ ((K == 1) = false ∧ (K == 2) = false ∧ (K == 3) = false ∧ (K == 4) = false ∧ (K == 5) = false ∧ (K == 6) = false ∧ (K == 7) = false ∧ (K == 8) = false ∧ (K == 9) = false ∧ (K == 10) = false ∧ (K == 11) = false ∧ (K == 12) = false ∧ (K == 13) = false) := by
          simp only [beq_eq_false_iff_ne]
          omega
        have HWB := Lib.hid (plays_wide HS1.out HL.out XRL.out (HB4.out.trans (H45.out.mono HB4.out.size)))
        have HPB5 := Lib.hid (HRB.out.later H45.out)
        have HT5 := Lib.hid (HT.out _ (HB1.out.trans (HB5.out.mono HB1.out.size)))
        rcases hcase with hK | hK | ⟨k1, k2, k3, k4, k5, k6, k7, k8, k9, k10, k11, k12, k13⟩
        · have HC := Lib.hid (numbers_all K hK l WA PA4 n wc1 k pc4 a N V w5 HWB.out (by omega) HVV.out hN)
          rcases hK with rfl | rfl | rfl | rfl | rfl | rfl
          all_goals
            go_wp2_with (go_at_call 71; go_must (refine HC.out.mono ?_); rintro e w6 ⟨rfl, hb6⟩; have HB6 := Lib.hid hb6; clear hb6)
            go_meet
            case rel => exact ⟨rfl, HB6⟩
        · have HC := Lib.hid (strings_all K hK l ps WA PA4 n wc1 k pc4 a N V w5 HWB.out HPB5.out (by omega) (by omega) hN HT5.out)
          rcases hK with rfl | rfl | rfl | rfl | rfl | rfl | rfl
          all_goals
            go_wp2_with (go_at_call 72; go_must (refine HC.out.mono ?_); rintro e w6 ⟨rfl, hb6⟩; have HB6 := Lib.hid hb6; clear hb6)
            go_meet
            case rel => exact ⟨rfl, HB6⟩
        · go_wp2_with fail
          go_meet
          case rel => exact ⟨rfl, Lib.hid (Below.refl _ _)⟩
      obtain ⟨rfl, HW6⟩ := hcut
      have H46 := Lib.hid (H45.out.trans (HW6.out.mono H45.out.size))
      have H14 := Lib.hid (HB4.out)
      obtain ⟨b4, o4, hA4, hb4lt, hc4⟩ := HRL.out.2 (by omega)
      subst hA4
      have HC4 : Hid (∀ x, Below w4.heap.size w4 x → ∀ (j : Nat) (u : Value), us[j]? = some u → x.cell? ⟨b4, o4 + j, none⟩ = some u) := Lib.hid fun x hx j u hu => (hx.cell (p := ⟨b4, o4 + j, none⟩) hb4lt).trans (hc4 j u hu)
      have HXX := Lib.hid (fun x (h : Below w4.heap.size w4 x) => HX1.out x (HB4.out.trans (h.mono HB4.out.size)))
      have HBX := Lib.hid (fun x (h : Below w4.heap.size w4 x) => HB1.out.trans ((HB4.out.trans (h.mono HB4.out.size)).mono HB1.out.size))
      have tok1 : True := trivial
      clear HRB HY HB5 H45 hb4lt hc4 HW6 p0 p1 p2 p3 p4 p5 HRL HX1 HXW HF0 HO HWA4
      go_wp2_with fail
      go_loopw [8, 9] (fun s i wr => s = .bool true ∧ ∃ j : Nat, j ≤ k ∧ i = .int .i64 j ∧ Hid (Below w4.heap.size w4 wr)) (fun _ i _ => k - (intOf i).toNat)
      case atStart => exact ⟨rfl, 0, Nat.zero_le _, rfl, H46⟩
      case round =>
        obtain ⟨rfl, j, hj, rfl, HW⟩ := hrel
        obtain ⟨x0, x1, x2, x3, x4, x5⟩ := HXX.out wr HW.out
        by_cases hlt : j < k
        case neg =>
          obtain rfl : j = k := by omega
          obtain ⟨a7, h7, hs7⟩ := H207.out
          have y7 := HC4.out wr HW.out j _ h7
          have HS7 := Lib.hid hs7
          have XB : Hid ((RL == RL) = true) := Lib.hid (by simp)
          have XB7 : Hid ((([207] : List UInt8) == [207]) = true) := Lib.hid (by simp)
          have HSW := Lib.hid ((HS1.out.later H14.out))
          clear hs7 h7
          go_wp2_with (first
            | (go_at_call 81; go_must (refine (roomy_any l A n c _ (by omega) (HS.out _ (HBX.out _ HW.out)).rb).mono ?_); rintro e w7 hq; rw [← XRL.out] at hq; obtain ⟨A7, c7, rfl, hS7, hO7, hb7⟩ := hq.at_ XLL.out; have HB7 := Lib.hid (HW.out.trans (hb7.mono HW.out.size)); have y8 := (hb7.cell (World.block_lt_of_cell? _ _ y7)).trans y7; obtain ⟨z0, z1, z2, z3, z4, z5⟩ := HXX.out w7 HB7.out; have HR7 := Lib.hid hS7; clear hq hS7 hO7 hb7)
            | (go_at_call 24; have _t := tok1; go_must (refine (same_any RL RL WA A7 (n + 5) wc1 (n + 5) c7 _ (HSW.out.later HB7.out).rb HR7.out.rb).mono ?_); rw [XB.out]; rintro e wn ⟨rfl, rfl⟩; clear tok1)
            | (go_at_call 24; go_must (refine (same_any [207] [207] a7 (some ⟨w7.heap.size, 0, none⟩) 1 1 1 1 _ ((HS7.out.later HB7.out).later ((Below.refl _ _).alloc (Nat.le_refl _) _)).rb (by exact (Sl.lit w7 #[.int .u8 207] [207] _ _ rfl rfl (by decide)).rb)).mono ?_); rw [XB7.out]; rintro e wn ⟨rfl, rfl⟩))
          go_ret
          exact ⟨rfl, (HBX.out _ HB7.out).alloc (HBX.out _ HB7.out).size _⟩
        obtain ⟨bP, oP, p, aP, cP, rfl, _, hp, hcp, _, _, _, hrp⟩ := (HP.out _ (HBX.out _ HW.out)).at_ hlt
        obtain ⟨aw, cw, hu, hsw⟩ := HUS.out j p hp
        have y7 := HC4.out wr HW.out j _ hu
        have hpl := HPB.out j p hp
        have hcw := hsw.cap
        obtain ⟨q, hq⟩ : ∃ q, q = p.length := ⟨_, rfl⟩
        obtain ⟨RP, hRP⟩ : ∃ R, R = p ++ mk5 := ⟨_, rfl⟩
        have XRP := Lib.hid hRP
        have XPL : Hid (RP.length = q + 5) := Lib.hid (by rw [hRP, List.length_append, hq]; rfl)
        have XB : Hid ((RP == RP) = true) := Lib.hid (by simp)
        rw [← hRP] at hsw
        rw [← hq] at hsw y7 hcp hpl hcw hrp
        have HSW := Lib.hid (hsw.later HW.out)
        have q1 : IntKind.i64.wrap ((q : Int) + 5) = (q : Int) + 5 := i64_sum (by omega) (by omega)
        have q2 : (0 : Int) ≤ (q : Int) + 5 := by omega
        have q3 : (q : Int) + 5 ≤ (cw : Int) := by omega
        have q4 : ((q : Int) + 5).toNat = q + 5 := by omega
        have HRP := Lib.hid hrp
        clear hsw hq hRP hrp hp hu
        go_wp2_with fail
        go_quiet (fail)
        go_wp2_with (first
          | (go_at_call 81; go_must (refine (roomy_any p aP q cP _ (by omega) (by exact HRP.out)).mono ?_); rintro e w7 hz; rw [← XRP.out] at hz; obtain ⟨A7, c7, rfl, hS7, hO7, hb7⟩ := hz.at_ XPL.out; have HD7 := Lib.hid (plays_drew hb7); have HR7 := Lib.hid hS7; clear hz hS7 hO7 hb7)
          | (go_at_call 24; go_must (refine (same_any RP RP aw A7 (q + 5) cw (q + 5) c7 _ (HSW.out.later HD7.out).rb HR7.out.rb).mono ?_); rw [XB.out]; rintro e wn ⟨rfl, rfl⟩))
        go_roundw
        case rel => exact ⟨rfl, j + 1, by omega, by go_num, Lib.hid (HW.out.trans (HD7.out.mono HW.out.size))⟩
        case measure => simp [intOf]; omega
    obtain ⟨bP, oP, p, aP, cP, rfl, _, hp, hcp, _, _, _, hrp⟩ := (HP.out _ HBW.out).at_ hlt
    have hpl := HPB.out k p hp
    obtain ⟨q, hq⟩ : ∃ q, q = p.length := ⟨_, rfl⟩
    obtain ⟨RP, hRP⟩ : ∃ R, R = p ++ mk5 := ⟨_, rfl⟩
    have XRP := Lib.hid hRP
    have XQ := Lib.hid hq
    have XPL : Hid (RP.length = q + 5) := Lib.hid (by rw [hRP, List.length_append, hq]; rfl)
    rw [← hq] at hcp hpl hrp
    have HRP := Lib.hid hrp
    have HKP := Lib.hid hp
    obtain ⟨v, hv⟩ : ∃ v, v = u4 := ⟨_, rfl⟩
    rw [← hv] at hown HF ⊢
    have HO := Lib.hid hown
    clear hv hown hq hRP hrp hp
    go_wp2_with (first
      | (go_at_call 81; go_must (refine (roomy_any p aP q cP _ (by omega) HRP.out).mono ?_); rintro e w2 hz; rw [← XRP.out] at hz; obtain ⟨A2, c2, rfl, hS2, hO2, hb2⟩ := hz.at_ XPL.out; have HB2 := Lib.hid hb2; have HS2 := Lib.hid hS2; have HO2 := Lib.hid hO2; have hcp2 := (hb2.cell (World.block_lt_of_cell? _ _ hcp)).trans hcp; obtain ⟨z0, z1, z2, z3, z4, z5⟩ := HX1.out w2 (HW.out.trans (hb2.mono HW.out.size)); have hc2 := hS2.cap; clear hz hS2 hO2 hb2)
      | (at_builtin; go_must (refine wpList_append_reads _ rfl (.tmp 27) (.tmp 36) rfl Tryd.pts w1.heap.size v k vs rfl ((own_below HO.out HB2.out).alloc _) (w2.heap.size + 1) (some ⟨w2.heap.size, 0, none⟩) 1 1 [.slice A2 q c2] rfl (lit_one _ _ _ _ rfl) (by simp [Value.oneCell']) (by unfold maxLen; omega) (by omega) (by have := HW.out.size; have := HB2.out.size; simp; omega) ?_); intro v3 w3 hown3 hg3 hat3; have HA := Lib.hid (plays_step wr w1 v v3 w2 w3 k 22 vs ps p RP A2 q c2 HKP.out XRP.out XQ.out HO.out HF.out HB2.out HS2.out HO2.out hg3 hat3 HW.out.size); have HO3 := Lib.hid hown3; clear hown3 hg3 hat3))
    have hO3 := HO3.out
    clear HO3
    go_roundw
    case rel => exact ⟨k + 1, vs ++ [.slice A2 q c2], by omega, by go_num, hO3, Lib.hid HA.out.1, Lib.hid (HW.out.trans HA.out.2)⟩
    case measure => simp [intOf]; omega
end Go.Proofs.YtkkfiffgldhahaaDoor
