/-
  Laid together by merge.py: BlockC1, CellW3, BlockB3, BlockB4, BlockE, BlockB5, CellW4, CellP3, CellW5, CellW6, BlockC2, BlockC3, BlockC4, Kit34.
-/
import Derived.Test.YtmigjipfomfacaaGreatDoorBr3
import Derived.Lib.Walk
import Derived.Lib.SliceRun
import Derived.Lib.AppendZerosOnto
import Derived.Test.YtmigjipfomfacaaGreatDoorBr2
import Derived.Test.YtmigjipfomfacaaGreatDoorBr1
import Derived.Deep.DeepCutAuto
import Derived.Deep.RegionHeld3
namespace Go.Proofs.YtmigjipfomfacaaGreatDoor
open Go.RowKit
set_option maxRecDepth 100000 in
set_option maxHeartbeats 2000000 in
theorem sgrow_nil (n : Nat) (w : World) (hn : n ≤ 1099511627776) : Calls Tryz.prog 81 #[.slice none 0 0, .int .i64 n] w fun e w' => ∃ A c, e = .returned (.slice A 0 c) ∧ OwnB 5 w.heap.size w' A c [] ∧ Below w.heap.size w w' := by
  by_cases h0 : n = 0
  · subst h0
    go_enter Tryz.func81, Tryz.ntmps81
    go_wp2_with fail
    go_ret
    exact ⟨none, 0, rfl, own_nil _ _ _ _, Below.refl _ _⟩
  obtain ⟨i0, hi, hz0, hs0, hb0⟩ := info_parts (show (Tryz.prog.info? 5).map (fun i => (i.zero, i.size, i.bytes)) = some (some (.int .u8 0), 1, 1) by kernel_rfl)
  have hold : (Builtin.firstCells i0.size 0 (.slice none 0 0)).run Tryz.prog w.drew = .ok (([] : List Value).toArray) w.drew := by rw [hs0]; exact run_firstCells_none w.drew 1 0 0 0
  have hrz : ∀ ty, (Builtin.append_ #[22, 3] ty #[.slice none 0 0, .int .i64 (n : Int)]).run Tryz.prog w = .ok (.slice (some ⟨w.heap.size, 0, none⟩) n (grownCap w n 0 5)) (w.drew.alloc (.cells (#[] ++ Builtin.zeroCells #[.int .u8 0] n ++ Builtin.zeroCells #[.int .u8 0] (grownCap w n 0 5 - n)) 5)) := fun ty => by
    have h := Lib.run_append_grow_zeros w 22 3 ty 5 i0 (.int .u8 0) .i64 .i64 Tryz.underlying22 Tryz.underlying3 hi hz0 none 0 0 [] hold n (by omega) (by rw [hs0]; omega) (by omega) (by omega) (by rw [hb0]; omega) (by rw [hb0]; exact growslice_fits (by omega) (by omega))
    rw [Nat.zero_add] at h
    exact h
  have hGn : n ≤ grownCap w n 0 5 := grownCap_ge w _ _ _
  obtain ⟨G, hG⟩ : ∃ G, G = grownCap w n 0 5 := ⟨_, rfl⟩
  rw [← hG] at hrz hGn
  have hG63 : G ≤ 9223372036854775807 := by
    have := grownCap_le_maxLen w n 0 5 (by unfold maxLen; omega)
    rw [← hG] at this
    unfold maxLen at this
    omega
  have hgt : (0 : Int) < (n : Int) := by omega
  have HO : Hid ((w.alloc (.cells (Builtin.zeroCells #[.int .u8 0] n ++ Builtin.zeroCells #[.int .u8 0] (G - n)) 5)).drew.ownsRow w.heap.size 5 1 (.slice (some ⟨w.heap.size, 0, none⟩) 0 G) 0 []) := Lib.hid (World.ownsRow_made w _ G (Nat.le_refl _) (by unfold maxLen; omega) (by
    simp only [Array.size_append, size_zeroCells, List.size_toArray, List.length_nil, List.length_cons]; omega))
  clear hold hG h0
  go_enter Tryz.func81, Tryz.ntmps81
  go_wp2_with (at_builtin; refine Lib.wpList_append_run _ rfl _ _ _ _ rfl _ _ rfl rfl _ _ (hrz _) ?_)
  go_ret
  exact ⟨_, G, rfl, HO.out, ((Below.refl _ _).alloc (Nat.le_refl _) _).drew⟩
theorem flat_take1 {ks : List (List UInt8)} {k : Nat} {x : List UInt8} (h : ks[k]? = some x) : (ks.take (k + 1)).flatten = (ks.take k).flatten ++ x := by
  rw [take_snoc h, List.flatten_append]; simp
theorem flat_take_len (ks : List (List UInt8)) (k : Nat) : (ks.take k).flatten.length ≤ ks.flatten.length := by
  have e := congrArg (fun l => (List.flatten l).length) (List.take_append_drop k ks)
  simp only [List.flatten_append, List.length_append] at e
  omega
set_option maxRecDepth 100000 in
set_option maxHeartbeats 2000000 in
theorem sconcat_any (ks : List (List UInt8)) (A : Option Addr) (n c : Nat) (w : World) (hn : n ≤ 1000000000) (hr : RBs w w.heap.size A n ks) (hb : ks.flatten.length ≤ 1099511627776) :
    Calls Tryz.prog 59 #[.slice A n c] w (BytesPost 5 ks.flatten w) := by
  have HL := Lib.hid hr.len
  have HR : Hid (∀ z, Below w.heap.size w z → RBs z z.heap.size A n ks) := Lib.hid fun z h => hr.later h
  have HF : Hid (∀ k, (ks.take k).flatten.length ≤ 1099511627776) := Lib.hid fun k => Nat.le_trans (flat_take_len ks k) hb
  obtain ⟨N, hN⟩ : ∃ z, z = ks.flatten.length := ⟨_, rfl⟩
  rw [← hN] at hb
  have HN := Lib.hid hN
  clear hr hN
  go_enter Tryz.func59, Tryz.ntmps59
  go_wp2_with fail
  go_loop [3, 11] (fun s i => ∃ k t : Nat, k ≤ n ∧ t ≤ 1099511627776 ∧ i = .int .i64 k ∧ s = .int .i64 t ∧ Hid (t = (ks.take k).flatten.length)) (fun _ i => n - (intOf i).toNat)
  case atStart => exact ⟨0, 0, Nat.zero_le _, by omega, rfl, rfl, Lib.hid rfl⟩
  case round =>
    obtain ⟨k, t, hk, ht, rfl, rfl, HT⟩ := hrel
    by_cases hlt : k < n
    case pos =>
      have hdk : decide ((k : Int) < (n : Int)) = true := decide_eq_true (by omega)
      obtain ⟨b, o, x, a, ck, rfl, hbl, hx, hcell, _, _, _, _⟩ := (HR.out w (Below.refl _ _)).at_ hlt
      have HX := Lib.hid (flat_take1 hx)
      obtain ⟨m, hm⟩ : ∃ z, z = x.length := ⟨_, rfl⟩
      have hmb : t + m ≤ 1099511627776 := by have h1 := HF.out (k + 1); rw [HX.out, List.length_append, ← HT.out, ← hm] at h1; exact h1
      rw [← hm] at hcell
      have HM := Lib.hid hm
      have i1 : (0 : Int) ≤ (k : Int) := by omega
      have i2 : (k : Int) < (n : Int) := by omega
      have i3 : ¬ ((t : Int) + (m : Int) < 0) := by omega
      clear hx hm
      go_wp2_with fail
      go_round
      case rel => exact ⟨k + 1, t + m, by omega, hmb, by go_num, rfl, Lib.hid (by rw [HX.out, List.length_append, ← HT.out, ← HM.out])⟩
      case measure => simp [intOf]; omega
    have hdk : decide ((k : Int) < (n : Int)) = false := decide_eq_false (by omega)
    have HTN : Hid (t = N) := Lib.hid (by rw [HT.out, HN.out, take_all (by have := HL.out; omega)])
    go_wp2_with (go_at_call 81; go_must (refine (sgrow_nil t _ ht).mono ?_); rintro r z1 ⟨A1, c1, rfl, ho, hb1⟩; have HX := Lib.hid (OW.byt1 hb1 ho); clear ho hb1)
    go_loopw [6, 27] (fun v i wr => ∃ (k : Nat) (A : Option Addr) (c m : Nat) (l : List UInt8), k ≤ n ∧ m ≤ 1099511627776 ∧ i = .int .i64 k ∧ v = .slice A m c ∧ Hid (l.length = m) ∧ Hid (l = (ks.take k).flatten) ∧ Hid (OW w [bytO 5 (A, c, l)] wr)) (fun _ i _ => n - (intOf i).toNat)
    case atStart => exact ⟨0, A1, c1, 0, [], Nat.zero_le _, by omega, rfl, rfl, Lib.hid rfl, Lib.hid rfl, HX⟩
    case round =>
      clear HX
      obtain ⟨k2, A2, c2, m2, l2, hk2, hm2, rfl, rfl, HL2, HP2, HX⟩ := hrel
      by_cases hlt2 : k2 < n
      case pos =>
        have hdk2 : decide ((k2 : Int) < (n : Int)) = true := decide_eq_true (by omega)
        obtain ⟨b, o, x, a, ck, rfl, hbl, hx, hcell, _, _, _, hrb⟩ := (HR.out wr HX.out.up).at_ hlt2
        have HQ := Lib.hid (flat_take1 hx)
        obtain ⟨m, hm⟩ : ∃ z, z = x.length := ⟨_, rfl⟩
        have hmb : m2 + m ≤ 1099511627776 := by have h1 := HF.out (k2 + 1); rw [HQ.out, List.length_append, ← HP2.out, ← hm, HL2.out] at h1; exact h1
        rw [← hm] at hcell hrb
        have HM := Lib.hid hm
        have HRB := Lib.hid hrb
        have i1 : (0 : Int) ≤ (k2 : Int) := by omega
        have i2 : (k2 : Int) < (n : Int) := by omega
        clear hx hm hrb
        go_wp2_with (at_builtin; go_must (refine wl_appB rfl (.tmp 31) (.tmp 32) rfl Tryz.u8s' HX.out 0 rfl HL2.out rfl _ _ m _ x rfl HRB.out (by omega) ?_); intro A3 c3 z3 hz; have HX3 : Hid (OW w [bytO 5 (A3, c3, l2 ++ x)] z3) := Lib.hid hz; clear hz HX HRB hcell)
        go_roundw
        case rel => exact ⟨k2 + 1, A3, c3, m2 + m, l2 ++ x, by omega, hmb, by go_num, rfl, Lib.hid (by rw [List.length_append, HL2.out, HM.out]), Lib.hid (by rw [HQ.out, HP2.out]), HX3⟩
        case measure => simp [intOf]; omega
      have hdk2 : decide ((k2 : Int) < (n : Int)) = false := decide_eq_false (by omega)
      go_wp2_with fail
      go_ret
      exact HX.out.bytes1 (by rw [HP2.out, take_all (by have := HL.out; omega)]) HL2.out rfl
theorem rbs_two {w : World} {A B : Option Addr} {n c m d : Nat} {k l : List UInt8} (hk : Sl w A n c k) (hl : Sl w B m d l) (t : TypeId) (fr : Nat × Nat) :
    RBs (w.alloc (.cells #[.slice A n c, .slice B m d] t fr)) (w.alloc (.cells #[.slice A n c, .slice B m d] t fr)).heap.size (some ⟨w.heap.size, 0, none⟩) 2 [k, l] := by
  have hb : Below w.heap.size w (w.alloc (.cells #[.slice A n c, .slice B m d] t fr)) := (Below.refl _ _).alloc (Nat.le_refl _) _
  have h1 := hk.later hb
  have h2 := hl.later hb
  have e1 := hk.rb.len
  have e2 := hl.rb.len
  refine ⟨[.slice A n c, .slice B m d], ⟨rfl, fun _ => ⟨w.heap.size, 0, rfl, by simp, fun j u hu => ?_⟩⟩, rfl, fun i x hx => ?_⟩
  · rw [Nat.zero_add, World.cell?_alloc_mark, ← Array.getElem?_toList]; exact hu
  · match i, hx with
    | 0, hx => injection hx with hx; subst hx; exact ⟨A, c, by rw [e1]; rfl, by rw [e1]; exact h1.cap, h1.lim, h1.nil, by rw [e1]; exact h1.rb⟩
    | 1, hx => injection hx with hx; subst hx; exact ⟨B, d, by rw [e2]; rfl, by rw [e2]; exact h2.cap, h2.lim, h2.nil, by rw [e2]; exact h2.rb⟩
end Go.Proofs.YtmigjipfomfacaaGreatDoor
namespace Go.Proofs.YtmigjipfomfacaaGreatDoor
open Go.RowKit
set_option maxRecDepth 100000 in
theorem flag_any (b : Bool) (w : World) : Calls Tryz.prog 90 #[.bool b] w fun e w' => e = .returned (.int .u8 ((flg b).toNat : Int)) ∧ w = w' := by
  cases b <;> (go_enter Tryz.func90, Tryz.ntmps90; go_wp2; go_ret; exact ⟨rfl, rfl⟩)
theorem idx_two0 (T S : Int) (w : World) : (Instr.index 58 (.agg #[.int .i64 T, .int .i64 S]) (.int .i64 0)).run Tryz.prog w = .ok (.int .i64 T) w := run_index_arr w _ 3 2 _ 0 _ (by kernel_rfl) (by kernel_rfl) (by kernel_rfl) (by decide) rfl
theorem idx_two1 (T S : Int) (w : World) : (Instr.index 58 (.agg #[.int .i64 T, .int .i64 S]) (.int .i64 1)).run Tryz.prog w = .ok (.int .i64 S) w := run_index_arr w _ 3 2 _ 1 _ (by kernel_rfl) (by kernel_rfl) (by kernel_rfl) (by decide) rfl
theorem falling_at (v : Nat) (w : World) (hv : v < 9223372036854775808) : Calls Tryz.prog 91 #[.int .i64 v] w fun e w' => ∃ A c, e = .returned (.tuple #[.slice A 8 c, .int .i64 0]) ∧ Sl w' A 8 c (numK v) ∧ Below w.heap.size w w' := by
  refine (falling_any v w hv).mono fun e w' h => ?_
  obtain ⟨A, c, h1, h2, h3, h4⟩ := BytesPost2.at_ h (risB_len _) rfl
  exact ⟨A, c, h1, by unfold numK; rw [Int.toNat_natCast]; exact h2, h4⟩
set_option maxRecDepth 100000 in
set_option maxHeartbeats 2000000 in
theorem key_five (row qual : List UInt8) (A : Option Addr) (n c F : Nat) (B : Option Addr) (m d T S : Nat) (D : Option Addr) (v q : Nat) (w : World) (hrow : Sl w A n c row) (hqual : Sl w B m d qual) (hz : checkN n F m T S 5 v = 0) :
    Calls Tryz.prog 70 #[.agg #[.slice A n c, .int .i64 (F : Int), .slice B m d, .int .i64 (T : Int), .int .i64 (S : Int), .int .i64 5, .slice D v q]] w (BytesPost2 5 (keyE ⟨row, F, qual, T, S, 5, []⟩) 0 w) := by
  obtain ⟨z1, z2, z3, z4, z5, z6, -⟩ := checkN_ok hz
  have HN : Hid (n ≤ 256 ∧ m ≤ 256 ∧ T ≤ 1099511627776 ∧ S ≤ 17592186044431) := Lib.hid (by omega)
  have HR : Hid (∀ x, Below w.heap.size w x → Sl x A n c row) := Lib.hid fun x h => hrow.later h
  have HQ : Hid (∀ x, Below w.heap.size w x → Sl x B m d qual) := Lib.hid fun x h => hqual.later h
  have HLEN : Hid ((ordB row).length ≤ 514 ∧ (ordB qual).length ≤ 514) := Lib.hid (by
    have h1 := ordB_len row; have h2 := ordB_len qual; have h3 := hrow.len; have h4 := hqual.len; omega)
  have HZ := Lib.hid hz
  have HX0 := Lib.hid (Bx.new w #[.slice A n c, .int .i64 (F : Int), .slice B m d, .int .i64 (T : Int), .int .i64 (S : Int), .int .i64 5, .slice D v q] 46)
  clear hz z1 z2 z3 z4 z5 z6 hrow hqual
  go_enter Tryz.func70, Tryz.ntmps70
  go_wp2_with (go_at_call 88; go_must (refine (check_any _ _ _ _ _ _ _ _ _ _ _ _ _ _).mono ?_); rintro e x1 ⟨rfl, hb1⟩; rw [HZ.out]; have HX1 := Lib.hid (HX0.out.later hb1); clear hb1 HX0)
  have c0 := HX1.out.cell (i := 0) (v := .slice A n c) rfl; have c1 := HX1.out.cell (i := 1) (v := .int .i64 (F : Int)) rfl; have c5 := HX1.out.cell (i := 5) (v := .int .i64 5) rfl
  go_region_held3 (fun x => x.cell? ⟨w.heap.size, 0, none⟩ = some (.slice A n c) ∧ x.cell? ⟨w.heap.size, 1, none⟩ = some (.int .i64 (F : Int)) ∧ x.cell? ⟨w.heap.size, 5, none⟩ = some (.int .i64 5) ∧ Bx w #[.slice A n c, .int .i64 (F : Int), .slice B m d, .int .i64 (T : Int), .int .i64 (S : Int), .int .i64 5, .slice D v q] x) (first | assumption | exact ⟨c0, c1, c5, HX1.out.later (Below.refl _ _).drew⟩ | exact keepB3 ‹_ ∧ _ ∧ _ ∧ Bx _ _ _› hb2 | exact keepA3 ‹_ ∧ _ ∧ _ ∧ Bx _ _ _› | exact keepG3 ‹_ ∧ _ ∧ _ ∧ Bx _ _ _› (own_below hO2 ((Below.refl _ _).alloc (Nat.le_refl _) _)) hg3) (first
    | (go_at_call 89; refine (ordered_any row A n c _ (by have := HN.out; omega) (HR.out _ (‹_ ∧ _ ∧ _ ∧ Bx _ _ _›).2.2.2.up).rb).mono ?_; rintro e x2 ⟨A2, c2, rfl, hO2, hb2⟩; have hO2 := own_low hO2 (‹_ ∧ _ ∧ _ ∧ Bx _ _ _›).2.2.2.size)
    | (go_at_call 90; refine (flag_any _ _).mono ?_; rintro e w0 ⟨rfl, rfl⟩)
    | (refine step_append_cells _ (by rfl) _ _ (by rfl) Tryz.u8s' (w.heap.size + 1) (.slice A2 (ordB row).length c2) (ordB row).length (u8s (ordB row)) (by rfl) (own_below hO2 ((Below.refl _ _).alloc (Nat.le_refl _) _)) (x2.heap.size + 1) (some ⟨x2.heap.size, 0, none⟩) 2 2 (u8s [UInt8.ofNat F, flg true]) (by rfl) (by exact reads_lit x2 _ [UInt8.ofNat F, flg true] _ _ (by show [Value.int .u8 (IntKind.u8.wrap (F : Int)), _] = [u8v _, u8v _]; rw [u8v_mod, IntKind.wrap_u8]; rfl)) (u8s_one _) (by have := HLEN.out; unfold maxLen; omega) (by have := HLEN.out; omega) (‹_ ∧ _ ∧ _ ∧ Bx _ _ _›).2.2.2.size ?_; intro v3 x3 hown3 hg3 hat3 hold3 hcell3))
  all_goals
    obtain ⟨-, -, -, hx3⟩ := ‹_ ∧ _ ∧ _ ∧ Bx _ _ x3›
    have HX3 := Lib.hid hx3
    rw [← u8s_append] at hown3
    have HO3 := Lib.hid hown3
    clear hx3 hown3 hg3 hat3 hold3 hcell3 hO2 hb2 c0 c1 c5
    have q3_3 := HX3.out.cell (i := 3) (v := .int .i64 (T : Int)) rfl
    have q3_4 := HX3.out.cell (i := 4) (v := .int .i64 (S : Int)) rfl
    go_wp2_with fail
    clear HX1
    generalize IntKind.u8.wrap (F : Int) = wf
    obtain ⟨P, hP⟩ : ∃ P, P = ordB row ++ [UInt8.ofNat F, flg true] := ⟨_, rfl⟩
    have HP := Lib.hid hP
    have HOP : Hid (x3.ownsRow (w.heap.size + 1) 5 1 v3 P.length (u8s P)) := Lib.hid (by
      have := HO3.out
      rw [← hP] at this
      have e : P.length = (ordB row).length + 2 := by rw [hP]; simp only [List.length_append, List.length_cons, List.length_nil]
      rw [e]; exact this)
    have HPL : Hid (P.length ≤ 1031) := Lib.hid (by have := HLEN.out; rw [hP]; simp only [List.length_append, List.length_cons, List.length_nil]; omega)
    clear hP
    go_loopw [5, 47] (fun b i wr => ∃ (k : Nat) (Q : List UInt8), k ≤ 2 ∧ i = .int .i64 k ∧ Hid (Q = P ++ (if k = 0 then [] else if k = 1 then numK T else numK T ++ numK S)) ∧ Hid (wr.ownsRow (w.heap.size + 1) 5 1 b Q.length (u8s Q)) ∧ Hid (Q.length ≤ P.length + 16) ∧ Hid (Bx w #[.slice A n c, .int .i64 (F : Int), .slice B m d, .int .i64 (T : Int), .int .i64 (S : Int), .int .i64 5, .slice D v q] wr)) (fun _ i _ => 2 - (intOf i).toNat)
    case atStart => exact ⟨0, P, by decide, rfl, Lib.hid (by simp), HOP, Lib.hid (by omega), HX3⟩
    case round =>
      clear HOP HX3
      obtain ⟨k, Q, hk, hi, HQQ, HO, HL, HX⟩ := hrel
      obtain ⟨u, hu⟩ : ∃ u, u = u5 := ⟨_, rfl⟩
      rw [← hu] at HO ⊢
      clear hu
      have hk' : k = 0 ∨ k = 1 ∨ k = 2 := by omega
      clear hk
      rcases hk' with rfl | rfl | rfl
      case inr.inr =>
        replace hi : _ = Value.int .i64 2 := hi
        subst hi
        have p5 := HX.out.cell (i := 5) (v := .int .i64 5) rfl
        go_wp2_with (at_builtin; go_must (refine wpList_append_reads _ rfl (.tmp 62) (.tmp 66) rfl Tryz.u8s' (w.heap.size + 1) u Q.length (u8s Q) rfl (HO.out.alloc _) (wr.heap.size + 1) (some ⟨wr.heap.size, 0, none⟩) 1 1 (u8s [UInt8.ofNat 5]) rfl (by exact reads_lit wr _ [UInt8.ofNat 5] _ _ (by rfl)) (u8s_one _) (by have := HL.out; have := HPL.out; unfold maxLen; omega) (by have := HL.out; have := HPL.out; omega) (by have := HX.out.size; simp; omega) ?_); intro v1 x1 hown hg hat; have HX1 := Lib.hid ((HX.out.alloc _).grow (HO.out.alloc _) hg); rw [← u8s_append] at hown; have HO1 := Lib.hid hown; clear hown hg hat)
        go_ret2
        have hf : Q ++ [UInt8.ofNat 5] = keyE ⟨row, F, qual, T, S, 5, []⟩ := by
          rw [HQQ.out, HP.out]
          unfold keyE tailK qualK
          simp
        rw [← hf]
        exact bytes_post2 (own_low HO1.out (Nat.le_succ _)) HX1.out.up
      case inl =>
        replace hi : _ = Value.int .i64 0 := hi
        subst hi
        have ix := fun w => idx_two0 (T : Int) (S : Int) w
        go_wp2_with (first
          | (go_at_call 91; go_must (refine (falling_at T _ (by have := HN.out; omega)).mono ?_); rintro e x1 ⟨A1, c1, rfl, hs1, hb1⟩; have HX1 := Lib.hid (HX.out.later hb1); have HO1 := Lib.hid (own_below HO.out hb1); have HR1 := Lib.hid hs1.rb; clear hs1 hb1)
          | (at_builtin; go_must (refine wpList_append_reads _ rfl (.tmp 58) (.tmp 59) rfl Tryz.u8s' (w.heap.size + 1) u Q.length (u8s Q) rfl HO1.out x1.heap.size A1 8 c1 (u8s (numK T)) rfl HR1.out (u8s_one _) (by have := HL.out; have := HPL.out; unfold maxLen; omega) (by have := HL.out; have := HPL.out; omega) (by have := HX1.out.size; omega) ?_); intro v2 x2 hown hg hat; have HX2 := Lib.hid (HX1.out.grow HO1.out hg); rw [← u8s_append] at hown; have HO2 := Lib.hid hown; clear hown hg hat))
        have HO3 : Hid (x2.ownsRow (w.heap.size + 1) 5 1 v2 (Q ++ numK T).length (u8s (Q ++ numK T))) := Lib.hid (by
          have := HO2.out
          rw [show (Q ++ numK T).length = Q.length + 8 from by simp [numK_len]]; exact this)
        clear HO2
        go_roundw
        case measure => simp [intOf]
        case rel => exact ⟨1, Q ++ numK T, by decide, rfl, Lib.hid (by rw [HQQ.out]; simp), HO3, Lib.hid (by have := HQQ.out; rw [this]; simp [numK_len]), HX2⟩
      case inr.inl =>
        replace hi : _ = Value.int .i64 1 := hi
        subst hi
        have ix := fun w => idx_two1 (T : Int) (S : Int) w
        go_wp2_with (first
          | (go_at_call 91; go_must (refine (falling_at S _ (by have := HN.out; omega)).mono ?_); rintro e x1 ⟨A1, c1, rfl, hs1, hb1⟩; have HX1 := Lib.hid (HX.out.later hb1); have HO1 := Lib.hid (own_below HO.out hb1); have HR1 := Lib.hid hs1.rb; clear hs1 hb1)
          | (at_builtin; go_must (refine wpList_append_reads _ rfl (.tmp 58) (.tmp 59) rfl Tryz.u8s' (w.heap.size + 1) u Q.length (u8s Q) rfl HO1.out x1.heap.size A1 8 c1 (u8s (numK S)) rfl HR1.out (u8s_one _) (by have := HL.out; have := HPL.out; unfold maxLen; omega) (by have := HL.out; have := HPL.out; omega) (by have := HX1.out.size; omega) ?_); intro v2 x2 hown hg hat; have HX2 := Lib.hid (HX1.out.grow HO1.out hg); rw [← u8s_append] at hown; have HO2 := Lib.hid hown; clear hown hg hat))
        have HO3 : Hid (x2.ownsRow (w.heap.size + 1) 5 1 v2 (Q ++ numK S).length (u8s (Q ++ numK S))) := Lib.hid (by
          have := HO2.out
          rw [show (Q ++ numK S).length = Q.length + 8 from by simp [numK_len]]; exact this)
        clear HO2
        go_roundw
        case measure => simp [intOf]
        case rel => exact ⟨2, Q ++ numK S, by decide, rfl, Lib.hid (by rw [HQQ.out]; simp), HO3, Lib.hid (by have := HQQ.out; rw [this]; simp [numK_len]), HX2⟩
set_option maxRecDepth 100000 in
set_option maxHeartbeats 2000000 in
theorem key_more (row qual : List UInt8) (A : Option Addr) (n c F : Nat) (B : Option Addr) (m d T S K : Nat) (D : Option Addr) (v q : Nat) (w : World) (hrow : Sl w A n c row) (hqual : Sl w B m d qual) (hz : checkN n F m T S (K : Int) v = 0) (hk : K ≠ 5) :
    Calls Tryz.prog 70 #[.agg #[.slice A n c, .int .i64 (F : Int), .slice B m d, .int .i64 (T : Int), .int .i64 (S : Int), .int .i64 (K : Int), .slice D v q]] w (BytesPost2 5 (keyE ⟨row, F, qual, T, S, (K : Int), []⟩) 0 w) := by
  obtain ⟨z1, z2, z3, z4, z5, z6, -⟩ := checkN_ok hz
  have HN : Hid (n ≤ 256 ∧ m ≤ 256 ∧ T ≤ 1099511627776 ∧ S ≤ 17592186044431) := Lib.hid (by omega)
  have HR : Hid (∀ x, Below w.heap.size w x → Sl x A n c row) := Lib.hid fun x h => hrow.later h
  have HQ : Hid (∀ x, Below w.heap.size w x → Sl x B m d qual) := Lib.hid fun x h => hqual.later h
  have HLEN : Hid ((ordB row).length ≤ 514 ∧ (ordB qual).length ≤ 514) := Lib.hid (by
    have h1 := ordB_len row; have h2 := ordB_len qual; have h3 := hrow.len; have h4 := hqual.len; omega)
  have HZ := Lib.hid hz
  have HX0 := Lib.hid (Bx.new w #[.slice A n c, .int .i64 (F : Int), .slice B m d, .int .i64 (T : Int), .int .i64 (S : Int), .int .i64 (K : Int), .slice D v q] 46)
  have hk5 : ((K : Int) == 5) = false := by rw [beq_eq_false_iff_ne]; omega
  have hk5' : ((K : Int) != 5) = true := by rw [bne_iff_ne]; omega
  have HK := Lib.hid hk
  obtain ⟨b4, hb4⟩ : ∃ b4, b4 = ((K : Int) == 4) := ⟨_, rfl⟩
  have HB4 := Lib.hid hb4
  have hk4 : ((K : Int) == 4) = b4 := hb4.symm
  clear hk hb4
  clear hz z1 z2 z3 z4 z5 z6 hrow hqual
  have tok3 : True := trivial
  have tok4 : True := trivial
  go_enter Tryz.func70, Tryz.ntmps70
  go_wp2_with (go_at_call 88; go_must (refine (check_any _ _ _ _ _ _ _ _ _ _ _ _ _ _).mono ?_); rintro e x1 ⟨rfl, hb1⟩; rw [HZ.out]; have HX1 := Lib.hid (HX0.out.later hb1); clear hb1 HX0)
  have c0 := HX1.out.cell (i := 0) (v := .slice A n c) rfl; have c1 := HX1.out.cell (i := 1) (v := .int .i64 (F : Int)) rfl; have c5 := HX1.out.cell (i := 5) (v := .int .i64 (K : Int)) rfl
  go_region_held3 (fun x => x.cell? ⟨w.heap.size, 0, none⟩ = some (.slice A n c) ∧ x.cell? ⟨w.heap.size, 1, none⟩ = some (.int .i64 (F : Int)) ∧ x.cell? ⟨w.heap.size, 5, none⟩ = some (.int .i64 (K : Int)) ∧ Bx w #[.slice A n c, .int .i64 (F : Int), .slice B m d, .int .i64 (T : Int), .int .i64 (S : Int), .int .i64 (K : Int), .slice D v q] x) (first | assumption | exact ⟨c0, c1, c5, HX1.out.later (Below.refl _ _).drew⟩ | exact keepB3 ‹_ ∧ _ ∧ _ ∧ Bx _ _ _› hb2 | exact keepA3 ‹_ ∧ _ ∧ _ ∧ Bx _ _ _› | exact keepG3 ‹_ ∧ _ ∧ _ ∧ Bx _ _ _› (own_below hO2 ((Below.refl _ _).alloc (Nat.le_refl _) _)) hg3) (first
    | (go_at_call 89; refine (ordered_any row A n c _ (by have := HN.out; omega) (HR.out _ (‹_ ∧ _ ∧ _ ∧ Bx _ _ _›).2.2.2.up).rb).mono ?_; rintro e x2 ⟨A2, c2, rfl, hO2, hb2⟩; have hO2 := own_low hO2 (‹_ ∧ _ ∧ _ ∧ Bx _ _ _›).2.2.2.size)
    | (go_at_call 90; refine (flag_any _ _).mono ?_; rintro e w0 ⟨rfl, rfl⟩)
    | (refine step_append_cells _ (by rfl) _ _ (by rfl) Tryz.u8s' (w.heap.size + 1) (.slice A2 (ordB row).length c2) (ordB row).length (u8s (ordB row)) (by rfl) (own_below hO2 ((Below.refl _ _).alloc (Nat.le_refl _) _)) (x2.heap.size + 1) (some ⟨x2.heap.size, 0, none⟩) 2 2 (u8s [UInt8.ofNat F, flg false]) (by rfl) (by exact reads_lit x2 _ [UInt8.ofNat F, flg false] _ _ (by show [Value.int .u8 (IntKind.u8.wrap (F : Int)), _] = [u8v _, u8v _]; rw [u8v_mod, IntKind.wrap_u8]; rfl)) (u8s_one _) (by have := HLEN.out; unfold maxLen; omega) (by have := HLEN.out; omega) (‹_ ∧ _ ∧ _ ∧ Bx _ _ _›).2.2.2.size ?_; intro v3 x3 hown3 hg3 hat3 hold3 hcell3))
  all_goals
    obtain ⟨-, -, -, hx3⟩ := ‹_ ∧ _ ∧ _ ∧ Bx _ _ x3›
    have HX3 := Lib.hid hx3
    rw [← u8s_append] at hown3
    have HO3 := Lib.hid hown3
    clear hx3 hown3 hg3 hat3 hold3 hcell3 hO2 hb2 c0 c1 c5
    have q3_5 := HX3.out.cell (i := 5) (v := .int .i64 (K : Int)) rfl
    have q3_2 := HX3.out.cell (i := 2) (v := .slice B m d) rfl
    go_wp2_with (first
      | (go_at_call 90; go_must (refine (flag_any _ _).mono ?_); rintro e w0 ⟨rfl, rfl⟩)
      | (go_at_call 89; have _t := tok3; go_must (refine (ordered_any qual B m d _ (by have := HN.out; omega) (HQ.out _ HX3.out.up).rb).mono ?_); rintro e x4 ⟨A4, c4, rfl, hO4, hb4⟩; have HX4 := Lib.hid (HX3.out.later hb4); have HO4 := Lib.hid (own_below HO3.out hb4); have HR4 := Lib.hid (RB.own hO4); clear hO4 hb4 tok3)
      | (at_builtin; have _t := tok4; go_must (refine wpList_append_reads _ rfl (.tmp 30) (.tmp 33) rfl Tryz.u8s' (w.heap.size + 1) v3 ((ordB row).length + 2) (u8s (ordB row ++ [UInt8.ofNat F, flg false])) rfl HO4.out x4.heap.size A4 (ordB qual).length c4 (u8s (ordB qual)) rfl HR4.out (u8s_one _) (by have := HLEN.out; unfold maxLen; omega) (by have := HLEN.out; omega) (by have := HX4.out.size; omega) ?_); intro v5 x5 hown hg hat; clear tok4; have HX5 := Lib.hid (HX4.out.grow HO4.out hg); rw [← u8s_append] at hown; have HO5 := Lib.hid hown; clear hown hg hat; have q5_5 := HX5.out.cell (i := 5) (v := .int .i64 (K : Int)) rfl)
      | (at_builtin; go_must (refine wpList_append_reads _ rfl (.tmp 35) (.tmp 40) rfl Tryz.u8s' (w.heap.size + 1) v5 ((ordB row).length + 2 + (ordB qual).length) (u8s ((ordB row ++ [UInt8.ofNat F, flg false]) ++ ordB qual)) rfl (HO5.out.alloc _) (x5.heap.size + 1) (some ⟨x5.heap.size, 0, none⟩) 1 1 (u8s ([flg b4])) rfl (by exact reads_lit x5 _ ([flg b4]) _ _ (by rfl)) (u8s_one _) (by have := HLEN.out; unfold maxLen; omega) (by have := HLEN.out; omega) (by have := HX5.out.size; simp; omega) ?_); intro v6 x6 hown hg hat; have HX6 := Lib.hid ((HX5.out.alloc _).grow (HO5.out.alloc _) hg); rw [← u8s_append] at hown; have HO6 := Lib.hid hown; clear hown hg hat; have q6_5 := HX6.out.cell (i := 5) (v := .int .i64 (K : Int)) rfl; have q6_3 := HX6.out.cell (i := 3) (v := .int .i64 (T : Int)) rfl; have q6_4 := HX6.out.cell (i := 4) (v := .int .i64 (S : Int)) rfl))
    clear HX1
    generalize IntKind.u8.wrap (F : Int) = wf
    obtain ⟨P, hP⟩ : ∃ P, P = ((ordB row ++ [UInt8.ofNat F, flg false]) ++ ordB qual) ++ [flg b4] := ⟨_, rfl⟩
    have HP := Lib.hid hP
    have HOP : Hid (x6.ownsRow (w.heap.size + 1) 5 1 v6 P.length (u8s P)) := Lib.hid (by
      have := HO6.out
      rw [← hP] at this
      have e : P.length = (ordB row).length + 2 + (ordB qual).length + 1 := by rw [hP]; simp only [List.length_append, List.length_cons, List.length_nil]
      rw [e]; exact this)
    have HPL : Hid (P.length ≤ 1031) := Lib.hid (by have := HLEN.out; rw [hP]; simp only [List.length_append, List.length_cons, List.length_nil]; omega)
    clear hP
    go_loopw [5, 47] (fun b i wr => ∃ (k : Nat) (Q : List UInt8), k ≤ 2 ∧ i = .int .i64 k ∧ Hid (Q = P ++ (if k = 0 then [] else if k = 1 then numK T else numK T ++ numK S)) ∧ Hid (wr.ownsRow (w.heap.size + 1) 5 1 b Q.length (u8s Q)) ∧ Hid (Q.length ≤ P.length + 16) ∧ Hid (Bx w #[.slice A n c, .int .i64 (F : Int), .slice B m d, .int .i64 (T : Int), .int .i64 (S : Int), .int .i64 (K : Int), .slice D v q] wr)) (fun _ i _ => 2 - (intOf i).toNat)
    case atStart => exact ⟨0, P, by decide, rfl, Lib.hid (by simp), HOP, Lib.hid (by omega), HX6⟩
    case round =>
      clear HOP HX6
      obtain ⟨k, Q, hk, hi, HQQ, HO, HL, HX⟩ := hrel
      obtain ⟨u, hu⟩ : ∃ u, u = u5 := ⟨_, rfl⟩
      rw [← hu] at HO ⊢
      clear hu
      have hk' : k = 0 ∨ k = 1 ∨ k = 2 := by omega
      clear hk
      rcases hk' with rfl | rfl | rfl
      case inr.inr =>
        replace hi : _ = Value.int .i64 2 := hi
        subst hi
        have p5 := HX.out.cell (i := 5) (v := .int .i64 (K : Int)) rfl
        go_wp2_with (at_builtin; go_must (refine wpList_append_reads _ rfl (.tmp 62) (.tmp 66) rfl Tryz.u8s' (w.heap.size + 1) u Q.length (u8s Q) rfl (HO.out.alloc _) (wr.heap.size + 1) (some ⟨wr.heap.size, 0, none⟩) 1 1 (u8s [UInt8.ofNat K]) rfl (by exact reads_lit wr _ [UInt8.ofNat K] _ _ (by show [_] = [u8v _]; rw [u8v_mod])) (u8s_one _) (by have := HL.out; have := HPL.out; unfold maxLen; omega) (by have := HL.out; have := HPL.out; omega) (by have := HX.out.size; simp; omega) ?_); intro v1 x1 hown hg hat; have HX1 := Lib.hid ((HX.out.alloc _).grow (HO.out.alloc _) hg); rw [← u8s_append] at hown; have HO1 := Lib.hid hown; clear hown hg hat)
        go_ret2
        have hf : Q ++ [UInt8.ofNat K] = keyE ⟨row, F, qual, T, S, (K : Int), []⟩ := by
          rw [HQQ.out, HP.out]
          unfold keyE tailK qualK
          have hkk : ¬ ((K : Int) = 5) := by have := HK.out; omega
          have h5 : ((K : Int) == 5) = false := hk5
          have hB := HB4.out
          clear hk4
          subst hB
          rw [if_neg hkk]
          simp only [h5]
          simp
        rw [← hf]
        exact bytes_post2 (own_low HO1.out (Nat.le_succ _)) HX1.out.up
      case inl =>
        replace hi : _ = Value.int .i64 0 := hi
        subst hi
        have ix := fun w => idx_two0 (T : Int) (S : Int) w
        go_wp2_with (first
          | (go_at_call 91; go_must (refine (falling_at T _ (by have := HN.out; omega)).mono ?_); rintro e x1 ⟨A1, c1, rfl, hs1, hb1⟩; have HX1 := Lib.hid (HX.out.later hb1); have HO1 := Lib.hid (own_below HO.out hb1); have HR1 := Lib.hid hs1.rb; clear hs1 hb1)
          | (at_builtin; go_must (refine wpList_append_reads _ rfl (.tmp 58) (.tmp 59) rfl Tryz.u8s' (w.heap.size + 1) u Q.length (u8s Q) rfl HO1.out x1.heap.size A1 8 c1 (u8s (numK T)) rfl HR1.out (u8s_one _) (by have := HL.out; have := HPL.out; unfold maxLen; omega) (by have := HL.out; have := HPL.out; omega) (by have := HX1.out.size; omega) ?_); intro v2 x2 hown hg hat; have HX2 := Lib.hid (HX1.out.grow HO1.out hg); rw [← u8s_append] at hown; have HO2 := Lib.hid hown; clear hown hg hat))
        have HO3 : Hid (x2.ownsRow (w.heap.size + 1) 5 1 v2 (Q ++ numK T).length (u8s (Q ++ numK T))) := Lib.hid (by
          have := HO2.out
          rw [show (Q ++ numK T).length = Q.length + 8 from by simp [numK_len]]; exact this)
        clear HO2
        go_roundw
        case measure => simp [intOf]
        case rel => exact ⟨1, Q ++ numK T, by decide, rfl, Lib.hid (by rw [HQQ.out]; simp), HO3, Lib.hid (by have := HQQ.out; rw [this]; simp [numK_len]), HX2⟩
      case inr.inl =>
        replace hi : _ = Value.int .i64 1 := hi
        subst hi
        have ix := fun w => idx_two1 (T : Int) (S : Int) w
        go_wp2_with (first
          | (go_at_call 91; go_must (refine (falling_at S _ (by have := HN.out; omega)).mono ?_); rintro e x1 ⟨A1, c1, rfl, hs1, hb1⟩; have HX1 := Lib.hid (HX.out.later hb1); have HO1 := Lib.hid (own_below HO.out hb1); have HR1 := Lib.hid hs1.rb; clear hs1 hb1)
          | (at_builtin; go_must (refine wpList_append_reads _ rfl (.tmp 58) (.tmp 59) rfl Tryz.u8s' (w.heap.size + 1) u Q.length (u8s Q) rfl HO1.out x1.heap.size A1 8 c1 (u8s (numK S)) rfl HR1.out (u8s_one _) (by have := HL.out; have := HPL.out; unfold maxLen; omega) (by have := HL.out; have := HPL.out; omega) (by have := HX1.out.size; omega) ?_); intro v2 x2 hown hg hat; have HX2 := Lib.hid (HX1.out.grow HO1.out hg); rw [← u8s_append] at hown; have HO2 := Lib.hid hown; clear hown hg hat))
        have HO3 : Hid (x2.ownsRow (w.heap.size + 1) 5 1 v2 (Q ++ numK S).length (u8s (Q ++ numK S))) := Lib.hid (by
          have := HO2.out
          rw [show (Q ++ numK S).length = Q.length + 8 from by simp [numK_len]]; exact this)
        clear HO2
        go_roundw
        case measure => simp [intOf]
        case rel => exact ⟨2, Q ++ numK S, by decide, rfl, Lib.hid (by rw [HQQ.out]; simp), HO3, Lib.hid (by have := HQQ.out; rw [this]; simp [numK_len]), HX2⟩
set_option maxRecDepth 100000 in
set_option maxHeartbeats 1000000 in
theorem key_err (f t s k : Int) (A : Option Addr) (n c : Nat) (B : Option Addr) (m d : Nat) (D : Option Addr) (v q : Nat) (w : World) (hz : checkN n f m t s k v ≠ 0) :
    Calls Tryz.prog 70 #[.agg #[.slice A n c, .int .i64 f, .slice B m d, .int .i64 t, .int .i64 s, .int .i64 k, .slice D v q]] w (BytesPost2 5 [] (checkN n f m t s k v) w) := by
  obtain ⟨z, hzz⟩ : ∃ z, z = checkN n f m t s k v := ⟨_, rfl⟩
  rw [← hzz] at hz ⊢
  have HZ := Lib.hid hzz
  have hd : (z != 0) = true := by rw [bne_iff_ne]; exact hz
  have HB := Lib.hid (fun o => (Below.refl w.heap.size w).alloc (Nat.le_refl _) o)
  clear hz hzz
  go_enter Tryz.func70, Tryz.ntmps70
  go_wp2_with (go_at_call 88; go_must (refine (check_any _ _ _ _ _ _ _ _ _ _ _ _ _ _).mono ?_); rintro e x1 ⟨rfl, hb1⟩; rw [← HZ.out]; have HB1 := Lib.hid (below_up (HB.out _) hb1); clear hb1 HB)
  go_ret2
  exact bytes_none2 HB1.out
theorem key_any (e : Ent) (A : Option Addr) (n c : Nat) (B : Option Addr) (m d : Nat) (D : Option Addr) (v q : Nat) (w : World) (h : En w A n c B m d D v q e) :
    Calls Tryz.prog 70 #[entV A n c B m d D v q e] w (BytesPost2 5 (KeyE e).1 (KeyE e).2 w) := by
  obtain ⟨row, f, qual, t, s, k, val⟩ := e
  have hl1 : row.length = n := h.row.len
  have hl2 : qual.length = m := h.qual.len
  have hl3 : val.length = v := h.val.len
  have hc : checkE ⟨row, f, qual, t, s, k, val⟩ = checkN n f m t s k v := by unfold checkE; simp only [hl1, hl2, hl3]
  unfold KeyE
  rw [hc]
  by_cases hz : checkN n f m t s k v = 0
  · rw [if_pos hz]
    obtain ⟨z1, z2, z3, z4, z5, z6, -⟩ := checkN_ok hz
    obtain ⟨F, rfl⟩ : ∃ F : Nat, f = F := ⟨f.toNat, by omega⟩
    obtain ⟨T, rfl⟩ : ∃ T : Nat, t = T := ⟨t.toNat, by omega⟩
    obtain ⟨S, rfl⟩ : ∃ S : Nat, s = S := ⟨s.toNat, by omega⟩
    obtain ⟨K, rfl⟩ : ∃ K : Nat, k = K := ⟨k.toNat, by omega⟩
    by_cases hk : K = 5
    · subst hk
      exact key_five row qual A n c F B m d T S D v q w h.row h.qual hz
    · exact key_more row qual A n c F B m d T S K D v q w h.row h.qual hz hk
  · rw [if_neg hz]
    exact key_err f t s k A n c B m d D v q w hz
end Go.Proofs.YtmigjipfomfacaaGreatDoor
namespace Go.Proofs.YtmigjipfomfacaaGreatDoor
open Go.RowKit
theorem Tryz.intS5 : SliceOf Tryz.prog 91 3 1 8 := SliceOf.mk' (z := .int .i64 0) Tryz.underlying91 (by kernel_rfl) rfl (by decide)
theorem uintB_le10 {n : Nat} (h : n < 18446744073709551616) : (uintB n).length ≤ 10 := uintB_len 9 n (Nat.lt_of_lt_of_le h (by decide))
theorem ent_row5 : RowTy Tryz.prog 46 7 := ⟨⟨_, Tryz.underlying46, rfl⟩, by kernel_rfl⟩
theorem last_range {w z : World} {os : List Ob} {i R g : Nat} {bv pv kv : Value} {A B : Option Addr} {n c m d N : Nat} {e : Ent} (h : OW w os z) (hi : os[i]? = some (boxO g (bldC R bv pv A n c B m d e kv N))) :
    z.rangeAt g 3 [.slice A n c, .int .i64 e.fam, .slice B m d, .int .i64 e.ts, .int .i64 e.seq, .int .i64 e.kind, .slice none 0 0] := fun j v hj => by
  match j, hj with
  | 0, hj => exact h.cell (j := 3) hi hj
  | 1, hj => exact h.cell (j := 4) hi hj
  | 2, hj => exact h.cell (j := 5) hi hj
  | 3, hj => exact h.cell (j := 6) hi hj
  | 4, hj => exact h.cell (j := 7) hi hj
  | 5, hj => exact h.cell (j := 8) hi hj
  | 6, hj => exact h.cell (j := 9) hi hj
def AddP (w : World) (R : Nat) (L : List Ent) (g : Nat) (rest : List Ob) (e : Ent) (r : Ending) (z : World) : Prop :=
  r = .returned (.int .i64 (addC R L e)) ∧ ∃ os', Bld R (addL R L e) g os' ∧ OW w (os' ++ rest) z
set_option maxRecDepth 100000 in
set_option maxHeartbeats 4000000 in
theorem add_any {w x : World} {R g : Nat} {L : List Ent} {os rest : List Ob} (hb : Bld R L g os) (h : OW w (os ++ rest) x) (e : Ent) (A : Option Addr) (n c : Nat) (B : Option Addr) (m d : Nat) (D : Option Addr) (v q : Nat) (HE : ∀ us z, OW w (us ++ rest) z → En z A n c B m d D v q e) :
    Calls Tryz.prog 46 #[.pointer (some ⟨g, 0, none⟩), entV A n c B m d D v q e] x (AddP w R L g rest e) := by
  obtain ⟨hR, hsz, hkl, hall, mm, rfl, hlast⟩ := hb
  have HEE := Lib.hid HE
  have HX := Lib.hid h
  have HRR := Lib.hid hR
  have HSZ := Lib.hid hsz
  have HKL := Lib.hid hkl
  have HLA := Lib.hid hlast
  have HALL := Lib.hid hall
  clear h HE hR hsz hkl hlast hall
  by_cases hc : checkE e = 0
  case neg =>
    obtain ⟨ce, hce⟩ : ∃ z, z = checkE e := ⟨_, rfl⟩
    have HK : Hid (KeyE e = ([], ce)) := Lib.hid (by unfold KeyE; rw [if_neg hc, hce])
    have HP : Hid (addC R L e = ce ∧ addL R L e = L) := Lib.hid (by
      have h : addC R L e = ce := by unfold addC; rw [if_pos hc, hce]
      exact ⟨h, by unfold addL; rw [h, if_neg (by rw [hce]; exact hc)]⟩)
    rw [← hce] at hc
    clear hce
    have hd : (ce == 0) = false := beq_eq_false_iff_ne.2 hc
    go_enter Tryz.func46, Tryz.ntmps46
    have tk : True := trivial
    go_wp2_with (first
      | (refine wl_box rfl (.tmp 1) rfl [.slice A n c, .int .i64 e.fam, .slice B m d, .int .i64 e.ts, .int .i64 e.seq, .int .i64 e.kind, .slice D v q] rfl (OW.nil _) ?_; intro gb x1 hz _; replace HX := Lib.hid (HX.out.addF9 hz); clear hz)
      | (refine wpList_load_row7 rfl 46 (.tmp 3) rfl rfl (HX.out.range (i := 0) rfl) ent_row5 ?_)
      | (go_at_call 70; have _t := tk; go_must (refine (key_any e A n c B m d D v q _ (HEE.out (boxO gb [.slice A n c, .int .i64 e.fam, .slice B m d, .int .i64 e.ts, .int .i64 e.seq, .int .i64 e.kind, .slice D v q] :: bldO R g (runB R L) mm) _ HX.out)).mono ?_); rw [HK.out]; rintro r y1 hp; obtain ⟨Ak, ck, rfl, _, ho, hb⟩ := hp.at_ (n := 0) rfl rfl; replace HX := Lib.hid (HX.out.addF9 (OW.byt1 hb ho)); clear hp ho hb tk))
    go_ret
    exact ⟨by rw [HP.out.1]; rfl, bldO R g (runB R L) mm, by rw [HP.out.2]; exact ⟨HRR.out, HSZ.out, HKL.out, HALL.out, mm, rfl, HLA.out⟩, HX.out.sub (((List.Sublist.refl _).cons _).cons _)⟩
  have HOK := Lib.hid (ok_of hc)
  have hkn0 := keyE_len HOK.out
  obtain ⟨kb, hkb⟩ : ∃ z, z = keyE e := ⟨_, rfl⟩
  have HK : Hid (KeyE e = (kb, 0)) := Lib.hid (by unfold KeyE; rw [if_pos hc, hkb])
  rw [← hkb] at hkn0
  obtain ⟨kn, hkn⟩ : ∃ z, z = kb.length := ⟨_, rfl⟩
  rw [← hkn] at hkn0
  have HKB := Lib.hid hkb
  have HKN := Lib.hid hkn.symm
  have HC := Lib.hid hc
  clear hkb hkn hc
  obtain ⟨s, hs⟩ : ∃ z, z = runB R L := ⟨_, rfl⟩
  rw [← hs] at HX HSZ HKL
  obtain ⟨N, hN⟩ : ∃ z, z = s.n := ⟨_, rfl⟩
  have HNL : Hid (N = L.length) := Lib.hid (by rw [hN, hs, runB_n])
  have HS0 := Lib.hid hs
  have HN := Lib.hid hN
  clear hs hN
  obtain ⟨bo, hbo⟩ : ∃ z : Bool, z = !lastOk L e := ⟨_, rfl⟩
  have HBO := Lib.hid hbo
  clear hbo
  go_enter Tryz.func46, Tryz.ntmps46
  have tk : True := trivial
  go_upto_region 4 with (first
    | (refine wl_box rfl (.tmp 1) rfl [.slice A n c, .int .i64 e.fam, .slice B m d, .int .i64 e.ts, .int .i64 e.seq, .int .i64 e.kind, .slice D v q] rfl (OW.nil _) ?_; intro gb x1 hz _; replace HX := Lib.hid (HX.out.addF9 hz); clear hz)
    | (refine wpList_load_row7 rfl 46 (.tmp 3) rfl rfl (HX.out.range (i := 0) rfl) ent_row5 ?_)
    | (go_at_call 70; have _t := tk; go_must (refine (key_any e A n c B m d D v q _ (HEE.out (boxO gb [.slice A n c, .int .i64 e.fam, .slice B m d, .int .i64 e.ts, .int .i64 e.seq, .int .i64 e.kind, .slice D v q] :: bldO R g s mm) _ HX.out)).mono ?_); rw [HK.out]; rintro r y1 hp; obtain ⟨Ak, ck, rfl, _, ho, hb⟩ := hp.at_ (n := kn) HKN.out rfl; replace HX := Lib.hid (HX.out.addF9 (OW.byt1 hb ho)); clear hp ho hb tk))
  have HX : Hid (OW w (bytO 5 (Ak, ck, kb) :: boxO gb [.slice A n c, .int .i64 e.fam, .slice B m d, .int .i64 e.ts, .int .i64 e.seq, .int .i64 e.kind, .slice D v q] :: (bldO R g s mm ++ rest)) y1) := HX
  have HCN : Hid (∀ z, OW w (bytO 5 (Ak, ck, kb) :: boxO gb [.slice A n c, .int .i64 e.fam, .slice B m d, .int .i64 e.ts, .int .i64 e.seq, .int .i64 e.kind, .slice D v q] :: (bldO R g s mm ++ rest)) z → z.cell? ⟨g, 11, none⟩ = some (.int .i64 (N : Int))) := Lib.hid fun z hz => by rw [HN.out]; exact hz.cell (i := 2) (j := 11) rfl rfl
  go_cut [32] (fun b wx => b = .bool bo ∧ Hid (OW w (bytO 5 (Ak, ck, kb) :: boxO gb [.slice A n c, .int .i64 e.fam, .slice B m d, .int .i64 e.ts, .int .i64 e.seq, .int .i64 e.kind, .slice D v q] :: (bldO R g s mm ++ rest)) wx))
  case first =>
    cases hg : L.getLast? with
    | none =>
      have hN0 : N = 0 := by rw [HNL.out, List.getLast?_eq_none_iff.1 hg]; rfl
      have hb0 : bo = false := by rw [HBO.out]; unfold lastOk; rw [hg]; rfl
      have hd : decide ((N : Int) > 0) = false := decide_eq_false (by omega)
      have hd' : ¬ (0 : Int) < (N : Int) := by omega
      clear hg
      refine lt_start [] (by kernel_rfl) ?_
      intro xd hd0
      refine ⟨fun z => OW w (bytO 5 (Ak, ck, kb) :: boxO gb [.slice A n c, .int .i64 e.fam, .slice B m d, .int .i64 e.ts, .int .i64 e.seq, .int .i64 e.kind, .slice D v q] :: (bldO R g s mm ++ rest)) z, ?_⟩
      have HS := Lib.hid (HX.out.later hd0)
      refine lt_pure 0 rfl (by kernel_rfl) (by kernel_rfl) (by kernel_rfl) (by kernel_rfl) (fun _ _ _ h => h) (v := ?_) (yi_run rfl (fun w => ?_)) (fun _ => HS.out) ?_
      rotate_left
      · first | (go_simp; done) | (go_simp; with_reducible rfl)
      simp only [Act.put, List.setIfInBounds_toArray, List.set_cons_zero, List.set_cons_succ]
      refine lt_pure 1 rfl (by kernel_rfl) (by kernel_rfl) (by kernel_rfl) (by kernel_rfl) (fun _ _ _ h => h) (v := ?_) (yi_run rfl (fun w => ?_)) (fun _ => HS.out) ?_
      rotate_left
      · first | (go_simp; done) | (go_simp; with_reducible rfl)
      simp only [Act.put, List.setIfInBounds_toArray, List.set_cons_zero, List.set_cons_succ]
      refine lt_pure 2 rfl (by kernel_rfl) (by kernel_rfl) (by kernel_rfl) (by kernel_rfl) (fun _ _ _ h => h) (v := ?_) (yi_run rfl (fun w => ?_)) (fun _ => HS.out) ?_
      rotate_left
      · first | (go_simp; done) | (go_simp; with_reducible rfl)
      simp only [Act.put, List.setIfInBounds_toArray, List.set_cons_zero, List.set_cons_succ]
      refine lt_take 3 [4, 5, 6, 7, 8, 9, 10, 11, 12, 13] rfl (by kernel_rfl) (by kernel_rfl) (by kernel_rfl) (by kernel_rfl) (by kernel_rfl) (fun _ _ _ h => h) (yi_cell rfl rfl rfl (fun w hS => HCN.out w hS) (fun w => Tryz.isAgg3 w)) HS.out ?_
      simp only [Act.put, List.setIfInBounds_toArray, List.set_cons_zero, List.set_cons_succ]
      refine lt_pure 4 rfl (by kernel_rfl) (by kernel_rfl) (by kernel_rfl) (by kernel_rfl) (fun _ _ _ h => h) (v := ?_) (yi_run rfl (fun w => ?_)) (fun _ => HS.out) ?_
      rotate_left
      · first | (go_simp; done) | (go_simp; with_reducible rfl)
      simp only [Act.put, List.setIfInBounds_toArray, List.set_cons_zero, List.set_cons_succ]
      refine lt_pure 5 rfl (by kernel_rfl) (by kernel_rfl) (by kernel_rfl) (by kernel_rfl) (fun _ _ _ h => h) (v := ?_) (yi_run rfl (fun w => ?_)) (fun _ => HS.out) ?_
      rotate_left
      · first | (go_simp; done) | (go_simp; with_reducible rfl)
      simp only [Act.put, List.setIfInBounds_toArray, List.set_cons_zero, List.set_cons_succ]
      refine lt_skip 6 rfl (by kernel_rfl) (by kernel_rfl) (by kernel_rfl) (by kernel_rfl) (fun _ _ _ h => h) rfl (fun _ => HS.out) ?_
      simp only [Act.put, List.setIfInBounds_toArray, List.set_cons_zero, List.set_cons_succ]
      refine lt_skip 7 rfl (by kernel_rfl) (by kernel_rfl) (by kernel_rfl) (by kernel_rfl) (fun _ _ _ h => h) rfl (fun _ => HS.out) ?_
      simp only [Act.put, List.setIfInBounds_toArray, List.set_cons_zero, List.set_cons_succ]
      refine lt_skip 8 rfl (by kernel_rfl) (by kernel_rfl) (by kernel_rfl) (by kernel_rfl) (fun _ _ _ h => h) rfl (fun _ => HS.out) ?_
      simp only [Act.put, List.setIfInBounds_toArray, List.set_cons_zero, List.set_cons_succ]
      refine lt_skip 9 rfl (by kernel_rfl) (by kernel_rfl) (by kernel_rfl) (by kernel_rfl) (fun _ _ _ h => h) rfl (fun _ => HS.out) ?_
      simp only [Act.put, List.setIfInBounds_toArray, List.set_cons_zero, List.set_cons_succ]
      refine lt_skip 10 rfl (by kernel_rfl) (by kernel_rfl) (by kernel_rfl) (by kernel_rfl) (fun _ _ _ h => h) rfl (fun _ => HS.out) ?_
      simp only [Act.put, List.setIfInBounds_toArray, List.set_cons_zero, List.set_cons_succ]
      refine lt_skip 11 rfl (by kernel_rfl) (by kernel_rfl) (by kernel_rfl) (by kernel_rfl) (fun _ _ _ h => h) rfl (fun _ => HS.out) ?_
      simp only [Act.put, List.setIfInBounds_toArray, List.set_cons_zero, List.set_cons_succ]
      refine lt_skip 12 rfl (by kernel_rfl) (by kernel_rfl) (by kernel_rfl) (by kernel_rfl) (fun _ _ _ h => h) rfl (fun _ => HS.out) ?_
      simp only [Act.put, List.setIfInBounds_toArray, List.set_cons_zero, List.set_cons_succ]
      refine lt_pure 13 rfl (by kernel_rfl) (by kernel_rfl) (by kernel_rfl) (by kernel_rfl) (fun _ _ _ h => h) (v := ?_) (yi_run rfl (fun w => ?_)) (fun _ => HS.out) ?_
      rotate_left
      · first | (go_simp; done) | (go_simp; with_reducible rfl)
      simp only [Act.put, List.setIfInBounds_toArray, List.set_cons_zero, List.set_cons_succ]
      refine lt_done (by kernel_rfl) ?_
      have HS9 := HS
      clear HS
      have HXD := Lib.hid HS9.out
      go_wp2_with fail
      go_meet
      exact ⟨by rw [hb0], HXD⟩
    | some l =>
      have hl := HLA.out l hg
      have hN0 : 0 < N := by rw [HNL.out]; exact List.length_pos_iff.2 (fun e' => by rw [e'] at hg; cases hg)
      have HV : Hid (mm.e.val = []) := Lib.hid (by rw [hl])
      obtain ⟨cv, hcv⟩ : ∃ z, z = cmpE mm.e e := ⟨_, rfl⟩
      have HCV := Lib.hid hcv
      have hbo : bo = decide (cv ≥ 0) := by
        have h1 : cmpE mm.e e = cmpE l e := by rw [hl]; rfl
        rw [HBO.out, hcv, h1]; unfold lastOk; rw [hg]
        by_cases h : cmpE l e < 0
        · simp [h, Int.not_le.2 h]
        · simp [h, Int.not_lt.1 h]
      have hd : decide ((N : Int) > 0) = true := decide_eq_true (by omega)
      have hd' : (0 : Int) < (N : Int) := by omega
      clear hg hl hcv
      refine lt_start [] (by kernel_rfl) ?_
      intro xd hd0
      refine ⟨fun z => OW w (bytO 5 (Ak, ck, kb) :: boxO gb [.slice A n c, .int .i64 e.fam, .slice B m d, .int .i64 e.ts, .int .i64 e.seq, .int .i64 e.kind, .slice D v q] :: (bldO R g s mm ++ rest)) z, ?_⟩
      have HS := Lib.hid (HX.out.later hd0)
      refine lt_pure 0 rfl (by kernel_rfl) (by kernel_rfl) (by kernel_rfl) (by kernel_rfl) (fun _ _ _ h => h) (v := ?_) (yi_run rfl (fun w => ?_)) (fun _ => HS.out) ?_
      rotate_left
      · first | (go_simp; done) | (go_simp; with_reducible rfl)
      simp only [Act.put, List.setIfInBounds_toArray, List.set_cons_zero, List.set_cons_succ]
      refine lt_pure 1 rfl (by kernel_rfl) (by kernel_rfl) (by kernel_rfl) (by kernel_rfl) (fun _ _ _ h => h) (v := ?_) (yi_run rfl (fun w => ?_)) (fun _ => HS.out) ?_
      rotate_left
      · first | (go_simp; done) | (go_simp; with_reducible rfl)
      simp only [Act.put, List.setIfInBounds_toArray, List.set_cons_zero, List.set_cons_succ]
      refine lt_pure 2 rfl (by kernel_rfl) (by kernel_rfl) (by kernel_rfl) (by kernel_rfl) (fun _ _ _ h => h) (v := ?_) (yi_run rfl (fun w => ?_)) (fun _ => HS.out) ?_
      rotate_left
      · first | (go_simp; done) | (go_simp; with_reducible rfl)
      simp only [Act.put, List.setIfInBounds_toArray, List.set_cons_zero, List.set_cons_succ]
      refine lt_take 3 [4, 5, 6, 7, 8, 9, 10, 11, 12, 13] rfl (by kernel_rfl) (by kernel_rfl) (by kernel_rfl) (by kernel_rfl) (by kernel_rfl) (fun _ _ _ h => h) (yi_cell rfl rfl rfl (fun w hS => HCN.out w hS) (fun w => Tryz.isAgg3 w)) HS.out ?_
      simp only [Act.put, List.setIfInBounds_toArray, List.set_cons_zero, List.set_cons_succ]
      refine lt_pure 4 rfl (by kernel_rfl) (by kernel_rfl) (by kernel_rfl) (by kernel_rfl) (fun _ _ _ h => h) (v := ?_) (yi_run rfl (fun w => ?_)) (fun _ => HS.out) ?_
      rotate_left
      · first | (go_simp; done) | (go_simp; with_reducible rfl)
      simp only [Act.put, List.setIfInBounds_toArray, List.set_cons_zero, List.set_cons_succ]
      refine lt_pure 5 rfl (by kernel_rfl) (by kernel_rfl) (by kernel_rfl) (by kernel_rfl) (fun _ _ _ h => h) (v := ?_) (yi_run rfl (fun w => ?_)) (fun _ => HS.out) ?_
      rotate_left
      · first | (go_simp; done) | (go_simp; with_reducible rfl)
      simp only [Act.put, List.setIfInBounds_toArray, List.set_cons_zero, List.set_cons_succ]
      refine lt_pure 6 rfl (by kernel_rfl) (by kernel_rfl) (by kernel_rfl) (by kernel_rfl) (fun _ _ _ h => h) (v := ?_) (yi_run rfl (fun w => ?_)) (fun _ => HS.out) ?_
      rotate_left
      · first | (go_simp; done) | (go_simp; with_reducible rfl)
      simp only [Act.put, List.setIfInBounds_toArray, List.set_cons_zero, List.set_cons_succ]
      refine lt_pure 7 rfl (by kernel_rfl) (by kernel_rfl) (by kernel_rfl) (by kernel_rfl) (fun _ _ _ h => h) (v := ?_) (yi_run rfl (fun w => ?_)) (fun _ => HS.out) ?_
      rotate_left
      · first | (go_simp; done) | (go_simp; with_reducible rfl)
      simp only [Act.put, List.setIfInBounds_toArray, List.set_cons_zero, List.set_cons_succ]
      refine lt_pure 8 rfl (by kernel_rfl) (by kernel_rfl) (by kernel_rfl) (by kernel_rfl) (fun _ _ _ h => h) (v := ?_) (yi_run rfl (fun w => ?_)) (fun _ => HS.out) ?_
      rotate_left
      · first | (go_simp; done) | (go_simp; with_reducible rfl)
      simp only [Act.put, List.setIfInBounds_toArray, List.set_cons_zero, List.set_cons_succ]
      refine lt_take 9 [11, 12, 13] rfl (by kernel_rfl) (by kernel_rfl) (by kernel_rfl) (by kernel_rfl) (by kernel_rfl) (fun _ _ _ h => h) (yi_rowO rfl rfl rfl (fun w hS => last_range hS (i := 2) rfl) ent_row5) HS.out ?_
      simp only [Act.put, List.setIfInBounds_toArray, List.set_cons_zero, List.set_cons_succ]
      refine lt_take 10 [11, 12, 13] rfl (by kernel_rfl) (by kernel_rfl) (by kernel_rfl) (by kernel_rfl) (by kernel_rfl) (fun _ _ _ h => h) (yi_row rfl rfl rfl (fun w hS => OW.range hS (i := 1) rfl) ent_row5) HS.out ?_
      simp only [Act.put, List.setIfInBounds_toArray, List.set_cons_zero, List.set_cons_succ]
      refine lt_call 11 rfl (by kernel_rfl) rfl rfl ⟨_, Tryz.func71, by decide, by kernel_rfl⟩ [entV mm.A mm.e.row.length mm.ac mm.Q mm.e.qual.length mm.qc none 0 0 mm.e, entV A n c B m d D v q e] rfl ?_
      refine (compare_any mm.e e mm.A mm.e.row.length mm.ac mm.Q mm.e.qual.length mm.qc none 0 0 A n c B m d D v q _ ⟨HS.out.sl (i := 5) rfl rfl, HS.out.sl (i := 6) rfl rfl, by rw [HV.out]; exact Sl.none _⟩ (HEE.out (bytO 5 (Ak, ck, kb) :: boxO gb [.slice A n c, .int .i64 e.fam, .slice B m d, .int .i64 e.ts, .int .i64 e.seq, .int .i64 e.kind, .slice D v q] :: bldO R g s mm) _ HS.out)).mono ?_
      rw [← HCV.out]
      rintro r z9 ⟨rfl, hb⟩
      replace HS := Lib.hid (HS.out.later hb)
      clear hb
      refine ⟨_, rfl, fun _ => HS.out, ?_⟩
      simp only [Act.put, List.setIfInBounds_toArray, List.set_cons_zero, List.set_cons_succ]
      refine lt_pure 12 rfl (by kernel_rfl) (by kernel_rfl) (by kernel_rfl) (by kernel_rfl) (fun _ _ _ h => h) (v := ?_) (yi_run rfl (fun w => ?_)) (fun _ => HS.out) ?_
      rotate_left
      · first | (go_simp; done) | (go_simp; with_reducible rfl)
      simp only [Act.put, List.setIfInBounds_toArray, List.set_cons_zero, List.set_cons_succ]
      refine lt_pure 13 rfl (by kernel_rfl) (by kernel_rfl) (by kernel_rfl) (by kernel_rfl) (fun _ _ _ h => h) (v := ?_) (yi_run rfl (fun w => ?_)) (fun _ => HS.out) ?_
      rotate_left
      · first | (go_simp; done) | (go_simp; with_reducible rfl)
      simp only [Act.put, List.setIfInBounds_toArray, List.set_cons_zero, List.set_cons_succ]
      refine lt_done (by kernel_rfl) ?_
      have HS9 := HS
      clear HS
      have HXD := Lib.hid HS9.out
      go_wp2_with fail
      go_meet
      exact ⟨by rw [hbo], HXD⟩
  clear HX
  obtain ⟨rfl, HX⟩ := hcut
  obtain ⟨w4, rfl⟩ : ∃ z : World, z = wc := ⟨_, rfl⟩
  by_cases hlo : lastOk L e = false
  case pos =>
    have hb1 : bo = true := by rw [HBO.out, hlo]; rfl
    have HP : Hid (addC R L e = 30 ∧ addL R L e = L) := Lib.hid (by
      have h : addC R L e = 30 := by unfold addC; rw [if_neg (fun h => h HC.out), if_pos hlo]
      exact ⟨h, by unfold addL; rw [h, if_neg (by decide)]⟩)
    clear HBO hlo
    subst hb1
    go_wp2_with fail
    go_ret
    exact ⟨by rw [HP.out.1]; rfl, bldO R g s mm, by rw [HP.out.2]; exact ⟨HRR.out, by rw [← HS0.out]; exact HSZ.out, by rw [← HS0.out]; exact HKL.out, HALL.out, mm, by rw [← HS0.out], HLA.out⟩, HX.out.sub (((List.Sublist.refl _).cons _).cons _)⟩
  have hb1 : bo = false := by rw [HBO.out]; cases h : lastOk L e <;> simp_all
  have HLO := Lib.hid hlo
  clear HBO hlo
  subst hb1
  obtain ⟨al, hal⟩ : ∃ z, z = alikeB R s kb := ⟨_, rfl⟩
  obtain ⟨fb, hfb⟩ : ∃ b : Bool, b = decide (N % R = 0) := ⟨_, rfl⟩
  have HAL := Lib.hid hal
  have HFB := Lib.hid hfb
  clear hal hfb
  have hR1 := HRR.out.1
  have hR2 := HRR.out.2
  have r0 : ((R : Int) == 0) = false := beq_eq_false_iff_ne.2 (by omega)
  have r1 : ¬ R = 0 := by omega
  have HCR : Hid (∀ z, OW w (bytO 5 (Ak, ck, kb) :: boxO gb [.slice A n c, .int .i64 e.fam, .slice B m d, .int .i64 e.ts, .int .i64 e.seq, .int .i64 e.kind, .slice D v q] :: (bldO R g s mm ++ rest)) z → z.cell? ⟨g, 0, none⟩ = some (.int .i64 (R : Int))) := Lib.hid fun z hz => hz.cell (i := 2) (j := 0) rfl rfl
  have HNB : Hid (N ≤ 131072) := Lib.hid (by have h1 := n_le_size _ (runB_many R L); rw [← HS0.out] at h1; have := HSZ.out; have := HN.out; omega)
  have hnb := HNB.out
  go_upto_region 6 with fail
  go_cut [7] (fun f wx => f = .bool fb ∧ Hid (OW w (bytO 5 (Ak, ck, kb) :: boxO gb [.slice A n c, .int .i64 e.fam, .slice B m d, .int .i64 e.ts, .int .i64 e.seq, .int .i64 e.kind, .slice D v q] :: (bldO R g s mm ++ rest)) wx))
  case first =>
    have c1 := HCN.out _ HX.out
    have c2 := HCR.out _ HX.out
    by_cases hf : N % R = 0
    · have hb1 : fb = true := by rw [HFB.out]; exact decide_eq_true hf
      have e1 : ((N : Int).tmod (R : Int)) = 0 := by rw [← Int.ofNat_tmod, hf]; rfl
      have e2 : ((N : Int) % (R : Int)) = 0 := by rw [← Int.natCast_emod, hf]; rfl
      go_wp2_with fail
      go_quiet (fail)
      have HXD := Lib.hid (HX.out.later (below_drewN (n := nq) (Below.refl _ _)))
      clear c1 c2
      generalize w4.drewN nq = w5 at *
      go_wp2
      go_meet
      exact ⟨by rw [hb1], HXD⟩
    · have hb1 : fb = false := by rw [HFB.out]; exact decide_eq_false hf
      have e1 : ¬ ((N : Int).tmod (R : Int)) = 0 := by rw [← Int.ofNat_tmod]; omega
      have e3 : (((N : Int).tmod (R : Int)) == 0) = false := beq_eq_false_iff_ne.2 e1
      have e2 : ¬ ((N : Int) % (R : Int)) = 0 := by rw [← Int.natCast_emod]; omega
      have e4 : (((N : Int) % (R : Int)) == 0) = false := beq_eq_false_iff_ne.2 e2
      go_wp2_with fail
      go_quiet (fail)
      have HXD := Lib.hid (HX.out.later (below_drewN (n := nq) (Below.refl _ _)))
      clear c1 c2
      generalize w4.drewN nq = w5 at *
      go_wp2
      go_meet
      exact ⟨by rw [hb1], HXD⟩
  clear HX
  obtain ⟨rfl, HX⟩ := hcut
  obtain ⟨w5, rfl⟩ : ∃ z : World, z = wc := ⟨_, rfl⟩
  go_upto_if 44 with fail
  go_cut [8] (fun a wx => a = .int .i64 (al : Int) ∧ Hid (OW w (bytO 5 (Ak, ck, kb) :: boxO gb [.slice A n c, .int .i64 e.fam, .slice B m d, .int .i64 e.ts, .int .i64 e.seq, .int .i64 e.kind, .slice D v q] :: (bldO R g s mm ++ rest)) wx))
  case first =>
    by_cases hf : N % R = 0
    · have hb1 : fb = true := by rw [HFB.out]; exact decide_eq_true hf
      have ha : al = 0 := by rw [HAL.out]; unfold alikeB; rw [← HN.out, if_pos hf]
      clear HFB
      subst hb1
      go_wp2_with fail
      go_meet
      exact ⟨by rw [ha]; rfl, HX⟩
    · have hb1 : fb = false := by rw [HFB.out]; exact decide_eq_false hf
      have ha : al = shareN s.key kb := by rw [HAL.out]; unfold alikeB; rw [← HN.out, if_neg hf]
      clear HFB
      subst hb1
      go_wp2_with (first
        | (refine wpList_load_cell rfl 22 (.tmp 47) rfl rfl (HX.out.cell (i := 2) (j := 10) rfl rfl) (fun w => Tryz.isAgg22 w) ?_)
        | (go_at_call 72; go_must (refine (shared_any s.key kb mm.K Ak s.key.length mm.kc kn ck _ (by have := HKL.out; omega) (HX.out.sl (i := 7) rfl rfl).rb (HX.out.sl (i := 0) rfl HKN.out).rb).mono ?_); rintro r z5 ⟨rfl, hb⟩; replace HX := Lib.hid (HX.out.later hb); clear hb))
      go_meet
      exact ⟨by rw [ha], HX⟩
  clear HX
  obtain ⟨rfl, HX⟩ := hcut
  obtain ⟨w6, rfl⟩ : ∃ z : World, z = wc := ⟨_, rfl⟩
  have HALT : Hid (al < kn) := Lib.hid (by have h9 := alike_lt (R := R) HALL.out HC.out HLO.out; rw [HAL.out, HS0.out, ← HKN.out, HKB.out]; exact h9)
  have halt := HALT.out
  obtain ⟨gk, cpk, hv, _⟩ := own_form (HX.out.row (i := 0) rfl) (by show 0 < kb.length; have := HKN.out; omega)
  injection hv with hv _ hcp
  subst hv
  subst hcp
  obtain ⟨U, hU⟩ : ∃ z, z = uintB al := ⟨_, rfl⟩
  obtain ⟨un, hun⟩ : ∃ z, z = U.length := ⟨_, rfl⟩
  have hun2 : un ≤ 10 := by rw [hun, hU]; exact uintB_le10 (by omega)
  have HU := Lib.hid hU
  have HUN := Lib.hid hun.symm
  obtain ⟨kd, hkd⟩ : ∃ z, z = kb.drop al := ⟨_, rfl⟩
  have HKD := Lib.hid hkd
  have hkdl : kd.length = kn - al := by rw [hkd, List.length_drop, HKN.out]
  have HKDL := Lib.hid hkdl
  obtain ⟨V, hV⟩ : ∃ z, z = uintB kd.length ++ kd := ⟨_, rfl⟩
  obtain ⟨vn, hvn⟩ : ∃ z, z = V.length := ⟨_, rfl⟩
  have hvn2 : vn ≤ 1058 := by rw [hvn, hV, List.length_append]; have := uintB_le10 (n := kd.length) (by omega); omega
  have HV := Lib.hid hV
  have HVN := Lib.hid hvn.symm
  clear hU hun hkd hkdl hV hvn
  have HCK : Hid (kn ≤ ck) := Lib.hid (HX.out.sl (i := 0) rfl HKN.out).cap
  have HSD : Hid (∀ z, Sl z (some ⟨gk, 0, none⟩) kn ck kb → Sl z (some ⟨gk, al, none⟩) (kn - al) (ck - al) kd) := Lib.hid fun z h => by
    have h1 := h.drop (k := al) (by omega) (by have := HCK.out; omega)
    rw [← HKD.out, Option.map_some, show (⟨gk, 0, none⟩ : Addr).add al = ⟨gk, al, none⟩ from by simp [Addr.add]; omega] at h1
    exact h1
  have i1 : (0 : Int) ≤ (al : Int) := by omega
  have i2 : (al : Int) ≤ (kn : Int) := by omega
  have i3 : (kn : Int) ≤ (ck : Int) := by have := HCK.out; omega
  have tk : True := trivial
  go_wp2_with (first
    | (go_at_call 73; go_must (refine (uint_any al _ (by omega)).mono ?_); rw [← HU.out]; rintro r z7 hp; obtain ⟨A1, c1, rfl, _, ho, hb⟩ := hp.at_ (n := un) HUN.out; replace HX := Lib.hid (HX.out.addF9 (OW.byt1 hb ho)); clear hp ho hb)
    | (go_at_call 74; have _t := tk; go_must (refine (bytes_any kd _ (kn - al) _ _ (by omega) (HSD.out _ (HX.out.sl (i := 1) rfl HKN.out)).rb).mono ?_); rw [← HV.out]; rintro r z8 hp; obtain ⟨A2, c2, rfl, _, ho, hb⟩ := hp.at_ (n := vn) HVN.out; replace HX := Lib.hid (HX.out.addF9 (OW.byt1 hb ho)); clear hp ho hb tk)
    | (at_builtin; go_must (refine wl_append rfl (.tmp 54) (.tmp 58) rfl Tryz.u8s' HX.out 1 (v := .slice A1 un c1) (n := un) (cs := u8s U) (by show some (bytO _ (A1, c1, U)) = _; unfold bytO; rw [HUN.out]; rfl) rfl _ _ vn _ (u8s V) rfl (HX.out.sl (i := 0) rfl HVN.out).rb (u8s_one V) (by unfold maxLen; omega) (by omega) ?_); intro A3 c3 z9 hz _; replace HX := Lib.hid hz; clear hz)
    | (refine wpList_load_cell rfl 22 (.tmp 61) rfl rfl (HX.out.cell (i := 3) (j := 6) rfl rfl) (fun w => Tryz.isAgg22 w) ?_))
  have HVL : Hid (e.val.length = v) := Lib.hid (HEE.out ([_, _, _, _] ++ bldO R g s mm) _ HX.out).val.len
  have hv1 : v ≤ 131072 := by have := HOK.out.val.1; have := HVL.out; omega
  obtain ⟨W, hW⟩ : ∃ z, z = uintB e.val.length ++ e.val := ⟨_, rfl⟩
  obtain ⟨wn, hwn⟩ : ∃ z, z = W.length := ⟨_, rfl⟩
  have hwn2 : wn ≤ v + 10 := by rw [hwn, hW, List.length_append]; have := uintB_le10 (n := e.val.length) (by have := HVL.out; omega); have := HVL.out; omega
  have HW := Lib.hid hW
  have HWN := Lib.hid hwn.symm
  clear hW hwn
  obtain ⟨P, pc, hpv, _⟩ := own_slice (HX.out.row (i := 6) rfl)
  obtain ⟨pl, hpl⟩ : ∃ z, z = s.places.length := ⟨_, rfl⟩
  rw [← hpl] at hpv
  have HPV : Hid (∀ o : Option Value, o = some mm.pv → o = some (.slice P pl pc)) := Lib.hid fun o h => by rw [h, hpv]
  have HPL := Lib.hid hpl
  have HPE := Lib.hid hpv
  have hplb : pl ≤ 131072 := by have := HSZ.out; unfold sizeS at this; omega
  clear hpv hpl
  go_upto_if 70 with (first
    | (go_at_call 74; go_must (refine (bytes_any e.val D v q _ (by omega) (HEE.out ([_, _, _, _] ++ bldO R g s mm) _ HX.out).val.rb).mono ?_); rw [← HW.out]; rintro r z10 hp; obtain ⟨A4, c4, rfl, _, ho, hb⟩ := hp.at_ (n := wn) HWN.out; replace HX := Lib.hid (HX.out.addF9 (OW.byt1 hb ho)); clear hp ho hb)
    | (at_builtin; go_must (refine wl_append rfl (.tmp 60) (.tmp 63) rfl Tryz.u8s' HX.out 2 rfl rfl _ _ wn _ (u8s W) rfl (HX.out.sl (i := 0) rfl HWN.out).rb (u8s_one W) (by unfold maxLen; omega) (by omega) ?_); intro A5 c5 z11 hz _; replace HX := Lib.hid hz; clear hz)
    | (refine wpList_load_cell rfl 91 (.tmp 67) rfl rfl (HPV.out _ (HX.out.cell (i := 5) (j := 2) rfl rfl)) (fun w => Tryz.isAgg91 w) ?_))
  obtain ⟨w7, rfl⟩ : ∃ z : World, z = z11 := ⟨_, rfl⟩
  obtain ⟨pn, hpn⟩ : ∃ z, z = (placesB R s).length := ⟨_, rfl⟩
  have HPN := Lib.hid hpn
  clear hpn
  go_cut [10] (fun p wx => w7 = wx ∧ p = .int .i64 (pn : Int))
  case first =>
    by_cases hf : N % R = 0
    · have hb1 : fb = true := by rw [HFB.out]; exact decide_eq_true hf
      have ha : pn = pl + 1 := by rw [HPN.out, HPL.out]; unfold placesB; rw [← HN.out, if_pos hf, List.length_append]; rfl
      clear HFB
      subst hb1
      go_wp2_with fail
      go_meet
      exact ⟨rfl, by rw [ha]; rfl⟩
    · have hb1 : fb = false := by rw [HFB.out]; exact decide_eq_false hf
      have ha : pn = pl := by rw [HPN.out, HPL.out]; unfold placesB; rw [← HN.out, if_neg hf]
      clear HFB
      subst hb1
      go_wp2_with fail
      go_meet
      exact ⟨rfl, by rw [ha]⟩
  obtain ⟨rfl, rfl⟩ := hcut
  obtain ⟨rn, hrn⟩ : ∃ z, z = un + vn + wn := ⟨_, rfl⟩
  rw [← hrn] at HX ⊢
  obtain ⟨RW, hRW⟩ : ∃ z, z = U ++ V ++ W := ⟨_, rfl⟩
  have HRW : Hid (RW = rowK al kb e.val) := Lib.hid (by rw [hRW, HU.out, HV.out, HW.out, HKD.out]; rfl)
  have HRN : Hid (RW.length = rn) := Lib.hid (by rw [hRW, hrn, List.length_append, List.length_append, HUN.out, HVN.out, HWN.out])
  obtain ⟨bl, hbl⟩ : ∃ z, z = s.body.length := ⟨_, rfl⟩
  have HBL := Lib.hid hbl
  have hblb : bl ≤ 131072 := by have := HSZ.out; unfold sizeS at this; omega
  have hrnb : rn ≤ 140000 := by omega
  have hpnb : pn ≤ 131073 := by
    have := HSZ.out
    unfold sizeS at this
    rw [HPN.out]; unfold placesB
    split
    · rw [List.length_append]; simp; omega
    · omega
  have HSS : Hid (sizeS (stepB R s kb e.val) = bl + rn + 4 * pn + 9) := Lib.hid (by
    have h1 : (stepB R s kb e.val).body = s.body ++ rowK (alikeB R s kb) kb e.val := rfl
    have h2 : (stepB R s kb e.val).places = placesB R s := rfl
    unfold sizeS
    rw [h1, h2, List.length_append, ← HAL.out, ← HRW.out, HRN.out, ← HPN.out, ← hbl])
  have HX8 : Hid (OW w (bytO 5 (A4, c4, W) :: bytO 5 (A2, c2, V) :: bytO 5 (A5, c5, RW) :: bytO 5 (some ⟨gk, 0, none⟩, ck, kb) :: boxO gb [.slice A n c, .int .i64 e.fam, .slice B m d, .int .i64 e.ts, .int .i64 e.seq, .int .i64 e.kind, .slice D v q] :: boxO g (bldC R (.slice mm.B bl mm.bc) (.slice P pl pc) mm.A mm.e.row.length mm.ac mm.Q mm.e.qual.length mm.qc mm.e (.slice mm.K s.key.length mm.kc) N) :: bytO 5 (mm.B, mm.bc, s.body) :: rowO 3 1 (.slice P pl pc) pl (s.places.map i64v) :: bytO 5 (mm.A, mm.ac, mm.e.row) :: bytO 5 (mm.Q, mm.qc, mm.e.qual) :: bytO 5 (mm.K, mm.kc, s.key) :: rest) w7) := Lib.hid (by
    have h := HX.out
    have e1 : rowO 5 1 (.slice A5 rn c5) rn (u8s U ++ u8s V ++ u8s W) = bytO 5 (A5, c5, RW) := by
      unfold bytO rowO
      rw [HRN.out, hRW]
      simp [u8s]
    rw [e1] at h
    simp only [bldO] at h
    rw [← HPE.out, hbl, HN.out, HPL.out]
    exact h)
  clear HX hbl hRW hrn
  by_cases hbig : 131072 < bl + rn + 4 * pn + 9
  case pos =>
    have HP : Hid (addC R L e = 53 ∧ addL R L e = L) := Lib.hid (by
      have h : addC R L e = 53 := by unfold addC; rw [if_neg (fun h => h HC.out), if_neg HLO.out, if_pos (by rw [← HS0.out, ← HKB.out, HSS.out]; exact hbig)]
      exact ⟨h, by unfold addL; rw [h, if_neg (by decide)]⟩)
    have h1 : (131072 : Int) < (bl : Int) + (rn : Int) + 4 * (pn : Int) + 9 := by omega
    clear hbig
    go_wp2_with (refine wpList_load_cell rfl 22 (.tmp 75) rfl rfl (HX8.out.cell (i := 5) (j := 1) rfl rfl) (fun w => Tryz.isAgg22 w) ?_)
    go_ret
    refine ⟨by rw [HP.out.1]; rfl, bldO R g s mm, by rw [HP.out.2]; exact ⟨HRR.out, by rw [← HS0.out]; exact HSZ.out, by rw [← HS0.out]; exact HKL.out, HALL.out, mm, by rw [← HS0.out], HLA.out⟩, ?_⟩
    have h := HX8.out.sub ((((((List.Sublist.refl _).cons _).cons _).cons _).cons _).cons _)
    simp only [bldO]
    rw [← HPE.out, HBL.out, HN.out, HPL.out] at h
    exact h
  have HBG := Lib.hid hbig
  have h1 : ¬ (131072 : Int) < (bl : Int) + (rn : Int) + 4 * (pn : Int) + 9 := by omega
  clear hbig
  go_upto_if 86 with (refine wpList_load_cell rfl 22 (.tmp 75) rfl rfl (HX8.out.cell (i := 5) (j := 1) rfl rfl) (fun w => Tryz.isAgg22 w) ?_)
  go_cut [10] (fun p wx => p = .int .i64 (pn : Int) ∧ Hid (∃ pv, OW w (bytO 5 (A4, c4, W) :: bytO 5 (A2, c2, V) :: bytO 5 (A5, c5, RW) :: bytO 5 (some ⟨gk, 0, none⟩, ck, kb) :: boxO gb [.slice A n c, .int .i64 e.fam, .slice B m d, .int .i64 e.ts, .int .i64 e.seq, .int .i64 e.kind, .slice D v q] :: boxO g (bldC R (.slice mm.B bl mm.bc) (pv) mm.A mm.e.row.length mm.ac mm.Q mm.e.qual.length mm.qc mm.e (.slice mm.K s.key.length mm.kc) N) :: bytO 5 (mm.B, mm.bc, s.body) :: rowO 3 1 (pv) pn ((placesB R s).map i64v) :: bytO 5 (mm.A, mm.ac, mm.e.row) :: bytO 5 (mm.Q, mm.qc, mm.e.qual) :: bytO 5 (mm.K, mm.kc, s.key) :: rest) wx))
  case first =>
    by_cases hf : N % R = 0
    · have hb1 : fb = true := by rw [HFB.out]; exact decide_eq_true hf
      have HPB : Hid (placesB R s = s.places ++ [bl]) := Lib.hid (by unfold placesB; rw [← HN.out, if_pos hf, ← HBL.out])
      have HPN1 : Hid (pn = pl + 1) := Lib.hid (by rw [HPN.out, HPB.out, List.length_append, ← HPL.out]; rfl)
      clear HFB
      subst hb1
      go_wp2_with fail
      refine lt_start [11, 14] (by kernel_rfl) ?_
      intro xd hd
      refine ⟨fun z => OW w (bytO 5 (A4, c4, W) :: bytO 5 (A2, c2, V) :: bytO 5 (A5, c5, RW) :: bytO 5 (some ⟨gk, 0, none⟩, ck, kb) :: boxO gb [.slice A n c, .int .i64 e.fam, .slice B m d, .int .i64 e.ts, .int .i64 e.seq, .int .i64 e.kind, .slice D v q] :: boxO g (bldC R (.slice mm.B bl mm.bc) (.slice P pl pc) mm.A mm.e.row.length mm.ac mm.Q mm.e.qual.length mm.qc mm.e (.slice mm.K s.key.length mm.kc) N) :: bytO 5 (mm.B, mm.bc, s.body) :: rowO 3 1 (.slice P pl pc) pl (s.places.map i64v) :: bytO 5 (mm.A, mm.ac, mm.e.row) :: bytO 5 (mm.Q, mm.qc, mm.e.qual) :: bytO 5 (mm.K, mm.kc, s.key) :: rest) z, ?_⟩
      have HS := Lib.hid (HX8.out.later hd)
      refine lt_pure 0 rfl (by kernel_rfl) (by kernel_rfl) (by kernel_rfl) (by kernel_rfl) (fun _ _ _ h => h) (v := ?_) (yi_run rfl (fun w => ?_)) (fun _ => HS.out) ?_
      rotate_left
      · first | (go_simp; done) | (go_simp; with_reducible rfl)
      simp only [Act.put, List.setIfInBounds_toArray, List.set_cons_zero, List.set_cons_succ]
      refine lt_pure 1 rfl (by kernel_rfl) (by kernel_rfl) (by kernel_rfl) (by kernel_rfl) (fun _ _ _ h => h) (v := ?_) (yi_run rfl (fun w => ?_)) (fun _ => HS.out) ?_
      rotate_left
      · first | (go_simp; done) | (go_simp; with_reducible rfl)
      simp only [Act.put, List.setIfInBounds_toArray, List.set_cons_zero, List.set_cons_succ]
      refine lt_pure 2 rfl (by kernel_rfl) (by kernel_rfl) (by kernel_rfl) (by kernel_rfl) (fun _ _ _ h => h) (v := ?_) (yi_run rfl (fun w => ?_)) (fun _ => HS.out) ?_
      rotate_left
      · first | (go_simp; done) | (go_simp; with_reducible rfl)
      simp only [Act.put, List.setIfInBounds_toArray, List.set_cons_zero, List.set_cons_succ]
      refine lt_pure 3 rfl (by kernel_rfl) (by kernel_rfl) (by kernel_rfl) (by kernel_rfl) (fun _ _ _ h => h) (v := ?_) (yi_run rfl (fun w => ?_)) (fun _ => HS.out) ?_
      rotate_left
      · first | (go_simp; done) | (go_simp; with_reducible rfl)
      simp only [Act.put, List.setIfInBounds_toArray, List.set_cons_zero, List.set_cons_succ]
      refine lt_take 4 [11, 12, 13, 14] rfl (by kernel_rfl) (by kernel_rfl) (by kernel_rfl) (by kernel_rfl) (by kernel_rfl) (fun _ _ _ h => h) (yi_cell rfl rfl rfl (fun w hS => OW.cell hS (i := 5) (j := 2) rfl rfl) (fun w => Tryz.isAgg91 w)) HS.out ?_
      simp only [Act.put, List.setIfInBounds_toArray, List.set_cons_zero, List.set_cons_succ]
      refine lt_pure 5 rfl (by kernel_rfl) (by kernel_rfl) (by kernel_rfl) (by kernel_rfl) (fun _ _ _ h => h) (v := ?_) (yi_run rfl (fun w => ?_)) (fun _ => HS.out) ?_
      rotate_left
      · first | (go_simp; done) | (go_simp; with_reducible rfl)
      simp only [Act.put, List.setIfInBounds_toArray, List.set_cons_zero, List.set_cons_succ]
      refine lt_pure 6 rfl (by kernel_rfl) (by kernel_rfl) (by kernel_rfl) (by kernel_rfl) (fun _ _ _ h => h) (v := ?_) (yi_run rfl (fun w => ?_)) (fun _ => HS.out) ?_
      rotate_left
      · first | (go_simp; done) | (go_simp; with_reducible rfl)
      simp only [Act.put, List.setIfInBounds_toArray, List.set_cons_zero, List.set_cons_succ]
      refine lt_pure 7 rfl (by kernel_rfl) (by kernel_rfl) (by kernel_rfl) (by kernel_rfl) (fun _ _ _ h => h) (v := ?_) (yi_run rfl (fun w => ?_)) (fun _ => HS.out) ?_
      rotate_left
      · first | (go_simp; done) | (go_simp; with_reducible rfl)
      simp only [Act.put, List.setIfInBounds_toArray, List.set_cons_zero, List.set_cons_succ]
      refine lt_take 8 [9, 10, 11, 12, 13, 14] rfl (by kernel_rfl) (by kernel_rfl) (by kernel_rfl) (by kernel_rfl) (by kernel_rfl) (fun _ _ _ h => h) (yi_cell rfl rfl rfl (fun w hS => OW.cell hS (i := 5) (j := 1) rfl rfl) (fun w => Tryz.isAgg22 w)) HS.out ?_
      simp only [Act.put, List.setIfInBounds_toArray, List.set_cons_zero, List.set_cons_succ]
      refine lt_pure 9 rfl (by kernel_rfl) (by kernel_rfl) (by kernel_rfl) (by kernel_rfl) (fun _ _ _ h => h) (v := ?_) (yi_run rfl (fun w => ?_)) (fun _ => HS.out) ?_
      rotate_left
      · first | (go_simp; done) | (go_simp; with_reducible rfl)
      simp only [Act.put, List.setIfInBounds_toArray, List.set_cons_zero, List.set_cons_succ]
      refine lt_op 10 rfl (by kernel_rfl) rfl ?_
      refine wpo_build rfl #[.int .i64 (bl : Int)] Tryz.intS5 (.int .i64 0) (by kernel_rfl) (by decide) (by decide) (by decide) rfl (by kernel_rfl) HS.out ?_
      intro g4 x4 hz hb
      have HR : Hid (Reads x4 x4.heap.size 1 (some ⟨g4, 0, none⟩) 1 [.int .i64 (bl : Int)]) := Lib.hid (Reads.own (OW.row (OW.right hz) (i := 0) rfl))
      replace HS := Lib.hid (HS.out.later hb)
      clear hz hb
      refine ⟨fun _ => HS.out, ?_⟩
      simp only [Act.put, List.setIfInBounds_toArray, List.set_cons_zero, List.set_cons_succ]
      refine lt_end 11 rfl (by kernel_rfl) rfl (by kernel_rfl) ?_
      refine wpo_append (.tmp 91) (.tmp 97) rfl Tryz.intS5 HS.out 7 rfl rfl _ (some ⟨g4, 0, none⟩) 1 1 [.int .i64 (bl : Int)] rfl HR.out (by simp [Value.oneCell']) (by unfold maxLen; omega) (by omega) ?_
      intro A7 c7 x5 hz _
      have HY := Lib.hid hz
      clear hz HR
      simp only [Act.put, List.setIfInBounds_toArray, List.set_cons_zero, List.set_cons_succ]
      refine lt_pureF 12 rfl (by kernel_rfl) (by kernel_rfl) (by kernel_rfl) (by kernel_rfl) (by kernel_rfl) (fun _ _ _ h => h) (v := ?_) (yi_run rfl (fun w => ?_)) ?_
      rotate_left
      · first | (go_simp; done) | (go_simp; with_reducible rfl)
      simp only [Act.put, List.setIfInBounds_toArray, List.set_cons_zero, List.set_cons_succ]
      refine lt_pureF 13 rfl (by kernel_rfl) (by kernel_rfl) (by kernel_rfl) (by kernel_rfl) (by kernel_rfl) (fun _ _ _ h => h) (v := ?_) (yi_run rfl (fun w => ?_)) ?_
      rotate_left
      · first | (go_simp; done) | (go_simp; with_reducible rfl)
      simp only [Act.put, List.setIfInBounds_toArray, List.set_cons_zero, List.set_cons_succ]
      refine lt_end 14 rfl (by kernel_rfl) rfl (by kernel_rfl) ?_
      refine wpo_put1 rfl HY.out 5 rfl 2 rfl (by show 2 < 12; decide) _ rfl (by kernel_rfl) rfl ?_
      intro x6 hz _
      replace HY := Lib.hid hz
      clear hz
      simp only [Act.put]
      refine lt_done (by kernel_rfl) ?_
      clear HS
      go_wp2_with fail
      go_meet
      refine ⟨rfl, Lib.hid ⟨.slice A7 (pl + 1) c7, ?_⟩⟩
      rw [HPB.out, HPN1.out, List.map_append]
      exact HY.out
    · have hb1 : fb = false := by rw [HFB.out]; exact decide_eq_false hf
      have HPB : Hid (placesB R s = s.places) := Lib.hid (by unfold placesB; rw [← HN.out, if_neg hf])
      have HPN1 : Hid (pn = pl) := Lib.hid (by rw [HPN.out, HPB.out, ← HPL.out])
      clear HFB
      subst hb1
      go_wp2_with fail
      go_meet
      refine ⟨rfl, Lib.hid ⟨.slice P pl pc, ?_⟩⟩
      rw [HPB.out, HPN1.out]
      exact HX8.out
  clear HX8
  obtain ⟨rfl, hcut⟩ := hcut
  obtain ⟨pv, hx9⟩ := hcut.out
  have HX := Lib.hid hx9
  clear hx9 hcut
  obtain ⟨w8, rfl⟩ : ∃ z : World, z = wc := ⟨_, rfl⟩
  go_wp2_with (first
    | (refine wpList_load_cell rfl 22 (.tmp 104) rfl rfl (HX.out.cell (i := 5) (j := 1) rfl rfl) (fun w => Tryz.isAgg22 w) ?_)
    | (at_builtin; go_must (refine wl_append rfl (.tmp 105) (.tmp 106) rfl Tryz.u8s' HX.out 6 (v := .slice mm.B bl mm.bc) (n := bl) (cs := u8s s.body) (by show some (bytO _ (mm.B, mm.bc, s.body)) = _; unfold bytO; rw [HBL.out]; rfl) rfl _ _ rn _ (u8s RW) rfl (HX.out.sl (i := 2) rfl HRN.out).rb (u8s_one RW) (by unfold maxLen; omega) (by omega) ?_); intro A8 c8 z9 hz _; replace HX := Lib.hid hz; clear hz)
    | (refine wl_put1 rfl (.tmp 109) (.tmp 107) rfl HX.out 5 rfl 1 rfl (by show 1 < 12; decide) _ rfl (by kernel_rfl) rfl ?_; intro z10 hz _; replace HX := Lib.hid hz; clear hz))
  obtain ⟨BN, hBN⟩ : ∃ z, z = s.body ++ RW := ⟨_, rfl⟩
  have HBN := Lib.hid hBN
  have HX9 : Hid (OW w (bytO 5 (A4, c4, W) :: bytO 5 (A2, c2, V) :: bytO 5 (A5, c5, RW) :: bytO 5 (some ⟨gk, 0, none⟩, ck, kb) :: boxO gb [.slice A n c, .int .i64 e.fam, .slice B m d, .int .i64 e.ts, .int .i64 e.seq, .int .i64 e.kind, .slice D v q] :: boxO g (bldC R (.slice A8 BN.length c8) (pv) mm.A mm.e.row.length mm.ac mm.Q mm.e.qual.length mm.qc mm.e (.slice mm.K s.key.length mm.kc) N) :: bytO 5 (A8, c8, BN) :: rowO 3 1 pv pn ((placesB R s).map i64v) :: bytO 5 (mm.A, mm.ac, mm.e.row) :: bytO 5 (mm.Q, mm.qc, mm.e.qual) :: bytO 5 (mm.K, mm.kc, s.key) :: rest) z10) := Lib.hid (by
    have h := HX.out
    have e1 : rowO 5 1 (.slice A8 (bl + rn) c8) (bl + rn) (u8s s.body ++ u8s RW) = bytO 5 (A8, c8, BN) := by
      unfold bytO rowO
      rw [hBN, List.length_append, HRN.out, ← HBL.out]
      simp [u8s]
    have e2 : bl + rn = BN.length := by rw [hBN, List.length_append, HRN.out, ← HBL.out]
    rw [← e1, ← e2]
    exact h)
  clear HX hBN
  have HQL : Hid (e.qual.length = m) := Lib.hid (HEE.out (_ :: _ :: _ :: _ :: _ :: _ :: _ :: _ :: _ :: _ :: _ :: []) _ HX9.out).qual.len
  have HRL : Hid (e.row.length = n) := Lib.hid (HEE.out (_ :: _ :: _ :: _ :: _ :: _ :: _ :: _ :: _ :: _ :: _ :: []) _ HX9.out).row.len
  have hn1 : n ≤ 256 := by have := HOK.out.row.2; have := HRL.out; omega
  have hm1 : m ≤ 256 := by have := HOK.out.qual.1; have := HQL.out; omega
  refine lt_start [7, 9, 11] (by kernel_rfl) ?_
  intro xd hd
  have HY := Lib.hid (HX9.out.later hd)
  clear HX9 hd
  refine ⟨fun z => Below xd.heap.size xd z, ?_⟩
  have HS := Lib.hid (Below.refl xd.heap.size xd)
  refine lt_pure 0 rfl (by kernel_rfl) (by kernel_rfl) (by kernel_rfl) (by kernel_rfl) (fun _ _ _ h => h) (v := ?_) (yi_run rfl (fun w => ?_)) (fun _ => HS.out) ?_
  rotate_left
  · first | (go_simp; done) | (go_simp; with_reducible rfl)
  simp only [Act.put, List.setIfInBounds_toArray, List.set_cons_zero, List.set_cons_succ]
  refine lt_take 1 [2, 5, 6, 7, 8, 9, 10, 11] rfl (by kernel_rfl) (by kernel_rfl) (by kernel_rfl) (by kernel_rfl) (by kernel_rfl) (fun _ _ _ h => h) (yi_cell rfl rfl rfl (fun w hS => OW.cell (HY.out.later hS) (i := 4) (j := 0) rfl rfl) (fun w => Tryz.isAgg22 w)) HS.out ?_
  simp only [Act.put, List.setIfInBounds_toArray, List.set_cons_zero, List.set_cons_succ]
  refine lt_pure 3 rfl (by kernel_rfl) (by kernel_rfl) (by kernel_rfl) (by kernel_rfl) (fun _ _ _ h => h) (v := ?_) (yi_run rfl (fun w => ?_)) (fun _ => HS.out) ?_
  rotate_left
  · first | (go_simp; done) | (go_simp; with_reducible rfl)
  simp only [Act.put, List.setIfInBounds_toArray, List.set_cons_zero, List.set_cons_succ]
  refine lt_take 4 [5, 6, 7, 8, 9, 10, 11] rfl (by kernel_rfl) (by kernel_rfl) (by kernel_rfl) (by kernel_rfl) (by kernel_rfl) (fun _ _ _ h => h) (yi_cell rfl rfl rfl (fun w hS => OW.cell (HY.out.later hS) (i := 4) (j := 2) rfl rfl) (fun w => Tryz.isAgg22 w)) HS.out ?_
  simp only [Act.put, List.setIfInBounds_toArray, List.set_cons_zero, List.set_cons_succ]
  refine lt_call 2 rfl (by kernel_rfl) rfl rfl ⟨_, Tryz.func75, by decide, by kernel_rfl⟩ [.slice A n c] rfl ?_
  refine (sclone_any e.row A n c _ (by omega) (HEE.out (_ :: _ :: _ :: _ :: _ :: _ :: _ :: _ :: _ :: _ :: _ :: []) _ HY.out).row.nil (HEE.out (_ :: _ :: _ :: _ :: _ :: _ :: _ :: _ :: _ :: _ :: _ :: []) _ HY.out).row.rb).mono ?_
  rintro r y1 hp
  obtain ⟨A9, c9, rfl, _, ho, hb⟩ := hp.at_ HRL.out
  replace HS := Lib.hid (HS.out.trans (hb.mono HS.out.size))
  replace HY := Lib.hid (HY.out.addF9 (OW.byt1 hb ho))
  clear hp ho hb
  refine ⟨_, rfl, fun _ => HS.out, ?_⟩
  simp only [Act.put, List.setIfInBounds_toArray, List.set_cons_zero, List.set_cons_succ]
  refine lt_pure 6 rfl (by kernel_rfl) (by kernel_rfl) (by kernel_rfl) (by kernel_rfl) (fun _ _ _ h => h) (v := ?_) (yi_run rfl (fun w => ?_)) (fun _ => HS.out) ?_
  rotate_left
  · first | (go_simp; done) | (go_simp; with_reducible rfl)
  simp only [Act.put, List.setIfInBounds_toArray, List.set_cons_zero, List.set_cons_succ]
  refine lt_call 5 rfl (by kernel_rfl) rfl rfl ⟨_, Tryz.func75, by decide, by kernel_rfl⟩ [.slice B m d] rfl ?_
  refine (sclone_any e.qual B m d _ (by omega) (HEE.out (_ :: _ :: _ :: _ :: _ :: _ :: _ :: _ :: _ :: _ :: _ :: _ :: []) _ HY.out).qual.nil (HEE.out (_ :: _ :: _ :: _ :: _ :: _ :: _ :: _ :: _ :: _ :: _ :: _ :: []) _ HY.out).qual.rb).mono ?_
  rintro r y2 hp
  obtain ⟨A10, c10, rfl, _, ho, hb⟩ := hp.at_ HQL.out
  replace HS := Lib.hid (HS.out.trans (hb.mono HS.out.size))
  replace HY := Lib.hid (HY.out.addF9 (OW.byt1 hb ho))
  clear hp ho hb
  refine ⟨_, rfl, fun _ => HS.out, ?_⟩
  simp only [Act.put, List.setIfInBounds_toArray, List.set_cons_zero, List.set_cons_succ]
  refine lt_end 7 rfl (by kernel_rfl) rfl (by kernel_rfl) ?_
  refine wpo_put1 rfl HY.out 6 rfl 0 rfl (by show 0 < 7; decide) _ rfl (by kernel_rfl) rfl ?_
  intro x7 hz _
  replace HY := Lib.hid hz
  clear hz
  simp only [Act.put]
  refine lt_pureF 8 rfl (by kernel_rfl) (by kernel_rfl) (by kernel_rfl) (by kernel_rfl) (by kernel_rfl) (fun _ _ _ h => h) (v := ?_) (yi_run rfl (fun w => ?_)) ?_
  rotate_left
  · first | (go_simp; done) | (go_simp; with_reducible rfl)
  simp only [Act.put, List.setIfInBounds_toArray, List.set_cons_zero, List.set_cons_succ]
  refine lt_end 9 rfl (by kernel_rfl) rfl (by kernel_rfl) ?_
  refine wpo_put1 rfl HY.out 6 rfl 2 rfl (by show 2 < 7; decide) _ rfl (by kernel_rfl) rfl ?_
  intro x8 hz _
  replace HY := Lib.hid hz
  clear hz
  simp only [Act.put]
  refine lt_pureF 10 rfl (by kernel_rfl) (by kernel_rfl) (by kernel_rfl) (by kernel_rfl) (by kernel_rfl) (fun _ _ _ h => h) (v := ?_) (yi_run rfl (fun w => ?_)) ?_
  rotate_left
  · first | (go_simp; done) | (go_simp; with_reducible rfl)
  simp only [Act.put, List.setIfInBounds_toArray, List.set_cons_zero, List.set_cons_succ]
  refine lt_end 11 rfl (by kernel_rfl) rfl (by kernel_rfl) ?_
  refine wpo_put1 rfl HY.out 6 rfl 6 rfl (by show 6 < 7; decide) _ rfl (by kernel_rfl) rfl ?_
  intro x9 hz _
  replace HY := Lib.hid hz
  clear hz
  simp only [Act.put]
  refine lt_done (by kernel_rfl) ?_
  clear HS
  have HY : Hid (OW w (bytO 5 (A10, c10, e.qual) :: bytO 5 (A9, c9, e.row) :: bytO 5 (A4, c4, W) :: bytO 5 (A2, c2, V) :: bytO 5 (A5, c5, RW) :: bytO 5 (some ⟨gk, 0, none⟩, ck, kb) :: boxO gb [.slice A9 n c9, .int .i64 e.fam, .slice A10 m c10, .int .i64 e.ts, .int .i64 e.seq, .int .i64 e.kind, .slice none 0 0] :: boxO g (bldC R (.slice A8 BN.length c8) (pv) mm.A mm.e.row.length mm.ac mm.Q mm.e.qual.length mm.qc mm.e (.slice mm.K s.key.length mm.kc) N) :: bytO 5 (A8, c8, BN) :: rowO 3 1 pv pn ((placesB R s).map i64v) :: bytO 5 (mm.A, mm.ac, mm.e.row) :: bytO 5 (mm.Q, mm.qc, mm.e.qual) :: bytO 5 (mm.K, mm.kc, s.key) :: rest) x9) := Lib.hid HY.out
  have hnn : (0 : Int) ≤ (N : Int) := by omega
  go_wp2_with (first
    | (refine wpList_load_row7 rfl 46 (.tmp 3) rfl rfl (HY.out.range (i := 6) rfl) ent_row5 ?_)
    | (refine wl_putAt rfl (.tmp 124) (.tmp 121) rfl HY.out 7 rfl rfl [.slice A9 n c9, .int .i64 e.fam, .slice A10 m c10, .int .i64 e.ts, .int .i64 e.seq, .int .i64 e.kind, .slice none 0 0] rfl (by show 3 + 7 ≤ 12; decide) (by kernel_rfl) (by simp [Value.oneCell']) ?_; intro z11 hz _; replace HY := Lib.hid hz; clear hz)
    | (refine wl_put1 rfl (.tmp 126) (.tmp 122) rfl HY.out 7 rfl 10 rfl (by show 10 < 12; decide) (.slice (some ⟨gk, 0, none⟩) kn ck) rfl (by kernel_rfl) rfl ?_; intro z12 hz _; replace HY := Lib.hid hz; clear hz)
    | (refine wpList_load_cell rfl 3 (.tmp 129) rfl rfl (show _ = some (Value.int .i64 (N : Int)) from HY.out.cell (i := 7) (j := 11) rfl rfl) (fun w => Tryz.isAgg3 w) ?_)
    | (refine wl_put1 rfl (.tmp 133) (.tmp 131) rfl HY.out 7 rfl 11 rfl (by show 11 < 12; decide) (.int .i64 ((N : Int) + 1)) rfl (by kernel_rfl) rfl ?_; intro z13 hz _; replace HY := Lib.hid hz; clear hz))
  go_ret
  have HP : Hid (addC R L e = 0 ∧ addL R L e = L ++ [e]) := Lib.hid (by
    have h : addC R L e = 0 := by unfold addC; rw [if_neg (fun h => h HC.out), if_neg HLO.out, if_neg (by rw [← HS0.out, ← HKB.out, HSS.out]; exact HBG.out)]
    exact ⟨h, by unfold addL; rw [h, if_pos rfl]⟩)
  have HRB : Hid (runB R (L ++ [e]) = stepB R s kb e.val) := Lib.hid (by rw [runB_snoc, ← HS0.out, ← HKB.out])
  refine ⟨by rw [HP.out.1]; rfl, bldO R g (stepB R s kb e.val) ⟨A8, c8, pv, A9, c9, A10, c10, some ⟨gk, 0, none⟩, ck, { e with val := [] }⟩, ?_, ?_⟩
  · rw [HP.out.2]
    refine ⟨HRR.out, ?_, ?_, ?_, ⟨A8, c8, pv, A9, c9, A10, c10, some ⟨gk, 0, none⟩, ck, { e with val := [] }⟩, ?_, ?_⟩
    · rw [HRB.out, HSS.out]; have := HBG.out; omega
    · rw [HRB.out]; show kb.length ≤ _; have := HKN.out; omega
    · intro l hl
      rcases List.mem_append.1 hl with h | h
      · exact HALL.out l h
      · obtain rfl := List.mem_singleton.1 h; exact HC.out
    · rw [HRB.out]
    · intro l hl
      rw [List.getLast?_append] at hl
      injection hl with hl
      subst hl; rfl
  · have h := HY.out
    have h := (((((h.front (i := 5) rfl).front (i := 1) rfl).front (i := 2) rfl).front (i := 9) rfl).front (i := 9) rfl).front (i := 9) rfl
    have e1 : (stepB R s kb e.val).body = BN := by rw [HBN.out, HRW.out, HAL.out]; rfl
    have e2 : (stepB R s kb e.val).places = placesB R s := rfl
    have e3 : (stepB R s kb e.val).key = kb := rfl
    have e4 : (stepB R s kb e.val).n = N + 1 := by rw [HN.out]; rfl
    simp only [bldO]
    rw [e1, e2, e3, e4, ← HPN.out, HRL.out, HQL.out, HKN.out]
    exact OW.sub h (.cons_cons _ (.cons_cons _ (.cons_cons _ (.cons_cons _ (.cons_cons _ (.cons_cons _ (.cons _ (.cons _ (.cons _ (.cons _ (.cons _ (.cons _ (.cons _ (List.Sublist.refl _))))))))))))))
end Go.Proofs.YtmigjipfomfacaaGreatDoor
namespace Go.Proofs.YtmigjipfomfacaaGreatDoor
open Go.RowKit
theorem places_take {l : List Nat} {k v : Nat} (h : l[k]? = some v) : (l.take (k + 1)).flatMap four4 = (l.take k).flatMap four4 ++ four4 v := by
  rw [take_snoc h, List.flatMap_append]; simp
theorem runE_places (R : Nat) : ∀ (l : List Ent) (s : BSt), (∀ p, p ∈ s.places → p ≤ s.body.length) → ∀ p, p ∈ (runE R s l).places → p ≤ (runE R s l).body.length
  | [], _, h => h
  | e :: l, s, h => runE_places R l (stepB R s (keyE e) e.val) (fun p hp => by
    simp only [stepB] at hp ⊢
    rw [List.length_append]
    unfold placesB at hp
    split at hp
    · rcases List.mem_append.1 hp with h1 | h1
      · have := h p h1; omega
      · have := List.mem_singleton.1 h1; omega
    · have := h p hp; omega)
theorem runB_places (R : Nat) (l : List Ent) (p : Nat) (h : p ∈ (runB R l).places) : p ≤ (runB R l).body.length := runE_places R l bst0 (fun p h => (by cases h)) p h
set_option maxRecDepth 100000 in
set_option maxHeartbeats 4000000 in
theorem finish_any {w x : World} {R g : Nat} {L : List Ent} {os rest : List Ob} (hb : Bld R L g os) (h : OW w (os ++ rest) x) (ht : TabAt 0 x) :
    Calls Tryz.prog 47 #[.pointer (some ⟨g, 0, none⟩)] x (BytesPost2 5 (finE R L).1 (finE R L).2 x) := by
  have HSZ1 := Lib.hid (fun z (hz : Below x.heap.size x z) => size_any hb (h.later hz))
  have HTB : Hid (∀ z, Below x.heap.size x z → TabAt 0 z) := Lib.hid fun z hz => ht.later hz
  obtain ⟨hR, hsz, _, _, m, rfl, _⟩ := hb
  have hpl0 := runB_places R L
  obtain ⟨s, hs⟩ : ∃ z, z = runB R L := ⟨_, rfl⟩
  rw [← hs] at h hsz hpl0
  obtain ⟨P, pc, hpv, _⟩ := own_slice (h.row (i := 2) rfl)
  obtain ⟨bl, hbl⟩ : ∃ z, z = s.body.length := ⟨_, rfl⟩
  obtain ⟨pn, hpn⟩ : ∃ z, z = s.places.length := ⟨_, rfl⟩
  obtain ⟨N, hN⟩ : ∃ z, z = s.n := ⟨_, rfl⟩
  have hNL : N = L.length := by rw [hN, hs, runB_n]
  have hNb : N ≤ 131072 := by have h1 := n_le_size _ (runB_many R L); rw [← hs] at h1; omega
  have hlim : bl + 4 * pn + 9 ≤ 131072 := by unfold sizeS at hsz; omega
  have HS0 := Lib.hid hs
  have HBL := Lib.hid hbl.symm
  have HPN := Lib.hid hpn.symm
  have HN := Lib.hid hN.symm
  have HNL := Lib.hid hNL
  have HPL := Lib.hid hpl0
  obtain ⟨szn, hszn⟩ : ∃ z, z = szB R L := ⟨_, rfl⟩
  have HSN := Lib.hid hszn.symm
  have HC : Hid (∀ z, Below x.heap.size x z → z.cell? ⟨g, 0, none⟩ = some (.int .i64 (R : Int)) ∧ z.cell? ⟨g, 1, none⟩ = some (.slice m.B bl m.bc) ∧ z.cell? ⟨g, 2, none⟩ = some (.slice P pn pc) ∧ z.cell? ⟨g, 5 + 6, none⟩ = some (.int .i64 (N : Int)) ∧ Sl z m.B bl m.bc s.body ∧ Reads z z.heap.size 1 P pn (s.places.map i64v)) := Lib.hid fun z hz => by
    have h' := h.later hz
    rw [hbl, hN]
    refine ⟨h'.cell (i := 0) (j := 0) rfl rfl, h'.cell (i := 0) (j := 1) rfl rfl, ?_, h'.cell (i := 0) (j := 11) rfl rfl, h'.sl (i := 1) rfl rfl, ?_⟩
    · have := h'.cell (i := 0) (j := 2) rfl rfl
      rw [this, hpv, hpn]
    · have := h'.row (i := 2) rfl
      rw [hpv, ← hpn] at this
      exact Reads.own this
  have HRR := Lib.hid hR
  have hR1 := hR.1
  have hR2 := hR.2
  clear h hs hbl hpn hN hpv hNL hpl0 hszn hsz hR ht
  by_cases h0 : N = 0
  case pos =>
    have HF : Hid (finE R L = ([], 54)) := Lib.hid (by unfold finE; rw [if_pos (List.eq_nil_of_length_eq_zero (by rw [← HNL.out, h0]))])
    subst h0
    obtain ⟨_, _, _, c3, _⟩ := HC.out x (Below.refl _ _)
    go_enter Tryz.func47, Tryz.ntmps47
    go_wp2_with (refine wpList_load_cell rfl 3 (.tmp 10) rfl rfl c3 (fun w => Tryz.isAgg3 w) ?_)
    go_ret2
    rw [HF.out]
    exact bytes_post2 (n := 0) (own_nil _ _ _ _) (Below.refl _ _)
  have hd : ((N : Int) == 0) = false := beq_eq_false_iff_ne.2 (by omega)
  have HFL : Hid (finE R L = (headB5 R s ++ lowB (sumL (headB5 R s)), 0)) := Lib.hid (by
    have h1 : L ≠ [] := fun e => h0 (by rw [HNL.out, e]; rfl)
    unfold finE layB
    rw [if_neg h1, if_neg h1, ← HS0.out]; rfl)
  have hsz2 : szn ≤ 131072 := by
    have h1 : L ≠ [] := fun e => h0 (by rw [HNL.out, e]; rfl)
    have := HSN.out
    unfold szB at this
    rw [if_neg h1, ← HS0.out] at this
    unfold sizeS at this
    have := HBL.out
    have := HPN.out
    omega
  obtain ⟨_, _, _, c3, _⟩ := HC.out x (Below.refl _ _)
  have HX := Lib.hid (OW.nil x)
  go_enter Tryz.func47, Tryz.ntmps47
  go_wp2_with (first
    | (refine wpList_load_cell rfl 3 (.tmp 10) rfl rfl c3 (fun w => Tryz.isAgg3 w) ?_)
    | (go_at_call 76; go_must (refine (HSZ1.out _ HX.out.up).mono ?_); rw [HSN.out]; rintro r z1 ⟨rfl, hb⟩; replace HX := Lib.hid (HX.out.later hb); clear hb c3)
    | (at_make; go_must (refine wl_make0 rfl _ _ rfl Tryz.u8s' szn _ rfl rfl rfl (by omega) (by unfold maxLen; omega) HX.out ?_); intro g1 z2 hz _; have HX2 : Hid (OW x [bytO 5 (some ⟨g1, 0, none⟩, szn, [])] z2) := Lib.hid hz; obtain ⟨_, d1, d2, _, s1, _⟩ := HC.out z2 HX2.out.up; have S1 := Lib.hid s1; clear hz HX s1)
    | (refine wpList_load_cell rfl 22 (.tmp 19) rfl rfl d1 (fun w => Tryz.isAgg22 w) ?_)
    | (at_builtin; go_must (refine wl_appB rfl (.tmp 16) (.tmp 20) rfl Tryz.u8s' HX2.out 0 rfl rfl rfl _ _ bl _ s.body rfl S1.out.rb (by simp; omega) ?_); intro A3 c4 z3 hz; have HX3 : Hid (OW x [bytO 5 (A3, c4, s.body)] z3) := Lib.hid hz; obtain ⟨_, _, d3, _⟩ := HC.out z3 HX3.out.up; clear hz d1 d2 S1)
    | (refine wpList_load_cell rfl 91 (.tmp 24) rfl rfl d3 (fun w => Tryz.isAgg91 w) ?_))
  go_loopw [4, 27] (fun v i wr => ∃ (k : Nat) (A : Option Addr) (c n : Nat) (l : List UInt8), k ≤ pn ∧ n ≤ 131072 + 4 * k ∧ i = .int .i64 k ∧ v = .slice A n c ∧ Hid (l.length = n) ∧ Hid (l = s.body ++ (s.places.take k).flatMap four4) ∧ Hid (OW x [bytO 5 (A, c, l)] wr)) (fun _ i _ => pn - (intOf i).toNat)
  case atStart => exact ⟨0, A3, c4, bl, s.body, Nat.zero_le _, by omega, rfl, rfl, HBL, Lib.hid (by simp), HX3⟩
  case round =>
    clear HX3 d3
    obtain ⟨k, A5, c5, n5, l5, hk, hn5, rfl, rfl, HL5, HP5, HX5⟩ := hrel
    by_cases hlt : k < pn
    case pos =>
      have hdk : decide ((k : Int) < (pn : Int)) = true := decide_eq_true (by omega)
      obtain ⟨_, _, _, _, _, hr⟩ := HC.out wr HX5.out.up
      obtain ⟨b, o, rfl, _, hcc⟩ := hr.2 (by omega)
      have hpk : s.places[k]? = some (s.places[k]'(by rw [HPN.out]; exact hlt)) := List.getElem?_eq_getElem _
      obtain ⟨pv, hpv⟩ : ∃ z, z = s.places[k]'(by rw [HPN.out]; exact hlt) := ⟨_, rfl⟩
      rw [← hpv] at hpk
      have hc1 : wr.cell? ⟨b, o + k, none⟩ = some (.int .i64 (pv : Int)) := hcc k _ (by rw [List.getElem?_map, hpk]; rfl)
      have hpb : pv ≤ 131072 := by have := HPL.out pv (List.mem_of_getElem? hpk); have := HBL.out; omega
      have HPT := Lib.hid (places_take hpk)
      have i1 : (0 : Int) ≤ (k : Int) := by omega
      have i2 : (k : Int) < (pn : Int) := by omega
      clear hr hcc hpk hpv
      go_wp2_with (first
        | (go_at_call 53; go_must (refine (four_any pv _ (by omega)).mono ?_); rintro r z4 hp; obtain ⟨A6, c6, rfl, hs6, _, hb⟩ := hp.at_ (n := 4) rfl; have HS6 := Lib.hid hs6; replace HX5 := Lib.hid (HX5.out.later hb); clear hp hb hs6 hc1)
        | (at_builtin; go_must (refine wl_appB rfl (.tmp 31) (.tmp 34) rfl Tryz.u8s' HX5.out 0 rfl HL5.out rfl _ _ 4 _ (four4 pv) rfl HS6.out.rb (by omega) ?_); intro A7 c7 z5 hz; have HX7 : Hid (OW x [bytO 5 (A7, c7, l5 ++ four4 pv)] z5) := Lib.hid hz; clear hz HX5 HS6))
      go_roundw
      case rel => exact ⟨k + 1, A7, c7, n5 + 4, l5 ++ four4 pv, by omega, by omega, by go_num, rfl, Lib.hid (by rw [List.length_append, HL5.out]; rfl), Lib.hid (by rw [HPT.out, HP5.out, List.append_assoc]), HX7⟩
      case measure => simp [intOf]; omega
    have hdk : decide ((k : Int) < (pn : Int)) = false := decide_eq_false (by omega)
    have HP6 : Hid (l5 = s.body ++ s.places.flatMap four4) := Lib.hid (by rw [HP5.out, take_all (by have := HPN.out; omega)])
    obtain ⟨hd, hhd⟩ : ∃ z, z = headB5 R s := ⟨_, rfl⟩
    obtain ⟨_, _, _, c3, _⟩ := HC.out wr HX5.out.up
    have HHD := Lib.hid hhd
    have HL7 : Hid ((l5 ++ four4 N).length = n5 + 4) := Lib.hid (by rw [List.length_append, HL5.out]; rfl)
    have HL8 : Hid ((l5 ++ four4 N ++ [UInt8.ofNat R]).length = n5 + 4 + 1) := Lib.hid (by rw [List.length_append, HL7.out]; rfl)
    have HE8 : Hid (l5 ++ four4 N ++ [UInt8.ofNat R] = hd) := Lib.hid (by rw [hhd, HP6.out, ← HN.out]; rfl)
    have HU8 : Hid ([Value.int .u8 (R : Int)] = u8s [UInt8.ofNat R]) := Lib.hid (by
      show _ = [u8v _]
      unfold u8v
      rw [UInt8.toNat_ofNat', Nat.mod_eq_of_lt (by omega)])
    have HLD : Hid (hd.length = n5 + 4 + 1) := Lib.hid (by rw [← HE8.out]; exact HL8.out)
    have f1 : Hid (∀ x : List UInt8, [x].flatten = x) := Lib.hid fun x => by simp
    obtain ⟨sm, hsm⟩ : ∃ z, z = sumL hd := ⟨_, rfl⟩
    have hs32 : sm < 4294967296 := by rw [hsm]; exact sumL_lt hd
    have HSM := Lib.hid hsm
    obtain ⟨q3, q2, q1, q0, hf4, hlw⟩ : ∃ a b d e, four4 sm = [a, b, d, e] ∧ lowB sm = [e, d, b, a] := ⟨_, _, _, _, rfl, rfl⟩
    have HF4 := Lib.hid hf4
    have HLW := Lib.hid hlw
    clear HP5 hhd hsm hf4 hlw
    have tk1 : True := trivial
    have tk2 : True := trivial
    have tk3 : True := trivial
    go_wp2_with (first
      | (refine wpList_load_cell rfl 3 (.tmp 40) rfl rfl c3 (fun w => Tryz.isAgg3 w) ?_)
      | (go_at_call 53; have _t := tk1; go_must (refine (four_any N _ (by omega)).mono ?_); rintro r z4 hp; obtain ⟨A6, c6, rfl, hs6, _, hb⟩ := hp.at_ (n := 4) rfl; have HS6 := Lib.hid hs6; replace HX5 := Lib.hid (HX5.out.later hb); clear hp hb hs6 c3 tk1)
      | (at_builtin; have _t := tk2; go_must (refine wl_appB rfl (.tmp 37) (.tmp 43) rfl Tryz.u8s' HX5.out 0 rfl HL5.out rfl _ _ 4 _ (four4 N) rfl HS6.out.rb (by omega) ?_); intro A7 c7 z5 hz; have HX7 : Hid (OW x [bytO 5 (A7, c7, l5 ++ four4 N)] z5) := Lib.hid hz; obtain ⟨d0, _⟩ := HC.out z5 HX7.out.up; clear hz HX5 HS6 tk2)
      | (refine wpList_load_cell rfl 3 (.tmp 48) rfl rfl d0 (fun w => Tryz.isAgg3 w) ?_)
      | (at_builtin; have _t := tk3; go_must (refine wl_appB rfl (.tmp 45) (.tmp 51) rfl Tryz.u8s' (HX7.out.al (.cells #[.int .u8 (R : Int)] 5)) 0 rfl HL7.out rfl _ (some ⟨z5.heap.size, 0, none⟩) 1 1 [UInt8.ofNat R] rfl (by exact reads_lit z5 _ [UInt8.ofNat R] _ _ HU8.out) (by omega) ?_); intro A8 c8 z6 hz; rw [HE8.out] at hz; have HX8 : Hid (OW x [bytO 5 (A8, c8, hd)] z6) := Lib.hid hz; have HS8 := Lib.hid (HX8.out.sl (i := 0) rfl HLD.out); clear hz HX7 d0 tk3)
      | (go_at_call 54; go_must (refine (sum_any [hd] _ 1 1 _ (by omega) (by exact HS8.out.one _ _) (HTB.out _ ((HX8.out.al (.cells #[.slice A8 (n5 + 4 + 1) c8] 22)).up))).mono ?_); rintro r w1 ⟨rfl, rfl⟩; rw [f1.out, ← HSM.out]; have HX9 := Lib.hid (HX8.out.al (.cells #[.slice A8 (n5 + 4 + 1) c8] 22)))
      | (go_at_call 53; go_must (refine (four_any sm _ hs32).mono ?_); rintro r z7 hp; rw [HF4.out] at hp; obtain ⟨A9, c9, rfl, _, ho, hb⟩ := hp.at_ (n := 4) rfl; obtain ⟨g9, cp9, hv, _, _, _⟩ := own_form ho (by show 0 < 4; omega); injection hv with hv _ hcp; subst hv; subst hcp; have HY := Lib.hid (OW.byt1 hb ho); clear hp hb ho)
      | (go_at_call 55; go_must (refine (reverse4_any _ _ _ _ g9 _ _ _ HY.out).mono ?_); rintro r z8 ⟨rfl, hx⟩; have HZ := Lib.hid (HX9.out.app hx); clear hx)
      | (at_builtin; go_must (refine wl_appB rfl (.tmp 59) (.tmp 60) rfl Tryz.u8s' HZ.out 0 rfl HLD.out rfl _ _ 4 _ [q0, q1, q2, q3] rfl (HZ.out.sl (i := 1) rfl rfl).rb (by omega) ?_); intro A10 c10 z9 hz; have HQ := Lib.hid (hz.left (ps := [_]) (os := [_])); clear hz))
    go_ret2
    rw [HFL.out]
    exact OW.bytes2 HQ.out (by rw [← HHD.out, ← HSM.out, HLW.out]) (n := n5 + 4 + 1 + 4) (by rw [List.length_append, HLD.out]; rfl) rfl rfl
end Go.Proofs.YtmigjipfomfacaaGreatDoor
namespace Go.Proofs.YtmigjipfomfacaaGreatDoor
open Go.RowKit
structure ER where
  A : Option Addr
  c : Nat
  B : Option Addr
  d : Nat
  D : Option Addr
  q : Nat
  e : Ent
def ER.cells (r : ER) : List Value := [.slice r.A r.e.row.length r.c, .int .i64 r.e.fam, .slice r.B r.e.qual.length r.d, .int .i64 r.e.ts, .int .i64 r.e.seq, .int .i64 r.e.kind, .slice r.D r.e.val.length r.q]
def ER.v (r : ER) : Value := entV r.A r.e.row.length r.c r.B r.e.qual.length r.d r.D r.e.val.length r.q r.e
def ER.En (w : World) (r : ER) : Prop := YtmigjipfomfacaaGreatDoor.En w r.A r.e.row.length r.c r.B r.e.qual.length r.d r.D r.e.val.length r.q r.e
theorem ER.len (r : ER) : r.cells.length = 7 := rfl
theorem ER.En.later {w x : World} {r : ER} (h : r.En w) (hb : Below w.heap.size w x) : r.En x := YtmigjipfomfacaaGreatDoor.En.later h hb
theorem flat7_len (rs : List ER) : (rs.flatMap ER.cells).length = rs.length * 7 := by
  induction rs with
  | nil => rfl
  | cons r rs ih => rw [List.flatMap_cons, List.length_append, ih, ER.len, List.length_cons]; omega
theorem flat7_at : ∀ {rs : List ER} {k : Nat} {r : ER}, rs[k]? = some r → ∀ j, j < 7 → (rs.flatMap ER.cells)[k * 7 + j]? = r.cells[j]?
  | [], _, _, h, _, _ => by cases h
  | a :: rs, 0, r, h, j, hj => by
    injection h with h; subst h
    rw [List.flatMap_cons, Nat.zero_mul, Nat.zero_add, List.getElem?_append_left (by rw [ER.len]; exact hj)]
  | a :: rs, k + 1, r, h, j, hj => by
    rw [List.flatMap_cons, List.getElem?_append_right (by rw [ER.len]; omega), ER.len, show (k + 1) * 7 + j - 7 = k * 7 + j from by omega]
    exact flat7_at (rs := rs) h j hj
def Ens (w : World) (A : Option Addr) (n : Nat) (es : List Ent) : Prop := ∃ rs : List ER, rs.map ER.e = es ∧ Reads w w.heap.size 7 A n (rs.flatMap ER.cells) ∧ ∀ r, r ∈ rs → r.En w
section
variable {w x : World} {A : Option Addr} {n : Nat} {es : List Ent}
theorem Ens.len (h : Ens w A n es) : es.length = n := by
  obtain ⟨rs, rfl, hr, _⟩ := h
  have := hr.1
  rw [flat7_len] at this
  rw [List.length_map]; omega
theorem Ens.later (h : Ens w A n es) (hb : Below w.heap.size w x) : Ens x A n es := by
  obtain ⟨rs, e, hr, hE⟩ := h
  exact ⟨rs, e, (hr.below hb).more hb.size, fun r hr => (hE r hr).later hb⟩
theorem Ens.nil : Ens w A 0 [] := ⟨[], rfl, Reads.nil, fun r h => by cases h⟩
theorem Ens.at_ (h : Ens w A n es) {k : Nat} (hk : k < n) : ∃ (b o : Nat) (Ar : Option Addr) (c : Nat) (B : Option Addr) (d : Nat) (D : Option Addr) (q : Nat) (e : Ent), A = some ⟨b, o, none⟩ ∧ b < w.heap.size ∧ es[k]? = some e ∧
    w.rangeAt b (o + k * 7) [.slice Ar e.row.length c, .int .i64 e.fam, .slice B e.qual.length d, .int .i64 e.ts, .int .i64 e.seq, .int .i64 e.kind, .slice D e.val.length q] ∧ En w Ar e.row.length c B e.qual.length d D e.val.length q e := by
  have hl := h.len
  obtain ⟨rs, rfl, hr, hE⟩ := h
  rw [List.length_map] at hl
  obtain ⟨b, o, hA, hb, hc⟩ := hr.2 (by omega)
  obtain ⟨r, hrk⟩ : ∃ r, rs[k]? = some r := ⟨_, List.getElem?_eq_getElem (by omega)⟩
  refine ⟨b, o, r.A, r.c, r.B, r.d, r.D, r.q, r.e, hA, hb, by rw [List.getElem?_map, hrk]; rfl, fun j v hj => ?_, hE r (List.mem_of_getElem? hrk)⟩
  have hj7 : j < 7 := (List.getElem?_eq_some_iff.1 hj).1
  have := hc (k * 7 + j) v (by rw [flat7_at hrk j hj7]; exact hj)
  rwa [← Nat.add_assoc] at this
theorem flat7_take (rs : List ER) (m : Nat) : (rs.flatMap ER.cells).take (m * 7) = (rs.take m).flatMap ER.cells := by
  induction rs generalizing m with
  | nil => simp
  | cons r rs ih =>
    cases m with
    | zero => simp
    | succ m =>
      rw [List.flatMap_cons, List.take_succ_cons, List.flatMap_cons, List.take_append, ER.len, List.take_of_length_le (by rw [ER.len]; omega), show (m + 1) * 7 - 7 = m * 7 from by omega, ih]
theorem Ens.take (h : Ens w A n es) {m : Nat} (hm : m ≤ n) : Ens w A m (es.take m) := by
  obtain ⟨rs, rfl, hr, hE⟩ := h
  refine ⟨rs.take m, by rw [List.map_take], ?_, fun r hr' => hE r (List.mem_of_mem_take hr')⟩
  rw [← flat7_take]
  exact hr.take hm
end
theorem OW.ens {w x : World} {os : List Ob} {A : Option Addr} {n c i : Nat} {T : TypeId} {rs : List ER} (h : OW w os x) (hi : os[i]? = some (rowO T 7 (.slice A n c) n (rs.flatMap ER.cells))) (hE : ∀ r, r ∈ rs → r.En x) : Ens x A n (rs.map ER.e) :=
  ⟨rs, rfl, Reads.own (h.row hi), hE⟩
end Go.Proofs.YtmigjipfomfacaaGreatDoor
namespace Go.Proofs.YtmigjipfomfacaaGreatDoor
open Go.RowKit
theorem begin_no (R : Int) (w : World) (h : R < 1 ∨ 16 < R) : Calls Tryz.prog 28 #[.int .i64 R] w fun e w' => e = .returned (.tuple #[.pointer none, .int .i64 1]) ∧ Below w.heap.size w w' :=
  (begin_any R w).mono fun e w' hp => by
    rcases hp with ⟨_, h1, h2⟩ | ⟨h1, h2, _⟩
    · exact ⟨h1, h2⟩
    · omega
theorem begin_ok (R : Nat) (w : World) (h1 : 1 ≤ R) (h2 : R ≤ 16) : Calls Tryz.prog 28 #[.int .i64 (R : Int)] w fun e w' => ∃ g os, e = .returned (.tuple #[.pointer (some ⟨g, 0, none⟩), .int .i64 0]) ∧ Bld R [] g os ∧ OW w os w' :=
  (begin_any R w).mono fun e w' hp => by
    rcases hp with ⟨h, _⟩ | ⟨_, _, g, os, h3, h4, h5⟩
    · omega
    · rw [Int.toNat_natCast] at h4; exact ⟨g, os, h3, h4, h5⟩
theorem addC_step {R : Nat} {es : List Ent} {k : Nat} {e : Ent} (hk : es[k]? = some e) (h0 : (buildK R [] (es.take k)).1 = 0) : (addC R (es.take k) e = 0 → addL R (es.take k) e = es.take (k + 1) ∧ (buildK R [] (es.take (k + 1))).1 = 0) ∧ (addC R (es.take k) e ≠ 0 → (buildK R [] es).1 = addC R (es.take k) e) := by
  have ht : es.take (k + 1) = es.take k ++ [e] := take_snoc hk
  have hb := buildK_app R (es.take k) [] [e]
  rw [if_pos h0, List.nil_append] at hb
  refine ⟨fun h => ⟨by unfold addL; rw [if_pos h, ht], ?_⟩, fun h => ?_⟩
  · rw [ht, hb]; unfold buildK; rw [if_pos h]; rfl
  · have h2 := buildK_app R (es.take k ++ [e]) [] (es.drop (k + 1))
    have e1 : es.take k ++ [e] ++ es.drop (k + 1) = es := by rw [← ht, List.take_append_drop]
    rw [e1, hb] at h2
    have h3 : buildK R (es.take k) [e] = (addC R (es.take k) e, es.take k) := by unfold buildK; rw [if_neg h]
    rw [h3] at h2
    rw [h2, if_neg h]
set_option maxRecDepth 100000 in
set_option maxHeartbeats 4000000 in
theorem build_any (R : Int) (es : List Ent) (A : Option Addr) (n c : Nat) (w : World) (hes : Ens w A n es) (hn : n ≤ 9223372036854775806) (ht : TabAt 0 w) :
    Calls Tryz.prog 26 #[.int .i64 R, .slice A n c] w (BytesPost2 5 (buildE5 R es).1 (buildE5 R es).2 w) := by
  have HTB : Hid (∀ z, Below w.heap.size w z → TabAt 0 z) := Lib.hid fun z hz => ht.later hz
  have HLE := Lib.hid hes.len
  have HES : Hid (∀ z, Below w.heap.size w z → Ens z A n es) := Lib.hid fun z hz => hes.later hz
  clear hes ht
  by_cases hR : R < 1 ∨ 16 < R
  case pos =>
    have HP : Hid (buildE5 R es = ([], 1)) := Lib.hid (by unfold buildE5; rw [if_pos hR])
    have HRR := Lib.hid hR
    clear hR
    go_enter Tryz.func26, Tryz.ntmps26
    go_wp2_with (go_at_call 28; go_must (refine (begin_no R _ HRR.out).mono ?_); rintro r z1 ⟨rfl, hb⟩; have HB := Lib.hid hb; clear hb)
    go_loopw [7, 8] (fun e i wr => e = .int .i64 1 ∧ i = .int .i64 0 ∧ Hid (Below w.heap.size w wr)) (fun _ _ _ => 0)
    case atStart => exact ⟨rfl, rfl, HB⟩
    case round =>
      obtain ⟨rfl, rfl, HB2⟩ := hrel
      clear HB
      by_cases h0 : 0 < n
      · have hd : decide ((0 : Int) < (n : Int)) = true := decide_eq_true (by omega)
        go_wp2_with fail
        go_ret2
        rw [HP.out]
        exact bytes_post2 (n := 0) (own_nil _ _ _ _) HB2.out
      · have hd : decide ((0 : Int) < (n : Int)) = false := decide_eq_false (by omega)
        go_wp2_with fail
        go_ret2
        rw [HP.out]
        exact bytes_post2 (n := 0) (own_nil _ _ _ _) HB2.out
  obtain ⟨r, rfl⟩ : ∃ r : Nat, R = (r : Int) := ⟨R.toNat, by omega⟩
  have hr1 : 1 ≤ r := by omega
  have hr2 : r ≤ 16 := by omega
  have HPO : Hid ((buildK r [] es).1 = 0 → buildE5 r es = finE r es) := Lib.hid fun h => by unfold buildE5; rw [if_neg hR, Int.toNat_natCast, if_pos h]
  have HPN : Hid (∀ er, (buildK r [] es).1 = er → er ≠ 0 → buildE5 r es = ([], er)) := Lib.hid fun er h h0 => by unfold buildE5; rw [if_neg hR, Int.toNat_natCast, h, if_neg h0]
  clear hR
  go_enter Tryz.func26, Tryz.ntmps26
  go_wp2_with (go_at_call 28; go_must (refine (begin_ok r _ hr1 hr2).mono ?_); rintro e z1 ⟨g, os, rfl, hB, hX⟩; have HB := Lib.hid hB; have HX := Lib.hid hX; clear hB hX)
  go_loopw [7, 8] (fun e i wr => ∃ (k : Nat) (er : Int), k ≤ n ∧ i = .int .i64 k ∧ e = .int .i64 er ∧ Hid (Below w.heap.size w wr) ∧ Hid (er = 0 → (buildK r [] (es.take k)).1 = 0 ∧ ∃ os, Bld r (es.take k) g os ∧ OW w os wr) ∧ Hid (er ≠ 0 → (buildK r [] es).1 = er)) (fun _ i _ => n - (intOf i).toNat)
  case atStart => exact ⟨0, 0, Nat.zero_le _, rfl, rfl, Lib.hid HX.out.up, Lib.hid fun _ => ⟨rfl, os, HB.out, HX.out⟩, Lib.hid fun h => absurd rfl h⟩
  case round =>
    obtain ⟨k, er, hk, rfl, rfl, HW, HO, HN⟩ := hrel
    clear HB HX
    by_cases he : er = 0
    case neg =>
      have hde : (er == 0) = false := beq_eq_false_iff_ne.2 he
      have hde2 : (er != 0) = true := bne_iff_ne.2 he
      have HQ := Lib.hid (HPN.out er (HN.out he) he)
      clear HO HN he
      by_cases hlt : k < n
      · have hd : decide ((k : Int) < (n : Int)) = true := decide_eq_true (by omega)
        go_wp2_with fail
        go_ret2
        rw [HQ.out]
        exact bytes_post2 (n := 0) (own_nil _ _ _ _) HW.out
      · have hd : decide ((k : Int) < (n : Int)) = false := decide_eq_false (by omega)
        go_wp2_with fail
        go_ret2
        rw [HQ.out]
        exact bytes_post2 (n := 0) (own_nil _ _ _ _) HW.out
    subst he
    obtain ⟨h1, os, h2, h3⟩ := HO.out rfl
    have HB := Lib.hid h2
    have HX := Lib.hid h3
    have HK := Lib.hid h1
    clear HO HN h1 h2 h3
    by_cases hlt : k < n
    case neg =>
      have hd : decide ((k : Int) < (n : Int)) = false := decide_eq_false (by omega)
      have HT : Hid (es.take k = es) := Lib.hid (take_all (by have := HLE.out; omega))
      have HQ : Hid (buildE5 r es = finE r (es.take k)) := Lib.hid (by rw [HT.out]; exact HPO.out (by have := HK.out; rwa [HT.out] at this))
      go_wp2_with (go_at_call 47; go_must (refine (finish_any (rest := []) HB.out (by rw [List.append_nil]; exact HX.out) (HTB.out _ HX.out.up)).mono ?_); rintro e z2 hp; obtain ⟨A2, c2, rfl, ho, hb⟩ := hp; have HO2 := Lib.hid ho; have HB2 := Lib.hid (HX.out.up.trans (hb.mono HX.out.up.size)); have HX2 := Lib.hid HX.out.up.size; clear ho hb)
      go_ret2
      rw [HQ.out]
      exact ⟨A2, c2, rfl, own_rebase HO2.out HX2.out, HB2.out⟩
    have hd : decide ((k : Int) < (n : Int)) = true := decide_eq_true (by omega)
    obtain ⟨b, o, Ar, ec, B, d, D, q, e, rfl, hbl, hek, hrg, hen⟩ := (HES.out w (Below.refl _ _)).at_ hlt
    have HST := Lib.hid (addC_step hek HK.out)
    have HRG : Hid (wr.rangeAt b (o + k * 7) [.slice Ar e.row.length ec, .int .i64 e.fam, .slice B e.qual.length d, .int .i64 e.ts, .int .i64 e.seq, .int .i64 e.kind, .slice D e.val.length q]) := Lib.hid fun j v hj => (HW.out.cell (p := ⟨b, _, none⟩) hbl).trans (hrg j v hj)
    have HEN : Hid (∀ us z, OW w (us ++ []) z → En z Ar e.row.length ec B e.qual.length d D e.val.length q e) := Lib.hid fun us z hz => hen.later hz.up
    clear hek hrg hen
    have i1 : (0 : Int) ≤ (k : Int) := by omega
    have i2 : (k : Int) < (n : Int) := by omega
    go_wp2_with (first
      | (refine wpList_load_at rfl 46 (.tmp 27) rfl rfl HRG.out ent_row5 ?_)
      | (go_at_call 46; go_must (refine (add_any (rest := []) HB.out (by rw [List.append_nil]; exact HX.out) e Ar _ ec B _ d D _ q HEN.out).mono ?_); rintro e2 z2 ⟨rfl, os2, hb2, hx2⟩; have HB2 := Lib.hid hb2; have HX2 := Lib.hid hx2; clear hb2 hx2))
    go_roundw
    case rel =>
      refine ⟨k + 1, _, by omega, rfl, by go_num, Lib.hid HX2.out.up, Lib.hid fun h => ?_, Lib.hid fun h => HST.out.2 h⟩
      obtain ⟨e3, e4⟩ := HST.out.1 h
      have h5 := HB2.out
      have h6 := HX2.out
      rw [e3] at h5
      rw [List.append_nil] at h6
      exact ⟨e4, os2, h5, h6⟩
    case measure => simp [intOf]; omega
end Go.Proofs.YtmigjipfomfacaaGreatDoor
namespace Go.Proofs.YtmigjipfomfacaaGreatDoor
open Go.RowKit
def EntPost (mk : Value → Value) (e : Ent) (w : World) (r : Ending) (w' : World) : Prop :=
  ∃ A c B d D q, r = .returned (mk (entV A e.row.length c B e.qual.length d D e.val.length q e)) ∧ RowsB 5 w.heap.size w' [(A, c, e.row), (B, d, e.qual), (D, q, e.val)] ∧ Below w.heap.size w w'
def NoPost (w : World) (r : Ending) (w' : World) : Prop :=
  (∃ A1 n1 c1 f A2 n2 c2 t s k, r = .returned (.tuple #[.agg #[.slice A1 n1 c1, .int .i64 f, .slice A2 n2 c2, .int .i64 t, .int .i64 s, .int .i64 k, .slice none 0 0], .bool false])) ∧ Below w.heap.size w w'
section
variable {T : TypeId} {base base' : Nat} {w w' : World} {rs : RowL} {mk : Value → Value}
theorem rows_low (h : RowsB T base w rs) (hb : base' ≤ base) : RowsB T base' w rs := ⟨fun i r hr => (h.1 i r hr).rebase hb, h.2⟩
theorem rows_nil (h : RowsB T base w rs) : RowsB T base w (rs ++ [(none, 0, [])]) := h.snoc (own_nil _ _ _ _) fun _ _ _ a b _ e => by cases e
theorem ent_none (hb : Below w.heap.size w w') : EntPost mk noEnt w (.returned (mk (entV none 0 0 none 0 0 none 0 0 noEnt))) w' :=
  ⟨none, 0, none, 0, none, 0, rfl, rows_nil (rows_nil (rows_nil RowsB.nil)), hb⟩
theorem ent_post {row qual : List UInt8} {f t s k : Int} {A1 A2 : Option Addr} {c1 c2 : Nat} (h : RowsB 5 w.heap.size w' [(A1, c1, row), (A2, c2, qual)]) (hb : Below w.heap.size w w') :
    EntPost mk ⟨row, f, qual, t, s, k, []⟩ w (.returned (mk (.agg #[.slice A1 row.length c1, .int .i64 f, .slice A2 qual.length c2, .int .i64 t, .int .i64 s, .int .i64 k, .slice none 0 0]))) w' :=
  ⟨A1, c1, A2, c2, none, 0, rfl, rows_nil h, hb⟩
theorem ent_post_n {row : List UInt8} {f t s k : Int} {A1 : Option Addr} {c1 : Nat} (h : RowsB 5 w.heap.size w' [(A1, c1, row)]) (hb : Below w.heap.size w w') :
    EntPost mk ⟨row, f, [], t, s, k, []⟩ w (.returned (mk (.agg #[.slice A1 row.length c1, .int .i64 f, .slice none 0 0, .int .i64 t, .int .i64 s, .int .i64 k, .slice none 0 0]))) w' :=
  ⟨A1, c1, none, 0, none, 0, rfl, rows_nil (rows_nil h), hb⟩
end
set_option maxRecDepth 100000 in
set_option maxHeartbeats 2000000 in
theorem pa_N_f1a (b : List UInt8) (A : Option Addr) (n c : Nat) (w : World) (rw0 : List UInt8) (p1 er : Nat) (hs : Sl w A n c b) (hn : n ≤ 140737488355000) (h0 : readO b 0 = (rw0, p1, er)) (he : er ≠ 0) :
    Calls Tryz.prog 82 #[.slice A n c] w (NoPost w) := by
  have HS : Hid (∀ x, Below w.heap.size w x → Sl x A n c b) := Lib.hid fun x h => hs.later h
  have HX0 := Lib.hid (Bt.of (T := 5) (Bxs.two w 46 #[.slice none 0 0, .int .i64 0, .slice none 0 0, .int .i64 0, .int .i64 0, .int .i64 0, .slice none 0 0] #[.slice none 0 0, .int .i64 0, .slice none 0 0, .int .i64 0, .int .i64 0, .int .i64 0, .slice none 0 0]))
  have H0 := Lib.hid h0
  have hd : ((er : Int) != 0) = true := by rw [bne_iff_ne]; omega
  have tO1 : True := trivial
  clear hs h0 he
  go_enter Tryz.func82, Tryz.ntmps82
  go_wp2_with (first
    | (go_at_call 93; have _t := tO1; go_must (refine (ro_any b A n c 0 _ (HS.out _ HX0.out.box.up) hn).mono ?_); rw [H0.out]; rintro e x1 hp; obtain ⟨A1, c1, rfl, _, hO1, hb1⟩ := hp.at_ (n := rw0.length) rfl rfl rfl; have HX1 := Lib.hid (HX0.out.fresh hb1 hO1); clear hb1 hp hO1 tO1; have z0 := HX1.out.box.c0 (i := 0) (v := .slice none 0 0) rfl rfl; have y0 := HX1.out.box.c1 (i := 0) (v := .slice none 0 0) rfl rfl; have z1 := HX1.out.box.c0 (i := 1) (v := .int .i64 0) rfl rfl; have y1 := HX1.out.box.c1 (i := 1) (v := .int .i64 0) rfl rfl; have z2 := HX1.out.box.c0 (i := 2) (v := .slice none 0 0) rfl rfl; have y2 := HX1.out.box.c1 (i := 2) (v := .slice none 0 0) rfl rfl; have z3 := HX1.out.box.c0 (i := 3) (v := .int .i64 0) rfl rfl; have y3 := HX1.out.box.c1 (i := 3) (v := .int .i64 0) rfl rfl; have z4 := HX1.out.box.c0 (i := 4) (v := .int .i64 0) rfl rfl; have y4 := HX1.out.box.c1 (i := 4) (v := .int .i64 0) rfl rfl; have z5 := HX1.out.box.c0 (i := 5) (v := .int .i64 0) rfl rfl; have y5 := HX1.out.box.c1 (i := 5) (v := .int .i64 0) rfl rfl; have z6 := HX1.out.box.c0 (i := 6) (v := .slice none 0 0) rfl rfl; have y6 := HX1.out.box.c1 (i := 6) (v := .slice none 0 0) rfl rfl; have fz := HX1.out.box.f0 rfl; have fy := HX1.out.box.f1 rfl))
  (try simp only [Exit.inBlock, Exit.then])
  have HR := Lib.hid ((HX1.out.fill7 rfl (.slice none 0 0) (.int .i64 0) (.slice none 0 0) (.int .i64 0) (.int .i64 0) (.int .i64 0) (.slice none 0 0)))
  refine bodyPost_ret (results_box1 rfl _ _ w.heap.size _ rfl (HR.out.box.cells0 rfl) (by kernel_rfl) (by kernel_rfl)) rfl ?_
  exact ⟨⟨_, _, _, _, _, _, _, _, _, _, rfl⟩, HR.out.box.up⟩
set_option maxRecDepth 100000 in
set_option maxHeartbeats 2000000 in
theorem pa_N_f1b (b : List UInt8) (A : Option Addr) (n c : Nat) (w : World) (row : List UInt8) (p1 : Nat) (hs : Sl w A n c b) (hn : n ≤ 140737488355000) (h0 : readO b 0 = (row, p1, 0)) (hp1 : p1 ≤ n) (hsh : n < p1 + 2) :
    Calls Tryz.prog 82 #[.slice A n c] w (NoPost w) := by
  have HS : Hid (∀ x, Below w.heap.size w x → Sl x A n c b) := Lib.hid fun x h => hs.later h
  have HX0 := Lib.hid (Bt.of (T := 5) (Bxs.two w 46 #[.slice none 0 0, .int .i64 0, .slice none 0 0, .int .i64 0, .int .i64 0, .int .i64 0, .slice none 0 0] #[.slice none 0 0, .int .i64 0, .slice none 0 0, .int .i64 0, .int .i64 0, .int .i64 0, .slice none 0 0]))
  have H0 := Lib.hid h0
  have tO1 : True := trivial
  clear hs h0
  go_enter Tryz.func82, Tryz.ntmps82
  go_wp2_with (first
    | (go_at_call 93; have _t := tO1; go_must (refine (ro_any b A n c 0 _ (HS.out _ HX0.out.box.up) hn).mono ?_); rw [H0.out]; rintro e x1 hp; obtain ⟨A1, c1, rfl, _, hO1, hb1⟩ := hp.at_ (n := row.length) rfl rfl rfl; have HX1 := Lib.hid (HX0.out.fresh hb1 hO1); clear hb1 hp hO1 tO1; have z0 := HX1.out.box.c0 (i := 0) (v := .slice none 0 0) rfl rfl; have y0 := HX1.out.box.c1 (i := 0) (v := .slice none 0 0) rfl rfl; have z1 := HX1.out.box.c0 (i := 1) (v := .int .i64 0) rfl rfl; have y1 := HX1.out.box.c1 (i := 1) (v := .int .i64 0) rfl rfl; have z2 := HX1.out.box.c0 (i := 2) (v := .slice none 0 0) rfl rfl; have y2 := HX1.out.box.c1 (i := 2) (v := .slice none 0 0) rfl rfl; have z3 := HX1.out.box.c0 (i := 3) (v := .int .i64 0) rfl rfl; have y3 := HX1.out.box.c1 (i := 3) (v := .int .i64 0) rfl rfl; have z4 := HX1.out.box.c0 (i := 4) (v := .int .i64 0) rfl rfl; have y4 := HX1.out.box.c1 (i := 4) (v := .int .i64 0) rfl rfl; have z5 := HX1.out.box.c0 (i := 5) (v := .int .i64 0) rfl rfl; have y5 := HX1.out.box.c1 (i := 5) (v := .int .i64 0) rfl rfl; have z6 := HX1.out.box.c0 (i := 6) (v := .slice none 0 0) rfl rfl; have y6 := HX1.out.box.c1 (i := 6) (v := .slice none 0 0) rfl rfl; have fz := HX1.out.box.f0 rfl; have fy := HX1.out.box.f1 rfl))
  (try simp only [Exit.inBlock, Exit.then])
  have HR := Lib.hid ((HX1.out.fill7 rfl (.slice none 0 0) (.int .i64 0) (.slice none 0 0) (.int .i64 0) (.int .i64 0) (.int .i64 0) (.slice none 0 0)))
  refine bodyPost_ret (results_box1 rfl _ _ w.heap.size _ rfl (HR.out.box.cells0 rfl) (by kernel_rfl) (by kernel_rfl)) rfl ?_
  exact ⟨⟨_, _, _, _, _, _, _, _, _, _, rfl⟩, HR.out.box.up⟩
set_option maxRecDepth 100000 in
set_option maxHeartbeats 2000000 in
theorem pa_P_f2a (b : List UInt8) (A : Option Addr) (n c : Nat) (w : World) (row : List UInt8) (p1 : Nat) (f g : UInt8) (ql0 : List UInt8) (p2 er : Nat) (hs : Sl w A n c b) (hn : n ≤ 140737488355000) (h0 : readO b 0 = (row, p1, 0)) (hlen : p1 + 2 ≤ n) (hf : b[p1]? = some f) (hg : b[p1 + 1]? = some g) (hg0 : g.toNat ≠ 0) (h2 : readO b ((p1 + 2 : Nat) : Int) = (ql0, p2, er)) (he : er ≠ 0) :
    Calls Tryz.prog 82 #[.slice A n c] w (NoPost w) := by
  have HS : Hid (∀ x, Below w.heap.size w x → Sl x A n c b) := Lib.hid fun x h => hs.later h
  have HX0 := Lib.hid (Bt.of (T := 5) (Bxs.two w 46 #[.slice none 0 0, .int .i64 0, .slice none 0 0, .int .i64 0, .int .i64 0, .int .i64 0, .slice none 0 0] #[.slice none 0 0, .int .i64 0, .slice none 0 0, .int .i64 0, .int .i64 0, .int .i64 0, .slice none 0 0]))
  have H0 := Lib.hid h0
  obtain ⟨bb, oo, _, rfl, hbb, _, _⟩ := hs.rb.at_ (k := p1) (by omega)
  have HC : Hid (∀ (j : Nat) (u : UInt8) x, b[j]? = some u → Below w.heap.size w x → x.cell? ⟨bb, oo + j, none⟩ = some (.int .u8 (u.toNat : Int))) := Lib.hid fun j u x hu hx => (hs.rb.later hx).cell hu
  have hbb0 : ¬ bb = w.heap.size := by omega
  have hbb1 : ¬ bb = w.heap.size + 1 := by omega
  have HF := Lib.hid hf
  have HG := Lib.hid hg
  have hgd : ((g.toNat : Int) != 0) = true := by rw [bne_iff_ne]; omega
  have H2 := Lib.hid h2
  have hd : ((er : Int) != 0) = true := by rw [bne_iff_ne]; omega
  have q1 : (p1 : Int) < (n : Int) := by omega
  have q2 : (p1 : Int) + 1 < (n : Int) := by omega
  have q3 : decide ((n : Int) < (p1 : Int) + 2) = false := decide_eq_false (by omega)
  have tO1 : True := trivial
  have tO2 : True := trivial
  clear hs h0 hf hg hg0 h2 he
  go_enter Tryz.func82, Tryz.ntmps82
  go_wp2_with (go_at_call 93; have _t := tO1; go_must (refine (ro_any b (some ⟨bb, oo, none⟩) n c 0 _ (HS.out _ HX0.out.box.up) hn).mono ?_); rw [H0.out]; rintro e x1 hp; obtain ⟨A1, c1, rfl, _, hO1, hb1⟩ := hp.at_ (n := row.length) rfl rfl rfl; have HX1 := Lib.hid (HX0.out.fresh hb1 hO1); clear hb1 hp hO1 tO1; have z0 := HX1.out.box.c0 (i := 0) (v := .slice none 0 0) rfl rfl; have y0 := HX1.out.box.c1 (i := 0) (v := .slice none 0 0) rfl rfl; have z1 := HX1.out.box.c0 (i := 1) (v := .int .i64 0) rfl rfl; have y1 := HX1.out.box.c1 (i := 1) (v := .int .i64 0) rfl rfl; have z2 := HX1.out.box.c0 (i := 2) (v := .slice none 0 0) rfl rfl; have y2 := HX1.out.box.c1 (i := 2) (v := .slice none 0 0) rfl rfl; have z3 := HX1.out.box.c0 (i := 3) (v := .int .i64 0) rfl rfl; have y3 := HX1.out.box.c1 (i := 3) (v := .int .i64 0) rfl rfl; have z4 := HX1.out.box.c0 (i := 4) (v := .int .i64 0) rfl rfl; have y4 := HX1.out.box.c1 (i := 4) (v := .int .i64 0) rfl rfl; have z5 := HX1.out.box.c0 (i := 5) (v := .int .i64 0) rfl rfl; have y5 := HX1.out.box.c1 (i := 5) (v := .int .i64 0) rfl rfl; have z6 := HX1.out.box.c0 (i := 6) (v := .slice none 0 0) rfl rfl; have y6 := HX1.out.box.c1 (i := 6) (v := .slice none 0 0) rfl rfl; have fz := HX1.out.box.f0 rfl; have fy := HX1.out.box.f1 rfl; have g1 := HC.out p1 f _ HF.out HX1.out.box.up; have g2 := HC.out (p1 + 1) g _ HG.out HX1.out.box.up)
  go_region
  rw [show wrap64 ((f.toNat : Nat) : Int) = (f.toNat : Int) from wrap64_id (by omega) (by have := f.toNat_lt; omega)]
  go_wp2_with (first
    | (go_at_call 93; have _t := tO2; go_must (refine (ro_any b (some ⟨bb, oo, none⟩) n c _ _ (HS.out _ ((HX1.out.s1_0 (.slice A1 row.length c1)).s1_1 (.int .i64 (f.toNat : Int))).drew.box.up) hn).mono ?_); rw [show ((p1 : Int) + 2) = ((p1 + 2 : Nat) : Int) from by omega, H2.out]; rintro e x2 hp; obtain ⟨A2, c2, rfl, _, hO2, hb2⟩ := hp.at_ (n := ql0.length) rfl rfl rfl; have HX2 := Lib.hid (((HX1.out.s1_0 (.slice A1 row.length c1)).s1_1 (.int .i64 (f.toNat : Int))).drew.fresh hb2 hO2); clear hb2 hp hO2 tO2 g1 g2; clear z0 y0 z1 y1 z2 y2 z3 y3 z4 y4 z5 y5 z6 y6 fz fy; have z0 := HX2.out.box.c0 (i := 0) (v := .slice none 0 0) rfl rfl; have y0 := HX2.out.box.c1 (i := 0) (v := .slice A1 row.length c1) rfl rfl; have z1 := HX2.out.box.c0 (i := 1) (v := .int .i64 0) rfl rfl; have y1 := HX2.out.box.c1 (i := 1) (v := .int .i64 (f.toNat : Int)) rfl rfl; have z2 := HX2.out.box.c0 (i := 2) (v := .slice none 0 0) rfl rfl; have y2 := HX2.out.box.c1 (i := 2) (v := .slice none 0 0) rfl rfl; have z3 := HX2.out.box.c0 (i := 3) (v := .int .i64 0) rfl rfl; have y3 := HX2.out.box.c1 (i := 3) (v := .int .i64 0) rfl rfl; have z4 := HX2.out.box.c0 (i := 4) (v := .int .i64 0) rfl rfl; have y4 := HX2.out.box.c1 (i := 4) (v := .int .i64 0) rfl rfl; have z5 := HX2.out.box.c0 (i := 5) (v := .int .i64 0) rfl rfl; have y5 := HX2.out.box.c1 (i := 5) (v := .int .i64 0) rfl rfl; have z6 := HX2.out.box.c0 (i := 6) (v := .slice none 0 0) rfl rfl; have y6 := HX2.out.box.c1 (i := 6) (v := .slice none 0 0) rfl rfl; have fz := HX2.out.box.f0 rfl; have fy := HX2.out.box.f1 rfl))
  (try simp only [Exit.inBlock, Exit.then])
  have HR := Lib.hid ((HX2.out.fill7 rfl (.slice A1 row.length c1) (.int .i64 (f.toNat : Int)) (.slice none 0 0) (.int .i64 0) (.int .i64 0) (.int .i64 0) (.slice none 0 0)))
  refine bodyPost_ret (results_box1 rfl _ _ w.heap.size _ rfl (HR.out.box.cells0 rfl) (by kernel_rfl) (by kernel_rfl)) rfl ?_
  exact ⟨⟨_, _, _, _, _, _, _, _, _, _, rfl⟩, HR.out.box.up⟩
set_option maxRecDepth 100000 in
set_option maxHeartbeats 2000000 in
theorem pa_P_f2b (b : List UInt8) (A : Option Addr) (n c : Nat) (w : World) (row : List UInt8) (p1 : Nat) (f g : UInt8) (qual : List UInt8) (p2 : Nat) (hs : Sl w A n c b) (hn : n ≤ 140737488355000) (h0 : readO b 0 = (row, p1, 0)) (hlen : p1 + 2 ≤ n) (hf : b[p1]? = some f) (hg : b[p1 + 1]? = some g) (hg0 : g.toNat ≠ 0) (h2 : readO b ((p1 + 2 : Nat) : Int) = (qual, p2, 0)) (hsh : n ≤ p2) :
    Calls Tryz.prog 82 #[.slice A n c] w (NoPost w) := by
  have HS : Hid (∀ x, Below w.heap.size w x → Sl x A n c b) := Lib.hid fun x h => hs.later h
  have HX0 := Lib.hid (Bt.of (T := 5) (Bxs.two w 46 #[.slice none 0 0, .int .i64 0, .slice none 0 0, .int .i64 0, .int .i64 0, .int .i64 0, .slice none 0 0] #[.slice none 0 0, .int .i64 0, .slice none 0 0, .int .i64 0, .int .i64 0, .int .i64 0, .slice none 0 0]))
  have H0 := Lib.hid h0
  obtain ⟨bb, oo, _, rfl, hbb, _, _⟩ := hs.rb.at_ (k := p1) (by omega)
  have HC : Hid (∀ (j : Nat) (u : UInt8) x, b[j]? = some u → Below w.heap.size w x → x.cell? ⟨bb, oo + j, none⟩ = some (.int .u8 (u.toNat : Int))) := Lib.hid fun j u x hu hx => (hs.rb.later hx).cell hu
  have hbb0 : ¬ bb = w.heap.size := by omega
  have hbb1 : ¬ bb = w.heap.size + 1 := by omega
  have HF := Lib.hid hf
  have HG := Lib.hid hg
  have hgd : ((g.toNat : Int) != 0) = true := by rw [bne_iff_ne]; omega
  have H2 := Lib.hid h2
  have q1 : (p1 : Int) < (n : Int) := by omega
  have q2 : (p1 : Int) + 1 < (n : Int) := by omega
  have q3 : decide ((n : Int) < (p1 : Int) + 2) = false := decide_eq_false (by omega)
  have tO1 : True := trivial
  have tO2 : True := trivial
  clear hs h0 hf hg hg0 h2
  go_enter Tryz.func82, Tryz.ntmps82
  go_wp2_with (go_at_call 93; have _t := tO1; go_must (refine (ro_any b (some ⟨bb, oo, none⟩) n c 0 _ (HS.out _ HX0.out.box.up) hn).mono ?_); rw [H0.out]; rintro e x1 hp; obtain ⟨A1, c1, rfl, _, hO1, hb1⟩ := hp.at_ (n := row.length) rfl rfl rfl; have HX1 := Lib.hid (HX0.out.fresh hb1 hO1); clear hb1 hp hO1 tO1; have z0 := HX1.out.box.c0 (i := 0) (v := .slice none 0 0) rfl rfl; have y0 := HX1.out.box.c1 (i := 0) (v := .slice none 0 0) rfl rfl; have z1 := HX1.out.box.c0 (i := 1) (v := .int .i64 0) rfl rfl; have y1 := HX1.out.box.c1 (i := 1) (v := .int .i64 0) rfl rfl; have z2 := HX1.out.box.c0 (i := 2) (v := .slice none 0 0) rfl rfl; have y2 := HX1.out.box.c1 (i := 2) (v := .slice none 0 0) rfl rfl; have z3 := HX1.out.box.c0 (i := 3) (v := .int .i64 0) rfl rfl; have y3 := HX1.out.box.c1 (i := 3) (v := .int .i64 0) rfl rfl; have z4 := HX1.out.box.c0 (i := 4) (v := .int .i64 0) rfl rfl; have y4 := HX1.out.box.c1 (i := 4) (v := .int .i64 0) rfl rfl; have z5 := HX1.out.box.c0 (i := 5) (v := .int .i64 0) rfl rfl; have y5 := HX1.out.box.c1 (i := 5) (v := .int .i64 0) rfl rfl; have z6 := HX1.out.box.c0 (i := 6) (v := .slice none 0 0) rfl rfl; have y6 := HX1.out.box.c1 (i := 6) (v := .slice none 0 0) rfl rfl; have fz := HX1.out.box.f0 rfl; have fy := HX1.out.box.f1 rfl; have g1 := HC.out p1 f _ HF.out HX1.out.box.up; have g2 := HC.out (p1 + 1) g _ HG.out HX1.out.box.up)
  go_region
  rw [show wrap64 ((f.toNat : Nat) : Int) = (f.toNat : Int) from wrap64_id (by omega) (by have := f.toNat_lt; omega)]
  go_wp2_with (first
    | (go_at_call 93; have _t := tO2; go_must (refine (ro_any b (some ⟨bb, oo, none⟩) n c _ _ (HS.out _ ((HX1.out.s1_0 (.slice A1 row.length c1)).s1_1 (.int .i64 (f.toNat : Int))).drew.box.up) hn).mono ?_); rw [show ((p1 : Int) + 2) = ((p1 + 2 : Nat) : Int) from by omega, H2.out]; rintro e x2 hp; obtain ⟨A2, c2, rfl, _, hO2, hb2⟩ := hp.at_ (n := qual.length) rfl rfl rfl; have HX2 := Lib.hid (((HX1.out.s1_0 (.slice A1 row.length c1)).s1_1 (.int .i64 (f.toNat : Int))).drew.fresh hb2 hO2); clear hb2 hp hO2 tO2 g1 g2; clear z0 y0 z1 y1 z2 y2 z3 y3 z4 y4 z5 y5 z6 y6 fz fy; have z0 := HX2.out.box.c0 (i := 0) (v := .slice none 0 0) rfl rfl; have y0 := HX2.out.box.c1 (i := 0) (v := .slice A1 row.length c1) rfl rfl; have z1 := HX2.out.box.c0 (i := 1) (v := .int .i64 0) rfl rfl; have y1 := HX2.out.box.c1 (i := 1) (v := .int .i64 (f.toNat : Int)) rfl rfl; have z2 := HX2.out.box.c0 (i := 2) (v := .slice none 0 0) rfl rfl; have y2 := HX2.out.box.c1 (i := 2) (v := .slice none 0 0) rfl rfl; have z3 := HX2.out.box.c0 (i := 3) (v := .int .i64 0) rfl rfl; have y3 := HX2.out.box.c1 (i := 3) (v := .int .i64 0) rfl rfl; have z4 := HX2.out.box.c0 (i := 4) (v := .int .i64 0) rfl rfl; have y4 := HX2.out.box.c1 (i := 4) (v := .int .i64 0) rfl rfl; have z5 := HX2.out.box.c0 (i := 5) (v := .int .i64 0) rfl rfl; have y5 := HX2.out.box.c1 (i := 5) (v := .int .i64 0) rfl rfl; have z6 := HX2.out.box.c0 (i := 6) (v := .slice none 0 0) rfl rfl; have y6 := HX2.out.box.c1 (i := 6) (v := .slice none 0 0) rfl rfl; have fz := HX2.out.box.f0 rfl; have fy := HX2.out.box.f1 rfl))
  (try simp only [Exit.inBlock, Exit.then])
  have HR := Lib.hid ((HX2.out.fill7 rfl (.slice A1 row.length c1) (.int .i64 (f.toNat : Int)) (.slice none 0 0) (.int .i64 0) (.int .i64 0) (.int .i64 0) (.slice none 0 0)))
  refine bodyPost_ret (results_box1 rfl _ _ w.heap.size _ rfl (HR.out.box.cells0 rfl) (by kernel_rfl) (by kernel_rfl)) rfl ?_
  exact ⟨⟨_, _, _, _, _, _, _, _, _, _, rfl⟩, HR.out.box.up⟩
set_option maxRecDepth 100000 in
set_option maxHeartbeats 2000000 in
theorem pa_P_f3 (b : List UInt8) (A : Option Addr) (n c : Nat) (w : World) (row : List UInt8) (p1 : Nat) (f g : UInt8) (qual : List UInt8) (p2 : Nat) (t p3 er : Nat) (hs : Sl w A n c b) (hn : n ≤ 140737488355000) (h0 : readO b 0 = (row, p1, 0)) (hlen : p1 + 2 ≤ n) (hf : b[p1]? = some f) (hg : b[p1 + 1]? = some g) (hg0 : g.toNat ≠ 0) (h2 : readO b ((p1 + 2 : Nat) : Int) = (qual, p2, 0)) (hlen2 : p2 < n) (h3 : readFl b (((p2 + 1) : Nat) : Int) = (t, p3, er)) (he : er ≠ 0) :
    Calls Tryz.prog 82 #[.slice A n c] w (NoPost w) := by
  have HS : Hid (∀ x, Below w.heap.size w x → Sl x A n c b) := Lib.hid fun x h => hs.later h
  have HX0 := Lib.hid (Bt.of (T := 5) (Bxs.two w 46 #[.slice none 0 0, .int .i64 0, .slice none 0 0, .int .i64 0, .int .i64 0, .int .i64 0, .slice none 0 0] #[.slice none 0 0, .int .i64 0, .slice none 0 0, .int .i64 0, .int .i64 0, .int .i64 0, .slice none 0 0]))
  have H0 := Lib.hid h0
  obtain ⟨bb, oo, _, rfl, hbb, _, _⟩ := hs.rb.at_ (k := p1) (by omega)
  have HC : Hid (∀ (j : Nat) (u : UInt8) x, b[j]? = some u → Below w.heap.size w x → x.cell? ⟨bb, oo + j, none⟩ = some (.int .u8 (u.toNat : Int))) := Lib.hid fun j u x hu hx => (hs.rb.later hx).cell hu
  have hbb0 : ¬ bb = w.heap.size := by omega
  have hbb1 : ¬ bb = w.heap.size + 1 := by omega
  have HF := Lib.hid hf
  have HG := Lib.hid hg
  have hgd : ((g.toNat : Int) != 0) = true := by rw [bne_iff_ne]; omega
  have H2 := Lib.hid h2
  have H3 := Lib.hid h3
  have hd : ((er : Int) != 0) = true := by rw [bne_iff_ne]; omega
  have q1 : (p1 : Int) < (n : Int) := by omega
  have q2 : (p1 : Int) + 1 < (n : Int) := by omega
  have q3 : decide ((n : Int) < (p1 : Int) + 2) = false := decide_eq_false (by omega)
  have q4 : (p2 : Int) < (n : Int) := by omega
  have tO1 : True := trivial
  have tO2 : True := trivial
  have tF1 : True := trivial
  clear hs h0 hf hg hg0 h2 h3 he
  go_enter Tryz.func82, Tryz.ntmps82
  go_wp2_with (go_at_call 93; have _t := tO1; go_must (refine (ro_any b (some ⟨bb, oo, none⟩) n c 0 _ (HS.out _ HX0.out.box.up) hn).mono ?_); rw [H0.out]; rintro e x1 hp; obtain ⟨A1, c1, rfl, _, hO1, hb1⟩ := hp.at_ (n := row.length) rfl rfl rfl; have HX1 := Lib.hid (HX0.out.fresh hb1 hO1); clear hb1 hp hO1 tO1; have z0 := HX1.out.box.c0 (i := 0) (v := .slice none 0 0) rfl rfl; have y0 := HX1.out.box.c1 (i := 0) (v := .slice none 0 0) rfl rfl; have z1 := HX1.out.box.c0 (i := 1) (v := .int .i64 0) rfl rfl; have y1 := HX1.out.box.c1 (i := 1) (v := .int .i64 0) rfl rfl; have z2 := HX1.out.box.c0 (i := 2) (v := .slice none 0 0) rfl rfl; have y2 := HX1.out.box.c1 (i := 2) (v := .slice none 0 0) rfl rfl; have z3 := HX1.out.box.c0 (i := 3) (v := .int .i64 0) rfl rfl; have y3 := HX1.out.box.c1 (i := 3) (v := .int .i64 0) rfl rfl; have z4 := HX1.out.box.c0 (i := 4) (v := .int .i64 0) rfl rfl; have y4 := HX1.out.box.c1 (i := 4) (v := .int .i64 0) rfl rfl; have z5 := HX1.out.box.c0 (i := 5) (v := .int .i64 0) rfl rfl; have y5 := HX1.out.box.c1 (i := 5) (v := .int .i64 0) rfl rfl; have z6 := HX1.out.box.c0 (i := 6) (v := .slice none 0 0) rfl rfl; have y6 := HX1.out.box.c1 (i := 6) (v := .slice none 0 0) rfl rfl; have fz := HX1.out.box.f0 rfl; have fy := HX1.out.box.f1 rfl; have g1 := HC.out p1 f _ HF.out HX1.out.box.up; have g2 := HC.out (p1 + 1) g _ HG.out HX1.out.box.up)
  go_region
  rw [show wrap64 ((f.toNat : Nat) : Int) = (f.toNat : Int) from wrap64_id (by omega) (by have := f.toNat_lt; omega)]
  go_wp2_with (first
    | (go_at_call 93; have _t := tO2; go_must (refine (ro_any b (some ⟨bb, oo, none⟩) n c _ _ (HS.out _ ((HX1.out.s1_0 (.slice A1 row.length c1)).s1_1 (.int .i64 (f.toNat : Int))).drew.box.up) hn).mono ?_); rw [show ((p1 : Int) + 2) = ((p1 + 2 : Nat) : Int) from by omega, H2.out]; rintro e x2 hp; obtain ⟨A2, c2, rfl, _, hO2, hb2⟩ := hp.at_ (n := qual.length) rfl rfl rfl; have HX2 := Lib.hid (((HX1.out.s1_0 (.slice A1 row.length c1)).s1_1 (.int .i64 (f.toNat : Int))).drew.fresh hb2 hO2); clear hb2 hp hO2 tO2 g1 g2; clear z0 y0 z1 y1 z2 y2 z3 y3 z4 y4 z5 y5 z6 y6 fz fy; have z0 := HX2.out.box.c0 (i := 0) (v := .slice none 0 0) rfl rfl; have y0 := HX2.out.box.c1 (i := 0) (v := .slice A1 row.length c1) rfl rfl; have z1 := HX2.out.box.c0 (i := 1) (v := .int .i64 0) rfl rfl; have y1 := HX2.out.box.c1 (i := 1) (v := .int .i64 (f.toNat : Int)) rfl rfl; have z2 := HX2.out.box.c0 (i := 2) (v := .slice none 0 0) rfl rfl; have y2 := HX2.out.box.c1 (i := 2) (v := .slice none 0 0) rfl rfl; have z3 := HX2.out.box.c0 (i := 3) (v := .int .i64 0) rfl rfl; have y3 := HX2.out.box.c1 (i := 3) (v := .int .i64 0) rfl rfl; have z4 := HX2.out.box.c0 (i := 4) (v := .int .i64 0) rfl rfl; have y4 := HX2.out.box.c1 (i := 4) (v := .int .i64 0) rfl rfl; have z5 := HX2.out.box.c0 (i := 5) (v := .int .i64 0) rfl rfl; have y5 := HX2.out.box.c1 (i := 5) (v := .int .i64 0) rfl rfl; have z6 := HX2.out.box.c0 (i := 6) (v := .slice none 0 0) rfl rfl; have y6 := HX2.out.box.c1 (i := 6) (v := .slice none 0 0) rfl rfl; have fz := HX2.out.box.f0 rfl; have fy := HX2.out.box.f1 rfl)
    | (go_at_call 94; have _t := tF1; go_must (refine (rfl_any b (some ⟨bb, oo, none⟩) n c _ _ (HS.out _ (HX2.out.s1_2 (.slice A2 qual.length c2)).box.up) hn).mono ?_); rw [show ((p2 : Int) + 1) = ((p2 + 1 : Nat) : Int) from by omega, H3.out]; rintro e x3 ⟨rfl, rfl⟩; clear tF1))
  (try simp only [Exit.inBlock, Exit.then])
  have HR := Lib.hid ((((HX2.out.s1_2 (.slice A2 qual.length c2)).s1_3 (.int .i64 (t : Int))).fill7 rfl (.slice A1 row.length c1) (.int .i64 (f.toNat : Int)) (.slice A2 qual.length c2) (.int .i64 (t : Int)) (.int .i64 0) (.int .i64 0) (.slice none 0 0)))
  refine bodyPost_ret (results_box1 rfl _ _ w.heap.size _ rfl (HR.out.box.cells0 rfl) (by kernel_rfl) (by kernel_rfl)) rfl ?_
  exact ⟨⟨_, _, _, _, _, _, _, _, _, _, rfl⟩, HR.out.box.up⟩
set_option maxRecDepth 100000 in
set_option maxHeartbeats 2000000 in
theorem pa_P_f4a (b : List UInt8) (A : Option Addr) (n c : Nat) (w : World) (row : List UInt8) (p1 : Nat) (f g : UInt8) (qual : List UInt8) (p2 : Nat) (t p3 : Nat) (s p4 er : Nat) (hs : Sl w A n c b) (hn : n ≤ 140737488355000) (h0 : readO b 0 = (row, p1, 0)) (hlen : p1 + 2 ≤ n) (hf : b[p1]? = some f) (hg : b[p1 + 1]? = some g) (hg0 : g.toNat ≠ 0) (h2 : readO b ((p1 + 2 : Nat) : Int) = (qual, p2, 0)) (hlen2 : p2 < n) (h3 : readFl b (((p2 + 1) : Nat) : Int) = (t, p3, 0)) (h4 : readFl b (p3 : Int) = (s, p4, er)) (he : er ≠ 0) :
    Calls Tryz.prog 82 #[.slice A n c] w (NoPost w) := by
  have HS : Hid (∀ x, Below w.heap.size w x → Sl x A n c b) := Lib.hid fun x h => hs.later h
  have HX0 := Lib.hid (Bt.of (T := 5) (Bxs.two w 46 #[.slice none 0 0, .int .i64 0, .slice none 0 0, .int .i64 0, .int .i64 0, .int .i64 0, .slice none 0 0] #[.slice none 0 0, .int .i64 0, .slice none 0 0, .int .i64 0, .int .i64 0, .int .i64 0, .slice none 0 0]))
  have H0 := Lib.hid h0
  obtain ⟨bb, oo, _, rfl, hbb, _, _⟩ := hs.rb.at_ (k := p1) (by omega)
  have HC : Hid (∀ (j : Nat) (u : UInt8) x, b[j]? = some u → Below w.heap.size w x → x.cell? ⟨bb, oo + j, none⟩ = some (.int .u8 (u.toNat : Int))) := Lib.hid fun j u x hu hx => (hs.rb.later hx).cell hu
  have hbb0 : ¬ bb = w.heap.size := by omega
  have hbb1 : ¬ bb = w.heap.size + 1 := by omega
  have HF := Lib.hid hf
  have HG := Lib.hid hg
  have hgd : ((g.toNat : Int) != 0) = true := by rw [bne_iff_ne]; omega
  have H2 := Lib.hid h2
  have H3 := Lib.hid h3
  have H4 := Lib.hid h4
  have hd : ((er : Int) != 0) = true := by rw [bne_iff_ne]; omega
  have q1 : (p1 : Int) < (n : Int) := by omega
  have q2 : (p1 : Int) + 1 < (n : Int) := by omega
  have q3 : decide ((n : Int) < (p1 : Int) + 2) = false := decide_eq_false (by omega)
  have q4 : (p2 : Int) < (n : Int) := by omega
  have tO1 : True := trivial
  have tO2 : True := trivial
  have tF1 : True := trivial
  clear hs h0 hf hg hg0 h2 h3 h4 he
  go_enter Tryz.func82, Tryz.ntmps82
  go_wp2_with (go_at_call 93; have _t := tO1; go_must (refine (ro_any b (some ⟨bb, oo, none⟩) n c 0 _ (HS.out _ HX0.out.box.up) hn).mono ?_); rw [H0.out]; rintro e x1 hp; obtain ⟨A1, c1, rfl, _, hO1, hb1⟩ := hp.at_ (n := row.length) rfl rfl rfl; have HX1 := Lib.hid (HX0.out.fresh hb1 hO1); clear hb1 hp hO1 tO1; have z0 := HX1.out.box.c0 (i := 0) (v := .slice none 0 0) rfl rfl; have y0 := HX1.out.box.c1 (i := 0) (v := .slice none 0 0) rfl rfl; have z1 := HX1.out.box.c0 (i := 1) (v := .int .i64 0) rfl rfl; have y1 := HX1.out.box.c1 (i := 1) (v := .int .i64 0) rfl rfl; have z2 := HX1.out.box.c0 (i := 2) (v := .slice none 0 0) rfl rfl; have y2 := HX1.out.box.c1 (i := 2) (v := .slice none 0 0) rfl rfl; have z3 := HX1.out.box.c0 (i := 3) (v := .int .i64 0) rfl rfl; have y3 := HX1.out.box.c1 (i := 3) (v := .int .i64 0) rfl rfl; have z4 := HX1.out.box.c0 (i := 4) (v := .int .i64 0) rfl rfl; have y4 := HX1.out.box.c1 (i := 4) (v := .int .i64 0) rfl rfl; have z5 := HX1.out.box.c0 (i := 5) (v := .int .i64 0) rfl rfl; have y5 := HX1.out.box.c1 (i := 5) (v := .int .i64 0) rfl rfl; have z6 := HX1.out.box.c0 (i := 6) (v := .slice none 0 0) rfl rfl; have y6 := HX1.out.box.c1 (i := 6) (v := .slice none 0 0) rfl rfl; have fz := HX1.out.box.f0 rfl; have fy := HX1.out.box.f1 rfl; have g1 := HC.out p1 f _ HF.out HX1.out.box.up; have g2 := HC.out (p1 + 1) g _ HG.out HX1.out.box.up)
  go_region
  rw [show wrap64 ((f.toNat : Nat) : Int) = (f.toNat : Int) from wrap64_id (by omega) (by have := f.toNat_lt; omega)]
  go_wp2_with (first
    | (go_at_call 93; have _t := tO2; go_must (refine (ro_any b (some ⟨bb, oo, none⟩) n c _ _ (HS.out _ ((HX1.out.s1_0 (.slice A1 row.length c1)).s1_1 (.int .i64 (f.toNat : Int))).drew.box.up) hn).mono ?_); rw [show ((p1 : Int) + 2) = ((p1 + 2 : Nat) : Int) from by omega, H2.out]; rintro e x2 hp; obtain ⟨A2, c2, rfl, _, hO2, hb2⟩ := hp.at_ (n := qual.length) rfl rfl rfl; have HX2 := Lib.hid (((HX1.out.s1_0 (.slice A1 row.length c1)).s1_1 (.int .i64 (f.toNat : Int))).drew.fresh hb2 hO2); clear hb2 hp hO2 tO2 g1 g2; clear z0 y0 z1 y1 z2 y2 z3 y3 z4 y4 z5 y5 z6 y6 fz fy; have z0 := HX2.out.box.c0 (i := 0) (v := .slice none 0 0) rfl rfl; have y0 := HX2.out.box.c1 (i := 0) (v := .slice A1 row.length c1) rfl rfl; have z1 := HX2.out.box.c0 (i := 1) (v := .int .i64 0) rfl rfl; have y1 := HX2.out.box.c1 (i := 1) (v := .int .i64 (f.toNat : Int)) rfl rfl; have z2 := HX2.out.box.c0 (i := 2) (v := .slice none 0 0) rfl rfl; have y2 := HX2.out.box.c1 (i := 2) (v := .slice none 0 0) rfl rfl; have z3 := HX2.out.box.c0 (i := 3) (v := .int .i64 0) rfl rfl; have y3 := HX2.out.box.c1 (i := 3) (v := .int .i64 0) rfl rfl; have z4 := HX2.out.box.c0 (i := 4) (v := .int .i64 0) rfl rfl; have y4 := HX2.out.box.c1 (i := 4) (v := .int .i64 0) rfl rfl; have z5 := HX2.out.box.c0 (i := 5) (v := .int .i64 0) rfl rfl; have y5 := HX2.out.box.c1 (i := 5) (v := .int .i64 0) rfl rfl; have z6 := HX2.out.box.c0 (i := 6) (v := .slice none 0 0) rfl rfl; have y6 := HX2.out.box.c1 (i := 6) (v := .slice none 0 0) rfl rfl; have fz := HX2.out.box.f0 rfl; have fy := HX2.out.box.f1 rfl)
    | (go_at_call 94; have _t := tF1; go_must (refine (rfl_any b (some ⟨bb, oo, none⟩) n c _ _ (HS.out _ (HX2.out.s1_2 (.slice A2 qual.length c2)).box.up) hn).mono ?_); rw [show ((p2 : Int) + 1) = ((p2 + 1 : Nat) : Int) from by omega, H3.out]; rintro e x3 ⟨rfl, rfl⟩; clear tF1)
    | (go_at_call 94; go_must (refine (rfl_any b (some ⟨bb, oo, none⟩) n c _ _ (HS.out _ ((HX2.out.s1_2 (.slice A2 qual.length c2)).s1_3 (.int .i64 (t : Int))).box.up) hn).mono ?_); rw [H4.out]; rintro e x4 ⟨rfl, rfl⟩))
  (try simp only [Exit.inBlock, Exit.then])
  have HR := Lib.hid (((((HX2.out.s1_2 (.slice A2 qual.length c2)).s1_3 (.int .i64 (t : Int))).s1_4 (.int .i64 (s : Int))).fill7 rfl (.slice A1 row.length c1) (.int .i64 (f.toNat : Int)) (.slice A2 qual.length c2) (.int .i64 (t : Int)) (.int .i64 (s : Int)) (.int .i64 0) (.slice none 0 0)))
  refine bodyPost_ret (results_box1 rfl _ _ w.heap.size _ rfl (HR.out.box.cells0 rfl) (by kernel_rfl) (by kernel_rfl)) rfl ?_
  exact ⟨⟨_, _, _, _, _, _, _, _, _, _, rfl⟩, HR.out.box.up⟩
set_option maxRecDepth 100000 in
set_option maxHeartbeats 2000000 in
theorem pa_P_f4b (b : List UInt8) (A : Option Addr) (n c : Nat) (w : World) (row : List UInt8) (p1 : Nat) (f g : UInt8) (qual : List UInt8) (p2 : Nat) (t p3 : Nat) (s p4 : Nat) (hs : Sl w A n c b) (hn : n ≤ 140737488355000) (h0 : readO b 0 = (row, p1, 0)) (hlen : p1 + 2 ≤ n) (hf : b[p1]? = some f) (hg : b[p1 + 1]? = some g) (hg0 : g.toNat ≠ 0) (h2 : readO b ((p1 + 2 : Nat) : Int) = (qual, p2, 0)) (hlen2 : p2 < n) (h3 : readFl b (((p2 + 1) : Nat) : Int) = (t, p3, 0)) (h4 : readFl b (p3 : Int) = (s, p4, 0)) (hsh : n ≤ p4) :
    Calls Tryz.prog 82 #[.slice A n c] w (NoPost w) := by
  have HS : Hid (∀ x, Below w.heap.size w x → Sl x A n c b) := Lib.hid fun x h => hs.later h
  have HX0 := Lib.hid (Bt.of (T := 5) (Bxs.two w 46 #[.slice none 0 0, .int .i64 0, .slice none 0 0, .int .i64 0, .int .i64 0, .int .i64 0, .slice none 0 0] #[.slice none 0 0, .int .i64 0, .slice none 0 0, .int .i64 0, .int .i64 0, .int .i64 0, .slice none 0 0]))
  have H0 := Lib.hid h0
  obtain ⟨bb, oo, _, rfl, hbb, _, _⟩ := hs.rb.at_ (k := p1) (by omega)
  have HC : Hid (∀ (j : Nat) (u : UInt8) x, b[j]? = some u → Below w.heap.size w x → x.cell? ⟨bb, oo + j, none⟩ = some (.int .u8 (u.toNat : Int))) := Lib.hid fun j u x hu hx => (hs.rb.later hx).cell hu
  have hbb0 : ¬ bb = w.heap.size := by omega
  have hbb1 : ¬ bb = w.heap.size + 1 := by omega
  have HF := Lib.hid hf
  have HG := Lib.hid hg
  have hgd : ((g.toNat : Int) != 0) = true := by rw [bne_iff_ne]; omega
  have H2 := Lib.hid h2
  have H3 := Lib.hid h3
  have H4 := Lib.hid h4
  have q1 : (p1 : Int) < (n : Int) := by omega
  have q2 : (p1 : Int) + 1 < (n : Int) := by omega
  have q3 : decide ((n : Int) < (p1 : Int) + 2) = false := decide_eq_false (by omega)
  have q4 : (p2 : Int) < (n : Int) := by omega
  have tO1 : True := trivial
  have tO2 : True := trivial
  have tF1 : True := trivial
  clear hs h0 hf hg hg0 h2 h3 h4
  go_enter Tryz.func82, Tryz.ntmps82
  go_wp2_with (go_at_call 93; have _t := tO1; go_must (refine (ro_any b (some ⟨bb, oo, none⟩) n c 0 _ (HS.out _ HX0.out.box.up) hn).mono ?_); rw [H0.out]; rintro e x1 hp; obtain ⟨A1, c1, rfl, _, hO1, hb1⟩ := hp.at_ (n := row.length) rfl rfl rfl; have HX1 := Lib.hid (HX0.out.fresh hb1 hO1); clear hb1 hp hO1 tO1; have z0 := HX1.out.box.c0 (i := 0) (v := .slice none 0 0) rfl rfl; have y0 := HX1.out.box.c1 (i := 0) (v := .slice none 0 0) rfl rfl; have z1 := HX1.out.box.c0 (i := 1) (v := .int .i64 0) rfl rfl; have y1 := HX1.out.box.c1 (i := 1) (v := .int .i64 0) rfl rfl; have z2 := HX1.out.box.c0 (i := 2) (v := .slice none 0 0) rfl rfl; have y2 := HX1.out.box.c1 (i := 2) (v := .slice none 0 0) rfl rfl; have z3 := HX1.out.box.c0 (i := 3) (v := .int .i64 0) rfl rfl; have y3 := HX1.out.box.c1 (i := 3) (v := .int .i64 0) rfl rfl; have z4 := HX1.out.box.c0 (i := 4) (v := .int .i64 0) rfl rfl; have y4 := HX1.out.box.c1 (i := 4) (v := .int .i64 0) rfl rfl; have z5 := HX1.out.box.c0 (i := 5) (v := .int .i64 0) rfl rfl; have y5 := HX1.out.box.c1 (i := 5) (v := .int .i64 0) rfl rfl; have z6 := HX1.out.box.c0 (i := 6) (v := .slice none 0 0) rfl rfl; have y6 := HX1.out.box.c1 (i := 6) (v := .slice none 0 0) rfl rfl; have fz := HX1.out.box.f0 rfl; have fy := HX1.out.box.f1 rfl; have g1 := HC.out p1 f _ HF.out HX1.out.box.up; have g2 := HC.out (p1 + 1) g _ HG.out HX1.out.box.up)
  go_region
  rw [show wrap64 ((f.toNat : Nat) : Int) = (f.toNat : Int) from wrap64_id (by omega) (by have := f.toNat_lt; omega)]
  go_wp2_with (first
    | (go_at_call 93; have _t := tO2; go_must (refine (ro_any b (some ⟨bb, oo, none⟩) n c _ _ (HS.out _ ((HX1.out.s1_0 (.slice A1 row.length c1)).s1_1 (.int .i64 (f.toNat : Int))).drew.box.up) hn).mono ?_); rw [show ((p1 : Int) + 2) = ((p1 + 2 : Nat) : Int) from by omega, H2.out]; rintro e x2 hp; obtain ⟨A2, c2, rfl, _, hO2, hb2⟩ := hp.at_ (n := qual.length) rfl rfl rfl; have HX2 := Lib.hid (((HX1.out.s1_0 (.slice A1 row.length c1)).s1_1 (.int .i64 (f.toNat : Int))).drew.fresh hb2 hO2); clear hb2 hp hO2 tO2 g1 g2; clear z0 y0 z1 y1 z2 y2 z3 y3 z4 y4 z5 y5 z6 y6 fz fy; have z0 := HX2.out.box.c0 (i := 0) (v := .slice none 0 0) rfl rfl; have y0 := HX2.out.box.c1 (i := 0) (v := .slice A1 row.length c1) rfl rfl; have z1 := HX2.out.box.c0 (i := 1) (v := .int .i64 0) rfl rfl; have y1 := HX2.out.box.c1 (i := 1) (v := .int .i64 (f.toNat : Int)) rfl rfl; have z2 := HX2.out.box.c0 (i := 2) (v := .slice none 0 0) rfl rfl; have y2 := HX2.out.box.c1 (i := 2) (v := .slice none 0 0) rfl rfl; have z3 := HX2.out.box.c0 (i := 3) (v := .int .i64 0) rfl rfl; have y3 := HX2.out.box.c1 (i := 3) (v := .int .i64 0) rfl rfl; have z4 := HX2.out.box.c0 (i := 4) (v := .int .i64 0) rfl rfl; have y4 := HX2.out.box.c1 (i := 4) (v := .int .i64 0) rfl rfl; have z5 := HX2.out.box.c0 (i := 5) (v := .int .i64 0) rfl rfl; have y5 := HX2.out.box.c1 (i := 5) (v := .int .i64 0) rfl rfl; have z6 := HX2.out.box.c0 (i := 6) (v := .slice none 0 0) rfl rfl; have y6 := HX2.out.box.c1 (i := 6) (v := .slice none 0 0) rfl rfl; have fz := HX2.out.box.f0 rfl; have fy := HX2.out.box.f1 rfl)
    | (go_at_call 94; have _t := tF1; go_must (refine (rfl_any b (some ⟨bb, oo, none⟩) n c _ _ (HS.out _ (HX2.out.s1_2 (.slice A2 qual.length c2)).box.up) hn).mono ?_); rw [show ((p2 : Int) + 1) = ((p2 + 1 : Nat) : Int) from by omega, H3.out]; rintro e x3 ⟨rfl, rfl⟩; clear tF1)
    | (go_at_call 94; go_must (refine (rfl_any b (some ⟨bb, oo, none⟩) n c _ _ (HS.out _ ((HX2.out.s1_2 (.slice A2 qual.length c2)).s1_3 (.int .i64 (t : Int))).box.up) hn).mono ?_); rw [H4.out]; rintro e x4 ⟨rfl, rfl⟩))
  (try simp only [Exit.inBlock, Exit.then])
  have HR := Lib.hid (((((HX2.out.s1_2 (.slice A2 qual.length c2)).s1_3 (.int .i64 (t : Int))).s1_4 (.int .i64 (s : Int))).fill7 rfl (.slice A1 row.length c1) (.int .i64 (f.toNat : Int)) (.slice A2 qual.length c2) (.int .i64 (t : Int)) (.int .i64 (s : Int)) (.int .i64 0) (.slice none 0 0)))
  refine bodyPost_ret (results_box1 rfl _ _ w.heap.size _ rfl (HR.out.box.cells0 rfl) (by kernel_rfl) (by kernel_rfl)) rfl ?_
  exact ⟨⟨_, _, _, _, _, _, _, _, _, _, rfl⟩, HR.out.box.up⟩
set_option maxRecDepth 100000 in
set_option maxHeartbeats 2000000 in
theorem pa_P_ok (b : List UInt8) (A : Option Addr) (n c : Nat) (w : World) (row : List UInt8) (p1 : Nat) (f g : UInt8) (qual : List UInt8) (p2 : Nat) (t p3 : Nat) (s p4 : Nat) (k : UInt8) (hs : Sl w A n c b) (hn : n ≤ 140737488355000) (h0 : readO b 0 = (row, p1, 0)) (hlen : p1 + 2 ≤ n) (hf : b[p1]? = some f) (hg : b[p1 + 1]? = some g) (hg0 : g.toNat ≠ 0) (h2 : readO b ((p1 + 2 : Nat) : Int) = (qual, p2, 0)) (hlen2 : p2 < n) (h3 : readFl b (((p2 + 1) : Nat) : Int) = (t, p3, 0)) (h4 : readFl b (p3 : Int) = (s, p4, 0)) (hlen4 : p4 < n) (hk : b[p4]? = some k) :
    Calls Tryz.prog 82 #[.slice A n c] w (EntPost (fun v => .tuple #[v, .bool true]) ⟨row, (f.toNat : Int), qual, (t : Int), (s : Int), (k.toNat : Int), []⟩ w) := by
  have HS : Hid (∀ x, Below w.heap.size w x → Sl x A n c b) := Lib.hid fun x h => hs.later h
  have HX0 := Lib.hid (Bt.of (T := 5) (Bxs.two w 46 #[.slice none 0 0, .int .i64 0, .slice none 0 0, .int .i64 0, .int .i64 0, .int .i64 0, .slice none 0 0] #[.slice none 0 0, .int .i64 0, .slice none 0 0, .int .i64 0, .int .i64 0, .int .i64 0, .slice none 0 0]))
  have H0 := Lib.hid h0
  obtain ⟨bb, oo, _, rfl, hbb, _, _⟩ := hs.rb.at_ (k := p1) (by omega)
  have HC : Hid (∀ (j : Nat) (u : UInt8) x, b[j]? = some u → Below w.heap.size w x → x.cell? ⟨bb, oo + j, none⟩ = some (.int .u8 (u.toNat : Int))) := Lib.hid fun j u x hu hx => (hs.rb.later hx).cell hu
  have hbb0 : ¬ bb = w.heap.size := by omega
  have hbb1 : ¬ bb = w.heap.size + 1 := by omega
  have HF := Lib.hid hf
  have HG := Lib.hid hg
  have hgd : ((g.toNat : Int) != 0) = true := by rw [bne_iff_ne]; omega
  have H2 := Lib.hid h2
  have H3 := Lib.hid h3
  have H4 := Lib.hid h4
  have HK := Lib.hid hk
  have q1 : (p1 : Int) < (n : Int) := by omega
  have q2 : (p1 : Int) + 1 < (n : Int) := by omega
  have q3 : decide ((n : Int) < (p1 : Int) + 2) = false := decide_eq_false (by omega)
  have q4 : (p2 : Int) < (n : Int) := by omega
  have q5 : (p4 : Int) < (n : Int) := by omega
  have q6 : wrap64 ((k.toNat : Nat) : Int) = (k.toNat : Int) := wrap64_id (by omega) (by have := k.toNat_lt; omega)
  have q7 : IntKind.i64.wrap ((k.toNat : Nat) : Int) = (k.toNat : Int) := i64_sum (by omega) (by have := k.toNat_lt; omega)
  have tO1 : True := trivial
  have tO2 : True := trivial
  have tF1 : True := trivial
  clear hs h0 hf hg hg0 h2 h3 h4 hk
  go_enter Tryz.func82, Tryz.ntmps82
  go_wp2_with (go_at_call 93; have _t := tO1; go_must (refine (ro_any b (some ⟨bb, oo, none⟩) n c 0 _ (HS.out _ HX0.out.box.up) hn).mono ?_); rw [H0.out]; rintro e x1 hp; obtain ⟨A1, c1, rfl, _, hO1, hb1⟩ := hp.at_ (n := row.length) rfl rfl rfl; have HX1 := Lib.hid (HX0.out.fresh hb1 hO1); clear hb1 hp hO1 tO1; have z0 := HX1.out.box.c0 (i := 0) (v := .slice none 0 0) rfl rfl; have y0 := HX1.out.box.c1 (i := 0) (v := .slice none 0 0) rfl rfl; have z1 := HX1.out.box.c0 (i := 1) (v := .int .i64 0) rfl rfl; have y1 := HX1.out.box.c1 (i := 1) (v := .int .i64 0) rfl rfl; have z2 := HX1.out.box.c0 (i := 2) (v := .slice none 0 0) rfl rfl; have y2 := HX1.out.box.c1 (i := 2) (v := .slice none 0 0) rfl rfl; have z3 := HX1.out.box.c0 (i := 3) (v := .int .i64 0) rfl rfl; have y3 := HX1.out.box.c1 (i := 3) (v := .int .i64 0) rfl rfl; have z4 := HX1.out.box.c0 (i := 4) (v := .int .i64 0) rfl rfl; have y4 := HX1.out.box.c1 (i := 4) (v := .int .i64 0) rfl rfl; have z5 := HX1.out.box.c0 (i := 5) (v := .int .i64 0) rfl rfl; have y5 := HX1.out.box.c1 (i := 5) (v := .int .i64 0) rfl rfl; have z6 := HX1.out.box.c0 (i := 6) (v := .slice none 0 0) rfl rfl; have y6 := HX1.out.box.c1 (i := 6) (v := .slice none 0 0) rfl rfl; have fz := HX1.out.box.f0 rfl; have fy := HX1.out.box.f1 rfl; have g1 := HC.out p1 f _ HF.out HX1.out.box.up; have g2 := HC.out (p1 + 1) g _ HG.out HX1.out.box.up; have g3 := HC.out p4 k _ HK.out HX1.out.box.up)
  go_region
  rw [show wrap64 ((f.toNat : Nat) : Int) = (f.toNat : Int) from wrap64_id (by omega) (by have := f.toNat_lt; omega)]
  go_wp2_with (first
    | (go_at_call 93; have _t := tO2; go_must (refine (ro_any b (some ⟨bb, oo, none⟩) n c _ _ (HS.out _ ((HX1.out.s1_0 (.slice A1 row.length c1)).s1_1 (.int .i64 (f.toNat : Int))).drew.box.up) hn).mono ?_); rw [show ((p1 : Int) + 2) = ((p1 + 2 : Nat) : Int) from by omega, H2.out]; rintro e x2 hp; obtain ⟨A2, c2, rfl, _, hO2, hb2⟩ := hp.at_ (n := qual.length) rfl rfl rfl; have HX2 := Lib.hid (((HX1.out.s1_0 (.slice A1 row.length c1)).s1_1 (.int .i64 (f.toNat : Int))).drew.fresh hb2 hO2); clear hb2 hp hO2 tO2 g1 g2 g3; clear z0 y0 z1 y1 z2 y2 z3 y3 z4 y4 z5 y5 z6 y6 fz fy; have z0 := HX2.out.box.c0 (i := 0) (v := .slice none 0 0) rfl rfl; have y0 := HX2.out.box.c1 (i := 0) (v := .slice A1 row.length c1) rfl rfl; have z1 := HX2.out.box.c0 (i := 1) (v := .int .i64 0) rfl rfl; have y1 := HX2.out.box.c1 (i := 1) (v := .int .i64 (f.toNat : Int)) rfl rfl; have z2 := HX2.out.box.c0 (i := 2) (v := .slice none 0 0) rfl rfl; have y2 := HX2.out.box.c1 (i := 2) (v := .slice none 0 0) rfl rfl; have z3 := HX2.out.box.c0 (i := 3) (v := .int .i64 0) rfl rfl; have y3 := HX2.out.box.c1 (i := 3) (v := .int .i64 0) rfl rfl; have z4 := HX2.out.box.c0 (i := 4) (v := .int .i64 0) rfl rfl; have y4 := HX2.out.box.c1 (i := 4) (v := .int .i64 0) rfl rfl; have z5 := HX2.out.box.c0 (i := 5) (v := .int .i64 0) rfl rfl; have y5 := HX2.out.box.c1 (i := 5) (v := .int .i64 0) rfl rfl; have z6 := HX2.out.box.c0 (i := 6) (v := .slice none 0 0) rfl rfl; have y6 := HX2.out.box.c1 (i := 6) (v := .slice none 0 0) rfl rfl; have fz := HX2.out.box.f0 rfl; have fy := HX2.out.box.f1 rfl; have g3 := HC.out p4 k _ HK.out HX2.out.box.up)
    | (go_at_call 94; have _t := tF1; go_must (refine (rfl_any b (some ⟨bb, oo, none⟩) n c _ _ (HS.out _ (HX2.out.s1_2 (.slice A2 qual.length c2)).box.up) hn).mono ?_); rw [show ((p2 : Int) + 1) = ((p2 + 1 : Nat) : Int) from by omega, H3.out]; rintro e x3 ⟨rfl, rfl⟩; clear tF1)
    | (go_at_call 94; go_must (refine (rfl_any b (some ⟨bb, oo, none⟩) n c _ _ (HS.out _ ((HX2.out.s1_2 (.slice A2 qual.length c2)).s1_3 (.int .i64 (t : Int))).box.up) hn).mono ?_); rw [H4.out]; rintro e x4 ⟨rfl, rfl⟩))
  (try simp only [Exit.inBlock, Exit.then])
  have HR := Lib.hid ((((((HX2.out.s1_2 (.slice A2 qual.length c2)).s1_3 (.int .i64 (t : Int))).s1_4 (.int .i64 (s : Int))).s1_5 (.int .i64 (k.toNat : Int))).fill7 rfl (.slice A1 row.length c1) (.int .i64 (f.toNat : Int)) (.slice A2 qual.length c2) (.int .i64 (t : Int)) (.int .i64 (s : Int)) (.int .i64 (k.toNat : Int)) (.slice none 0 0)))
  refine bodyPost_ret (results_box1 rfl _ _ w.heap.size _ rfl (HR.out.box.cells0 rfl) (by kernel_rfl) (by kernel_rfl)) rfl ?_
  exact ent_post (mk := fun v => .tuple #[v, .bool true]) (rows_low HR.out.rows (Nat.le_add_right _ _)) HR.out.box.up
set_option maxRecDepth 100000 in
set_option maxHeartbeats 2000000 in
theorem pa_N_f3 (b : List UInt8) (A : Option Addr) (n c : Nat) (w : World) (row : List UInt8) (p1 : Nat) (f g : UInt8) (t p3 er : Nat) (hs : Sl w A n c b) (hn : n ≤ 140737488355000) (h0 : readO b 0 = (row, p1, 0)) (hlen : p1 + 2 ≤ n) (hf : b[p1]? = some f) (hg : b[p1 + 1]? = some g) (hg0 : g.toNat = 0) (h3 : readFl b (((p1 + 2) : Nat) : Int) = (t, p3, er)) (he : er ≠ 0) :
    Calls Tryz.prog 82 #[.slice A n c] w (NoPost w) := by
  have HS : Hid (∀ x, Below w.heap.size w x → Sl x A n c b) := Lib.hid fun x h => hs.later h
  have HX0 := Lib.hid (Bt.of (T := 5) (Bxs.two w 46 #[.slice none 0 0, .int .i64 0, .slice none 0 0, .int .i64 0, .int .i64 0, .int .i64 0, .slice none 0 0] #[.slice none 0 0, .int .i64 0, .slice none 0 0, .int .i64 0, .int .i64 0, .int .i64 0, .slice none 0 0]))
  have H0 := Lib.hid h0
  obtain ⟨bb, oo, _, rfl, hbb, _, _⟩ := hs.rb.at_ (k := p1) (by omega)
  have HC : Hid (∀ (j : Nat) (u : UInt8) x, b[j]? = some u → Below w.heap.size w x → x.cell? ⟨bb, oo + j, none⟩ = some (.int .u8 (u.toNat : Int))) := Lib.hid fun j u x hu hx => (hs.rb.later hx).cell hu
  have hbb0 : ¬ bb = w.heap.size := by omega
  have hbb1 : ¬ bb = w.heap.size + 1 := by omega
  have HF := Lib.hid hf
  have HG := Lib.hid hg
  have hgd : ((g.toNat : Int) != 0) = false := by rw [hg0]; rfl
  have H3 := Lib.hid h3
  have hd : ((er : Int) != 0) = true := by rw [bne_iff_ne]; omega
  have q1 : (p1 : Int) < (n : Int) := by omega
  have q2 : (p1 : Int) + 1 < (n : Int) := by omega
  have q3 : decide ((n : Int) < (p1 : Int) + 2) = false := decide_eq_false (by omega)
  have tO1 : True := trivial
  have tF1 : True := trivial
  clear hs h0 hf hg hg0 h3 he
  go_enter Tryz.func82, Tryz.ntmps82
  go_wp2_with (go_at_call 93; have _t := tO1; go_must (refine (ro_any b (some ⟨bb, oo, none⟩) n c 0 _ (HS.out _ HX0.out.box.up) hn).mono ?_); rw [H0.out]; rintro e x1 hp; obtain ⟨A1, c1, rfl, _, hO1, hb1⟩ := hp.at_ (n := row.length) rfl rfl rfl; have HX1 := Lib.hid (HX0.out.fresh hb1 hO1); clear hb1 hp hO1 tO1; have z0 := HX1.out.box.c0 (i := 0) (v := .slice none 0 0) rfl rfl; have y0 := HX1.out.box.c1 (i := 0) (v := .slice none 0 0) rfl rfl; have z1 := HX1.out.box.c0 (i := 1) (v := .int .i64 0) rfl rfl; have y1 := HX1.out.box.c1 (i := 1) (v := .int .i64 0) rfl rfl; have z2 := HX1.out.box.c0 (i := 2) (v := .slice none 0 0) rfl rfl; have y2 := HX1.out.box.c1 (i := 2) (v := .slice none 0 0) rfl rfl; have z3 := HX1.out.box.c0 (i := 3) (v := .int .i64 0) rfl rfl; have y3 := HX1.out.box.c1 (i := 3) (v := .int .i64 0) rfl rfl; have z4 := HX1.out.box.c0 (i := 4) (v := .int .i64 0) rfl rfl; have y4 := HX1.out.box.c1 (i := 4) (v := .int .i64 0) rfl rfl; have z5 := HX1.out.box.c0 (i := 5) (v := .int .i64 0) rfl rfl; have y5 := HX1.out.box.c1 (i := 5) (v := .int .i64 0) rfl rfl; have z6 := HX1.out.box.c0 (i := 6) (v := .slice none 0 0) rfl rfl; have y6 := HX1.out.box.c1 (i := 6) (v := .slice none 0 0) rfl rfl; have fz := HX1.out.box.f0 rfl; have fy := HX1.out.box.f1 rfl; have g1 := HC.out p1 f _ HF.out HX1.out.box.up; have g2 := HC.out (p1 + 1) g _ HG.out HX1.out.box.up)
  go_region
  rw [show wrap64 ((f.toNat : Nat) : Int) = (f.toNat : Int) from wrap64_id (by omega) (by have := f.toNat_lt; omega)]
  go_wp2_with (first
    | (go_at_call 94; have _t := tF1; go_must (refine (rfl_any b (some ⟨bb, oo, none⟩) n c _ _ (HS.out _ ((HX1.out.s1_0 (.slice A1 row.length c1)).s1_1 (.int .i64 (f.toNat : Int))).drew.box.up) hn).mono ?_); rw [show ((p1 : Int) + 2) = ((p1 + 2 : Nat) : Int) from by omega, H3.out]; rintro e x3 ⟨rfl, rfl⟩; clear tF1))
  (try simp only [Exit.inBlock, Exit.then])
  have HR := Lib.hid (((((HX1.out.s1_0 (.slice A1 row.length c1)).s1_1 (.int .i64 (f.toNat : Int))).s1_3 (.int .i64 (t : Int))).fill7 rfl (.slice A1 row.length c1) (.int .i64 (f.toNat : Int)) (.slice none 0 0) (.int .i64 (t : Int)) (.int .i64 0) (.int .i64 0) (.slice none 0 0)).drew)
  refine bodyPost_ret (results_box1 rfl _ _ w.heap.size _ rfl (HR.out.box.cells0 rfl) (by kernel_rfl) (by kernel_rfl)) rfl ?_
  exact ⟨⟨_, _, _, _, _, _, _, _, _, _, rfl⟩, HR.out.box.up⟩
set_option maxRecDepth 100000 in
set_option maxHeartbeats 2000000 in
theorem pa_N_f4a (b : List UInt8) (A : Option Addr) (n c : Nat) (w : World) (row : List UInt8) (p1 : Nat) (f g : UInt8) (t p3 : Nat) (s p4 er : Nat) (hs : Sl w A n c b) (hn : n ≤ 140737488355000) (h0 : readO b 0 = (row, p1, 0)) (hlen : p1 + 2 ≤ n) (hf : b[p1]? = some f) (hg : b[p1 + 1]? = some g) (hg0 : g.toNat = 0) (h3 : readFl b (((p1 + 2) : Nat) : Int) = (t, p3, 0)) (h4 : readFl b (p3 : Int) = (s, p4, er)) (he : er ≠ 0) :
    Calls Tryz.prog 82 #[.slice A n c] w (NoPost w) := by
  have HS : Hid (∀ x, Below w.heap.size w x → Sl x A n c b) := Lib.hid fun x h => hs.later h
  have HX0 := Lib.hid (Bt.of (T := 5) (Bxs.two w 46 #[.slice none 0 0, .int .i64 0, .slice none 0 0, .int .i64 0, .int .i64 0, .int .i64 0, .slice none 0 0] #[.slice none 0 0, .int .i64 0, .slice none 0 0, .int .i64 0, .int .i64 0, .int .i64 0, .slice none 0 0]))
  have H0 := Lib.hid h0
  obtain ⟨bb, oo, _, rfl, hbb, _, _⟩ := hs.rb.at_ (k := p1) (by omega)
  have HC : Hid (∀ (j : Nat) (u : UInt8) x, b[j]? = some u → Below w.heap.size w x → x.cell? ⟨bb, oo + j, none⟩ = some (.int .u8 (u.toNat : Int))) := Lib.hid fun j u x hu hx => (hs.rb.later hx).cell hu
  have hbb0 : ¬ bb = w.heap.size := by omega
  have hbb1 : ¬ bb = w.heap.size + 1 := by omega
  have HF := Lib.hid hf
  have HG := Lib.hid hg
  have hgd : ((g.toNat : Int) != 0) = false := by rw [hg0]; rfl
  have H3 := Lib.hid h3
  have H4 := Lib.hid h4
  have hd : ((er : Int) != 0) = true := by rw [bne_iff_ne]; omega
  have q1 : (p1 : Int) < (n : Int) := by omega
  have q2 : (p1 : Int) + 1 < (n : Int) := by omega
  have q3 : decide ((n : Int) < (p1 : Int) + 2) = false := decide_eq_false (by omega)
  have tO1 : True := trivial
  have tF1 : True := trivial
  clear hs h0 hf hg hg0 h3 h4 he
  go_enter Tryz.func82, Tryz.ntmps82
  go_wp2_with (go_at_call 93; have _t := tO1; go_must (refine (ro_any b (some ⟨bb, oo, none⟩) n c 0 _ (HS.out _ HX0.out.box.up) hn).mono ?_); rw [H0.out]; rintro e x1 hp; obtain ⟨A1, c1, rfl, _, hO1, hb1⟩ := hp.at_ (n := row.length) rfl rfl rfl; have HX1 := Lib.hid (HX0.out.fresh hb1 hO1); clear hb1 hp hO1 tO1; have z0 := HX1.out.box.c0 (i := 0) (v := .slice none 0 0) rfl rfl; have y0 := HX1.out.box.c1 (i := 0) (v := .slice none 0 0) rfl rfl; have z1 := HX1.out.box.c0 (i := 1) (v := .int .i64 0) rfl rfl; have y1 := HX1.out.box.c1 (i := 1) (v := .int .i64 0) rfl rfl; have z2 := HX1.out.box.c0 (i := 2) (v := .slice none 0 0) rfl rfl; have y2 := HX1.out.box.c1 (i := 2) (v := .slice none 0 0) rfl rfl; have z3 := HX1.out.box.c0 (i := 3) (v := .int .i64 0) rfl rfl; have y3 := HX1.out.box.c1 (i := 3) (v := .int .i64 0) rfl rfl; have z4 := HX1.out.box.c0 (i := 4) (v := .int .i64 0) rfl rfl; have y4 := HX1.out.box.c1 (i := 4) (v := .int .i64 0) rfl rfl; have z5 := HX1.out.box.c0 (i := 5) (v := .int .i64 0) rfl rfl; have y5 := HX1.out.box.c1 (i := 5) (v := .int .i64 0) rfl rfl; have z6 := HX1.out.box.c0 (i := 6) (v := .slice none 0 0) rfl rfl; have y6 := HX1.out.box.c1 (i := 6) (v := .slice none 0 0) rfl rfl; have fz := HX1.out.box.f0 rfl; have fy := HX1.out.box.f1 rfl; have g1 := HC.out p1 f _ HF.out HX1.out.box.up; have g2 := HC.out (p1 + 1) g _ HG.out HX1.out.box.up)
  go_region
  rw [show wrap64 ((f.toNat : Nat) : Int) = (f.toNat : Int) from wrap64_id (by omega) (by have := f.toNat_lt; omega)]
  go_wp2_with (first
    | (go_at_call 94; have _t := tF1; go_must (refine (rfl_any b (some ⟨bb, oo, none⟩) n c _ _ (HS.out _ ((HX1.out.s1_0 (.slice A1 row.length c1)).s1_1 (.int .i64 (f.toNat : Int))).drew.box.up) hn).mono ?_); rw [show ((p1 : Int) + 2) = ((p1 + 2 : Nat) : Int) from by omega, H3.out]; rintro e x3 ⟨rfl, rfl⟩; clear tF1)
    | (go_at_call 94; go_must (refine (rfl_any b (some ⟨bb, oo, none⟩) n c _ _ (HS.out _ (((HX1.out.s1_0 (.slice A1 row.length c1)).s1_1 (.int .i64 (f.toNat : Int))).s1_3 (.int .i64 (t : Int))).drew.box.up) hn).mono ?_); rw [H4.out]; rintro e x4 ⟨rfl, rfl⟩))
  (try simp only [Exit.inBlock, Exit.then])
  have HR := Lib.hid ((((((HX1.out.s1_0 (.slice A1 row.length c1)).s1_1 (.int .i64 (f.toNat : Int))).s1_3 (.int .i64 (t : Int))).s1_4 (.int .i64 (s : Int))).fill7 rfl (.slice A1 row.length c1) (.int .i64 (f.toNat : Int)) (.slice none 0 0) (.int .i64 (t : Int)) (.int .i64 (s : Int)) (.int .i64 0) (.slice none 0 0)).drew)
  refine bodyPost_ret (results_box1 rfl _ _ w.heap.size _ rfl (HR.out.box.cells0 rfl) (by kernel_rfl) (by kernel_rfl)) rfl ?_
  exact ⟨⟨_, _, _, _, _, _, _, _, _, _, rfl⟩, HR.out.box.up⟩
set_option maxRecDepth 100000 in
set_option maxHeartbeats 2000000 in
theorem pa_N_f4b (b : List UInt8) (A : Option Addr) (n c : Nat) (w : World) (row : List UInt8) (p1 : Nat) (f g : UInt8) (t p3 : Nat) (s p4 : Nat) (hs : Sl w A n c b) (hn : n ≤ 140737488355000) (h0 : readO b 0 = (row, p1, 0)) (hlen : p1 + 2 ≤ n) (hf : b[p1]? = some f) (hg : b[p1 + 1]? = some g) (hg0 : g.toNat = 0) (h3 : readFl b (((p1 + 2) : Nat) : Int) = (t, p3, 0)) (h4 : readFl b (p3 : Int) = (s, p4, 0)) (hsh : n ≤ p4) :
    Calls Tryz.prog 82 #[.slice A n c] w (NoPost w) := by
  have HS : Hid (∀ x, Below w.heap.size w x → Sl x A n c b) := Lib.hid fun x h => hs.later h
  have HX0 := Lib.hid (Bt.of (T := 5) (Bxs.two w 46 #[.slice none 0 0, .int .i64 0, .slice none 0 0, .int .i64 0, .int .i64 0, .int .i64 0, .slice none 0 0] #[.slice none 0 0, .int .i64 0, .slice none 0 0, .int .i64 0, .int .i64 0, .int .i64 0, .slice none 0 0]))
  have H0 := Lib.hid h0
  obtain ⟨bb, oo, _, rfl, hbb, _, _⟩ := hs.rb.at_ (k := p1) (by omega)
  have HC : Hid (∀ (j : Nat) (u : UInt8) x, b[j]? = some u → Below w.heap.size w x → x.cell? ⟨bb, oo + j, none⟩ = some (.int .u8 (u.toNat : Int))) := Lib.hid fun j u x hu hx => (hs.rb.later hx).cell hu
  have hbb0 : ¬ bb = w.heap.size := by omega
  have hbb1 : ¬ bb = w.heap.size + 1 := by omega
  have HF := Lib.hid hf
  have HG := Lib.hid hg
  have hgd : ((g.toNat : Int) != 0) = false := by rw [hg0]; rfl
  have H3 := Lib.hid h3
  have H4 := Lib.hid h4
  have q1 : (p1 : Int) < (n : Int) := by omega
  have q2 : (p1 : Int) + 1 < (n : Int) := by omega
  have q3 : decide ((n : Int) < (p1 : Int) + 2) = false := decide_eq_false (by omega)
  have tO1 : True := trivial
  have tF1 : True := trivial
  clear hs h0 hf hg hg0 h3 h4
  go_enter Tryz.func82, Tryz.ntmps82
  go_wp2_with (go_at_call 93; have _t := tO1; go_must (refine (ro_any b (some ⟨bb, oo, none⟩) n c 0 _ (HS.out _ HX0.out.box.up) hn).mono ?_); rw [H0.out]; rintro e x1 hp; obtain ⟨A1, c1, rfl, _, hO1, hb1⟩ := hp.at_ (n := row.length) rfl rfl rfl; have HX1 := Lib.hid (HX0.out.fresh hb1 hO1); clear hb1 hp hO1 tO1; have z0 := HX1.out.box.c0 (i := 0) (v := .slice none 0 0) rfl rfl; have y0 := HX1.out.box.c1 (i := 0) (v := .slice none 0 0) rfl rfl; have z1 := HX1.out.box.c0 (i := 1) (v := .int .i64 0) rfl rfl; have y1 := HX1.out.box.c1 (i := 1) (v := .int .i64 0) rfl rfl; have z2 := HX1.out.box.c0 (i := 2) (v := .slice none 0 0) rfl rfl; have y2 := HX1.out.box.c1 (i := 2) (v := .slice none 0 0) rfl rfl; have z3 := HX1.out.box.c0 (i := 3) (v := .int .i64 0) rfl rfl; have y3 := HX1.out.box.c1 (i := 3) (v := .int .i64 0) rfl rfl; have z4 := HX1.out.box.c0 (i := 4) (v := .int .i64 0) rfl rfl; have y4 := HX1.out.box.c1 (i := 4) (v := .int .i64 0) rfl rfl; have z5 := HX1.out.box.c0 (i := 5) (v := .int .i64 0) rfl rfl; have y5 := HX1.out.box.c1 (i := 5) (v := .int .i64 0) rfl rfl; have z6 := HX1.out.box.c0 (i := 6) (v := .slice none 0 0) rfl rfl; have y6 := HX1.out.box.c1 (i := 6) (v := .slice none 0 0) rfl rfl; have fz := HX1.out.box.f0 rfl; have fy := HX1.out.box.f1 rfl; have g1 := HC.out p1 f _ HF.out HX1.out.box.up; have g2 := HC.out (p1 + 1) g _ HG.out HX1.out.box.up)
  go_region
  rw [show wrap64 ((f.toNat : Nat) : Int) = (f.toNat : Int) from wrap64_id (by omega) (by have := f.toNat_lt; omega)]
  go_wp2_with (first
    | (go_at_call 94; have _t := tF1; go_must (refine (rfl_any b (some ⟨bb, oo, none⟩) n c _ _ (HS.out _ ((HX1.out.s1_0 (.slice A1 row.length c1)).s1_1 (.int .i64 (f.toNat : Int))).drew.box.up) hn).mono ?_); rw [show ((p1 : Int) + 2) = ((p1 + 2 : Nat) : Int) from by omega, H3.out]; rintro e x3 ⟨rfl, rfl⟩; clear tF1)
    | (go_at_call 94; go_must (refine (rfl_any b (some ⟨bb, oo, none⟩) n c _ _ (HS.out _ (((HX1.out.s1_0 (.slice A1 row.length c1)).s1_1 (.int .i64 (f.toNat : Int))).s1_3 (.int .i64 (t : Int))).drew.box.up) hn).mono ?_); rw [H4.out]; rintro e x4 ⟨rfl, rfl⟩))
  (try simp only [Exit.inBlock, Exit.then])
  have HR := Lib.hid ((((((HX1.out.s1_0 (.slice A1 row.length c1)).s1_1 (.int .i64 (f.toNat : Int))).s1_3 (.int .i64 (t : Int))).s1_4 (.int .i64 (s : Int))).fill7 rfl (.slice A1 row.length c1) (.int .i64 (f.toNat : Int)) (.slice none 0 0) (.int .i64 (t : Int)) (.int .i64 (s : Int)) (.int .i64 0) (.slice none 0 0)).drew)
  refine bodyPost_ret (results_box1 rfl _ _ w.heap.size _ rfl (HR.out.box.cells0 rfl) (by kernel_rfl) (by kernel_rfl)) rfl ?_
  exact ⟨⟨_, _, _, _, _, _, _, _, _, _, rfl⟩, HR.out.box.up⟩
set_option maxRecDepth 100000 in
set_option maxHeartbeats 2000000 in
theorem pa_N_ok (b : List UInt8) (A : Option Addr) (n c : Nat) (w : World) (row : List UInt8) (p1 : Nat) (f g : UInt8) (t p3 : Nat) (s p4 : Nat) (k : UInt8) (hs : Sl w A n c b) (hn : n ≤ 140737488355000) (h0 : readO b 0 = (row, p1, 0)) (hlen : p1 + 2 ≤ n) (hf : b[p1]? = some f) (hg : b[p1 + 1]? = some g) (hg0 : g.toNat = 0) (h3 : readFl b (((p1 + 2) : Nat) : Int) = (t, p3, 0)) (h4 : readFl b (p3 : Int) = (s, p4, 0)) (hlen4 : p4 < n) (hk : b[p4]? = some k) :
    Calls Tryz.prog 82 #[.slice A n c] w (EntPost (fun v => .tuple #[v, .bool true]) ⟨row, (f.toNat : Int), [], (t : Int), (s : Int), (k.toNat : Int), []⟩ w) := by
  have HS : Hid (∀ x, Below w.heap.size w x → Sl x A n c b) := Lib.hid fun x h => hs.later h
  have HX0 := Lib.hid (Bt.of (T := 5) (Bxs.two w 46 #[.slice none 0 0, .int .i64 0, .slice none 0 0, .int .i64 0, .int .i64 0, .int .i64 0, .slice none 0 0] #[.slice none 0 0, .int .i64 0, .slice none 0 0, .int .i64 0, .int .i64 0, .int .i64 0, .slice none 0 0]))
  have H0 := Lib.hid h0
  obtain ⟨bb, oo, _, rfl, hbb, _, _⟩ := hs.rb.at_ (k := p1) (by omega)
  have HC : Hid (∀ (j : Nat) (u : UInt8) x, b[j]? = some u → Below w.heap.size w x → x.cell? ⟨bb, oo + j, none⟩ = some (.int .u8 (u.toNat : Int))) := Lib.hid fun j u x hu hx => (hs.rb.later hx).cell hu
  have hbb0 : ¬ bb = w.heap.size := by omega
  have hbb1 : ¬ bb = w.heap.size + 1 := by omega
  have HF := Lib.hid hf
  have HG := Lib.hid hg
  have hgd : ((g.toNat : Int) != 0) = false := by rw [hg0]; rfl
  have H3 := Lib.hid h3
  have H4 := Lib.hid h4
  have HK := Lib.hid hk
  have q1 : (p1 : Int) < (n : Int) := by omega
  have q2 : (p1 : Int) + 1 < (n : Int) := by omega
  have q3 : decide ((n : Int) < (p1 : Int) + 2) = false := decide_eq_false (by omega)
  have q5 : (p4 : Int) < (n : Int) := by omega
  have q6 : wrap64 ((k.toNat : Nat) : Int) = (k.toNat : Int) := wrap64_id (by omega) (by have := k.toNat_lt; omega)
  have q7 : IntKind.i64.wrap ((k.toNat : Nat) : Int) = (k.toNat : Int) := i64_sum (by omega) (by have := k.toNat_lt; omega)
  have tO1 : True := trivial
  have tF1 : True := trivial
  clear hs h0 hf hg hg0 h3 h4 hk
  go_enter Tryz.func82, Tryz.ntmps82
  go_wp2_with (go_at_call 93; have _t := tO1; go_must (refine (ro_any b (some ⟨bb, oo, none⟩) n c 0 _ (HS.out _ HX0.out.box.up) hn).mono ?_); rw [H0.out]; rintro e x1 hp; obtain ⟨A1, c1, rfl, _, hO1, hb1⟩ := hp.at_ (n := row.length) rfl rfl rfl; have HX1 := Lib.hid (HX0.out.fresh hb1 hO1); clear hb1 hp hO1 tO1; have z0 := HX1.out.box.c0 (i := 0) (v := .slice none 0 0) rfl rfl; have y0 := HX1.out.box.c1 (i := 0) (v := .slice none 0 0) rfl rfl; have z1 := HX1.out.box.c0 (i := 1) (v := .int .i64 0) rfl rfl; have y1 := HX1.out.box.c1 (i := 1) (v := .int .i64 0) rfl rfl; have z2 := HX1.out.box.c0 (i := 2) (v := .slice none 0 0) rfl rfl; have y2 := HX1.out.box.c1 (i := 2) (v := .slice none 0 0) rfl rfl; have z3 := HX1.out.box.c0 (i := 3) (v := .int .i64 0) rfl rfl; have y3 := HX1.out.box.c1 (i := 3) (v := .int .i64 0) rfl rfl; have z4 := HX1.out.box.c0 (i := 4) (v := .int .i64 0) rfl rfl; have y4 := HX1.out.box.c1 (i := 4) (v := .int .i64 0) rfl rfl; have z5 := HX1.out.box.c0 (i := 5) (v := .int .i64 0) rfl rfl; have y5 := HX1.out.box.c1 (i := 5) (v := .int .i64 0) rfl rfl; have z6 := HX1.out.box.c0 (i := 6) (v := .slice none 0 0) rfl rfl; have y6 := HX1.out.box.c1 (i := 6) (v := .slice none 0 0) rfl rfl; have fz := HX1.out.box.f0 rfl; have fy := HX1.out.box.f1 rfl; have g1 := HC.out p1 f _ HF.out HX1.out.box.up; have g2 := HC.out (p1 + 1) g _ HG.out HX1.out.box.up; have g3 := HC.out p4 k _ HK.out HX1.out.box.up)
  go_region
  rw [show wrap64 ((f.toNat : Nat) : Int) = (f.toNat : Int) from wrap64_id (by omega) (by have := f.toNat_lt; omega)]
  go_wp2_with (first
    | (go_at_call 94; have _t := tF1; go_must (refine (rfl_any b (some ⟨bb, oo, none⟩) n c _ _ (HS.out _ ((HX1.out.s1_0 (.slice A1 row.length c1)).s1_1 (.int .i64 (f.toNat : Int))).drew.box.up) hn).mono ?_); rw [show ((p1 : Int) + 2) = ((p1 + 2 : Nat) : Int) from by omega, H3.out]; rintro e x3 ⟨rfl, rfl⟩; clear tF1)
    | (go_at_call 94; go_must (refine (rfl_any b (some ⟨bb, oo, none⟩) n c _ _ (HS.out _ (((HX1.out.s1_0 (.slice A1 row.length c1)).s1_1 (.int .i64 (f.toNat : Int))).s1_3 (.int .i64 (t : Int))).drew.box.up) hn).mono ?_); rw [H4.out]; rintro e x4 ⟨rfl, rfl⟩))
  (try simp only [Exit.inBlock, Exit.then])
  have HR := Lib.hid (((((((HX1.out.s1_0 (.slice A1 row.length c1)).s1_1 (.int .i64 (f.toNat : Int))).s1_3 (.int .i64 (t : Int))).s1_4 (.int .i64 (s : Int))).s1_5 (.int .i64 (k.toNat : Int))).fill7 rfl (.slice A1 row.length c1) (.int .i64 (f.toNat : Int)) (.slice none 0 0) (.int .i64 (t : Int)) (.int .i64 (s : Int)) (.int .i64 (k.toNat : Int)) (.slice none 0 0)).drew)
  refine bodyPost_ret (results_box1 rfl _ _ w.heap.size _ rfl (HR.out.box.cells0 rfl) (by kernel_rfl) (by kernel_rfl)) rfl ?_
  exact ent_post_n (mk := fun v => .tuple #[v, .bool true]) (rows_low HR.out.rows (Nat.le_add_right _ _)) HR.out.box.up
end Go.Proofs.YtmigjipfomfacaaGreatDoor
namespace Go.Proofs.YtmigjipfomfacaaGreatDoor
open Go.RowKit
theorem atB_of {b : List UInt8} {k : Nat} {u : UInt8} (h : b[k]? = some u) : atB b k = u.toNat := by unfold atB; rw [h]; rfl
theorem get_of {b : List UInt8} {k : Nat} (h : k < b.length) : ∃ u, b[k]? = some u := ⟨b[k], List.getElem?_eq_getElem h⟩
theorem parseN_cases (b row : List UInt8) (fam : Nat) (qual : List UInt8) (a : Nat) {C : Option (Ent × Nat) → Prop}
    (f3 : ∀ t p3 er, readFl b (a : Nat) = (t, p3, er) → er ≠ 0 → C none)
    (f4a : ∀ t p3 s p4 er, readFl b (a : Nat) = (t, p3, 0) → readFl b (p3 : Int) = (s, p4, er) → er ≠ 0 → C none)
    (f4b : ∀ t p3 s p4, readFl b (a : Nat) = (t, p3, 0) → readFl b (p3 : Int) = (s, p4, 0) → p4 ≤ b.length → b.length ≤ p4 → C none)
    (ok : ∀ t p3 s p4 k, readFl b (a : Nat) = (t, p3, 0) → readFl b (p3 : Int) = (s, p4, 0) → p4 < b.length → b[p4]? = some k → C (some (⟨row, fam, qual, (t : Int), (s : Int), (k.toNat : Int), []⟩, p4 + 1))) :
    C (parseN b row fam qual a) := by
  unfold parseN
  obtain ⟨t, p3, er, h3⟩ : ∃ t p3 er, readFl b (a : Nat) = (t, p3, er) := ⟨_, _, _, rfl⟩
  rw [h3]
  simp only
  by_cases he : er = 0
  · subst he
    rw [if_neg (by simp)]
    obtain ⟨s, p4, er, h4⟩ : ∃ s p4 er, readFl b (p3 : Int) = (s, p4, er) := ⟨_, _, _, rfl⟩
    rw [h4]
    simp only
    by_cases he : er = 0
    · subst he
      have hend := (readFl_end b p3 (by rw [h4])).2.1
      rw [h4] at hend
      by_cases hl : b.length ≤ p4
      · rw [if_pos (.inr hl)]
        exact f4b t p3 s p4 h3 h4 hend hl
      · rw [if_neg (by rintro (h | h); exact h rfl; exact hl h)]
        obtain ⟨k, hk⟩ := get_of (b := b) (k := p4) (by omega)
        rw [atB_of hk]
        exact ok t p3 s p4 k h3 h4 (by omega) hk
    · rw [if_pos (.inl he)]
      exact f4a t p3 s p4 er h3 h4 he
  · rw [if_pos he]
    exact f3 t p3 er h3 he
theorem parse_cases (b : List UInt8) {C : Option (Ent × Nat) → Prop}
    (f1a : ∀ rw0 p1 er, readO b 0 = (rw0, p1, er) → er ≠ 0 → C none)
    (f1b : ∀ row p1, readO b 0 = (row, p1, 0) → p1 ≤ b.length → b.length < p1 + 2 → C none)
    (f2a : ∀ row p1 (f g : UInt8) ql0 p2 er, readO b 0 = (row, p1, 0) → p1 + 2 ≤ b.length → b[p1]? = some f → b[p1 + 1]? = some g → g.toNat ≠ 0 → readO b ((p1 + 2 : Nat) : Int) = (ql0, p2, er) → er ≠ 0 → C none)
    (f2b : ∀ row p1 (f g : UInt8) qual p2, readO b 0 = (row, p1, 0) → p1 + 2 ≤ b.length → b[p1]? = some f → b[p1 + 1]? = some g → g.toNat ≠ 0 → readO b ((p1 + 2 : Nat) : Int) = (qual, p2, 0) → p2 ≤ b.length → b.length ≤ p2 → C none)
    (fP : ∀ row p1 (f g : UInt8) qual p2, readO b 0 = (row, p1, 0) → p1 + 2 ≤ b.length → b[p1]? = some f → b[p1 + 1]? = some g → g.toNat ≠ 0 → readO b ((p1 + 2 : Nat) : Int) = (qual, p2, 0) → p2 < b.length → C (parseN b row f.toNat qual (p2 + 1)))
    (fN : ∀ row p1 (f g : UInt8), readO b 0 = (row, p1, 0) → p1 + 2 ≤ b.length → b[p1]? = some f → b[p1 + 1]? = some g → g.toNat = 0 → C (parseN b row f.toNat [] (p1 + 2))) :
    C (parseE b) := by
  unfold parseE
  obtain ⟨row, p1, er, h0⟩ : ∃ row p1 er, readO b 0 = (row, p1, er) := ⟨_, _, _, rfl⟩
  rw [h0]
  simp only
  by_cases he : er = 0
  · subst he
    have hend := (readO_end b 0 (by rw [h0])).2.1
    rw [h0] at hend
    by_cases hl : b.length < p1 + 2
    · rw [if_pos (.inr hl)]
      exact f1b row p1 h0 hend hl
    · rw [if_neg (by rintro (h | h); exact h rfl; exact hl h)]
      obtain ⟨f, hf⟩ := get_of (b := b) (k := p1) (by omega)
      obtain ⟨g, hg⟩ := get_of (b := b) (k := p1 + 1) (by omega)
      rw [atB_of hf, atB_of hg]
      by_cases hg0 : g.toNat = 0
      · rw [if_neg (by simpa using hg0)]
        exact fN row p1 f g h0 (by omega) hf hg hg0
      · rw [if_pos hg0]
        unfold parseQ
        obtain ⟨qual, p2, er, h2⟩ : ∃ qual p2 er, readO b ((p1 + 2 : Nat) : Int) = (qual, p2, er) := ⟨_, _, _, rfl⟩
        rw [h2]
        simp only
        by_cases he : er = 0
        · subst he
          have hend2 := (readO_end b ((p1 + 2 : Nat) : Int) (by rw [h2])).2.1
          rw [h2] at hend2
          by_cases hl2 : b.length ≤ p2
          · rw [if_pos (.inr hl2)]
            exact f2b row p1 f g qual p2 h0 (by omega) hf hg hg0 h2 hend2 hl2
          · rw [if_neg (by rintro (h | h); exact h rfl; exact hl2 h)]
            exact fP row p1 f g qual p2 h0 (by omega) hf hg hg0 h2 (by omega)
        · rw [if_pos (.inl he)]
          exact f2a row p1 f g qual p2 er h0 (by omega) hf hg hg0 h2 he
  · rw [if_pos (.inl he)]
    exact f1a row p1 er h0 he
end Go.Proofs.YtmigjipfomfacaaGreatDoor
namespace Go.Proofs.YtmigjipfomfacaaGreatDoor
open Go.RowKit
def ParsePost (o : Option (Ent × Nat)) (w : World) (r : Ending) (w' : World) : Prop := match o with
  | none => NoPost w r w'
  | some (e, _) => EntPost (fun v => .tuple #[v, .bool true]) e w r w'
theorem parse_any (b : List UInt8) (A : Option Addr) (n c : Nat) (w : World) (hs : Sl w A n c b) (hn : n ≤ 140737488355000) :
    Calls Tryz.prog 82 #[.slice A n c] w (ParsePost (parseE b) w) := by
  have hl := hs.len
  refine parse_cases b (C := fun o => Calls Tryz.prog 82 #[.slice A n c] w (ParsePost o w)) ?_ ?_ ?_ ?_ ?_ ?_
  · intro rw0 p1 er h0 he; exact pa_N_f1a b A n c w rw0 p1 er hs hn h0 he
  · intro row p1 h0 h1 h2; exact pa_N_f1b b A n c w row p1 hs hn h0 (by omega) (by omega)
  · intro row p1 f g ql0 p2 er h0 h1 hf hg hg0 h2 he; exact pa_P_f2a b A n c w row p1 f g ql0 p2 er hs hn h0 (by omega) hf hg hg0 h2 he
  · intro row p1 f g qual p2 h0 h1 hf hg hg0 h2 h3 h4; exact pa_P_f2b b A n c w row p1 f g qual p2 hs hn h0 (by omega) hf hg hg0 h2 (by omega)
  · intro row p1 f g qual p2 h0 h1 hf hg hg0 h2 h3
    refine parseN_cases b row f.toNat qual (p2 + 1) (C := fun o => Calls Tryz.prog 82 #[.slice A n c] w (ParsePost o w)) ?_ ?_ ?_ ?_
    · intro t p3 er h3' he; exact pa_P_f3 b A n c w row p1 f g qual p2 t p3 er hs hn h0 (by omega) hf hg hg0 h2 (by omega) h3' he
    · intro t p3 s p4 er h3' h4 he; exact pa_P_f4a b A n c w row p1 f g qual p2 t p3 s p4 er hs hn h0 (by omega) hf hg hg0 h2 (by omega) h3' h4 he
    · intro t p3 s p4 h3' h4 h5 h6; exact pa_P_f4b b A n c w row p1 f g qual p2 t p3 s p4 hs hn h0 (by omega) hf hg hg0 h2 (by omega) h3' h4 (by omega)
    · intro t p3 s p4 k h3' h4 h5 hk; exact pa_P_ok b A n c w row p1 f g qual p2 t p3 s p4 k hs hn h0 (by omega) hf hg hg0 h2 (by omega) h3' h4 (by omega) hk
  · intro row p1 f g h0 h1 hf hg hg0
    refine parseN_cases b row f.toNat [] (p1 + 2) (C := fun o => Calls Tryz.prog 82 #[.slice A n c] w (ParsePost o w)) ?_ ?_ ?_ ?_
    · intro t p3 er h3' he; exact pa_N_f3 b A n c w row p1 f g t p3 er hs hn h0 (by omega) hf hg hg0 h3' he
    · intro t p3 s p4 er h3' h4 he; exact pa_N_f4a b A n c w row p1 f g t p3 s p4 er hs hn h0 (by omega) hf hg hg0 h3' h4 he
    · intro t p3 s p4 h3' h4 h5 h6; exact pa_N_f4b b A n c w row p1 f g t p3 s p4 hs hn h0 (by omega) hf hg hg0 h3' h4 (by omega)
    · intro t p3 s p4 k h3' h4 h5 hk; exact pa_N_ok b A n c w row p1 f g t p3 s p4 k hs hn h0 (by omega) hf hg hg0 h3' h4 (by omega) hk
end Go.Proofs.YtmigjipfomfacaaGreatDoor
namespace Go.Proofs.YtmigjipfomfacaaGreatDoor
open Go.RowKit
set_option maxRecDepth 100000 in
set_option maxHeartbeats 2000000 in
theorem pk_none (b : List UInt8) (A : Option Addr) (n c : Nat) (w : World) (hs : Sl w A n c b) (hn : n ≤ 140737488355000) (hp : parseE b = none) :
    Calls Tryz.prog 60 #[.slice A n c] w (EntPost (fun v => .tuple #[v, .int .i64 27]) noEnt w) := by
  have HS : Hid (∀ x, Below w.heap.size w x → Sl x A n c b) := Lib.hid fun x h => hs.later h
  have HX0 := Lib.hid (Bt.of (T := 5) (Bxs.one w 46 #[.slice none 0 0, .int .i64 0, .slice none 0 0, .int .i64 0, .int .i64 0, .int .i64 0, .slice none 0 0]))
  have HP := Lib.hid hp
  clear hs hp
  go_enter Tryz.func60, Tryz.ntmps60
  go_upto_region 3 with (go_at_call 82; go_must (refine (parse_any b A n c _ (HS.out _ HX0.out.box.up) hn).mono ?_); rw [HP.out]; rintro e x1 ⟨⟨A1, n1, c1, f, A2, n2, c2, t, s, k, rfl⟩, hb1⟩; have HX1 := Lib.hid (HX0.out.later hb1); clear hb1; have z0 := HX1.out.box.c0 (i := 0) (v := .slice none 0 0) rfl rfl; have z1 := HX1.out.box.c0 (i := 1) (v := .int .i64 0) rfl rfl; have z2 := HX1.out.box.c0 (i := 2) (v := .slice none 0 0) rfl rfl; have z3 := HX1.out.box.c0 (i := 3) (v := .int .i64 0) rfl rfl; have z4 := HX1.out.box.c0 (i := 4) (v := .int .i64 0) rfl rfl; have z5 := HX1.out.box.c0 (i := 5) (v := .int .i64 0) rfl rfl; have z6 := HX1.out.box.c0 (i := 6) (v := .slice none 0 0) rfl rfl; have fz := HX1.out.box.f0 rfl; have hlt : w.heap.size < x1.heap.size := HX1.out.box.size)
  have HX2 := Lib.hid (HX1.out.alloc (.cells #[.slice A1 n1 c1, .int .i64 f, .slice A2 n2 c2, .int .i64 t, .int .i64 s, .int .i64 k, .slice none 0 0] 46))
  clear HX1 z0 z1 z2 z3 z4 z5 z6 fz hlt
  generalize x1.alloc (.cells #[.slice A1 n1 c1, .int .i64 f, .slice A2 n2 c2, .int .i64 t, .int .i64 s, .int .i64 k, .slice none 0 0] 46) = x2 at HX2 ⊢
  have z0 := HX2.out.box.c0 (i := 0) (v := .slice none 0 0) rfl rfl; have z1 := HX2.out.box.c0 (i := 1) (v := .int .i64 0) rfl rfl; have z2 := HX2.out.box.c0 (i := 2) (v := .slice none 0 0) rfl rfl; have z3 := HX2.out.box.c0 (i := 3) (v := .int .i64 0) rfl rfl; have z4 := HX2.out.box.c0 (i := 4) (v := .int .i64 0) rfl rfl; have z5 := HX2.out.box.c0 (i := 5) (v := .int .i64 0) rfl rfl; have z6 := HX2.out.box.c0 (i := 6) (v := .slice none 0 0) rfl rfl; have fz := HX2.out.box.f0 rfl; have hlt : w.heap.size < x2.heap.size := HX2.out.box.size
  go_wp2_with fail
  (try simp only [Exit.inBlock, Exit.then])
  have HR := Lib.hid (HX2.out.fill7 rfl (.slice none 0 0) (.int .i64 0) (.slice none 0 0) (.int .i64 0) (.int .i64 0) (.int .i64 0) (.slice none 0 0))
  refine bodyPost_ret (results_box1 rfl _ _ w.heap.size _ rfl (HR.out.box.cells0 rfl) (by kernel_rfl) (by kernel_rfl)) rfl ?_
  exact ent_none (mk := fun v => .tuple #[v, .int .i64 27]) HR.out.box.up
set_option maxRecDepth 100000 in
set_option maxHeartbeats 2000000 in
theorem pk_A (b : List UInt8) (A : Option Addr) (n c : Nat) (w : World) (hs : Sl w A n c b) (hn : n ≤ 140737488355000) (E : Ent) (p : Nat) (hp : parseE b = some (E, p)) (K : List UInt8) (z : Int) (hz : z ≠ 0) (hk : KeyE E = (K, z)) :
    Calls Tryz.prog 60 #[.slice A n c] w (EntPost (fun v => .tuple #[v, .int .i64 27]) noEnt w) := by
  have HS : Hid (∀ x, Below w.heap.size w x → Sl x A n c b) := Lib.hid fun x h => hs.later h
  have HX0 := Lib.hid (Bt.of (T := 5) (Bxs.one w 46 #[.slice none 0 0, .int .i64 0, .slice none 0 0, .int .i64 0, .int .i64 0, .int .i64 0, .slice none 0 0]))
  have HP := Lib.hid hp
  have HK := Lib.hid hk
  have hd : (z != 0) = true := by rw [bne_iff_ne]; exact hz
  clear hs hp hk hz
  go_enter Tryz.func60, Tryz.ntmps60
  go_wp2_with (first
    | (go_at_call 82; go_must (refine (parse_any b A n c _ (HS.out _ HX0.out.box.up) hn).mono ?_); rw [HP.out]; rintro e x1 ⟨A1, c1, A2, c2, D, q, rfl, hr1, hb1⟩; have HX1 := Lib.hid (HX0.out.freshR hb1 hr1); clear hb1 hr1)
    | (go_at_call 70; go_must (refine (key_any E A1 _ c1 A2 _ c2 D _ q _ ⟨(HX1.out.alloc (.cells #[.slice A1 E.row.length c1, .int .i64 E.fam, .slice A2 E.qual.length c2, .int .i64 E.ts, .int .i64 E.seq, .int .i64 E.kind, .slice D E.val.length q] 46)).rows.sl (i := 0) rfl, (HX1.out.alloc (.cells #[.slice A1 E.row.length c1, .int .i64 E.fam, .slice A2 E.qual.length c2, .int .i64 E.ts, .int .i64 E.seq, .int .i64 E.kind, .slice D E.val.length q] 46)).rows.sl (i := 1) rfl, (HX1.out.alloc (.cells #[.slice A1 E.row.length c1, .int .i64 E.fam, .slice A2 E.qual.length c2, .int .i64 E.ts, .int .i64 E.seq, .int .i64 E.kind, .slice D E.val.length q] 46)).rows.sl (i := 2) rfl⟩).mono ?_); rw [HK.out]; rintro e x2 hp; obtain ⟨A5, c5, rfl, hS5, hO5, hb5⟩ := hp.at_ (n := K.length) rfl rfl; have HX2 := Lib.hid ((HX1.out.alloc (.cells #[.slice A1 E.row.length c1, .int .i64 E.fam, .slice A2 E.qual.length c2, .int .i64 E.ts, .int .i64 E.seq, .int .i64 E.kind, .slice D E.val.length q] 46)).fresh hb5 hO5); have HY2 := Lib.hid ((Bx.new x1 #[.slice A1 E.row.length c1, .int .i64 E.fam, .slice A2 E.qual.length c2, .int .i64 E.ts, .int .i64 E.seq, .int .i64 E.kind, .slice D E.val.length q] 46).later hb5); have HS5 := Lib.hid hS5; clear hb5 hp hO5 hS5; have z0 := HX2.out.box.c0 (i := 0) (v := .slice none 0 0) rfl rfl; have z1 := HX2.out.box.c0 (i := 1) (v := .int .i64 0) rfl rfl; have z2 := HX2.out.box.c0 (i := 2) (v := .slice none 0 0) rfl rfl; have z3 := HX2.out.box.c0 (i := 3) (v := .int .i64 0) rfl rfl; have z4 := HX2.out.box.c0 (i := 4) (v := .int .i64 0) rfl rfl; have z5 := HX2.out.box.c0 (i := 5) (v := .int .i64 0) rfl rfl; have z6 := HX2.out.box.c0 (i := 6) (v := .slice none 0 0) rfl rfl; have fz := HX2.out.box.f0 rfl; have hlt : w.heap.size < x2.heap.size := HX2.out.box.size; have y0 := HY2.out.cell (i := 0) (v := .slice A1 E.row.length c1) rfl; have y1 := HY2.out.cell (i := 1) (v := .int .i64 E.fam) rfl; have y2 := HY2.out.cell (i := 2) (v := .slice A2 E.qual.length c2) rfl; have y3 := HY2.out.cell (i := 3) (v := .int .i64 E.ts) rfl; have y4 := HY2.out.cell (i := 4) (v := .int .i64 E.seq) rfl; have y5 := HY2.out.cell (i := 5) (v := .int .i64 E.kind) rfl; have y6 := HY2.out.cell (i := 6) (v := .slice D E.val.length q) rfl))
  (try simp only [Exit.inBlock, Exit.then])
  have HR := Lib.hid (HX2.out.fill7 rfl (.slice none 0 0) (.int .i64 0) (.slice none 0 0) (.int .i64 0) (.int .i64 0) (.int .i64 0) (.slice none 0 0))
  refine bodyPost_ret (results_box1 rfl _ _ w.heap.size _ rfl (HR.out.box.cells0 rfl) (by kernel_rfl) (by kernel_rfl)) rfl ?_
  exact ent_none (mk := fun v => .tuple #[v, .int .i64 27]) HR.out.box.up
set_option maxRecDepth 100000 in
set_option maxHeartbeats 2000000 in
theorem pk_B (b : List UInt8) (A : Option Addr) (n c : Nat) (w : World) (hs : Sl w A n c b) (hn : n ≤ 140737488355000) (E : Ent) (p : Nat) (hp : parseE b = some (E, p)) (K : List UInt8) (hk : KeyE E = (K, 0)) (hkb : (K == b) = false) :
    Calls Tryz.prog 60 #[.slice A n c] w (EntPost (fun v => .tuple #[v, .int .i64 27]) noEnt w) := by
  have HS : Hid (∀ x, Below w.heap.size w x → Sl x A n c b) := Lib.hid fun x h => hs.later h
  have HX0 := Lib.hid (Bt.of (T := 5) (Bxs.one w 46 #[.slice none 0 0, .int .i64 0, .slice none 0 0, .int .i64 0, .int .i64 0, .int .i64 0, .slice none 0 0]))
  have HP := Lib.hid hp
  have HK := Lib.hid hk
  have HKB := Lib.hid hkb
  clear hs hp hk hkb
  go_enter Tryz.func60, Tryz.ntmps60
  go_wp2_with (first
    | (go_at_call 82; go_must (refine (parse_any b A n c _ (HS.out _ HX0.out.box.up) hn).mono ?_); rw [HP.out]; rintro e x1 ⟨A1, c1, A2, c2, D, q, rfl, hr1, hb1⟩; have HX1 := Lib.hid (HX0.out.freshR hb1 hr1); clear hb1 hr1)
    | (go_at_call 70; go_must (refine (key_any E A1 _ c1 A2 _ c2 D _ q _ ⟨(HX1.out.alloc (.cells #[.slice A1 E.row.length c1, .int .i64 E.fam, .slice A2 E.qual.length c2, .int .i64 E.ts, .int .i64 E.seq, .int .i64 E.kind, .slice D E.val.length q] 46)).rows.sl (i := 0) rfl, (HX1.out.alloc (.cells #[.slice A1 E.row.length c1, .int .i64 E.fam, .slice A2 E.qual.length c2, .int .i64 E.ts, .int .i64 E.seq, .int .i64 E.kind, .slice D E.val.length q] 46)).rows.sl (i := 1) rfl, (HX1.out.alloc (.cells #[.slice A1 E.row.length c1, .int .i64 E.fam, .slice A2 E.qual.length c2, .int .i64 E.ts, .int .i64 E.seq, .int .i64 E.kind, .slice D E.val.length q] 46)).rows.sl (i := 2) rfl⟩).mono ?_); rw [HK.out]; rintro e x2 hp; obtain ⟨A5, c5, rfl, hS5, hO5, hb5⟩ := hp.at_ (n := K.length) rfl rfl; have HX2 := Lib.hid ((HX1.out.alloc (.cells #[.slice A1 E.row.length c1, .int .i64 E.fam, .slice A2 E.qual.length c2, .int .i64 E.ts, .int .i64 E.seq, .int .i64 E.kind, .slice D E.val.length q] 46)).fresh hb5 hO5); have HY2 := Lib.hid ((Bx.new x1 #[.slice A1 E.row.length c1, .int .i64 E.fam, .slice A2 E.qual.length c2, .int .i64 E.ts, .int .i64 E.seq, .int .i64 E.kind, .slice D E.val.length q] 46).later hb5); have HS5 := Lib.hid hS5; clear hb5 hp hO5 hS5; have z0 := HX2.out.box.c0 (i := 0) (v := .slice none 0 0) rfl rfl; have z1 := HX2.out.box.c0 (i := 1) (v := .int .i64 0) rfl rfl; have z2 := HX2.out.box.c0 (i := 2) (v := .slice none 0 0) rfl rfl; have z3 := HX2.out.box.c0 (i := 3) (v := .int .i64 0) rfl rfl; have z4 := HX2.out.box.c0 (i := 4) (v := .int .i64 0) rfl rfl; have z5 := HX2.out.box.c0 (i := 5) (v := .int .i64 0) rfl rfl; have z6 := HX2.out.box.c0 (i := 6) (v := .slice none 0 0) rfl rfl; have fz := HX2.out.box.f0 rfl; have hlt : w.heap.size < x2.heap.size := HX2.out.box.size; have y0 := HY2.out.cell (i := 0) (v := .slice A1 E.row.length c1) rfl; have y1 := HY2.out.cell (i := 1) (v := .int .i64 E.fam) rfl; have y2 := HY2.out.cell (i := 2) (v := .slice A2 E.qual.length c2) rfl; have y3 := HY2.out.cell (i := 3) (v := .int .i64 E.ts) rfl; have y4 := HY2.out.cell (i := 4) (v := .int .i64 E.seq) rfl; have y5 := HY2.out.cell (i := 5) (v := .int .i64 E.kind) rfl; have y6 := HY2.out.cell (i := 6) (v := .slice D E.val.length q) rfl)
    | (go_at_call 32; go_must (refine (equal_any K b A5 A K.length c5 n c _ HS5.out.rb (HS.out _ HX2.out.box.up).rb).mono ?_); rw [HKB.out]; rintro e x3 ⟨rfl, rfl⟩))
  (try simp only [Exit.inBlock, Exit.then])
  have HR := Lib.hid (HX2.out.fill7 rfl (.slice none 0 0) (.int .i64 0) (.slice none 0 0) (.int .i64 0) (.int .i64 0) (.int .i64 0) (.slice none 0 0))
  refine bodyPost_ret (results_box1 rfl _ _ w.heap.size _ rfl (HR.out.box.cells0 rfl) (by kernel_rfl) (by kernel_rfl)) rfl ?_
  exact ent_none (mk := fun v => .tuple #[v, .int .i64 27]) HR.out.box.up
set_option maxRecDepth 100000 in
set_option maxHeartbeats 2000000 in
theorem pk_C (b : List UInt8) (A : Option Addr) (n c : Nat) (w : World) (hs : Sl w A n c b) (hn : n ≤ 140737488355000) (E : Ent) (p : Nat) (hp : parseE b = some (E, p)) (K : List UInt8) (hk : KeyE E = (K, 0)) (hkb : (K == b) = true) :
    Calls Tryz.prog 60 #[.slice A n c] w (EntPost (fun v => .tuple #[v, .int .i64 0]) E w) := by
  have HS : Hid (∀ x, Below w.heap.size w x → Sl x A n c b) := Lib.hid fun x h => hs.later h
  have HX0 := Lib.hid (Bt.of (T := 5) (Bxs.one w 46 #[.slice none 0 0, .int .i64 0, .slice none 0 0, .int .i64 0, .int .i64 0, .int .i64 0, .slice none 0 0]))
  have HP := Lib.hid hp
  have HK := Lib.hid hk
  have HKB := Lib.hid hkb
  clear hs hp hk hkb
  go_enter Tryz.func60, Tryz.ntmps60
  go_wp2_with (first
    | (go_at_call 82; go_must (refine (parse_any b A n c _ (HS.out _ HX0.out.box.up) hn).mono ?_); rw [HP.out]; rintro e x1 ⟨A1, c1, A2, c2, D, q, rfl, hr1, hb1⟩; have HX1 := Lib.hid (HX0.out.freshR hb1 hr1); clear hb1 hr1)
    | (go_at_call 70; go_must (refine (key_any E A1 _ c1 A2 _ c2 D _ q _ ⟨(HX1.out.alloc (.cells #[.slice A1 E.row.length c1, .int .i64 E.fam, .slice A2 E.qual.length c2, .int .i64 E.ts, .int .i64 E.seq, .int .i64 E.kind, .slice D E.val.length q] 46)).rows.sl (i := 0) rfl, (HX1.out.alloc (.cells #[.slice A1 E.row.length c1, .int .i64 E.fam, .slice A2 E.qual.length c2, .int .i64 E.ts, .int .i64 E.seq, .int .i64 E.kind, .slice D E.val.length q] 46)).rows.sl (i := 1) rfl, (HX1.out.alloc (.cells #[.slice A1 E.row.length c1, .int .i64 E.fam, .slice A2 E.qual.length c2, .int .i64 E.ts, .int .i64 E.seq, .int .i64 E.kind, .slice D E.val.length q] 46)).rows.sl (i := 2) rfl⟩).mono ?_); rw [HK.out]; rintro e x2 hp; obtain ⟨A5, c5, rfl, hS5, hO5, hb5⟩ := hp.at_ (n := K.length) rfl rfl; have HX2 := Lib.hid ((HX1.out.alloc (.cells #[.slice A1 E.row.length c1, .int .i64 E.fam, .slice A2 E.qual.length c2, .int .i64 E.ts, .int .i64 E.seq, .int .i64 E.kind, .slice D E.val.length q] 46)).fresh hb5 hO5); have HY2 := Lib.hid ((Bx.new x1 #[.slice A1 E.row.length c1, .int .i64 E.fam, .slice A2 E.qual.length c2, .int .i64 E.ts, .int .i64 E.seq, .int .i64 E.kind, .slice D E.val.length q] 46).later hb5); have HS5 := Lib.hid hS5; clear hb5 hp hO5 hS5; have z0 := HX2.out.box.c0 (i := 0) (v := .slice none 0 0) rfl rfl; have z1 := HX2.out.box.c0 (i := 1) (v := .int .i64 0) rfl rfl; have z2 := HX2.out.box.c0 (i := 2) (v := .slice none 0 0) rfl rfl; have z3 := HX2.out.box.c0 (i := 3) (v := .int .i64 0) rfl rfl; have z4 := HX2.out.box.c0 (i := 4) (v := .int .i64 0) rfl rfl; have z5 := HX2.out.box.c0 (i := 5) (v := .int .i64 0) rfl rfl; have z6 := HX2.out.box.c0 (i := 6) (v := .slice none 0 0) rfl rfl; have fz := HX2.out.box.f0 rfl; have hlt : w.heap.size < x2.heap.size := HX2.out.box.size; have y0 := HY2.out.cell (i := 0) (v := .slice A1 E.row.length c1) rfl; have y1 := HY2.out.cell (i := 1) (v := .int .i64 E.fam) rfl; have y2 := HY2.out.cell (i := 2) (v := .slice A2 E.qual.length c2) rfl; have y3 := HY2.out.cell (i := 3) (v := .int .i64 E.ts) rfl; have y4 := HY2.out.cell (i := 4) (v := .int .i64 E.seq) rfl; have y5 := HY2.out.cell (i := 5) (v := .int .i64 E.kind) rfl; have y6 := HY2.out.cell (i := 6) (v := .slice D E.val.length q) rfl)
    | (go_at_call 32; go_must (refine (equal_any K b A5 A K.length c5 n c _ HS5.out.rb (HS.out _ HX2.out.box.up).rb).mono ?_); rw [HKB.out]; rintro e x3 ⟨rfl, rfl⟩))
  (try simp only [Exit.inBlock, Exit.then])
  have HR := Lib.hid (HX2.out.fill7 rfl (.slice A1 E.row.length c1) (.int .i64 E.fam) (.slice A2 E.qual.length c2) (.int .i64 E.ts) (.int .i64 E.seq) (.int .i64 E.kind) (.slice D E.val.length q))
  refine bodyPost_ret (results_box1 rfl _ _ w.heap.size _ rfl (HR.out.box.cells0 rfl) (by kernel_rfl) (by kernel_rfl)) rfl ?_
  exact ⟨A1, c1, A2, c2, D, q, rfl, rows_low (rows_pre HR.out.rows) (Nat.le_add_right _ _), HR.out.box.up⟩
theorem parsekey_any (b : List UInt8) (A : Option Addr) (n c : Nat) (w : World) (hs : Sl w A n c b) (hn : n ≤ 140737488355000) :
    Calls Tryz.prog 60 #[.slice A n c] w (EntPost (fun v => .tuple #[v, .int .i64 (ParseKeyE b).2]) (ParseKeyE b).1 w) := by
  unfold ParseKeyE
  cases hp : parseE b with
  | none => exact pk_none b A n c w hs hn hp
  | some x =>
    obtain ⟨E, p⟩ := x
    simp only [ParseKeyO]
    by_cases hc : checkE E = 0
    · have hk : KeyE E = (keyE E, 0) := by unfold KeyE; rw [if_pos hc]
      by_cases hb : keyE E = b
      · rw [if_pos ⟨hc, hb⟩]
        exact pk_C b A n c w hs hn E p hp _ hk (by rw [hb]; simp)
      · rw [if_neg (fun h => hb h.2)]
        exact pk_B b A n c w hs hn E p hp _ hk (by simpa using hb)
    · have hk : KeyE E = ([], checkE E) := by unfold KeyE; rw [if_neg hc]
      rw [if_neg (fun h => hc h.1)]
      exact pk_A b A n c w hs hn E p hp _ _ hc hk
end Go.Proofs.YtmigjipfomfacaaGreatDoor
namespace Go.Proofs.YtmigjipfomfacaaGreatDoor
open Go.RowKit
abbrev ZR := ER × (Option Addr × Nat × List UInt8)
def rowsZ (z : ZR) : RowL := [(z.1.A, z.1.c, z.1.e.row), (z.1.B, z.1.d, z.1.e.qual), (z.1.D, z.1.q, z.1.e.val), z.2]
def blkO (R g : Nat) (lv kv : Value) (zs : List ZR) : List Ob :=
  boxO g [i64v R, lv, kv] :: rowO 46 7 lv zs.length (zs.flatMap (·.1.cells)) :: rowO 22 1 kv zs.length (zs.map (valR ·.2)) :: (zs.reverse.flatMap rowsZ).map (bytO 5)
def ZOk (zs : List ZR) : Prop := ∀ z, z ∈ zs → z.2.2.2 = keyE z.1.e ∧ (keyE z.1.e).length ≤ 1048
def entsZ (zs : List ZR) : List Ent := zs.map (·.1.e)
theorem rowZ_mem {zs : List ZR} {z : ZR} {r : Option Addr × Nat × List UInt8} (hz : z ∈ zs) (hr : r ∈ rowsZ z) {R g : Nat} {lv kv : Value} : bytO 5 r ∈ blkO R g lv kv zs :=
  List.mem_cons_of_mem _ (List.mem_cons_of_mem _ (List.mem_cons_of_mem _ (List.mem_map_of_mem (List.mem_flatMap.2 ⟨z, List.mem_reverse.2 hz, hr⟩))))
set_option maxRecDepth 100000 in
theorem need_any (er : Int) {w x : World} {os : List Ob} {gk : Nat} (i : Nat) (h : OW w os x) (hi : os[i]? = some (boxO gk [.bool true])) :
    Calls Tryz.prog 56 #[.int .i64 er, .pointer (some ⟨gk, 0, none⟩)] x fun e y => e = .returned (.bool (er == 0)) ∧ OW w (os.set i (boxO gk [.bool (er == 0)])) y := by
  have HX := Lib.hid h
  have HI := Lib.hid hi
  clear h hi
  go_enter Tryz.func56, Tryz.ntmps56
  go_wp2_with (first
    | (refine wpList_load_cell rfl 4 (.tmp 1) rfl rfl (show _ = some (Value.bool true) from HX.out.cell HI.out (j := 0) rfl) (fun w => Tryz.isAgg4 w) ?_)
    | (refine wl_put1 rfl (.tmp 1) (.tmp 8) rfl HX.out i HI.out 0 rfl (by decide) (.bool (er == 0)) rfl (by kernel_rfl) rfl ?_; intro x2 hz _; have HY : Hid (OW w (os.set i (boxO gk [.bool (er == 0)])) x2) := Lib.hid hz; have hc : x2.cell? ⟨gk, 0, none⟩ = some (.bool (er == 0)) := HY.out.cell (by rw [List.getElem?_set_self (List.getElem?_eq_some_iff.1 HI.out).1]) (j := 0) rfl; clear hz))
  go_ret
  exact ⟨rfl, HY.out⟩
end Go.Proofs.YtmigjipfomfacaaGreatDoor
namespace Go.Proofs.YtmigjipfomfacaaGreatDoor
open Go.RowKit
theorem readBy_le5 (l : List UInt8) (a most : Int) : (readBy l a most).1.length ≤ l.length := by
  unfold readBy
  split
  · exact Nat.zero_le _
  · split
    · exact Nat.zero_le _
    · split
      · exact Nat.zero_le _
      · split
        · exact Nat.zero_le _
        · unfold cutS; simp only [List.length_take, List.length_drop]; omega
def ReadP (w : World) (R g : Nat) (rest : List Ob) (b : List UInt8) (N : Nat) (e : Ending) (z : World) : Prop :=
  ∃ lv kv zs, OW w (blkO R g lv kv zs ++ rest) z ∧ ZOk zs ∧ ((∃ key a, rdF b N = some (entsZ zs, key, a) ∧ e = .returned (.bool true)) ∨ (rdF b N = none ∧ e = .returned (.bool false)))
theorem entsZ_snoc (zs : List ZR) (z : ZR) : entsZ (zs ++ [z]) = entsZ zs ++ [z.1.e] := by unfold entsZ; rw [List.map_append]; rfl
theorem Tryz.entsS : SliceOf Tryz.prog 30 46 7 104 := SliceOf.mk' (z := .agg #[.slice none 0 0, .int .i64 0, .slice none 0 0, .int .i64 0, .int .i64 0, .int .i64 0, .slice none 0 0]) Tryz.underlying30 (by kernel_rfl) rfl (by decide)
theorem Tryz.keyS5 : SliceOf Tryz.prog 35 22 1 24 := SliceOf.mk' (z := .slice none 0 0) Tryz.underlying35 (by kernel_rfl) rfl (by decide)
def KeyAt (zs : List ZR) (A : Option Addr) (c : Nat) (key : List UInt8) : Prop := (A = none ∧ c = 0 ∧ key = []) ∨ ∃ z, z ∈ zs ∧ z.2 = (A, c, key)
theorem KeyAt.sl {zs : List ZR} {A : Option Addr} {c kl : Nat} {key : List UInt8} (h : KeyAt zs A c key) (hk : key.length = kl) {w x : World} {os : List Ob} (hx : OW w os x) (hm : ∀ z, z ∈ zs → bytO 5 z.2 ∈ os) : Sl x A kl c key := by
  rcases h with ⟨rfl, rfl, rfl⟩ | ⟨z, hz, e⟩
  · subst hk; exact Sl.none _
  · exact hx.slm (by rw [← e]; exact hm z hz) hk
theorem KeyAt.len {zs : List ZR} {A : Option Addr} {c : Nat} {key : List UInt8} (h : KeyAt zs A c key) (hz : ZOk zs) : key.length ≤ 1048 := by
  rcases h with ⟨_, _, rfl⟩ | ⟨z, hm, e⟩
  · exact Nat.zero_le _
  · obtain ⟨h1, h2⟩ := hz z hm
    rw [e] at h1
    have h1 : key = keyE z.1.e := h1
    rw [h1]; exact h2
set_option maxRecDepth 100000 in
set_option maxHeartbeats 4000000 in
theorem read_any {w x : World} {R g : Nat} {rest : List Ob} (h : OW w (blkO R g (.slice none 0 0) (.slice none 0 0) [] ++ rest) x) (b : List UInt8) (A : Option Addr) (n c N : Nat) (hn : n ≤ 1099511000000) (hN : N < 4294967296) (HS0 : ∀ z, Below w.heap.size w z → Sl z A n c b) :
    Calls Tryz.prog 31 #[.pointer (some ⟨g, 0, none⟩), .slice A n c, .int .i64 N] x (ReadP w R g rest b N) := by
  have HX := Lib.hid h
  have HS := Lib.hid HS0
  have HL : Hid (b.length = n) := Lib.hid (HS0 x h.up).rb.len
  clear h HS0
  go_enter Tryz.func31, Tryz.ntmps31
  go_wp2_with (first
    | (refine wl_alloc rfl rfl [.bool false] (.inr ⟨.bool false, (by kernel_rfl), rfl⟩) HX.out ?_; intro gk z1 hz _; replace HX := Lib.hid (hz.perm List.perm_append_comm); clear hz)
    | (refine wl_put1 rfl (.tmp 9) _ rfl HX.out 0 rfl 0 rfl (by decide) (.bool true) rfl (by kernel_rfl) rfl ?_; intro z2 hz _; have HX2 : Hid (OW w (boxO gk [.bool true] :: (blkO R g (.slice none 0 0) (.slice none 0 0) [] ++ rest)) z2) := Lib.hid hz; clear hz HX))
  go_loopw [7, 8, 19] (fun av kv i wr => ∃ (k a : Nat) (zs : List ZR) (lv sv : Value) (KA : Option Addr) (kl kc : Nat) (key : List UInt8), k ≤ N ∧ i = .int .i64 k ∧ av = .int .i64 a ∧ kv = .slice KA kl kc ∧ kl ≤ 1048 ∧ Hid (key.length = kl) ∧ Hid (KeyAt zs KA kc key) ∧ Hid (ZOk zs ∧ zs.length = k) ∧ Hid (rdF b k = some (entsZ zs, key, a)) ∧ Hid (OW w (boxO gk [.bool true] :: (blkO R g lv sv zs ++ rest)) wr)) (fun _ _ i _ => N - (intOf i).toNat)
  case atStart => exact ⟨0, 0, [], _, _, none, 0, 0, [], Nat.zero_le _, rfl, rfl, rfl, Nat.zero_le _, Lib.hid rfl, Lib.hid (.inl ⟨rfl, rfl, rfl⟩), Lib.hid ⟨(fun z h => by cases h), rfl⟩, Lib.hid rfl, HX2⟩
  case round =>
    clear HX2
    obtain ⟨k, a, zs, lv, sv, KA, kl, kc, key, hk, rfl, rfl, rfl, hkl, HKL, HKA, HZ, HRD, HX⟩ := hrel
    have hfail : Hid (∀ z os', OW w os' z → (blkO R g lv sv zs ++ rest).Sublist os' → rd1 b a key = none → k < N → ReadP w R g rest b N (.returned (.bool false)) z) := Lib.hid fun z os' h1 h2 h3 h4 => ⟨lv, sv, zs, h1.sub h2, HZ.out.1, .inr ⟨rdF_stop HRD.out h3 h4, rfl⟩⟩
    by_cases hlt : k < N
    case neg =>
      have hd : decide ((k : Int) < (N : Int)) = false := decide_eq_false (by omega)
      have hkN : k = N := by omega
      have HKN := Lib.hid hkN
      clear hkN
      go_wp2_with fail
      go_ret
      exact ⟨lv, sv, zs, HX.out.sub ((List.Sublist.refl _).cons _), HZ.out.1, .inl ⟨key, a, by rw [← HKN.out]; exact HRD.out, rfl⟩⟩
    have hd : decide ((k : Int) < (N : Int)) = true := decide_eq_true (by omega)
    obtain ⟨u, p1, e1, hR1⟩ : ∃ u p1 e1, readU b (a : Nat) = (u, p1, e1) := ⟨_, _, _, rfl⟩
    have R1 := Lib.hid hR1
    clear hR1
    by_cases he1 : e1 = 0
    case neg =>
      have HD1 : Hid (((e1 : Int) == 0) = false) := Lib.hid (beq_eq_false_iff_ne.2 (by omega))
      have HE := Lib.hid he1
      clear he1
      go_wp2_with (first
        | (go_at_call 57; go_must (refine (ru_any b A n c a _ (by omega) (HS.out _ HX.out.up).rb).mono ?_); rw [R1.out]; rintro r w1 ⟨rfl, rfl⟩)
        | (go_at_call 56; go_must (refine (need_any (e1 : Int) 0 HX.out rfl).mono ?_); rw [HD1.out]; rintro r x1 ⟨rfl, hz⟩; have HX1 : Hid (OW w (boxO gk [.bool false] :: (blkO R g lv sv zs ++ rest)) x1) := Lib.hid hz; clear hz))
      go_ret
      exact hfail.out _ _ HX1.out ((List.Sublist.refl _).cons _) (rd1_a R1.out HE.out) hlt
    have HD1 : Hid (((e1 : Int) == 0) = true) := Lib.hid (by rw [he1]; rfl)
    have HE1 := Lib.hid he1
    clear he1
    have hu64 : u < 18446744073709551616 := by have h1 := readU_val b (a : Nat); rw [R1.out] at h1; exact h1
    by_cases hu : kl < u
    case pos =>
      have hd2 : decide ((u : Int) > (kl : Int)) = true := decide_eq_true (by omega)
      go_wp2_with (first
        | (go_at_call 57; go_must (refine (ru_any b A n c a _ (by omega) (HS.out _ HX.out.up).rb).mono ?_); rw [R1.out]; rintro r w1 ⟨rfl, rfl⟩)
        | (go_at_call 56; go_must (refine (need_any (e1 : Int) 0 HX.out rfl).mono ?_); rw [HD1.out]; rintro r x1 ⟨rfl, hz⟩; have HX1 : Hid (OW w (boxO gk [.bool true] :: (blkO R g lv sv zs ++ rest)) x1) := Lib.hid hz; clear hz))
      go_ret
      exact hfail.out _ _ HX1.out ((List.Sublist.refl _).cons _) (rd1_b R1.out (by rw [HKL.out]; exact hu)) hlt
    have hd2 : decide ((u : Int) > (kl : Int)) = false := decide_eq_false (by omega)
    obtain ⟨k2, p2, e2, hR2⟩ : ∃ k2 p2 e2, readBy b (p1 : Nat) (n : Nat) = (k2, p2, e2) := ⟨_, _, _, rfl⟩
    have R2 := Lib.hid hR2
    obtain ⟨k2n, hk2n⟩ : ∃ z, z = k2.length := ⟨_, rfl⟩
    have HK2 := Lib.hid hk2n.symm
    have R1' : Hid (readU b (a : Nat) = (u, p1, 0)) := Lib.hid (by rw [← HE1.out]; exact R1.out)
    have R2L : Hid (readBy b (p1 : Nat) (b.length : Nat) = (k2, p2, e2)) := Lib.hid (by rw [HL.out]; exact R2.out)
    have hk2b : k2n ≤ 1099511000000 := by
      have h1 := readBy_le5 b (p1 : Int) (n : Int)
      rw [R2.out] at h1
      have h1 : k2.length ≤ b.length := h1
      have := HL.out
      omega
    obtain ⟨bo2, hbo2⟩ : ∃ z : Bool, ((e2 : Int) == 0) = z := ⟨_, rfl⟩
    have HD2 := Lib.hid hbo2
    clear hR2 hk2n hbo2
    have tk1 : True := trivial
    have tk2 : True := trivial
    go_upto_if 51 with (first
      | (go_at_call 57; go_must (refine (ru_any b A n c a _ (by omega) (HS.out _ HX.out.up).rb).mono ?_); rw [R1.out]; rintro r w1 ⟨rfl, rfl⟩)
      | (go_at_call 56; have _t := tk1; go_must (refine (need_any (e1 : Int) 0 HX.out rfl).mono ?_); rw [HD1.out]; rintro r x1 ⟨rfl, hz⟩; have HX1 : Hid (OW w (boxO gk [.bool true] :: (blkO R g lv sv zs ++ rest)) x1) := Lib.hid hz; clear hz tk1)
      | (go_at_call 58; go_must (refine (rby_any b A n c p1 n _ (HS.out _ HX1.out.up) (by omega) (by omega)).mono ?_); rw [R2.out]; rintro r x2 hp; obtain ⟨A3, c3, rfl, hs3, ho, hb⟩ := hp.at_ HK2.out rfl rfl; have HX2 := Lib.hid (HX1.out.addF9 (OW.byt1 hb ho)); clear hp ho hb hs3 HX1)
      | (go_at_call 56; have _t := tk2; go_must (refine (need_any (e2 : Int) 1 HX2.out rfl).mono ?_); rw [HD2.out]; rintro r x3 ⟨rfl, hz⟩; have HX3 : Hid (OW w (bytO 5 (A3, c3, k2) :: boxO gk [.bool bo2] :: (blkO R g lv sv zs ++ rest)) x3) := Lib.hid hz; clear hz tk2 HX2))
    clear HX
    cases bo2 with
    | false =>
      have hE2 : e2 ≠ 0 := fun h => by have h1 := HD2.out; rw [h] at h1; cases h1
      have HE2 := Lib.hid hE2
      clear hE2
      go_wp2_with fail
      go_ret
      exact hfail.out _ _ HX3.out (((List.Sublist.refl _).cons _).cons _) (rd1_c R1'.out (by rw [HKL.out]; omega) R2L.out HE2.out) hlt
    | true =>
    have HE2 : Hid (e2 = 0) := Lib.hid (by have h1 := HD2.out; rw [beq_iff_eq] at h1; omega)
    obtain ⟨vv, p3, e3, hR3⟩ : ∃ vv p3 e3, readBy b (p2 : Nat) 4096 = (vv, p3, e3) := ⟨_, _, _, rfl⟩
    have R3 := Lib.hid hR3
    obtain ⟨vn, hvn⟩ : ∃ z, z = vv.length := ⟨_, rfl⟩
    have HVN := Lib.hid hvn.symm
    obtain ⟨bo3, hbo3⟩ : ∃ z : Bool, ((e3 : Int) == 0) = z := ⟨_, rfl⟩
    have HD3 := Lib.hid hbo3
    clear hR3 hvn hbo3
    have R2' : Hid (readBy b (p1 : Nat) (b.length : Nat) = (k2, p2, 0)) := Lib.hid (by rw [R2L.out, HE2.out])
    have tk2 : True := trivial
    go_upto_if 62 with (first
      | (go_at_call 58; go_must (refine (rby_any b A n c p2 4096 _ (HS.out _ HX3.out.up) (by omega) (by omega)).mono ?_); rw [R3.out]; rintro r x4 hp; obtain ⟨A4, c4, rfl, hs4, ho, hb⟩ := hp.at_ HVN.out rfl rfl; have HX4 := Lib.hid (HX3.out.addF9 (OW.byt1 hb ho)); clear hp ho hb hs4)
      | (go_at_call 56; have _t := tk2; go_must (refine (need_any (e3 : Int) 2 HX4.out rfl).mono ?_); rw [HD3.out]; rintro r x5 ⟨rfl, hz⟩; have HX5 : Hid (OW w (bytO 5 (A4, c4, vv) :: bytO 5 (A3, c3, k2) :: boxO gk [.bool bo3] :: (blkO R g lv sv zs ++ rest)) x5) := Lib.hid hz; clear hz tk2))
    clear HX3
    cases bo3 with
    | false =>
      have hE3 : e3 ≠ 0 := fun h => by have h1 := HD3.out; rw [h] at h1; cases h1
      have HE3 := Lib.hid hE3
      clear hE3
      go_wp2_with fail
      go_ret
      exact hfail.out _ _ HX5.out ((((List.Sublist.refl _).cons _).cons _).cons _) (rd1_d R1'.out (by rw [HKL.out]; omega) R2'.out R3.out HE3.out) hlt
    | true =>
    have HE3 : Hid (e3 = 0) := Lib.hid (by have h1 := HD3.out; rw [beq_iff_eq] at h1; omega)
    have R3' : Hid (readBy b (p2 : Nat) 4096 = (vv, p3, 0)) := Lib.hid (by rw [R3.out, HE3.out])
    obtain ⟨K, hK⟩ : ∃ z, z = key.take u ++ k2 := ⟨_, rfl⟩
    obtain ⟨kn, hkn⟩ : ∃ z, z = K.length := ⟨_, rfl⟩
    obtain ⟨pe, pf, hP⟩ : ∃ pe pf, ParseKeyE K = (pe, pf) := ⟨_, _, rfl⟩
    obtain ⟨bo4, hbo4⟩ : ∃ z : Bool, (pf == 0) = z := ⟨_, rfl⟩
    have HK := Lib.hid hK
    have HKN := Lib.hid hkn.symm
    have HP := Lib.hid hP
    have HD4 := Lib.hid hbo4
    have hknb : kn ≤ 1099511001048 := by rw [hkn, hK, List.length_append, List.length_take]; have := HKL.out; have := HK2.out; omega
    have HFL : Hid ([key.take u, k2].flatten = K) := Lib.hid (by rw [hK]; simp)
    have hkcap : kl ≤ kc := by
      have h1 := (HKA.out.sl HKL.out HX5.out fun z hz => List.mem_cons_of_mem _ (List.mem_cons_of_mem _ (List.mem_cons_of_mem _ (List.mem_append_left _ (rowZ_mem hz (by simp [rowsZ])))))).cap
      exact h1
    have HSK : Hid (Sl x5 KA u kc (key.take u)) := Lib.hid ((HKA.out.sl HKL.out HX5.out fun z hz => List.mem_cons_of_mem _ (List.mem_cons_of_mem _ (List.mem_cons_of_mem _ (List.mem_append_left _ (rowZ_mem hz (by simp [rowsZ])))))).take (by omega))
    have HSR : Hid (Sl x5 A3 k2n c3 k2) := Lib.hid (HX5.out.sl (i := 1) rfl HK2.out)
    clear hK hkn hP hbo4
    have i1 : (0 : Int) ≤ (u : Int) := by omega
    have i2 : (u : Int) ≤ (kc : Int) := by omega
    have tk3 : True := trivial
    go_upto_if 77 with (first
      | (go_at_call 59; go_must (refine (sconcat_any [key.take u, k2] _ 2 2 _ (by omega) (by exact rbs_two HSK.out HSR.out _ _) (by rw [HFL.out, HKN.out]; omega)).mono ?_); rw [HFL.out]; rintro r x6 hp; obtain ⟨A5, c5, rfl, _, ho, hb⟩ := hp.at_ HKN.out; have HX6 := Lib.hid ((HX5.out.al (.cells #[.slice KA u kc, .slice A3 k2n c3] 22)).addF9 (OW.byt1 hb ho)); clear hp ho hb)
      | (go_at_call 60; go_must (refine (parsekey_any K A5 kn c5 _ (HX6.out.sl (i := 0) rfl HKN.out) (by omega)).mono ?_); rw [HP.out]; rintro r x7 ⟨A6, c6, B6, d6, D6, q6, rfl, hr, hb⟩; have HX7 := Lib.hid (HX6.out.addF9 (OW.rows1 hb hr)); clear hr hb)
      | (refine wl_alloc rfl rfl [.slice none 0 0, .int .i64 0, .slice none 0 0, .int .i64 0, .int .i64 0, .int .i64 0, .slice none 0 0] (.inl (by kernel_rfl)) HX7.out ?_; intro ge z8 hz _; have HX8 := Lib.hid (hz.perm List.perm_append_comm); clear hz)
      | (refine wl_put rfl (.tmp 16) (.tmp 72) rfl HX8.out 0 rfl rfl [.slice A6 pe.row.length c6, .int .i64 pe.fam, .slice B6 pe.qual.length d6, .int .i64 pe.ts, .int .i64 pe.seq, .int .i64 pe.kind, .slice D6 pe.val.length q6] rfl rfl (by kernel_rfl) (by simp [Value.oneCell']) ?_; intro z9 hz _; have HX9 := Lib.hid hz; clear hz HX8)
      | (go_at_call 56; have _t := tk3; go_must (refine (need_any pf 7 HX9.out rfl).mono ?_); rw [HD4.out]; rintro r x9 ⟨rfl, hz⟩; have HX10 : Hid (OW w (boxO ge [.slice A6 pe.row.length c6, .int .i64 pe.fam, .slice B6 pe.qual.length d6, .int .i64 pe.ts, .int .i64 pe.seq, .int .i64 pe.kind, .slice D6 pe.val.length q6] :: bytO 5 (A6, c6, pe.row) :: bytO 5 (B6, d6, pe.qual) :: bytO 5 (D6, q6, pe.val) :: bytO 5 (A5, c5, K) :: bytO 5 (A4, c4, vv) :: bytO 5 (A3, c3, k2) :: boxO gk [.bool bo4] :: (blkO R g lv sv zs ++ rest)) x9) := Lib.hid hz; clear hz tk3))
    clear HX5 HX6 HX7 HX9
    have HL1 : Hid (zs.length = k) := Lib.hid HZ.out.2
    cases bo4 with
    | false =>
      have hE4 : pf ≠ 0 := fun h => by have h1 := HD4.out; rw [h] at h1; cases h1
      have HE4 := Lib.hid hE4
      clear hE4
      go_wp2_with fail
      go_ret
      exact hfail.out _ _ HX10.out (.cons _ (.cons _ (.cons _ (.cons _ (.cons _ (.cons _ (.cons _ (.cons _ (List.Sublist.refl _))))))))) (rd1_e R1'.out (by rw [HKL.out]; omega) R2'.out R3'.out (by rw [← HK.out]; exact HP.out) HE4.out) hlt
    | true =>
    have hE4 : pf = 0 := by have h1 := HD4.out; rw [beq_iff_eq] at h1; exact h1
    have HPI := ParseKey_is (b := K) (by rw [HP.out]; exact hE4)
    rw [HP.out] at HPI
    have HPE := Lib.hid HPI
    have hkn3 : kn ≤ 1048 := by have h1 := keyE_len HPI.1; rw [HPI.2.1, HKN.out] at h1; exact h1
    have HRG : Hid (rdF b (k + 1) = some (entsZ zs ++ [{ pe with val := vv }], K, p3)) := Lib.hid (rdF_go HRD.out (by
      have h1 := rd1_ok (key := key) R1'.out (by rw [HKL.out]; omega) R2'.out R3'.out (by rw [← HK.out, HP.out, hE4])
      rw [← HK.out] at h1
      exact h1))
    clear hE4 HPI
    obtain ⟨LA, lc, hlv, _⟩ := own_slice (HX10.out.row (i := 9) rfl)
    obtain ⟨SA, sc, hsv, _⟩ := own_slice (HX10.out.row (i := 10) rfl)
    obtain ⟨M, hM⟩ : ∃ z, z = (zs.reverse.flatMap rowsZ).map (bytO 5) ++ rest := ⟨_, rfl⟩
    obtain ⟨EC, hEC⟩ : ∃ z, z = zs.flatMap (·.1.cells) := ⟨_, rfl⟩
    obtain ⟨KC, hKC⟩ : ∃ z, z = zs.map (valR ·.2) := ⟨_, rfl⟩
    have HX11 : Hid (OW w (boxO ge [.slice A6 pe.row.length c6, .int .i64 pe.fam, .slice B6 pe.qual.length d6, .int .i64 pe.ts, .int .i64 pe.seq, .int .i64 pe.kind, .slice D6 pe.val.length q6] :: bytO 5 (A6, c6, pe.row) :: bytO 5 (B6, d6, pe.qual) :: bytO 5 (D6, q6, pe.val) :: bytO 5 (A5, c5, K) :: bytO 5 (A4, c4, vv) :: bytO 5 (A3, c3, k2) :: boxO gk [.bool true] :: boxO g [i64v R, .slice LA k lc, .slice SA k sc] :: rowO 46 7 (.slice LA k lc) (k) (EC) :: rowO 22 1 (.slice SA k sc) (k) (KC) :: M) x9) := Lib.hid (by
      have h := HX10.out
      rw [hlv, hsv] at h
      unfold blkO at h
      rw [HL1.out, ← hEC, ← hKC, List.cons_append, List.cons_append, List.cons_append, ← hM] at h
      exact h)
    have HM := Lib.hid hM
    have HEC := Lib.hid hEC
    have HKC := Lib.hid hKC
    clear HX10 hM hEC hKC hlv hsv
    go_wp2_with (refine wl_put1 rfl (.tmp 79) (.tmp 78) rfl HX11.out 0 rfl 6 rfl (by show 6 < 7; decide) (.slice A4 vn c4) rfl (by kernel_rfl) rfl ?_; intro x10 hz _; have HX12 : Hid (OW w (boxO ge [.slice A6 pe.row.length c6, .int .i64 pe.fam, .slice B6 pe.qual.length d6, .int .i64 pe.ts, .int .i64 pe.seq, .int .i64 pe.kind, .slice A4 vn c4] :: bytO 5 (A6, c6, pe.row) :: bytO 5 (B6, d6, pe.qual) :: bytO 5 (D6, q6, pe.val) :: bytO 5 (A5, c5, K) :: bytO 5 (A4, c4, vv) :: bytO 5 (A3, c3, k2) :: boxO gk [.bool true] :: boxO g [i64v R, .slice LA k lc, .slice SA k sc] :: rowO 46 7 (.slice LA k lc) (k) (EC) :: rowO 22 1 (.slice SA k sc) (k) (KC) :: M) x10) := Lib.hid hz; clear hz HX11)
    refine lt_start [7, 10] (by kernel_rfl) ?_
    intro xd hd
    refine ⟨fun z => OW w (boxO ge [.slice A6 pe.row.length c6, .int .i64 pe.fam, .slice B6 pe.qual.length d6, .int .i64 pe.ts, .int .i64 pe.seq, .int .i64 pe.kind, .slice A4 vn c4] :: bytO 5 (A6, c6, pe.row) :: bytO 5 (B6, d6, pe.qual) :: bytO 5 (D6, q6, pe.val) :: bytO 5 (A5, c5, K) :: bytO 5 (A4, c4, vv) :: bytO 5 (A3, c3, k2) :: boxO gk [.bool true] :: boxO g [i64v R, .slice LA k lc, .slice SA k sc] :: rowO 46 7 (.slice LA k lc) (k) (EC) :: rowO 22 1 (.slice SA k sc) (k) (KC) :: M) z, ?_⟩
    have HS2 := Lib.hid (HX12.out.later hd)
    refine lt_pure 0 rfl (by kernel_rfl) (by kernel_rfl) (by kernel_rfl) (by kernel_rfl) (fun _ _ _ h => h) (v := ?_) (yi_run rfl (fun w => ?_)) (fun _ => HS2.out) ?_
    rotate_left
    · first | (go_simp; done) | (go_simp; with_reducible rfl)
    simp only [Act.put, List.setIfInBounds_toArray, List.set_cons_zero, List.set_cons_succ]
    refine lt_pure 1 rfl (by kernel_rfl) (by kernel_rfl) (by kernel_rfl) (by kernel_rfl) (fun _ _ _ h => h) (v := ?_) (yi_run rfl (fun w => ?_)) (fun _ => HS2.out) ?_
    rotate_left
    · first | (go_simp; done) | (go_simp; with_reducible rfl)
    simp only [Act.put, List.setIfInBounds_toArray, List.set_cons_zero, List.set_cons_succ]
    refine lt_pure 2 rfl (by kernel_rfl) (by kernel_rfl) (by kernel_rfl) (by kernel_rfl) (fun _ _ _ h => h) (v := ?_) (yi_run rfl (fun w => ?_)) (fun _ => HS2.out) ?_
    rotate_left
    · first | (go_simp; done) | (go_simp; with_reducible rfl)
    simp only [Act.put, List.setIfInBounds_toArray, List.set_cons_zero, List.set_cons_succ]
    refine lt_pure 3 rfl (by kernel_rfl) (by kernel_rfl) (by kernel_rfl) (by kernel_rfl) (fun _ _ _ h => h) (v := ?_) (yi_run rfl (fun w => ?_)) (fun _ => HS2.out) ?_
    rotate_left
    · first | (go_simp; done) | (go_simp; with_reducible rfl)
    simp only [Act.put, List.setIfInBounds_toArray, List.set_cons_zero, List.set_cons_succ]
    refine lt_take 4 [7, 8, 9, 10] rfl (by kernel_rfl) (by kernel_rfl) (by kernel_rfl) (by kernel_rfl) (by kernel_rfl) (fun _ _ _ h => h) (yi_cell rfl rfl rfl (fun w hS => OW.cell hS (i := 8) (j := 1) rfl rfl) (fun w => Tryz.isAgg30 w)) HS2.out ?_
    simp only [Act.put, List.setIfInBounds_toArray, List.set_cons_zero, List.set_cons_succ]
    refine lt_take 5 [6, 7, 8, 9, 10] rfl (by kernel_rfl) (by kernel_rfl) (by kernel_rfl) (by kernel_rfl) (by kernel_rfl) (fun _ _ _ h => h) (yi_row rfl rfl rfl (fun w hS => OW.range hS (i := 0) rfl) ent_row5) HS2.out ?_
    simp only [Act.put, List.setIfInBounds_toArray, List.set_cons_zero, List.set_cons_succ]
    refine lt_op 6 rfl (by kernel_rfl) rfl ?_
    refine wpo_build rfl #[.slice A6 pe.row.length c6, .int .i64 pe.fam, .slice B6 pe.qual.length d6, .int .i64 pe.ts, .int .i64 pe.seq, .int .i64 pe.kind, .slice A4 vn c4] Tryz.entsS (.agg #[.slice none 0 0, .int .i64 0, .slice none 0 0, .int .i64 0, .int .i64 0, .int .i64 0, .slice none 0 0]) (by kernel_rfl) (by decide) (by decide) (by decide) rfl (by kernel_rfl) HS2.out ?_
    intro g4 y4 hz hb
    have HR : Hid (Reads y4 y4.heap.size 7 (some ⟨g4, 0, none⟩) 1 [.slice A6 pe.row.length c6, .int .i64 pe.fam, .slice B6 pe.qual.length d6, .int .i64 pe.ts, .int .i64 pe.seq, .int .i64 pe.kind, .slice A4 vn c4]) := Lib.hid (Reads.own (OW.row (OW.right hz) (i := 0) rfl))
    replace HS2 := Lib.hid (HS2.out.later hb)
    clear hz hb
    refine ⟨fun _ => HS2.out, ?_⟩
    simp only [Act.put, List.setIfInBounds_toArray, List.set_cons_zero, List.set_cons_succ]
    refine lt_end 7 rfl (by kernel_rfl) rfl (by kernel_rfl) ?_
    refine wpo_append (.tmp 84) (.tmp 86) rfl Tryz.entsS HS2.out 9 rfl rfl _ (some ⟨g4, 0, none⟩) 1 1 [.slice A6 pe.row.length c6, .int .i64 pe.fam, .slice B6 pe.qual.length d6, .int .i64 pe.ts, .int .i64 pe.seq, .int .i64 pe.kind, .slice A4 vn c4] rfl HR.out (by simp [Value.oneCell']) (by unfold maxLen; omega) (by omega) ?_
    intro A7 c7 y5 hz _
    have HY := Lib.hid hz
    clear hz HR
    simp only [Act.put, List.setIfInBounds_toArray, List.set_cons_zero, List.set_cons_succ]
    refine lt_pureF 8 rfl (by kernel_rfl) (by kernel_rfl) (by kernel_rfl) (by kernel_rfl) (by kernel_rfl) (fun _ _ _ h => h) (v := ?_) (yi_run rfl (fun w => ?_)) ?_
    rotate_left
    · first | (go_simp; done) | (go_simp; with_reducible rfl)
    simp only [Act.put, List.setIfInBounds_toArray, List.set_cons_zero, List.set_cons_succ]
    refine lt_pureF 9 rfl (by kernel_rfl) (by kernel_rfl) (by kernel_rfl) (by kernel_rfl) (by kernel_rfl) (fun _ _ _ h => h) (v := ?_) (yi_run rfl (fun w => ?_)) ?_
    rotate_left
    · first | (go_simp; done) | (go_simp; with_reducible rfl)
    simp only [Act.put, List.setIfInBounds_toArray, List.set_cons_zero, List.set_cons_succ]
    refine lt_end 10 rfl (by kernel_rfl) rfl (by kernel_rfl) ?_
    refine wpo_put1 rfl HY.out 8 rfl 1 rfl (by show 1 < 3; decide) (.slice A7 (k + 1) c7) rfl (by kernel_rfl) rfl ?_
    intro y6 hz _
    replace HY : Hid (OW w (boxO ge [.slice A6 pe.row.length c6, .int .i64 pe.fam, .slice B6 pe.qual.length d6, .int .i64 pe.ts, .int .i64 pe.seq, .int .i64 pe.kind, .slice A4 vn c4] :: bytO 5 (A6, c6, pe.row) :: bytO 5 (B6, d6, pe.qual) :: bytO 5 (D6, q6, pe.val) :: bytO 5 (A5, c5, K) :: bytO 5 (A4, c4, vv) :: bytO 5 (A3, c3, k2) :: boxO gk [.bool true] :: boxO g [i64v R, .slice A7 (k + 1) c7, .slice SA k sc] :: rowO 46 7 (.slice A7 (k + 1) c7) (k + 1) (EC ++ [.slice A6 pe.row.length c6, .int .i64 pe.fam, .slice B6 pe.qual.length d6, .int .i64 pe.ts, .int .i64 pe.seq, .int .i64 pe.kind, .slice A4 vn c4]) :: rowO 22 1 (.slice SA k sc) (k) (KC) :: M) y6) := Lib.hid hz
    clear hz
    simp only [Act.put]
    refine lt_done (by kernel_rfl) ?_
    clear HS2
    have tk9 : True := trivial
    go_wp2_with (first
      | (refine wpList_load_cell rfl 35 (.tmp 93) rfl rfl (HY.out.cell (i := 8) (j := 2) rfl rfl) (fun w => Tryz.isAgg35 w) ?_)
      | (at_builtin; have _t := tk9; go_must (refine wl_append rfl (.tmp 94) (.tmp 96) rfl Tryz.keyS5 (HY.out.al (.cells #[.slice A5 kn c5] 22)) 10 rfl rfl _ (some ⟨y6.heap.size, 0, none⟩) 1 1 [.slice A5 kn c5] rfl (lit_one8 _ _ _ _ rfl) (by simp [Value.oneCell']) (by unfold maxLen; omega) (by omega) ?_); intro A8 c8 y7 hz _; have HQ := Lib.hid hz; clear hz tk9 HY)
      | (refine wl_put1 rfl (.tmp 99) (.tmp 97) rfl HQ.out 8 rfl 2 rfl (by show 2 < 3; decide) (.slice A8 (k + 1) c8) rfl (by kernel_rfl) rfl ?_; intro y8 hz _; have HQ2 : Hid (OW w (boxO ge [.slice A6 pe.row.length c6, .int .i64 pe.fam, .slice B6 pe.qual.length d6, .int .i64 pe.ts, .int .i64 pe.seq, .int .i64 pe.kind, .slice A4 vn c4] :: bytO 5 (A6, c6, pe.row) :: bytO 5 (B6, d6, pe.qual) :: bytO 5 (D6, q6, pe.val) :: bytO 5 (A5, c5, K) :: bytO 5 (A4, c4, vv) :: bytO 5 (A3, c3, k2) :: boxO gk [.bool true] :: boxO g [i64v R, .slice A7 (k + 1) c7, .slice A8 (k + 1) c8] :: rowO 46 7 (.slice A7 (k + 1) c7) (k + 1) (EC ++ [.slice A6 pe.row.length c6, .int .i64 pe.fam, .slice B6 pe.qual.length d6, .int .i64 pe.ts, .int .i64 pe.seq, .int .i64 pe.kind, .slice A4 vn c4]) :: rowO 22 1 (.slice A8 (k + 1) c8) (k + 1) (KC ++ [.slice A5 kn c5]) :: M) y8) := Lib.hid hz; clear hz HQ))
    go_roundw
    case rel =>
      refine ⟨k + 1, p3, zs ++ [(⟨A6, c6, B6, d6, A4, c4, { pe with val := vv }⟩, (A5, c5, K))], .slice A7 (k + 1) c7, .slice A8 (k + 1) c8, A5, kn, c5, K, by omega, by go_num, rfl, rfl, hkn3, HKN, Lib.hid (.inr ⟨_, List.mem_append_right _ (List.mem_singleton.2 rfl), rfl⟩), Lib.hid ⟨fun z hz => ?_, by rw [List.length_append, HL1.out]; rfl⟩, Lib.hid (by rw [entsZ_snoc]; exact HRG.out), Lib.hid ?_⟩
      · rcases List.mem_append.1 hz with h1 | h1
        · exact HZ.out.1 z h1
        · obtain rfl := List.mem_singleton.1 h1
          exact ⟨HPE.out.2.1.symm, (show (keyE pe).length ≤ 1048 from keyE_len HPE.out.1)⟩
      · have h := HQ2.out
        have h := (((((((h.front (i := 4) rfl).front (i := 5) rfl).front (i := 4) rfl).front (i := 4) rfl).front (i := 10) rfl).front (i := 10) rfl).front (i := 10) rfl).front (i := 10) rfl
        have e1 : (zs ++ [((⟨A6, c6, B6, d6, A4, c4, { pe with val := vv }⟩ : ER), (A5, c5, K))]).length = k + 1 := by rw [List.length_append, HL1.out]; rfl
        have e2 : (zs ++ [((⟨A6, c6, B6, d6, A4, c4, { pe with val := vv }⟩ : ER), (A5, c5, K))]).flatMap (·.1.cells) = EC ++ [.slice A6 pe.row.length c6, .int .i64 pe.fam, .slice B6 pe.qual.length d6, .int .i64 pe.ts, .int .i64 pe.seq, .int .i64 pe.kind, .slice A4 vn c4] := by
          rw [List.flatMap_append, HEC.out]; simp only [List.flatMap_cons, List.flatMap_nil, List.append_nil, ER.cells]; rw [HVN.out]
        have e3 : (zs ++ [((⟨A6, c6, B6, d6, A4, c4, { pe with val := vv }⟩ : ER), (A5, c5, K))]).map (valR ·.2) = KC ++ [.slice A5 kn c5] := by
          rw [List.map_append, HKC.out]; simp only [List.map_cons, List.map_nil, valR]; rw [HKN.out]
        unfold blkO
        rw [e1, e2, e3, List.reverse_append, List.flatMap_append, List.map_append, List.cons_append, List.cons_append, List.cons_append, List.append_assoc, ← HM.out]
        exact OW.sub h (.cons_cons _ (.cons_cons _ (.cons_cons _ (.cons_cons _ (.cons_cons _ (.cons_cons _ (.cons_cons _ (.cons_cons _ (.cons _ (.cons _ (.cons _ (List.Sublist.refl _))))))))))))
    case measure => simp [intOf]; omega
end Go.Proofs.YtmigjipfomfacaaGreatDoor
namespace Go.Proofs.YtmigjipfomfacaaGreatDoor
open Go.RowKit
def Bk5 (R : Nat) (L : List Ent) (g : Nat) (os : List Ob) : Prop := ∃ lv kv zs, os = blkO R g lv kv zs ∧ entsZ zs = L ∧ ZOk zs
def OpenP (b : List UInt8) (w : World) (e : Ending) (z : World) : Prop :=
  (∃ L g os, (openE b).1 = some L ∧ e = .returned (.tuple #[.pointer (some ⟨g, 0, none⟩), .int .i64 0]) ∧ Bk5 (resB b) L g os ∧ OW w os z) ∨
  ((openE b).1 = none ∧ e = .returned (.tuple #[.pointer none, .int .i64 (openE b).2]) ∧ Below w.heap.size w z)
theorem open_no {b : List UInt8} {w z : World} {k : Int} (h : openE b = (none, k)) (hb : Below w.heap.size w z) : OpenP b w (.returned (.tuple #[.pointer none, .int .i64 k])) z :=
  .inr ⟨by rw [h], by rw [h], hb⟩
theorem blk_ens {w x : World} {R g : Nat} {lv kv : Value} {zs : List ZR} {rest : List Ob} (h : OW w (blkO R g lv kv zs ++ rest) x) : ∃ A c, lv = .slice A zs.length c ∧ Ens x A zs.length (entsZ zs) := by
  obtain ⟨A, c, rfl, _⟩ := own_slice (h.row (i := 1) rfl)
  refine ⟨A, c, rfl, zs.map (·.1), by unfold entsZ; rw [List.map_map]; rfl, ?_, fun r hr => ?_⟩
  · have h1 := Reads.own (h.row (i := 1) rfl)
    have e : zs.flatMap (·.1.cells) = (zs.map (·.1)).flatMap ER.cells := by rw [List.flatMap_map]
    rw [e] at h1
    exact h1
  · obtain ⟨z, hz, rfl⟩ := List.mem_map.1 hr
    refine ⟨h.slm (T := 5) (List.mem_append_left _ (rowZ_mem hz (by simp [rowsZ]))) rfl, h.slm (T := 5) (List.mem_append_left _ (rowZ_mem hz (by simp [rowsZ]))) rfl, h.slm (T := 5) (List.mem_append_left _ (rowZ_mem hz (by simp [rowsZ]))) rfl⟩
theorem openR_zero {b : List UInt8} (h : resB b = 0) (r : Option (List Ent × List UInt8 × Nat)) : openR b r = (none, 51) := by
  cases r with
  | none => rfl
  | some r =>
    unfold openR
    simp only []
    rw [if_neg]
    rw [h]
    intro e
    unfold buildE5 at e
    rw [if_pos (.inl (by decide))] at e
    injection e with _ e
    cases e
theorem ReadP.form {w z : World} {R g N : Nat} {rest : List Ob} {b : List UInt8} {e : Ending} (h : ReadP w R g rest b N e z) : ∃ lv kv zs bo, e = .returned (.bool bo) ∧ OW w (blkO R g lv kv zs ++ rest) z ∧ ZOk zs ∧ (bo = true → ∃ key a, rdF b N = some (entsZ zs, key, a)) ∧ (bo = false → rdF b N = none) := by
  obtain ⟨lv, kv, zs, h1, h2, ⟨key, a, h3, h4⟩ | ⟨h3, h4⟩⟩ := h
  · exact ⟨lv, kv, zs, true, h4, h1, h2, (fun _ => ⟨key, a, h3⟩), fun h => by cases h⟩
  · exact ⟨lv, kv, zs, false, h4, h1, h2, (fun h => by cases h), fun _ => h3⟩
set_option maxRecDepth 100000 in
set_option maxHeartbeats 4000000 in
theorem open_any (b : List UInt8) (A : Option Addr) (n c : Nat) (w : World) (hs : Sl w A n c b) (ht : TabAt 0 w) :
    Calls Tryz.prog 9 #[.slice A n c] w (OpenP b w) := by
  have HL := Lib.hid hs.rb.len
  by_cases h1 : 131072 < n
  case pos =>
    have HP : Hid (openE b = (none, 2)) := Lib.hid (by unfold openE; rw [if_pos (by rw [HL.out]; exact h1)])
    have hd : decide ((n : Int) > 131072) = true := decide_eq_true (by omega)
    clear hs ht
    go_enter Tryz.func9, Tryz.ntmps9
    go_wp2_with fail
    go_ret2
    exact open_no HP.out (Below.refl _ _)
  have hd1 : decide ((n : Int) > 131072) = false := decide_eq_false (by omega)
  by_cases h2 : n < 9
  case pos =>
    have HP : Hid (openE b = (none, 51)) := Lib.hid (by unfold openE; rw [if_neg (by rw [HL.out]; exact h1), if_pos (by rw [HL.out]; exact h2)])
    have hd : decide ((n : Int) < 9) = true := decide_eq_true (by omega)
    clear hs ht
    go_enter Tryz.func9, Tryz.ntmps9
    go_wp2_with fail
    go_ret2
    exact open_no HP.out (Below.refl _ _)
  have hd2 : decide ((n : Int) < 9) = false := decide_eq_false (by omega)
  have HSM : Hid (∀ z, Below w.heap.size w z → Calls Tryz.prog 30 #[.slice A n c] z fun e w' => e = .returned (.bool (sumOkB b)) ∧ Below z.heap.size z w') := Lib.hid fun z hz => by
    unfold sumOkB
    rw [HL.out]
    exact summed_any b A n c z (hs.later hz) (by omega) (ht.later hz)
  cases h3 : sumOkB b with
  | false =>
    have HP : Hid (openE b = (none, 52)) := Lib.hid (by unfold openE; rw [if_neg (by rw [HL.out]; exact h1), if_neg (by rw [HL.out]; exact h2), if_pos h3])
    rw [h3] at HSM
    clear hs ht h3
    go_enter Tryz.func9, Tryz.ntmps9
    go_wp2_with (go_at_call 30; go_must (refine (HSM.out _ (Below.refl _ _)).mono ?_); rintro e z1 ⟨rfl, hb⟩; have HB := Lib.hid hb; clear hb)
    go_ret2
    exact open_no HP.out HB.out
  | true =>
  rw [h3] at HSM
  obtain ⟨k, rfl⟩ : ∃ k, n = k + 9 := ⟨n - 9, by omega⟩
  have HPE : Hid (openE b = openR b (rdF (b.take k) (cntB b))) := Lib.hid (by
    unfold openE
    rw [if_neg (by rw [HL.out]; exact h1), if_neg (by rw [HL.out]; exact h2), if_neg (by rw [h3]; decide), HL.out]; rfl)
  obtain ⟨N, hN⟩ : ∃ z, z = cntB b := ⟨_, rfl⟩
  obtain ⟨r, hr⟩ : ∃ z, z = resB b := ⟨_, rfl⟩
  have hN32 : N < 4294967296 := by rw [hN]; exact numF_lt _ _
  have hr8 : r ≤ 255 := by rw [hr]; unfold resB; have := (b[b.length - 5]?.getD 0).toNat_lt; omega
  obtain ⟨b1, o1, _, rfl, hbl, _, _⟩ := hs.rb.at_ (show 0 < k + 9 by omega)
  have HSL : Hid (∀ z, Below w.heap.size w z → Sl z (some ⟨b1, o1, none⟩) (k + 9) c b) := Lib.hid fun z hz => hs.later hz
  have HTK : Hid (∀ z, Below w.heap.size w z → Sl z (some ⟨b1, o1, none⟩) k c (b.take k)) := Lib.hid fun z hz => (hs.later hz).take (by omega)
  have HTB : Hid (∀ z, Below w.heap.size w z → TabAt 0 z) := Lib.hid fun z hz => ht.later hz
  have HCE : Hid (∀ i, i < 9 → ∀ z, Below w.heap.size w z → z.cell? ⟨b1, o1 + (k + i), none⟩ = some (.int .u8 ((b[k + i]?.getD 0).toNat : Int))) := Lib.hid fun i hi z hz =>
    (hs.later hz).rb.cell (k := k + i) (by rw [List.getElem?_eq_getElem (by have := HL.out; omega)]; rfl)
  have HM : Hid (bits .or .i64 (bits .or .i64 (bits .or .i64 (wrap64 (wrap64 ((b[k]?.getD 0).toNat : Int) * 16777216)) (wrap64 (wrap64 ((b[k + 1]?.getD 0).toNat : Int) * 65536))) (wrap64 (wrap64 ((b[k + 2]?.getD 0).toNat : Int) * 256))) (wrap64 ((b[k + 3]?.getD 0).toNat : Int)) = (N : Int)) := Lib.hid (by
    rw [numB_walk, hN]; unfold cntB; rw [HL.out]; rfl)
  have HR4 : Hid (((b[k + 4]?.getD 0).toNat : Int) = (r : Int)) := Lib.hid (by rw [hr]; unfold resB; rw [HL.out]; rfl)
  have hcap := hs.cap
  have hlim := hs.lim
  have c4 := HCE.out 4 (by omega) w (Below.refl _ _)
  rw [HR4.out] at c4
  have HN := Lib.hid hN
  have HR := Lib.hid hr
  have hk1 : k ≤ 131063 := by omega
  clear hs ht h3 hN hr hd1 hd2 h1 h2
  have hd1 : decide ((k : Int) + 9 > 131072) = false := decide_eq_false (by omega)
  have hd2 : decide ((k : Int) + 9 < 9) = false := decide_eq_false (by omega)
  go_enter Tryz.func9, Tryz.ntmps9
  go_upto_region 7 with (first
    | (go_at_call 30; go_must (refine (HSM.out _ (Below.refl _ _)).mono ?_); rintro e z1 ⟨rfl, hb⟩; have HB := Lib.hid hb; have HX0 := Lib.hid ((OW.nil w).later hb); have c4 := HCE.out 4 (by omega) z1 HB.out; rw [HR4.out] at c4; clear hb))
  have i1 : (0 : Int) ≤ (k : Int) + 4 := by omega
  have i2 : ((k : Int) + 4).toNat = k + 4 := by omega
  have i3 : (0 : Int) ≤ (k : Int) := by omega
  have i4 : (k : Int) ≤ (c : Int) := by omega
  have i5 : (k : Int) ≤ (k : Int) + 9 := by omega
  go_wp2_with (first
    | (refine wl_box rfl (.tmp 28) rfl [.int .i64 (r : Int), .slice none 0 0, .slice none 0 0] rfl HX0.out ?_; intro g x1 hz _; have HX := Lib.hid ((hz.nilRow 46 7).nilRow 22 1); clear hz HX0))
  have c0 := HCE.out 0 (by omega) x1 HX.out.up
  have c1 := HCE.out 1 (by omega) x1 HX.out.up
  have c2 := HCE.out 2 (by omega) x1 HX.out.up
  have c3 := HCE.out 3 (by omega) x1 HX.out.up
  rw [Nat.add_zero] at c0
  rw [← Nat.add_assoc] at c1 c2 c3
  clear c4 i1 i2 i5
  go_quiet (fail)
  rw [HM.out]
  have HXB : Hid (OW w (blkO r g (.slice none 0 0) (.slice none 0 0) [] ++ []) (x1.drewN nq)) := Lib.hid (by
    have h := HX.out.later (below_drewN (n := nq) (Below.refl _ _))
    exact h)
  clear c0 c1 c2 c3 HX HM HCE
  generalize x1.drewN nq = x2 at *
  by_cases hr0 : r = 0
  case pos =>
    have HP : Hid (openE b = (none, 51)) := Lib.hid (by rw [HPE.out]; exact openR_zero (by rw [← HR.out]; exact hr0) _)
    have hd0 : ((r : Int) == 0) = true := by rw [hr0]; rfl
    clear hr0
    go_wp2_with (refine wpList_load_cell rfl 3 (.tmp 59) rfl rfl (show _ = some (Value.int .i64 (r : Int)) from HXB.out.cell (i := 0) (j := 0) rfl rfl) (fun w => Tryz.isAgg3 w) ?_)
    go_ret2
    exact open_no HP.out HXB.out.up
  have hd0 : ((r : Int) == 0) = false := beq_eq_false_iff_ne.2 (by omega)
  clear hr0
  go_upto_if 72 with (first
    | (refine wpList_load_cell rfl 3 (.tmp 59) rfl rfl (show _ = some (Value.int .i64 (r : Int)) from HXB.out.cell (i := 0) (j := 0) rfl rfl) (fun w => Tryz.isAgg3 w) ?_)
    | (go_at_call 31; go_must (refine (read_any (R := r) (g := g) (rest := []) HXB.out (b.take k) _ k c N (by omega) hN32 HTK.out).mono ?_); intro e z3 hp; obtain ⟨lv, kv, zs, bo, rfl, hx, hz, ht, hf⟩ := hp.form; have HX3 := Lib.hid hx; have HZ := Lib.hid hz; have HBT := Lib.hid ht; have HBF := Lib.hid hf; clear hp hx hz ht hf HXB))
  cases bo with
  | false =>
    have HP : Hid (openE b = (none, 51)) := Lib.hid (by rw [HPE.out, ← HN.out, HBF.out rfl]; rfl)
    go_wp2_with fail
    go_ret2
    exact open_no HP.out HX3.out.up
  | true =>
  obtain ⟨LA, lc, rfl, _⟩ := blk_ens HX3.out
  obtain ⟨L, hL⟩ : ∃ z, z = entsZ zs := ⟨_, rfl⟩
  obtain ⟨m, hm⟩ : ∃ z, z = zs.length := ⟨_, rfl⟩
  obtain ⟨B, be, hB⟩ : ∃ B be, buildE5 (r : Int) L = (B, be) := ⟨_, _, rfl⟩
  have HPQ : Hid (openE b = if (B, be) = (b, 0) then (some L, 0) else (none, 51)) := Lib.hid (by
    obtain ⟨key, a, h⟩ := HBT.out rfl
    rw [HPE.out, ← HN.out, h, ← hB, hL, HR.out]; rfl)
  have HEN : Hid (∀ z, OW w (blkO r g (.slice LA m lc) kv zs ++ []) z → Ens z LA m L) := Lib.hid fun z hz => by
    rw [hm] at hz
    obtain ⟨A', c', e', h⟩ := blk_ens hz
    injection e' with e1 e2 e3
    rw [hm, hL, e1]; exact h
  have HX4 : Hid (OW w (blkO r g (.slice LA m lc) kv zs ++ []) z3) := Lib.hid (by rw [hm]; exact HX3.out)
  obtain ⟨bn, hbn⟩ : ∃ z, z = B.length := ⟨_, rfl⟩
  have HBN := Lib.hid hbn.symm
  have HB := Lib.hid hB
  have hmb : m ≤ 4294967296 := by
    obtain ⟨key, a, h⟩ := HBT.out rfl
    have h1 := rdF_len h
    unfold entsZ at h1
    rw [List.length_map] at h1
    omega
  have HL3 := Lib.hid hL
  have HM3 := Lib.hid hm
  clear hB hL hm hbn HX3
  go_wp2_with fail
  refine lt_start [] (by kernel_rfl) ?_
  intro xd hd
  refine ⟨fun z => OW w (blkO r g (.slice LA m lc) kv zs ++ []) z, ?_⟩
  have HS := Lib.hid (HX4.out.later hd)
  refine lt_pure 0 rfl (by kernel_rfl) (by kernel_rfl) (by kernel_rfl) (by kernel_rfl) (fun _ _ _ h => h) (v := ?_) (yi_run rfl (fun w => ?_)) (fun _ => HS.out) ?_
  rotate_left
  · first | (go_simp; done) | (go_simp; with_reducible rfl)
  simp only [Act.put, List.setIfInBounds_toArray, List.set_cons_zero, List.set_cons_succ]
  refine lt_pure 1 rfl (by kernel_rfl) (by kernel_rfl) (by kernel_rfl) (by kernel_rfl) (fun _ _ _ h => h) (v := ?_) (yi_run rfl (fun w => ?_)) (fun _ => HS.out) ?_
  rotate_left
  · first | (go_simp; done) | (go_simp; with_reducible rfl)
  simp only [Act.put, List.setIfInBounds_toArray, List.set_cons_zero, List.set_cons_succ]
  refine lt_pure 2 rfl (by kernel_rfl) (by kernel_rfl) (by kernel_rfl) (by kernel_rfl) (fun _ _ _ h => h) (v := ?_) (yi_run rfl (fun w => ?_)) (fun _ => HS.out) ?_
  rotate_left
  · first | (go_simp; done) | (go_simp; with_reducible rfl)
  simp only [Act.put, List.setIfInBounds_toArray, List.set_cons_zero, List.set_cons_succ]
  refine lt_take 3 [8, 9, 10, 11, 12, 13] rfl (by kernel_rfl) (by kernel_rfl) (by kernel_rfl) (by kernel_rfl) (by kernel_rfl) (fun _ _ _ h => h) (yi_cell rfl rfl rfl (fun w hS => (show _ = some (Value.int .i64 (r : Int)) from OW.cell hS (i := 0) (j := 0) rfl rfl)) (fun w => Tryz.isAgg3 w)) HS.out ?_
  simp only [Act.put, List.setIfInBounds_toArray, List.set_cons_zero, List.set_cons_succ]
  refine lt_pure 4 rfl (by kernel_rfl) (by kernel_rfl) (by kernel_rfl) (by kernel_rfl) (fun _ _ _ h => h) (v := ?_) (yi_run rfl (fun w => ?_)) (fun _ => HS.out) ?_
  rotate_left
  · first | (go_simp; done) | (go_simp; with_reducible rfl)
  simp only [Act.put, List.setIfInBounds_toArray, List.set_cons_zero, List.set_cons_succ]
  refine lt_pure 5 rfl (by kernel_rfl) (by kernel_rfl) (by kernel_rfl) (by kernel_rfl) (fun _ _ _ h => h) (v := ?_) (yi_run rfl (fun w => ?_)) (fun _ => HS.out) ?_
  rotate_left
  · first | (go_simp; done) | (go_simp; with_reducible rfl)
  simp only [Act.put, List.setIfInBounds_toArray, List.set_cons_zero, List.set_cons_succ]
  refine lt_pure 6 rfl (by kernel_rfl) (by kernel_rfl) (by kernel_rfl) (by kernel_rfl) (fun _ _ _ h => h) (v := ?_) (yi_run rfl (fun w => ?_)) (fun _ => HS.out) ?_
  rotate_left
  · first | (go_simp; done) | (go_simp; with_reducible rfl)
  simp only [Act.put, List.setIfInBounds_toArray, List.set_cons_zero, List.set_cons_succ]
  refine lt_take 7 [8, 9, 10, 11, 12, 13] rfl (by kernel_rfl) (by kernel_rfl) (by kernel_rfl) (by kernel_rfl) (by kernel_rfl) (fun _ _ _ h => h) (yi_cell rfl rfl rfl (fun w hS => OW.cell hS (i := 0) (j := 1) rfl rfl) (fun w => Tryz.isAgg30 w)) HS.out ?_
  simp only [Act.put, List.setIfInBounds_toArray, List.set_cons_zero, List.set_cons_succ]
  refine lt_call 8 rfl (by kernel_rfl) rfl rfl ⟨_, Tryz.func26, by decide, by kernel_rfl⟩ [.int .i64 (r : Int), .slice LA m lc] rfl ?_
  refine (build_any (r : Int) L LA m lc _ (HEN.out _ HS.out) (by omega) (HTB.out _ HS.out.up)).mono ?_
  rw [HB.out]
  intro e z5 hp
  obtain ⟨A5, c5, rfl, ho, _, hb⟩ := hp.at_ HBN.out rfl
  have HO5 := Lib.hid ho
  replace HS := Lib.hid (HS.out.later hb)
  have HD5 := Lib.hid (Below.refl z5.heap.size z5)
  clear hp ho hb
  refine ⟨_, rfl, fun _ => HS.out, ?_⟩
  simp only [Act.put, List.setIfInBounds_toArray, List.set_cons_zero, List.set_cons_succ]
  refine lt_pure 9 rfl (by kernel_rfl) (by kernel_rfl) (by kernel_rfl) (by kernel_rfl) (fun _ _ _ h => h) (v := ?_) (yi_run rfl (fun w => ?_)) (fun _ => HS.out) ?_
  rotate_left
  · first | (go_simp; done) | (go_simp; with_reducible rfl)
  simp only [Act.put, List.setIfInBounds_toArray, List.set_cons_zero, List.set_cons_succ]
  refine lt_pure 10 rfl (by kernel_rfl) (by kernel_rfl) (by kernel_rfl) (by kernel_rfl) (fun _ _ _ h => h) (v := ?_) (yi_run rfl (fun w => ?_)) (fun _ => HS.out) ?_
  rotate_left
  · first | (go_simp; done) | (go_simp; with_reducible rfl)
  simp only [Act.put, List.setIfInBounds_toArray, List.set_cons_zero, List.set_cons_succ]
  refine lt_pure 11 rfl (by kernel_rfl) (by kernel_rfl) (by kernel_rfl) (by kernel_rfl) (fun _ _ _ h => h) (v := ?_) (yi_run rfl (fun w => ?_)) (fun _ => HS.out) ?_
  rotate_left
  · first | (go_simp; done) | (go_simp; with_reducible rfl)
  simp only [Act.put, List.setIfInBounds_toArray, List.set_cons_zero, List.set_cons_succ]
  refine lt_pure 12 rfl (by kernel_rfl) (by kernel_rfl) (by kernel_rfl) (by kernel_rfl) (fun _ _ _ h => h) (v := ?_) (yi_run rfl (fun w => ?_)) (fun _ => HS.out) ?_
  rotate_left
  · first | (go_simp; done) | (go_simp; with_reducible rfl)
  simp only [Act.put, List.setIfInBounds_toArray, List.set_cons_zero, List.set_cons_succ]
  refine lt_pure 13 rfl (by kernel_rfl) (by kernel_rfl) (by kernel_rfl) (by kernel_rfl) (fun _ _ _ h => h) (v := ?_) (yi_run rfl (fun w => ?_)) (fun _ => HS.out) ?_
  rotate_left
  · first | (go_simp; done) | (go_simp; with_reducible rfl)
  simp only [Act.put, List.setIfInBounds_toArray, List.set_cons_zero, List.set_cons_succ]
  refine lt_done (by kernel_rfl) ?_
  have HS5 := HS
  clear HS
  have HX6 := Lib.hid HS5.out
  clear HS5
  have HB6 := HX6.out.up
  by_cases hbe : be = 0
  case neg =>
    have hd9 : (be != 0) = true := bne_iff_ne.2 hbe
    have HP : Hid (openE b = (none, 51)) := Lib.hid (by rw [HPQ.out, if_neg]; intro h; injection h with _ h; exact hbe h)
    clear hbe
    go_wp2_with fail
    go_ret2
    exact open_no HP.out HX6.out.up
  have hd9 : (be != 0) = false := by rw [hbe]; rfl
  have HBE := Lib.hid hbe
  clear hbe
  cases hq : B == b with
  | false =>
    have HP : Hid (openE b = (none, 51)) := Lib.hid (by rw [HPQ.out, if_neg]; intro h; injection h with h _; rw [h] at hq; simp at hq)
    have HQ := Lib.hid hq
    clear hq
    go_wp2_with (go_at_call 32; go_must (refine (equal_any B b _ _ bn _ (k + 9) _ _ (HO5.out.later HD5.out).rb (HSL.out _ HX6.out.up).rb).mono ?_); rw [HQ.out]; rintro e z6 ⟨rfl, rfl⟩)
    go_ret2
    exact open_no HP.out HX6.out.up
  | true =>
    have HP : Hid (openE b = (some L, 0)) := Lib.hid (by rw [HPQ.out, if_pos]; rw [beq_iff_eq] at hq; rw [hq, HBE.out])
    have HQ := Lib.hid hq
    clear hq
    go_wp2_with (go_at_call 32; go_must (refine (equal_any B b _ _ bn _ (k + 9) _ _ (HO5.out.later HD5.out).rb (HSL.out _ HX6.out.up).rb).mono ?_); rw [HQ.out]; rintro e z6 ⟨rfl, rfl⟩)
    go_ret2
    refine .inl ⟨L, g, blkO r g (.slice LA m lc) kv zs, by rw [HP.out], rfl, ?_, ?_⟩
    · rw [← HR.out]; exact ⟨_, _, _, rfl, HL3.out.symm, HZ.out⟩
    · have h := HX6.out; rw [List.append_nil] at h; exact h
end Go.Proofs.YtmigjipfomfacaaGreatDoor
namespace Go.Proofs.YtmigjipfomfacaaGreatDoor
open Go.RowKit
def bytesIn (c : Nat) (l : List UInt8) (r : Obj) : Prop := ∃ cur T, r = .cells cur T (0, 0) ∧ c ≤ cur.size ∧ cur.toList.take l.length = u8s l
def clipO (A : Option Addr) (l : List UInt8) : Ob := match A with
  | none => nilO
  | some a => phiO a.block (bytesIn l.length l)
theorem bytesIn.at_ {c : Nat} {l : List UInt8} {r : Obj} {x : World} {g j : Nat} {b : UInt8} (h : bytesIn c l r) (hr : x.heap[g]? = some r) (hj : l[j]? = some b) : x.cell? ⟨g, j, none⟩ = some (u8v b) := by
  obtain ⟨cur, T, rfl, _, h2⟩ := h
  have hlt : j < l.length := (List.getElem?_eq_some_iff.1 hj).1
  have h3 : (cur.toList.take l.length)[j]? = (u8s l)[j]? := by rw [h2]
  rw [List.getElem?_take_of_lt hlt, u8s_at hj] at h3
  simp [World.cell?, hr]
  simpa [u8v] using h3
def CAt (A : Option Addr) (l : List UInt8) : Prop := (A = none ∧ l = []) ∨ ∃ g, A = some ⟨g, 0, none⟩
section
variable {w x : World} {os : List Ob} {i c n : Nat} {T : TypeId} {A : Option Addr} {l : List UInt8}
theorem cat_of (h : OW w os x) (hi : os[i]? = some (bytO T (A, c, l))) : CAt A l := by
  have h1 := h.byt hi
  rcases h1.2 with ⟨hv, h0⟩ | ⟨g, cap, cur, hv, _⟩
  · injection hv with hv
    exact .inl ⟨hv, List.eq_nil_of_length_eq_zero h0⟩
  · injection hv with hv
    exact .inr ⟨g, hv⟩
theorem OW.clip (h : OW w os x) (hi : os[i]? = some (bytO T (A, c, l))) : OW w (os.set i (clipO A l)) x := by
  have h1 := h.byt hi
  refine h.upd hi (Chg.refl (fun _ => False) x) (fun _ _ e => e.elim) ?_ fun b hb => .inl ?_
  · rcases cat_of h hi with ⟨rfl, rfl⟩ | ⟨g, rfl⟩
    · exact ⟨(fun e => nomatch e), fun _ => own_nil _ _ _ _⟩
    · obtain ⟨hl, h2⟩ := h1
      rcases h2 with ⟨hv, _⟩ | ⟨g', cap, cur, hv, h2, h3, h4, _, h5, h6⟩
      · cases hv
      injection hv with hv hv2 hv3
      injection hv with hv; injection hv with hv
      subst hv
      exact Ob.at_mkr rfl ⟨g, _, rfl, h2, h3, cur, _, rfl, by rw [h5]; omega, by rw [Nat.mul_one] at h6; exact h6⟩
  · rcases cat_of h hi with ⟨rfl, rfl⟩ | ⟨g, rfl⟩
    · cases hb
    · exact hb
theorem OW.clipSl (h : OW w os x) (hc : CAt A l) (hi : os[i]? = some (clipO A l)) (hn : l.length = n) (hm : n ≤ 9223372036854775807) : Sl x A n n l := by
  subst hn
  rcases hc with ⟨rfl, rfl⟩ | ⟨g, rfl⟩
  · exact Sl.none _
  · obtain ⟨k, r, h1, h2, h3, h4⟩ := (h.get (show os[i]? = some (phiO g (bytesIn l.length l)) from hi)).some_ rfl
    injection h1 with h1; injection h1 with h1; injection h1 with h1
    subst h1
    refine ⟨RB.mk' rfl fun _ => ⟨g, 0, rfl, (Array.getElem?_eq_some_iff.1 h3).1, fun j c hj => ?_⟩, Nat.le_refl _, hm, fun e => by cases e⟩
    rw [Nat.zero_add]
    exact h4.at_ h3 hj
end
theorem results_rowL {P : Program} {fn : Func} {p : Tmp} {ty : TypeId} (h : fn.results = #[.cell p ty]) (tmps : Array Value) (w : World) (g : Nat) (cs : List Value)
    (hp : tmps.getD p undef = .pointer (some ⟨g, 0, none⟩)) (hc : w.rangeAt g 0 cs)
    (ha : (P.underlying ty).map (fun d => match d with | .struct _ | .array _ _ => true | _ => false) = some true) (hi : (P.info? ty).map (·.size) = some cs.length) :
    (results fn tmps).run P w = .ok (.agg cs.toArray) w :=
  results_box0 h tmps w g cs.toArray hp (fun j v hv => by have := hc j v (by simpa using hv); rwa [Nat.zero_add] at this) ha (by simpa using hi)
theorem results_rowL1 {P : Program} {fn : Func} {p t : Tmp} {ty : TypeId} (h : fn.results = #[.cell p ty, .tmp t]) (tmps : Array Value) (w : World) (g : Nat) (cs : List Value)
    (hp : tmps.getD p undef = .pointer (some ⟨g, 0, none⟩)) (hc : w.rangeAt g 0 cs)
    (ha : (P.underlying ty).map (fun d => match d with | .struct _ | .array _ _ => true | _ => false) = some true) (hi : (P.info? ty).map (·.size) = some cs.length) :
    (results fn tmps).run P w = .ok (.tuple #[.agg cs.toArray, tmps.getD t undef]) w :=
  results_box1 h tmps w g cs.toArray hp (fun j v hv => by have := hc j v (by simpa using hv); rwa [Nat.zero_add] at this) ha (by simpa using hi)
end Go.Proofs.YtmigjipfomfacaaGreatDoor
