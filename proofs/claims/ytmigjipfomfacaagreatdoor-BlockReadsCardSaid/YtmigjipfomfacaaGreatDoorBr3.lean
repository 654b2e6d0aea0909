/-
  Laid together by merge.py: CellR2, CellR7, Kit14, Kit15, Kit16, Kit17, Kit18, Kit19, Kit20, Kit21, Kit22, Kit23, Kit30, Kit31, BlockW1, BlockW2, BlockW3, BlockB1, BlockB2, Kit32, Kit33.
-/
import Derived.Test.YtmigjipfomfacaaGreatDoorBr2
import Derived.Test.YtmigjipfomfacaaGreatDoorBr1
import Derived.Deep.DeepCutAuto
import Derived.StillTailTactics
import Derived.Deep.RegionHeld3
import Derived.Deep.MidRow
import Derived.Great.BuildSlice
namespace Go.Proofs.YtmigjipfomfacaaGreatDoor
open Go.RowKit
theorem rFalling_at (v : Nat) (w : World) (hv : v < 9223372036854775808) : Calls Tryz.prog 69 #[.int .i64 v] w fun e w' => ∃ A c, e = .returned (.tuple #[.slice A 8 c, .int .i64 0]) ∧ w'.ownsRow w.heap.size 5 1 (.slice A 8 c) 8 (u8s (numK v)) ∧ Below w.heap.size w w' := by
  refine (rFalling_any v w hv).mono fun e w' h => ?_
  obtain ⟨A, c, h1, h2, h3, h4⟩ := BytesPost2.at_ h (risB_len _) rfl
  refine ⟨A, c, h1, ?_, h4⟩
  unfold numK
  rw [Int.toNat_natCast]
  have := h3
  unfold OwnB at this
  rw [risB_len] at this
  exact this
set_option maxRecDepth 100000 in
set_option maxHeartbeats 2000000 in
theorem rkey_five (row qual : List UInt8) (A : Option Addr) (n c F : Nat) (B : Option Addr) (m d T S : Nat) (D : Option Addr) (v q : Nat) (w : World) (hrow : Sl w A n c row) (hqual : Sl w B m d qual) (hz : checkN n F m T S 5 v = 0) :
    Calls Tryz.prog 44 #[.agg #[.slice A n c, .int .i64 (F : Int), .slice B m d, .int .i64 (T : Int), .int .i64 (S : Int), .int .i64 5, .slice D v q]] w (BytesPost 5 (keyE ⟨row, F, qual, T, S, 5, []⟩) w) := by
  obtain ⟨z1, z2, z3, z4, z5, z6, -⟩ := checkN_ok hz
  have HN : Hid (n ≤ 256 ∧ m ≤ 256 ∧ T ≤ 1099511627776 ∧ S ≤ 17592186044431) := Lib.hid (by omega)
  have HR : Hid (∀ x, Below w.heap.size w x → Sl x A n c row) := Lib.hid fun x h => hrow.later h
  have HQ : Hid (∀ x, Below w.heap.size w x → Sl x B m d qual) := Lib.hid fun x h => hqual.later h
  have HLEN : Hid ((ordB row).length ≤ 514 ∧ (ordB qual).length ≤ 514) := Lib.hid (by
    have h1 := ordB_len row; have h2 := ordB_len qual; have h3 := hrow.len; have h4 := hqual.len; omega)
  have HX0 := Lib.hid (Bx.new w #[.slice A n c, .int .i64 (F : Int), .slice B m d, .int .i64 (T : Int), .int .i64 (S : Int), .int .i64 5, .slice D v q] 46)
  clear hz z1 z2 z3 z4 z5 z6 hrow hqual
  have tO1 : True := trivial
  have tA1 : True := trivial
  have tA2 : True := trivial
  have tF1 : True := trivial
  have tA5 : True := trivial
  have tA6 : True := trivial
  go_enter Tryz.func44, Tryz.ntmps44
  go_wp2_with (first
    | (go_at_call 68; have _t := tO1; go_must (refine (rOrdered_any row A n c _ (by have := HN.out; omega) (HR.out _ HX0.out.up).rb).mono ?_); rintro e x1 ⟨A1, c1, rfl, hO1, hb1⟩; have HX1 := Lib.hid (HX0.out.later hb1); have HO1 := Lib.hid (own_low hO1 HX0.out.size); clear hO1 hb1 tO1; have q1_1 := HX1.out.cell (i := 1) (v := .int .i64 (F : Int)) rfl)
    | (at_builtin; have _t := tA1; go_must (refine wpList_append_reads _ rfl (.tmp 12) (.tmp 16) rfl Tryz.u8s' (w.heap.size + 1) (.slice A1 (ordB row).length c1) ((ordB row).length) (u8s (ordB row)) rfl (HO1.out.alloc _) (x1.heap.size + 1) (some ⟨x1.heap.size, 0, none⟩) 1 1 (u8s ([UInt8.ofNat F])) rfl (by exact reads_lit x1 _ ([UInt8.ofNat F]) _ _ (by show [_] = [u8v _]; rw [u8v_mod])) (u8s_one _) (by have := HLEN.out; unfold maxLen; omega) (by have := HLEN.out; omega) (by have := HX1.out.size; simp; omega) ?_); intro v2 x2 hown hg hat; clear tA1; have HX2 := Lib.hid ((HX1.out.alloc _).grow (HO1.out.alloc _) hg); rw [← u8s_append] at hown; have HO2 := Lib.hid hown; clear hown hg hat; have q2_5 := HX2.out.cell (i := 5) (v := .int .i64 5) rfl)
    | (at_builtin; have _t := tA2; go_must (refine wpList_append_reads _ rfl (.tmp 21) (.tmp 22) rfl Tryz.u8s' (w.heap.size + 1) v2 ((ordB row).length + 1) (u8s ((ordB row) ++ [UInt8.ofNat F])) rfl (HO2.out.alloc _) (x2.heap.size + 1) (some ⟨x2.heap.size, 0, none⟩) 1 1 (u8s ([0])) rfl (by exact reads_lit x2 _ ([0]) _ _ (by rfl)) (u8s_one _) (by have := HLEN.out; unfold maxLen; omega) (by have := HLEN.out; omega) (by have := HX2.out.size; simp; omega) ?_); intro v3 x3 hown hg hat; clear tA2; have HX3 := Lib.hid ((HX2.out.alloc _).grow (HO2.out.alloc _) hg); rw [← u8s_append] at hown; have HO3 := Lib.hid hown; clear hown hg hat; have q3_3 := HX3.out.cell (i := 3) (v := .int .i64 (T : Int)) rfl)
    | (go_at_call 69; have _t := tF1; go_must (refine (rFalling_at T _ (by have := HN.out; omega)).mono ?_); rintro e x7 ⟨A7, c7, rfl, hO7, hb7⟩; have HX7 := Lib.hid (HX3.out.later hb7); have HO7 := Lib.hid (own_below HO3.out hb7); have HT7 := Lib.hid hO7; clear hO7 hb7 tF1; have q7_4 := HX7.out.cell (i := 4) (v := .int .i64 (S : Int)) rfl)
    | (go_at_call 69; go_must (refine (rFalling_at S _ (by have := HN.out; omega)).mono ?_); rintro e x8 ⟨A8, c8, rfl, hO8, hb8⟩; have HX8 := Lib.hid (HX7.out.later hb8); have HO8 := Lib.hid (own_below HO7.out hb8); have HS8 := Lib.hid hO8; have HR8 := Lib.hid (RB.own (own_below HT7.out hb8)); clear hO8 hb8)
    | (at_builtin; have _t := tA5; go_must (refine wpList_append_reads _ rfl (.tmp 51) (.tmp 52) rfl Tryz.u8s' (w.heap.size + 1) v3 ((ordB row).length + 1 + 1) (u8s (((ordB row) ++ [UInt8.ofNat F]) ++ [0])) rfl HO8.out x8.heap.size A7 8 c7 (u8s (numK T)) rfl HR8.out (u8s_one _) (by have := HLEN.out; unfold maxLen; omega) (by have := HLEN.out; omega) (by have := HX8.out.size; omega) ?_); intro v9 x9 hown hg hat; clear tA5; have HR9 := Lib.hid (RB.own (own_aside HS8.out HO7.out (Nat.le_refl _) hg)); have HX9 := Lib.hid (HX8.out.grow HO8.out hg); rw [← u8s_append] at hown; have HO9 := Lib.hid hown; clear hown hg hat; have q9_5 := HX9.out.cell (i := 5) (v := .int .i64 5) rfl)
    | (at_builtin; have _t := tA6; go_must (refine wpList_append_reads _ rfl (.tmp 54) (.tmp 55) rfl Tryz.u8s' (w.heap.size + 1) v9 ((ordB row).length + 1 + 1 + 8) (u8s ((((ordB row) ++ [UInt8.ofNat F]) ++ [0]) ++ numK T)) rfl HO9.out x9.heap.size A8 8 c8 (u8s (numK S)) rfl HR9.out (u8s_one _) (by have := HLEN.out; unfold maxLen; omega) (by have := HLEN.out; omega) (by have := HX9.out.size; omega) ?_); intro va xa hown hg hat; clear tA6; have HXa := Lib.hid (HX9.out.grow HO9.out hg); rw [← u8s_append] at hown; have HOa := Lib.hid hown; clear hown hg hat; have q10_5 := HXa.out.cell (i := 5) (v := .int .i64 5) rfl)
    | (at_builtin; go_must (refine wpList_append_reads _ rfl (.tmp 57) (.tmp 61) rfl Tryz.u8s' (w.heap.size + 1) va ((ordB row).length + 1 + 1 + 8 + 8) (u8s (((((ordB row) ++ [UInt8.ofNat F]) ++ [0]) ++ numK T) ++ numK S)) rfl (HOa.out.alloc _) (xa.heap.size + 1) (some ⟨xa.heap.size, 0, none⟩) 1 1 (u8s ([UInt8.ofNat 5])) rfl (by exact reads_lit xa _ ([UInt8.ofNat 5]) _ _ (by rfl)) (u8s_one _) (by have := HLEN.out; unfold maxLen; omega) (by have := HLEN.out; omega) (by have := HXa.out.size; simp; omega) ?_); intro vb xb hown hg hat; have HXb := Lib.hid ((HXa.out.alloc _).grow (HOa.out.alloc _) hg); rw [← u8s_append] at hown; have HOb := Lib.hid hown; clear hown hg hat))
  go_ret
  have hf : ((((((ordB row) ++ [UInt8.ofNat F]) ++ [0]) ++ numK T) ++ numK S) ++ [UInt8.ofNat 5]) = keyE ⟨row, F, qual, T, S, 5, []⟩ := by
    unfold keyE tailK qualK
    simp [flg]
  have := HOb.out
  rw [hf] at this
  exact bytes_post (own_low this (Nat.le_succ _)) HXb.out.up
set_option maxRecDepth 100000 in
set_option maxHeartbeats 2000000 in
theorem rkey_four (row qual : List UInt8) (A : Option Addr) (n c F : Nat) (B : Option Addr) (m d T S : Nat) (D : Option Addr) (v q : Nat) (w : World) (hrow : Sl w A n c row) (hqual : Sl w B m d qual) (hz : checkN n F m T S 4 v = 0) :
    Calls Tryz.prog 44 #[.agg #[.slice A n c, .int .i64 (F : Int), .slice B m d, .int .i64 (T : Int), .int .i64 (S : Int), .int .i64 4, .slice D v q]] w (BytesPost 5 (keyE ⟨row, F, qual, T, S, 4, []⟩) w) := by
  obtain ⟨z1, z2, z3, z4, z5, z6, -⟩ := checkN_ok hz
  have HN : Hid (n ≤ 256 ∧ m ≤ 256 ∧ T ≤ 1099511627776 ∧ S ≤ 17592186044431) := Lib.hid (by omega)
  have HR : Hid (∀ x, Below w.heap.size w x → Sl x A n c row) := Lib.hid fun x h => hrow.later h
  have HQ : Hid (∀ x, Below w.heap.size w x → Sl x B m d qual) := Lib.hid fun x h => hqual.later h
  have HLEN : Hid ((ordB row).length ≤ 514 ∧ (ordB qual).length ≤ 514) := Lib.hid (by
    have h1 := ordB_len row; have h2 := ordB_len qual; have h3 := hrow.len; have h4 := hqual.len; omega)
  have HX0 := Lib.hid (Bx.new w #[.slice A n c, .int .i64 (F : Int), .slice B m d, .int .i64 (T : Int), .int .i64 (S : Int), .int .i64 4, .slice D v q] 46)
  clear hz z1 z2 z3 z4 z5 z6 hrow hqual
  have tO1 : True := trivial
  have tA1 : True := trivial
  have tA2 : True := trivial
  have tF1 : True := trivial
  have tA5 : True := trivial
  have tA6 : True := trivial
  have tO2 : True := trivial
  have tA3 : True := trivial
  have tA4 : True := trivial
  go_enter Tryz.func44, Tryz.ntmps44
  go_wp2_with (first
    | (go_at_call 68; have _t := tO1; go_must (refine (rOrdered_any row A n c _ (by have := HN.out; omega) (HR.out _ HX0.out.up).rb).mono ?_); rintro e x1 ⟨A1, c1, rfl, hO1, hb1⟩; have HX1 := Lib.hid (HX0.out.later hb1); have HO1 := Lib.hid (own_low hO1 HX0.out.size); clear hO1 hb1 tO1; have q1_1 := HX1.out.cell (i := 1) (v := .int .i64 (F : Int)) rfl)
    | (at_builtin; have _t := tA1; go_must (refine wpList_append_reads _ rfl (.tmp 12) (.tmp 16) rfl Tryz.u8s' (w.heap.size + 1) (.slice A1 (ordB row).length c1) ((ordB row).length) (u8s (ordB row)) rfl (HO1.out.alloc _) (x1.heap.size + 1) (some ⟨x1.heap.size, 0, none⟩) 1 1 (u8s ([UInt8.ofNat F])) rfl (by exact reads_lit x1 _ ([UInt8.ofNat F]) _ _ (by show [_] = [u8v _]; rw [u8v_mod])) (u8s_one _) (by have := HLEN.out; unfold maxLen; omega) (by have := HLEN.out; omega) (by have := HX1.out.size; simp; omega) ?_); intro v2 x2 hown hg hat; clear tA1; have HX2 := Lib.hid ((HX1.out.alloc _).grow (HO1.out.alloc _) hg); rw [← u8s_append] at hown; have HO2 := Lib.hid hown; clear hown hg hat; have q2_5 := HX2.out.cell (i := 5) (v := .int .i64 4) rfl)
    | (at_builtin; have _t := tA2; go_must (refine wpList_append_reads _ rfl (.tmp 24) (.tmp 25) rfl Tryz.u8s' (w.heap.size + 1) v2 ((ordB row).length + 1) (u8s ((ordB row) ++ [UInt8.ofNat F])) rfl (HO2.out.alloc _) (x2.heap.size + 1) (some ⟨x2.heap.size, 0, none⟩) 1 1 (u8s ([1])) rfl (by exact reads_lit x2 _ ([1]) _ _ (by rfl)) (u8s_one _) (by have := HLEN.out; unfold maxLen; omega) (by have := HLEN.out; omega) (by have := HX2.out.size; simp; omega) ?_); intro v3 x3 hown hg hat; clear tA2; have HX3 := Lib.hid ((HX2.out.alloc _).grow (HO2.out.alloc _) hg); rw [← u8s_append] at hown; have HO3 := Lib.hid hown; clear hown hg hat; have q3_2 := HX3.out.cell (i := 2) (v := .slice B m d) rfl)
    | (go_at_call 68; have _t := tO2; go_must (refine (rOrdered_any qual B m d _ (by have := HN.out; omega) (HQ.out _ HX3.out.up).rb).mono ?_); rintro e x4 ⟨A4, c4, rfl, hO4, hb4⟩; have HX4 := Lib.hid (HX3.out.later hb4); have HO4 := Lib.hid (own_below HO3.out hb4); have HR4 := Lib.hid (RB.own hO4); clear hO4 hb4 tO2)
    | (at_builtin; have _t := tA3; go_must (refine wpList_append_reads _ rfl (.tmp 27) (.tmp 30) rfl Tryz.u8s' (w.heap.size + 1) v3 ((ordB row).length + 1 + 1) (u8s (((ordB row) ++ [UInt8.ofNat F]) ++ [1])) rfl HO4.out x4.heap.size A4 (ordB qual).length c4 (u8s (ordB qual)) rfl HR4.out (u8s_one _) (by have := HLEN.out; unfold maxLen; omega) (by have := HLEN.out; omega) (by have := HX4.out.size; omega) ?_); intro v5 x5 hown hg hat; clear tA3; have HX5 := Lib.hid (HX4.out.grow HO4.out hg); rw [← u8s_append] at hown; have HO5 := Lib.hid hown; clear hown hg hat; have q5_5 := HX5.out.cell (i := 5) (v := .int .i64 4) rfl)
    | (at_builtin; have _t := tA4; go_must (refine wpList_append_reads _ rfl (.tmp 35) (.tmp 37) rfl Tryz.u8s' (w.heap.size + 1) v5 ((ordB row).length + 1 + 1 + (ordB qual).length) (u8s ((((ordB row) ++ [UInt8.ofNat F]) ++ [1]) ++ ordB qual)) rfl (HO5.out.alloc _) (x5.heap.size + 1) (some ⟨x5.heap.size, 0, none⟩) 1 1 (u8s ([0])) rfl (by exact reads_lit x5 _ ([0]) _ _ (by rfl)) (u8s_one _) (by have := HLEN.out; unfold maxLen; omega) (by have := HLEN.out; omega) (by have := HX5.out.size; simp; omega) ?_); intro v6 x6 hown hg hat; clear tA4; have HX6 := Lib.hid ((HX5.out.alloc _).grow (HO5.out.alloc _) hg); rw [← u8s_append] at hown; have HO6 := Lib.hid hown; clear hown hg hat; have q6_3 := HX6.out.cell (i := 3) (v := .int .i64 (T : Int)) rfl)
    | (go_at_call 69; have _t := tF1; go_must (refine (rFalling_at T _ (by have := HN.out; omega)).mono ?_); rintro e x7 ⟨A7, c7, rfl, hO7, hb7⟩; have HX7 := Lib.hid (HX6.out.later hb7); have HO7 := Lib.hid (own_below HO6.out hb7); have HT7 := Lib.hid hO7; clear hO7 hb7 tF1; have q7_4 := HX7.out.cell (i := 4) (v := .int .i64 (S : Int)) rfl)
    | (go_at_call 69; go_must (refine (rFalling_at S _ (by have := HN.out; omega)).mono ?_); rintro e x8 ⟨A8, c8, rfl, hO8, hb8⟩; have HX8 := Lib.hid (HX7.out.later hb8); have HO8 := Lib.hid (own_below HO7.out hb8); have HS8 := Lib.hid hO8; have HR8 := Lib.hid (RB.own (own_below HT7.out hb8)); clear hO8 hb8)
    | (at_builtin; have _t := tA5; go_must (refine wpList_append_reads _ rfl (.tmp 51) (.tmp 52) rfl Tryz.u8s' (w.heap.size + 1) v6 ((ordB row).length + 1 + 1 + (ordB qual).length + 1) (u8s (((((ordB row) ++ [UInt8.ofNat F]) ++ [1]) ++ ordB qual) ++ [0])) rfl HO8.out x8.heap.size A7 8 c7 (u8s (numK T)) rfl HR8.out (u8s_one _) (by have := HLEN.out; unfold maxLen; omega) (by have := HLEN.out; omega) (by have := HX8.out.size; omega) ?_); intro v9 x9 hown hg hat; clear tA5; have HR9 := Lib.hid (RB.own (own_aside HS8.out HO7.out (Nat.le_refl _) hg)); have HX9 := Lib.hid (HX8.out.grow HO8.out hg); rw [← u8s_append] at hown; have HO9 := Lib.hid hown; clear hown hg hat; have q9_5 := HX9.out.cell (i := 5) (v := .int .i64 4) rfl)
    | (at_builtin; have _t := tA6; go_must (refine wpList_append_reads _ rfl (.tmp 54) (.tmp 55) rfl Tryz.u8s' (w.heap.size + 1) v9 ((ordB row).length + 1 + 1 + (ordB qual).length + 1 + 8) (u8s ((((((ordB row) ++ [UInt8.ofNat F]) ++ [1]) ++ ordB qual) ++ [0]) ++ numK T)) rfl HO9.out x9.heap.size A8 8 c8 (u8s (numK S)) rfl HR9.out (u8s_one _) (by have := HLEN.out; unfold maxLen; omega) (by have := HLEN.out; omega) (by have := HX9.out.size; omega) ?_); intro va xa hown hg hat; clear tA6; have HXa := Lib.hid (HX9.out.grow HO9.out hg); rw [← u8s_append] at hown; have HOa := Lib.hid hown; clear hown hg hat; have q10_5 := HXa.out.cell (i := 5) (v := .int .i64 4) rfl)
    | (at_builtin; go_must (refine wpList_append_reads _ rfl (.tmp 57) (.tmp 61) rfl Tryz.u8s' (w.heap.size + 1) va ((ordB row).length + 1 + 1 + (ordB qual).length + 1 + 8 + 8) (u8s (((((((ordB row) ++ [UInt8.ofNat F]) ++ [1]) ++ ordB qual) ++ [0]) ++ numK T) ++ numK S)) rfl (HOa.out.alloc _) (xa.heap.size + 1) (some ⟨xa.heap.size, 0, none⟩) 1 1 (u8s ([UInt8.ofNat 4])) rfl (by exact reads_lit xa _ ([UInt8.ofNat 4]) _ _ (by rfl)) (u8s_one _) (by have := HLEN.out; unfold maxLen; omega) (by have := HLEN.out; omega) (by have := HXa.out.size; simp; omega) ?_); intro vb xb hown hg hat; have HXb := Lib.hid ((HXa.out.alloc _).grow (HOa.out.alloc _) hg); rw [← u8s_append] at hown; have HOb := Lib.hid hown; clear hown hg hat))
  go_ret
  have hf : ((((((((ordB row) ++ [UInt8.ofNat F]) ++ [1]) ++ ordB qual) ++ [0]) ++ numK T) ++ numK S) ++ [UInt8.ofNat 4]) = keyE ⟨row, F, qual, T, S, 4, []⟩ := by
    unfold keyE tailK qualK
    simp [flg]
  have := HOb.out
  rw [hf] at this
  exact bytes_post (own_low this (Nat.le_succ _)) HXb.out.up
set_option maxRecDepth 100000 in
set_option maxHeartbeats 2000000 in
theorem rkey_more (row qual : List UInt8) (A : Option Addr) (n c F : Nat) (B : Option Addr) (m d T S K : Nat) (D : Option Addr) (v q : Nat) (w : World) (hrow : Sl w A n c row) (hqual : Sl w B m d qual) (hz : checkN n F m T S K v = 0) (hk5 : K ≠ 5) (hk4 : K ≠ 4) :
    Calls Tryz.prog 44 #[.agg #[.slice A n c, .int .i64 (F : Int), .slice B m d, .int .i64 (T : Int), .int .i64 (S : Int), .int .i64 (K : Int), .slice D v q]] w (BytesPost 5 (keyE ⟨row, F, qual, T, S, (K : Int), []⟩) w) := by
  obtain ⟨z1, z2, z3, z4, z5, z6, -⟩ := checkN_ok hz
  have HN : Hid (n ≤ 256 ∧ m ≤ 256 ∧ T ≤ 1099511627776 ∧ S ≤ 17592186044431) := Lib.hid (by omega)
  have HR : Hid (∀ x, Below w.heap.size w x → Sl x A n c row) := Lib.hid fun x h => hrow.later h
  have HQ : Hid (∀ x, Below w.heap.size w x → Sl x B m d qual) := Lib.hid fun x h => hqual.later h
  have HLEN : Hid ((ordB row).length ≤ 514 ∧ (ordB qual).length ≤ 514) := Lib.hid (by
    have h1 := ordB_len row; have h2 := ordB_len qual; have h3 := hrow.len; have h4 := hqual.len; omega)
  have HX0 := Lib.hid (Bx.new w #[.slice A n c, .int .i64 (F : Int), .slice B m d, .int .i64 (T : Int), .int .i64 (S : Int), .int .i64 (K : Int), .slice D v q] 46)
  have hkk5 : ((K : Int) == 5) = false := by rw [beq_eq_false_iff_ne]; omega
  have hkk4 : ((K : Int) == 4) = false := by rw [beq_eq_false_iff_ne]; omega
  have HK5 := Lib.hid hk5
  have HK4 := Lib.hid hk4
  clear hk5 hk4
  clear hz z1 z2 z3 z4 z5 z6 hrow hqual
  have tO1 : True := trivial
  have tA1 : True := trivial
  have tA2 : True := trivial
  have tF1 : True := trivial
  have tA5 : True := trivial
  have tA6 : True := trivial
  have tO2 : True := trivial
  have tA3 : True := trivial
  have tA4 : True := trivial
  go_enter Tryz.func44, Tryz.ntmps44
  go_wp2_with (first
    | (go_at_call 68; have _t := tO1; go_must (refine (rOrdered_any row A n c _ (by have := HN.out; omega) (HR.out _ HX0.out.up).rb).mono ?_); rintro e x1 ⟨A1, c1, rfl, hO1, hb1⟩; have HX1 := Lib.hid (HX0.out.later hb1); have HO1 := Lib.hid (own_low hO1 HX0.out.size); clear hO1 hb1 tO1; have q1_1 := HX1.out.cell (i := 1) (v := .int .i64 (F : Int)) rfl)
    | (at_builtin; have _t := tA1; go_must (refine wpList_append_reads _ rfl (.tmp 12) (.tmp 16) rfl Tryz.u8s' (w.heap.size + 1) (.slice A1 (ordB row).length c1) ((ordB row).length) (u8s (ordB row)) rfl (HO1.out.alloc _) (x1.heap.size + 1) (some ⟨x1.heap.size, 0, none⟩) 1 1 (u8s ([UInt8.ofNat F])) rfl (by exact reads_lit x1 _ ([UInt8.ofNat F]) _ _ (by show [_] = [u8v _]; rw [u8v_mod])) (u8s_one _) (by have := HLEN.out; unfold maxLen; omega) (by have := HLEN.out; omega) (by have := HX1.out.size; simp; omega) ?_); intro v2 x2 hown hg hat; clear tA1; have HX2 := Lib.hid ((HX1.out.alloc _).grow (HO1.out.alloc _) hg); rw [← u8s_append] at hown; have HO2 := Lib.hid hown; clear hown hg hat; have q2_5 := HX2.out.cell (i := 5) (v := .int .i64 (K : Int)) rfl)
    | (at_builtin; have _t := tA2; go_must (refine wpList_append_reads _ rfl (.tmp 24) (.tmp 25) rfl Tryz.u8s' (w.heap.size + 1) v2 ((ordB row).length + 1) (u8s ((ordB row) ++ [UInt8.ofNat F])) rfl (HO2.out.alloc _) (x2.heap.size + 1) (some ⟨x2.heap.size, 0, none⟩) 1 1 (u8s ([1])) rfl (by exact reads_lit x2 _ ([1]) _ _ (by rfl)) (u8s_one _) (by have := HLEN.out; unfold maxLen; omega) (by have := HLEN.out; omega) (by have := HX2.out.size; simp; omega) ?_); intro v3 x3 hown hg hat; clear tA2; have HX3 := Lib.hid ((HX2.out.alloc _).grow (HO2.out.alloc _) hg); rw [← u8s_append] at hown; have HO3 := Lib.hid hown; clear hown hg hat; have q3_2 := HX3.out.cell (i := 2) (v := .slice B m d) rfl)
    | (go_at_call 68; have _t := tO2; go_must (refine (rOrdered_any qual B m d _ (by have := HN.out; omega) (HQ.out _ HX3.out.up).rb).mono ?_); rintro e x4 ⟨A4, c4, rfl, hO4, hb4⟩; have HX4 := Lib.hid (HX3.out.later hb4); have HO4 := Lib.hid (own_below HO3.out hb4); have HR4 := Lib.hid (RB.own hO4); clear hO4 hb4 tO2)
    | (at_builtin; have _t := tA3; go_must (refine wpList_append_reads _ rfl (.tmp 27) (.tmp 30) rfl Tryz.u8s' (w.heap.size + 1) v3 ((ordB row).length + 1 + 1) (u8s (((ordB row) ++ [UInt8.ofNat F]) ++ [1])) rfl HO4.out x4.heap.size A4 (ordB qual).length c4 (u8s (ordB qual)) rfl HR4.out (u8s_one _) (by have := HLEN.out; unfold maxLen; omega) (by have := HLEN.out; omega) (by have := HX4.out.size; omega) ?_); intro v5 x5 hown hg hat; clear tA3; have HX5 := Lib.hid (HX4.out.grow HO4.out hg); rw [← u8s_append] at hown; have HO5 := Lib.hid hown; clear hown hg hat; have q5_5 := HX5.out.cell (i := 5) (v := .int .i64 (K : Int)) rfl)
    | (at_builtin; have _t := tA4; go_must (refine wpList_append_reads _ rfl (.tmp 35) (.tmp 37) rfl Tryz.u8s' (w.heap.size + 1) v5 ((ordB row).length + 1 + 1 + (ordB qual).length) (u8s ((((ordB row) ++ [UInt8.ofNat F]) ++ [1]) ++ ordB qual)) rfl (HO5.out.alloc _) (x5.heap.size + 1) (some ⟨x5.heap.size, 0, none⟩) 1 1 (u8s ([1])) rfl (by exact reads_lit x5 _ ([1]) _ _ (by rfl)) (u8s_one _) (by have := HLEN.out; unfold maxLen; omega) (by have := HLEN.out; omega) (by have := HX5.out.size; simp; omega) ?_); intro v6 x6 hown hg hat; clear tA4; have HX6 := Lib.hid ((HX5.out.alloc _).grow (HO5.out.alloc _) hg); rw [← u8s_append] at hown; have HO6 := Lib.hid hown; clear hown hg hat; have q6_3 := HX6.out.cell (i := 3) (v := .int .i64 (T : Int)) rfl)
    | (go_at_call 69; have _t := tF1; go_must (refine (rFalling_at T _ (by have := HN.out; omega)).mono ?_); rintro e x7 ⟨A7, c7, rfl, hO7, hb7⟩; have HX7 := Lib.hid (HX6.out.later hb7); have HO7 := Lib.hid (own_below HO6.out hb7); have HT7 := Lib.hid hO7; clear hO7 hb7 tF1; have q7_4 := HX7.out.cell (i := 4) (v := .int .i64 (S : Int)) rfl)
    | (go_at_call 69; go_must (refine (rFalling_at S _ (by have := HN.out; omega)).mono ?_); rintro e x8 ⟨A8, c8, rfl, hO8, hb8⟩; have HX8 := Lib.hid (HX7.out.later hb8); have HO8 := Lib.hid (own_below HO7.out hb8); have HS8 := Lib.hid hO8; have HR8 := Lib.hid (RB.own (own_below HT7.out hb8)); clear hO8 hb8)
    | (at_builtin; have _t := tA5; go_must (refine wpList_append_reads _ rfl (.tmp 51) (.tmp 52) rfl Tryz.u8s' (w.heap.size + 1) v6 ((ordB row).length + 1 + 1 + (ordB qual).length + 1) (u8s (((((ordB row) ++ [UInt8.ofNat F]) ++ [1]) ++ ordB qual) ++ [1])) rfl HO8.out x8.heap.size A7 8 c7 (u8s (numK T)) rfl HR8.out (u8s_one _) (by have := HLEN.out; unfold maxLen; omega) (by have := HLEN.out; omega) (by have := HX8.out.size; omega) ?_); intro v9 x9 hown hg hat; clear tA5; have HR9 := Lib.hid (RB.own (own_aside HS8.out HO7.out (Nat.le_refl _) hg)); have HX9 := Lib.hid (HX8.out.grow HO8.out hg); rw [← u8s_append] at hown; have HO9 := Lib.hid hown; clear hown hg hat; have q9_5 := HX9.out.cell (i := 5) (v := .int .i64 (K : Int)) rfl)
    | (at_builtin; have _t := tA6; go_must (refine wpList_append_reads _ rfl (.tmp 54) (.tmp 55) rfl Tryz.u8s' (w.heap.size + 1) v9 ((ordB row).length + 1 + 1 + (ordB qual).length + 1 + 8) (u8s ((((((ordB row) ++ [UInt8.ofNat F]) ++ [1]) ++ ordB qual) ++ [1]) ++ numK T)) rfl HO9.out x9.heap.size A8 8 c8 (u8s (numK S)) rfl HR9.out (u8s_one _) (by have := HLEN.out; unfold maxLen; omega) (by have := HLEN.out; omega) (by have := HX9.out.size; omega) ?_); intro va xa hown hg hat; clear tA6; have HXa := Lib.hid (HX9.out.grow HO9.out hg); rw [← u8s_append] at hown; have HOa := Lib.hid hown; clear hown hg hat; have q10_5 := HXa.out.cell (i := 5) (v := .int .i64 (K : Int)) rfl)
    | (at_builtin; go_must (refine wpList_append_reads _ rfl (.tmp 57) (.tmp 61) rfl Tryz.u8s' (w.heap.size + 1) va ((ordB row).length + 1 + 1 + (ordB qual).length + 1 + 8 + 8) (u8s (((((((ordB row) ++ [UInt8.ofNat F]) ++ [1]) ++ ordB qual) ++ [1]) ++ numK T) ++ numK S)) rfl (HOa.out.alloc _) (xa.heap.size + 1) (some ⟨xa.heap.size, 0, none⟩) 1 1 (u8s ([UInt8.ofNat K])) rfl (by exact reads_lit xa _ ([UInt8.ofNat K]) _ _ (by show [_] = [u8v _]; rw [u8v_mod])) (u8s_one _) (by have := HLEN.out; unfold maxLen; omega) (by have := HLEN.out; omega) (by have := HXa.out.size; simp; omega) ?_); intro vb xb hown hg hat; have HXb := Lib.hid ((HXa.out.alloc _).grow (HOa.out.alloc _) hg); rw [← u8s_append] at hown; have HOb := Lib.hid hown; clear hown hg hat))
  go_ret
  have hf : ((((((((ordB row) ++ [UInt8.ofNat F]) ++ [1]) ++ ordB qual) ++ [1]) ++ numK T) ++ numK S) ++ [UInt8.ofNat K]) = keyE ⟨row, F, qual, T, S, (K : Int), []⟩ := by
    unfold keyE tailK qualK
    have a5 : ¬ ((K : Int) = 5) := by have := HK5.out; omega
    have e5 : ((K : Int) == 5) = false := hkk5
    have e4 : ((K : Int) == 4) = false := hkk4
    rw [if_neg a5]
    simp only [e5, e4]
    simp [flg]
  have := HOb.out
  rw [hf] at this
  exact bytes_post (own_low this (Nat.le_succ _)) HXb.out.up
theorem rkey_any (e : Ent) (hz : checkE e = 0) (A : Option Addr) (n c : Nat) (B : Option Addr) (m d : Nat) (D : Option Addr) (v q : Nat) (w : World) (h : En w A n c B m d D v q e) :
    Calls Tryz.prog 44 #[entV A n c B m d D v q e] w (BytesPost 5 (keyE e) w) := by
  obtain ⟨row, f, qual, t, s, k, val⟩ := e
  have hl1 : row.length = n := h.row.len
  have hl2 : qual.length = m := h.qual.len
  have hl3 : val.length = v := h.val.len
  have hc : checkE ⟨row, f, qual, t, s, k, val⟩ = checkN n f m t s k v := by unfold checkE; simp only [hl1, hl2, hl3]
  rw [hc] at hz
  obtain ⟨z1, z2, z3, z4, z5, z6, -⟩ := checkN_ok hz
  obtain ⟨F, rfl⟩ : ∃ F : Nat, f = F := ⟨f.toNat, by omega⟩
  obtain ⟨T, rfl⟩ : ∃ T : Nat, t = T := ⟨t.toNat, by omega⟩
  obtain ⟨S, rfl⟩ : ∃ S : Nat, s = S := ⟨s.toNat, by omega⟩
  obtain ⟨K, rfl⟩ : ∃ K : Nat, k = K := ⟨k.toNat, by omega⟩
  by_cases hk : K = 5
  · subst hk
    exact rkey_five row qual A n c F B m d T S D v q w h.row h.qual hz
  · by_cases hk4 : K = 4
    · subst hk4
      exact rkey_four row qual A n c F B m d T S D v q w h.row h.qual hz
    · exact rkey_more row qual A n c F B m d T S K D v q w h.row h.qual hz hk hk4
set_option maxRecDepth 100000 in
set_option maxHeartbeats 1000000 in
theorem rKey_any (e : Ent) (A : Option Addr) (n c : Nat) (B : Option Addr) (m d : Nat) (D : Option Addr) (v q : Nat) (w : World) (h : En w A n c B m d D v q e) :
    Calls Tryz.prog 20 #[entV A n c B m d D v q e] w (BytesPost2 5 (KeyE e).1 (KeyE e).2 w) := by
  have hl1 := h.row.len
  have hl2 := h.qual.len
  have hl3 := h.val.len
  have HC : Hid (checkN n e.fam m e.ts e.seq e.kind v = checkE e) := Lib.hid (by unfold checkE; simp only [hl1, hl2, hl3])
  have HX0 := Lib.hid (Bx.new w #[.slice A n c, .int .i64 e.fam, .slice B m d, .int .i64 e.ts, .int .i64 e.seq, .int .i64 e.kind, .slice D v q] 46)
  obtain ⟨z, hz⟩ : ∃ z, z = checkE e := ⟨_, rfl⟩
  have HZ := Lib.hid hz
  unfold KeyE
  rw [← hz]
  unfold entV
  by_cases h0 : z = 0
  · subst h0
    have HK : Hid (∀ x, Below w.heap.size w x → Calls Tryz.prog 44 #[.agg #[.slice A n c, .int .i64 e.fam, .slice B m d, .int .i64 e.ts, .int .i64 e.seq, .int .i64 e.kind, .slice D v q]] x (BytesPost 5 (keyE e) x)) := Lib.hid fun x hx => rkey_any e hz.symm A n c B m d D v q x (h.later hx)
    rw [if_pos rfl]
    clear hz h hl1 hl2 hl3
    go_enter Tryz.func20, Tryz.ntmps20
    go_wp2_with (first
      | (go_at_call 43; go_must (refine (rCheck_any _ _ _ _ _ _ _ _ _ _ _ _ _ _).mono ?_); rintro e' x1 ⟨rfl, hb1⟩; rw [HC.out, ← HZ.out]; have HX1 := Lib.hid (HX0.out.later hb1); clear hb1 HX0; have q0 := HX1.out.cell (i := 0) (v := .slice A n c) rfl; have q1 := HX1.out.cell (i := 1) (v := .int .i64 e.fam) rfl; have q2 := HX1.out.cell (i := 2) (v := .slice B m d) rfl; have q3 := HX1.out.cell (i := 3) (v := .int .i64 e.ts) rfl; have q4 := HX1.out.cell (i := 4) (v := .int .i64 e.seq) rfl; have q5 := HX1.out.cell (i := 5) (v := .int .i64 e.kind) rfl; have q6 := HX1.out.cell (i := 6) (v := .slice D v q) rfl)
      | (go_at_call 44; go_must (refine (HK.out _ HX1.out.up).mono ?_); rintro e' x2 ⟨A2, c2, rfl, hO2, hb2⟩; have HO2 := Lib.hid hO2; have HB2 := Lib.hid (HX1.out.up.trans (hb2.mono HX1.out.up.size)); clear hO2 hb2))
    go_ret2
    exact ⟨A2, c2, rfl, HO2.out.rebase HX1.out.up.size, HB2.out⟩
  · rw [if_neg h0]
    have hd : (z != 0) = true := by rw [bne_iff_ne]; exact h0
    clear hz h hl1 hl2 hl3 h0
    go_enter Tryz.func20, Tryz.ntmps20
    go_wp2_with (go_at_call 43; go_must (refine (rCheck_any _ _ _ _ _ _ _ _ _ _ _ _ _ _).mono ?_); rintro e' x1 ⟨rfl, hb1⟩; rw [HC.out, ← HZ.out]; have HX1 := Lib.hid (HX0.out.later hb1); clear hb1 HX0)
    go_ret2
    exact bytes_none2 HX1.out.up
end Go.Proofs.YtmigjipfomfacaaGreatDoor
namespace Go.Proofs.YtmigjipfomfacaaGreatDoor
open Go.RowKit
set_option maxRecDepth 100000 in
theorem rnumber_any (x y : Int) (w : World) : Calls Tryz.prog 65 #[.int .i64 x, .int .i64 y] w fun e w' => e = .returned (.int .i64 (cmpI x y)) ∧ w = w' := by
  go_enter Tryz.func65, Tryz.ntmps65
  go_wp2
  all_goals (go_ret; refine ⟨ret_int ?_, rfl⟩; unfold cmpI; (repeat' split) <;> first | rfl | (exfalso; omega))
set_option maxRecDepth 100000 in
theorem rfirst_any (x y : Bool) (w : World) : Calls Tryz.prog 77 #[.bool x, .bool y] w fun e w' => e = .returned (.int .i64 (firstI x y)) ∧ w = w' := by
  cases x <;> cases y <;> (go_enter Tryz.func77, Tryz.ntmps77; go_wp2; go_ret; exact ⟨rfl, rfl⟩)
set_option maxRecDepth 100000 in
set_option maxHeartbeats 1000000 in
theorem rBcmp_any (a b : List UInt8) (A B : Option Addr) (n c m d : Nat) (w : World) (hn : n ≤ 9223372036854775807) (_hm : m ≤ 9223372036854775807) (ha : RB w w.heap.size A n a) (hb : RB w w.heap.size B m b) :
    Calls Tryz.prog 40 #[.slice A n c, .slice B m d] w fun e w' => e = .returned (.int .i64 (cmpB a b)) ∧ Below w.heap.size w w' := by
  have HLA := Lib.hid ha.len
  have HLB := Lib.hid hb.len
  have HA : Hid (∀ w', Below w.heap.size w w' → RB w' w'.heap.size A n a) := Lib.hid fun w' h => ha.later h
  have HB : Hid (∀ w', Below w.heap.size w w' → RB w' w'.heap.size B m b) := Lib.hid fun w' h => hb.later h
  clear ha hb
  go_enter Tryz.func40, Tryz.ntmps40
  go_wp2
  go_loopw [5] (fun i wr => ∃ k : Nat, k ≤ n ∧ k ≤ m ∧ i = .int .i64 k ∧ Hid (a.take k = b.take k) ∧ Hid (Below w.heap.size w wr)) (fun i _ => n - (intOf i).toNat)
  case atStart => exact ⟨0, Nat.zero_le _, Nat.zero_le _, rfl, Lib.hid rfl, Lib.hid (Below.refl _ _)⟩
  case round =>
    obtain ⟨k, hkn, hkm, rfl, HT, HW⟩ := hrel
    by_cases hlt : k < n
    case neg =>
      have HE := Lib.hid (cmp_end HT.out HLA.out HLB.out (by omega) hkm)
      have hd1 : decide ((k : Int) < (n : Int)) = false := decide_eq_false (by omega)
      have hd2 : decide (k < n) = false := decide_eq_false hlt
      have HE2 : Hid (cmpB a b = cmpI n m) := Lib.hid (by rw [HE.out]; unfold cmpI; (repeat' split) <;> first | rfl | omega)
      clear HE
      go_wp2_with (go_at_call 65; go_must (refine (rnumber_any _ _ _).mono ?_); rintro e w1 ⟨rfl, rfl⟩)
      go_ret
      exact ⟨by rw [HE2.out]; rfl, HW.out⟩
    have hd1 : decide ((k : Int) < (n : Int)) = true := decide_eq_true (by omega)
    have hd2 : decide (k < n) = true := decide_eq_true hlt
    by_cases hmt : k < m
    case neg =>
      have HE := Lib.hid (cmp_end2 HT.out HLA.out HLB.out (by omega) hlt)
      have hd3 : decide ((k : Int) < (m : Int)) = false := decide_eq_false (by omega)
      have hd4 : decide (k < m) = false := decide_eq_false hmt
      have HE2 : Hid (cmpB a b = cmpI n m) := Lib.hid (by rw [HE.out]; unfold cmpI; (repeat' split) <;> first | rfl | omega)
      clear HE
      go_wp2_with (go_at_call 65; go_must (refine (rnumber_any _ _ _).mono ?_); rintro e w1 ⟨rfl, rfl⟩)
      go_ret
      exact ⟨by rw [HE2.out]; rfl, HW.out⟩
    have hd3 : decide ((k : Int) < (m : Int)) = true := decide_eq_true (by omega)
    have hd4 : decide (k < m) = true := decide_eq_true hmt
    have hk1 : (k : Int) < (n : Int) := by omega
    have hk2 : (k : Int) < (m : Int) := by omega
    obtain ⟨b1, o1, x, rfl, _, hx, _⟩ := (HA.out _ HW.out).at_ hlt
    obtain ⟨b2, o2, y, rfl, _, hy, _⟩ := (HB.out _ HW.out).at_ hmt
    have HX := Lib.hid hx
    have HY := Lib.hid hy
    have HCX : Hid (∀ w', Below w.heap.size w w' → w'.cell? ⟨b1, o1 + k, none⟩ = some (.int .u8 (x.toNat : Int))) := Lib.hid fun w' h => (HA.out w' h).cell HX.out
    have HCY : Hid (∀ w', Below w.heap.size w w' → w'.cell? ⟨b2, o2 + k, none⟩ = some (.int .u8 (y.toNat : Int))) := Lib.hid fun w' h => (HB.out w' h).cell HY.out
    clear hx hy
    by_cases h1 : x.toNat < y.toNat
    · have HE := Lib.hid (cmp_lt_at HT.out HX.out HY.out h1)
      have c1 := HCX.out _ HW.out
      have c2 := HCY.out _ HW.out
      have e1 : decide ((x.toNat : Int) < (y.toNat : Int)) = true := decide_eq_true (by omega)
      have e2 : decide (x.toNat < y.toNat) = true := decide_eq_true h1
      go_wp2_with fail
      go_quiet (fail)
      have HW2 := Lib.hid (below_drewN (n := nq) HW.out)
      clear c1 c2
      generalize wr.drewN nq = w3 at *
      go_wp2
      go_ret
      exact ⟨by rw [HE.out]; rfl, HW2.out⟩
    have c1 := HCX.out _ HW.out
    have c2 := HCY.out _ HW.out
    have e1 : decide ((x.toNat : Int) < (y.toNat : Int)) = false := decide_eq_false (by omega)
    have e2 : decide (x.toNat < y.toNat) = false := decide_eq_false h1
    go_wp2_with fail
    go_quiet (fail)
    have HW2 := Lib.hid (below_drewN (n := nq) HW.out)
    clear c1 c2
    generalize wr.drewN nq = w3 at *
    have c1 := HCX.out _ HW2.out
    have c2 := HCY.out _ HW2.out
    by_cases h2 : y.toNat < x.toNat
    · have HE := Lib.hid (cmp_gt_at HT.out HX.out HY.out h2)
      have e3 : decide ((y.toNat : Int) < (x.toNat : Int)) = true := decide_eq_true (by omega)
      have e4 : decide (y.toNat < x.toNat) = true := decide_eq_true h2
      go_wp2_with fail
      go_quiet (fail)
      have HW3 := Lib.hid (below_drewN (n := nq) HW2.out)
      clear c1 c2
      generalize w3.drewN nq = w4 at *
      go_wp2
      go_ret
      exact ⟨by rw [HE.out]; rfl, HW3.out⟩
    obtain rfl := UInt8.toNat_inj.1 (show x.toNat = y.toNat by omega)
    have HE := Lib.hid (cmp_eq_at HT.out HX.out HY.out)
    have e3 : decide ((x.toNat : Int) < (x.toNat : Int)) = false := decide_eq_false (by omega)
    have e4 : decide (x.toNat < x.toNat) = false := decide_eq_false h2
    go_wp2_with fail
    go_quiet (fail)
    have HW3 := Lib.hid (below_drewN (n := nq) HW2.out)
    clear c1 c2
    generalize w3.drewN nq = w4 at *
    go_wp2
    go_roundw
    case rel => exact ⟨k + 1, by omega, by omega, by go_num, HE, HW3⟩
    case measure => simp [intOf]; omega
theorem two_facts {w x : World} {A : Option Addr} {n c : Nat} {B : Option Addr} {m d : Nat} {D : Option Addr} {v q : Nat} {A' : Option Addr} {n' c' : Nat} {B' : Option Addr} {m' d' : Nat} {D' : Option Addr} {v' q' : Nat} {a b : Ent} (h : Two w 46 #[.slice A n c, .int .i64 a.fam, .slice B m d, .int .i64 a.ts, .int .i64 a.seq, .int .i64 a.kind, .slice D v q] #[.slice A' n' c', .int .i64 b.fam, .slice B' m' d', .int .i64 b.ts, .int .i64 b.seq, .int .i64 b.kind, .slice D' v' q'] x) : x.cell? ⟨w.heap.size, 0, none⟩ = some (.slice A n c) ∧ x.cell? ⟨w.heap.size, 1, none⟩ = some (.int .i64 a.fam) ∧ x.cell? ⟨w.heap.size, 2, none⟩ = some (.slice B m d) ∧ x.cell? ⟨w.heap.size, 3, none⟩ = some (.int .i64 a.ts) ∧ x.cell? ⟨w.heap.size, 4, none⟩ = some (.int .i64 a.seq) ∧ x.cell? ⟨w.heap.size, 5, none⟩ = some (.int .i64 a.kind) ∧ x.cell? ⟨w.heap.size + 1, 0, none⟩ = some (.slice A' n' c') ∧ x.cell? ⟨w.heap.size + 1, 1, none⟩ = some (.int .i64 b.fam) ∧ x.cell? ⟨w.heap.size + 1, 2, none⟩ = some (.slice B' m' d') ∧ x.cell? ⟨w.heap.size + 1, 3, none⟩ = some (.int .i64 b.ts) ∧ x.cell? ⟨w.heap.size + 1, 4, none⟩ = some (.int .i64 b.seq) ∧ x.cell? ⟨w.heap.size + 1, 5, none⟩ = some (.int .i64 b.kind) ∧ Two w 46 #[.slice A n c, .int .i64 a.fam, .slice B m d, .int .i64 a.ts, .int .i64 a.seq, .int .i64 a.kind, .slice D v q] #[.slice A' n' c', .int .i64 b.fam, .slice B' m' d', .int .i64 b.ts, .int .i64 b.seq, .int .i64 b.kind, .slice D' v' q'] x :=
  ⟨boxed1 h (i := 0) (v := .slice A n c) rfl, boxed1 h (i := 1) (v := .int .i64 a.fam) rfl, boxed1 h (i := 2) (v := .slice B m d) rfl, boxed1 h (i := 3) (v := .int .i64 a.ts) rfl, boxed1 h (i := 4) (v := .int .i64 a.seq) rfl, boxed1 h (i := 5) (v := .int .i64 a.kind) rfl, boxed2 h (i := 0) (v := .slice A' n' c') rfl, boxed2 h (i := 1) (v := .int .i64 b.fam) rfl, boxed2 h (i := 2) (v := .slice B' m' d') rfl, boxed2 h (i := 3) (v := .int .i64 b.ts) rfl, boxed2 h (i := 4) (v := .int .i64 b.seq) rfl, boxed2 h (i := 5) (v := .int .i64 b.kind) rfl, h⟩
set_option maxRecDepth 100000 in
set_option maxHeartbeats 4000000 in
theorem rcompare_any (a b : Ent) (A : Option Addr) (n c : Nat) (B : Option Addr) (m d : Nat) (D : Option Addr) (v q : Nat) (A' : Option Addr) (n' c' : Nat) (B' : Option Addr) (m' d' : Nat) (D' : Option Addr) (v' q' : Nat) (w : World) (ha : En w A n c B m d D v q a) (hb : En w A' n' c' B' m' d' D' v' q' b) :
    Calls Tryz.prog 48 #[entV A n c B m d D v q a, entV A' n' c' B' m' d' D' v' q' b] w fun e w1 => e = .returned (.int .i64 (cmpE a b)) ∧ Below w.heap.size w w1 := by
  have HA : Hid (∀ w1, Below w.heap.size w w1 → En w1 A n c B m d D v q a) := Lib.hid fun _ h => ha.later h
  have HC : Hid (∀ w1, Below w.heap.size w w1 → En w1 A' n' c' B' m' d' D' v' q' b) := Lib.hid fun _ h => hb.later h
  have HT := Lib.hid (Two.new w 46 #[.slice A n c, .int .i64 a.fam, .slice B m d, .int .i64 a.ts, .int .i64 a.seq, .int .i64 a.kind, .slice D v q] #[.slice A' n' c', .int .i64 b.fam, .slice B' m' d', .int .i64 b.ts, .int .i64 b.seq, .int .i64 b.kind, .slice D' v' q'])
  have l1 := ha.row.le
  have l2 := ha.qual.le
  have l3 := hb.row.le
  have l4 := hb.qual.le
  have HL : Hid (n ≤ 9223372036854775807 ∧ m ≤ 9223372036854775807 ∧ n' ≤ 9223372036854775807 ∧ m' ≤ 9223372036854775807) := Lib.hid ⟨l1, l2, l3, l4⟩
  unfold entV
  clear ha hb l1 l2 l3 l4
  have tok1 : True := trivial
  go_enter Tryz.func48, Tryz.ntmps48
  go_wp2_with fail
  go_region_held3 (fun x => x.cell? ⟨w.heap.size, 0, none⟩ = some (.slice A n c) ∧ x.cell? ⟨w.heap.size, 1, none⟩ = some (.int .i64 a.fam) ∧ x.cell? ⟨w.heap.size, 2, none⟩ = some (.slice B m d) ∧ x.cell? ⟨w.heap.size, 3, none⟩ = some (.int .i64 a.ts) ∧ x.cell? ⟨w.heap.size, 4, none⟩ = some (.int .i64 a.seq) ∧ x.cell? ⟨w.heap.size, 5, none⟩ = some (.int .i64 a.kind) ∧ x.cell? ⟨w.heap.size + 1, 0, none⟩ = some (.slice A' n' c') ∧ x.cell? ⟨w.heap.size + 1, 1, none⟩ = some (.int .i64 b.fam) ∧ x.cell? ⟨w.heap.size + 1, 2, none⟩ = some (.slice B' m' d') ∧ x.cell? ⟨w.heap.size + 1, 3, none⟩ = some (.int .i64 b.ts) ∧ x.cell? ⟨w.heap.size + 1, 4, none⟩ = some (.int .i64 b.seq) ∧ x.cell? ⟨w.heap.size + 1, 5, none⟩ = some (.int .i64 b.kind) ∧ Two w 46 #[.slice A n c, .int .i64 a.fam, .slice B m d, .int .i64 a.ts, .int .i64 a.seq, .int .i64 a.kind, .slice D v q] #[.slice A' n' c', .int .i64 b.fam, .slice B' m' d', .int .i64 b.ts, .int .i64 b.seq, .int .i64 b.kind, .slice D' v' q'] x) (first | assumption | exact two_facts (HT.out.later (Below.refl _ _).drew) | exact two_facts (Two.later (‹_ ∧ _ ∧ _ ∧ _ ∧ _ ∧ _ ∧ _ ∧ _ ∧ _ ∧ _ ∧ _ ∧ _ ∧ Two _ _ _ _ _›).2.2.2.2.2.2.2.2.2.2.2.2 hb1) | exact two_facts (Two.later (‹_ ∧ _ ∧ _ ∧ _ ∧ _ ∧ _ ∧ _ ∧ _ ∧ _ ∧ _ ∧ _ ∧ _ ∧ Two _ _ _ _ _›).2.2.2.2.2.2.2.2.2.2.2.2 hb2) | exact two_facts (Two.later (‹_ ∧ _ ∧ _ ∧ _ ∧ _ ∧ _ ∧ _ ∧ _ ∧ _ ∧ _ ∧ _ ∧ _ ∧ Two _ _ _ _ _›).2.2.2.2.2.2.2.2.2.2.2.2 ((Below.refl _ _).alloc (Nat.le_refl _) _))) (first
    | (go_at_call 40; have _t := tok1; refine (rBcmp_any a.row b.row _ _ _ _ _ _ _ HL.out.1 HL.out.2.2.1 (HA.out _ (‹_ ∧ _ ∧ _ ∧ _ ∧ _ ∧ _ ∧ _ ∧ _ ∧ _ ∧ _ ∧ _ ∧ _ ∧ Two _ _ _ _ _›).2.2.2.2.2.2.2.2.2.2.2.2.up).row.rb (HC.out _ (‹_ ∧ _ ∧ _ ∧ _ ∧ _ ∧ _ ∧ _ ∧ _ ∧ _ ∧ _ ∧ _ ∧ _ ∧ Two _ _ _ _ _›).2.2.2.2.2.2.2.2.2.2.2.2.up).row.rb).mono ?_; rintro e x1 ⟨rfl, hb1⟩; clear tok1)
    | (go_at_call 40; refine (rBcmp_any a.qual b.qual _ _ _ _ _ _ _ HL.out.2.1 HL.out.2.2.2 (HA.out _ (‹_ ∧ _ ∧ _ ∧ _ ∧ _ ∧ _ ∧ _ ∧ _ ∧ _ ∧ _ ∧ _ ∧ _ ∧ Two _ _ _ _ _›).2.2.2.2.2.2.2.2.2.2.2.2.up).qual.rb (HC.out _ (‹_ ∧ _ ∧ _ ∧ _ ∧ _ ∧ _ ∧ _ ∧ _ ∧ _ ∧ _ ∧ _ ∧ _ ∧ Two _ _ _ _ _›).2.2.2.2.2.2.2.2.2.2.2.2.up).qual.rb).mono ?_; rintro e x2 ⟨rfl, hb2⟩)
    | (go_at_call 65; refine (rnumber_any _ _ _).mono ?_; rintro e xn ⟨rfl, rfl⟩)
    | (go_at_call 77; refine (rfirst_any _ _ _).mono ?_; rintro e xn ⟨rfl, rfl⟩))
  all_goals
    have HW := Lib.hid (‹_ ∧ _ ∧ _ ∧ _ ∧ _ ∧ _ ∧ _ ∧ _ ∧ _ ∧ _ ∧ _ ∧ _ ∧ Two _ _ _ _ _›).2.2.2.2.2.2.2.2.2.2.2.2.up
    clear HA HC HT HL
    generalize hs0 : cmpB a.row b.row = s0 at HW ⊢
    have Q0 : Hid (stepC a b 0 = s0) := Lib.hid hs0
    generalize hs1 : cmpI a.fam b.fam = s1 at HW ⊢
    have Q1 : Hid (stepC a b 1 = s1) := Lib.hid hs1
    generalize hs2 : firstI (a.kind == 5) (b.kind == 5) = s2 at HW ⊢
    have Q2 : Hid (stepC a b 2 = s2) := Lib.hid hs2
    generalize hs3 : cmpB a.qual b.qual = s3 at HW ⊢
    have Q3 : Hid (stepC a b 3 = s3) := Lib.hid hs3
    generalize hs4 : firstI (a.kind == 4) (b.kind == 4) = s4 at HW ⊢
    have Q4 : Hid (stepC a b 4 = s4) := Lib.hid hs4
    generalize hs5 : cmpI b.ts a.ts = s5 at HW ⊢
    have Q5 : Hid (stepC a b 5 = s5) := Lib.hid hs5
    generalize hs6 : cmpI b.seq a.seq = s6 at HW ⊢
    have Q6 : Hid (stepC a b 6 = s6) := Lib.hid hs6
    generalize hs7 : cmpI a.kind b.kind = s7 at HW ⊢
    have Q7 : Hid (stepC a b 7 = s7) := Lib.hid hs7
    clear hs0 hs1 hs2 hs3 hs4 hs5 hs6 hs7
    obtain ⟨X, hX⟩ : ∃ X, X = x2.alloc (.cells #[.int .i64 s0, .int .i64 s1, .int .i64 s2, .int .i64 s3, .int .i64 s4, .int .i64 s5, .int .i64 s6, .int .i64 s7] 3) := ⟨_, rfl⟩
    rw [← hX] at HW ⊢
    have p0 : X.cell? ⟨x2.heap.size, 0, none⟩ = some (.int .i64 s0) := by rw [hX]; simp
    have p1 : X.cell? ⟨x2.heap.size, 1, none⟩ = some (.int .i64 s1) := by rw [hX]; simp
    have p2 : X.cell? ⟨x2.heap.size, 2, none⟩ = some (.int .i64 s2) := by rw [hX]; simp
    have p3 : X.cell? ⟨x2.heap.size, 3, none⟩ = some (.int .i64 s3) := by rw [hX]; simp
    have p4 : X.cell? ⟨x2.heap.size, 4, none⟩ = some (.int .i64 s4) := by rw [hX]; simp
    have p5 : X.cell? ⟨x2.heap.size, 5, none⟩ = some (.int .i64 s5) := by rw [hX]; simp
    have p6 : X.cell? ⟨x2.heap.size, 6, none⟩ = some (.int .i64 s6) := by rw [hX]; simp
    have p7 : X.cell? ⟨x2.heap.size, 7, none⟩ = some (.int .i64 s7) := by rw [hX]; simp
    clear hX
    generalize x2.heap.size = g at p0 p1 p2 p3 p4 p5 p6 p7 ⊢
    go_wp2_with fail
    go_loop [6] (fun i => ∃ k : Nat, k ≤ 8 ∧ i = .int .i64 k ∧ Hid (∀ i, i < k → stepC a b i = 0)) (fun i => 8 - (intOf i).toNat)
    case atStart => exact ⟨0, by decide, rfl, Lib.hid fun i hi => absurd hi (Nat.not_lt_zero _)⟩
    case round =>
      obtain ⟨k, hk, hi, HF⟩ := hrel
      have hk' : k = 0 ∨ k = 1 ∨ k = 2 ∨ k = 3 ∨ k = 4 ∨ k = 5 ∨ k = 6 ∨ k = 7 ∨ k = 8 := by omega
      clear hk
      rcases hk' with rfl | rfl | rfl | rfl | rfl | rfl | rfl | rfl | rfl
      case inr.inr.inr.inr.inr.inr.inr.inr =>
        replace hi : _ = Value.int .i64 8 := hi
        subst hi
        have HZ := Lib.hid (cmpE_none a b HF.out)
        clear HF
        go_wp2
        go_ret
        exact ⟨by rw [HZ.out]; rfl, HW.out⟩
      case inl =>
        replace hi : _ = Value.int .i64 0 := hi
        subst hi
        by_cases hz : s0 = 0
        · have HZ : Hid (∀ i, i < 1 → stepC a b i = 0) := Lib.hid fun i hi => if h : i = 0 then h ▸ (Q0.out.trans hz) else HF.out i (by omega)
          have t2 : (s0 != 0) = false := by simpa using hz
          clear hz HF
          go_wp2
          go_round
          case measure => decide
          case rel => exact ⟨1, by omega, rfl, HZ⟩
        · have HZ : Hid (s0 = cmpE a b) := Lib.hid (Q0.out ▸ cmpE_first a b 0 (by decide) HF.out (by rw [Q0.out]; exact hz))
          have t2 : (s0 != 0) = true := by simpa using hz
          clear HF hz
          go_wp2
          go_ret
          exact ⟨by rw [← HZ.out]; rfl, HW.out⟩
      case inr.inl =>
        replace hi : _ = Value.int .i64 1 := hi
        subst hi
        by_cases hz : s1 = 0
        · have HZ : Hid (∀ i, i < 2 → stepC a b i = 0) := Lib.hid fun i hi => if h : i = 1 then h ▸ (Q1.out.trans hz) else HF.out i (by omega)
          have t2 : (s1 != 0) = false := by simpa using hz
          clear hz HF
          go_wp2
          go_round
          case measure => decide
          case rel => exact ⟨2, by omega, rfl, HZ⟩
        · have HZ : Hid (s1 = cmpE a b) := Lib.hid (Q1.out ▸ cmpE_first a b 1 (by decide) HF.out (by rw [Q1.out]; exact hz))
          have t2 : (s1 != 0) = true := by simpa using hz
          clear HF hz
          go_wp2
          go_ret
          exact ⟨by rw [← HZ.out]; rfl, HW.out⟩
      case inr.inr.inl =>
        replace hi : _ = Value.int .i64 2 := hi
        subst hi
        by_cases hz : s2 = 0
        · have HZ : Hid (∀ i, i < 3 → stepC a b i = 0) := Lib.hid fun i hi => if h : i = 2 then h ▸ (Q2.out.trans hz) else HF.out i (by omega)
          have t2 : (s2 != 0) = false := by simpa using hz
          clear hz HF
          go_wp2
          go_round
          case measure => decide
          case rel => exact ⟨3, by omega, rfl, HZ⟩
        · have HZ : Hid (s2 = cmpE a b) := Lib.hid (Q2.out ▸ cmpE_first a b 2 (by decide) HF.out (by rw [Q2.out]; exact hz))
          have t2 : (s2 != 0) = true := by simpa using hz
          clear HF hz
          go_wp2
          go_ret
          exact ⟨by rw [← HZ.out]; rfl, HW.out⟩
      case inr.inr.inr.inl =>
        replace hi : _ = Value.int .i64 3 := hi
        subst hi
        by_cases hz : s3 = 0
        · have HZ : Hid (∀ i, i < 4 → stepC a b i = 0) := Lib.hid fun i hi => if h : i = 3 then h ▸ (Q3.out.trans hz) else HF.out i (by omega)
          have t2 : (s3 != 0) = false := by simpa using hz
          clear hz HF
          go_wp2
          go_round
          case measure => decide
          case rel => exact ⟨4, by omega, rfl, HZ⟩
        · have HZ : Hid (s3 = cmpE a b) := Lib.hid (Q3.out ▸ cmpE_first a b 3 (by decide) HF.out (by rw [Q3.out]; exact hz))
          have t2 : (s3 != 0) = true := by simpa using hz
          clear HF hz
          go_wp2
          go_ret
          exact ⟨by rw [← HZ.out]; rfl, HW.out⟩
      case inr.inr.inr.inr.inl =>
        replace hi : _ = Value.int .i64 4 := hi
        subst hi
        by_cases hz : s4 = 0
        · have HZ : Hid (∀ i, i < 5 → stepC a b i = 0) := Lib.hid fun i hi => if h : i = 4 then h ▸ (Q4.out.trans hz) else HF.out i (by omega)
          have t2 : (s4 != 0) = false := by simpa using hz
          clear hz HF
          go_wp2
          go_round
          case measure => decide
          case rel => exact ⟨5, by omega, rfl, HZ⟩
        · have HZ : Hid (s4 = cmpE a b) := Lib.hid (Q4.out ▸ cmpE_first a b 4 (by decide) HF.out (by rw [Q4.out]; exact hz))
          have t2 : (s4 != 0) = true := by simpa using hz
          clear HF hz
          go_wp2
          go_ret
          exact ⟨by rw [← HZ.out]; rfl, HW.out⟩
      case inr.inr.inr.inr.inr.inl =>
        replace hi : _ = Value.int .i64 5 := hi
        subst hi
        by_cases hz : s5 = 0
        · have HZ : Hid (∀ i, i < 6 → stepC a b i = 0) := Lib.hid fun i hi => if h : i = 5 then h ▸ (Q5.out.trans hz) else HF.out i (by omega)
          have t2 : (s5 != 0) = false := by simpa using hz
          clear hz HF
          go_wp2
          go_round
          case measure => decide
          case rel => exact ⟨6, by omega, rfl, HZ⟩
        · have HZ : Hid (s5 = cmpE a b) := Lib.hid (Q5.out ▸ cmpE_first a b 5 (by decide) HF.out (by rw [Q5.out]; exact hz))
          have t2 : (s5 != 0) = true := by simpa using hz
          clear HF hz
          go_wp2
          go_ret
          exact ⟨by rw [← HZ.out]; rfl, HW.out⟩
      case inr.inr.inr.inr.inr.inr.inl =>
        replace hi : _ = Value.int .i64 6 := hi
        subst hi
        by_cases hz : s6 = 0
        · have HZ : Hid (∀ i, i < 7 → stepC a b i = 0) := Lib.hid fun i hi => if h : i = 6 then h ▸ (Q6.out.trans hz) else HF.out i (by omega)
          have t2 : (s6 != 0) = false := by simpa using hz
          clear hz HF
          go_wp2
          go_round
          case measure => decide
          case rel => exact ⟨7, by omega, rfl, HZ⟩
        · have HZ : Hid (s6 = cmpE a b) := Lib.hid (Q6.out ▸ cmpE_first a b 6 (by decide) HF.out (by rw [Q6.out]; exact hz))
          have t2 : (s6 != 0) = true := by simpa using hz
          clear HF hz
          go_wp2
          go_ret
          exact ⟨by rw [← HZ.out]; rfl, HW.out⟩
      case inr.inr.inr.inr.inr.inr.inr.inl =>
        replace hi : _ = Value.int .i64 7 := hi
        subst hi
        by_cases hz : s7 = 0
        · have HZ : Hid (∀ i, i < 8 → stepC a b i = 0) := Lib.hid fun i hi => if h : i = 7 then h ▸ (Q7.out.trans hz) else HF.out i (by omega)
          have t2 : (s7 != 0) = false := by simpa using hz
          clear hz HF
          go_wp2
          go_round
          case measure => decide
          case rel => exact ⟨8, by omega, rfl, HZ⟩
        · have HZ : Hid (s7 = cmpE a b) := Lib.hid (Q7.out ▸ cmpE_first a b 7 (by decide) HF.out (by rw [Q7.out]; exact hz))
          have t2 : (s7 != 0) = true := by simpa using hz
          clear HF hz
          go_wp2
          go_ret
          exact ⟨by rw [← HZ.out]; rfl, HW.out⟩
end Go.Proofs.YtmigjipfomfacaaGreatDoor
namespace Go.Proofs.YtmigjipfomfacaaGreatDoor
open Go.RowKit
section
variable {w x y : World} {cs : List (Array Value)}
structure Bxs (w : World) (cs : List (Array Value)) (x : World) : Prop where
  up : Below w.heap.size w x
  size : w.heap.size + cs.length ≤ x.heap.size
  cell : ∀ (j : Nat) c (i : Nat) v, cs[j]? = some c → c[i]? = some v → x.cell? ⟨w.heap.size + j, i, none⟩ = some v
  fz : ∀ (j : Nat) c (i : Nat), cs[j]? = some c → x.frozen? ⟨w.heap.size + j, i, none⟩ = false
theorem Bxs.nil (w : World) : Bxs w [] w := ⟨Below.refl _ _, Nat.le_refl _, fun j c i v h => (by simp at h), fun j c i h => (by simp at h)⟩
theorem Bxs.later (h : Bxs w cs x) (k : Below x.heap.size x y) : Bxs w cs y := by
  have hlt : ∀ (j : Nat) c, cs[j]? = some c → w.heap.size + j < x.heap.size := fun j c hj => by
    have := (List.getElem?_eq_some_iff.1 hj).1
    have := h.size
    omega
  exact ⟨h.up.trans (k.mono h.up.size), Nat.le_trans h.size k.size, fun j c i v hj hi => (k.cell (p := ⟨w.heap.size + j, i, none⟩) (hlt j c hj)).trans (h.cell j c i v hj hi),
    fun j c i hj => (k.frozen (p := ⟨w.heap.size + j, i, none⟩) (hlt j c hj)).trans (h.fz j c i hj)⟩
theorem Bxs.push {T : TypeId} {c : Array Value} (h : Bxs w cs x) (hs : x.heap.size = w.heap.size + cs.length) : Bxs w (cs ++ [c]) (x.alloc (.cells c T)) := by
  have k := h.later ((Below.refl _ x).alloc (Nat.le_refl _) (.cells c T))
  refine ⟨k.up, ?_, fun j d i v hj hi => ?_, fun j d i hj => ?_⟩
  · show _ ≤ (x.heap.push _).size
    simp only [Array.size_push, List.length_append, List.length_cons, List.length_nil]; omega
  · rcases Nat.lt_or_ge j cs.length with hlt | hge
    · rw [List.getElem?_append_left hlt] at hj; exact k.cell j d i v hj hi
    · rw [List.getElem?_append_right hge] at hj
      have : j = cs.length := by have := (List.getElem?_eq_some_iff.1 hj).1; simp at this; omega
      subst this
      simp at hj
      subst hj
      rw [← hs]
      simpa using hi
  · rcases Nat.lt_or_ge j cs.length with hlt | hge
    · rw [List.getElem?_append_left hlt] at hj; exact k.fz j d i hj
    · rw [List.getElem?_append_right hge] at hj
      have : j = cs.length := by have := (List.getElem?_eq_some_iff.1 hj).1; simp at this; omega
      subst this
      rw [← hs]
      simp
theorem Bxs.one (w : World) (T : TypeId) (c : Array Value) : Bxs w [c] (w.alloc (.cells c T)) := (Bxs.nil w).push (by simp)
theorem Bxs.two (w : World) (T : TypeId) (c c' : Array Value) : Bxs w [c, c'] ((w.alloc (.cells c T)).alloc (.cells c' T)) := (Bxs.one w T c).push (by show (w.heap.push _).size = _; simp)
theorem Bxs.three (w : World) (T : TypeId) (c c' c'' : Array Value) : Bxs w [c, c', c''] (((w.alloc (.cells c T)).alloc (.cells c' T)).alloc (.cells c'' T)) := (Bxs.two w T c c').push (by show ((w.heap.push _).push _).size = _; simp)
theorem Bxs.set (h : Bxs w cs x) {j : Nat} {c : Array Value} (i : Nat) (v : Value) (hj : cs[j]? = some c) (hi : i < c.size) : Bxs w (cs.set j (c.set! i v)) (x.setCell ⟨w.heap.size + j, i, none⟩ v) := by
  have hjl := (List.getElem?_eq_some_iff.1 hj).1
  have hget : ∀ (k : Nat) d, (cs.set j (c.set! i v))[k]? = some d → (k = j ∧ d = c.set! i v) ∨ (k ≠ j ∧ cs[k]? = some d) := fun k d hk => by
    rw [List.getElem?_set] at hk
    by_cases e : j = k
    · subst e; rw [if_pos rfl, if_pos hjl] at hk; injection hk with hk; exact .inl ⟨rfl, hk.symm⟩
    · rw [if_neg e] at hk; exact .inr ⟨fun h => e h.symm, hk⟩
  refine ⟨h.up.setCell (Nat.le_add_right _ _) v, by rw [List.length_set]; exact Nat.le_trans h.size (by simp), fun k d n u hk hn => ?_, fun k d n hk => ?_⟩
  · rcases hget k d hk with ⟨rfl, rfl⟩ | ⟨hne, hk⟩
    · by_cases e : n = i
      · subst e
        have : u = v := by simp [hi] at hn; exact hn.symm
        subst this
        exact World.cell?_setCell_same _ _ _ (h.cell k c n c[n] hj (by simp [hi]))
      · have : c[n]? = some u := by
          rw [Array.set!_eq_setIfInBounds, Array.getElem?_setIfInBounds_ne (fun h => e h.symm)] at hn; exact hn
        rw [World.cell?_setCell_other _ _ _ _ (fun e' => by injection e' with _ e'; exact e e'.symm)]
        exact h.cell k c n u hj this
    · rw [World.cell?_setCell_other _ _ _ _ (fun e' => by injection e' with e' _; omega)]
      exact h.cell k d n u hk hn
  · rw [World.frozen?_setCell]
    rcases hget k d hk with ⟨rfl, rfl⟩ | ⟨hne, hk⟩
    · exact h.fz k c n hj
    · exact h.fz k d n hk
theorem Bxs.c0 (h : Bxs w cs x) {c : Array Value} {i : Nat} {v : Value} (hj : cs[0]? = some c) (hi : c[i]? = some v) : x.cell? ⟨w.heap.size, i, none⟩ = some v := h.cell 0 c i v hj hi
theorem Bxs.c1 (h : Bxs w cs x) {c : Array Value} {i : Nat} {v : Value} (hj : cs[1]? = some c) (hi : c[i]? = some v) : x.cell? ⟨w.heap.size + 1, i, none⟩ = some v := h.cell 1 c i v hj hi
theorem Bxs.c2 (h : Bxs w cs x) {c : Array Value} {i : Nat} {v : Value} (hj : cs[2]? = some c) (hi : c[i]? = some v) : x.cell? ⟨w.heap.size + 1 + 1, i, none⟩ = some v := h.cell 2 c i v hj hi
theorem Bxs.f0 (h : Bxs w cs x) {c : Array Value} (hj : cs[0]? = some c) : ∀ i, x.frozen? ⟨w.heap.size, i, none⟩ = false := fun i => h.fz 0 c i hj
theorem Bxs.f1 (h : Bxs w cs x) {c : Array Value} (hj : cs[1]? = some c) : ∀ i, x.frozen? ⟨w.heap.size + 1, i, none⟩ = false := fun i => h.fz 1 c i hj
theorem Bxs.f2 (h : Bxs w cs x) {c : Array Value} (hj : cs[2]? = some c) : ∀ i, x.frozen? ⟨w.heap.size + 1 + 1, i, none⟩ = false := fun i => h.fz 2 c i hj
theorem Bxs.cells0 (h : Bxs w cs x) {c : Array Value} (hj : cs[0]? = some c) : ∀ j v, c[j]? = some v → x.cell? ⟨w.heap.size, j, none⟩ = some v := fun j v hv => h.cell 0 c j v hj hv
structure Bt (T : TypeId) (w : World) (cs : List (Array Value)) (rs : RowL) (x : World) : Prop where
  box : Bxs w cs x
  rows : RowsB T (w.heap.size + cs.length) x rs
variable {T : TypeId} {rs : RowL}
theorem Bt.of (h : Bxs w cs x) : Bt T w cs [] x := ⟨h, RowsB.nil⟩
theorem Bt.later (h : Bt T w cs rs x) (k : Below x.heap.size x y) : Bt T w cs rs y := ⟨h.box.later k, h.rows.later k⟩
theorem Bt.drew (h : Bt T w cs rs x) : Bt T w cs rs x.drew := h.later (Below.refl _ _).drew
theorem Bt.fresh (h : Bt T w cs rs x) (k : Below x.heap.size x y) {A : Option Addr} {c : Nat} {l : List UInt8} (ho : OwnB T x.heap.size y A c l) : Bt T w cs (rs ++ [(A, c, l)]) y := ⟨h.box.later k, h.rows.fresh k ho h.box.size⟩
theorem Bt.freshR (h : Bt T w cs rs x) (k : Below x.heap.size x y) {rs' : RowL} (hr : RowsB T x.heap.size y rs') : Bt T w cs (rs ++ rs') y := ⟨h.box.later k, h.rows.app k hr h.box.size⟩
theorem Bt.alloc (h : Bt T w cs rs x) (o : Obj) : Bt T w cs rs (x.alloc o) := h.later ((Below.refl _ x).alloc (Nat.le_refl _) o)
theorem rows_pre {B : Nat} {us vs : RowL} (h : RowsB T B x (us ++ vs)) : RowsB T B x us :=
  ⟨fun i r hr => h.1 i r (by rw [List.getElem?_append_left (List.getElem?_eq_some_iff.1 hr).1]; exact hr), fun i j r s hr hs => h.2 i j r s (by rw [List.getElem?_append_left (List.getElem?_eq_some_iff.1 hr).1]; exact hr) (by rw [List.getElem?_append_left (List.getElem?_eq_some_iff.1 hs).1]; exact hs)⟩
theorem Bt.set (h : Bt T w cs rs x) {j : Nat} {c : Array Value} (i : Nat) (v : Value) (hj : cs[j]? = some c) (hi : i < c.size) : Bt T w (cs.set j (c.set! i v)) rs (x.setCell ⟨w.heap.size + j, i, none⟩ v) := by
  have hlt := (List.getElem?_eq_some_iff.1 hj).1
  refine ⟨h.box.set i v hj hi, ?_⟩
  rw [List.length_set]
  exact rows_set h.rows (by omega) i v
theorem Bt.s1_0 {a0 a1 a2 a3 a4 a5 a6 : Value} {c0 : Array Value} {r : List (Array Value)} (u : Value) (h : Bt T w (c0 :: #[a0, a1, a2, a3, a4, a5, a6] :: r) rs x) : Bt T w (c0 :: #[u, a1, a2, a3, a4, a5, a6] :: r) rs (x.setCell ⟨w.heap.size + 1, 0, none⟩ u) := h.set (j := 1) 0 u rfl (show 0 < 7 by decide)
theorem Bt.s1_1 {a0 a1 a2 a3 a4 a5 a6 : Value} {c0 : Array Value} {r : List (Array Value)} (u : Value) (h : Bt T w (c0 :: #[a0, a1, a2, a3, a4, a5, a6] :: r) rs x) : Bt T w (c0 :: #[a0, u, a2, a3, a4, a5, a6] :: r) rs (x.setCell ⟨w.heap.size + 1, 1, none⟩ u) := h.set (j := 1) 1 u rfl (show 1 < 7 by decide)
theorem Bt.s1_2 {a0 a1 a2 a3 a4 a5 a6 : Value} {c0 : Array Value} {r : List (Array Value)} (u : Value) (h : Bt T w (c0 :: #[a0, a1, a2, a3, a4, a5, a6] :: r) rs x) : Bt T w (c0 :: #[a0, a1, u, a3, a4, a5, a6] :: r) rs (x.setCell ⟨w.heap.size + 1, 2, none⟩ u) := h.set (j := 1) 2 u rfl (show 2 < 7 by decide)
theorem Bt.s1_3 {a0 a1 a2 a3 a4 a5 a6 : Value} {c0 : Array Value} {r : List (Array Value)} (u : Value) (h : Bt T w (c0 :: #[a0, a1, a2, a3, a4, a5, a6] :: r) rs x) : Bt T w (c0 :: #[a0, a1, a2, u, a4, a5, a6] :: r) rs (x.setCell ⟨w.heap.size + 1, 3, none⟩ u) := h.set (j := 1) 3 u rfl (show 3 < 7 by decide)
theorem Bt.s1_4 {a0 a1 a2 a3 a4 a5 a6 : Value} {c0 : Array Value} {r : List (Array Value)} (u : Value) (h : Bt T w (c0 :: #[a0, a1, a2, a3, a4, a5, a6] :: r) rs x) : Bt T w (c0 :: #[a0, a1, a2, a3, u, a5, a6] :: r) rs (x.setCell ⟨w.heap.size + 1, 4, none⟩ u) := h.set (j := 1) 4 u rfl (show 4 < 7 by decide)
theorem Bt.s1_5 {a0 a1 a2 a3 a4 a5 a6 : Value} {c0 : Array Value} {r : List (Array Value)} (u : Value) (h : Bt T w (c0 :: #[a0, a1, a2, a3, a4, a5, a6] :: r) rs x) : Bt T w (c0 :: #[a0, a1, a2, a3, a4, u, a6] :: r) rs (x.setCell ⟨w.heap.size + 1, 5, none⟩ u) := h.set (j := 1) 5 u rfl (show 5 < 7 by decide)
theorem Bt.s2_0 {a0 a1 a2 a3 a4 a5 a6 : Value} {c0 c1 : Array Value} {r : List (Array Value)} (u : Value) (h : Bt T w (c0 :: c1 :: #[a0, a1, a2, a3, a4, a5, a6] :: r) rs x) : Bt T w (c0 :: c1 :: #[u, a1, a2, a3, a4, a5, a6] :: r) rs (x.setCell ⟨w.heap.size + 1 + 1, 0, none⟩ u) := h.set (j := 2) 0 u rfl (show 0 < 7 by decide)
theorem Bt.s2_1 {a0 a1 a2 a3 a4 a5 a6 : Value} {c0 c1 : Array Value} {r : List (Array Value)} (u : Value) (h : Bt T w (c0 :: c1 :: #[a0, a1, a2, a3, a4, a5, a6] :: r) rs x) : Bt T w (c0 :: c1 :: #[a0, u, a2, a3, a4, a5, a6] :: r) rs (x.setCell ⟨w.heap.size + 1 + 1, 1, none⟩ u) := h.set (j := 2) 1 u rfl (show 1 < 7 by decide)
theorem Bt.s2_2 {a0 a1 a2 a3 a4 a5 a6 : Value} {c0 c1 : Array Value} {r : List (Array Value)} (u : Value) (h : Bt T w (c0 :: c1 :: #[a0, a1, a2, a3, a4, a5, a6] :: r) rs x) : Bt T w (c0 :: c1 :: #[a0, a1, u, a3, a4, a5, a6] :: r) rs (x.setCell ⟨w.heap.size + 1 + 1, 2, none⟩ u) := h.set (j := 2) 2 u rfl (show 2 < 7 by decide)
theorem Bt.s2_3 {a0 a1 a2 a3 a4 a5 a6 : Value} {c0 c1 : Array Value} {r : List (Array Value)} (u : Value) (h : Bt T w (c0 :: c1 :: #[a0, a1, a2, a3, a4, a5, a6] :: r) rs x) : Bt T w (c0 :: c1 :: #[a0, a1, a2, u, a4, a5, a6] :: r) rs (x.setCell ⟨w.heap.size + 1 + 1, 3, none⟩ u) := h.set (j := 2) 3 u rfl (show 3 < 7 by decide)
theorem Bt.s2_4 {a0 a1 a2 a3 a4 a5 a6 : Value} {c0 c1 : Array Value} {r : List (Array Value)} (u : Value) (h : Bt T w (c0 :: c1 :: #[a0, a1, a2, a3, a4, a5, a6] :: r) rs x) : Bt T w (c0 :: c1 :: #[a0, a1, a2, a3, u, a5, a6] :: r) rs (x.setCell ⟨w.heap.size + 1 + 1, 4, none⟩ u) := h.set (j := 2) 4 u rfl (show 4 < 7 by decide)
theorem Bt.s2_5 {a0 a1 a2 a3 a4 a5 a6 : Value} {c0 c1 : Array Value} {r : List (Array Value)} (u : Value) (h : Bt T w (c0 :: c1 :: #[a0, a1, a2, a3, a4, a5, a6] :: r) rs x) : Bt T w (c0 :: c1 :: #[a0, a1, a2, a3, a4, u, a6] :: r) rs (x.setCell ⟨w.heap.size + 1 + 1, 5, none⟩ u) := h.set (j := 2) 5 u rfl (show 5 < 7 by decide)
theorem Bt.s0_0 {a0 a1 a2 a3 a4 a5 a6 : Value} {r : List (Array Value)} (u : Value) (h : Bt T w (#[a0, a1, a2, a3, a4, a5, a6] :: r) rs x) : Bt T w (#[u, a1, a2, a3, a4, a5, a6] :: r) rs (x.setCell ⟨w.heap.size, 0, none⟩ u) := h.set (j := 0) 0 u rfl (show 0 < 7 by decide)
theorem Bt.s0_1 {a0 a1 a2 a3 a4 a5 a6 : Value} {r : List (Array Value)} (u : Value) (h : Bt T w (#[a0, a1, a2, a3, a4, a5, a6] :: r) rs x) : Bt T w (#[a0, u, a2, a3, a4, a5, a6] :: r) rs (x.setCell ⟨w.heap.size, 1, none⟩ u) := h.set (j := 0) 1 u rfl (show 1 < 7 by decide)
theorem Bt.s0_2 {a0 a1 a2 a3 a4 a5 a6 : Value} {r : List (Array Value)} (u : Value) (h : Bt T w (#[a0, a1, a2, a3, a4, a5, a6] :: r) rs x) : Bt T w (#[a0, a1, u, a3, a4, a5, a6] :: r) rs (x.setCell ⟨w.heap.size, 2, none⟩ u) := h.set (j := 0) 2 u rfl (show 2 < 7 by decide)
theorem Bt.s0_3 {a0 a1 a2 a3 a4 a5 a6 : Value} {r : List (Array Value)} (u : Value) (h : Bt T w (#[a0, a1, a2, a3, a4, a5, a6] :: r) rs x) : Bt T w (#[a0, a1, a2, u, a4, a5, a6] :: r) rs (x.setCell ⟨w.heap.size, 3, none⟩ u) := h.set (j := 0) 3 u rfl (show 3 < 7 by decide)
theorem Bt.s0_4 {a0 a1 a2 a3 a4 a5 a6 : Value} {r : List (Array Value)} (u : Value) (h : Bt T w (#[a0, a1, a2, a3, a4, a5, a6] :: r) rs x) : Bt T w (#[a0, a1, a2, a3, u, a5, a6] :: r) rs (x.setCell ⟨w.heap.size, 4, none⟩ u) := h.set (j := 0) 4 u rfl (show 4 < 7 by decide)
theorem Bt.s0_5 {a0 a1 a2 a3 a4 a5 a6 : Value} {r : List (Array Value)} (u : Value) (h : Bt T w (#[a0, a1, a2, a3, a4, a5, a6] :: r) rs x) : Bt T w (#[a0, a1, a2, a3, a4, u, a6] :: r) rs (x.setCell ⟨w.heap.size, 5, none⟩ u) := h.set (j := 0) 5 u rfl (show 5 < 7 by decide)
theorem Bt.s0_6 {a0 a1 a2 a3 a4 a5 a6 : Value} {r : List (Array Value)} (u : Value) (h : Bt T w (#[a0, a1, a2, a3, a4, a5, a6] :: r) rs x) : Bt T w (#[a0, a1, a2, a3, a4, a5, u] :: r) rs (x.setCell ⟨w.heap.size, 6, none⟩ u) := h.set (j := 0) 6 u rfl (show 6 < 7 by decide)
theorem Bt.fill7 {c : Array Value} {r : List (Array Value)} (h : Bt T w (c :: r) rs x) (hc : c.size = 7) (v0 v1 v2 v3 v4 v5 v6 : Value) : Bt T w (#[v0, v1, v2, v3, v4, v5, v6] :: r) rs
    (((((((x.setCell ⟨w.heap.size, 0, none⟩ v0).setCell ⟨w.heap.size, 1, none⟩ v1).setCell ⟨w.heap.size, 2, none⟩ v2).setCell ⟨w.heap.size, 3, none⟩ v3).setCell ⟨w.heap.size, 4, none⟩ v4).setCell ⟨w.heap.size, 5, none⟩ v5).setCell ⟨w.heap.size, 6, none⟩ v6) := by
  obtain ⟨l⟩ := c
  match l, hc with
  | [b0, b1, b2, b3, b4, b5, b6], _ =>
    exact Bt.s0_6 v6 (Bt.s0_5 v5 (Bt.s0_4 v4 (Bt.s0_3 v3 (Bt.s0_2 v2 (Bt.s0_1 v1 (Bt.s0_0 v0 h))))))
end
section
variable {P : Program}
theorem run_loadVar_at {w : World} {g : Nat} {ty : TypeId} {cs : Array Value} (hc : ∀ j v, cs[j]? = some v → w.cell? ⟨g, j, none⟩ = some v)
    (ha : (P.underlying ty).map (fun d => match d with | .struct _ | .array _ _ => true | _ => false) = some true) (hi : (P.info? ty).map (·.size) = some cs.size) :
    (loadVar ty ⟨g, 0, none⟩).run P w = .ok (.agg cs) w := by
  have hl : (loadCells ⟨g, 0, none⟩ cs.toList.length).run P w = .ok cs.toList.toArray w :=
    run_loadCells_list (P := P) w ⟨g, 0, none⟩ cs.toList (fun j v hv => by
      have hadd : (⟨g, 0, none⟩ : Addr).add j = ⟨g, j, none⟩ := by unfold Addr.add; split <;> simp_all
      rw [hadd]
      exact hc j v (by simpa using hv))
  simp only [Array.length_toList, Array.toArray_toList] at hl
  have h1 := run_isAgg_of ha w
  have h2 := run_sizeOf_of hi w
  simp [loadVar, Sem.run_bind, h1, h2, hl]
theorem results_box1 {fn : Func} {p t : Tmp} {ty : TypeId} (h : fn.results = #[.cell p ty, .tmp t]) (tmps : Array Value) (w : World) (g : Nat) (cs : Array Value)
    (hp : tmps.getD p undef = .pointer (some ⟨g, 0, none⟩)) (hc : ∀ j v, cs[j]? = some v → w.cell? ⟨g, j, none⟩ = some v)
    (ha : (P.underlying ty).map (fun d => match d with | .struct _ | .array _ _ => true | _ => false) = some true) (hi : (P.info? ty).map (·.size) = some cs.size) :
    (results fn tmps).run P w = .ok (.tuple #[.agg cs, tmps.getD t undef]) w := by
  have hp' : tmps[p]?.getD undef = .pointer (some ⟨g, 0, none⟩) := by simpa using hp
  simp [results, h, hp', asAddr, run_loadVar_at hc ha hi]
end
end Go.Proofs.YtmigjipfomfacaaGreatDoor
namespace Go.Proofs.YtmigjipfomfacaaGreatDoor
open Go.RowKit
section
variable {w x y : World} {T : TypeId} {rs : RowL}
theorem results_box0 {P : Program} {fn : Func} {p : Tmp} {ty : TypeId} (h : fn.results = #[.cell p ty]) (tmps : Array Value) (w : World) (g : Nat) (cs : Array Value)
    (hp : tmps.getD p undef = .pointer (some ⟨g, 0, none⟩)) (hc : ∀ j v, cs[j]? = some v → w.cell? ⟨g, j, none⟩ = some v)
    (ha : (P.underlying ty).map (fun d => match d with | .struct _ | .array _ _ => true | _ => false) = some true) (hi : (P.info? ty).map (·.size) = some cs.size) :
    (results fn tmps).run P w = .ok (.agg cs) w := by
  have hp' : tmps[p]?.getD undef = .pointer (some ⟨g, 0, none⟩) := by simpa using hp
  simp [results, h, hp', asAddr, run_loadVar_at hc ha hi]
end
end Go.Proofs.YtmigjipfomfacaaGreatDoor
namespace Go.Proofs.YtmigjipfomfacaaGreatDoor
open Go.RowKit
section
variable {w x y : World} {T : TypeId}
def Over (m : UInt8) (w x : World) : Prop := w.heap.size ≤ x.heap.size ∧ ∀ p u, w.cell? p = some u → x.cell? p = some u ∨ x.cell? p = some (u8v m)
theorem Over.refl (m : UInt8) (w : World) : Over m w w := ⟨Nat.le_refl _, fun _p _u h => .inl h⟩
theorem Over.trans {m : UInt8} (h : Over m w x) (k : Over m x y) : Over m w y := ⟨Nat.le_trans h.1 k.1, fun p u e => by
  rcases h.2 p u e with e | e
  · exact k.2 p u e
  · rcases k.2 p _ e with e | e <;> exact .inr e⟩
theorem Over.alloc {m : UInt8} (w : World) (o : Obj) : Over m w (w.alloc o) := ⟨((Below.refl _ w).alloc (Nat.le_refl _) o).size, fun _p _u e => .inl (cell_alloc_old e)⟩
structure Lng (w : World) (A : Option Addr) (n : Nat) (m : UInt8) (g : Nat) (x : World) : Prop where
  ge : w.heap.size ≤ g
  lt : g < x.heap.size
  all : ∃ c A1 c1 A2 c2 A3 c3, (x.cell? ⟨g, 0, none⟩ = some (.slice A n c) ∧ x.cell? ⟨g, 1, none⟩ = some (.slice A1 (n + 1) c1) ∧ x.cell? ⟨g, 2, none⟩ = some (.slice A2 (n + 2) c2) ∧ x.cell? ⟨g, 3, none⟩ = some (.slice A3 (n + 101) c3)) ∧
    (Sl x A n c (List.replicate n m) ∧ Sl x A1 (n + 1) c1 (List.replicate (n + 1) m) ∧ Sl x A2 (n + 2) c2 (List.replicate (n + 2) m) ∧ Sl x A3 (n + 101) c3 (List.replicate (n + 101) m)) ∧ Blk w A A1 ∧ Blk w A A2 ∧ Blk w A A3
theorem Lng.chg {A : Option Addr} {n : Nat} {m : UInt8} {g : Nat} {S : Nat → Prop} (h : Lng w A n m g x) (hc : Chg S x y) (hS : ∀ b, S b → b < w.heap.size ∧ A.map (·.block) ≠ some b) : Lng w A n m g y := by
  obtain ⟨c, A1, c1, A2, c2, A3, c3, ⟨q0, q1, q2, q3⟩, ⟨s0, s1, s2, s3⟩, b1, b2, b3⟩ := h.all
  have hg : ¬ S g := fun e => by have := (hS g e).1; have := h.ge; omega
  have hA : ∀ a, A = some a → ¬ S a.block := fun a ha e => (hS _ e).2 (by rw [ha]; rfl)
  have hB : ∀ {A' : Option Addr}, Blk w A A' → ∀ a, A' = some a → ¬ S a.block := fun hb a ha e => by
    rcases hb a ha with h' | h'
    · exact (hS _ e).2 h'
    · have := (hS _ e).1; omega
  exact ⟨h.ge, Nat.lt_of_lt_of_le h.lt hc.size, c, A1, c1, A2, c2, A3, c3, ⟨hc.cell q0 hg, hc.cell q1 hg, hc.cell q2 hg, hc.cell q3 hg⟩,
    ⟨s0.chg hc fun _ => hA, s1.chg hc fun _ => hB b1, s2.chg hc fun _ => hB b2, s3.chg hc fun _ => hB b3⟩, b1, b2, b3⟩
theorem Lng.later {A : Option Addr} {n : Nat} {m : UInt8} {g : Nat} (h : Lng w A n m g x) (hb : Below x.heap.size x y) : Lng w A n m g y := h.chg (S := fun _ => False) (Below.chg0 hb) fun _b e => e.elim
end
end Go.Proofs.YtmigjipfomfacaaGreatDoor
namespace Go.Proofs.YtmigjipfomfacaaGreatDoor
open Go.RowKit
section
variable {P : Program} {ops : Array Oper} {Q : Exit → Act → World → Prop}
structure Same (S : List Nat) (b a : Act) : Prop where
  size : a.tmps.size = b.tmps.size
  rest : a.defers = b.defers
  at_ : ∀ k, k ∉ S → a.tmps[k]? = b.tmps[k]?
theorem Same.refl (S : List Nat) (a : Act) : Same S a a := ⟨rfl, rfl, fun _ _ => rfl⟩
theorem Same.put {S : List Nat} {b a : Act} (h : Same S b a) {d : Nat} (hd : d ∈ S) (x : Value) : Same S b (a.put (some d) x) :=
  ⟨by simp [Act.put, h.size], h.rest, fun k hk => by
    have : d ≠ k := fun e => hk (e ▸ hd)
    simp only [Act.put, Array.getElem?_setIfInBounds_ne this]
    exact h.at_ k hk⟩
theorem eval_tmp (a : Act) (k : Nat) : a.eval (.tmp k) = a.tmps.getD k undef := rfl
theorem Same.eval {S : List Nat} {b a : Act} (h : Same S b a) {k : Nat} (hk : k ∉ S) : a.eval (.tmp k) = b.eval (.tmp k) := by
  simp only [eval_tmp, Array.getD_eq_getD_getElem?, h.at_ k hk]
def AllOps (C : Nat → Oper → Prop) : Nat → List Oper → Prop
  | _, [] => True
  | k, o :: l => C k o ∧ AllOps C (k + 1) l
theorem AllOps.at_ {C : Nat → Oper → Prop} : ∀ {l : List Oper} {k : Nat}, AllOps C k l → ∀ (i : Nat) o, l[i]? = some o → C (k + i) o
  | [], _, _, i, o, h => by simp at h
  | x :: l, k, h, i, o, hi => by
    cases i with
    | zero => injection hi with hi; subst hi; exact h.1
    | succ i =>
      have := AllOps.at_ h.2 i o hi
      rwa [show k + 1 + i = k + (i + 1) from by omega] at this
def GoFn (P : Program) (f : FuncId) : Prop := ∃ fn, P.funcs[f]? = some fn ∧ (fn.name == "runtime.NumGoroutine") = false ∧ fn.body.isNone = false
theorem run_callFunc_go {f : FuncId} (h : GoFn P f) (args : Array Value) (w : World) : (callFunc f args).run P w = .ok (.enter f args) w := by
  obtain ⟨fn, h1, h2, h3⟩ := h
  have e2 : (fn.name == "runtime.NumGoroutine") = false := h2
  have e3 : fn.body.isNone = false := h3
  unfold callFunc
  have hp : program.run P w = .ok P w := rfl
  simp only [Sem.run_bind, hp, Result.andThen_ok, h1, e2, e3, Bool.false_eq_true, if_false, Sem.run_pure]
theorem wp_call_go {o : Oper} {a : Act} {w : World} {K : Act → World → Prop} {f : FuncId} {xs : Array Operand} {ats : Array TypeId} (ho : o.op = .call { callee := .value (.func f), args := xs, argTypes := ats }) (hf : GoFn P f)
    (vals : Array Value) (hv : xs.map a.eval = vals) (hc : Calls P f vals w fun e w' => ∃ v, e = .returned v ∧ K (a.put o.dst v) w') : o.wp P a w K Q := by
  subst hv
  have hrun : (execOp a.eval o).run P w = .ok (.enter f (xs.map a.eval)) w := by
    obtain ⟨dst, op, type, pos, after, guard⟩ := o
    simp only at ho
    subst ho
    rw [execOp_call_go]
    have e : #[] ++ xs.map a.eval ++ #[] = xs.map a.eval := by simp
    rw [e]
    exact run_callFunc_go hf _ w
  unfold Oper.wp
  rw [hrun, Oper.upon_enter]
  refine hc.mono fun e w' ⟨v, he, hK⟩ => ?_
  subst he
  exact hK
structure RowTy (P : Program) (ty : TypeId) (n : Nat) : Prop where
  desc : ∃ d, P.underlying ty = some d ∧ d.isRow = true
  size : (P.info? ty).map (·.size) = some n
theorem wp_load_row7 {o : Oper} {a : Act} {w : World} {K : Act → World → Prop} {ty : TypeId} {x : Operand} (ho : o.op = .load ty x) {g : Nat} {cs : List Value} (hx : a.eval x = .pointer (some ⟨g, 0, none⟩)) (hr : w.rangeAt g 0 cs) (ht : RowTy P ty cs.length)
    (hK : K (a.put o.dst (.agg cs.toArray)) w) : o.wp P a w K Q := by
  obtain ⟨⟨d, hu, hd⟩, hi⟩ := ht
  exact wp_load_mid ty x ho g 0 hx cs d hr hu hd hi hK
theorem wpList_load_row7 {rest : List Oper} {o : Oper} {a : Act} {w : World} (hgd : Region.wanted o (yielded ops a.tmps) = true) (ty : TypeId) (x : Operand) (ho : o.op = .load ty x) {g : Nat} {cs : List Value} (hx : a.eval x = .pointer (some ⟨g, 0, none⟩)) (hr : w.rangeAt g 0 cs) (ht : RowTy P ty cs.length)
    (hK : wpList P ops Q rest (a.put o.dst (.agg cs.toArray)) w) : wpList P ops Q (o :: rest) a w :=
  BigFrame.wpList_want hgd fun _ h => wp_load_row7 ho hx hr ht (h _ _ hK)
end
end Go.Proofs.YtmigjipfomfacaaGreatDoor
namespace Go.Proofs.YtmigjipfomfacaaGreatDoor
open Go.RowKit
abbrev Bx1 := Option (Nat × List Value)
structure St (T : TypeId) (w : World) (bs : List Bx1) (rs : RowL) (x : World) : Prop where
  up : Below w.heap.size w x
  box : ∀ (i : Nat) g cs, bs[i]? = some (some (g, cs)) → w.heap.size ≤ g ∧ g < x.heap.size ∧ x.rangeAt g 0 cs ∧ ∀ j, x.frozen? ⟨g, j, none⟩ = false
  ne : ∀ (i j : Nat) g cs h ds, bs[i]? = some (some (g, cs)) → bs[j]? = some (some (h, ds)) → i ≠ j → g ≠ h
  rows : RowsB T w.heap.size x rs
  off : ∀ (i j : Nat) g cs r a, bs[i]? = some (some (g, cs)) → rs[j]? = some r → r.1 = some a → a.block ≠ g
section
variable {T : TypeId} {w x y : World} {bs : List Bx1} {rs : RowL} {i g : Nat} {cs vs : List Value}
theorem St.nil (T : TypeId) (w : World) : St T w [] [] w := ⟨Below.refl _ _, fun i g cs h => by simp at h, fun i j g cs h ds h1 => by simp at h1, RowsB.nil, fun i j g cs r a h => by simp at h⟩
theorem range_below {g : Nat} (h : x.rangeAt g 0 cs) (k : Below x.heap.size x y) : y.rangeAt g 0 cs := fun j v hv => cell_below k (h j v hv)
theorem St.later (h : St T w bs rs x) (k : Below x.heap.size x y) : St T w bs rs y :=
  ⟨h.up.trans (k.mono h.up.size), fun i g cs hb => by
    obtain ⟨h1, h2, h3, h4⟩ := h.box i g cs hb
    exact ⟨h1, Nat.lt_of_lt_of_le h2 k.size, range_below h3 k, fun j => (k.frozen (p := ⟨g, j, none⟩) h2).trans (h4 j)⟩, h.ne, h.rows.later k, h.off⟩
theorem St.drew (h : St T w bs rs x) : St T w bs rs x.drew := h.later (Below.refl _ _).drew
theorem St.range (h : St T w bs rs x) (hb : bs[i]? = some (some (g, cs))) : x.rangeAt g 0 cs := (h.box i g cs hb).2.2.1
theorem St.cell (h : St T w bs rs x) (hb : bs[i]? = some (some (g, cs))) {j : Nat} {v : Value} (hv : cs[j]? = some v) : x.cell? ⟨g, j, none⟩ = some v := by have := h.range hb j v hv; rwa [Nat.zero_add] at this
theorem St.fz (h : St T w bs rs x) (hb : bs[i]? = some (some (g, cs))) (j : Nat) : x.frozen? ⟨g, j, none⟩ = false := (h.box i g cs hb).2.2.2 j
theorem St.more (h : St T w bs rs x) : St T w (bs ++ [none]) rs x := by
  have hg : ∀ (i : Nat) b, (bs ++ [none])[i]? = some (some b) → bs[i]? = some (some b) := fun i b hi => by
    rw [List.getElem?_append] at hi
    split at hi
    · exact hi
    · rw [List.getElem?_singleton] at hi; split at hi <;> simp at hi
  exact ⟨h.up, fun i g cs hb => h.box i g cs (hg i _ hb), fun i j g cs g' ds h1 h2 => h.ne i j g cs g' ds (hg i _ h1) (hg j _ h2), h.rows, fun i j g cs r a h1 => h.off i j g cs r a (hg i _ h1)⟩
theorem set_get {b : Bx1} {c : Nat × List Value} {j : Nat} (hj : (bs.set i b)[j]? = some (some c)) : (j = i ∧ b = some c) ∨ (j ≠ i ∧ bs[j]? = some (some c)) := by
  rw [List.getElem?_set] at hj
  by_cases e : i = j
  · subst e
    rw [if_pos rfl] at hj
    split at hj
    · injection hj with hj; exact .inl ⟨rfl, hj⟩
    · cases hj
  · rw [if_neg e] at hj
    exact .inr ⟨fun h => e h.symm, hj⟩
theorem range_new (w : World) (cs : List Value) (t : TypeId) : (w.alloc (.cells cs.toArray t)).rangeAt w.heap.size 0 cs := fun j v hv => by
  rw [Nat.zero_add]; simpa using hv
theorem St.fill {t : TypeId} (h : St T w bs rs x) (i : Nat) (cs : List Value) (hn : bs[i]? = some none) : St T w (bs.set i (some (x.heap.size, cs))) rs (x.alloc (.cells cs.toArray t)) := by
  have hb : Below x.heap.size x (x.alloc (.cells cs.toArray t)) := (Below.refl _ x).alloc (Nat.le_refl _) _
  have k := h.later hb
  have hsz : x.heap.size < (x.alloc (.cells cs.toArray t)).heap.size := by show _ < (x.heap.push _).size; simp
  refine ⟨k.up, fun j g ds hj => ?_, fun j q g ds g' ds' hj hq hne => ?_, k.rows, fun j q g ds r a hj hq ha => ?_⟩
  · rcases set_get hj with ⟨rfl, e⟩ | ⟨_, hj⟩
    · injection e with e; injection e with e1 e2; subst e1; subst e2
      exact ⟨h.up.size, hsz, range_new _ _ _, fun j => by simp⟩
    · exact k.box j g ds hj
  · rcases set_get hj with ⟨rfl, e⟩ | ⟨h1, hj1⟩ <;> rcases set_get hq with ⟨rfl, e'⟩ | ⟨h2, hq1⟩
    · exact absurd rfl hne
    · injection e with e; injection e with e1 _; subst e1
      exact Nat.ne_of_gt (h.box q g' ds' hq1).2.1
    · injection e' with e'; injection e' with e1 _; subst e1
      exact Nat.ne_of_lt (h.box j g ds hj1).2.1
    · exact h.ne j q g ds g' ds' hj1 hq1 hne
  · rcases set_get hj with ⟨rfl, e⟩ | ⟨h1, hj⟩
    · injection e with e; injection e with e1 _; subst e1
      exact Nat.ne_of_lt (((h.rows.1 q r hq).lt ha).2)
    · exact h.off j q g ds r a hj hq ha
theorem St.push {t : TypeId} (h : St T w bs rs x) (cs : List Value) : St T w (bs ++ [some (x.heap.size, cs)]) rs (x.alloc (.cells cs.toArray t)) := by
  have := (h.more).fill (t := t) bs.length cs (by simp)
  simpa using this
theorem St.chg {S : Nat → Prop} (h : St T w bs rs x) (hc : Chg S x y) (hS : ∀ b, S b → w.heap.size ≤ b) (hb : ∀ (i : Nat) g cs, bs[i]? = some (some (g, cs)) → ¬ S g) (hr : ∀ (i : Nat) r, rs[i]? = some r → ∀ a, r.1 = some a → ¬ S a.block) : St T w bs rs y :=
  ⟨h.up.trans (hc.below h.up.size fun k _ hk => hS k hk), fun i g cs hi => by
    obtain ⟨h1, h2, h3, h4⟩ := h.box i g cs hi
    refine ⟨h1, Nat.lt_of_lt_of_le h2 hc.size, fun j v hv => hc.cell (h3 j v hv) (hb i g cs hi), fun j => ?_⟩
    have := hc.block g h2 (hb i g cs hi)
    have h5 := h4 j
    unfold World.frozen? at h5 ⊢
    rw [this]; exact h5, h.ne, h.rows.chg hc hr, h.off⟩
theorem setCells_chg (g : Nat) : ∀ (vs : List Value) (o : Nat) (x : World), Chg (fun b => b = g) x (x.setCells g o vs)
  | [], _, x => Chg.refl _ x
  | v :: vs, o, x => (Chg.setCell x ⟨g, o, none⟩ v).trans (setCells_chg g vs (o + 1) _)
theorem St.put (h : St T w bs rs x) (hb : bs[i]? = some (some (g, cs))) (hl : vs.length = cs.length) : St T w (bs.set i (some (g, vs))) rs (x.setCells g 0 vs) ∧ Chg (fun b => b = g) x (x.setCells g 0 vs) := by
  have hc := setCells_chg g vs 0 x
  obtain ⟨hw, hx, hr, hf⟩ := h.box i g cs hb
  have ht : x.there g 0 vs.length := fun j hj => ⟨hr.isSome j (by omega), by rw [Nat.zero_add]; exact hf j⟩
  have hfz : ∀ q, (x.setCells g 0 vs).frozen? q = x.frozen? q := fun q => World.frozen?_setCells _ _ _ _ _
  refine ⟨⟨h.up.trans (hc.below h.up.size fun k _ hk => by rw [hk]; exact hw), fun j g' ds hj => ?_, fun j q g' ds g'' ds' hj hq hne => ?_, h.rows.chg hc fun q r hq a ha => h.off i q g cs r a hb hq ha, fun j q g' ds r a hj hq ha => ?_⟩, hc⟩
  · rcases set_get hj with ⟨rfl, e⟩ | ⟨h1, hj⟩
    · injection e with e; injection e with e1 e2; subst e1; subst e2
      exact ⟨hw, Nat.lt_of_lt_of_le hx hc.size, World.rangeAt_setCells_same x g 0 vs ht, fun j => (hfz _).trans (hf j)⟩
    · obtain ⟨a1, a2, a3, a4⟩ := h.box j g' ds hj
      exact ⟨a1, Nat.lt_of_lt_of_le a2 hc.size, World.rangeAt_setCells_apart a3 g 0 vs (.inl (h.ne j i g' ds g cs hj hb h1)), fun j => (hfz _).trans (a4 j)⟩
  · rcases set_get hj with ⟨rfl, e⟩ | ⟨h1, hj1⟩ <;> rcases set_get hq with ⟨rfl, e'⟩ | ⟨h2, hq1⟩
    · exact absurd rfl hne
    · injection e with e; injection e with e1 _; subst e1
      exact h.ne j q g cs g'' ds' hb hq1 hne
    · injection e' with e'; injection e' with e1 _; subst e1
      exact h.ne j q g' ds g cs hj1 hb hne
    · exact h.ne j q g' ds g'' ds' hj1 hq1 hne
  · rcases set_get hj with ⟨rfl, e⟩ | ⟨h1, hj⟩
    · injection e with e; injection e with e1 _; subst e1
      exact h.off j q g cs r a hb hq ha
    · exact h.off j q g' ds r a hj hq ha
theorem St.app (h : St T w bs rs x) (k : Below x.heap.size x y) {rs' : RowL} (hr : RowsB T x.heap.size y rs') : St T w bs (rs ++ rs') y :=
  ⟨(h.later k).up, (h.later k).box, h.ne, h.rows.app k hr h.up.size, fun i j g cs r a hb hj ha => by
    rw [List.getElem?_append] at hj
    split at hj
    · exact h.off i j g cs r a hb hj ha
    · have h1 := ((hr.1 _ r hj).lt ha).1
      have h2 := (h.box i g cs hb).2.1
      omega⟩
theorem St.fresh (h : St T w bs rs x) (k : Below x.heap.size x y) {A : Option Addr} {c : Nat} {l : List UInt8} (ho : OwnB T x.heap.size y A c l) : St T w bs (rs ++ [(A, c, l)]) y :=
  h.app k (RowsB.nil.snoc ho fun i r hr => by simp at hr)
theorem St.sl {c n : Nat} {A : Option Addr} {l : List UInt8} (h : St T w bs rs x) (hr : rs[i]? = some (A, c, l)) (hn : l.length = n) : Sl x A n c l := h.rows.sl_at hr hn
theorem St.own {c : Nat} {A : Option Addr} {l : List UInt8} (h : St T w bs rs x) (hr : rs[i]? = some (A, c, l)) : OwnB T w.heap.size x A c l := h.rows.1 i _ hr
theorem RowsB.erase {B : Nat} (h : RowsB T B x rs) (i : Nat) : RowsB T B x (rs.eraseIdx i) :=
  h.pick (fun j => if j < i then j else j + 1) (fun a b _ _ hne => by split <;> split <;> omega) fun j s hs => by
    rw [List.getElem?_eraseIdx] at hs
    split at hs
    · rename_i hj; rw [if_pos hj]; exact hs
    · rename_i hj; rw [if_neg hj]; exact hs
theorem erase_from {j : Nat} {r : Option Addr × Nat × List UInt8} (h : (rs.eraseIdx i)[j]? = some r) : ∃ k, k ≠ i ∧ rs[k]? = some r := by
  rw [List.getElem?_eraseIdx] at h
  split at h
  · exact ⟨j, by omega, h⟩
  · exact ⟨j + 1, by omega, h⟩
theorem St.erase (h : St T w bs rs x) (i : Nat) : St T w bs (rs.eraseIdx i) x := ⟨h.up, h.box, h.ne, h.rows.erase i, fun q j g cs r a hb hr ha => by
  obtain ⟨k, _, hk⟩ := erase_from hr
  exact h.off q k g cs r a hb hk ha⟩
theorem Lng.box {x0 : World} {A : Option Addr} {c n g k i g1 : Nat} {m : UInt8} {l : List UInt8} {cs : List Value} (L : Lng x0 A n m g x) (h : St T w bs rs x0) (hb : bs[k]? = some (some (g1, cs))) (hi : rs[i]? = some (A, c, l)) (hc : Chg (fun b => b = g1) x y) : Lng x0 A n m g y := by
  refine L.chg hc fun b e => ?_
  subst e
  refine ⟨(h.box k _ cs hb).2.1, fun e => ?_⟩
  cases A with
  | none => cases e
  | some a =>
    injection e with e
    exact h.off k i _ cs _ a hb hi rfl e
end
section
variable {P : Program} {ops : Array Oper} {Q : Exit → Act → World → Prop}
theorem wp_alloc_row {o : Oper} {a : Act} {w : World} {K : Act → World → Prop} {ty : TypeId} (ho : o.op = .alloc ty) {z : Value} (hz : (P.info? ty).bind (·.zero) = some z)
    (hK : K (a.put o.dst (.pointer (some ⟨w.heap.size, 0, none⟩))) (w.alloc (.cells z.cells ty))) : o.wp P a w K Q := by
  cases hi : P.info? ty with
  | none => rw [hi] at hz; cases hz
  | some i =>
    rw [hi] at hz
    have hz : i.zero = some z := hz
    unfold Oper.wp execOp
    simp [ho, Instr.alloc, zeroValue, typeInfo, hi, hz, newVar, newRow, Sem.run_bind, Oper.upon]
    exact hK
theorem wp_store_row {o : Oper} {a : Act} {w : World} {K : Act → World → Prop} {ty : TypeId} {x y : Operand} (ho : o.op = .store ty x y) {g : Nat} {cs vs : List Value} (hx : a.eval x = .pointer (some ⟨g, 0, none⟩)) (hy : a.eval y = .agg vs.toArray)
    (hr : w.rangeAt g 0 cs) (hf : ∀ j, w.frozen? ⟨g, j, none⟩ = false) (hl : vs.length = cs.length) (ht : (P.info? ty).map (·.size) = some vs.length) (h1 : ∀ u ∈ vs, u.oneCell' = true)
    (hK : K (a.put o.dst undef) (w.setCells g 0 vs)) : o.wp P a w K Q :=
  wp_store_mid ty x y ho g 0 vs.toArray hx hy (fun j hj => ⟨hr.isSome j (by simpa [hl] using hj), by rw [Nat.zero_add]; exact hf j⟩) (by simpa using ht) (all_oneCell_toArray h1) hK
end
end Go.Proofs.YtmigjipfomfacaaGreatDoor
namespace Go.Proofs.YtmigjipfomfacaaGreatDoor
open Go.RowKit
structure Parts where
  k : Nat
  s : Nat → Nat
  u : Nat → Nat
  t : Nat → Nat
  L : Nat → Nat
  C : Nat → Nat
  A : Nat → Nat
  X : Nat → Nat
def Parts.sl (p : Parts) (j : Nat) : List Nat := [p.s j, p.u j, p.t j]
def Parts.op (p : Parts) (j : Nat) : List Nat := [p.L j, p.C j, p.A j, p.X j]
def Parts.ok (p : Parts) (n : Nat) : Bool := (List.range p.k).all fun j => decide ((p.sl j).Nodup) && decide ((p.op j).Nodup) && (p.sl j).all (fun d => decide (d < n)) &&
  (List.range p.k).all fun i => i == j || ((p.sl i).all fun x => !(p.sl j).contains x) && (p.op i).all fun x => !(p.op j).contains x
section
variable {P : Program} {Q : Exit → Act → World → Prop} {T : TypeId} {w : World} {bs : List Bx1} {rs : RowL}
variable {p : Parts} {n m : Nat} {arg : Nat → List Value} {Pst : Nat → Value → RowL → Prop} {l : List Oper} {f0 : Act} {o : Oper} {j : Nat}
def upd {α : Type} (f : Nat → α) (j : Nat) (x : α) : Nat → α := fun i => if i = j then x else f i
end
end Go.Proofs.YtmigjipfomfacaaGreatDoor
namespace Go.Proofs.YtmigjipfomfacaaGreatDoor
open Go.RowKit
section
variable {P : Program} {Q : Exit → Act → World → Prop} {S : World → Prop} {l : List Oper} {fuel : Nat} {listed : Array Bool} {a : Act} {w : World} {i : Nat} {o : Oper} {v : Value}
theorem lx_at (hi : l[i]? = some o) : l.toArray[i]? = some o := by simpa using hi
theorem yi_row {ty : TypeId} {x : Operand} (hw : Region.wanted o (yielded l.toArray a.tmps) = true) (ho : o.op = .load ty x) {g : Nat} {cs : List Value} (hx : a.eval x = .pointer (some ⟨g, 0, none⟩)) (hr : ∀ w, S w → w.rangeAt g 0 cs) (ht : RowTy P ty cs.length) :
    YieldsIf P l.toArray S o (.agg cs.toArray) a := by
  obtain ⟨⟨d, hu, hd⟩, hi⟩ := ht
  refine .inl ⟨hw, fun w hS => ?_⟩
  unfold execOp
  simp only [ho, hx, Instr.loadAt, Instr.sureAddr, Sem.run_bind, Sem.run_pure, Result.andThen_ok, run_loadVar_mid w g 0 ty cs d (hr w hS) hu hd hi]
theorem yi_cell {ty : TypeId} {x : Operand} (hw : Region.wanted o (yielded l.toArray a.tmps) = true) (ho : o.op = .load ty x) {g k : Nat} (hx : a.eval x = .pointer (some ⟨g, k, none⟩)) (hr : ∀ w, S w → w.cell? ⟨g, k, none⟩ = some v) (ha : ∀ w, (isAgg ty).run P w = .ok false w) :
    YieldsIf P l.toArray S o v a := by
  refine .inl ⟨hw, fun w hS => ?_⟩
  have h := hr w hS
  unfold execOp
  simp only [ho, hx, Instr.loadAt, Instr.sureAddr, loadVar, Sem.run_bind, Sem.run_pure, Result.andThen_ok, ha w, Bool.false_eq_true, if_false]
  simp [go_sem, h]
theorem yi_run (hw : Region.wanted o (yielded l.toArray a.tmps) = true) (h : ∀ w, (execOp a.eval o).run P w = .ok (.value v) w) : YieldsIf P l.toArray S o v a := .inl ⟨hw, fun w _ => h w⟩
end
end Go.Proofs.YtmigjipfomfacaaGreatDoor
namespace Go.Proofs.YtmigjipfomfacaaGreatDoor
open Go.RowKit
section
variable {T : TypeId} {w x y : World} {bs : List Bx1} {rs : RowL} {i g : Nat} {cs vs : List Value}
theorem St.write (h : St T w bs rs x) (hb : bs[i]? = some (some (g, cs))) (hc : Chg (fun b => b = g) x y) (hr' : y.rangeAt g 0 vs) (hfz : ∀ q, y.frozen? q = x.frozen? q) : St T w (bs.set i (some (g, vs))) rs y := by
  obtain ⟨hw, hx, hr, hf⟩ := h.box i g cs hb
  refine ⟨h.up.trans (hc.below h.up.size fun k _ hk => by rw [hk]; exact hw), fun j g' ds hj => ?_, fun j q g' ds g'' ds' hj hq hne => ?_, h.rows.chg hc fun q r hq a ha => h.off i q g cs r a hb hq ha, fun j q g' ds r a hj hq ha => ?_⟩
  · rcases set_get hj with ⟨rfl, e⟩ | ⟨h1, hj⟩
    · injection e with e; injection e with e1 e2; subst e1; subst e2
      exact ⟨hw, Nat.lt_of_lt_of_le hx hc.size, hr', fun j => (hfz _).trans (hf j)⟩
    · obtain ⟨a1, a2, a3, a4⟩ := h.box j g' ds hj
      exact ⟨a1, Nat.lt_of_lt_of_le a2 hc.size, fun k v hk => hc.cell (a3 k v hk) (h.ne j i g' ds g cs hj hb h1), fun j => (hfz _).trans (a4 j)⟩
  · rcases set_get hj with ⟨rfl, e⟩ | ⟨h1, hj1⟩ <;> rcases set_get hq with ⟨rfl, e'⟩ | ⟨h2, hq1⟩
    · exact absurd rfl hne
    · injection e with e; injection e with e1 _; subst e1
      exact h.ne j q g cs g'' ds' hb hq1 hne
    · injection e' with e'; injection e' with e1 _; subst e1
      exact h.ne j q g' ds g cs hj1 hb hne
    · exact h.ne j q g' ds g'' ds' hj1 hq1 hne
  · rcases set_get hj with ⟨rfl, e⟩ | ⟨h1, hj⟩
    · injection e with e; injection e with e1 _; subst e1
      exact h.off _ q g cs r a hb hq ha
    · exact h.off j q g' ds r a hj hq ha
theorem St.put1 (h : St T w bs rs x) (hb : bs[i]? = some (some (g, cs))) (j : Nat) (v : Value) : St T w (bs.set i (some (g, cs.set j v))) rs (x.setCells g j [v]) ∧ Chg (fun b => b = g) x (x.setCells g j [v]) := by
  have hc := setCells_chg g [v] j x
  obtain ⟨hw, hx, hr, hf⟩ := h.box i g cs hb
  refine ⟨h.write hb hc (fun k u hk => ?_) fun q => World.frozen?_setCells _ _ _ _ _, hc⟩
  show (x.setCell ⟨g, j, none⟩ v).cell? ⟨g, 0 + k, none⟩ = some u
  rw [Nat.zero_add]
  rw [List.getElem?_set] at hk
  by_cases e : j = k
  · subst e
    rw [if_pos rfl] at hk
    split at hk
    · rename_i hlt
      injection hk with hk; subst hk
      have := hr j _ (List.getElem?_eq_getElem hlt)
      rw [Nat.zero_add] at this
      exact World.cell?_setCell_same _ _ _ this
    · cases hk
  · rw [if_neg e] at hk
    rw [World.cell?_setCell_other _ _ _ _ (fun e' => by injection e' with _ e' _; exact e e')]
    have := hr k u hk
    rwa [Nat.zero_add] at this
end
section
variable {P : Program} {ops : Array Oper} {Q : Exit → Act → World → Prop}
theorem one_cells {v : Value} (h : v.oneCell' = true) : v.cells = #[v] := by cases v <;> first | rfl | simp_all [Value.oneCell']
theorem run_storeVar_one (w : World) (b o : Nat) (ty : TypeId) (v : Value) (hs : (w.cell? ⟨b, o, none⟩).isSome = true) (hf : w.frozen? ⟨b, o, none⟩ = false) (h1 : v.oneCell' = true) (hi : (P.info? ty).map (·.size) = some 1) :
    (storeVar ty ⟨b, o, none⟩ v).run P w = .ok () (w.setCells b o [v]) := by
  have := run_storeCells_cells (P := P) b o [v] 0 w (fun j hj => by
    obtain rfl : j = 0 := (by simpa using hj)
    simpa using hs) (fun j hj => by
    obtain rfl : j = 0 := (by simpa using hj)
    simpa using hf) (fun u hu => by
    obtain rfl : u = v := (by simpa using hu)
    exact h1)
  cases hq : P.info? ty with
  | none => simp [hq] at hi
  | some i =>
    have hs : i.size = 1 := by simpa [hq] using hi
    simp only [Nat.add_zero] at this
    simp [storeVar, sizeOf, typeInfo, hq, one_cells h1, hs, this]
end
end Go.Proofs.YtmigjipfomfacaaGreatDoor
namespace Go.Proofs.YtmigjipfomfacaaGreatDoor
open Go.RowKit
section
variable {P : Program} {Q : Exit → Act → World → Prop} {T : TypeId} {w : World} {bs : List Bx1} {rs : RowL}
variable {p : Parts} {bx : Nat → Bool} {n m : Nat} {av : Nat → Value} {Pst : Nat → Value → RowL → Prop} {l : List Oper} {f0 : Act} {o : Oper} {j : Nat}
theorem St.cut {bs' : List Bx1} {x : World} (h : St T w (bs ++ bs') rs x) : St T w bs rs x :=
  ⟨h.up, fun i g cs hb => h.box i g cs (by rw [List.getElem?_append_left (List.getElem?_eq_some_iff.1 hb).1]; exact hb), fun i j g cs g' ds h1 h2 => h.ne i j g cs g' ds (by rw [List.getElem?_append_left (List.getElem?_eq_some_iff.1 h1).1]; exact h1) (by rw [List.getElem?_append_left (List.getElem?_eq_some_iff.1 h2).1]; exact h2), h.rows, fun i j g cs r a hb => h.off i j g cs r a (by rw [List.getElem?_append_left (List.getElem?_eq_some_iff.1 hb).1]; exact hb)⟩
theorem wpList_load_cell {ops : Array Oper} {rest : List Oper} {o : Oper} {a : Act} {W : World} (hgd : Region.wanted o (yielded ops a.tmps) = true) (ty : TypeId) (x : Operand) (ho : o.op = .load ty x) {g k : Nat} {v : Value} (hx : a.eval x = .pointer (some ⟨g, k, none⟩)) (hr : W.cell? ⟨g, k, none⟩ = some v) (ha : ∀ w, (isAgg ty).run P w = .ok false w)
    (hK : wpList P ops Q rest (a.put o.dst v) W) : wpList P ops Q (o :: rest) a W := by
  refine BigFrame.wpList_want hgd fun _ hk => ?_
  have hrun : (execOp a.eval o).run P W = .ok (.value v) W := by
    unfold execOp
    simp only [ho, hx, Instr.loadAt, Instr.sureAddr, loadVar, Sem.run_bind, Sem.run_pure, Result.andThen_ok, ha W, Bool.false_eq_true, if_false]
    simp [go_sem, hr]
  unfold Oper.wp
  rw [hrun, Oper.upon_value]
  exact hk _ _ hK
end
end Go.Proofs.YtmigjipfomfacaaGreatDoor
namespace Go.Proofs.YtmigjipfomfacaaGreatDoor
open Go.RowKit
section
variable {P : Program} {Q : Exit → Act → World → Prop} {S : World → Prop} {l : List Oper} {fuel : Nat} {listed : Array Bool} {a : Act} {w : World} {i : Nat} {o : Oper} {v : Value}
theorem yi_rowO {ty : TypeId} {x : Operand} (hw : Region.wanted o (yielded l.toArray a.tmps) = true) (ho : o.op = .load ty x) {g k : Nat} {cs : List Value} (hx : a.eval x = .pointer (some ⟨g, k, none⟩)) (hr : ∀ w, S w → w.rangeAt g k cs) (ht : RowTy P ty cs.length) :
    YieldsIf P l.toArray S o (.agg cs.toArray) a := by
  obtain ⟨⟨d, hu, hd⟩, hi⟩ := ht
  refine .inl ⟨hw, fun w hS => ?_⟩
  unfold execOp
  simp only [ho, hx, Instr.loadAt, Instr.sureAddr, Sem.run_bind, Sem.run_pure, Result.andThen_ok, run_loadVar_mid w g k ty cs d (hr w hS) hu hd hi]
end
section
variable {T : TypeId} {w x : World} {bs bs' : List Bx1} {rs rs' : RowL}
end
section
variable {P : Program} {Q : Exit → Act → World → Prop} {T : TypeId} {w : World} {bs : List Bx1} {rs : RowL} {p : Parts} {bx : Nat → Bool} {n : Nat} {av : Nat → Value} {Pst : Nat → Value → RowL → Prop} {l : List Oper} {f0 : Act} {o : Oper} {j : Nat}
end
section
variable {p : Parts} {n : Nat} {av : Value} {Pst : Value → RowL → Prop} {j : Nat} {D : Nat → Bool} {v : Nat → Value} {b : Bx1} {R : RowL}
end
end Go.Proofs.YtmigjipfomfacaaGreatDoor
namespace Go.Proofs.YtmigjipfomfacaaGreatDoor
open Go.RowKit
structure Ob where
  bx : Bool
  ty : TypeId
  sz : Nat
  v : Value
  n : Nat
  cs : List Value
  raw : Option (Obj → Prop)
def boxO (g : Nat) (cs : List Value) : Ob := ⟨true, 0, 0, .pointer (some ⟨g, 0, none⟩), 0, cs, none⟩
def rowO (T : TypeId) (sz : Nat) (v : Value) (n : Nat) (cs : List Value) : Ob := ⟨false, T, sz, v, n, cs, none⟩
def bytO (T : TypeId) (r : Option Addr × Nat × List UInt8) : Ob := ⟨false, T, 1, .slice r.1 r.2.2.length r.2.1, r.2.2.length, u8s r.2.2, none⟩
def nilO : Ob := ⟨false, 0, 1, .slice none 0 0, 0, [], none⟩
def phiO (k : Nat) (φ : Obj → Prop) : Ob := ⟨true, 0, 0, .pointer (some ⟨k, 0, none⟩), 0, [], some φ⟩
def rawO (k : Nat) (r : Obj) : Ob := phiO k fun o => o = r
def vBlock : Value → Option Nat
  | .pointer (some a) => some a.block
  | .slice (some a) _ _ => some a.block
  | _ => none
def Ob.blk (o : Ob) : Option Nat := vBlock o.v
def Ob.at0 (B : Nat) (x : World) (o : Ob) : Prop :=
  (o.bx = true → ∃ g, o.v = .pointer (some ⟨g, 0, none⟩) ∧ B ≤ g ∧ g < x.heap.size ∧ x.rangeAt g 0 o.cs ∧ ∀ j, x.frozen? ⟨g, j, none⟩ = false) ∧
  (o.bx = false → x.ownsRow B o.ty o.sz o.v o.n o.cs)
def Ob.at_ (B : Nat) (x : World) (o : Ob) : Prop := match o.raw with
  | some φ => ∃ k r, o.v = .pointer (some ⟨k, 0, none⟩) ∧ B ≤ k ∧ x.heap[k]? = some r ∧ φ r
  | none => o.at0 B x
def Ap (o p : Ob) : Prop := ∀ b, o.blk = some b → p.blk ≠ some b
structure OW (w : World) (os : List Ob) (x : World) : Prop where
  up : Below w.heap.size w x
  ob : ∀ o, o ∈ os → o.at_ w.heap.size x
  ne : os.Pairwise Ap
section
variable {w x y : World} {os os' ps : List Ob} {o p : Ob} {B g i j n sz c : Nat} {T : TypeId} {v : Value} {cs vs news : List Value} {S : Nat → Prop} {A : Option Addr} {l : List UInt8}
theorem own_vblock {e : TypeId} (h : w.ownsRow B e sz v n cs) : vBlock v = v.ownBlock := by
  rcases h.2 with ⟨rfl, _⟩ | ⟨g, cap, cur, rfl, _⟩ <;> rfl
theorem own_rebase {B' : Nat} (h : w.ownsRow B T sz v n cs) (hb : B' ≤ B) : w.ownsRow B' T sz v n cs := by
  refine ⟨h.1, ?_⟩
  rcases h.2 with h | ⟨g, cap, cur, hv, hg, hr⟩
  · exact .inl h
  · exact .inr ⟨g, cap, cur, hv, Nat.le_trans hb hg, hr⟩
theorem Ap.symm (h : Ap o p) : Ap p o := fun b hb e => h b e hb
theorem Ob.at0.lt {b : Nat} (h : o.at0 B x) (hb : o.blk = some b) : B ≤ b ∧ b < x.heap.size := by
  cases hq : o.bx with
  | true =>
    obtain ⟨g, h1, h2, h3, _⟩ := h.1 hq
    unfold Ob.blk at hb; rw [h1] at hb; injection hb with hb; subst hb; exact ⟨h2, h3⟩
  | false =>
    have h1 := h.2 hq
    unfold Ob.blk at hb; rw [own_vblock h1] at hb; exact World.ownsRow.lt h1 b hb
theorem Ob.at0.chg (h : o.at0 B x) (hc : Chg S x y) (hn : ∀ b, o.blk = some b → ¬ S b) : o.at0 B y := by
  refine ⟨fun hq => ?_, fun hq => ?_⟩
  · obtain ⟨g, h1, h2, h3, h4, h5⟩ := h.1 hq
    have hg : ¬ S g := hn g (by unfold Ob.blk; rw [h1]; rfl)
    exact ⟨g, h1, h2, Nat.lt_of_lt_of_le h3 hc.size, fun j v hv => hc.cell (h4 j v hv) hg, fun j => (World.frozen?_of_block (hc.block g h3 hg)).trans (h5 j)⟩
  · exact own_chg (h.2 hq) hc fun g hg => hn g (by unfold Ob.blk; rw [own_vblock (h.2 hq)]; exact hg)
theorem Ob.at0.mono {B' : Nat} (h : o.at0 B x) (hb : B' ≤ B) : o.at0 B' x :=
  ⟨fun hq => by
    obtain ⟨g, h1, h2, h3⟩ := h.1 hq
    exact ⟨g, h1, Nat.le_trans hb h2, h3⟩, fun hq => own_rebase (h.2 hq) hb⟩
theorem Ob.at_.some_ {φ : Obj → Prop} (h : o.at_ B x) (hr : o.raw = some φ) : ∃ k r, o.v = .pointer (some ⟨k, 0, none⟩) ∧ B ≤ k ∧ x.heap[k]? = some r ∧ φ r := by
  unfold Ob.at_ at h; rw [hr] at h; exact h
theorem Ob.at_.none_ (h : o.at_ B x) (hr : o.raw = none) : o.at0 B x := by
  unfold Ob.at_ at h; rw [hr] at h; exact h
theorem Ob.at_mk0 (hr : o.raw = none) (h : o.at0 B x) : o.at_ B x := by
  unfold Ob.at_; rw [hr]; exact h
theorem Ob.at_mkr {φ : Obj → Prop} (hr : o.raw = some φ) (h : ∃ k r, o.v = .pointer (some ⟨k, 0, none⟩) ∧ B ≤ k ∧ x.heap[k]? = some r ∧ φ r) : o.at_ B x := by
  unfold Ob.at_; rw [hr]; exact h
theorem Ob.at_.lt {b : Nat} (h : o.at_ B x) (hb : o.blk = some b) : B ≤ b ∧ b < x.heap.size := by
  cases hr : o.raw with
  | none => exact (h.none_ hr).lt hb
  | some φ =>
    obtain ⟨k, r, h1, h2, h3, _⟩ := h.some_ hr
    unfold Ob.blk at hb; rw [h1] at hb; injection hb with hb; subst hb
    exact ⟨h2, (Array.getElem?_eq_some_iff.1 h3).1⟩
theorem Ob.at_.chg (h : o.at_ B x) (hc : Chg S x y) (hn : ∀ b, o.blk = some b → ¬ S b) : o.at_ B y := by
  cases hr : o.raw with
  | none => exact Ob.at_mk0 hr ((h.none_ hr).chg hc hn)
  | some φ =>
    obtain ⟨k, r, h1, h2, h3, h4⟩ := h.some_ hr
    exact Ob.at_mkr hr ⟨k, r, h1, h2, (hc.block k (Array.getElem?_eq_some_iff.1 h3).1 (hn k (by unfold Ob.blk; rw [h1]; rfl))).trans h3, h4⟩
theorem Ob.at_.mono {B' : Nat} (h : o.at_ B x) (hb : B' ≤ B) : o.at_ B' x := by
  cases hr : o.raw with
  | none => exact Ob.at_mk0 hr ((h.none_ hr).mono hb)
  | some φ =>
    obtain ⟨k, r, h1, h2, h3⟩ := h.some_ hr
    exact Ob.at_mkr hr ⟨k, r, h1, Nat.le_trans hb h2, h3⟩
theorem OW.nil (w : World) : OW w [] w := ⟨Below.refl _ _, fun o h => (by cases h), List.Pairwise.nil⟩
theorem OW.later (h : OW w os x) (k : Below x.heap.size x y) : OW w os y :=
  ⟨h.up.trans (k.mono h.up.size), fun o ho => (h.ob o ho).chg (S := fun _ => False) (Below.chg0 k) fun _ _ e => e, h.ne⟩
theorem OW.drew (h : OW w os x) : OW w os x.drew := h.later (Below.refl _ _).drew
theorem OW.al (h : OW w os x) (o : Obj) : OW w os (x.alloc o) := h.later ((Below.refl _ _).alloc (Nat.le_refl _) o)
theorem OW.perm (h : OW w os x) (hp : os.Perm os') : OW w os' x :=
  ⟨h.up, fun o ho => h.ob o (hp.mem_iff.2 ho), (hp.pairwise_iff (fun h => Ap.symm h)).1 h.ne⟩
theorem OW.sub (h : OW w os x) (hp : os'.Sublist os) : OW w os' x := ⟨h.up, fun o ho => h.ob o (hp.mem ho), h.ne.sublist hp⟩
theorem OW.erase (h : OW w os x) (i : Nat) : OW w (os.eraseIdx i) x := h.sub (List.eraseIdx_sublist _ _)
theorem OW.left (h : OW w (os ++ ps) x) : OW w os x := h.sub (List.sublist_append_left _ _)
theorem OW.right (h : OW w (os ++ ps) x) : OW w ps x := h.sub (List.sublist_append_right _ _)
theorem OW.app (h : OW w os x) (k : OW x ps y) : OW w (os ++ ps) y := by
  have h' := h.later k.up
  refine ⟨h'.up, fun o ho => ?_, ?_⟩
  · rcases List.mem_append.1 ho with ho | ho
    · exact h'.ob o ho
    · exact (k.ob o ho).mono h.up.size
  · refine List.pairwise_append.2 ⟨h.ne, k.ne, fun a ha b hb c hc e => ?_⟩
    have h1 := ((h.ob a ha).lt hc).2
    have h2 := ((k.ob b hb).lt e).1
    omega
theorem split_at {α : Type} {l : List α} {i : Nat} {a : α} (h : l[i]? = some a) : ∃ l1 l2, l = l1 ++ a :: l2 ∧ l1.length = i := by
  obtain ⟨hi, e⟩ := List.getElem?_eq_some_iff.1 h
  refine ⟨l.take i, l.drop (i + 1), ?_, by simp; omega⟩
  rw [← e, List.getElem_cons_drop, List.take_append_drop]
theorem OW.front (h : OW w os x) (hi : os[i]? = some o) : OW w (o :: os.eraseIdx i) x := by
  obtain ⟨l1, l2, rfl, rfl⟩ := split_at hi
  have e : (l1 ++ o :: l2).eraseIdx l1.length = l1 ++ l2 := by
    rw [List.eraseIdx_append_of_length_le (Nat.le_refl _), Nat.sub_self]; rfl
  rw [e]
  exact h.perm List.perm_middle
theorem OW.upd (h : OW w os x) (hi : os[i]? = some o) (hc : Chg S x y) (hS : ∀ b, b < x.heap.size → S b → o.blk = some b) (ho : p.at_ w.heap.size y) (hb : ∀ b, p.blk = some b → o.blk = some b ∨ x.heap.size ≤ b) : OW w (os.set i p) y := by
  obtain ⟨l1, l2, rfl, rfl⟩ := split_at hi
  have e : (l1 ++ o :: l2).set l1.length p = l1 ++ p :: l2 := by
    rw [List.set_append_right _ _ (Nat.le_refl _), Nat.sub_self]; rfl
  rw [e]
  obtain ⟨n1, n2, n3⟩ := List.pairwise_append.1 h.ne
  obtain ⟨n4, n5⟩ := List.pairwise_cons.1 n2
  have keep : ∀ q, q ∈ l1 ++ o :: l2 → Ap o q → q.at_ w.heap.size y := fun q hq ha =>
    (h.ob q hq).chg hc fun b hb hs => ha b (hS b ((h.ob q hq).lt hb).2 hs) hb
  have ap : ∀ q, q ∈ l1 ++ o :: l2 → Ap o q → Ap p q := fun q hq ha b hpb hqb => by
    rcases hb b hpb with h1 | h1
    · exact ha b h1 hqb
    · have := ((h.ob q hq).lt hqb).2; omega
  refine ⟨h.up.trans (hc.below h.up.size fun k hk hs => ((h.ob o (by simp)).lt (hS k hk hs)).1), fun q hq => ?_, List.pairwise_append.2 ⟨n1, List.pairwise_cons.2 ⟨fun q hq => ap q (by simp [hq]) (n4 q hq), n5⟩, fun q hq r hr => ?_⟩⟩
  · rcases List.mem_append.1 hq with h1 | h1
    · exact keep q (by simp [h1]) (Ap.symm (n3 q h1 o (by simp)))
    · rcases List.mem_cons.1 h1 with rfl | h1
      · exact ho
      · exact keep q (by simp [h1]) (n4 q h1)
  · rcases List.mem_cons.1 hr with rfl | h1
    · exact Ap.symm (ap q (by simp [hq]) (Ap.symm (n3 q hq o (by simp))))
    · exact n3 q hq r (by simp [h1])
theorem OW.get (h : OW w os x) (hi : os[i]? = some o) : o.at_ w.heap.size x := h.ob o (List.mem_of_getElem? hi)
theorem OW.apart (h : OW w os x) (hi : os[i]? = some o) (hj : os[j]? = some p) (hne : i ≠ j) : Ap o p := by
  obtain ⟨h1, e1⟩ := List.getElem?_eq_some_iff.1 hi
  obtain ⟨h2, e2⟩ := List.getElem?_eq_some_iff.1 hj
  subst e1; subst e2
  rcases Nat.lt_or_gt_of_ne hne with h3 | h3
  · exact List.pairwise_iff_getElem.1 h.ne i j h1 h2 h3
  · exact Ap.symm (List.pairwise_iff_getElem.1 h.ne j i h2 h1 h3)
theorem OW.box (h : OW w os x) (hi : os[i]? = some (boxO g cs)) : w.heap.size ≤ g ∧ g < x.heap.size ∧ x.rangeAt g 0 cs ∧ ∀ j, x.frozen? ⟨g, j, none⟩ = false := by
  obtain ⟨g', h1, h2⟩ := (h.get hi).1 rfl
  injection h1 with h1; injection h1 with h1; injection h1 with h1
  subst h1; exact h2
theorem OW.range (h : OW w os x) (hi : os[i]? = some (boxO g cs)) : x.rangeAt g 0 cs := (h.box hi).2.2.1
theorem OW.cell (h : OW w os x) (hi : os[i]? = some (boxO g cs)) (hv : cs[j]? = some v) : x.cell? ⟨g, j, none⟩ = some v := by
  have := h.range hi j v hv; rwa [Nat.zero_add] at this
theorem OW.fz (h : OW w os x) (hi : os[i]? = some (boxO g cs)) (j : Nat) : x.frozen? ⟨g, j, none⟩ = false := (h.box hi).2.2.2 j
theorem OW.row (h : OW w os x) (hi : os[i]? = some (rowO T sz v n cs)) : x.ownsRow w.heap.size T sz v n cs := (h.get hi).2 rfl
theorem OW.byt (h : OW w os x) (hi : os[i]? = some (bytO T (A, c, l))) : OwnB T w.heap.size x A c l := (h.get hi).2 rfl
theorem OW.sl (h : OW w os x) (hi : os[i]? = some (bytO T (A, c, l))) (hn : l.length = n) : Sl x A n c l := hn ▸ Sl.own (h.byt hi)
theorem OW.cellm (h : OW w os x) (hm : boxO g cs ∈ os) (hv : cs[j]? = some v) : x.cell? ⟨g, j, none⟩ = some v := by
  obtain ⟨i, hi⟩ := List.getElem?_of_mem hm
  exact h.cell hi hv
theorem OW.rowm (h : OW w os x) (hm : rowO T sz v n cs ∈ os) : x.ownsRow w.heap.size T sz v n cs := (h.ob _ hm).2 rfl
theorem OW.slm (h : OW w os x) (hm : bytO T (A, c, l) ∈ os) (hn : l.length = n) : Sl x A n c l := hn ▸ Sl.own (h.rowm (T := T) (sz := 1) hm)
theorem OW.row1 (k : Below x.heap.size x y) (h : y.ownsRow x.heap.size T sz v n cs) : OW x [rowO T sz v n cs] y :=
  ⟨k, fun o ho => by
    obtain rfl := List.mem_singleton.1 ho
    exact ⟨(fun e => nomatch e), fun _ => h⟩, List.pairwise_singleton _ _⟩
theorem OW.byt1 (k : Below x.heap.size x y) (h : OwnB T x.heap.size y A c l) : OW x [bytO T (A, c, l)] y :=
  ⟨k, fun o ho => by
    obtain rfl := List.mem_singleton.1 ho
    exact ⟨(fun e => nomatch e), fun _ => h⟩, List.pairwise_singleton _ _⟩
theorem OW.box1 (x : World) (t : TypeId) (cs : List Value) : OW x [boxO x.heap.size cs] (x.alloc (.cells cs.toArray t)) :=
  ⟨(Below.refl _ _).alloc (Nat.le_refl _) _, fun o ho => by
    obtain rfl := List.mem_singleton.1 ho
    exact ⟨fun _ => ⟨x.heap.size, rfl, Nat.le_refl _, by show _ < (x.heap.push _).size; simp, range_new _ _ _, fun j => by simp⟩, fun e => nomatch e⟩, List.pairwise_singleton _ _⟩
theorem OW.lit1 (x : World) (C : Array Value) (e : TypeId) (sz n : Nat) (hm : n ≤ maxLen) (hs : C.size = n * sz) : OW x [rowO e sz (.slice (some ⟨x.heap.size, 0, none⟩) n n) n C.toList] (x.alloc (.cells C e)) :=
  OW.row1 ((Below.refl _ _).alloc (Nat.le_refl _) _) (World.ownsRow_lit x C n (Nat.le_refl _) hm hs)
theorem byt_blk (r : Option Addr × Nat × List UInt8) : (bytO T r).blk = r.1.map (·.block) := by
  obtain ⟨A, c, l⟩ := r
  cases A <;> rfl
theorem OW.rows1 {rs : RowL} (k : Below x.heap.size x y) (h : RowsB T x.heap.size y rs) : OW x (rs.map (bytO T)) y := by
  refine ⟨k, fun o ho => ?_, ?_⟩
  · obtain ⟨r, hr, rfl⟩ := List.mem_map.1 ho
    obtain ⟨i, hi⟩ := List.getElem?_of_mem hr
    exact ⟨(fun e => nomatch e), fun _ => h.1 i r hi⟩
  · rw [List.pairwise_map]
    refine List.pairwise_iff_getElem.2 fun i j hi hj hij b hb e => ?_
    rw [byt_blk] at hb e
    obtain ⟨a, ha, ha'⟩ := Option.map_eq_some_iff.1 hb
    obtain ⟨a2, ha2, ha2'⟩ := Option.map_eq_some_iff.1 e
    exact h.2 i j _ _ (List.getElem?_eq_getElem hi) (List.getElem?_eq_getElem hj) (Nat.ne_of_lt hij) a a2 ha ha2 (ha'.trans ha2'.symm)
theorem St.ow {T : TypeId} {bs : List (Nat × List Value)} {rs : RowL} (h : St T w (bs.map some) rs x) : OW w (bs.map (fun b => boxO b.1 b.2) ++ rs.map (bytO T)) x := by
  have hr := OW.rows1 (x := w) h.up h.rows
  refine ⟨h.up, fun o ho => ?_, List.pairwise_append.2 ⟨?_, hr.ne, fun o ho p hp b hb e => ?_⟩⟩
  · rcases List.mem_append.1 ho with ho | ho
    · obtain ⟨⟨g, cs⟩, hb, rfl⟩ := List.mem_map.1 ho
      obtain ⟨i, hi⟩ := List.getElem?_of_mem hb
      obtain ⟨h1, h2, h3, h4⟩ := h.box i g cs (by rw [List.getElem?_map, hi]; rfl)
      exact ⟨fun _ => ⟨g, rfl, h1, h2, h3, h4⟩, fun e => nomatch e⟩
    · exact hr.ob o ho
  · rw [List.pairwise_map]
    refine List.pairwise_iff_getElem.2 fun i j hi hj hij b hb e => ?_
    injection hb with hb
    injection e with e
    refine h.ne i j bs[i].1 bs[i].2 bs[j].1 bs[j].2 (by rw [List.getElem?_map, List.getElem?_eq_getElem hi]; rfl) (by rw [List.getElem?_map, List.getElem?_eq_getElem hj]; rfl) (Nat.ne_of_lt hij) (hb.trans e.symm)
  · obtain ⟨⟨g, cs⟩, hb', rfl⟩ := List.mem_map.1 ho
    obtain ⟨r, hr', rfl⟩ := List.mem_map.1 hp
    obtain ⟨i, hi⟩ := List.getElem?_of_mem hb'
    obtain ⟨j, hj⟩ := List.getElem?_of_mem hr'
    rw [byt_blk] at e
    obtain ⟨a, ha, ha'⟩ := Option.map_eq_some_iff.1 e
    injection hb with hb
    exact h.off i j g cs r a (by rw [List.getElem?_map, hi]; rfl) hj ha (ha'.trans hb.symm)
theorem OW.putR (h : OW w os x) (hi : os[i]? = some (boxO g cs)) (hc : Chg (fun b => b = g) x y) (hr : y.rangeAt g 0 vs) (hf : ∀ q, y.frozen? q = x.frozen? q) : OW w (os.set i (boxO g vs)) y := by
  obtain ⟨h1, h2, h3, h4⟩ := h.box hi
  exact h.upd hi hc (fun b _ e => by subst e; rfl) ⟨fun _ => ⟨g, rfl, h1, Nat.lt_of_lt_of_le h2 hc.size, hr, fun j => (hf _).trans (h4 j)⟩, fun e => nomatch e⟩ fun b hb => .inl hb
theorem OW.put (h : OW w os x) (hi : os[i]? = some (boxO g cs)) (hl : vs.length = cs.length) : OW w (os.set i (boxO g vs)) (x.setCells g 0 vs) := by
  obtain ⟨h1, h2, h3, h4⟩ := h.box hi
  exact h.putR hi (setCells_chg g vs 0 x) (World.rangeAt_setCells_same x g 0 vs fun j hj => ⟨h3.isSome j (by omega), by rw [Nat.zero_add]; exact h4 j⟩) fun q => World.frozen?_setCells _ _ _ _ _
theorem OW.put1 (h : OW w os x) (hi : os[i]? = some (boxO g cs)) (j : Nat) (u : Value) : OW w (os.set i (boxO g (cs.set j u))) (x.setCell ⟨g, j, none⟩ u) := by
  obtain ⟨h1, h2, hr, h4⟩ := h.box hi
  refine h.putR hi (Chg.setCell x ⟨g, j, none⟩ u) (fun k q hk => ?_) fun q => World.frozen?_setCell _ _ _ _
  rw [Nat.zero_add]
  rw [List.getElem?_set] at hk
  by_cases e : j = k
  · subst e
    rw [if_pos rfl] at hk
    split at hk
    · rename_i hlt
      injection hk with hk; subst hk
      have := hr j _ (List.getElem?_eq_getElem hlt)
      rw [Nat.zero_add] at this
      exact World.cell?_setCell_same _ _ _ this
    · cases hk
  · rw [if_neg e] at hk
    rw [World.cell?_setCell_other _ _ _ _ (fun e' => by injection e' with _ e' _; exact e e')]
    have := hr k q hk
    rwa [Nat.zero_add] at this
theorem OW.grow {v' : Value} {m : Nat} (h : OW w os x) (hi : os[i]? = some (rowO T sz v n cs)) (ho : y.ownsRow w.heap.size T sz v' m vs) (hg : x.grownBy y v.ownBlock) (hat : v'.ownBlock = v.ownBlock ∨ v'.ownBlock = some x.heap.size) : OW w (os.set i (rowO T sz v' m vs)) y := by
  have hr := h.row hi
  refine h.upd hi (grown_chg hg) (fun b _ e => by show vBlock v = _; rw [own_vblock hr]; exact e) ⟨(fun e => nomatch e), fun _ => ho⟩ fun b hb => ?_
  have hb : vBlock v' = some b := hb
  rw [own_vblock ho] at hb
  rcases hat with e | e
  · left; show vBlock v = _; rw [own_vblock hr, ← e]; exact hb
  · right; rw [e] at hb; injection hb with hb; omega
theorem OW.store {cap : Nat} (h : OW w os x) (hi : os[i]? = some (rowO T sz (.slice (some ⟨g, 0, none⟩) n cap) n cs)) (j : Nat) (u : Value) : OW w (os.set i (rowO T sz (.slice (some ⟨g, 0, none⟩) n cap) n (cs.set j u))) (x.setCell ⟨g, j, none⟩ u) :=
  h.upd hi (Chg.setCell x ⟨g, j, none⟩ u) (fun b _ e => by subst e; rfl) ⟨(fun e => nomatch e), fun _ => (World.ownsRow.stored (h.row hi) j u).1⟩ fun b hb => .inl hb
end
end Go.Proofs.YtmigjipfomfacaaGreatDoor
namespace Go.Proofs.YtmigjipfomfacaaGreatDoor
open Go.RowKit
section
variable {P : Program} {ops : Array Oper} {Q : Exit → Act → World → Prop} {F : List Nat} {S : World → Prop}
def finB (F : List Nat) (listed : Array Bool) : Bool := F.any fun k => listed.getD k false
def wpAnyT (P : Program) (ops : Array Oper) (Q : Exit → Act → World → Prop) (F : List Nat) (S : World → Prop) : Nat → Array Bool → Act → World → Prop
  | 0, listed, a, w => Region.ready .any ops listed = [] ∧ Q .normal a w
  | fuel + 1, listed, a, w =>
    (Region.ready .any ops listed = [] → Q .normal a w) ∧
    ∀ i ∈ Region.ready .any ops listed, wpOp P ops Q i (fun a' w' => (finB F (listed.setIfInBounds i true) = false → S w') ∧ wpAnyT P ops Q F S fuel (listed.setIfInBounds i true) a' w') a w
theorem wpAny_of_T : ∀ (fuel : Nat) (listed : Array Bool) (a : Act) (w : World), wpAnyT P ops Q F S fuel listed a w → wpAny P .any ops Q fuel listed a w
  | 0, _, _, _, h => h
  | fuel + 1, _, _, _, h => ⟨h.1, fun i hi => wpOp_mono (fun a' w' h' => wpAny_of_T fuel _ a' w' h'.2) (h.2 i hi)⟩
def depB (ops : Array Oper) (i : Nat) (D : List Nat) : Bool := !D.contains i && D.all fun k => match ops[k]? with
  | none => false
  | some o => o.after.any fun e => Region.binds .any e && (e.on == i || D.contains e.on)
theorem getD_ne {L : Array Bool} {j k : Nat} (d : Bool) (h : j ≠ k) : (L.setIfInBounds j true).getD k d = L.getD k d := by
  simp only [Array.getD_eq_getD_getElem?, Array.getElem?_setIfInBounds_ne h]
theorem fin_off {D : List Nat} {L : Array Bool} (hF : F.all (D.contains ·) = true) (hL : ∀ k, k ∈ D → L.getD k false = false) : finB F L = false := by
  unfold finB
  rw [List.any_eq_false]
  intro k hk
  have h1 := List.all_eq_true.1 hF k hk
  rw [hL k (by simpa using h1)]; simp
theorem fin_set {L : Array Bool} {i : Nat} (hi : F.contains i = false) : finB F (L.setIfInBounds i true) = finB F L := by
  unfold finB
  have : ∀ G : List Nat, (∀ k, k ∈ G → k ≠ i) → (G.any fun k => (L.setIfInBounds i true).getD k false) = G.any fun k => L.getD k false := fun G => by
    induction G with
    | nil => intro _; rfl
    | cons k G ih =>
      intro h
      rw [List.any_cons, List.any_cons, ih fun q hq => h q (List.mem_cons_of_mem _ hq), getD_ne false (fun e => h k (by simp) e.symm)]
  exact this F fun k hk e => by
    subst e
    have : F.contains k = true := by simpa using hk
    rw [hi] at this; cases this
theorem wpAnyT_first {i : Nat} {oi : Oper} {v : Value} (R : World → Prop) (hi : ops[i]? = some oi) (hsel : ∀ (j : Nat) (o : Oper) cs b, ops[j]? = some o → o.op ≠ .select cs b)
    (hQ : ∀ c a w, Q (.panic c) (a.put oi.dst v) w → Q (.panic c) a w) (D : List Nat) (hD : depB ops i D = true) (hiF : F.contains i = false)
    (hR : ∀ (L : Array Bool) w, (∀ k, k ∈ D → L.getD k false = false) → (finB F L = false → S w) → R w) :
    ∀ (fuel : Nat) (listed : Array Bool) (a : Act) (w : World),
      (∀ j oj, ops[j]? = some oj → j ≠ i → listed.getD j true = false → (∀ e ∈ oj.after, Region.binds .any e = true → e.on ≠ i) → oi.apart ops oj = true) →
      i ∈ Region.ready .any ops listed → (∀ k, k ∈ D → listed.getD k false = false) → YieldsIf P ops R oi v a → (finB F listed = false → S w) →
      wpAnyT P ops Q F S fuel (listed.setIfInBounds i true) (a.put oi.dst v) w → wpAnyT P ops Q F S (fuel + 1) listed a w := by
  obtain ⟨hDi, hDe⟩ := Bool.and_eq_true_iff.1 hD
  intro fuel
  induction fuel with
  | zero =>
    intro listed a w _ hr hun hy hS H
    refine ⟨fun h => (by rw [h] at hr; cases hr), fun j hj => ?_⟩
    by_cases hji : j = i
    · subst hji; exact hy.wpOp hi (hR listed w hun hS) ⟨fun e => hS (by rwa [fin_set hiF] at e), H⟩
    · have := ready_mono hj hji
      rw [H.1] at this
      cases this
  | succ fuel ih =>
    intro listed a w hfree hr hun hy hS H
    refine ⟨fun h => (by rw [h] at hr; cases hr), fun j hj => ?_⟩
    by_cases hji : j = i
    · subst hji; exact hy.wpOp hi (hR listed w hun hS) ⟨fun e => hS (by rwa [fin_set hiF] at e), H⟩
    · have h1 := H.2 j (ready_mono hj hji)
      obtain ⟨hjun, oj, hoj, hall⟩ := mem_ready.1 hj
      have hiun := (mem_ready.1 hr).1
      have hi0 : listed.getD i false = true → False := fun h1 => by
        rcases Nat.lt_or_ge i listed.size with h' | h'
        · simp [h'] at hiun h1; rw [hiun] at h1; cases h1
        · simp [Array.getElem?_eq_none h'] at h1
      have hnot : ∀ e ∈ oj.after, Region.binds .any e = true → e.on ≠ i := fun e he hb heq => hi0 (heq ▸ hall e he hb)
      have hjD : j ∉ D := fun hjm => by
        have h2 := List.all_eq_true.1 hDe j hjm
        rw [hoj] at h2
        have h2' : oj.after.any (fun e => Region.binds .any e && (e.on == i || D.contains e.on)) = true := h2
        rw [← Array.any_toList, List.any_eq_true] at h2'
        obtain ⟨e, he, h3⟩ := h2'
        have he := Array.mem_toList_iff.1 he
        obtain ⟨hb, h4⟩ := Bool.and_eq_true_iff.1 h3
        have h5 := hall e he hb
        rcases Bool.or_eq_true_iff.1 h4 with h6 | h6
        · exact hi0 ((beq_iff_eq.1 h6) ▸ h5)
        · rw [hun e.on (by simpa using h6)] at h5; cases h5
      have hiD : i ∉ D := by simpa using hDi
      have hun' : ∀ k, k ∈ D → (listed.setIfInBounds j true).getD k false = false := fun k hk => by
        have h3 : j ≠ k := fun e => hjD (by rw [e]; exact hk)
        rw [getD_ne false h3]; exact hun k hk
      have h2 := wpOp_putIf hoj (hfree j oj hoj hji hjun hnot) (fun cs b => hsel i oi cs b hi) (fun cs b => hsel j oj cs b hoj) hQ hy h1
      have hfree' : ∀ k ok, ops[k]? = some ok → k ≠ i → (listed.setIfInBounds j true).getD k true = false →
          (∀ e ∈ ok.after, Region.binds .any e = true → e.on ≠ i) → oi.apart ops ok = true := fun k ok hk hki hun hno => by
        refine hfree k ok hk hki ?_ hno
        by_cases hjk : j = k
        · subst hjk; exact hjun
        · rw [getD_ne true hjk] at hun; exact hun
      refine wpOp_mono (fun a' w' h3 => ?_) h2
      have hS' : finB F (listed.setIfInBounds j true) = false → S w' := fun e => h3.2.1 (by rw [Array.setIfInBounds_comm _ _ (Ne.symm hji), fin_set hiF]; exact e)
      refine ⟨hS', ih (listed.setIfInBounds j true) a' w' hfree' (ready_mono hr (Ne.symm hji)) hun' h3.1 hS' ?_⟩
      rw [Array.setIfInBounds_comm _ _ hji]
      exact h3.2.2
end
section
variable {P : Program} {Q : Exit → Act → World → Prop} {F : List Nat} {S : World → Prop} {l : List Oper} {fuel : Nat} {listed : Array Bool} {a : Act} {w : World} {i : Nat} {o : Oper} {v : Value}
theorem lt_start {id : Nat} (F : List Nat) (hm : P.follows .mixedOrders = true) (h : ∀ z, Below w.heap.size w z → ∃ S, wpAnyT P l.toArray Q F S l.length (Array.replicate l.length false) a z) : (Code.region id l.toArray true).wp P Q a w := by
  obtain ⟨S, h⟩ := h w.drew (Below.refl _ _).drew
  exact wp_region_any hm (wpAny_of_T _ _ _ _ (by simpa using h))
theorem lt_take (i : Nat) (D : List Nat) {o : Oper} (hi : l[i]? = some o) (hs : Region.noSelect l.toArray = true) (hf : Region.free .any l.toArray listed i = true) (hr : (Region.ready .any l.toArray listed).contains i = true)
    (hd : depB l.toArray i D = true) (hF : (F.all (D.contains ·) && !F.contains i && D.all (fun k => !listed.getD k false)) = true)
    (hQ : ∀ c a w, Q (.panic c) (a.put o.dst v) w → Q (.panic c) a w) (hy : YieldsIf P l.toArray S o v a) (hS : S w)
    (h : wpAnyT P l.toArray Q F S fuel (listed.setIfInBounds i true) (a.put o.dst v) w) : wpAnyT P l.toArray Q F S (fuel + 1) listed a w := by
  simp only [Bool.and_eq_true, Bool.not_eq_true'] at hF
  exact wpAnyT_first S (lx_at hi) (Region.noSelect_spec hs) hQ D hd hF.1.2 (fun L w hL hS => hS (fin_off hF.1.1 hL)) fuel listed a w (Region.free_spec (lx_at hi) hf) (by simpa using hr) (fun k hk => by simpa using List.all_eq_true.1 hF.2 k hk) hy (fun _ => hS) h
theorem lt_pure (i : Nat) {o : Oper} (hi : l[i]? = some o) (hs : Region.noSelect l.toArray = true) (hf : Region.free .any l.toArray listed i = true) (hr : (Region.ready .any l.toArray listed).contains i = true) (hiF : F.contains i = false)
    (hQ : ∀ c a w, Q (.panic c) (a.put o.dst v) w → Q (.panic c) a w) (hy : YieldsIf P l.toArray (fun _ => True) o v a) (hS : finB F listed = false → S w)
    (h : wpAnyT P l.toArray Q F S fuel (listed.setIfInBounds i true) (a.put o.dst v) w) : wpAnyT P l.toArray Q F S (fuel + 1) listed a w :=
  wpAnyT_first (fun _ => True) (lx_at hi) (Region.noSelect_spec hs) hQ [] (by simp [depB]) hiF (fun _ _ _ _ => trivial) fuel listed a w (Region.free_spec (lx_at hi) hf) (by simpa using hr) (fun k hk => by cases hk) hy hS h
theorem lt_skip (i : Nat) {o : Oper} (hi : l[i]? = some o) (hs : Region.noSelect l.toArray = true) (hf : Region.free .any l.toArray listed i = true) (hr : (Region.ready .any l.toArray listed).contains i = true) (hiF : F.contains i = false)
    (hQ : ∀ c a w, Q (.panic c) (a.put o.dst undef) w → Q (.panic c) a w) (hw : Region.wanted o (yielded l.toArray a.tmps) = false) (hS : finB F listed = false → S w)
    (h : wpAnyT P l.toArray Q F S fuel (listed.setIfInBounds i true) (a.put o.dst undef) w) : wpAnyT P l.toArray Q F S (fuel + 1) listed a w :=
  lt_pure i hi hs hf hr hiF hQ (.inr ⟨hw, rfl⟩) hS h
theorem lt_pureF (i : Nat) {o : Oper} (hi : l[i]? = some o) (hs : Region.noSelect l.toArray = true) (hf : Region.free .any l.toArray listed i = true) (hr : (Region.ready .any l.toArray listed).contains i = true) (hiF : F.contains i = false) (hfin : finB F listed = true)
    (hQ : ∀ c a w, Q (.panic c) (a.put o.dst v) w → Q (.panic c) a w) (hy : YieldsIf P l.toArray (fun _ => True) o v a)
    (h : wpAnyT P l.toArray Q F S fuel (listed.setIfInBounds i true) (a.put o.dst v) w) : wpAnyT P l.toArray Q F S (fuel + 1) listed a w :=
  lt_pure i hi hs hf hr hiF hQ hy (fun e => by rw [hfin] at e; cases e) h
theorem lt_op (i : Nat) {o : Oper} (hi : l[i]? = some o) (hr : Region.ready .any l.toArray listed = [i]) (hw : Region.wanted o (yielded l.toArray a.tmps) = true)
    (h : o.wp P a w (fun a' w' => (finB F (listed.setIfInBounds i true) = false → S w') ∧ wpAnyT P l.toArray Q F S fuel (listed.setIfInBounds i true) a' w') Q) : wpAnyT P l.toArray Q F S (fuel + 1) listed a w := by
  refine ⟨fun h0 => ?_, fun j hj => ?_⟩
  · rw [hr] at h0; cases h0
  rw [hr] at hj
  obtain rfl : j = i := by simpa using hj
  unfold wpOp
  rw [lx_at hi]
  simp only [hw, if_true]
  exact .inl h
theorem lt_end (i : Nat) {o : Oper} (hi : l[i]? = some o) (hr : Region.ready .any l.toArray listed = [i]) (hw : Region.wanted o (yielded l.toArray a.tmps) = true) (hfin : finB F (listed.setIfInBounds i true) = true)
    (h : o.wp P a w (wpAnyT P l.toArray Q F S fuel (listed.setIfInBounds i true)) Q) : wpAnyT P l.toArray Q F S (fuel + 1) listed a w :=
  lt_op i hi hr hw (Oper.wp_mono (fun _ _ h => ⟨(fun e => by rw [hfin] at e; cases e), h⟩) h)
theorem lt_call (i : Nat) {o : Oper} {f : FuncId} {xs : List Operand} {ats : Array TypeId} (hi : l[i]? = some o) (hr : Region.ready .any l.toArray listed = [i]) (hw : Region.wanted o (yielded l.toArray a.tmps) = true)
    (ho : o.op = .call { callee := .value (.func f), args := xs.toArray, argTypes := ats }) (hf : GoFn P f) (vals : List Value) (hv : xs.map a.eval = vals)
    (hc : Calls P f vals.toArray w fun e w' => ∃ v, e = .returned v ∧ (finB F (listed.setIfInBounds i true) = false → S w') ∧ wpAnyT P l.toArray Q F S fuel (listed.setIfInBounds i true) (a.put o.dst v) w') : wpAnyT P l.toArray Q F S (fuel + 1) listed a w :=
  lt_op i hi hr hw (wp_call_go ho hf vals.toArray (by rw [List.map_toArray, hv]) hc)
theorem lt_done (hr : Region.ready .any l.toArray listed = []) (h : Q .normal a w) : wpAnyT P l.toArray Q F S fuel listed a w := by
  cases fuel with
  | zero => exact ⟨hr, h⟩
  | succ f => exact ⟨fun _ => h, fun i hi => (by rw [hr] at hi; cases hi)⟩
end
section
variable {P : Program} {Q : Exit → Act → World → Prop} {K : Act → World → Prop} {o : Oper} {a : Act} {w x : World} {os : List Ob}
theorem wpo_append {t e : TypeId} {size bytes : Nat} (s y : Operand) (ho : o.op = .call { callee := .builtin .append, args := #[s, y], argTypes := #[t, t] }) (hS : SliceOf P t e size bytes) (h : OW w os x) (i : Nat) {v : Value} {n : Nat} {cs : List Value} (hi : os[i]? = some (rowO e size v n cs)) (hs : a.eval s = v)
    (B : Nat) (A : Option Addr) (m c : Nat) (news : List Value) (hy : a.eval y = .slice A m c) (hr : Reads x B size A m news) (h1 : ∀ u ∈ news, u.oneCell' = true) (h63 : n + m ≤ maxLen) (hbytes : (n + m) * bytes ≤ 140737488355328)
    (hK : ∀ A' c' z, OW w (os.set i (rowO e size (.slice A' (n + m) c') (n + m) (cs ++ news))) z → x.grownBy z v.ownBlock → K (a.put o.dst (.slice A' (n + m) c')) z) : o.wp P a x K Q := by
  refine wp_append_reads x s y ho hS w.heap.size v n cs hs (h.row hi) B A m c news hy hr h1 h63 hbytes h.up.size fun v' w' h2 h3 h4 => ?_
  obtain ⟨A', c', rfl, _⟩ := own_slice h2
  exact hK A' c' w' (h.grow hi h2 h3 h4) h3
theorem wpo_build {t e : TypeId} {len sz bytes : Nat} {parts : Array (Nat × Operand)} (ho : o.op = .buildSlice t len parts) (C : Array Value) (hS : SliceOf P t e sz bytes) (z : Value) (hz : (P.info? e).bind (·.zero) = some z) (hsm : ¬ len * sz > 2 ^ 24) (hp : ¬ len * sz = 0) (hm : len ≤ maxLen) (hsz : C.size = len * sz)
    (hf : Instr.fill (fun i => some (i * sz, sz)) ((Array.range (len * sz)).map (z.cells[· % z.cells.size]!)) (parts.map fun (i, x) => (i, a.eval x)).toList = some C)
    (h : OW w os x) (hK : ∀ g z, OW w (os ++ [rowO e sz (.slice (some ⟨g, 0, none⟩) len len) len C.toList]) z → Below x.heap.size x z → K (a.put o.dst (.slice (some ⟨g, 0, none⟩) len len)) z) : o.wp P a x K Q := by
  obtain ⟨ht, ⟨i, z', hi, hz', hsize, _, _⟩, _⟩ := hS
  rw [hi] at hz
  have hz : i.zero = some z := hz
  rw [hz'] at hz; injection hz with hz; subst hz
  subst hsize
  exact wp_buildSlice t e len parts ho C i z' ht hi hz' hsm hp hf (hK _ _ (h.app (OW.lit1 x C e i.size len hm hsz)) ((Below.refl _ _).alloc (Nat.le_refl _) _))
theorem wpo_box {t : TypeId} {y : Operand} (ho : o.op = .box t y) (cs : List Value) (hx : (a.eval y).cells = cs.toArray) (h : OW w os x) (hK : ∀ g z, OW w (os ++ [boxO g cs]) z → Below x.heap.size x z → K (a.put o.dst (.pointer (some ⟨g, 0, none⟩))) z) : o.wp P a x K Q := by
  unfold Oper.wp execOp
  simp only [ho, Sem.run_bind, Instr.box, newVar, newRow, run_newObj_alloc, Sem.run_pure, Result.andThen_ok, hx]
  exact hK _ _ (h.app (OW.box1 x t cs)) ((Below.refl _ _).alloc (Nat.le_refl _) _)
theorem wpo_alloc {t : TypeId} (ho : o.op = .alloc t) (cs : List Value) (hz : (P.info? t).bind (·.zero) = some (.agg cs.toArray) ∨ ∃ v : Value, (P.info? t).bind (·.zero) = some v ∧ v.cells = cs.toArray) (h : OW w os x) (hK : ∀ g z, OW w (os ++ [boxO g cs]) z → Below x.heap.size x z → K (a.put o.dst (.pointer (some ⟨g, 0, none⟩))) z) : o.wp P a x K Q := by
  obtain ⟨v, hv, hc⟩ : ∃ v : Value, (P.info? t).bind (·.zero) = some v ∧ v.cells = cs.toArray := by
    rcases hz with h | h
    · exact ⟨_, h, rfl⟩
    · exact h
  refine wp_alloc_row ho hv ?_
  rw [hc]
  exact hK _ _ (h.app (OW.box1 x t cs)) ((Below.refl _ _).alloc (Nat.le_refl _) _)
theorem wpo_put {t : TypeId} {p y : Operand} (ho : o.op = .store t p y) (h : OW w os x) (i : Nat) {g : Nat} {cs : List Value} (hi : os[i]? = some (boxO g cs)) (hx : a.eval p = .pointer (some ⟨g, 0, none⟩)) (vs : List Value) (hy : a.eval y = .agg vs.toArray) (hl : vs.length = cs.length) (ht : (P.info? t).map (·.size) = some vs.length) (h1 : ∀ u ∈ vs, u.oneCell' = true)
    (hK : ∀ z, OW w (os.set i (boxO g vs)) z → Chg (fun b => b = g) x z → K (a.put o.dst undef) z) : o.wp P a x K Q :=
  wp_store_row ho hx hy (h.range hi) (h.fz hi) hl ht h1 (hK _ (h.put hi hl) (setCells_chg g vs 0 x))
theorem wpo_put1 {t : TypeId} {p y : Operand} (ho : o.op = .store t p y) (h : OW w os x) (i : Nat) {g : Nat} {cs : List Value} (hi : os[i]? = some (boxO g cs)) (j : Nat) (hx : a.eval p = .pointer (some ⟨g, j, none⟩)) (hj : j < cs.length) (v : Value) (hy : a.eval y = v) (ht : (P.info? t).map (·.size) = some 1) (h1 : v.oneCell' = true)
    (hK : ∀ z, OW w (os.set i (boxO g (cs.set j v))) z → Chg (fun b => b = g) x z → K (a.put o.dst undef) z) : o.wp P a x K Q := by
  unfold Oper.wp execOp
  have hs : (x.cell? ⟨g, j, none⟩).isSome = true := by
    rw [h.cell hi (List.getElem?_eq_getElem hj)]; rfl
  simp only [ho, hx, hy, Instr.storeAt, Instr.sureAddr, Sem.run_bind, Sem.run_pure, Result.andThen_ok, run_storeVar_one x g j t v hs (h.fz hi j) h1 ht]
  exact hK _ (h.put1 hi j v) (Chg.setCell x ⟨g, j, none⟩ v)
theorem wpo_store {t : TypeId} {p y : Operand} (ho : o.op = .store t p y) (h : OW w os x) (i : Nat) {T : TypeId} {sz g n cap : Nat} {cs : List Value} (hi : os[i]? = some (rowO T sz (.slice (some ⟨g, 0, none⟩) n cap) n cs)) (j : Nat) (hx : a.eval p = .pointer (some ⟨g, j, none⟩)) (hj : j < n * sz) (v : Value) (hy : a.eval y = v) (ht : (P.info? t).map (·.size) = some 1) (h1 : v.oneCell' = true)
    (hK : ∀ z, OW w (os.set i (rowO T sz (.slice (some ⟨g, 0, none⟩) n cap) n (cs.set j v))) z → Chg (fun b => b = g) x z → K (a.put o.dst undef) z) : o.wp P a x K Q := by
  unfold Oper.wp execOp
  have hr := h.row hi
  have hs : (x.cell? ⟨g, j, none⟩).isSome = true := by
    rw [World.ownsRow.cellAt hr j hj, List.getElem?_eq_getElem (by rw [hr.1]; exact hj)]; rfl
  simp only [ho, hx, hy, Instr.storeAt, Instr.sureAddr, Sem.run_bind, Sem.run_pure, Result.andThen_ok, run_storeVar_one x g j t v hs (World.ownsRow.frozenAt hr j) h1 ht]
  exact hK _ (h.store hi j v) (Chg.setCell x ⟨g, j, none⟩ v)
end
section
variable {P : Program} {ops : Array Oper} {Q : Exit → Act → World → Prop} {rest : List Oper} {o : Oper} {a : Act} {w x : World} {os : List Ob}
theorem wl_append {t e : TypeId} {size bytes : Nat} (hgd : Region.wanted o (yielded ops a.tmps) = true) (s y : Operand) (ho : o.op = .call { callee := .builtin .append, args := #[s, y], argTypes := #[t, t] }) (hS : SliceOf P t e size bytes) (h : OW w os x) (i : Nat) {v : Value} {n : Nat} {cs : List Value} (hi : os[i]? = some (rowO e size v n cs)) (hs : a.eval s = v)
    (B : Nat) (A : Option Addr) (m c : Nat) (news : List Value) (hy : a.eval y = .slice A m c) (hr : Reads x B size A m news) (h1 : ∀ u ∈ news, u.oneCell' = true) (h63 : n + m ≤ maxLen) (hbytes : (n + m) * bytes ≤ 140737488355328)
    (hK : ∀ A' c' z, OW w (os.set i (rowO e size (.slice A' (n + m) c') (n + m) (cs ++ news))) z → x.grownBy z v.ownBlock → wpList P ops Q rest (a.put o.dst (.slice A' (n + m) c')) z) : wpList P ops Q (o :: rest) a x :=
  BigFrame.wpList_want hgd fun _ hk => wpo_append s y ho hS h i hi hs B A m c news hy hr h1 h63 hbytes fun A' c' z hz hg => hk _ _ (hK A' c' z hz hg)
theorem wl_build {t e : TypeId} {len sz bytes : Nat} (hgd : Region.wanted o (yielded ops a.tmps) = true) (parts : Array (Nat × Operand)) (ho : o.op = .buildSlice t len parts) (C : Array Value) (hS : SliceOf P t e sz bytes) (z : Value) (hz : (P.info? e).bind (·.zero) = some z) (hsm : ¬ len * sz > 2 ^ 24) (hp : ¬ len * sz = 0) (hm : len ≤ maxLen) (hsz : C.size = len * sz)
    (hf : Instr.fill (fun i => some (i * sz, sz)) ((Array.range (len * sz)).map (z.cells[· % z.cells.size]!)) (parts.map fun (i, x) => (i, a.eval x)).toList = some C)
    (h : OW w os x) (hK : ∀ g z, OW w (os ++ [rowO e sz (.slice (some ⟨g, 0, none⟩) len len) len C.toList]) z → Below x.heap.size x z → wpList P ops Q rest (a.put o.dst (.slice (some ⟨g, 0, none⟩) len len)) z) : wpList P ops Q (o :: rest) a x :=
  BigFrame.wpList_want hgd fun _ hk => wpo_build ho C hS z hz hsm hp hm hsz hf h fun g z hz hb => hk _ _ (hK g z hz hb)
theorem wl_box {t : TypeId} (hgd : Region.wanted o (yielded ops a.tmps) = true) (y : Operand) (ho : o.op = .box t y) (cs : List Value) (hx : (a.eval y).cells = cs.toArray) (h : OW w os x) (hK : ∀ g z, OW w (os ++ [boxO g cs]) z → Below x.heap.size x z → wpList P ops Q rest (a.put o.dst (.pointer (some ⟨g, 0, none⟩))) z) : wpList P ops Q (o :: rest) a x :=
  BigFrame.wpList_want hgd fun _ hk => wpo_box ho cs hx h fun g z hz hb => hk _ _ (hK g z hz hb)
theorem wl_alloc {t : TypeId} (hgd : Region.wanted o (yielded ops a.tmps) = true) (ho : o.op = .alloc t) (cs : List Value) (hz : (P.info? t).bind (·.zero) = some (.agg cs.toArray) ∨ ∃ v : Value, (P.info? t).bind (·.zero) = some v ∧ v.cells = cs.toArray) (h : OW w os x) (hK : ∀ g z, OW w (os ++ [boxO g cs]) z → Below x.heap.size x z → wpList P ops Q rest (a.put o.dst (.pointer (some ⟨g, 0, none⟩))) z) : wpList P ops Q (o :: rest) a x :=
  BigFrame.wpList_want hgd fun _ hk => wpo_alloc ho cs hz h fun g z hz hb => hk _ _ (hK g z hz hb)
theorem wl_put {t : TypeId} (hgd : Region.wanted o (yielded ops a.tmps) = true) (p y : Operand) (ho : o.op = .store t p y) (h : OW w os x) (i : Nat) {g : Nat} {cs : List Value} (hi : os[i]? = some (boxO g cs)) (hx : a.eval p = .pointer (some ⟨g, 0, none⟩)) (vs : List Value) (hy : a.eval y = .agg vs.toArray) (hl : vs.length = cs.length) (ht : (P.info? t).map (·.size) = some vs.length) (h1 : ∀ u ∈ vs, u.oneCell' = true)
    (hK : ∀ z, OW w (os.set i (boxO g vs)) z → Chg (fun b => b = g) x z → wpList P ops Q rest (a.put o.dst undef) z) : wpList P ops Q (o :: rest) a x :=
  BigFrame.wpList_want hgd fun _ hk => wpo_put ho h i hi hx vs hy hl ht h1 fun z hz hc => hk _ _ (hK z hz hc)
theorem wl_put1 {t : TypeId} (hgd : Region.wanted o (yielded ops a.tmps) = true) (p y : Operand) (ho : o.op = .store t p y) (h : OW w os x) (i : Nat) {g : Nat} {cs : List Value} (hi : os[i]? = some (boxO g cs)) (j : Nat) (hx : a.eval p = .pointer (some ⟨g, j, none⟩)) (hj : j < cs.length) (v : Value) (hy : a.eval y = v) (ht : (P.info? t).map (·.size) = some 1) (h1 : v.oneCell' = true)
    (hK : ∀ z, OW w (os.set i (boxO g (cs.set j v))) z → Chg (fun b => b = g) x z → wpList P ops Q rest (a.put o.dst undef) z) : wpList P ops Q (o :: rest) a x :=
  BigFrame.wpList_want hgd fun _ hk => wpo_put1 ho h i hi j hx hj v hy ht h1 fun z hz hc => hk _ _ (hK z hz hc)
end
end Go.Proofs.YtmigjipfomfacaaGreatDoor
namespace Go.Proofs.YtmigjipfomfacaaGreatDoor
open Go.RowKit
set_option maxRecDepth 100000 in
set_option maxHeartbeats 1000000 in
theorem shared_any (a b : List UInt8) (A B : Option Addr) (n c m d : Nat) (w : World) (hn : n ≤ 9223372036854775806) (ha : RB w w.heap.size A n a) (hb : RB w w.heap.size B m b) :
    Calls Tryz.prog 72 #[.slice A n c, .slice B m d] w fun e w' => e = .returned (.int .i64 (shareN a b)) ∧ Below w.heap.size w w' := by
  have HLA := Lib.hid ha.len
  have HLB := Lib.hid hb.len
  have HA : Hid (∀ w', Below w.heap.size w w' → RB w' w'.heap.size A n a) := Lib.hid fun w' h => ha.later h
  have HB : Hid (∀ w', Below w.heap.size w w' → RB w' w'.heap.size B m b) := Lib.hid fun w' h => hb.later h
  clear ha hb
  go_enter Tryz.func72, Tryz.ntmps72
  go_wp2
  go_loopw [5] (fun i wr => ∃ k : Nat, k ≤ shareN a b ∧ i = .int .i64 k ∧ Hid (Below w.heap.size w wr)) (fun i _ => n - (intOf i).toNat)
  case atStart => exact ⟨0, Nat.zero_le _, rfl, Lib.hid (Below.refl _ _)⟩
  case round =>
    obtain ⟨k, hk, rfl, HW⟩ := hrel
    have HT := Lib.hid (shareN_test a b k hk)
    have HK := Lib.hid hk
    clear hk
    by_cases hkn : k < n
    case neg =>
      have hd1 : decide ((k : Int) < (n : Int)) = false := decide_eq_false (by omega)
      have hd2 : decide (k < n) = false := decide_eq_false hkn
      have HE : Hid (shareN a b = k) := Lib.hid (by have := (shareN_le a b).1; have := HLA.out; have := HK.out; omega)
      go_wp2_with fail
      go_quiet (fail)
      have HW2 := Lib.hid (below_drewN (n := nq) HW.out)
      generalize wr.drewN nq = w3 at *
      go_wp2
      go_ret
      exact ⟨by rw [HE.out]; rfl, HW2.out⟩
    have hd1 : decide ((k : Int) < (n : Int)) = true := decide_eq_true (by omega)
    have hd2 : decide (k < n) = true := decide_eq_true hkn
    by_cases hkm : k < m
    case neg =>
      have hd3 : decide ((k : Int) < (m : Int)) = false := decide_eq_false (by omega)
      have hd4 : decide (k < m) = false := decide_eq_false hkm
      have HE : Hid (shareN a b = k) := Lib.hid (by have := (shareN_le a b).2; have := HLB.out; have := HK.out; omega)
      go_wp2_with fail
      go_quiet (fail)
      have HW2 := Lib.hid (below_drewN (n := nq) HW.out)
      generalize wr.drewN nq = w3 at *
      go_wp2
      go_ret
      exact ⟨by rw [HE.out]; rfl, HW2.out⟩
    have hd3 : decide ((k : Int) < (m : Int)) = true := decide_eq_true (by omega)
    have hd4 : decide (k < m) = true := decide_eq_true hkm
    have hk1 : (k : Int) < (n : Int) := by omega
    have hk2 : (k : Int) < (m : Int) := by omega
    obtain ⟨b1, o1, x, rfl, _, hx, c1⟩ := (HA.out _ HW.out).at_ hkn
    obtain ⟨b2, o2, y, rfl, _, hy, c2⟩ := (HB.out _ HW.out).at_ hkm
    by_cases hxy : x = y
    case neg =>
      have he : ((x.toNat : Int) == (y.toNat : Int)) = false := beq_eq_false_iff_ne.2 (fun h => hxy (UInt8.toNat_inj.1 (by omega)))
      have he2 : (x == y) = false := beq_eq_false_iff_ne.2 hxy
      have he3 : (x.toNat == y.toNat) = false := beq_eq_false_iff_ne.2 (fun h => hxy (UInt8.toNat_inj.1 h))
      have he4 : ¬ x.toNat = y.toNat := fun h => hxy (UInt8.toNat_inj.1 h)
      have HE : Hid (shareN a b = k) := Lib.hid (by
        have h1 := HT.out
        rw [hx, hy] at h1
        have h2 : ¬ k < shareN a b := fun h => hxy (Option.some.inj (h1.1 h).2.2)
        have := HK.out; omega)
      clear hx hy
      go_wp2_with fail
      go_quiet (fail)
      have HW2 := Lib.hid (below_drewN (n := nq) HW.out)
      clear c1 c2
      generalize wr.drewN nq = w3 at *
      go_wp2
      go_ret
      exact ⟨by rw [HE.out]; rfl, HW2.out⟩
    subst hxy
    have he : ((x.toNat : Int) == (x.toNat : Int)) = true := by simp
    have HE : Hid (k < shareN a b) := Lib.hid (HT.out.2 ⟨by have := HLA.out; omega, by have := HLB.out; omega, by rw [hx, hy]⟩)
    clear hx hy
    go_wp2_with fail
    go_quiet (fail)
    have HW2 := Lib.hid (below_drewN (n := nq) HW.out)
    clear c1 c2
    generalize wr.drewN nq = w3 at *
    go_wp2
    go_roundw
    case rel => exact ⟨k + 1, HE.out, by go_num, HW2⟩
    case measure => simp [intOf]; omega
set_option maxRecDepth 100000 in
set_option maxHeartbeats 1000000 in
theorem rshared_any (a b : List UInt8) (A B : Option Addr) (n c m d : Nat) (w : World) (hn : n ≤ 9223372036854775806) (ha : RB w w.heap.size A n a) (hb : RB w w.heap.size B m b) :
    Calls Tryz.prog 49 #[.slice A n c, .slice B m d] w fun e w' => e = .returned (.int .i64 (shareN a b)) ∧ Below w.heap.size w w' := by
  have HLA := Lib.hid ha.len
  have HLB := Lib.hid hb.len
  have HA : Hid (∀ w', Below w.heap.size w w' → RB w' w'.heap.size A n a) := Lib.hid fun w' h => ha.later h
  have HB : Hid (∀ w', Below w.heap.size w w' → RB w' w'.heap.size B m b) := Lib.hid fun w' h => hb.later h
  clear ha hb
  go_enter Tryz.func49, Tryz.ntmps49
  go_wp2
  go_loopw [5] (fun i wr => ∃ k : Nat, k ≤ shareN a b ∧ i = .int .i64 k ∧ Hid (Below w.heap.size w wr)) (fun i _ => n - (intOf i).toNat)
  case atStart => exact ⟨0, Nat.zero_le _, rfl, Lib.hid (Below.refl _ _)⟩
  case round =>
    obtain ⟨k, hk, rfl, HW⟩ := hrel
    have HT := Lib.hid (shareN_test a b k hk)
    have HK := Lib.hid hk
    clear hk
    by_cases hkn : k < n
    case neg =>
      have hd1 : decide ((k : Int) < (n : Int)) = false := decide_eq_false (by omega)
      have hd2 : decide (k < n) = false := decide_eq_false hkn
      have HE : Hid (shareN a b = k) := Lib.hid (by have := (shareN_le a b).1; have := HLA.out; have := HK.out; omega)
      go_wp2_with fail
      go_quiet (fail)
      have HW2 := Lib.hid (below_drewN (n := nq) HW.out)
      generalize wr.drewN nq = w3 at *
      go_wp2
      go_ret
      exact ⟨by rw [HE.out]; rfl, HW2.out⟩
    have hd1 : decide ((k : Int) < (n : Int)) = true := decide_eq_true (by omega)
    have hd2 : decide (k < n) = true := decide_eq_true hkn
    by_cases hkm : k < m
    case neg =>
      have hd3 : decide ((k : Int) < (m : Int)) = false := decide_eq_false (by omega)
      have hd4 : decide (k < m) = false := decide_eq_false hkm
      have HE : Hid (shareN a b = k) := Lib.hid (by have := (shareN_le a b).2; have := HLB.out; have := HK.out; omega)
      go_wp2_with fail
      go_quiet (fail)
      have HW2 := Lib.hid (below_drewN (n := nq) HW.out)
      generalize wr.drewN nq = w3 at *
      go_wp2
      go_ret
      exact ⟨by rw [HE.out]; rfl, HW2.out⟩
    have hd3 : decide ((k : Int) < (m : Int)) = true := decide_eq_true (by omega)
    have hd4 : decide (k < m) = true := decide_eq_true hkm
    have hk1 : (k : Int) < (n : Int) := by omega
    have hk2 : (k : Int) < (m : Int) := by omega
    obtain ⟨b1, o1, x, rfl, _, hx, c1⟩ := (HA.out _ HW.out).at_ hkn
    obtain ⟨b2, o2, y, rfl, _, hy, c2⟩ := (HB.out _ HW.out).at_ hkm
    by_cases hxy : x = y
    case neg =>
      have he : ((x.toNat : Int) == (y.toNat : Int)) = false := beq_eq_false_iff_ne.2 (fun h => hxy (UInt8.toNat_inj.1 (by omega)))
      have he2 : (x == y) = false := beq_eq_false_iff_ne.2 hxy
      have he3 : (x.toNat == y.toNat) = false := beq_eq_false_iff_ne.2 (fun h => hxy (UInt8.toNat_inj.1 h))
      have he4 : ¬ x.toNat = y.toNat := fun h => hxy (UInt8.toNat_inj.1 h)
      have HE : Hid (shareN a b = k) := Lib.hid (by
        have h1 := HT.out
        rw [hx, hy] at h1
        have h2 : ¬ k < shareN a b := fun h => hxy (Option.some.inj (h1.1 h).2.2)
        have := HK.out; omega)
      clear hx hy
      go_wp2_with fail
      go_quiet (fail)
      have HW2 := Lib.hid (below_drewN (n := nq) HW.out)
      clear c1 c2
      generalize wr.drewN nq = w3 at *
      go_wp2
      go_ret
      exact ⟨by rw [HE.out]; rfl, HW2.out⟩
    subst hxy
    have he : ((x.toNat : Int) == (x.toNat : Int)) = true := by simp
    have HE : Hid (k < shareN a b) := Lib.hid (HT.out.2 ⟨by have := HLA.out; omega, by have := HLB.out; omega, by rw [hx, hy]⟩)
    clear hx hy
    go_wp2_with fail
    go_quiet (fail)
    have HW2 := Lib.hid (below_drewN (n := nq) HW.out)
    clear c1 c2
    generalize wr.drewN nq = w3 at *
    go_wp2
    go_roundw
    case rel => exact ⟨k + 1, HE.out, by go_num, HW2⟩
    case measure => simp [intOf]; omega
set_option maxRecDepth 100000 in
theorem four_any (v : Nat) (w : World) (hv : v < 4294967296) : Calls Tryz.prog 53 #[.int .u32 v] w (BytesPost 5 (four4 v) w) := by
  have hL : Hid (u8s (four4 v) = [.int .u8 ((v : Int) / 16777216), .int .u8 ((v : Int) / 65536 % 256), .int .u8 ((v : Int) / 256 % 256), .int .u8 ((v : Int) % 256)]) := Lib.hid (by
    show [u8v _, u8v _, u8v _, u8v _] = _
    rw [u8v_mod, u8v_mod, u8v_mod, u8v_mod]; simp only [Int.natCast_ediv]; rw [show ((v : Int) / ((16777216 : Nat) : Int) % 256) = (v : Int) / 16777216 from by omega]; rfl)
  go_enter Tryz.func53, Tryz.ntmps53
  go_wp2_with fail
  go_ret
  refine ⟨_, _, rfl, ?_, ((Below.refl _ _).alloc (Nat.le_refl _) _)⟩
  show World.ownsRow _ _ _ _ _ _ _
  rw [hL.out]
  exact own_lit w #[.int .u8 ((v : Int) / 16777216), .int .u8 ((v : Int) / 65536 % 256), .int .u8 ((v : Int) / 256 % 256), .int .u8 ((v : Int) % 256)] 5 w.heap.size 4 1 (by simp) (by decide) rfl
set_option maxRecDepth 100000 in
theorem rfour_any (v : Nat) (w : World) (hv : v < 4294967296) : Calls Tryz.prog 78 #[.int .i64 v] w (BytesPost 5 (four4 v) w) := by
  have hL : Hid (u8s (four4 v) = [.int .u8 ((v : Int) / 16777216 % 256), .int .u8 ((v : Int) / 65536 % 256), .int .u8 ((v : Int) / 256 % 256), .int .u8 ((v : Int) % 256)]) := Lib.hid (by
    show [u8v _, u8v _, u8v _, u8v _] = _
    rw [u8v_mod, u8v_mod, u8v_mod, u8v_mod]; simp only [Int.natCast_ediv]; rfl)
  go_enter Tryz.func78, Tryz.ntmps78
  go_wp2_with fail
  go_ret
  refine ⟨_, _, rfl, ?_, ((Below.refl _ _).alloc (Nat.le_refl _) _)⟩
  show World.ownsRow _ _ _ _ _ _ _
  rw [hL.out]
  exact own_lit w #[.int .u8 ((v : Int) / 16777216 % 256), .int .u8 ((v : Int) / 65536 % 256), .int .u8 ((v : Int) / 256 % 256), .int .u8 ((v : Int) % 256)] 5 w.heap.size 4 1 (by simp) (by decide) rfl
end Go.Proofs.YtmigjipfomfacaaGreatDoor
namespace Go.Proofs.YtmigjipfomfacaaGreatDoor
open Go.RowKit
set_option maxRecDepth 100000 in
set_option maxHeartbeats 1000000 in
theorem reverse4_any (a b d e : UInt8) (g c : Nat) (w x : World) (h : OW w [bytO 5 (some ⟨g, 0, none⟩, c, [a, b, d, e])] x) :
    Calls Tryz.prog 55 #[.slice (some ⟨g, 0, none⟩) 4 c] x fun r x' => r = .returned (.tuple #[]) ∧ OW w [bytO 5 (some ⟨g, 0, none⟩, c, [e, d, b, a])] x' := by
  have HX := Lib.hid h
  clear h
  go_enter Tryz.func55, Tryz.ntmps55
  go_wp2_with fail
  go_loopw [2, 3] (fun i j wr => (i = .int .i64 0 ∧ j = .int .i64 3 ∧ Hid (OW w [bytO 5 (some ⟨g, 0, none⟩, c, [a, b, d, e])] wr)) ∨ (i = .int .i64 1 ∧ j = .int .i64 2 ∧ Hid (OW w [bytO 5 (some ⟨g, 0, none⟩, c, [e, b, d, a])] wr)) ∨ (i = .int .i64 2 ∧ j = .int .i64 1 ∧ Hid (OW w [bytO 5 (some ⟨g, 0, none⟩, c, [e, d, b, a])] wr))) (fun i _ _ => 2 - (intOf i).toNat)
  case atStart => exact .inl ⟨rfl, rfl, HX⟩
  case round =>
    clear HX
    rcases hrel with ⟨rfl, rfl, HX⟩ | ⟨rfl, rfl, HX⟩ | ⟨rfl, rfl, HX⟩
    · go_wp2_with fail
      refine lt_start [13] (by kernel_rfl) ?_
      intro xd hd
      refine ⟨fun z => OW w [bytO 5 (some ⟨g, 0, none⟩, c, [a, b, d, e])] z, ?_⟩
      have HS := Lib.hid (HX.out.later hd)
      refine lt_pure 0 rfl (by kernel_rfl) (by kernel_rfl) (by kernel_rfl) (by kernel_rfl) (fun _ _ _ h => h) (v := ?_) (yi_run rfl (fun w => ?_)) (fun _ => HS.out) ?_
      rotate_left
      · first | (go_simp; done) | (go_simp; with_reducible rfl)
      simp only [Act.put, List.setIfInBounds_toArray, List.set_cons_zero, List.set_cons_succ]
      refine lt_pure 1 rfl (by kernel_rfl) (by kernel_rfl) (by kernel_rfl) (by kernel_rfl) (fun _ _ _ h => h) (v := ?_) (yi_run rfl (fun w => ?_)) (fun _ => HS.out) ?_
      rotate_left
      · first | (go_simp; done) | (go_simp; with_reducible rfl)
      simp only [Act.put, List.setIfInBounds_toArray, List.set_cons_zero, List.set_cons_succ]
      refine lt_pure 2 rfl (by kernel_rfl) (by kernel_rfl) (by kernel_rfl) (by kernel_rfl) (fun _ _ _ h => h) (v := ?_) (yi_run rfl (fun w => ?_)) (fun _ => HS.out) ?_
      rotate_left
      · first | (go_simp; done) | (go_simp; with_reducible rfl)
      simp only [Act.put, List.setIfInBounds_toArray, List.set_cons_zero, List.set_cons_succ]
      refine lt_pure 3 rfl (by kernel_rfl) (by kernel_rfl) (by kernel_rfl) (by kernel_rfl) (fun _ _ _ h => h) (v := ?_) (yi_run rfl (fun w => ?_)) (fun _ => HS.out) ?_
      rotate_left
      · first | (go_simp; done) | (go_simp; with_reducible rfl)
      simp only [Act.put, List.setIfInBounds_toArray, List.set_cons_zero, List.set_cons_succ]
      refine lt_pure 4 rfl (by kernel_rfl) (by kernel_rfl) (by kernel_rfl) (by kernel_rfl) (fun _ _ _ h => h) (v := ?_) (yi_run rfl (fun w => ?_)) (fun _ => HS.out) ?_
      rotate_left
      · first | (go_simp; done) | (go_simp; with_reducible rfl)
      simp only [Act.put, List.setIfInBounds_toArray, List.set_cons_zero, List.set_cons_succ]
      refine lt_pure 5 rfl (by kernel_rfl) (by kernel_rfl) (by kernel_rfl) (by kernel_rfl) (fun _ _ _ h => h) (v := ?_) (yi_run rfl (fun w => ?_)) (fun _ => HS.out) ?_
      rotate_left
      · first | (go_simp; done) | (go_simp; with_reducible rfl)
      simp only [Act.put, List.setIfInBounds_toArray, List.set_cons_zero, List.set_cons_succ]
      refine lt_pure 6 rfl (by kernel_rfl) (by kernel_rfl) (by kernel_rfl) (by kernel_rfl) (fun _ _ _ h => h) (v := ?_) (yi_run rfl (fun w => ?_)) (fun _ => HS.out) ?_
      rotate_left
      · first | (go_simp; done) | (go_simp; with_reducible rfl)
      simp only [Act.put, List.setIfInBounds_toArray, List.set_cons_zero, List.set_cons_succ]
      refine lt_take 7 [12, 13, 14, 15] rfl (by kernel_rfl) (by kernel_rfl) (by kernel_rfl) (by kernel_rfl) (by kernel_rfl) (fun _ _ _ h => h) (yi_cell rfl rfl rfl (fun w hS => (World.ownsRow.cellAt (OW.row hS (i := 0) rfl) 3 (by show 3 < 4 * 1; omega)).trans rfl) (fun w => Tryz.isAgg5 w)) HS.out ?_
      simp only [Act.put, List.setIfInBounds_toArray, List.set_cons_zero, List.set_cons_succ]
      refine lt_pure 8 rfl (by kernel_rfl) (by kernel_rfl) (by kernel_rfl) (by kernel_rfl) (fun _ _ _ h => h) (v := ?_) (yi_run rfl (fun w => ?_)) (fun _ => HS.out) ?_
      rotate_left
      · first | (go_simp; done) | (go_simp; with_reducible rfl)
      simp only [Act.put, List.setIfInBounds_toArray, List.set_cons_zero, List.set_cons_succ]
      refine lt_pure 9 rfl (by kernel_rfl) (by kernel_rfl) (by kernel_rfl) (by kernel_rfl) (fun _ _ _ h => h) (v := ?_) (yi_run rfl (fun w => ?_)) (fun _ => HS.out) ?_
      rotate_left
      · first | (go_simp; done) | (go_simp; with_reducible rfl)
      simp only [Act.put, List.setIfInBounds_toArray, List.set_cons_zero, List.set_cons_succ]
      refine lt_pure 10 rfl (by kernel_rfl) (by kernel_rfl) (by kernel_rfl) (by kernel_rfl) (fun _ _ _ h => h) (v := ?_) (yi_run rfl (fun w => ?_)) (fun _ => HS.out) ?_
      rotate_left
      · first | (go_simp; done) | (go_simp; with_reducible rfl)
      simp only [Act.put, List.setIfInBounds_toArray, List.set_cons_zero, List.set_cons_succ]
      refine lt_take 11 [12, 13, 14, 15] rfl (by kernel_rfl) (by kernel_rfl) (by kernel_rfl) (by kernel_rfl) (by kernel_rfl) (fun _ _ _ h => h) (yi_cell rfl rfl rfl (fun w hS => (World.ownsRow.cellAt (OW.row hS (i := 0) rfl) 0 (by show 0 < 4 * 1; omega)).trans rfl) (fun w => Tryz.isAgg5 w)) HS.out ?_
      simp only [Act.put, List.setIfInBounds_toArray, List.set_cons_zero, List.set_cons_succ]
      refine lt_pure 12 rfl (by kernel_rfl) (by kernel_rfl) (by kernel_rfl) (by kernel_rfl) (fun _ _ _ h => h) (v := ?_) (yi_run rfl (fun w => ?_)) (fun _ => HS.out) ?_
      rotate_left
      · first | (go_simp; done) | (go_simp; with_reducible rfl)
      simp only [Act.put, List.setIfInBounds_toArray, List.set_cons_zero, List.set_cons_succ]
      refine lt_end 13 rfl (by kernel_rfl) rfl (by kernel_rfl) ?_
      refine wpo_store rfl HS.out 0 rfl 0 rfl (by show 0 < 4 * 1; omega) (u8v e) rfl (by kernel_rfl) rfl ?_
      intro z1 hz1 _
      simp only [Act.put]
      refine lt_pureF 14 rfl (by kernel_rfl) (by kernel_rfl) (by kernel_rfl) (by kernel_rfl) (by kernel_rfl) (fun _ _ _ h => h) (v := ?_) (yi_run rfl (fun w => ?_)) ?_
      rotate_left
      · first | (go_simp; done) | (go_simp; with_reducible rfl)
      simp only [Act.put, List.setIfInBounds_toArray, List.set_cons_zero, List.set_cons_succ]
      refine lt_end 15 rfl (by kernel_rfl) rfl (by kernel_rfl) ?_
      refine wpo_store rfl hz1 0 rfl 3 rfl (by show 3 < 4 * 1; omega) (u8v a) rfl (by kernel_rfl) rfl ?_
      intro z2 hz2 _
      simp only [Act.put]
      refine lt_done (by kernel_rfl) ?_
      clear HS
      have HX2 : Hid (OW w [bytO 5 (some ⟨g, 0, none⟩, c, [e, b, d, a])] z2) := Lib.hid hz2
      clear hz1 hz2
      go_wp2_with fail
      go_roundw
      case rel => exact .inr (.inl ⟨rfl, rfl, HX2⟩)
      case measure => simp [intOf]
    · go_wp2_with fail
      refine lt_start [13] (by kernel_rfl) ?_
      intro xd hd
      refine ⟨fun z => OW w [bytO 5 (some ⟨g, 0, none⟩, c, [e, b, d, a])] z, ?_⟩
      have HS := Lib.hid (HX.out.later hd)
      refine lt_pure 0 rfl (by kernel_rfl) (by kernel_rfl) (by kernel_rfl) (by kernel_rfl) (fun _ _ _ h => h) (v := ?_) (yi_run rfl (fun w => ?_)) (fun _ => HS.out) ?_
      rotate_left
      · first | (go_simp; done) | (go_simp; with_reducible rfl)
      simp only [Act.put, List.setIfInBounds_toArray, List.set_cons_zero, List.set_cons_succ]
      refine lt_pure 1 rfl (by kernel_rfl) (by kernel_rfl) (by kernel_rfl) (by kernel_rfl) (fun _ _ _ h => h) (v := ?_) (yi_run rfl (fun w => ?_)) (fun _ => HS.out) ?_
      rotate_left
      · first | (go_simp; done) | (go_simp; with_reducible rfl)
      simp only [Act.put, List.setIfInBounds_toArray, List.set_cons_zero, List.set_cons_succ]
      refine lt_pure 2 rfl (by kernel_rfl) (by kernel_rfl) (by kernel_rfl) (by kernel_rfl) (fun _ _ _ h => h) (v := ?_) (yi_run rfl (fun w => ?_)) (fun _ => HS.out) ?_
      rotate_left
      · first | (go_simp; done) | (go_simp; with_reducible rfl)
      simp only [Act.put, List.setIfInBounds_toArray, List.set_cons_zero, List.set_cons_succ]
      refine lt_pure 3 rfl (by kernel_rfl) (by kernel_rfl) (by kernel_rfl) (by kernel_rfl) (fun _ _ _ h => h) (v := ?_) (yi_run rfl (fun w => ?_)) (fun _ => HS.out) ?_
      rotate_left
      · first | (go_simp; done) | (go_simp; with_reducible rfl)
      simp only [Act.put, List.setIfInBounds_toArray, List.set_cons_zero, List.set_cons_succ]
      refine lt_pure 4 rfl (by kernel_rfl) (by kernel_rfl) (by kernel_rfl) (by kernel_rfl) (fun _ _ _ h => h) (v := ?_) (yi_run rfl (fun w => ?_)) (fun _ => HS.out) ?_
      rotate_left
      · first | (go_simp; done) | (go_simp; with_reducible rfl)
      simp only [Act.put, List.setIfInBounds_toArray, List.set_cons_zero, List.set_cons_succ]
      refine lt_pure 5 rfl (by kernel_rfl) (by kernel_rfl) (by kernel_rfl) (by kernel_rfl) (fun _ _ _ h => h) (v := ?_) (yi_run rfl (fun w => ?_)) (fun _ => HS.out) ?_
      rotate_left
      · first | (go_simp; done) | (go_simp; with_reducible rfl)
      simp only [Act.put, List.setIfInBounds_toArray, List.set_cons_zero, List.set_cons_succ]
      refine lt_pure 6 rfl (by kernel_rfl) (by kernel_rfl) (by kernel_rfl) (by kernel_rfl) (fun _ _ _ h => h) (v := ?_) (yi_run rfl (fun w => ?_)) (fun _ => HS.out) ?_
      rotate_left
      · first | (go_simp; done) | (go_simp; with_reducible rfl)
      simp only [Act.put, List.setIfInBounds_toArray, List.set_cons_zero, List.set_cons_succ]
      refine lt_take 7 [12, 13, 14, 15] rfl (by kernel_rfl) (by kernel_rfl) (by kernel_rfl) (by kernel_rfl) (by kernel_rfl) (fun _ _ _ h => h) (yi_cell rfl rfl rfl (fun w hS => (World.ownsRow.cellAt (OW.row hS (i := 0) rfl) 2 (by show 2 < 4 * 1; omega)).trans rfl) (fun w => Tryz.isAgg5 w)) HS.out ?_
      simp only [Act.put, List.setIfInBounds_toArray, List.set_cons_zero, List.set_cons_succ]
      refine lt_pure 8 rfl (by kernel_rfl) (by kernel_rfl) (by kernel_rfl) (by kernel_rfl) (fun _ _ _ h => h) (v := ?_) (yi_run rfl (fun w => ?_)) (fun _ => HS.out) ?_
      rotate_left
      · first | (go_simp; done) | (go_simp; with_reducible rfl)
      simp only [Act.put, List.setIfInBounds_toArray, List.set_cons_zero, List.set_cons_succ]
      refine lt_pure 9 rfl (by kernel_rfl) (by kernel_rfl) (by kernel_rfl) (by kernel_rfl) (fun _ _ _ h => h) (v := ?_) (yi_run rfl (fun w => ?_)) (fun _ => HS.out) ?_
      rotate_left
      · first | (go_simp; done) | (go_simp; with_reducible rfl)
      simp only [Act.put, List.setIfInBounds_toArray, List.set_cons_zero, List.set_cons_succ]
      refine lt_pure 10 rfl (by kernel_rfl) (by kernel_rfl) (by kernel_rfl) (by kernel_rfl) (fun _ _ _ h => h) (v := ?_) (yi_run rfl (fun w => ?_)) (fun _ => HS.out) ?_
      rotate_left
      · first | (go_simp; done) | (go_simp; with_reducible rfl)
      simp only [Act.put, List.setIfInBounds_toArray, List.set_cons_zero, List.set_cons_succ]
      refine lt_take 11 [12, 13, 14, 15] rfl (by kernel_rfl) (by kernel_rfl) (by kernel_rfl) (by kernel_rfl) (by kernel_rfl) (fun _ _ _ h => h) (yi_cell rfl rfl rfl (fun w hS => (World.ownsRow.cellAt (OW.row hS (i := 0) rfl) 1 (by show 1 < 4 * 1; omega)).trans rfl) (fun w => Tryz.isAgg5 w)) HS.out ?_
      simp only [Act.put, List.setIfInBounds_toArray, List.set_cons_zero, List.set_cons_succ]
      refine lt_pure 12 rfl (by kernel_rfl) (by kernel_rfl) (by kernel_rfl) (by kernel_rfl) (fun _ _ _ h => h) (v := ?_) (yi_run rfl (fun w => ?_)) (fun _ => HS.out) ?_
      rotate_left
      · first | (go_simp; done) | (go_simp; with_reducible rfl)
      simp only [Act.put, List.setIfInBounds_toArray, List.set_cons_zero, List.set_cons_succ]
      refine lt_end 13 rfl (by kernel_rfl) rfl (by kernel_rfl) ?_
      refine wpo_store rfl HS.out 0 rfl 1 rfl (by show 1 < 4 * 1; omega) (u8v d) rfl (by kernel_rfl) rfl ?_
      intro z1 hz1 _
      simp only [Act.put]
      refine lt_pureF 14 rfl (by kernel_rfl) (by kernel_rfl) (by kernel_rfl) (by kernel_rfl) (by kernel_rfl) (fun _ _ _ h => h) (v := ?_) (yi_run rfl (fun w => ?_)) ?_
      rotate_left
      · first | (go_simp; done) | (go_simp; with_reducible rfl)
      simp only [Act.put, List.setIfInBounds_toArray, List.set_cons_zero, List.set_cons_succ]
      refine lt_end 15 rfl (by kernel_rfl) rfl (by kernel_rfl) ?_
      refine wpo_store rfl hz1 0 rfl 2 rfl (by show 2 < 4 * 1; omega) (u8v b) rfl (by kernel_rfl) rfl ?_
      intro z2 hz2 _
      simp only [Act.put]
      refine lt_done (by kernel_rfl) ?_
      clear HS
      have HX2 : Hid (OW w [bytO 5 (some ⟨g, 0, none⟩, c, [e, d, b, a])] z2) := Lib.hid hz2
      clear hz1 hz2
      go_wp2_with fail
      go_roundw
      case rel => exact .inr (.inr ⟨rfl, rfl, HX2⟩)
      case measure => simp [intOf]
    · go_wp2_with fail
      go_end0
      exact ⟨rfl, HX.out⟩
end Go.Proofs.YtmigjipfomfacaaGreatDoor
namespace Go.Proofs.YtmigjipfomfacaaGreatDoor
open Go.RowKit
set_option maxRecDepth 100000 in
set_option maxHeartbeats 2000000 in
theorem summed_any (l : List UInt8) (A : Option Addr) (n c : Nat) (w : World) (hs : Sl w A n c l) (h4 : 4 ≤ n) (ht : TabAt 0 w) :
    Calls Tryz.prog 30 #[.slice A n c] w fun e w' => e = .returned (.bool (lowB (sumL (l.take (n - 4))) == l.drop (n - 4))) ∧ Below w.heap.size w w' := by
  have f1 : Hid (∀ x : List UInt8, [x].flatten = x) := Lib.hid fun x => by simp
  obtain ⟨k, rfl⟩ : ∃ k, n = k + 4 := ⟨n - 4, by omega⟩
  have hcap := hs.cap
  have hlim := hs.lim
  obtain ⟨b1, o1, _, rfl, _, _, _⟩ := hs.rb.at_ (show 0 < k + 4 by omega)
  rw [show k + 4 - 4 = k from by omega]
  have HT4 := Lib.hid (hs.take (m := k) (by omega))
  have HD : Hid (∀ w', Below w.heap.size w w' → Sl w' (some ⟨b1, o1 + k, none⟩) 4 (c - k) (l.drop k)) := Lib.hid fun w' h => by
    have := (hs.later h).drop (k := k) (by omega) (by omega)
    rw [show k + 4 - k = 4 from by omega, Option.map_some, show (⟨b1, o1, none⟩ : Addr).add k = ⟨b1, o1 + k, none⟩ from by simp [Addr.add]] at this
    exact this
  have HTB : Hid (∀ w', Below w.heap.size w w' → TabAt 0 w') := Lib.hid fun w' h => ht.later h
  obtain ⟨t, htk⟩ : ∃ t, t = l.take k := ⟨_, rfl⟩
  obtain ⟨u, hu⟩ : ∃ t, t = l.drop k := ⟨_, rfl⟩
  rw [← htk] at HT4
  rw [← hu] at HD
  rw [← htk, ← hu]
  obtain ⟨s, hsl⟩ : ∃ s, s = sumL t := ⟨_, rfl⟩
  have HSL := Lib.hid hsl
  have hs32 : s < 4294967296 := by rw [hsl]; exact sumL_lt t
  rw [← hsl]
  obtain ⟨u3, u2, u1, u0, hf4, hlw⟩ : ∃ a b d e, four4 s = [a, b, d, e] ∧ lowB s = [e, d, b, a] := ⟨_, _, _, _, rfl, rfl⟩
  rw [hlw]
  have HF := Lib.hid hf4
  clear hs hsl htk hu ht h4 hf4 hlw
  have i1 : (0 : Int) ≤ (k : Int) := by omega
  have i2 : (k : Int) ≤ (c : Int) := by omega
  have i3 : (k : Int) ≤ (k : Int) + 4 := by omega
  go_enter Tryz.func30, Tryz.ntmps30
  go_wp2_with (first
    | (go_at_call 54; go_must (refine (sum_any [t] _ 1 1 _ (by omega) (by exact HT4.out.one _ _) (HTB.out _ ((Below.refl _ _).alloc (Nat.le_refl _) _))).mono ?_); rintro e w1 ⟨rfl, rfl⟩; rw [f1.out, ← HSL.out])
    | (go_at_call 53; go_must (refine (four_any s _ hs32).mono ?_); rintro e w2 hp; rw [HF.out] at hp; obtain ⟨A2, c2, rfl, _, ho, hb⟩ := hp.at_ (n := 4) rfl; have HB2 := Lib.hid (((Below.refl w.heap.size w).alloc (Nat.le_refl _) (.cells #[.slice (some ⟨b1, o1, none⟩) k c] 22)).trans (hb.mono (by simp))); obtain ⟨g, cp, hv, _, _, _⟩ := own_form ho (by show 0 < 4; omega); injection hv with hv _ hcp; subst hv; subst hcp; have HX := Lib.hid (OW.byt1 hb ho); clear hp hb ho)
    | (go_at_call 55; go_must (refine (reverse4_any _ _ _ _ g _ _ _ HX.out).mono ?_); rintro e w3 ⟨rfl, hx⟩; have HX3 := Lib.hid hx; have HB3 := Lib.hid (((Below.refl w.heap.size w).alloc (Nat.le_refl _) (.cells #[.slice (some ⟨b1, o1, none⟩) k c] 22)).trans (hx.up.mono (by simp))); clear hx)
    | (go_at_call 32; go_must (refine (equal_any [u0, u1, u2, u3] u _ _ 4 _ 4 _ _ (HX3.out.sl (i := 0) rfl rfl).rb (HD.out _ HB3.out).rb).mono ?_); rintro e w4 ⟨rfl, rfl⟩))
  go_ret
  exact ⟨rfl, HB3.out⟩
end Go.Proofs.YtmigjipfomfacaaGreatDoor
namespace Go.Proofs.YtmigjipfomfacaaGreatDoor
open Go.RowKit
def i64v (n : Nat) : Value := .int .i64 (n : Int)
def bldC (R : Nat) (bv pv : Value) (A : Option Addr) (n c : Nat) (B : Option Addr) (m d : Nat) (e : Ent) (kv : Value) (N : Nat) : List Value :=
  [i64v R, bv, pv, .slice A n c, .int .i64 e.fam, .slice B m d, .int .i64 e.ts, .int .i64 e.seq, .int .i64 e.kind, .slice none 0 0, kv, i64v N]
structure BldM where
  B : Option Addr
  bc : Nat
  pv : Value
  A : Option Addr
  ac : Nat
  Q : Option Addr
  qc : Nat
  K : Option Addr
  kc : Nat
  e : Ent
def bldO (R g : Nat) (s : BSt) (m : BldM) : List Ob :=
  [boxO g (bldC R (.slice m.B s.body.length m.bc) m.pv m.A m.e.row.length m.ac m.Q m.e.qual.length m.qc m.e (.slice m.K s.key.length m.kc) s.n), bytO 5 (m.B, m.bc, s.body), rowO 3 1 m.pv s.places.length (s.places.map i64v), bytO 5 (m.A, m.ac, m.e.row), bytO 5 (m.Q, m.qc, m.e.qual), bytO 5 (m.K, m.kc, s.key)]
def lastE (L : List Ent) (e : Ent) : Prop := ∀ l, L.getLast? = some l → e = { l with val := [] }
def Bld (R : Nat) (L : List Ent) (g : Nat) (os : List Ob) : Prop := (1 ≤ R ∧ R ≤ 16) ∧ sizeS (runB R L) ≤ 131072 ∧ (runB R L).key.length ≤ 1000000 ∧ (∀ l, l ∈ L → checkE l = 0) ∧ ∃ m : BldM, os = bldO R g (runB R L) m ∧ lastE L m.e
def szB (R : Nat) (L : List Ent) : Nat := if L = [] then 0 else sizeS (runB R L)
theorem OW.addF9 {w x y : World} {os ps : List Ob} (h : OW w os x) (k : OW x ps y) : OW w (ps ++ os) y := (h.app k).perm List.perm_append_comm
def BeginP (R : Int) (w : World) (e : Ending) (w' : World) : Prop :=
  ((R < 1 ∨ 16 < R) ∧ e = .returned (.tuple #[.pointer none, .int .i64 1]) ∧ Below w.heap.size w w') ∨
  (1 ≤ R ∧ R ≤ 16 ∧ ∃ g os, e = .returned (.tuple #[.pointer (some ⟨g, 0, none⟩), .int .i64 0]) ∧ Bld R.toNat [] g os ∧ OW w os w')
set_option maxRecDepth 100000 in
theorem begin_any (R : Int) (w : World) : Calls Tryz.prog 28 #[.int .i64 R] w (BeginP R w) := by
  by_cases h1 : R < 1
  · have hd : decide (R < 1) = true := decide_eq_true h1
    go_enter Tryz.func28, Tryz.ntmps28
    go_wp2_with fail
    go_ret2
    exact .inl ⟨.inl h1, rfl, Below.refl _ _⟩
  have hd : decide (R < 1) = false := decide_eq_false h1
  by_cases h2 : 16 < R
  · have hd2 : decide (R > 16) = true := decide_eq_true h2
    go_enter Tryz.func28, Tryz.ntmps28
    go_wp2_with fail
    go_ret2
    exact .inl ⟨.inr h2, rfl, Below.refl _ _⟩
  have hd2 : decide (R > 16) = false := decide_eq_false h2
  obtain ⟨r, rfl⟩ : ∃ r : Nat, R = (r : Int) := ⟨R.toNat, by omega⟩
  have HX := Lib.hid (OW.nil w)
  go_enter Tryz.func28, Tryz.ntmps28
  go_wp2_with (refine wl_box rfl (.tmp 11) rfl (bldC r (.slice none 0 0) (.slice none 0 0) none 0 0 none 0 0 noEnt (.slice none 0 0) 0) rfl HX.out ?_; intro g x1 hz _; replace HX := Lib.hid hz; clear hz)
  go_ret2
  refine .inr ⟨by omega, by omega, g, _, rfl, ⟨⟨by rw [Int.toNat_natCast]; omega, by rw [Int.toNat_natCast]; omega⟩, (by show 9 ≤ 131072; decide), Nat.zero_le _, (fun l h => by cases h), ⟨none, 0, .slice none 0 0, none, 0, none, 0, none, 0, noEnt⟩, rfl, fun l h => by cases h⟩, ?_⟩
  have hn : ∀ {os : List Ob} {z : World}, OW w os z → ∀ T : TypeId, OW w (os ++ [rowO T 1 (.slice none 0 0) 0 []]) z := fun h T => h.app ⟨Below.refl _ _, fun o ho => by
    obtain rfl := List.mem_singleton.1 ho
    exact ⟨(fun e => nomatch e), fun _ => own_nil _ _ _ _⟩, List.pairwise_singleton _ _⟩
  have h := hn (hn (hn (hn (hn HX.out 5) 3) 5) 5) 5
  exact h
set_option maxRecDepth 100000 in
theorem size_any {w x : World} {R g : Nat} {L : List Ent} {os rest : List Ob} (hb : Bld R L g os) (h : OW w (os ++ rest) x) :
    Calls Tryz.prog 76 #[.pointer (some ⟨g, 0, none⟩)] x fun e x' => e = .returned (.int .i64 (szB R L : Nat)) ∧ Below x.heap.size x x' := by
  obtain ⟨_, hsz, _, _, m, rfl, _⟩ := hb
  have hc := h.cell (i := 0) (j := 11) rfl rfl
  have c1 := h.cell (i := 0) (j := 1) rfl rfl
  have c2 := h.cell (i := 0) (j := 2) rfl rfl
  obtain ⟨P, pc, hpv, _⟩ := own_slice (h.row (i := 2) rfl)
  rw [runB_n] at hc
  obtain ⟨N, hN⟩ : ∃ N, N = L.length := ⟨_, rfl⟩
  obtain ⟨bl, hbl⟩ : ∃ N, N = (runB R L).body.length := ⟨_, rfl⟩
  obtain ⟨pl, hpl⟩ : ∃ N, N = (runB R L).places.length := ⟨_, rfl⟩
  have hS : Hid (sizeS (runB R L) = bl + 4 * pl + 9) := Lib.hid (by unfold sizeS; rw [hbl, hpl])
  have hlim : bl + 4 * pl + 9 ≤ 131072 := by have := hS.out; omega
  rw [hpv, ← hpl] at c2
  rw [← hbl] at c1
  rw [← hN] at hc
  have hc : x.cell? ⟨g, 11, none⟩ = some (.int .i64 (N : Int)) := hc
  have HN := Lib.hid hN
  clear h hN hbl hpl hpv hsz
  by_cases h0 : N = 0
  · subst h0
    have HL : Hid (L = []) := Lib.hid (List.eq_nil_of_length_eq_zero HN.out.symm)
    go_enter Tryz.func76, Tryz.ntmps76
    go_wp2_with (refine wpList_load_cell rfl 3 (.tmp 5) rfl rfl hc (fun w => Tryz.isAgg3 w) ?_)
    go_ret
    exact ⟨by rw [show szB R L = 0 from if_pos HL.out]; rfl, Below.refl _ _⟩
  have HL : Hid (L ≠ []) := Lib.hid (fun e => h0 (by rw [HN.out, e]; rfl))
  have hd : ((N : Int) == 0) = false := beq_eq_false_iff_ne.2 (by omega)
  go_enter Tryz.func76, Tryz.ntmps76
  go_wp2_with (refine wpList_load_cell rfl 3 (.tmp 5) rfl rfl hc (fun w => Tryz.isAgg3 w) ?_)
  go_quiet (fail)
  have HW2 := Lib.hid (below_drewN (n := nq) (Below.refl x.heap.size x))
  clear hc c1 c2
  generalize x.drewN nq = w3 at *
  go_wp2
  go_ret
  refine ⟨?_, HW2.out⟩
  rw [show szB R L = bl + 4 * pl + 9 from (if_neg HL.out).trans hS.out]
  push_cast
  rfl
end Go.Proofs.YtmigjipfomfacaaGreatDoor
namespace Go.Proofs.YtmigjipfomfacaaGreatDoor
open Go.RowKit
set_option maxRecDepth 100000 in
set_option maxHeartbeats 400000 in
theorem sclone_any (l : List UInt8) (A : Option Addr) (n c : Nat) (w : World) (hn : n ≤ 140737488355328) (hA : A = none → c = 0) (hr : RB w w.heap.size A n l) :
    Calls Tryz.prog 75 #[.slice A n c] w (BytesPost 5 l w) := by
  have hl := hr.len
  have hnil := fun (w' : World) => Lib.run_eql_slice_nil (P := Tryz.prog) w' 22 5 A n c 0 0 Tryz.underlying22
  cases A with
  | none =>
    obtain rfl := hA rfl
    have hn0 : n = 0 := by
      rcases Nat.eq_zero_or_pos n with h0 | h0
      · exact h0
      · obtain ⟨_, _, e, _⟩ := hr.2 h0
        cases e
    subst hn0
    have H : Hid (BytesPost 5 l w (.returned (.slice none 0 0)) w) := Lib.hid (by
      have hl0 : l = [] := List.eq_nil_of_length_eq_zero hl
      subst hl0
      exact bytes_post (n := 0) (own_nil _ _ _ _) (Below.refl _ _))
    clear hr hl
    go_enter Tryz.func75, Tryz.ntmps75
    go_wp2
    go_ret
    exact H.out
  | some ad =>
    have O1 := Lib.hid (u8s_one l)
    have HO : Hid ((w.alloc (.cells #[] 5)).ownsRow w.heap.size 5 1 (.slice (some ⟨w.heap.size, 0, none⟩) 0 0) 0 []) := Lib.hid (World.ownsRow_made w #[] 0 (Nat.le_refl _) (by decide) rfl)
    have HR : Hid (RB (w.alloc (.cells #[] 5)) w.heap.size (some ad) n l) := Lib.hid (Reads.alloc hr (Nat.le_refl _) _)
    clear hr hA
    go_enter Tryz.func75, Tryz.ntmps75
    go_wp2_with (at_builtin; refine wpList_append_reads _ rfl (.tmp 5) (.tmp 6) rfl Tryz.u8s' w.heap.size (.slice (some ⟨w.heap.size, 0, none⟩) 0 0) 0 [] rfl HO.out w.heap.size (some ad) n c (u8s l) rfl HR.out O1.out (by unfold maxLen; omega) (by omega) (by simp) ?_; intro v1 w1 hown1 hg1 hat1)
    go_ret
    rw [List.nil_append] at hown1
    exact bytes_post hown1 (below_app ((Below.refl _ _).alloc (Nat.le_refl _) _) HO.out hg1 (by simp) (Nat.le_refl _))
end Go.Proofs.YtmigjipfomfacaaGreatDoor
namespace Go.Proofs.YtmigjipfomfacaaGreatDoor
open Go.RowKit
theorem setCells_chgo (g : Nat) (vs : List Value) : ∀ (o : Nat) (x : World), Chg (fun b => b = g) x (x.setCells g o vs) := fun o x => setCells_chg g vs o x
def midL (cs : List Value) (o : Nat) (vs : List Value) : List Value := cs.take o ++ vs ++ cs.drop (o + vs.length)
section
variable {w x y : World} {os os' ps : List Ob} {g o : Nat} {cs vs : List Value}
theorem rangeAt_part {b : Nat} (h : x.rangeAt b 0 cs) (k n : Nat) : x.rangeAt b k ((cs.drop k).take n) := fun j v hj => by
  rw [List.getElem?_take] at hj
  split at hj
  · rw [List.getElem?_drop] at hj
    have := h (k + j) v hj
    rwa [Nat.zero_add] at this
  · cases hj
theorem OW.part (h : OW w os x) {i : Nat} (hi : os[i]? = some (boxO g cs)) (k n : Nat) : x.rangeAt g k ((cs.drop k).take n) := rangeAt_part (h.range hi) k n
theorem OW.putAt (h : OW w os x) {i : Nat} (hi : os[i]? = some (boxO g cs)) (hl : o + vs.length ≤ cs.length) : OW w (os.set i (boxO g (midL cs o vs))) (x.setCells g o vs) := by
  obtain ⟨h1, h2, h3, h4⟩ := h.box hi
  have ht : x.there g o vs.length := fun j hj => ⟨by
    have := h3.isSome (o + j) (by omega)
    rwa [Nat.zero_add] at this, h4 _⟩
  refine h.putR hi (setCells_chgo g vs o x) (fun j v hj => ?_) fun q => World.frozen?_setCells _ _ _ _ _
  rw [Nat.zero_add]
  unfold midL at hj
  have lt : (cs.take o).length = o := by rw [List.length_take]; omega
  rcases Nat.lt_or_ge j o with h5 | h5
  · rw [List.append_assoc, List.getElem?_append_left (by omega), List.getElem?_take_of_lt h5] at hj
    have h6 : x.rangeAt g 0 (cs.take o) := fun q u hq => h3 q u (by
      rw [List.getElem?_take] at hq
      split at hq
      · exact hq
      · cases hq)
    have h7 := World.rangeAt_setCells_apart h6 g o vs (.inr (.inl (by omega)))
    have := h7 j v (by rw [List.getElem?_take_of_lt h5]; exact hj)
    rwa [Nat.zero_add] at this
  · rcases Nat.lt_or_ge j (o + vs.length) with h6 | h6
    · rw [List.getElem?_append_left (by rw [List.length_append]; omega), List.getElem?_append_right (by omega), lt] at hj
      have h7 := World.rangeAt_setCells_same x g o vs ht (j - o) v hj
      rwa [show o + (j - o) = j from by omega] at h7
    · rw [List.getElem?_append_right (by rw [List.length_append]; omega), List.length_append, lt, List.getElem?_drop] at hj
      have h8 : x.rangeAt g (o + vs.length) (cs.drop (o + vs.length)) := fun q u hq => by
        rw [List.getElem?_drop] at hq
        have := h3 _ u hq
        rwa [Nat.zero_add] at this
      have h7 := World.rangeAt_setCells_apart h8 g o vs (.inr (.inr (Nat.le_refl _)))
      have := h7 (j - (o + vs.length)) v (by rw [List.getElem?_drop]; exact hj)
      rwa [show o + vs.length + (j - (o + vs.length)) = j from by omega] at this
end
section
variable {P : Program} {ops : Array Oper} {Q : Exit → Act → World → Prop} {K : Act → World → Prop} {rest : List Oper} {o : Oper} {a : Act} {w x : World} {os : List Ob}
theorem wp_load_at {ty : TypeId} {y : Operand} (ho : o.op = .load ty y) {g k : Nat} {cs : List Value} (hx : a.eval y = .pointer (some ⟨g, k, none⟩)) (hr : w.rangeAt g k cs) (ht : RowTy P ty cs.length)
    (hK : K (a.put o.dst (.agg cs.toArray)) w) : o.wp P a w K Q := by
  obtain ⟨⟨d, hu, hd⟩, hi⟩ := ht
  exact wp_load_mid ty y ho g k hx cs d hr hu hd hi hK
theorem wpList_load_at (hgd : Region.wanted o (yielded ops a.tmps) = true) (ty : TypeId) (y : Operand) (ho : o.op = .load ty y) {g k : Nat} {cs : List Value} (hx : a.eval y = .pointer (some ⟨g, k, none⟩)) (hr : w.rangeAt g k cs) (ht : RowTy P ty cs.length)
    (hK : wpList P ops Q rest (a.put o.dst (.agg cs.toArray)) w) : wpList P ops Q (o :: rest) a w :=
  BigFrame.wpList_want hgd fun _ h => wp_load_at ho hx hr ht (h _ _ hK)
theorem wpo_putAt {t : TypeId} {p y : Operand} (ho : o.op = .store t p y) (h : OW w os x) (i : Nat) {g k : Nat} {cs : List Value} (hi : os[i]? = some (boxO g cs)) (hx : a.eval p = .pointer (some ⟨g, k, none⟩)) (vs : List Value) (hy : a.eval y = .agg vs.toArray) (hl : k + vs.length ≤ cs.length) (ht : (P.info? t).map (·.size) = some vs.length) (h1 : ∀ u ∈ vs, u.oneCell' = true)
    (hK : ∀ z, OW w (os.set i (boxO g (midL cs k vs))) z → Chg (fun b => b = g) x z → K (a.put o.dst undef) z) : o.wp P a x K Q :=
  wp_store_mid t p y ho g k vs.toArray hx hy (fun j hj => ⟨by
    have := (h.range hi).isSome (k + j) (by simp at hj; omega)
    rwa [Nat.zero_add] at this, h.fz hi _⟩) (by simpa using ht) (all_oneCell_toArray h1) (hK _ (h.putAt hi hl) (setCells_chgo g vs k x))
theorem wl_putAt {t : TypeId} (hgd : Region.wanted o (yielded ops a.tmps) = true) (p y : Operand) (ho : o.op = .store t p y) (h : OW w os x) (i : Nat) {g k : Nat} {cs : List Value} (hi : os[i]? = some (boxO g cs)) (hx : a.eval p = .pointer (some ⟨g, k, none⟩)) (vs : List Value) (hy : a.eval y = .agg vs.toArray) (hl : k + vs.length ≤ cs.length) (ht : (P.info? t).map (·.size) = some vs.length) (h1 : ∀ u ∈ vs, u.oneCell' = true)
    (hK : ∀ z, OW w (os.set i (boxO g (midL cs k vs))) z → Chg (fun b => b = g) x z → wpList P ops Q rest (a.put o.dst undef) z) : wpList P ops Q (o :: rest) a x :=
  BigFrame.wpList_want hgd fun _ hk => wpo_putAt ho h i hi hx vs hy hl ht h1 fun z hz hc => hk _ _ (hK z hz hc)
end
end Go.Proofs.YtmigjipfomfacaaGreatDoor
namespace Go.Proofs.YtmigjipfomfacaaGreatDoor
open Go.RowKit
theorem bytO_app (T : TypeId) (A : Option Addr) (c n m : Nat) (l r : List UInt8) (hn : l.length = n) (hm : r.length = m) : rowO T 1 (.slice A (n + m) c) (n + m) (u8s l ++ u8s r) = bytO T (A, c, l ++ r) := by
  subst hn; subst hm
  unfold bytO rowO
  simp [u8s]
section
variable {P : Program} {ops : Array Oper} {Q : Exit → Act → World → Prop} {K : Act → World → Prop} {rest : List Oper} {o : Oper} {a : Act} {w x : World} {os : List Ob}
theorem wpo_appB {t e : TypeId} (s y : Operand) (ho : o.op = .call { callee := .builtin .append, args := #[s, y], argTypes := #[t, t] }) (hS : SliceOf P t e 1 1) (h : OW w os x) (i : Nat) {A : Option Addr} {c n : Nat} {l : List UInt8} (hi : os[i]? = some (bytO e (A, c, l))) (hn : l.length = n) (hs : a.eval s = .slice A n c)
    (B : Nat) (A2 : Option Addr) (m c2 : Nat) (r : List UInt8) (hy : a.eval y = .slice A2 m c2) (hr : RB x B A2 m r) (hb : n + m ≤ 140737488355328)
    (hK : ∀ A' c' z, OW w (os.set i (bytO e (A', c', l ++ r))) z → x.grownBy z (Value.slice A n c).ownBlock → K (a.put o.dst (.slice A' (n + m) c')) z) : o.wp P a x K Q := by
  subst hn
  refine wpo_append s y ho hS h i (v := .slice A l.length c) (n := l.length) (cs := u8s l) hi hs B A2 m c2 (u8s r) hy hr (u8s_one r) (by unfold maxLen; omega) (by omega) fun A' c' z hz hg => hK A' c' z ?_ hg
  rw [bytO_app e A' c' _ m l r rfl hr.len] at hz
  exact hz
theorem wl_appB {t e : TypeId} (hgd : Region.wanted o (yielded ops a.tmps) = true) (s y : Operand) (ho : o.op = .call { callee := .builtin .append, args := #[s, y], argTypes := #[t, t] }) (hS : SliceOf P t e 1 1) (h : OW w os x) (i : Nat) {A : Option Addr} {c n : Nat} {l : List UInt8} (hi : os[i]? = some (bytO e (A, c, l))) (hn : l.length = n) (hs : a.eval s = .slice A n c)
    (B : Nat) (A2 : Option Addr) (m c2 : Nat) (r : List UInt8) (hy : a.eval y = .slice A2 m c2) (hr : RB x B A2 m r) (hb : n + m ≤ 140737488355328)
    (hK : ∀ A' c' z, OW w (os.set i (bytO e (A', c', l ++ r))) z → wpList P ops Q rest (a.put o.dst (.slice A' (n + m) c')) z) : wpList P ops Q (o :: rest) a x :=
  BigFrame.wpList_want hgd fun _ hk => wpo_appB s y ho hS h i hi hn hs B A2 m c2 r hy hr hb fun A' c' z hz _ => hk _ _ (hK A' c' z hz)
theorem wl_make0 {t e : TypeId} {size bytes : Nat} (hg : o.guard = none) (l c : Operand) (hop : o.op = Op.makeSlice t l c) (hS : SliceOf P t e size bytes) (n : Nat) (C : Int) (hl : a.eval l = .int .i64 0) (hc : a.eval c = .int .i64 C) (hC : C = (n : Int)) (b2 : bytes * n ≤ 281474976710656) (b3 : n ≤ maxLen) (h : OW w os x)
    (hK : ∀ g z, OW w (os ++ [rowO e size (.slice (some ⟨g, 0, none⟩) 0 n) 0 []]) z → Below x.heap.size x z → wpList P ops Q rest (a.put o.dst (.slice (some ⟨g, 0, none⟩) 0 n)) z) : wpList P ops Q (o :: rest) a x := by
  obtain ⟨ht, ⟨i, z, hi, hz, hsz, hby, _⟩, _⟩ := hS
  subst hby
  refine wpList_make_own x hg l c t hop x.heap.size e i z size ht hi hz hsz .i64 .i64 C n hl hc hC b2 b3 (Nat.le_refl _) fun w' ho hgr => ?_
  have hb := below_grown_none hgr
  exact hK _ _ (h.app (OW.row1 hb ho)) hb
end
theorem OW.nilRow {w x : World} {os : List Ob} (h : OW w os x) (T : TypeId) (sz : Nat) : OW w (os ++ [rowO T sz (.slice none 0 0) 0 []]) x := h.app ⟨Below.refl _ _, fun o ho => by
  obtain rfl := List.mem_singleton.1 ho
  exact ⟨(fun e => nomatch e), fun _ => own_nil _ _ _ _⟩, List.pairwise_singleton _ _⟩
theorem OW.nilB {w x : World} {os : List Ob} (h : OW w os x) (T : TypeId) : OW w (os ++ [bytO T (none, 0, [])]) x := h.nilRow T 1
theorem OW.bytes2 {w y : World} {T : TypeId} {A : Option Addr} {c : Nat} {l l' : List UInt8} {v : Value} {k k' : Int} {n : Nat} (h : OW w [bytO T (A, c, l)] y) (hl : l = l') (hn : l.length = n) (hk : k = k') (hv : v = .slice A n c) : BytesPost2 T l' k' w (.returned (.tuple #[v, .int .i64 k])) y := by
  subst hl; subst hk; subst hn; subst hv
  exact ⟨A, c, rfl, h.byt (i := 0) rfl, h.up⟩
theorem OW.bytes1 {w y : World} {T : TypeId} {A : Option Addr} {c : Nat} {l l' : List UInt8} {v : Value} {n : Nat} (h : OW w [bytO T (A, c, l)] y) (hl : l = l') (hn : l.length = n) (hv : v = .slice A n c) : BytesPost T l' w (.returned v) y := by
  subst hl; subst hn; subst hv
  exact ⟨A, c, rfl, h.byt (i := 0) rfl, h.up⟩
end Go.Proofs.YtmigjipfomfacaaGreatDoor
