/-
  Laid together by merge.py: CellR6, CellP4, CellW9, Kit15, CellL1, CellL2, CellR7, CellW7, CellR5, CellL3, CellL5, Kit16, CellL6, CellL7, Kit17, Kit18, Kit19, CellL8, Kit20, CellL9.
-/
import Derived.Test.YtcikhlieaoanoaaCm3
import Derived.Deep.DeepCutAuto
import Derived.Test.YtcikhlieaoanoaaCm1
import Derived.Test.YtcikhlieaoanoaaCm2
import Derived.Lib.SlBytesConst
import Derived.StillTailTactics
import Derived.Deep.RegionHeld3
import Derived.Deep.MidRow

/-
  strataref2.Unpack walked. (Printed by gen_unpack.py.)
-/
namespace Go.Proofs.Ytcikhlieaoanoaa
open Go.RowKit

set_option maxRecDepth 100000 in
set_option maxHeartbeats 2000000 in
theorem ru_u1 (b : List UInt8) (A : Option Addr) (n c : Nat) (a : Int) (w : World) (hs : Sl w A n c b) (hn : n ≤ 140737488355000) (ha : 0 ≤ a ∧ a ≤ (n : Int)) (K : List UInt8) (p er : Nat) (h1 : readBy b a 1048 = (K, p, er)) (he : er ≠ 0) :
    Calls Try.prog 38 #[.slice A n c, .int .i64 a] w (EntPost (fun v => .tuple #[v, .int .i64 0, .int .i64 (er : Int)]) noEnt w) := by
  have HS : Hid (∀ x, Below w.heap.size w x → Sl x A n c b) := Lib.hid fun x h => hs.later h
  have HX0 := Lib.hid (Bt.of (T := 5) (Bxs.two w 27 #[.slice none 0 0, .int .i64 0, .slice none 0 0, .int .i64 0, .int .i64 0, .int .i64 0, .slice none 0 0] #[.slice none 0 0, .int .i64 0, .slice none 0 0, .int .i64 0, .int .i64 0, .int .i64 0, .slice none 0 0]))
  have da0 : decide (a < 0) = false := decide_eq_false (by omega)
  have da1 : decide ((n : Int) < a) = false := decide_eq_false (by omega)
  have H1 := Lib.hid h1
  have hd : ((er : Int) != 0) = true := by rw [bne_iff_ne]; omega
  clear hs ha h1 he
  go_enter Try.func38, Try.ntmps38
  go_wp2_with (go_at_call 65; go_must (refine (rRby_any b A n c a 1048 _ (HS.out _ HX0.out.box.up) (by omega) (by omega)).mono ?_); rw [H1.out]; rintro e x1 hp; obtain ⟨A1, c1, rfl, _, hO1, hb1⟩ := hp.at_ (n := K.length) rfl rfl rfl; have HX1 := Lib.hid (HX0.out.fresh hb1 hO1); clear hb1 hp hO1; have z0 := HX1.out.box.c0 (i := 0) (v := .slice none 0 0) rfl rfl; have z1 := HX1.out.box.c0 (i := 1) (v := .int .i64 0) rfl rfl; have z2 := HX1.out.box.c0 (i := 2) (v := .slice none 0 0) rfl rfl; have z3 := HX1.out.box.c0 (i := 3) (v := .int .i64 0) rfl rfl; have z4 := HX1.out.box.c0 (i := 4) (v := .int .i64 0) rfl rfl; have z5 := HX1.out.box.c0 (i := 5) (v := .int .i64 0) rfl rfl; have z6 := HX1.out.box.c0 (i := 6) (v := .slice none 0 0) rfl rfl; have n0 := HX1.out.box.c1 (i := 0) (v := .slice none 0 0) rfl rfl; have n1 := HX1.out.box.c1 (i := 1) (v := .int .i64 0) rfl rfl; have n2 := HX1.out.box.c1 (i := 2) (v := .slice none 0 0) rfl rfl; have n3 := HX1.out.box.c1 (i := 3) (v := .int .i64 0) rfl rfl; have n4 := HX1.out.box.c1 (i := 4) (v := .int .i64 0) rfl rfl; have n5 := HX1.out.box.c1 (i := 5) (v := .int .i64 0) rfl rfl; have n6 := HX1.out.box.c1 (i := 6) (v := .slice none 0 0) rfl rfl; have fz := HX1.out.box.f0 rfl)
  (try simp only [Exit.inBlock, Exit.then])
  have HR := Lib.hid (HX1.out.fill7 rfl (.slice none 0 0) (.int .i64 0) (.slice none 0 0) (.int .i64 0) (.int .i64 0) (.int .i64 0) (.slice none 0 0))
  refine bodyPost_ret (results_box2 rfl _ _ w.heap.size _ rfl (HR.out.box.cells0 rfl) (by kernel_rfl) (by kernel_rfl)) rfl ?_
  exact ent_none (mk := fun v => .tuple #[v, .int .i64 0, .int .i64 (er : Int)]) HR.out.box.up

set_option maxRecDepth 100000 in
set_option maxHeartbeats 2000000 in
theorem ru_u2 (b : List UInt8) (A : Option Addr) (n c : Nat) (a : Int) (w : World) (hs : Sl w A n c b) (hn : n ≤ 140737488355000) (ha : 0 ≤ a ∧ a ≤ (n : Int)) (K : List UInt8) (p : Nat) (hkl : K.length ≤ 1048) (h1 : readBy b a 1048 = (K, p, 0)) (E : Ent) (z : Int) (hz : z ≠ 0) (hpk : ParseKeyE K = (E, z)) :
    Calls Try.prog 38 #[.slice A n c, .int .i64 a] w (EntPost (fun v => .tuple #[v, .int .i64 0, .int .i64 29]) noEnt w) := by
  have HS : Hid (∀ x, Below w.heap.size w x → Sl x A n c b) := Lib.hid fun x h => hs.later h
  have HX0 := Lib.hid (Bt.of (T := 5) (Bxs.two w 27 #[.slice none 0 0, .int .i64 0, .slice none 0 0, .int .i64 0, .int .i64 0, .int .i64 0, .slice none 0 0] #[.slice none 0 0, .int .i64 0, .slice none 0 0, .int .i64 0, .int .i64 0, .int .i64 0, .slice none 0 0]))
  have da0 : decide (a < 0) = false := decide_eq_false (by omega)
  have da1 : decide ((n : Int) < a) = false := decide_eq_false (by omega)
  have H1 := Lib.hid h1
  have HPK := Lib.hid hpk
  have HKL := Lib.hid hkl
  have hd : (z != 0) = true := by rw [bne_iff_ne]; exact hz
  clear hs ha h1 hpk hkl hz
  go_enter Try.func38, Try.ntmps38
  go_upto_if 40 with (first
    | (go_at_call 65; go_must (refine (rRby_any b A n c a 1048 _ (HS.out _ HX0.out.box.up) (by omega) (by omega)).mono ?_); rw [H1.out]; rintro e x1 hp; obtain ⟨A1, c1, rfl, _, hO1, hb1⟩ := hp.at_ (n := K.length) rfl rfl rfl; have HX1 := Lib.hid (HX0.out.fresh hb1 hO1); clear hb1 hp hO1)
    | (go_at_call 16; go_must (refine (rparsekey_any K A1 K.length c1 _ (HX1.out.rows.sl (i := 0) rfl) (by have := HKL.out; omega)).mono ?_); rw [HPK.out]; rintro e x2 ⟨B1, d1, B2, d2, D, q, rfl, hr2, hb2⟩; have HX2 := Lib.hid (HX1.out.freshR hb2 hr2); clear hb2 hr2))
  have HX3 := Lib.hid (HX2.out.alloc (.cells #[.slice B1 E.row.length d1, .int .i64 E.fam, .slice B2 E.qual.length d2, .int .i64 E.ts, .int .i64 E.seq, .int .i64 E.kind, .slice D E.val.length q] 27))
  clear HX1 HX2
  generalize x2.alloc (.cells #[.slice B1 E.row.length d1, .int .i64 E.fam, .slice B2 E.qual.length d2, .int .i64 E.ts, .int .i64 E.seq, .int .i64 E.kind, .slice D E.val.length q] 27) = x3 at HX3 ⊢
  have z0 := HX3.out.box.c0 (i := 0) (v := .slice none 0 0) rfl rfl; have z1 := HX3.out.box.c0 (i := 1) (v := .int .i64 0) rfl rfl; have z2 := HX3.out.box.c0 (i := 2) (v := .slice none 0 0) rfl rfl; have z3 := HX3.out.box.c0 (i := 3) (v := .int .i64 0) rfl rfl; have z4 := HX3.out.box.c0 (i := 4) (v := .int .i64 0) rfl rfl; have z5 := HX3.out.box.c0 (i := 5) (v := .int .i64 0) rfl rfl; have z6 := HX3.out.box.c0 (i := 6) (v := .slice none 0 0) rfl rfl; have n0 := HX3.out.box.c1 (i := 0) (v := .slice none 0 0) rfl rfl; have n1 := HX3.out.box.c1 (i := 1) (v := .int .i64 0) rfl rfl; have n2 := HX3.out.box.c1 (i := 2) (v := .slice none 0 0) rfl rfl; have n3 := HX3.out.box.c1 (i := 3) (v := .int .i64 0) rfl rfl; have n4 := HX3.out.box.c1 (i := 4) (v := .int .i64 0) rfl rfl; have n5 := HX3.out.box.c1 (i := 5) (v := .int .i64 0) rfl rfl; have n6 := HX3.out.box.c1 (i := 6) (v := .slice none 0 0) rfl rfl; have fz := HX3.out.box.f0 rfl
  go_wp2_with fail
  (try simp only [Exit.inBlock, Exit.then])
  have HR := Lib.hid (HX3.out.fill7 rfl (.slice none 0 0) (.int .i64 0) (.slice none 0 0) (.int .i64 0) (.int .i64 0) (.int .i64 0) (.slice none 0 0))
  refine bodyPost_ret (results_box2 rfl _ _ w.heap.size _ rfl (HR.out.box.cells0 rfl) (by kernel_rfl) (by kernel_rfl)) rfl ?_
  exact ent_none (mk := fun v => .tuple #[v, .int .i64 0, .int .i64 29]) HR.out.box.up

set_option maxRecDepth 100000 in
set_option maxHeartbeats 2000000 in
theorem ru_u3 (b : List UInt8) (A : Option Addr) (n c : Nat) (a : Int) (w : World) (hs : Sl w A n c b) (hn : n ≤ 140737488355000) (ha : 0 ≤ a ∧ a ≤ (n : Int)) (K : List UInt8) (p : Nat) (hkl : K.length ≤ 1048) (h1 : readBy b a 1048 = (K, p, 0)) (E : Ent) (hpk : ParseKeyE K = (E, 0)) (V : List UInt8) (p2 : Nat) (er : Nat) (h3 : readBy b (p : Int) 4096 = (V, p2, er)) (he : er ≠ 0) :
    Calls Try.prog 38 #[.slice A n c, .int .i64 a] w (EntPost (fun v => .tuple #[v, .int .i64 0, .int .i64 (er : Int)]) noEnt w) := by
  have HS : Hid (∀ x, Below w.heap.size w x → Sl x A n c b) := Lib.hid fun x h => hs.later h
  have HX0 := Lib.hid (Bt.of (T := 5) (Bxs.two w 27 #[.slice none 0 0, .int .i64 0, .slice none 0 0, .int .i64 0, .int .i64 0, .int .i64 0, .slice none 0 0] #[.slice none 0 0, .int .i64 0, .slice none 0 0, .int .i64 0, .int .i64 0, .int .i64 0, .slice none 0 0]))
  have da0 : decide (a < 0) = false := decide_eq_false (by omega)
  have da1 : decide ((n : Int) < a) = false := decide_eq_false (by omega)
  have H1 := Lib.hid h1
  have H3 := Lib.hid h3
  have HPK := Lib.hid hpk
  have HKL := Lib.hid hkl
  have hd : ((er : Int) != 0) = true := by rw [bne_iff_ne]; omega
  clear hs ha h1 h3 hpk hkl he
  have tB : True := trivial
  go_enter Try.func38, Try.ntmps38
  go_wp2_with (first
    | (go_at_call 65; have _t := tB; go_must (refine (rRby_any b A n c a 1048 _ (HS.out _ HX0.out.box.up) (by omega) (by omega)).mono ?_); rw [H1.out]; rintro e x1 hp; obtain ⟨A1, c1, rfl, _, hO1, hb1⟩ := hp.at_ (n := K.length) rfl rfl rfl; have HX1 := Lib.hid (HX0.out.fresh hb1 hO1); clear hb1 hp hO1 tB)
    | (go_at_call 16; go_must (refine (rparsekey_any K A1 K.length c1 _ (HX1.out.rows.sl (i := 0) rfl) (by have := HKL.out; omega)).mono ?_); rw [HPK.out]; rintro e x2 ⟨B1, d1, B2, d2, D, q, rfl, hr2, hb2⟩; have HX2 := Lib.hid (HX1.out.freshR hb2 hr2); clear hb2 hr2)
    | (go_at_call 65; go_must (refine (rRby_any b A n c _ 4096 _ (HS.out _ (HX2.out.alloc (.cells #[.slice B1 E.row.length d1, .int .i64 E.fam, .slice B2 E.qual.length d2, .int .i64 E.ts, .int .i64 E.seq, .int .i64 E.kind, .slice D E.val.length q] 27)).box.up) (by omega) (by omega)).mono ?_); rw [H3.out]; rintro e x3 hp; obtain ⟨A5, c5, rfl, _, hO5, hb5⟩ := hp.at_ (n := V.length) rfl rfl rfl; have HX3 := Lib.hid ((HX2.out.alloc (.cells #[.slice B1 E.row.length d1, .int .i64 E.fam, .slice B2 E.qual.length d2, .int .i64 E.ts, .int .i64 E.seq, .int .i64 E.kind, .slice D E.val.length q] 27)).fresh hb5 hO5); have HY3 := Lib.hid ((Bxs.one x2 27 #[.slice B1 E.row.length d1, .int .i64 E.fam, .slice B2 E.qual.length d2, .int .i64 E.ts, .int .i64 E.seq, .int .i64 E.kind, .slice D E.val.length q]).later hb5); have HO5 := Lib.hid hO5; clear hb5 hp hO5; have z0 := HX3.out.box.c0 (i := 0) (v := .slice none 0 0) rfl rfl; have z1 := HX3.out.box.c0 (i := 1) (v := .int .i64 0) rfl rfl; have z2 := HX3.out.box.c0 (i := 2) (v := .slice none 0 0) rfl rfl; have z3 := HX3.out.box.c0 (i := 3) (v := .int .i64 0) rfl rfl; have z4 := HX3.out.box.c0 (i := 4) (v := .int .i64 0) rfl rfl; have z5 := HX3.out.box.c0 (i := 5) (v := .int .i64 0) rfl rfl; have z6 := HX3.out.box.c0 (i := 6) (v := .slice none 0 0) rfl rfl; have n0 := HX3.out.box.c1 (i := 0) (v := .slice none 0 0) rfl rfl; have n1 := HX3.out.box.c1 (i := 1) (v := .int .i64 0) rfl rfl; have n2 := HX3.out.box.c1 (i := 2) (v := .slice none 0 0) rfl rfl; have n3 := HX3.out.box.c1 (i := 3) (v := .int .i64 0) rfl rfl; have n4 := HX3.out.box.c1 (i := 4) (v := .int .i64 0) rfl rfl; have n5 := HX3.out.box.c1 (i := 5) (v := .int .i64 0) rfl rfl; have n6 := HX3.out.box.c1 (i := 6) (v := .slice none 0 0) rfl rfl; have fz := HX3.out.box.f0 rfl; have y0 := HY3.out.c0 (i := 0) (v := .slice B1 E.row.length d1) rfl rfl; have y1 := HY3.out.c0 (i := 1) (v := .int .i64 E.fam) rfl rfl; have y2 := HY3.out.c0 (i := 2) (v := .slice B2 E.qual.length d2) rfl rfl; have y3 := HY3.out.c0 (i := 3) (v := .int .i64 E.ts) rfl rfl; have y4 := HY3.out.c0 (i := 4) (v := .int .i64 E.seq) rfl rfl; have y5 := HY3.out.c0 (i := 5) (v := .int .i64 E.kind) rfl rfl; have y6 := HY3.out.c0 (i := 6) (v := .slice D E.val.length q) rfl rfl; have fy := HY3.out.f0 rfl; have hlt : w.heap.size < x2.heap.size := Nat.lt_of_lt_of_le (Nat.lt_of_lt_of_le (Nat.lt_succ_self _) (by simp)) HX2.out.box.size; have hlt2 : w.heap.size + 1 < x2.heap.size := Nat.lt_of_lt_of_le (Nat.lt_succ_self _) HX2.out.box.size))
  (try simp only [Exit.inBlock, Exit.then])
  have HR := Lib.hid (HX3.out.fill7 rfl (.slice none 0 0) (.int .i64 0) (.slice none 0 0) (.int .i64 0) (.int .i64 0) (.int .i64 0) (.slice none 0 0))
  refine bodyPost_ret (results_box2 rfl _ _ w.heap.size _ rfl (HR.out.box.cells0 rfl) (by kernel_rfl) (by kernel_rfl)) rfl ?_
  exact ent_none (mk := fun v => .tuple #[v, .int .i64 0, .int .i64 (er : Int)]) HR.out.box.up

set_option maxRecDepth 100000 in
set_option maxHeartbeats 2000000 in
theorem ru_u4 (b : List UInt8) (A : Option Addr) (n c : Nat) (a : Int) (w : World) (hs : Sl w A n c b) (hn : n ≤ 140737488355000) (ha : 0 ≤ a ∧ a ≤ (n : Int)) (K : List UInt8) (p : Nat) (hkl : K.length ≤ 1048) (h1 : readBy b a 1048 = (K, p, 0)) (E : Ent) (hpk : ParseKeyE K = (E, 0)) (V : List UInt8) (p2 : Nat) (h3 : readBy b (p : Int) 4096 = (V, p2, 0)) (hvl : V.length ≤ 4096) (hkd : E.kind ≠ 1) (hv : 0 < V.length) :
    Calls Try.prog 38 #[.slice A n c, .int .i64 a] w (EntPost (fun v => .tuple #[v, .int .i64 0, .int .i64 29]) noEnt w) := by
  have HS : Hid (∀ x, Below w.heap.size w x → Sl x A n c b) := Lib.hid fun x h => hs.later h
  have HX0 := Lib.hid (Bt.of (T := 5) (Bxs.two w 27 #[.slice none 0 0, .int .i64 0, .slice none 0 0, .int .i64 0, .int .i64 0, .int .i64 0, .slice none 0 0] #[.slice none 0 0, .int .i64 0, .slice none 0 0, .int .i64 0, .int .i64 0, .int .i64 0, .slice none 0 0]))
  have da0 : decide (a < 0) = false := decide_eq_false (by omega)
  have da1 : decide ((n : Int) < a) = false := decide_eq_false (by omega)
  have H1 := Lib.hid h1
  have H3 := Lib.hid h3
  have HPK := Lib.hid hpk
  have HKL := Lib.hid hkl
  have hd1 : (E.kind != 1) = true := by rw [bne_iff_ne]; exact hkd
  have hd2 : decide (0 < V.length) = true := decide_eq_true hv
  have hd3 : decide ((0 : Int) < (V.length : Int)) = true := decide_eq_true (by omega)
  clear hs ha h1 h3 hpk hkl hkd hv hvl
  have tB : True := trivial
  go_enter Try.func38, Try.ntmps38
  go_wp2_with (first
    | (go_at_call 65; have _t := tB; go_must (refine (rRby_any b A n c a 1048 _ (HS.out _ HX0.out.box.up) (by omega) (by omega)).mono ?_); rw [H1.out]; rintro e x1 hp; obtain ⟨A1, c1, rfl, _, hO1, hb1⟩ := hp.at_ (n := K.length) rfl rfl rfl; have HX1 := Lib.hid (HX0.out.fresh hb1 hO1); clear hb1 hp hO1 tB)
    | (go_at_call 16; go_must (refine (rparsekey_any K A1 K.length c1 _ (HX1.out.rows.sl (i := 0) rfl) (by have := HKL.out; omega)).mono ?_); rw [HPK.out]; rintro e x2 ⟨B1, d1, B2, d2, D, q, rfl, hr2, hb2⟩; have HX2 := Lib.hid (HX1.out.freshR hb2 hr2); clear hb2 hr2)
    | (go_at_call 65; go_must (refine (rRby_any b A n c _ 4096 _ (HS.out _ (HX2.out.alloc (.cells #[.slice B1 E.row.length d1, .int .i64 E.fam, .slice B2 E.qual.length d2, .int .i64 E.ts, .int .i64 E.seq, .int .i64 E.kind, .slice D E.val.length q] 27)).box.up) (by omega) (by omega)).mono ?_); rw [H3.out]; rintro e x3 hp; obtain ⟨A5, c5, rfl, _, hO5, hb5⟩ := hp.at_ (n := V.length) rfl rfl rfl; have HX3 := Lib.hid ((HX2.out.alloc (.cells #[.slice B1 E.row.length d1, .int .i64 E.fam, .slice B2 E.qual.length d2, .int .i64 E.ts, .int .i64 E.seq, .int .i64 E.kind, .slice D E.val.length q] 27)).fresh hb5 hO5); have HY3 := Lib.hid ((Bxs.one x2 27 #[.slice B1 E.row.length d1, .int .i64 E.fam, .slice B2 E.qual.length d2, .int .i64 E.ts, .int .i64 E.seq, .int .i64 E.kind, .slice D E.val.length q]).later hb5); have HO5 := Lib.hid hO5; clear hb5 hp hO5; have z0 := HX3.out.box.c0 (i := 0) (v := .slice none 0 0) rfl rfl; have z1 := HX3.out.box.c0 (i := 1) (v := .int .i64 0) rfl rfl; have z2 := HX3.out.box.c0 (i := 2) (v := .slice none 0 0) rfl rfl; have z3 := HX3.out.box.c0 (i := 3) (v := .int .i64 0) rfl rfl; have z4 := HX3.out.box.c0 (i := 4) (v := .int .i64 0) rfl rfl; have z5 := HX3.out.box.c0 (i := 5) (v := .int .i64 0) rfl rfl; have z6 := HX3.out.box.c0 (i := 6) (v := .slice none 0 0) rfl rfl; have n0 := HX3.out.box.c1 (i := 0) (v := .slice none 0 0) rfl rfl; have n1 := HX3.out.box.c1 (i := 1) (v := .int .i64 0) rfl rfl; have n2 := HX3.out.box.c1 (i := 2) (v := .slice none 0 0) rfl rfl; have n3 := HX3.out.box.c1 (i := 3) (v := .int .i64 0) rfl rfl; have n4 := HX3.out.box.c1 (i := 4) (v := .int .i64 0) rfl rfl; have n5 := HX3.out.box.c1 (i := 5) (v := .int .i64 0) rfl rfl; have n6 := HX3.out.box.c1 (i := 6) (v := .slice none 0 0) rfl rfl; have fz := HX3.out.box.f0 rfl; have y0 := HY3.out.c0 (i := 0) (v := .slice B1 E.row.length d1) rfl rfl; have y1 := HY3.out.c0 (i := 1) (v := .int .i64 E.fam) rfl rfl; have y2 := HY3.out.c0 (i := 2) (v := .slice B2 E.qual.length d2) rfl rfl; have y3 := HY3.out.c0 (i := 3) (v := .int .i64 E.ts) rfl rfl; have y4 := HY3.out.c0 (i := 4) (v := .int .i64 E.seq) rfl rfl; have y5 := HY3.out.c0 (i := 5) (v := .int .i64 E.kind) rfl rfl; have y6 := HY3.out.c0 (i := 6) (v := .slice D E.val.length q) rfl rfl; have fy := HY3.out.f0 rfl; have hlt : w.heap.size < x2.heap.size := Nat.lt_of_lt_of_le (Nat.lt_of_lt_of_le (Nat.lt_succ_self _) (by simp)) HX2.out.box.size; have hlt2 : w.heap.size + 1 < x2.heap.size := Nat.lt_of_lt_of_le (Nat.lt_succ_self _) HX2.out.box.size))
  (try simp only [Exit.inBlock, Exit.then])
  have HR := Lib.hid (HX3.out.fill7 rfl (.slice none 0 0) (.int .i64 0) (.slice none 0 0) (.int .i64 0) (.int .i64 0) (.int .i64 0) (.slice none 0 0))
  refine bodyPost_ret (results_box2 rfl _ _ w.heap.size _ rfl (HR.out.box.cells0 rfl) (by kernel_rfl) (by kernel_rfl)) rfl ?_
  exact ent_none (mk := fun v => .tuple #[v, .int .i64 0, .int .i64 29]) HR.out.box.up

set_option maxRecDepth 100000 in
set_option maxHeartbeats 2000000 in
theorem ru_okA (b : List UInt8) (A : Option Addr) (n c : Nat) (a : Int) (w : World) (hs : Sl w A n c b) (hn : n ≤ 140737488355000) (ha : 0 ≤ a ∧ a ≤ (n : Int)) (K : List UInt8) (p : Nat) (hkl : K.length ≤ 1048) (h1 : readBy b a 1048 = (K, p, 0)) (E : Ent) (hpk : ParseKeyE K = (E, 0)) (V : List UInt8) (p2 : Nat) (h3 : readBy b (p : Int) 4096 = (V, p2, 0)) (hvl : V.length ≤ 4096) (hkd : E.kind = 1) (hv : 0 < V.length) :
    Calls Try.prog 38 #[.slice A n c, .int .i64 a] w (EntPost (fun v => .tuple #[v, .int .i64 (p2 : Int), .int .i64 0]) { E with val := V } w) := by
  have HS : Hid (∀ x, Below w.heap.size w x → Sl x A n c b) := Lib.hid fun x h => hs.later h
  have HX0 := Lib.hid (Bt.of (T := 5) (Bxs.two w 27 #[.slice none 0 0, .int .i64 0, .slice none 0 0, .int .i64 0, .int .i64 0, .int .i64 0, .slice none 0 0] #[.slice none 0 0, .int .i64 0, .slice none 0 0, .int .i64 0, .int .i64 0, .int .i64 0, .slice none 0 0]))
  have da0 : decide (a < 0) = false := decide_eq_false (by omega)
  have da1 : decide ((n : Int) < a) = false := decide_eq_false (by omega)
  have H1 := Lib.hid h1
  have H3 := Lib.hid h3
  have HPK := Lib.hid hpk
  have HKL := Lib.hid hkl
  have hd1 : (E.kind != 1) = false := by rw [bne_eq_false_iff_eq]; exact hkd
  have hd2 : decide (0 < V.length) = true := decide_eq_true hv
  have hd3 : decide ((0 : Int) < (V.length : Int)) = true := decide_eq_true (by omega)
  clear hs ha h1 h3 hpk hkl hkd hv hvl
  have tB : True := trivial
  go_enter Try.func38, Try.ntmps38
  go_wp2_with (first
    | (go_at_call 65; have _t := tB; go_must (refine (rRby_any b A n c a 1048 _ (HS.out _ HX0.out.box.up) (by omega) (by omega)).mono ?_); rw [H1.out]; rintro e x1 hp; obtain ⟨A1, c1, rfl, _, hO1, hb1⟩ := hp.at_ (n := K.length) rfl rfl rfl; have HX1 := Lib.hid (HX0.out.fresh hb1 hO1); clear hb1 hp hO1 tB)
    | (go_at_call 16; go_must (refine (rparsekey_any K A1 K.length c1 _ (HX1.out.rows.sl (i := 0) rfl) (by have := HKL.out; omega)).mono ?_); rw [HPK.out]; rintro e x2 ⟨B1, d1, B2, d2, D, q, rfl, hr2, hb2⟩; have HX2 := Lib.hid (HX1.out.freshR hb2 hr2); clear hb2 hr2)
    | (go_at_call 65; go_must (refine (rRby_any b A n c _ 4096 _ (HS.out _ (HX2.out.alloc (.cells #[.slice B1 E.row.length d1, .int .i64 E.fam, .slice B2 E.qual.length d2, .int .i64 E.ts, .int .i64 E.seq, .int .i64 E.kind, .slice D E.val.length q] 27)).box.up) (by omega) (by omega)).mono ?_); rw [H3.out]; rintro e x3 hp; obtain ⟨A5, c5, rfl, _, hO5, hb5⟩ := hp.at_ (n := V.length) rfl rfl rfl; have HX3 := Lib.hid ((HX2.out.alloc (.cells #[.slice B1 E.row.length d1, .int .i64 E.fam, .slice B2 E.qual.length d2, .int .i64 E.ts, .int .i64 E.seq, .int .i64 E.kind, .slice D E.val.length q] 27)).fresh hb5 hO5); have HY3 := Lib.hid ((Bxs.one x2 27 #[.slice B1 E.row.length d1, .int .i64 E.fam, .slice B2 E.qual.length d2, .int .i64 E.ts, .int .i64 E.seq, .int .i64 E.kind, .slice D E.val.length q]).later hb5); have HO5 := Lib.hid hO5; clear hb5 hp hO5; have z0 := HX3.out.box.c0 (i := 0) (v := .slice none 0 0) rfl rfl; have z1 := HX3.out.box.c0 (i := 1) (v := .int .i64 0) rfl rfl; have z2 := HX3.out.box.c0 (i := 2) (v := .slice none 0 0) rfl rfl; have z3 := HX3.out.box.c0 (i := 3) (v := .int .i64 0) rfl rfl; have z4 := HX3.out.box.c0 (i := 4) (v := .int .i64 0) rfl rfl; have z5 := HX3.out.box.c0 (i := 5) (v := .int .i64 0) rfl rfl; have z6 := HX3.out.box.c0 (i := 6) (v := .slice none 0 0) rfl rfl; have n0 := HX3.out.box.c1 (i := 0) (v := .slice none 0 0) rfl rfl; have n1 := HX3.out.box.c1 (i := 1) (v := .int .i64 0) rfl rfl; have n2 := HX3.out.box.c1 (i := 2) (v := .slice none 0 0) rfl rfl; have n3 := HX3.out.box.c1 (i := 3) (v := .int .i64 0) rfl rfl; have n4 := HX3.out.box.c1 (i := 4) (v := .int .i64 0) rfl rfl; have n5 := HX3.out.box.c1 (i := 5) (v := .int .i64 0) rfl rfl; have n6 := HX3.out.box.c1 (i := 6) (v := .slice none 0 0) rfl rfl; have fz := HX3.out.box.f0 rfl; have y0 := HY3.out.c0 (i := 0) (v := .slice B1 E.row.length d1) rfl rfl; have y1 := HY3.out.c0 (i := 1) (v := .int .i64 E.fam) rfl rfl; have y2 := HY3.out.c0 (i := 2) (v := .slice B2 E.qual.length d2) rfl rfl; have y3 := HY3.out.c0 (i := 3) (v := .int .i64 E.ts) rfl rfl; have y4 := HY3.out.c0 (i := 4) (v := .int .i64 E.seq) rfl rfl; have y5 := HY3.out.c0 (i := 5) (v := .int .i64 E.kind) rfl rfl; have y6 := HY3.out.c0 (i := 6) (v := .slice D E.val.length q) rfl rfl; have fy := HY3.out.f0 rfl; have hlt : w.heap.size < x2.heap.size := Nat.lt_of_lt_of_le (Nat.lt_of_lt_of_le (Nat.lt_succ_self _) (by simp)) HX2.out.box.size; have hlt2 : w.heap.size + 1 < x2.heap.size := Nat.lt_of_lt_of_le (Nat.lt_succ_self _) HX2.out.box.size))
  have HOFF := Lib.hid (rows_off HX2.out.rows (y := x3) (by have := HO5.out; rw [show (x2.alloc (.cells #[.slice B1 E.row.length d1, .int .i64 E.fam, .slice B2 E.qual.length d2, .int .i64 E.ts, .int .i64 E.seq, .int .i64 E.kind, .slice D E.val.length q] 27)).heap.size = x2.heap.size + 1 from by show (x2.heap.push _).size = _; simp] at this; exact this))
  (try simp only [Exit.inBlock, Exit.then])
  have HR := Lib.hid ((HX3.out.setAside x2.heap.size 6 (.slice A5 V.length c5) HX2.out.box.size HOFF.out).fill7 rfl (.slice B1 E.row.length d1) (.int .i64 E.fam) (.slice B2 E.qual.length d2) (.int .i64 E.ts) (.int .i64 E.seq) (.int .i64 E.kind) (.slice A5 V.length c5))
  refine bodyPost_ret (results_box2 rfl _ _ w.heap.size _ rfl (HR.out.box.cells0 rfl) (by kernel_rfl) (by kernel_rfl)) rfl ?_
  exact ⟨B1, d1, B2, d2, A5, c5, rfl, rows_low (rows_pick3 HR.out.rows) (Nat.le_add_right _ _), HR.out.box.up⟩

set_option maxRecDepth 100000 in
set_option maxHeartbeats 2000000 in
theorem ru_okB (b : List UInt8) (A : Option Addr) (n c : Nat) (a : Int) (w : World) (hs : Sl w A n c b) (hn : n ≤ 140737488355000) (ha : 0 ≤ a ∧ a ≤ (n : Int)) (K : List UInt8) (p : Nat) (hkl : K.length ≤ 1048) (h1 : readBy b a 1048 = (K, p, 0)) (E : Ent) (hpk : ParseKeyE K = (E, 0)) (V : List UInt8) (p2 : Nat) (h3 : readBy b (p : Int) 4096 = (V, p2, 0)) (_hvl : V.length ≤ 4096) (hkd : E.kind = 1) (hv : V.length = 0) :
    Calls Try.prog 38 #[.slice A n c, .int .i64 a] w (EntPost (fun v => .tuple #[v, .int .i64 (p2 : Int), .int .i64 0]) { E with val := V } w) := by
  have HS : Hid (∀ x, Below w.heap.size w x → Sl x A n c b) := Lib.hid fun x h => hs.later h
  have HX0 := Lib.hid (Bt.of (T := 5) (Bxs.two w 27 #[.slice none 0 0, .int .i64 0, .slice none 0 0, .int .i64 0, .int .i64 0, .int .i64 0, .slice none 0 0] #[.slice none 0 0, .int .i64 0, .slice none 0 0, .int .i64 0, .int .i64 0, .int .i64 0, .slice none 0 0]))
  have da0 : decide (a < 0) = false := decide_eq_false (by omega)
  have da1 : decide ((n : Int) < a) = false := decide_eq_false (by omega)
  have H1 := Lib.hid h1
  have H3 := Lib.hid h3
  have HPK := Lib.hid hpk
  have HKL := Lib.hid hkl
  have hd1 : (E.kind != 1) = false := by rw [bne_eq_false_iff_eq]; exact hkd
  have hd2 : decide (0 < V.length) = false := decide_eq_false (by omega)
  have hd3 : decide ((0 : Int) < (V.length : Int)) = false := decide_eq_false (by omega)
  clear hs ha h1 h3 hpk hkl hkd hv _hvl
  have tB : True := trivial
  go_enter Try.func38, Try.ntmps38
  go_wp2_with (first
    | (go_at_call 65; have _t := tB; go_must (refine (rRby_any b A n c a 1048 _ (HS.out _ HX0.out.box.up) (by omega) (by omega)).mono ?_); rw [H1.out]; rintro e x1 hp; obtain ⟨A1, c1, rfl, _, hO1, hb1⟩ := hp.at_ (n := K.length) rfl rfl rfl; have HX1 := Lib.hid (HX0.out.fresh hb1 hO1); clear hb1 hp hO1 tB)
    | (go_at_call 16; go_must (refine (rparsekey_any K A1 K.length c1 _ (HX1.out.rows.sl (i := 0) rfl) (by have := HKL.out; omega)).mono ?_); rw [HPK.out]; rintro e x2 ⟨B1, d1, B2, d2, D, q, rfl, hr2, hb2⟩; have HX2 := Lib.hid (HX1.out.freshR hb2 hr2); clear hb2 hr2)
    | (go_at_call 65; go_must (refine (rRby_any b A n c _ 4096 _ (HS.out _ (HX2.out.alloc (.cells #[.slice B1 E.row.length d1, .int .i64 E.fam, .slice B2 E.qual.length d2, .int .i64 E.ts, .int .i64 E.seq, .int .i64 E.kind, .slice D E.val.length q] 27)).box.up) (by omega) (by omega)).mono ?_); rw [H3.out]; rintro e x3 hp; obtain ⟨A5, c5, rfl, _, hO5, hb5⟩ := hp.at_ (n := V.length) rfl rfl rfl; have HX3 := Lib.hid ((HX2.out.alloc (.cells #[.slice B1 E.row.length d1, .int .i64 E.fam, .slice B2 E.qual.length d2, .int .i64 E.ts, .int .i64 E.seq, .int .i64 E.kind, .slice D E.val.length q] 27)).fresh hb5 hO5); have HY3 := Lib.hid ((Bxs.one x2 27 #[.slice B1 E.row.length d1, .int .i64 E.fam, .slice B2 E.qual.length d2, .int .i64 E.ts, .int .i64 E.seq, .int .i64 E.kind, .slice D E.val.length q]).later hb5); have HO5 := Lib.hid hO5; clear hb5 hp hO5; have z0 := HX3.out.box.c0 (i := 0) (v := .slice none 0 0) rfl rfl; have z1 := HX3.out.box.c0 (i := 1) (v := .int .i64 0) rfl rfl; have z2 := HX3.out.box.c0 (i := 2) (v := .slice none 0 0) rfl rfl; have z3 := HX3.out.box.c0 (i := 3) (v := .int .i64 0) rfl rfl; have z4 := HX3.out.box.c0 (i := 4) (v := .int .i64 0) rfl rfl; have z5 := HX3.out.box.c0 (i := 5) (v := .int .i64 0) rfl rfl; have z6 := HX3.out.box.c0 (i := 6) (v := .slice none 0 0) rfl rfl; have n0 := HX3.out.box.c1 (i := 0) (v := .slice none 0 0) rfl rfl; have n1 := HX3.out.box.c1 (i := 1) (v := .int .i64 0) rfl rfl; have n2 := HX3.out.box.c1 (i := 2) (v := .slice none 0 0) rfl rfl; have n3 := HX3.out.box.c1 (i := 3) (v := .int .i64 0) rfl rfl; have n4 := HX3.out.box.c1 (i := 4) (v := .int .i64 0) rfl rfl; have n5 := HX3.out.box.c1 (i := 5) (v := .int .i64 0) rfl rfl; have n6 := HX3.out.box.c1 (i := 6) (v := .slice none 0 0) rfl rfl; have fz := HX3.out.box.f0 rfl; have y0 := HY3.out.c0 (i := 0) (v := .slice B1 E.row.length d1) rfl rfl; have y1 := HY3.out.c0 (i := 1) (v := .int .i64 E.fam) rfl rfl; have y2 := HY3.out.c0 (i := 2) (v := .slice B2 E.qual.length d2) rfl rfl; have y3 := HY3.out.c0 (i := 3) (v := .int .i64 E.ts) rfl rfl; have y4 := HY3.out.c0 (i := 4) (v := .int .i64 E.seq) rfl rfl; have y5 := HY3.out.c0 (i := 5) (v := .int .i64 E.kind) rfl rfl; have y6 := HY3.out.c0 (i := 6) (v := .slice D E.val.length q) rfl rfl; have fy := HY3.out.f0 rfl; have hlt : w.heap.size < x2.heap.size := Nat.lt_of_lt_of_le (Nat.lt_of_lt_of_le (Nat.lt_succ_self _) (by simp)) HX2.out.box.size; have hlt2 : w.heap.size + 1 < x2.heap.size := Nat.lt_of_lt_of_le (Nat.lt_succ_self _) HX2.out.box.size))
  have HOFF := Lib.hid (rows_off HX2.out.rows (y := x3) (by have := HO5.out; rw [show (x2.alloc (.cells #[.slice B1 E.row.length d1, .int .i64 E.fam, .slice B2 E.qual.length d2, .int .i64 E.ts, .int .i64 E.seq, .int .i64 E.kind, .slice D E.val.length q] 27)).heap.size = x2.heap.size + 1 from by show (x2.heap.push _).size = _; simp] at this; exact this))
  (try simp only [Exit.inBlock, Exit.then])
  have HR := Lib.hid ((HX3.out.setAside x2.heap.size 6 (.slice A5 V.length c5) HX2.out.box.size HOFF.out).fill7 rfl (.slice B1 E.row.length d1) (.int .i64 E.fam) (.slice B2 E.qual.length d2) (.int .i64 E.ts) (.int .i64 E.seq) (.int .i64 E.kind) (.slice A5 V.length c5))
  refine bodyPost_ret (results_box2 rfl _ _ w.heap.size _ rfl (HR.out.box.cells0 rfl) (by kernel_rfl) (by kernel_rfl)) rfl ?_
  exact ⟨B1, d1, B2, d2, A5, c5, rfl, rows_low (rows_pick3 HR.out.rows) (Nat.le_add_right _ _), HR.out.box.up⟩

set_option maxRecDepth 100000 in
set_option maxHeartbeats 2000000 in
theorem ru_okC (b : List UInt8) (A : Option Addr) (n c : Nat) (a : Int) (w : World) (hs : Sl w A n c b) (hn : n ≤ 140737488355000) (ha : 0 ≤ a ∧ a ≤ (n : Int)) (K : List UInt8) (p : Nat) (hkl : K.length ≤ 1048) (h1 : readBy b a 1048 = (K, p, 0)) (E : Ent) (hpk : ParseKeyE K = (E, 0)) (V : List UInt8) (p2 : Nat) (h3 : readBy b (p : Int) 4096 = (V, p2, 0)) (_hvl : V.length ≤ 4096) (hkd : E.kind ≠ 1) (hv : V.length = 0) :
    Calls Try.prog 38 #[.slice A n c, .int .i64 a] w (EntPost (fun v => .tuple #[v, .int .i64 (p2 : Int), .int .i64 0]) { E with val := V } w) := by
  have HS : Hid (∀ x, Below w.heap.size w x → Sl x A n c b) := Lib.hid fun x h => hs.later h
  have HX0 := Lib.hid (Bt.of (T := 5) (Bxs.two w 27 #[.slice none 0 0, .int .i64 0, .slice none 0 0, .int .i64 0, .int .i64 0, .int .i64 0, .slice none 0 0] #[.slice none 0 0, .int .i64 0, .slice none 0 0, .int .i64 0, .int .i64 0, .int .i64 0, .slice none 0 0]))
  have da0 : decide (a < 0) = false := decide_eq_false (by omega)
  have da1 : decide ((n : Int) < a) = false := decide_eq_false (by omega)
  have H1 := Lib.hid h1
  have H3 := Lib.hid h3
  have HPK := Lib.hid hpk
  have HKL := Lib.hid hkl
  have hd1 : (E.kind != 1) = true := by rw [bne_iff_ne]; exact hkd
  have hd2 : decide (0 < V.length) = false := decide_eq_false (by omega)
  have hd3 : decide ((0 : Int) < (V.length : Int)) = false := decide_eq_false (by omega)
  clear hs ha h1 h3 hpk hkl hkd hv _hvl
  have tB : True := trivial
  go_enter Try.func38, Try.ntmps38
  go_wp2_with (first
    | (go_at_call 65; have _t := tB; go_must (refine (rRby_any b A n c a 1048 _ (HS.out _ HX0.out.box.up) (by omega) (by omega)).mono ?_); rw [H1.out]; rintro e x1 hp; obtain ⟨A1, c1, rfl, _, hO1, hb1⟩ := hp.at_ (n := K.length) rfl rfl rfl; have HX1 := Lib.hid (HX0.out.fresh hb1 hO1); clear hb1 hp hO1 tB)
    | (go_at_call 16; go_must (refine (rparsekey_any K A1 K.length c1 _ (HX1.out.rows.sl (i := 0) rfl) (by have := HKL.out; omega)).mono ?_); rw [HPK.out]; rintro e x2 ⟨B1, d1, B2, d2, D, q, rfl, hr2, hb2⟩; have HX2 := Lib.hid (HX1.out.freshR hb2 hr2); clear hb2 hr2)
    | (go_at_call 65; go_must (refine (rRby_any b A n c _ 4096 _ (HS.out _ (HX2.out.alloc (.cells #[.slice B1 E.row.length d1, .int .i64 E.fam, .slice B2 E.qual.length d2, .int .i64 E.ts, .int .i64 E.seq, .int .i64 E.kind, .slice D E.val.length q] 27)).box.up) (by omega) (by omega)).mono ?_); rw [H3.out]; rintro e x3 hp; obtain ⟨A5, c5, rfl, _, hO5, hb5⟩ := hp.at_ (n := V.length) rfl rfl rfl; have HX3 := Lib.hid ((HX2.out.alloc (.cells #[.slice B1 E.row.length d1, .int .i64 E.fam, .slice B2 E.qual.length d2, .int .i64 E.ts, .int .i64 E.seq, .int .i64 E.kind, .slice D E.val.length q] 27)).fresh hb5 hO5); have HY3 := Lib.hid ((Bxs.one x2 27 #[.slice B1 E.row.length d1, .int .i64 E.fam, .slice B2 E.qual.length d2, .int .i64 E.ts, .int .i64 E.seq, .int .i64 E.kind, .slice D E.val.length q]).later hb5); have HO5 := Lib.hid hO5; clear hb5 hp hO5; have z0 := HX3.out.box.c0 (i := 0) (v := .slice none 0 0) rfl rfl; have z1 := HX3.out.box.c0 (i := 1) (v := .int .i64 0) rfl rfl; have z2 := HX3.out.box.c0 (i := 2) (v := .slice none 0 0) rfl rfl; have z3 := HX3.out.box.c0 (i := 3) (v := .int .i64 0) rfl rfl; have z4 := HX3.out.box.c0 (i := 4) (v := .int .i64 0) rfl rfl; have z5 := HX3.out.box.c0 (i := 5) (v := .int .i64 0) rfl rfl; have z6 := HX3.out.box.c0 (i := 6) (v := .slice none 0 0) rfl rfl; have n0 := HX3.out.box.c1 (i := 0) (v := .slice none 0 0) rfl rfl; have n1 := HX3.out.box.c1 (i := 1) (v := .int .i64 0) rfl rfl; have n2 := HX3.out.box.c1 (i := 2) (v := .slice none 0 0) rfl rfl; have n3 := HX3.out.box.c1 (i := 3) (v := .int .i64 0) rfl rfl; have n4 := HX3.out.box.c1 (i := 4) (v := .int .i64 0) rfl rfl; have n5 := HX3.out.box.c1 (i := 5) (v := .int .i64 0) rfl rfl; have n6 := HX3.out.box.c1 (i := 6) (v := .slice none 0 0) rfl rfl; have fz := HX3.out.box.f0 rfl; have y0 := HY3.out.c0 (i := 0) (v := .slice B1 E.row.length d1) rfl rfl; have y1 := HY3.out.c0 (i := 1) (v := .int .i64 E.fam) rfl rfl; have y2 := HY3.out.c0 (i := 2) (v := .slice B2 E.qual.length d2) rfl rfl; have y3 := HY3.out.c0 (i := 3) (v := .int .i64 E.ts) rfl rfl; have y4 := HY3.out.c0 (i := 4) (v := .int .i64 E.seq) rfl rfl; have y5 := HY3.out.c0 (i := 5) (v := .int .i64 E.kind) rfl rfl; have y6 := HY3.out.c0 (i := 6) (v := .slice D E.val.length q) rfl rfl; have fy := HY3.out.f0 rfl; have hlt : w.heap.size < x2.heap.size := Nat.lt_of_lt_of_le (Nat.lt_of_lt_of_le (Nat.lt_succ_self _) (by simp)) HX2.out.box.size; have hlt2 : w.heap.size + 1 < x2.heap.size := Nat.lt_of_lt_of_le (Nat.lt_succ_self _) HX2.out.box.size))
  have HOFF := Lib.hid (rows_off HX2.out.rows (y := x3) (by have := HO5.out; rw [show (x2.alloc (.cells #[.slice B1 E.row.length d1, .int .i64 E.fam, .slice B2 E.qual.length d2, .int .i64 E.ts, .int .i64 E.seq, .int .i64 E.kind, .slice D E.val.length q] 27)).heap.size = x2.heap.size + 1 from by show (x2.heap.push _).size = _; simp] at this; exact this))
  (try simp only [Exit.inBlock, Exit.then])
  have HR := Lib.hid ((HX3.out.setAside x2.heap.size 6 (.slice A5 V.length c5) HX2.out.box.size HOFF.out).fill7 rfl (.slice B1 E.row.length d1) (.int .i64 E.fam) (.slice B2 E.qual.length d2) (.int .i64 E.ts) (.int .i64 E.seq) (.int .i64 E.kind) (.slice A5 V.length c5))
  refine bodyPost_ret (results_box2 rfl _ _ w.heap.size _ rfl (HR.out.box.cells0 rfl) (by kernel_rfl) (by kernel_rfl)) rfl ?_
  exact ⟨B1, d1, B2, d2, A5, c5, rfl, rows_low (rows_pick3 HR.out.rows) (Nat.le_add_right _ _), HR.out.box.up⟩
end Go.Proofs.Ytcikhlieaoanoaa

/-
  The ways that the reading of a packed entry goes. No program in sight.
-/
namespace Go.Proofs.Ytcikhlieaoanoaa
open Go.RowKit

theorem unpack_cases (b : List UInt8) (a : Int) {C : Ent × Nat × Int → Prop}
    (u1 : ∀ K p er, readBy b a 1048 = (K, p, er) → er ≠ 0 → C (noEnt, 0, (er : Int)))
    (u2 : ∀ K p E z, K.length ≤ 1048 → readBy b a 1048 = (K, p, 0) → z ≠ 0 → ParseKeyE K = (E, z) → C (noEnt, 0, 29))
    (u3 : ∀ K p E V p2 er, K.length ≤ 1048 → readBy b a 1048 = (K, p, 0) → ParseKeyE K = (E, 0) → readBy b (p : Int) 4096 = (V, p2, er) → er ≠ 0 → C (noEnt, 0, (er : Int)))
    (u4 : ∀ K p E V p2, K.length ≤ 1048 → readBy b a 1048 = (K, p, 0) → ParseKeyE K = (E, 0) → readBy b (p : Int) 4096 = (V, p2, 0) → V.length ≤ 4096 → E.kind ≠ 1 → 0 < V.length → C (noEnt, 0, 29))
    (ok : ∀ K p E V p2, K.length ≤ 1048 → readBy b a 1048 = (K, p, 0) → ParseKeyE K = (E, 0) → readBy b (p : Int) 4096 = (V, p2, 0) → V.length ≤ 4096 → E.kind = 1 ∨ V.length = 0 → C ({ E with val := V }, p2, 0)) :
    C (UnpackE b a) := by
  unfold UnpackE
  obtain ⟨K, p, er, h1⟩ : ∃ K p er, readBy b a 1048 = (K, p, er) := ⟨_, _, _, rfl⟩
  have hm := readBy_most b a 1048
  rw [h1] at hm ⊢
  simp only at hm ⊢
  by_cases he : er = 0
  · subst he
    have hK : K.length ≤ 1048 := by have := hm rfl; omega
    rw [if_neg (by simp)]
    obtain ⟨E, z, hp⟩ : ∃ E z, ParseKeyE K = (E, z) := ⟨_, _, rfl⟩
    rw [hp]
    simp only
    by_cases hz : z = 0
    · subst hz
      rw [if_neg (by simp)]
      unfold UnpackV
      obtain ⟨V, p2, er, h3⟩ : ∃ V p2 er, readBy b (p : Int) 4096 = (V, p2, er) := ⟨_, _, _, rfl⟩
      have hm2 := readBy_most b (p : Int) 4096
      rw [h3] at hm2 ⊢
      simp only at hm2 ⊢
      by_cases he : er = 0
      · subst he
        have hV : V.length ≤ 4096 := by have := hm2 rfl; omega
        rw [if_neg (by simp)]
        by_cases hh : E.kind ≠ 1 ∧ 0 < V.length
        · rw [if_pos hh]
          exact u4 K p E V p2 hK h1 hp h3 hV hh.1 hh.2
        · rw [if_neg hh]
          refine ok K p E V p2 hK h1 hp h3 hV ?_
          by_cases hk : E.kind = 1
          · exact .inl hk
          · exact .inr (by have : ¬ 0 < V.length := fun h => hh ⟨hk, h⟩; omega)
      · rw [if_pos he]
        exact u3 K p E V p2 er hK h1 hp h3 he
    · rw [if_pos hz]
      exact u2 K p E z hK h1 hz hp
  · rw [if_pos he]
    exact u1 K p er h1 he
theorem unpack_out {b : List UInt8} {a : Int} (h : a < 0 ∨ (b.length : Int) < a) : UnpackE b a = (noEnt, 0, 1) := by
  unfold UnpackE
  have : readBy b a 1048 = ([], 0, 1) := by unfold readBy; rw [if_pos (by omega)]
  rw [this]
  rfl
end Go.Proofs.Ytcikhlieaoanoaa

/-
  Unpack: the ways together (program and reference).
-/
namespace Go.Proofs.Ytcikhlieaoanoaa
open Go.RowKit

def UPost (r : Ent × Nat × Int) (w : World) : Ending → World → Prop := EntPost (fun v => .tuple #[v, .int .i64 (r.2.1 : Int), .int .i64 r.2.2]) r.1 w
theorem unpack_any (b : List UInt8) (A : Option Addr) (n c : Nat) (a : Int) (w : World) (hs : Sl w A n c b) (hn : n ≤ 140737488355000) :
    Calls Try.prog 37 #[.slice A n c, .int .i64 a] w (UPost (UnpackE b a) w) := by
  refine unpack_cases b a (C := fun r => Calls Try.prog 37 #[.slice A n c, .int .i64 a] w (UPost r w)) ?_ ?_ ?_ ?_ ?_
  · intro K p er h1 he; exact up_u1 b A n c a w hs hn K p er h1 he
  · intro K p E z hK h1 hz hp; exact up_u2 b A n c a w hs hn K p hK h1 E z hz hp
  · intro K p E V p2 er hK h1 hp h3 he; exact up_u3 b A n c a w hs hn K p hK h1 E hp V p2 er h3 he
  · intro K p E V p2 hK h1 hp h3 hV hk hv; exact up_u4 b A n c a w hs hn K p hK h1 E hp V p2 h3 hV hk hv
  · intro K p E V p2 hK h1 hp h3 hV hh
    by_cases hk : E.kind = 1
    · by_cases hv : 0 < V.length
      · exact up_okA b A n c a w hs hn K p hK h1 E hp V p2 h3 hV hk hv
      · exact up_okB b A n c a w hs hn K p hK h1 E hp V p2 h3 hV hk (by omega)
    · exact up_okC b A n c a w hs hn K p hK h1 E hp V p2 h3 hV hk (by rcases hh with h | h; exact absurd h hk; exact h)

set_option maxRecDepth 100000 in
set_option maxHeartbeats 1000000 in
theorem ru_low (_b : List UInt8) (A : Option Addr) (n c : Nat) (a : Int) (w : World) (ha : a < 0) :
    Calls Try.prog 38 #[.slice A n c, .int .i64 a] w (EntPost (fun v => .tuple #[v, .int .i64 0, .int .i64 1]) noEnt w) := by
  have hd : decide (a < 0) = true := decide_eq_true ha
  clear ha
  have HX0 := Lib.hid (Bt.of (T := 5) (Bxs.two w 27 #[.slice none 0 0, .int .i64 0, .slice none 0 0, .int .i64 0, .int .i64 0, .int .i64 0, .slice none 0 0] #[.slice none 0 0, .int .i64 0, .slice none 0 0, .int .i64 0, .int .i64 0, .int .i64 0, .slice none 0 0]))
  go_enter Try.func38, Try.ntmps38
  go_wp2
  (try simp only [Exit.inBlock, Exit.then])
  refine bodyPost_ret (results_box2 rfl _ _ w.heap.size _ rfl (HX0.out.box.cells0 rfl) (by kernel_rfl) (by kernel_rfl)) rfl ?_
  exact ent_none (mk := fun v => .tuple #[v, .int .i64 0, .int .i64 1]) HX0.out.box.up
set_option maxRecDepth 100000 in
set_option maxHeartbeats 1000000 in
theorem ru_high (_b : List UInt8) (A : Option Addr) (n c : Nat) (a : Int) (w : World) (h0 : ¬ a < 0) (ha : (n : Int) < a) :
    Calls Try.prog 38 #[.slice A n c, .int .i64 a] w (EntPost (fun v => .tuple #[v, .int .i64 0, .int .i64 1]) noEnt w) := by
  have hd : decide (a < 0) = false := decide_eq_false h0
  have hd2 : decide ((n : Int) < a) = true := decide_eq_true ha
  clear ha h0
  have HX0 := Lib.hid (Bt.of (T := 5) (Bxs.two w 27 #[.slice none 0 0, .int .i64 0, .slice none 0 0, .int .i64 0, .int .i64 0, .int .i64 0, .slice none 0 0] #[.slice none 0 0, .int .i64 0, .slice none 0 0, .int .i64 0, .int .i64 0, .int .i64 0, .slice none 0 0]))
  go_enter Try.func38, Try.ntmps38
  go_wp2
  (try simp only [Exit.inBlock, Exit.then])
  refine bodyPost_ret (results_box2 rfl _ _ w.heap.size _ rfl (HX0.out.box.cells0 rfl) (by kernel_rfl) (by kernel_rfl)) rfl ?_
  exact ent_none (mk := fun v => .tuple #[v, .int .i64 0, .int .i64 1]) HX0.out.box.up
theorem runpack_any (b : List UInt8) (A : Option Addr) (n c : Nat) (a : Int) (w : World) (hs : Sl w A n c b) (hn : n ≤ 140737488355000) :
    Calls Try.prog 38 #[.slice A n c, .int .i64 a] w (UPost (UnpackE b a) w) := by
  have hl := hs.len
  by_cases h0 : a < 0
  · rw [unpack_out (.inl h0)]; exact ru_low b A n c a w h0
  by_cases h1 : (n : Int) < a
  · rw [unpack_out (.inr (by omega))]; exact ru_high b A n c a w h0 h1
  have ha : 0 ≤ a ∧ a ≤ (n : Int) := by omega
  refine unpack_cases b a (C := fun r => Calls Try.prog 38 #[.slice A n c, .int .i64 a] w (UPost r w)) ?_ ?_ ?_ ?_ ?_
  · intro K p er h1 he; exact ru_u1 b A n c a w hs hn ha K p er h1 he
  · intro K p E z hK h1 hz hp; exact ru_u2 b A n c a w hs hn ha K p hK h1 E z hz hp
  · intro K p E V p2 er hK h1 hp h3 he; exact ru_u3 b A n c a w hs hn ha K p hK h1 E hp V p2 er h3 he
  · intro K p E V p2 hK h1 hp h3 hV hk hv; exact ru_u4 b A n c a w hs hn ha K p hK h1 E hp V p2 h3 hV hk hv
  · intro K p E V p2 hK h1 hp h3 hV hh
    by_cases hk : E.kind = 1
    · by_cases hv : 0 < V.length
      · exact ru_okA b A n c a w hs hn ha K p hK h1 E hp V p2 h3 hV hk hv
      · exact ru_okB b A n c a w hs hn ha K p hK h1 E hp V p2 h3 hV hk (by omega)
    · exact ru_okC b A n c a w hs hn ha K p hK h1 E hp V p2 h3 hV hk (by rcases hh with h | h; exact absurd h hk; exact h)
end Go.Proofs.Ytcikhlieaoanoaa

/-
  Boxes, more of them: the second box filled, a boxed result alone.
-/
namespace Go.Proofs.Ytcikhlieaoanoaa
open Go.RowKit

section
variable {w x y : World} {T : TypeId} {rs : RowL}
theorem Bt.s1_6 {c0 : Array Value} {a0 a1 a2 a3 a4 a5 a6 : Value} {r : List (Array Value)} (u : Value) (h : Bt T w (c0 :: #[a0, a1, a2, a3, a4, a5, a6] :: r) rs x) : Bt T w (c0 :: #[a0, a1, a2, a3, a4, a5, u] :: r) rs (x.setCell ⟨w.heap.size + 1, 6, none⟩ u) := h.set (j := 1) 6 u rfl (show 6 < 7 by decide)
theorem Bt.fill7_1 {c0 c1 : Array Value} {r : List (Array Value)} (h : Bt T w (c0 :: c1 :: r) rs x) (hc : c1.size = 7) (v0 v1 v2 v3 v4 v5 v6 : Value) : Bt T w (c0 :: #[v0, v1, v2, v3, v4, v5, v6] :: r) rs
    (((((((x.setCell ⟨w.heap.size + 1, 0, none⟩ v0).setCell ⟨w.heap.size + 1, 1, none⟩ v1).setCell ⟨w.heap.size + 1, 2, none⟩ v2).setCell ⟨w.heap.size + 1, 3, none⟩ v3).setCell ⟨w.heap.size + 1, 4, none⟩ v4).setCell ⟨w.heap.size + 1, 5, none⟩ v5).setCell ⟨w.heap.size + 1, 6, none⟩ v6) := by
  obtain ⟨l⟩ := c1
  match l, hc with
  | [b0, b1, b2, b3, b4, b5, b6], _ => exact Bt.s1_6 v6 (Bt.s1_5 v5 (Bt.s1_4 v4 (Bt.s1_3 v3 (Bt.s1_2 v2 (Bt.s1_1 v1 (Bt.s1_0 v0 h))))))
theorem Bxs.cells1 {cs : List (Array Value)} (h : Bxs w cs x) {c : Array Value} (hj : cs[1]? = some c) : ∀ j v, c[j]? = some v → x.cell? ⟨w.heap.size + 1, j, none⟩ = some v := fun j v hv => h.cell 1 c j v hj hv
theorem results_box0 {P : Program} {fn : Func} {p : Tmp} {ty : TypeId} (h : fn.results = #[.cell p ty]) (tmps : Array Value) (w : World) (g : Nat) (cs : Array Value)
    (hp : tmps.getD p undef = .pointer (some ⟨g, 0, none⟩)) (hc : ∀ j v, cs[j]? = some v → w.cell? ⟨g, j, none⟩ = some v)
    (ha : (P.underlying ty).map (fun d => match d with | .struct _ | .array _ _ => true | _ => false) = some true) (hi : (P.info? ty).map (·.size) = some cs.size) :
    (results fn tmps).run P w = .ok (.agg cs) w := by
  have hp' : tmps[p]?.getD undef = .pointer (some ⟨g, 0, none⟩) := by simpa using hp
  simp [results, h, hp', asAddr, run_loadVar_at hc ha hi]
end
end Go.Proofs.Ytcikhlieaoanoaa

/-
  The law's same, copied, laid, intact, entry, stands, sameEntry, plain; walked.
-/
namespace Go.Proofs.Ytcikhlieaoanoaa
open Go.RowKit

set_option maxRecDepth 100000 in
set_option maxHeartbeats 1000000 in
theorem same_any (a b : List UInt8) (A B : Option Addr) (n c m d : Nat) (w : World) (hn : n ≤ 9223372036854775807) (ha : RB w w.heap.size A n a) (hb : RB w w.heap.size B m b) :
    Calls Try.prog 30 #[.slice A n c, .slice B m d] w fun e w' => e = .returned (.bool (a == b)) ∧ Below w.heap.size w w' := by
  have HLA := Lib.hid ha.len
  have HLB := Lib.hid hb.len
  have HA : Hid (∀ w', Below w.heap.size w w' → RB w' w'.heap.size A n a) := Lib.hid fun w' h => ha.later h
  have HB : Hid (∀ w', Below w.heap.size w w' → RB w' w'.heap.size B m b) := Lib.hid fun w' h => hb.later h
  clear ha hb
  by_cases hnm : n = m
  case neg =>
    have HE : Hid ((a == b) = false) := Lib.hid (by rw [beq_eq_false_iff_ne]; intro h; exact hnm (by rw [← HLA.out, ← HLB.out, h]))
    have hd : ((n : Int) != (m : Int)) = true := by rw [bne_iff_ne]; omega
    have hd2 : (n != m) = true := by rw [bne_iff_ne]; omega
    clear hnm
    go_enter Try.func30, Try.ntmps30
    go_wp2
    go_ret
    exact ⟨by rw [HE.out]; rfl, Below.refl _ _⟩
  subst hnm
  go_enter Try.func30, Try.ntmps30
  go_wp2
  go_loopw [5] (fun i wr => ∃ k : Nat, k ≤ n ∧ i = .int .i64 k ∧ Hid (a.take k = b.take k) ∧ Hid (Below w.heap.size w wr)) (fun i _ => n - (intOf i).toNat)
  case atStart => exact ⟨0, Nat.zero_le _, rfl, Lib.hid rfl, Lib.hid (Below.refl _ _)⟩
  case round =>
    obtain ⟨k, hkn, rfl, HT, HW⟩ := hrel
    by_cases hlt : k < n
    case neg =>
      have HE : Hid ((a == b) = true) := Lib.hid (by
        have h := HT.out
        rw [List.take_of_length_le (by have := HLA.out; omega), List.take_of_length_le (by have := HLB.out; omega)] at h
        rw [h]; simp)
      have hd1 : decide ((k : Int) < (n : Int)) = false := decide_eq_false (by omega)
      have hd2 : decide (k < n) = false := decide_eq_false hlt
      go_wp2
      go_ret
      exact ⟨by rw [HE.out]; rfl, HW.out⟩
    have hd1 : decide ((k : Int) < (n : Int)) = true := decide_eq_true (by omega)
    have hd2 : decide (k < n) = true := decide_eq_true hlt
    have hk1 : (k : Int) < (n : Int) := by omega
    obtain ⟨b1, o1, x, rfl, _, hx, _⟩ := (HA.out _ HW.out).at_ hlt
    obtain ⟨b2, o2, y, rfl, _, hy, _⟩ := (HB.out _ HW.out).at_ hlt
    have HX := Lib.hid hx
    have HY := Lib.hid hy
    have c1 := (HA.out _ HW.out).cell HX.out
    have c2 := (HB.out _ HW.out).cell HY.out
    clear hx hy
    by_cases hxy : x = y
    case neg =>
      have HE : Hid ((a == b) = false) := Lib.hid (by
        rw [beq_eq_false_iff_ne]; intro h
        have h1 := HX.out; have h2 := HY.out
        rw [h, h2] at h1; injection h1 with h1; exact hxy h1.symm)
      have e1 : ((x.toNat : Int) != (y.toNat : Int)) = true := by rw [bne_iff_ne]; intro h; exact hxy (UInt8.toNat_inj.1 (by omega))
      have e2 : (x.toNat != y.toNat) = true := by rw [bne_iff_ne]; intro h; exact hxy (UInt8.toNat_inj.1 h)
      have HW2 := Lib.hid (fun k => below_drewN (n := k) HW.out)
      clear hxy
      go_wp2_with fail
      go_quiet (fail)
      have HW3 := Lib.hid (HW2.out nq)
      clear c1 c2
      generalize wr.drewN nq = w3 at *
      go_wp2
      go_ret
      exact ⟨by rw [HE.out]; rfl, HW3.out⟩
    subst hxy
    have HE := Lib.hid (cmp_eq_at HT.out HX.out HY.out)
    have e1 : ((x.toNat : Int) != (x.toNat : Int)) = false := by simp
    have HW2 := Lib.hid (fun k => below_drewN (n := k) HW.out)
    go_wp2_with fail
    go_quiet (fail)
    have HW3 := Lib.hid (HW2.out nq)
    clear c1 c2
    generalize wr.drewN nq = w3 at *
    go_wp2
    go_roundw
    case rel => exact ⟨k + 1, by omega, by go_num, HE, HW3⟩
    case measure => simp [intOf]; omega

set_option maxRecDepth 100000 in
set_option maxHeartbeats 1000000 in
theorem copied_any (l : List UInt8) (A : Option Addr) (n c : Nat) (w : World) (hn : n ≤ 140737488355000) (hr : RB w w.heap.size A n l) :
    Calls Try.prog 14 #[.slice A n c] w (BytesPost 5 l w) := by
  have HR := Lib.hid hr
  clear hr
  go_enter Try.func14, Try.ntmps14
  go_wp2_with (at_builtin; go_must (refine wpList_append_reads _ rfl (.tmp 4) (.tmp 5) rfl Try.u8s' w.heap.size (.slice none 0 0) 0 [] rfl (own_nil _ _ _ _) _ A n c (u8s l) rfl HR.out (u8s_one _) (by unfold maxLen; omega) (by omega) (Nat.le_refl _) ?_); intro v1 w1 hown1 hg1 hat1; have HB1 := Lib.hid (below_app (Below.refl w.heap.size w) (own_nil _ w.heap.size 5 1) hg1 (Nat.le_refl _) (Nat.le_refl _)); rw [List.nil_append, Nat.zero_add] at hown1; have HO1 := Lib.hid hown1; clear hown1 hg1 hat1)
  go_ret
  exact bytes_post HO1.out HB1.out

/-! ### What lies in new memory, with marks behind -/
def mkL (j : Nat) : List UInt8 := [201, 202, 203, 204, 205] ++ List.replicate j 206
theorem mkL_len (j : Nat) : (mkL j).length = j + 5 := by simp [mkL]
def LaidPost (l : List UInt8) (w : World) (r : Ending) (w' : World) : Prop := ∃ A c, r = .returned (.slice A l.length c) ∧ OwnB 5 w.heap.size w' A c (l ++ mkL 70) ∧ Below w.heap.size w w'
set_option maxRecDepth 100000 in
set_option maxHeartbeats 1000000 in
theorem laid_at (l : List UInt8) (A : Option Addr) (n0 n c N : Nat) (w : World) (hs : Sl w A n c l) (hn : n ≤ 1000000) (hc0 : n0 ≤ c) (h0 : (n0 ≤ N ∧ n = n0) ∨ (N < n0 ∧ n = N)) :
    Calls Try.prog 13 #[.slice A n0 c, .int .i64 N] w (LaidPost l w) := by
  have HS := Lib.hid hs
  have hl := hs.len
  have hcap := hs.cap
  have hlim := hs.lim
  rcases h0 with ⟨h1, rfl⟩ | ⟨h1, rfl⟩
  · have hd : decide ((N : Int) < (n : Int)) = false := decide_eq_false (by omega)
    have hd2 : decide (N < n) = false := decide_eq_false (by omega)
    have hcI : (n : Int) ≤ (c : Int) := by omega
    clear hs h1
    go_enter Try.func13, Try.ntmps13
    go_wp2_with (first
      | (go_at_call 14; go_must (refine (copied_any l A n c _ (by omega) HS.out.rb).mono ?_); rintro e x1 hp; obtain ⟨A1, c1, rfl, _, hO1, hb1⟩ := BytesPost.at_ hp hl; have HO1 := Lib.hid (own_len hO1 hl); have HB1 := Lib.hid hb1; clear hO1 hb1 hp)
      | (at_builtin; go_must (refine wpList_append_reads _ rfl (.tmp 16) (.tmp 17) rfl Try.u8s' w.heap.size (.slice A1 n c1) n (u8s l) rfl (HO1.out.alloc _) (x1.heap.size + 1) (some ⟨x1.heap.size, 0, none⟩) 5 5 (u8s [201, 202, 203, 204, 205]) rfl (by exact reads_lit x1 _ [201, 202, 203, 204, 205] _ _ rfl) (u8s_one _) (by unfold maxLen; omega) (by omega) (by have := HB1.out.size; simp; omega) ?_); intro v2 x2 hown2 hg2 hat2; have HB2 := Lib.hid (below_app (HB1.out.alloc HB1.out.size (.cells #[.int .u8 201, .int .u8 202, .int .u8 203, .int .u8 204, .int .u8 205] 5)) (HO1.out.alloc _) hg2 (by have := HB1.out.size; simp; omega) (Nat.le_refl _)); rw [← u8s_append] at hown2; have HO2 := Lib.hid hown2; clear hown2 hg2 hat2))
    go_loopw [5, 6] (fun v i wr => ∃ j : Nat, j ≤ 70 ∧ i = .int .i64 j ∧ Hid (wr.ownsRow w.heap.size 5 1 v (n + 5 + j) (u8s (l ++ mkL j))) ∧ Hid (Below w.heap.size w wr)) (fun _ i _ => 70 - (intOf i).toNat)
    case atStart => exact ⟨0, by omega, rfl, HO2, HB2⟩
    case round =>
      clear HO1 HB1 HO2 HB2
      obtain ⟨j, hj, rfl, HO, HB⟩ := hrel
      obtain ⟨v, hv⟩ : ∃ v, v = u5 := ⟨_, rfl⟩
      rw [← hv] at HO ⊢
      clear hv
      by_cases hlt : j < 70
      · have hd3 : decide ((j : Int) < 70) = true := decide_eq_true (by omega)
        go_wp2_with (at_builtin; go_must (refine wpList_append_reads _ rfl (.tmp 23) (.tmp 24) rfl Try.u8s' w.heap.size v (n + 5 + j) (u8s (l ++ mkL j)) rfl (HO.out.alloc _) (wr.heap.size + 1) (some ⟨wr.heap.size, 0, none⟩) 1 1 (u8s [206]) rfl (by exact reads_lit wr _ [206] _ _ rfl) (u8s_one _) (by unfold maxLen; omega) (by omega) (by have := HB.out.size; simp; omega) ?_); intro v3 x3 hown3 hg3 hat3; have HB3 := Lib.hid (below_app (HB.out.alloc HB.out.size (.cells #[.int .u8 206] 5)) (HO.out.alloc _) hg3 (by have := HB.out.size; simp; omega) (Nat.le_refl _)); rw [← u8s_append] at hown3; have HO3 := Lib.hid hown3; clear hown3 hg3 hat3)
        have HO4 : Hid (x3.ownsRow w.heap.size 5 1 v3 (n + 5 + (j + 1)) (u8s (l ++ mkL (j + 1)))) := Lib.hid (by
          have h := HO3.out
          have e : l ++ mkL j ++ [206] = l ++ mkL (j + 1) := by unfold mkL; rw [List.replicate_succ']; simp
          rw [e] at h
          exact h)
        clear HO3
        go_roundw
        case rel => exact ⟨j + 1, by omega, by go_num, HO4, HB3⟩
        case measure => simp [intOf]; omega
      · have hd3 : decide ((j : Int) < 70) = false := decide_eq_false (by omega)
        obtain rfl : j = 70 := by omega
        obtain ⟨A5, c5, rfl, h5, h6, _⟩ := own_slice HO.out
        have h5I : (n : Int) ≤ (c5 : Int) := by omega
        have HO5 : Hid (OwnB 5 w.heap.size wr A5 c5 (l ++ mkL 70)) := Lib.hid (own_of_len HO.out (by rw [List.length_append, mkL_len]; omega))
        have HL := Lib.hid hl
        clear HO hlt h6
        go_wp2
        go_ret
        exact ⟨A5, c5, by rw [HL.out]; rfl, HO5.out, HB.out⟩
  · have hd : decide ((n : Int) < (n0 : Int)) = true := decide_eq_true (by omega)
    have hd2 : decide (n < n0) = true := decide_eq_true (by omega)
    have hcI : (n : Int) ≤ (c : Int) := by omega
    clear hs h1
    go_enter Try.func13, Try.ntmps13
    go_wp2_with (first
      | (go_at_call 14; go_must (refine (copied_any l A n c _ (by omega) HS.out.rb).mono ?_); rintro e x1 hp; obtain ⟨A1, c1, rfl, _, hO1, hb1⟩ := BytesPost.at_ hp hl; have HO1 := Lib.hid (own_len hO1 hl); have HB1 := Lib.hid hb1; clear hO1 hb1 hp)
      | (at_builtin; go_must (refine wpList_append_reads _ rfl (.tmp 16) (.tmp 17) rfl Try.u8s' w.heap.size (.slice A1 n c1) n (u8s l) rfl (HO1.out.alloc _) (x1.heap.size + 1) (some ⟨x1.heap.size, 0, none⟩) 5 5 (u8s [201, 202, 203, 204, 205]) rfl (by exact reads_lit x1 _ [201, 202, 203, 204, 205] _ _ rfl) (u8s_one _) (by unfold maxLen; omega) (by omega) (by have := HB1.out.size; simp; omega) ?_); intro v2 x2 hown2 hg2 hat2; have HB2 := Lib.hid (below_app (HB1.out.alloc HB1.out.size (.cells #[.int .u8 201, .int .u8 202, .int .u8 203, .int .u8 204, .int .u8 205] 5)) (HO1.out.alloc _) hg2 (by have := HB1.out.size; simp; omega) (Nat.le_refl _)); rw [← u8s_append] at hown2; have HO2 := Lib.hid hown2; clear hown2 hg2 hat2))
    go_loopw [5, 6] (fun v i wr => ∃ j : Nat, j ≤ 70 ∧ i = .int .i64 j ∧ Hid (wr.ownsRow w.heap.size 5 1 v (n + 5 + j) (u8s (l ++ mkL j))) ∧ Hid (Below w.heap.size w wr)) (fun _ i _ => 70 - (intOf i).toNat)
    case atStart => exact ⟨0, by omega, rfl, HO2, HB2⟩
    case round =>
      clear HO1 HB1 HO2 HB2
      obtain ⟨j, hj, rfl, HO, HB⟩ := hrel
      obtain ⟨v, hv⟩ : ∃ v, v = u5 := ⟨_, rfl⟩
      rw [← hv] at HO ⊢
      clear hv
      by_cases hlt : j < 70
      · have hd3 : decide ((j : Int) < 70) = true := decide_eq_true (by omega)
        go_wp2_with (at_builtin; go_must (refine wpList_append_reads _ rfl (.tmp 23) (.tmp 24) rfl Try.u8s' w.heap.size v (n + 5 + j) (u8s (l ++ mkL j)) rfl (HO.out.alloc _) (wr.heap.size + 1) (some ⟨wr.heap.size, 0, none⟩) 1 1 (u8s [206]) rfl (by exact reads_lit wr _ [206] _ _ rfl) (u8s_one _) (by unfold maxLen; omega) (by omega) (by have := HB.out.size; simp; omega) ?_); intro v3 x3 hown3 hg3 hat3; have HB3 := Lib.hid (below_app (HB.out.alloc HB.out.size (.cells #[.int .u8 206] 5)) (HO.out.alloc _) hg3 (by have := HB.out.size; simp; omega) (Nat.le_refl _)); rw [← u8s_append] at hown3; have HO3 := Lib.hid hown3; clear hown3 hg3 hat3)
        have HO4 : Hid (x3.ownsRow w.heap.size 5 1 v3 (n + 5 + (j + 1)) (u8s (l ++ mkL (j + 1)))) := Lib.hid (by
          have h := HO3.out
          have e : l ++ mkL j ++ [206] = l ++ mkL (j + 1) := by unfold mkL; rw [List.replicate_succ']; simp
          rw [e] at h
          exact h)
        clear HO3
        go_roundw
        case rel => exact ⟨j + 1, by omega, by go_num, HO4, HB3⟩
        case measure => simp [intOf]; omega
      · have hd3 : decide ((j : Int) < 70) = false := decide_eq_false (by omega)
        obtain rfl : j = 70 := by omega
        obtain ⟨A5, c5, rfl, h5, h6, _⟩ := own_slice HO.out
        have h5I : (n : Int) ≤ (c5 : Int) := by omega
        have HO5 : Hid (OwnB 5 w.heap.size wr A5 c5 (l ++ mkL 70)) := Lib.hid (own_of_len HO.out (by rw [List.length_append, mkL_len]; omega))
        have HL := Lib.hid hl
        clear HO hlt h6
        go_wp2
        go_ret
        exact ⟨A5, c5, by rw [HL.out]; rfl, HO5.out, HB.out⟩
end Go.Proofs.Ytcikhlieaoanoaa

/-
  The law's intact, entry, stands, sameEntry, plain; walked. (Printed by gen_l2.py.)
-/
namespace Go.Proofs.Ytcikhlieaoanoaa
open Go.RowKit

set_option maxRecDepth 100000 in
set_option maxHeartbeats 1000000 in
theorem intact_any (l : List UInt8) (A B : Option Addr) (n c d : Nat) (w : World) (ha : Sl w A (n + 75) c (l ++ mkL 70)) (hb : RB w w.heap.size B n l) (hn : n ≤ 1000000) :
    Calls Try.prog 18 #[.slice A n c, .slice B n d] w fun e w' => e = .returned (.bool true) ∧ Below w.heap.size w w' := by
  have hcap := ha.cap
  have hlim := ha.lim
  have HLB := Lib.hid hb.len
  have HA : Hid (∀ x, Below w.heap.size w x → Sl x A (n + 75) c (l ++ mkL 70)) := Lib.hid fun x h => ha.later h
  have HB : Hid (∀ x, Below w.heap.size w x → RB x x.heap.size B n l) := Lib.hid fun x h => hb.later h
  have H1 : Hid (∀ x, Below w.heap.size w x → Sl x A n c l) := Lib.hid fun x h => by
    have h2 := (HA.out x h).take (m := n) (by omega)
    rwa [List.take_left' HLB.out] at h2
  have H2 : Hid (∀ x, Below w.heap.size w x → Sl x (A.map (·.add n)) 5 (c - n) [201, 202, 203, 204, 205]) := Lib.hid fun x h => by
    have h2 := ((HA.out x h).take (m := n + 5) (by omega)).drop (k := n) (by omega) (by omega)
    have e : ((l ++ mkL 70).take (n + 5)).drop n = [201, 202, 203, 204, 205] := by
      have hl := HLB.out
      subst hl
      rw [List.take_length_add_append, List.drop_left]
      rfl
    rw [e, show n + 5 - n = 5 from by omega] at h2
    exact h2
  have XS : Hid ((l == l) = true) := Lib.hid (by simp)
  have XM : Hid ((([201, 202, 203, 204, 205] : List UInt8) == [201, 202, 203, 204, 205]) = true) := Lib.hid rfl
  have hA0 : ∃ aa, A = some aa := by
    cases A with
    | none => exact absurd (ha.nil rfl) (by omega)
    | some aa => exact ⟨aa, rfl⟩
  obtain ⟨aa, rfl⟩ := hA0
  have k1 : (n : Int) + 5 ≤ (c : Int) := by omega
  have k2 : IntKind.i64.wrap ((n : Int) + 5) = (n : Int) + 5 := i64_sum (by omega) (by omega)
  have tok1 : True := trivial
  clear ha hb
  go_enter Try.func18, Try.ntmps18
  go_wp2_with (first
    | (go_at_call 30; have _t := tok1; go_must (refine (same_any l l (some aa) B n c n d _ (by omega) (H1.out _ (Below.refl _ _)).rb (HB.out _ (Below.refl _ _))).mono ?_); rw [XS.out]; rintro e x1 ⟨rfl, hb1⟩; have HB1 := Lib.hid hb1; clear hb1 tok1)
    | (go_at_call 30; go_must (refine (same_any [201, 202, 203, 204, 205] [201, 202, 203, 204, 205] _ _ 5 _ 5 _ _ (by decide) (H2.out _ (HB1.out.alloc HB1.out.size _)).rb (Sl.lit x1 #[.int .u8 201, .int .u8 202, .int .u8 203, .int .u8 204, .int .u8 205] [201, 202, 203, 204, 205] 5 (0, 0) rfl rfl (by decide)).rb).mono ?_); rw [XM.out]; rintro e x2 ⟨rfl, hb2⟩; have HB2 := Lib.hid (below_up (HB1.out.alloc HB1.out.size (.cells #[.int .u8 201, .int .u8 202, .int .u8 203, .int .u8 204, .int .u8 205] 5)) hb2); clear hb2))
  go_ret
  exact ⟨rfl, HB2.out⟩

set_option maxRecDepth 100000 in
set_option maxHeartbeats 2000000 in
theorem sameEntry_any (a b : Ent) (A : Option Addr) (n c : Nat) (B : Option Addr) (m d : Nat) (D : Option Addr) (v q : Nat) (A' : Option Addr) (n' c' : Nat) (B' : Option Addr) (m' d' : Nat) (D' : Option Addr) (v' q' : Nat) (w : World) (he : a = b) (ha : En w A n c B m d D v q a) (hb : En w A' n' c' B' m' d' D' v' q' b) :
    Calls Try.prog 17 #[entV A n c B m d D v q a, entV A' n' c' B' m' d' D' v' q' b] w fun e w1 => e = .returned (.bool true) ∧ Below w.heap.size w w1 := by
  have HT := Lib.hid (Two.new w 27 #[.slice A n c, .int .i64 a.fam, .slice B m d, .int .i64 a.ts, .int .i64 a.seq, .int .i64 a.kind, .slice D v q] #[.slice A' n' c', .int .i64 b.fam, .slice B' m' d', .int .i64 b.ts, .int .i64 b.seq, .int .i64 b.kind, .slice D' v' q'])
  have HA : Hid (∀ x, Below w.heap.size w x → En x A n c B m d D v q a) := Lib.hid fun x h => ha.later h
  have HC : Hid (∀ x, Below w.heap.size w x → En x A' n' c' B' m' d' D' v' q' b) := Lib.hid fun x h => hb.later h
  have HLE : Hid (n ≤ 9223372036854775807 ∧ m ≤ 9223372036854775807 ∧ v ≤ 9223372036854775807) := Lib.hid ⟨ha.row.le, ha.qual.le, ha.val.le⟩
  have HQ : Hid (a.row = b.row ∧ a.qual = b.qual ∧ a.val = b.val) := Lib.hid ⟨by rw [he], by rw [he], by rw [he]⟩
  have XS : Hid (∀ l : List UInt8, (l == l) = true) := Lib.hid (by simp)
  have e1 : a.fam = b.fam := by rw [he]
  have e2 : a.ts = b.ts := by rw [he]
  have e3 : a.seq = b.seq := by rw [he]
  have e4 : a.kind = b.kind := by rw [he]
  unfold entV
  rw [e1, e2, e3, e4] at HT ⊢
  clear ha hb he e1 e2 e3 e4
  have tok1 : True := trivial
  have tok2 : True := trivial
  go_enter Try.func17, Try.ntmps17
  go_wp2_with (first
    | (go_at_call 30; have _t := tok1; go_must (refine (same_any a.row a.row _ _ _ _ _ _ _ HLE.out.1 (HA.out _ HT.out.up).row.rb (by have h := (HC.out _ HT.out.up).row.rb; rw [← HQ.out.1] at h; exact h)).mono ?_); rw [XS.out]; rintro e x1 ⟨rfl, hb1⟩; have HT1 := Lib.hid (HT.out.later hb1); clear hb1 tok1; have a2 := boxed1 HT1.out (i := 2) (v := .slice B m d) rfl; have b2 := boxed2 HT1.out (i := 2) (v := .slice B' m' d') rfl)
    | (go_at_call 30; have _t := tok2; go_must (refine (same_any a.qual a.qual _ _ _ _ _ _ _ HLE.out.2.1 (HA.out _ HT1.out.up).qual.rb (by have h := (HC.out _ HT1.out.up).qual.rb; rw [← HQ.out.2.1] at h; exact h)).mono ?_); rw [XS.out]; rintro e x2 ⟨rfl, hb2⟩; have HT2 := Lib.hid (HT1.out.later hb2); clear hb2 tok2; have a6 := boxed1 HT2.out (i := 6) (v := .slice D v q) rfl; have b6 := boxed2 HT2.out (i := 6) (v := .slice D' v' q') rfl)
    | (go_at_call 30; go_must (refine (same_any a.val a.val _ _ _ _ _ _ _ HLE.out.2.2 (HA.out _ HT2.out.up).val.rb (by have h := (HC.out _ HT2.out.up).val.rb; rw [← HQ.out.2.2] at h; exact h)).mono ?_); rw [XS.out]; rintro e x3 ⟨rfl, hb3⟩; have HT3 := Lib.hid (HT2.out.later hb3); clear hb3))
  go_ret
  exact ⟨rfl, HT3.out.up⟩

/-- An entry whose byte strings have marks behind them. -/
structure EnM (w : World) (A : Option Addr) (n c : Nat) (B : Option Addr) (m d : Nat) (D : Option Addr) (v q : Nat) (e : Ent) : Prop where
  row : Sl w A (n + 75) c (e.row ++ mkL 70)
  qual : Sl w B (m + 75) d (e.qual ++ mkL 70)
  val : Sl w D (v + 75) q (e.val ++ mkL 70)
  lr : e.row.length = n ∧ n ≤ 5000
  lq : e.qual.length = m ∧ m ≤ 5000
  lv : e.val.length = v ∧ v ≤ 5000
section
variable {w x : World} {A : Option Addr} {n c : Nat} {B : Option Addr} {m d : Nat} {D : Option Addr} {v q : Nat} {e : Ent}
theorem EnM.later (h : EnM w A n c B m d D v q e) (hb : Below w.heap.size w x) : EnM x A n c B m d D v q e := ⟨h.row.later hb, h.qual.later hb, h.val.later hb, h.lr, h.lq, h.lv⟩
theorem sl_front {l : List UInt8} {k : Nat} (h : Sl w A (n + k) c (l ++ mkL 70)) (hl : l.length = n) : Sl w A n c l := by
  have h2 := h.take (m := n) (by omega)
  rwa [List.take_left' hl] at h2
theorem EnM.en (h : EnM w A n c B m d D v q e) : En w A n c B m d D v q e := ⟨sl_front h.row h.lr.1, sl_front h.qual h.lq.1, sl_front h.val h.lv.1⟩
end

set_option maxRecDepth 100000 in
set_option maxHeartbeats 2000000 in
theorem stands_any (a : Ent) (A : Option Addr) (n c : Nat) (B : Option Addr) (m d : Nat) (D : Option Addr) (v q : Nat) (A' : Option Addr) (c' : Nat) (B' : Option Addr) (d' : Nat) (D' : Option Addr) (q' : Nat) (w : World) (ha : EnM w A n c B m d D v q a) (hb : En w A' n c' B' m d' D' v q' a) :
    Calls Try.prog 24 #[entV A n c B m d D v q a, entV A' n c' B' m d' D' v q' a] w fun e w1 => e = .returned (.bool true) ∧ Below w.heap.size w w1 := by
  have HT := Lib.hid (Two.new w 27 #[.slice A n c, .int .i64 a.fam, .slice B m d, .int .i64 a.ts, .int .i64 a.seq, .int .i64 a.kind, .slice D v q] #[.slice A' n c', .int .i64 a.fam, .slice B' m d', .int .i64 a.ts, .int .i64 a.seq, .int .i64 a.kind, .slice D' v q'])
  have HA : Hid (∀ x, Below w.heap.size w x → EnM x A n c B m d D v q a) := Lib.hid fun x h => ha.later h
  have HC : Hid (∀ x, Below w.heap.size w x → En x A' n c' B' m d' D' v q' a) := Lib.hid fun x h => hb.later h
  have HLE : Hid (n ≤ 5000 ∧ m ≤ 5000 ∧ v ≤ 5000) := Lib.hid ⟨ha.lr.2, ha.lq.2, ha.lv.2⟩
  unfold entV
  clear ha hb
  have tok1 : True := trivial
  have tok2 : True := trivial
  go_enter Try.func24, Try.ntmps24
  go_wp2_with (first
    | (go_at_call 18; have _t := tok1; go_must (refine (intact_any a.row _ _ _ _ _ _ (HA.out _ HT.out.up).row (by have h := (HC.out _ HT.out.up).row.rb; exact h) (by have := HLE.out; omega)).mono ?_); rintro e x1 ⟨rfl, hb1⟩; have HT1 := Lib.hid (HT.out.later hb1); clear hb1 tok1; have a2 := boxed1 HT1.out (i := 2) (v := .slice B m d) rfl; have b2 := boxed2 HT1.out (i := 2) (v := .slice B' m d') rfl)
    | (go_at_call 18; have _t := tok2; go_must (refine (intact_any a.qual _ _ _ _ _ _ (HA.out _ HT1.out.up).qual (by have h := (HC.out _ HT1.out.up).qual.rb; exact h) (by have := HLE.out; omega)).mono ?_); rintro e x2 ⟨rfl, hb2⟩; have HT2 := Lib.hid (HT1.out.later hb2); clear hb2 tok2; have a6 := boxed1 HT2.out (i := 6) (v := .slice D v q) rfl; have b6 := boxed2 HT2.out (i := 6) (v := .slice D' v q') rfl)
    | (go_at_call 18; go_must (refine (intact_any a.val _ _ _ _ _ _ (HA.out _ HT2.out.up).val (by have h := (HC.out _ HT2.out.up).val.rb; exact h) (by have := HLE.out; omega)).mono ?_); rintro e x3 ⟨rfl, hb3⟩; have HT3 := Lib.hid (HT2.out.later hb3); clear hb3))
  go_ret
  exact ⟨rfl, HT3.out.up⟩

theorem laid_any (l : List UInt8) (A : Option Addr) (n c N : Nat) (w : World) (hs : Sl w A n c l) (hN : N ≤ 1000000) :
    Calls Try.prog 13 #[.slice A n c, .int .i64 N] w (LaidPost (l.take N) w) := by
  have hl := hs.len
  by_cases h : n ≤ N
  · rw [List.take_of_length_le (by omega)]
    exact laid_at l A n n c N w hs (by omega) hs.cap (.inl ⟨h, rfl⟩)
  · exact laid_at (l.take N) A n N c N w (hs.take (by omega)) hN hs.cap (.inr ⟨by omega, rfl⟩)
def cutE (e : Ent) : Ent := { e with row := e.row.take 5000, qual := e.qual.take 5000, val := e.val.take 5000 }
def LaidE (e : Ent) (w : World) (r : Ending) (w' : World) : Prop := ∃ A c B d D q, r = .returned (entV A e.row.length c B e.qual.length d D e.val.length q e) ∧
  RowsB 5 w.heap.size w' [(A, c, e.row ++ mkL 70), (B, d, e.qual ++ mkL 70), (D, q, e.val ++ mkL 70)] ∧ Below w.heap.size w w'
set_option maxRecDepth 100000 in
set_option maxHeartbeats 2000000 in
theorem entry_any (e : Ent) (A : Option Addr) (n c : Nat) (B : Option Addr) (m d : Nat) (D : Option Addr) (v q : Nat) (w : World) (h : En w A n c B m d D v q e) :
    Calls Try.prog 21 #[entV A n c B m d D v q e] w (LaidE (cutE e) w) := by
  have HE : Hid (∀ x, Below w.heap.size w x → En x A n c B m d D v q e) := Lib.hid fun x hx => h.later hx
  have HX0 := Lib.hid (Bt.of (T := 5) (Bxs.two w 27 #[.slice A n c, .int .i64 e.fam, .slice B m d, .int .i64 e.ts, .int .i64 e.seq, .int .i64 e.kind, .slice D v q] #[.slice none 0 0, .int .i64 0, .slice none 0 0, .int .i64 0, .int .i64 0, .int .i64 0, .slice none 0 0]))
  obtain ⟨R1, q1⟩ : ∃ R, R = e.row.take 5000 := ⟨_, rfl⟩
  obtain ⟨R2, q2⟩ : ∃ R, R = e.qual.take 5000 := ⟨_, rfl⟩
  obtain ⟨R3, q3⟩ : ∃ R, R = e.val.take 5000 := ⟨_, rfl⟩
  have Q1 := Lib.hid q1
  have Q2 := Lib.hid q2
  have Q3 := Lib.hid q3
  have QE : Hid (cutE e = ⟨R1, e.fam, R2, e.ts, e.seq, e.kind, R3⟩) := Lib.hid (by rw [q1, q2, q3]; rfl)
  rw [QE.out]
  unfold entV
  have tok1 : True := trivial
  have tok2 : True := trivial
  clear h q1 q2 q3
  go_enter Try.func21, Try.ntmps21
  go_wp2_with (first
    | (go_at_call 13; have _t := tok1; go_must (refine (laid_any e.row _ _ _ 5000 _ (HE.out _ HX0.out.box.up).row (by decide)).mono ?_); rw [← Q1.out]; rintro e' x1 ⟨A1, c1, rfl, hO1, hb1⟩; have HX1 := Lib.hid (HX0.out.fresh hb1 hO1); clear hb1 hO1 tok1; have y0 := HX1.out.box.c0 (i := 0) (v := .slice A n c) rfl rfl; have z0 := HX1.out.box.c1 (i := 0) (v := .slice none 0 0) rfl rfl; have y1 := HX1.out.box.c0 (i := 1) (v := .int .i64 e.fam) rfl rfl; have z1 := HX1.out.box.c1 (i := 1) (v := .int .i64 0) rfl rfl; have y2 := HX1.out.box.c0 (i := 2) (v := .slice B m d) rfl rfl; have z2 := HX1.out.box.c1 (i := 2) (v := .slice none 0 0) rfl rfl; have y3 := HX1.out.box.c0 (i := 3) (v := .int .i64 e.ts) rfl rfl; have z3 := HX1.out.box.c1 (i := 3) (v := .int .i64 0) rfl rfl; have y4 := HX1.out.box.c0 (i := 4) (v := .int .i64 e.seq) rfl rfl; have z4 := HX1.out.box.c1 (i := 4) (v := .int .i64 0) rfl rfl; have y5 := HX1.out.box.c0 (i := 5) (v := .int .i64 e.kind) rfl rfl; have z5 := HX1.out.box.c1 (i := 5) (v := .int .i64 0) rfl rfl; have y6 := HX1.out.box.c0 (i := 6) (v := .slice D v q) rfl rfl; have z6 := HX1.out.box.c1 (i := 6) (v := .slice none 0 0) rfl rfl; have fy := HX1.out.box.f0 rfl; have fz := HX1.out.box.f1 rfl)
    | (go_at_call 13; have _t := tok2; go_must (refine (laid_any e.qual _ _ _ 5000 _ (HE.out _ (HX1.out.s0_0 (.slice A1 R1.length c1)).box.up).qual (by decide)).mono ?_); rw [← Q2.out]; rintro e' x2 ⟨A2, c2, rfl, hO2, hb2⟩; have HX2 := Lib.hid ((HX1.out.s0_0 (.slice A1 R1.length c1)).fresh hb2 hO2); clear hb2 hO2 tok2; clear y0 z0 y1 z1 y2 z2 y3 z3 y4 z4 y5 z5 y6 z6 fy fz; have y0 := HX2.out.box.c0 (i := 0) (v := .slice A1 R1.length c1) rfl rfl; have z0 := HX2.out.box.c1 (i := 0) (v := .slice none 0 0) rfl rfl; have y1 := HX2.out.box.c0 (i := 1) (v := .int .i64 e.fam) rfl rfl; have z1 := HX2.out.box.c1 (i := 1) (v := .int .i64 0) rfl rfl; have y2 := HX2.out.box.c0 (i := 2) (v := .slice B m d) rfl rfl; have z2 := HX2.out.box.c1 (i := 2) (v := .slice none 0 0) rfl rfl; have y3 := HX2.out.box.c0 (i := 3) (v := .int .i64 e.ts) rfl rfl; have z3 := HX2.out.box.c1 (i := 3) (v := .int .i64 0) rfl rfl; have y4 := HX2.out.box.c0 (i := 4) (v := .int .i64 e.seq) rfl rfl; have z4 := HX2.out.box.c1 (i := 4) (v := .int .i64 0) rfl rfl; have y5 := HX2.out.box.c0 (i := 5) (v := .int .i64 e.kind) rfl rfl; have z5 := HX2.out.box.c1 (i := 5) (v := .int .i64 0) rfl rfl; have y6 := HX2.out.box.c0 (i := 6) (v := .slice D v q) rfl rfl; have z6 := HX2.out.box.c1 (i := 6) (v := .slice none 0 0) rfl rfl; have fy := HX2.out.box.f0 rfl; have fz := HX2.out.box.f1 rfl)
    | (go_at_call 13; go_must (refine (laid_any e.val _ _ _ 5000 _ (HE.out _ (HX2.out.s0_2 (.slice A2 R2.length c2)).box.up).val (by decide)).mono ?_); rw [← Q3.out]; rintro e' x3 ⟨A3, c3, rfl, hO3, hb3⟩; have HX3 := Lib.hid ((HX2.out.s0_2 (.slice A2 R2.length c2)).fresh hb3 hO3); clear hb3 hO3; clear y0 z0 y1 z1 y2 z2 y3 z3 y4 z4 y5 z5 y6 z6 fy fz; have y0 := HX3.out.box.c0 (i := 0) (v := .slice A1 R1.length c1) rfl rfl; have z0 := HX3.out.box.c1 (i := 0) (v := .slice none 0 0) rfl rfl; have y1 := HX3.out.box.c0 (i := 1) (v := .int .i64 e.fam) rfl rfl; have z1 := HX3.out.box.c1 (i := 1) (v := .int .i64 0) rfl rfl; have y2 := HX3.out.box.c0 (i := 2) (v := .slice A2 R2.length c2) rfl rfl; have z2 := HX3.out.box.c1 (i := 2) (v := .slice none 0 0) rfl rfl; have y3 := HX3.out.box.c0 (i := 3) (v := .int .i64 e.ts) rfl rfl; have z3 := HX3.out.box.c1 (i := 3) (v := .int .i64 0) rfl rfl; have y4 := HX3.out.box.c0 (i := 4) (v := .int .i64 e.seq) rfl rfl; have z4 := HX3.out.box.c1 (i := 4) (v := .int .i64 0) rfl rfl; have y5 := HX3.out.box.c0 (i := 5) (v := .int .i64 e.kind) rfl rfl; have z5 := HX3.out.box.c1 (i := 5) (v := .int .i64 0) rfl rfl; have y6 := HX3.out.box.c0 (i := 6) (v := .slice D v q) rfl rfl; have z6 := HX3.out.box.c1 (i := 6) (v := .slice none 0 0) rfl rfl; have fy := HX3.out.box.f0 rfl; have fz := HX3.out.box.f1 rfl))
  (try simp only [Exit.inBlock, Exit.then])
  have HR := Lib.hid ((HX3.out.s0_6 (.slice A3 R3.length c3)).fill7_1 rfl (.slice A1 R1.length c1) (.int .i64 e.fam) (.slice A2 R2.length c2) (.int .i64 e.ts) (.int .i64 e.seq) (.int .i64 e.kind) (.slice A3 R3.length c3))
  refine bodyPost_ret (results_box0 rfl _ _ (w.heap.size + 1) _ rfl (HR.out.box.cells1 rfl) (by kernel_rfl) (by kernel_rfl)) rfl ?_
  exact ⟨A1, c1, A2, c2, A3, c3, rfl, rows_low HR.out.rows (Nat.le_add_right _ _), HR.out.box.up⟩

theorem LaidE.enm {e : Ent} {w w' : World} {A B D : Option Addr} {c d q : Nat} (h : RowsB 5 w.heap.size w' [(A, c, e.row ++ mkL 70), (B, d, e.qual ++ mkL 70), (D, q, e.val ++ mkL 70)]) (h1 : e.row.length ≤ 5000) (h2 : e.qual.length ≤ 5000) (h3 : e.val.length ≤ 5000) :
    EnM w' A e.row.length c B e.qual.length d D e.val.length q e :=
  ⟨h.sl_at (i := 0) rfl (by rw [List.length_append, mkL_len]), h.sl_at (i := 1) rfl (by rw [List.length_append, mkL_len]), h.sl_at (i := 2) rfl (by rw [List.length_append, mkL_len]), ⟨rfl, h1⟩, ⟨rfl, h2⟩, ⟨rfl, h3⟩⟩
theorem cut_len (l : List UInt8) : (l.take 5000).length ≤ 5000 := by rw [List.length_take]; omega
def plainE : Ent := ⟨[114], 1, [113], 5, 32, 1, [118]⟩
def PlainPost (w : World) (r : Ending) (w' : World) : Prop := ∃ A B D, r = .returned (entV A 1 1 B 1 1 D 1 1 plainE) ∧ En w' A 1 1 B 1 1 D 1 1 plainE ∧ Below w.heap.size w w'
theorem conv_const (W : World) (C : Array Value) (n c g : Nat) (hg : g = W.heap.size) : (convert 22 22 (.slice (some ⟨g, 0, none⟩) n c)).run Try.prog (W.alloc (.cells C 5)) = .ok (.slice (some ⟨g, 0, none⟩) n c) (W.alloc (.cells C 5 (C.size, C.size + 1))) := by
  subst hg; exact Lib.run_convert_bytes_const (P := Try.prog) W 22 5 C n c Try.underlying22 Try.underlying5
theorem three_lits (w : World) (o : Obj) (a b d : UInt8) (t : TypeId) (fr : Nat × Nat) : ∀ W, W = (((w.alloc o).alloc (.cells #[u8v a] t fr)).alloc (.cells #[u8v b] t fr)).alloc (.cells #[u8v d] t fr) →
    Sl W (some ⟨w.heap.size + 1, 0, none⟩) 1 1 [a] ∧ Sl W (some ⟨w.heap.size + 1 + 1, 0, none⟩) 1 1 [b] ∧ Sl W (some ⟨w.heap.size + 1 + 1 + 1, 0, none⟩) 1 1 [d] ∧ Below (w.alloc o).heap.size (w.alloc o) W := by
  rintro W rfl
  have hz : ∀ (x : World) (o : Obj), (x.alloc o).heap.size = x.heap.size + 1 := fun x o => by show (x.heap.push _).size = _; simp
  have hb : ∀ (x : World) (o : Obj), Below x.heap.size x (x.alloc o) := fun x o => (Below.refl _ x).alloc (Nat.le_refl _) o
  have s1 := Sl.lit (w.alloc o) #[u8v a] [a] t fr rfl rfl (by show (1 : Nat) ≤ 9223372036854775807; decide)
  have s2 := Sl.lit ((w.alloc o).alloc (.cells #[u8v a] t fr)) #[u8v b] [b] t fr rfl rfl (by show (1 : Nat) ≤ 9223372036854775807; decide)
  have s3 := Sl.lit (((w.alloc o).alloc (.cells #[u8v a] t fr)).alloc (.cells #[u8v b] t fr)) #[u8v d] [d] t fr rfl rfl (by show (1 : Nat) ≤ 9223372036854775807; decide)
  rw [hz w o] at s1
  rw [hz _ _, hz w o] at s2
  rw [hz _ _, hz _ _, hz w o] at s3
  exact ⟨(s1.later (hb _ _)).later (hb _ _), s2.later (hb _ _), s3, ((hb _ _).trans ((hb _ _).mono (by rw [hz (w.alloc o)]; omega))).trans ((hb _ _).mono (by rw [hz ((w.alloc o).alloc _), hz (w.alloc o)]; omega))⟩
set_option maxRecDepth 100000 in
set_option maxHeartbeats 2000000 in
theorem plain_any (w : World) : Calls Try.prog 46 #[] w (PlainPost w) := by
  have kc := conv_const
  go_enter Try.func46, Try.ntmps46
  go_wp2
  (try simp only [Exit.inBlock, Exit.then])
  obtain ⟨h1, h2, h3, hb⟩ := three_lits w (.cells #[.slice (some ⟨w.heap.size + 1, 0, none⟩) 1 1, .int .i64 1, .slice (some ⟨w.heap.size + 1 + 1, 0, none⟩) 1 1, .int .i64 5, .int .i64 32, .int .i64 1, .slice (some ⟨w.heap.size + 1 + 1 + 1, 0, none⟩) 1 1] 27) 114 113 118 5 (1, 2) _ rfl
  have HB := (Bxs.one w 27 #[.slice (some ⟨w.heap.size + 1, 0, none⟩) 1 1, .int .i64 1, .slice (some ⟨w.heap.size + 1 + 1, 0, none⟩) 1 1, .int .i64 5, .int .i64 32, .int .i64 1, .slice (some ⟨w.heap.size + 1 + 1 + 1, 0, none⟩) 1 1]).later hb
  refine bodyPost_ret (results_box0 rfl _ _ w.heap.size _ rfl (HB.cells0 rfl) (by kernel_rfl) (by kernel_rfl)) rfl ?_
  exact ⟨_, _, _, rfl, ⟨h1, h2, h3⟩, HB.up⟩
end Go.Proofs.Ytcikhlieaoanoaa

/-
  strataref2.number, first, Bytes, Compare walked. (Printed by gen_rcmp.py.)
-/
namespace Go.Proofs.Ytcikhlieaoanoaa
open Go.RowKit

set_option maxRecDepth 100000 in
theorem rnumber_any (x y : Int) (w : World) : Calls Try.prog 53 #[.int .i64 x, .int .i64 y] w fun e w' => e = .returned (.int .i64 (cmpI x y)) ∧ w = w' := by
  go_enter Try.func53, Try.ntmps53
  go_wp2
  all_goals (go_ret; refine ⟨ret_int ?_, rfl⟩; unfold cmpI; (repeat' split) <;> first | rfl | (exfalso; omega))
set_option maxRecDepth 100000 in
theorem rfirst_any (x y : Bool) (w : World) : Calls Try.prog 54 #[.bool x, .bool y] w fun e w' => e = .returned (.int .i64 (firstI x y)) ∧ w = w' := by
  cases x <;> cases y <;> (go_enter Try.func54, Try.ntmps54; go_wp2; go_ret; exact ⟨rfl, rfl⟩)

set_option maxRecDepth 100000 in
set_option maxHeartbeats 1000000 in
theorem rBcmp_any (a b : List UInt8) (A B : Option Addr) (n c m d : Nat) (w : World) (hn : n ≤ 9223372036854775807) (_hm : m ≤ 9223372036854775807) (ha : RB w w.heap.size A n a) (hb : RB w w.heap.size B m b) :
    Calls Try.prog 31 #[.slice A n c, .slice B m d] w fun e w' => e = .returned (.int .i64 (cmpB a b)) ∧ Below w.heap.size w w' := by
  have HLA := Lib.hid ha.len
  have HLB := Lib.hid hb.len
  have HA : Hid (∀ w', Below w.heap.size w w' → RB w' w'.heap.size A n a) := Lib.hid fun w' h => ha.later h
  have HB : Hid (∀ w', Below w.heap.size w w' → RB w' w'.heap.size B m b) := Lib.hid fun w' h => hb.later h
  clear ha hb
  go_enter Try.func31, Try.ntmps31
  go_wp2
  go_loopw [5] (fun i wr => ∃ k : Nat, k ≤ n ∧ k ≤ m ∧ i = .int .i64 k ∧ Hid (a.take k = b.take k) ∧ Hid (Below w.heap.size w wr)) (fun i _ => n - (intOf i).toNat)
  case atStart => exact ⟨0, Nat.zero_le _, Nat.zero_le _, rfl, Lib.hid rfl, Lib.hid (Below.refl _ _)⟩
  case round =>
    obtain ⟨k, hkn, hkm, rfl, HT, HW⟩ := hrel
    by_cases hlt : k < n
    case neg =>
      have HE := Lib.hid (cmp_end HT.out HLA.out HLB.out (by omega) hkm)
      have hd1 : decide ((k : Int) < (n : Int)) = false := decide_eq_false (by omega)
      have hd2 : decide (k < n) = false := decide_eq_false hlt
      have HE2 : Hid (cmpB a b = cmpI n m) := Lib.hid (by rw [HE.out]; unfold cmpI; (repeat' split) <;> first | rfl | omega)
      clear HE
      go_wp2_with (go_at_call 53; go_must (refine (rnumber_any _ _ _).mono ?_); rintro e w1 ⟨rfl, rfl⟩)
      go_ret
      exact ⟨by rw [HE2.out]; rfl, HW.out⟩
    have hd1 : decide ((k : Int) < (n : Int)) = true := decide_eq_true (by omega)
    have hd2 : decide (k < n) = true := decide_eq_true hlt
    by_cases hmt : k < m
    case neg =>
      have HE := Lib.hid (cmp_end2 HT.out HLA.out HLB.out (by omega) hlt)
      have hd3 : decide ((k : Int) < (m : Int)) = false := decide_eq_false (by omega)
      have hd4 : decide (k < m) = false := decide_eq_false hmt
      have HE2 : Hid (cmpB a b = cmpI n m) := Lib.hid (by rw [HE.out]; unfold cmpI; (repeat' split) <;> first | rfl | omega)
      clear HE
      go_wp2_with (go_at_call 53; go_must (refine (rnumber_any _ _ _).mono ?_); rintro e w1 ⟨rfl, rfl⟩)
      go_ret
      exact ⟨by rw [HE2.out]; rfl, HW.out⟩
    have hd3 : decide ((k : Int) < (m : Int)) = true := decide_eq_true (by omega)
    have hd4 : decide (k < m) = true := decide_eq_true hmt
    have hk1 : (k : Int) < (n : Int) := by omega
    have hk2 : (k : Int) < (m : Int) := by omega
    obtain ⟨b1, o1, x, rfl, _, hx, _⟩ := (HA.out _ HW.out).at_ hlt
    obtain ⟨b2, o2, y, rfl, _, hy, _⟩ := (HB.out _ HW.out).at_ hmt
    have HX := Lib.hid hx
    have HY := Lib.hid hy
    have HCX : Hid (∀ w', Below w.heap.size w w' → w'.cell? ⟨b1, o1 + k, none⟩ = some (.int .u8 (x.toNat : Int))) := Lib.hid fun w' h => (HA.out w' h).cell HX.out
    have HCY : Hid (∀ w', Below w.heap.size w w' → w'.cell? ⟨b2, o2 + k, none⟩ = some (.int .u8 (y.toNat : Int))) := Lib.hid fun w' h => (HB.out w' h).cell HY.out
    clear hx hy
    by_cases h1 : x.toNat < y.toNat
    · have HE := Lib.hid (cmp_lt_at HT.out HX.out HY.out h1)
      have c1 := HCX.out _ HW.out
      have c2 := HCY.out _ HW.out
      have e1 : decide ((x.toNat : Int) < (y.toNat : Int)) = true := decide_eq_true (by omega)
      have e2 : decide (x.toNat < y.toNat) = true := decide_eq_true h1
      go_wp2_with fail
      go_quiet (fail)
      have HW2 := Lib.hid (below_drewN (n := nq) HW.out)
      clear c1 c2
      generalize wr.drewN nq = w3 at *
      go_wp2
      go_ret
      exact ⟨by rw [HE.out]; rfl, HW2.out⟩
    have c1 := HCX.out _ HW.out
    have c2 := HCY.out _ HW.out
    have e1 : decide ((x.toNat : Int) < (y.toNat : Int)) = false := decide_eq_false (by omega)
    have e2 : decide (x.toNat < y.toNat) = false := decide_eq_false h1
    go_wp2_with fail
    go_quiet (fail)
    have HW2 := Lib.hid (below_drewN (n := nq) HW.out)
    clear c1 c2
    generalize wr.drewN nq = w3 at *
    have c1 := HCX.out _ HW2.out
    have c2 := HCY.out _ HW2.out
    by_cases h2 : y.toNat < x.toNat
    · have HE := Lib.hid (cmp_gt_at HT.out HX.out HY.out h2)
      have e3 : decide ((y.toNat : Int) < (x.toNat : Int)) = true := decide_eq_true (by omega)
      have e4 : decide (y.toNat < x.toNat) = true := decide_eq_true h2
      go_wp2_with fail
      go_quiet (fail)
      have HW3 := Lib.hid (below_drewN (n := nq) HW2.out)
      clear c1 c2
      generalize w3.drewN nq = w4 at *
      go_wp2
      go_ret
      exact ⟨by rw [HE.out]; rfl, HW3.out⟩
    obtain rfl := UInt8.toNat_inj.1 (show x.toNat = y.toNat by omega)
    have HE := Lib.hid (cmp_eq_at HT.out HX.out HY.out)
    have e3 : decide ((x.toNat : Int) < (x.toNat : Int)) = false := decide_eq_false (by omega)
    have e4 : decide (x.toNat < x.toNat) = false := decide_eq_false h2
    go_wp2_with fail
    go_quiet (fail)
    have HW3 := Lib.hid (below_drewN (n := nq) HW2.out)
    clear c1 c2
    generalize w3.drewN nq = w4 at *
    go_wp2
    go_roundw
    case rel => exact ⟨k + 1, by omega, by omega, by go_num, HE, HW3⟩
    case measure => simp [intOf]; omega

theorem two_facts {w x : World} {A : Option Addr} {n c : Nat} {B : Option Addr} {m d : Nat} {D : Option Addr} {v q : Nat} {A' : Option Addr} {n' c' : Nat} {B' : Option Addr} {m' d' : Nat} {D' : Option Addr} {v' q' : Nat} {a b : Ent} (h : Two w 27 #[.slice A n c, .int .i64 a.fam, .slice B m d, .int .i64 a.ts, .int .i64 a.seq, .int .i64 a.kind, .slice D v q] #[.slice A' n' c', .int .i64 b.fam, .slice B' m' d', .int .i64 b.ts, .int .i64 b.seq, .int .i64 b.kind, .slice D' v' q'] x) : x.cell? ⟨w.heap.size, 0, none⟩ = some (.slice A n c) ∧ x.cell? ⟨w.heap.size, 1, none⟩ = some (.int .i64 a.fam) ∧ x.cell? ⟨w.heap.size, 2, none⟩ = some (.slice B m d) ∧ x.cell? ⟨w.heap.size, 3, none⟩ = some (.int .i64 a.ts) ∧ x.cell? ⟨w.heap.size, 4, none⟩ = some (.int .i64 a.seq) ∧ x.cell? ⟨w.heap.size, 5, none⟩ = some (.int .i64 a.kind) ∧ x.cell? ⟨w.heap.size + 1, 0, none⟩ = some (.slice A' n' c') ∧ x.cell? ⟨w.heap.size + 1, 1, none⟩ = some (.int .i64 b.fam) ∧ x.cell? ⟨w.heap.size + 1, 2, none⟩ = some (.slice B' m' d') ∧ x.cell? ⟨w.heap.size + 1, 3, none⟩ = some (.int .i64 b.ts) ∧ x.cell? ⟨w.heap.size + 1, 4, none⟩ = some (.int .i64 b.seq) ∧ x.cell? ⟨w.heap.size + 1, 5, none⟩ = some (.int .i64 b.kind) ∧ Two w 27 #[.slice A n c, .int .i64 a.fam, .slice B m d, .int .i64 a.ts, .int .i64 a.seq, .int .i64 a.kind, .slice D v q] #[.slice A' n' c', .int .i64 b.fam, .slice B' m' d', .int .i64 b.ts, .int .i64 b.seq, .int .i64 b.kind, .slice D' v' q'] x :=
  ⟨boxed1 h (i := 0) (v := .slice A n c) rfl, boxed1 h (i := 1) (v := .int .i64 a.fam) rfl, boxed1 h (i := 2) (v := .slice B m d) rfl, boxed1 h (i := 3) (v := .int .i64 a.ts) rfl, boxed1 h (i := 4) (v := .int .i64 a.seq) rfl, boxed1 h (i := 5) (v := .int .i64 a.kind) rfl, boxed2 h (i := 0) (v := .slice A' n' c') rfl, boxed2 h (i := 1) (v := .int .i64 b.fam) rfl, boxed2 h (i := 2) (v := .slice B' m' d') rfl, boxed2 h (i := 3) (v := .int .i64 b.ts) rfl, boxed2 h (i := 4) (v := .int .i64 b.seq) rfl, boxed2 h (i := 5) (v := .int .i64 b.kind) rfl, h⟩

set_option maxRecDepth 100000 in
set_option maxHeartbeats 4000000 in
theorem rcompare_any (a b : Ent) (A : Option Addr) (n c : Nat) (B : Option Addr) (m d : Nat) (D : Option Addr) (v q : Nat) (A' : Option Addr) (n' c' : Nat) (B' : Option Addr) (m' d' : Nat) (D' : Option Addr) (v' q' : Nat) (w : World) (ha : En w A n c B m d D v q a) (hb : En w A' n' c' B' m' d' D' v' q' b) :
    Calls Try.prog 23 #[entV A n c B m d D v q a, entV A' n' c' B' m' d' D' v' q' b] w fun e w1 => e = .returned (.int .i64 (cmpE a b)) ∧ Below w.heap.size w w1 := by
  have HA : Hid (∀ w1, Below w.heap.size w w1 → En w1 A n c B m d D v q a) := Lib.hid fun _ h => ha.later h
  have HC : Hid (∀ w1, Below w.heap.size w w1 → En w1 A' n' c' B' m' d' D' v' q' b) := Lib.hid fun _ h => hb.later h
  have HT := Lib.hid (Two.new w 27 #[.slice A n c, .int .i64 a.fam, .slice B m d, .int .i64 a.ts, .int .i64 a.seq, .int .i64 a.kind, .slice D v q] #[.slice A' n' c', .int .i64 b.fam, .slice B' m' d', .int .i64 b.ts, .int .i64 b.seq, .int .i64 b.kind, .slice D' v' q'])
  have l1 := ha.row.le
  have l2 := ha.qual.le
  have l3 := hb.row.le
  have l4 := hb.qual.le
  have HL : Hid (n ≤ 9223372036854775807 ∧ m ≤ 9223372036854775807 ∧ n' ≤ 9223372036854775807 ∧ m' ≤ 9223372036854775807) := Lib.hid ⟨l1, l2, l3, l4⟩
  unfold entV
  clear ha hb l1 l2 l3 l4
  have tok1 : True := trivial
  go_enter Try.func23, Try.ntmps23
  go_wp2_with fail
  go_region_held3 (fun x => x.cell? ⟨w.heap.size, 0, none⟩ = some (.slice A n c) ∧ x.cell? ⟨w.heap.size, 1, none⟩ = some (.int .i64 a.fam) ∧ x.cell? ⟨w.heap.size, 2, none⟩ = some (.slice B m d) ∧ x.cell? ⟨w.heap.size, 3, none⟩ = some (.int .i64 a.ts) ∧ x.cell? ⟨w.heap.size, 4, none⟩ = some (.int .i64 a.seq) ∧ x.cell? ⟨w.heap.size, 5, none⟩ = some (.int .i64 a.kind) ∧ x.cell? ⟨w.heap.size + 1, 0, none⟩ = some (.slice A' n' c') ∧ x.cell? ⟨w.heap.size + 1, 1, none⟩ = some (.int .i64 b.fam) ∧ x.cell? ⟨w.heap.size + 1, 2, none⟩ = some (.slice B' m' d') ∧ x.cell? ⟨w.heap.size + 1, 3, none⟩ = some (.int .i64 b.ts) ∧ x.cell? ⟨w.heap.size + 1, 4, none⟩ = some (.int .i64 b.seq) ∧ x.cell? ⟨w.heap.size + 1, 5, none⟩ = some (.int .i64 b.kind) ∧ Two w 27 #[.slice A n c, .int .i64 a.fam, .slice B m d, .int .i64 a.ts, .int .i64 a.seq, .int .i64 a.kind, .slice D v q] #[.slice A' n' c', .int .i64 b.fam, .slice B' m' d', .int .i64 b.ts, .int .i64 b.seq, .int .i64 b.kind, .slice D' v' q'] x) (first | assumption | exact two_facts (HT.out.later (Below.refl _ _).drew) | exact two_facts (Two.later (‹_ ∧ _ ∧ _ ∧ _ ∧ _ ∧ _ ∧ _ ∧ _ ∧ _ ∧ _ ∧ _ ∧ _ ∧ Two _ _ _ _ _›).2.2.2.2.2.2.2.2.2.2.2.2 hb1) | exact two_facts (Two.later (‹_ ∧ _ ∧ _ ∧ _ ∧ _ ∧ _ ∧ _ ∧ _ ∧ _ ∧ _ ∧ _ ∧ _ ∧ Two _ _ _ _ _›).2.2.2.2.2.2.2.2.2.2.2.2 hb2) | exact two_facts (Two.later (‹_ ∧ _ ∧ _ ∧ _ ∧ _ ∧ _ ∧ _ ∧ _ ∧ _ ∧ _ ∧ _ ∧ _ ∧ Two _ _ _ _ _›).2.2.2.2.2.2.2.2.2.2.2.2 ((Below.refl _ _).alloc (Nat.le_refl _) _))) (first
    | (go_at_call 31; have _t := tok1; refine (rBcmp_any a.row b.row _ _ _ _ _ _ _ HL.out.1 HL.out.2.2.1 (HA.out _ (‹_ ∧ _ ∧ _ ∧ _ ∧ _ ∧ _ ∧ _ ∧ _ ∧ _ ∧ _ ∧ _ ∧ _ ∧ Two _ _ _ _ _›).2.2.2.2.2.2.2.2.2.2.2.2.up).row.rb (HC.out _ (‹_ ∧ _ ∧ _ ∧ _ ∧ _ ∧ _ ∧ _ ∧ _ ∧ _ ∧ _ ∧ _ ∧ _ ∧ Two _ _ _ _ _›).2.2.2.2.2.2.2.2.2.2.2.2.up).row.rb).mono ?_; rintro e x1 ⟨rfl, hb1⟩; clear tok1)
    | (go_at_call 31; refine (rBcmp_any a.qual b.qual _ _ _ _ _ _ _ HL.out.2.1 HL.out.2.2.2 (HA.out _ (‹_ ∧ _ ∧ _ ∧ _ ∧ _ ∧ _ ∧ _ ∧ _ ∧ _ ∧ _ ∧ _ ∧ _ ∧ Two _ _ _ _ _›).2.2.2.2.2.2.2.2.2.2.2.2.up).qual.rb (HC.out _ (‹_ ∧ _ ∧ _ ∧ _ ∧ _ ∧ _ ∧ _ ∧ _ ∧ _ ∧ _ ∧ _ ∧ _ ∧ Two _ _ _ _ _›).2.2.2.2.2.2.2.2.2.2.2.2.up).qual.rb).mono ?_; rintro e x2 ⟨rfl, hb2⟩)
    | (go_at_call 53; refine (rnumber_any _ _ _).mono ?_; rintro e xn ⟨rfl, rfl⟩)
    | (go_at_call 54; refine (rfirst_any _ _ _).mono ?_; rintro e xn ⟨rfl, rfl⟩))
  all_goals
    have HW := Lib.hid (‹_ ∧ _ ∧ _ ∧ _ ∧ _ ∧ _ ∧ _ ∧ _ ∧ _ ∧ _ ∧ _ ∧ _ ∧ Two _ _ _ _ _›).2.2.2.2.2.2.2.2.2.2.2.2.up
    clear HA HC HT HL
    generalize hs0 : cmpB a.row b.row = s0 at HW ⊢
    have Q0 : Hid (stepC a b 0 = s0) := Lib.hid hs0
    generalize hs1 : cmpI a.fam b.fam = s1 at HW ⊢
    have Q1 : Hid (stepC a b 1 = s1) := Lib.hid hs1
    generalize hs2 : firstI (a.kind == 5) (b.kind == 5) = s2 at HW ⊢
    have Q2 : Hid (stepC a b 2 = s2) := Lib.hid hs2
    generalize hs3 : cmpB a.qual b.qual = s3 at HW ⊢
    have Q3 : Hid (stepC a b 3 = s3) := Lib.hid hs3
    generalize hs4 : firstI (a.kind == 4) (b.kind == 4) = s4 at HW ⊢
    have Q4 : Hid (stepC a b 4 = s4) := Lib.hid hs4
    generalize hs5 : cmpI b.ts a.ts = s5 at HW ⊢
    have Q5 : Hid (stepC a b 5 = s5) := Lib.hid hs5
    generalize hs6 : cmpI b.seq a.seq = s6 at HW ⊢
    have Q6 : Hid (stepC a b 6 = s6) := Lib.hid hs6
    generalize hs7 : cmpI a.kind b.kind = s7 at HW ⊢
    have Q7 : Hid (stepC a b 7 = s7) := Lib.hid hs7
    clear hs0 hs1 hs2 hs3 hs4 hs5 hs6 hs7
    obtain ⟨X, hX⟩ : ∃ X, X = x2.alloc (.cells #[.int .i64 s0, .int .i64 s1, .int .i64 s2, .int .i64 s3, .int .i64 s4, .int .i64 s5, .int .i64 s6, .int .i64 s7] 3) := ⟨_, rfl⟩
    rw [← hX] at HW ⊢
    have p0 : X.cell? ⟨x2.heap.size, 0, none⟩ = some (.int .i64 s0) := by rw [hX]; simp
    have p1 : X.cell? ⟨x2.heap.size, 1, none⟩ = some (.int .i64 s1) := by rw [hX]; simp
    have p2 : X.cell? ⟨x2.heap.size, 2, none⟩ = some (.int .i64 s2) := by rw [hX]; simp
    have p3 : X.cell? ⟨x2.heap.size, 3, none⟩ = some (.int .i64 s3) := by rw [hX]; simp
    have p4 : X.cell? ⟨x2.heap.size, 4, none⟩ = some (.int .i64 s4) := by rw [hX]; simp
    have p5 : X.cell? ⟨x2.heap.size, 5, none⟩ = some (.int .i64 s5) := by rw [hX]; simp
    have p6 : X.cell? ⟨x2.heap.size, 6, none⟩ = some (.int .i64 s6) := by rw [hX]; simp
    have p7 : X.cell? ⟨x2.heap.size, 7, none⟩ = some (.int .i64 s7) := by rw [hX]; simp
    clear hX
    generalize x2.heap.size = g at p0 p1 p2 p3 p4 p5 p6 p7 ⊢
    go_wp2_with fail
    go_loop [6] (fun i => ∃ k : Nat, k ≤ 8 ∧ i = .int .i64 k ∧ Hid (∀ i, i < k → stepC a b i = 0)) (fun i => 8 - (intOf i).toNat)
    case atStart => exact ⟨0, by decide, rfl, Lib.hid fun i hi => absurd hi (Nat.not_lt_zero _)⟩
    case round =>
      obtain ⟨k, hk, hi, HF⟩ := hrel
      have hk' : k = 0 ∨ k = 1 ∨ k = 2 ∨ k = 3 ∨ k = 4 ∨ k = 5 ∨ k = 6 ∨ k = 7 ∨ k = 8 := by omega
      clear hk
      rcases hk' with rfl | rfl | rfl | rfl | rfl | rfl | rfl | rfl | rfl
      case inr.inr.inr.inr.inr.inr.inr.inr =>
        replace hi : _ = Value.int .i64 8 := hi
        subst hi
        have HZ := Lib.hid (cmpE_none a b HF.out)
        clear HF
        go_wp2
        go_ret
        exact ⟨by rw [HZ.out]; rfl, HW.out⟩
      case inl =>
        replace hi : _ = Value.int .i64 0 := hi
        subst hi
        by_cases hz : s0 = 0
        · have HZ : Hid (∀ i, i < 1 → stepC a b i = 0) := Lib.hid fun i hi => if h : i = 0 then h ▸ (Q0.out.trans hz) else HF.out i (by omega)
          have t2 : (s0 != 0) = false := by simpa using hz
          clear hz HF
          go_wp2
          go_round
          case measure => decide
          case rel => exact ⟨1, by omega, rfl, HZ⟩
        · have HZ : Hid (s0 = cmpE a b) := Lib.hid (Q0.out ▸ cmpE_first a b 0 (by decide) HF.out (by rw [Q0.out]; exact hz))
          have t2 : (s0 != 0) = true := by simpa using hz
          clear HF hz
          go_wp2
          go_ret
          exact ⟨by rw [← HZ.out]; rfl, HW.out⟩
      case inr.inl =>
        replace hi : _ = Value.int .i64 1 := hi
        subst hi
        by_cases hz : s1 = 0
        · have HZ : Hid (∀ i, i < 2 → stepC a b i = 0) := Lib.hid fun i hi => if h : i = 1 then h ▸ (Q1.out.trans hz) else HF.out i (by omega)
          have t2 : (s1 != 0) = false := by simpa using hz
          clear hz HF
          go_wp2
          go_round
          case measure => decide
          case rel => exact ⟨2, by omega, rfl, HZ⟩
        · have HZ : Hid (s1 = cmpE a b) := Lib.hid (Q1.out ▸ cmpE_first a b 1 (by decide) HF.out (by rw [Q1.out]; exact hz))
          have t2 : (s1 != 0) = true := by simpa using hz
          clear HF hz
          go_wp2
          go_ret
          exact ⟨by rw [← HZ.out]; rfl, HW.out⟩
      case inr.inr.inl =>
        replace hi : _ = Value.int .i64 2 := hi
        subst hi
        by_cases hz : s2 = 0
        · have HZ : Hid (∀ i, i < 3 → stepC a b i = 0) := Lib.hid fun i hi => if h : i = 2 then h ▸ (Q2.out.trans hz) else HF.out i (by omega)
          have t2 : (s2 != 0) = false := by simpa using hz
          clear hz HF
          go_wp2
          go_round
          case measure => decide
          case rel => exact ⟨3, by omega, rfl, HZ⟩
        · have HZ : Hid (s2 = cmpE a b) := Lib.hid (Q2.out ▸ cmpE_first a b 2 (by decide) HF.out (by rw [Q2.out]; exact hz))
          have t2 : (s2 != 0) = true := by simpa using hz
          clear HF hz
          go_wp2
          go_ret
          exact ⟨by rw [← HZ.out]; rfl, HW.out⟩
      case inr.inr.inr.inl =>
        replace hi : _ = Value.int .i64 3 := hi
        subst hi
        by_cases hz : s3 = 0
        · have HZ : Hid (∀ i, i < 4 → stepC a b i = 0) := Lib.hid fun i hi => if h : i = 3 then h ▸ (Q3.out.trans hz) else HF.out i (by omega)
          have t2 : (s3 != 0) = false := by simpa using hz
          clear hz HF
          go_wp2
          go_round
          case measure => decide
          case rel => exact ⟨4, by omega, rfl, HZ⟩
        · have HZ : Hid (s3 = cmpE a b) := Lib.hid (Q3.out ▸ cmpE_first a b 3 (by decide) HF.out (by rw [Q3.out]; exact hz))
          have t2 : (s3 != 0) = true := by simpa using hz
          clear HF hz
          go_wp2
          go_ret
          exact ⟨by rw [← HZ.out]; rfl, HW.out⟩
      case inr.inr.inr.inr.inl =>
        replace hi : _ = Value.int .i64 4 := hi
        subst hi
        by_cases hz : s4 = 0
        · have HZ : Hid (∀ i, i < 5 → stepC a b i = 0) := Lib.hid fun i hi => if h : i = 4 then h ▸ (Q4.out.trans hz) else HF.out i (by omega)
          have t2 : (s4 != 0) = false := by simpa using hz
          clear hz HF
          go_wp2
          go_round
          case measure => decide
          case rel => exact ⟨5, by omega, rfl, HZ⟩
        · have HZ : Hid (s4 = cmpE a b) := Lib.hid (Q4.out ▸ cmpE_first a b 4 (by decide) HF.out (by rw [Q4.out]; exact hz))
          have t2 : (s4 != 0) = true := by simpa using hz
          clear HF hz
          go_wp2
          go_ret
          exact ⟨by rw [← HZ.out]; rfl, HW.out⟩
      case inr.inr.inr.inr.inr.inl =>
        replace hi : _ = Value.int .i64 5 := hi
        subst hi
        by_cases hz : s5 = 0
        · have HZ : Hid (∀ i, i < 6 → stepC a b i = 0) := Lib.hid fun i hi => if h : i = 5 then h ▸ (Q5.out.trans hz) else HF.out i (by omega)
          have t2 : (s5 != 0) = false := by simpa using hz
          clear hz HF
          go_wp2
          go_round
          case measure => decide
          case rel => exact ⟨6, by omega, rfl, HZ⟩
        · have HZ : Hid (s5 = cmpE a b) := Lib.hid (Q5.out ▸ cmpE_first a b 5 (by decide) HF.out (by rw [Q5.out]; exact hz))
          have t2 : (s5 != 0) = true := by simpa using hz
          clear HF hz
          go_wp2
          go_ret
          exact ⟨by rw [← HZ.out]; rfl, HW.out⟩
      case inr.inr.inr.inr.inr.inr.inl =>
        replace hi : _ = Value.int .i64 6 := hi
        subst hi
        by_cases hz : s6 = 0
        · have HZ : Hid (∀ i, i < 7 → stepC a b i = 0) := Lib.hid fun i hi => if h : i = 6 then h ▸ (Q6.out.trans hz) else HF.out i (by omega)
          have t2 : (s6 != 0) = false := by simpa using hz
          clear hz HF
          go_wp2
          go_round
          case measure => decide
          case rel => exact ⟨7, by omega, rfl, HZ⟩
        · have HZ : Hid (s6 = cmpE a b) := Lib.hid (Q6.out ▸ cmpE_first a b 6 (by decide) HF.out (by rw [Q6.out]; exact hz))
          have t2 : (s6 != 0) = true := by simpa using hz
          clear HF hz
          go_wp2
          go_ret
          exact ⟨by rw [← HZ.out]; rfl, HW.out⟩
      case inr.inr.inr.inr.inr.inr.inr.inl =>
        replace hi : _ = Value.int .i64 7 := hi
        subst hi
        by_cases hz : s7 = 0
        · have HZ : Hid (∀ i, i < 8 → stepC a b i = 0) := Lib.hid fun i hi => if h : i = 7 then h ▸ (Q7.out.trans hz) else HF.out i (by omega)
          have t2 : (s7 != 0) = false := by simpa using hz
          clear hz HF
          go_wp2
          go_round
          case measure => decide
          case rel => exact ⟨8, by omega, rfl, HZ⟩
        · have HZ : Hid (s7 = cmpE a b) := Lib.hid (Q7.out ▸ cmpE_first a b 7 (by decide) HF.out (by rw [Q7.out]; exact hz))
          have t2 : (s7 != 0) = true := by simpa using hz
          clear HF hz
          go_wp2
          go_ret
          exact ⟨by rw [← HZ.out]; rfl, HW.out⟩
end Go.Proofs.Ytcikhlieaoanoaa

/-
  cell.Pack, Start, Behind walked. (Printed by gen_pack.py.)
-/
namespace Go.Proofs.Ytcikhlieaoanoaa
open Go.RowKit

theorem keepB1 {w x y z : World} {cs : Array Value} {p : Addr} {a : Value} (h : x.cell? p = some a ∧ Bx w cs x ∧ Below z.heap.size z x) (k : Below x.heap.size x y) : y.cell? p = some a ∧ Bx w cs y ∧ Below z.heap.size z y :=
  ⟨cell_below k h.1, h.2.1.later k, h.2.2.trans (k.mono h.2.2.size)⟩
theorem keepG1 {w x y z : World} {cs : Array Value} {i : Nat} {a : Value} {e : TypeId} {s n : Nat} {v : Value} {xs : List Value} (h : x.cell? ⟨w.heap.size, i, none⟩ = some a ∧ Bx w cs x ∧ Below z.heap.size z x) (hz : Bx w cs z) (hown : x.ownsRow z.heap.size e s v n xs) (hg : x.grownBy y v.ownBlock) :
    y.cell? ⟨w.heap.size, i, none⟩ = some a ∧ Bx w cs y ∧ Below z.heap.size z y := by
  have hne : some w.heap.size ≠ v.ownBlock := fun e => by
    have h1 := (hown.lt _ e.symm).1
    have h2 := hz.size
    omega
  exact ⟨hg.cell h.1 hne, h.2.1.grow (own_low hown hz.size) hg, below_app h.2.2 hown hg h.2.2.size (Nat.le_refl _)⟩
set_option maxRecDepth 100000 in
set_option maxHeartbeats 1000000 in
theorem pack_any (e : Ent) (A : Option Addr) (n c : Nat) (B : Option Addr) (m d : Nat) (D : Option Addr) (v q : Nat) (w : World) (h : En w A n c B m d D v q e) :
    Calls Try.prog 35 #[entV A n c B m d D v q e] w (BytesPost2 5 (PackE e).1 (PackE e).2 w) := by
  have HX0 := Lib.hid (Bx.new w #[.slice A n c, .int .i64 e.fam, .slice B m d, .int .i64 e.ts, .int .i64 e.seq, .int .i64 e.kind, .slice D v q] 27)
  have HE : Hid (∀ x, Below w.heap.size w x → En x A n c B m d D v q e) := Lib.hid fun x hx => h.later hx
  have hvl := h.val.len
  unfold PackE entV
  by_cases hc : checkE e = 0
  · rw [if_pos hc]
    have HK : Hid (KeyE e = (keyE e, 0)) := Lib.hid (by unfold KeyE; rw [if_pos hc])
    have HLEN : Hid ((keyE e).length ≤ 1048 ∧ v ≤ 4096 ∧ (uintB (keyE e).length).length ≤ 10 ∧ (uintB e.val.length).length ≤ 10 ∧ e.val.length = v) := Lib.hid (by
      have h1 := keyE_len (ok_of hc); have h2 := (ok_of hc).val.1
      exact ⟨h1, by omega, uintB_ten (by omega), uintB_ten (by omega), hvl⟩)
    obtain ⟨L1, hL1⟩ : ∃ L, L = uintB (keyE e).length ++ keyE e := ⟨_, rfl⟩
    obtain ⟨L2, hL2⟩ : ∃ L, L = uintB e.val.length ++ e.val := ⟨_, rfl⟩
    have X1 := Lib.hid hL1
    have X2 := Lib.hid hL2
    have XL : Hid (L1.length ≤ 1058 ∧ L2.length ≤ 4106) := Lib.hid (by have := HLEN.out; rw [hL1, hL2]; simp only [List.length_append]; omega)
    have XP : Hid (packB e = L1 ++ L2) := Lib.hid (by rw [hL1, hL2]; rfl)
    rw [XP.out]
    clear hL1 hL2
    clear h hc hvl
    go_enter Try.func35, Try.ntmps35
    have tok1 : True := trivial
    go_wp2_with (go_at_call 25; go_must (refine (key_any e A n c B m d D v q _ (HE.out _ HX0.out.up)).mono ?_); rw [HK.out]; rintro e' x1 hp; obtain ⟨A1, c1, rfl, hS1, _, hb1⟩ := hp.at_ (n := (keyE e).length) rfl rfl; have HX1 := Lib.hid (HX0.out.later hb1); have HS1 := Lib.hid hS1; clear hb1 hp hS1; have y6 := HX1.out.cell (i := 6) (v := .slice D v q) rfl)
    go_region_held3 (fun x => x.cell? ⟨w.heap.size, 6, none⟩ = some (.slice D v q) ∧ Bx w #[.slice A n c, .int .i64 e.fam, .slice B m d, .int .i64 e.ts, .int .i64 e.seq, .int .i64 e.kind, .slice D v q] x ∧ Below x1.heap.size x1 x) (first | assumption | exact ⟨y6, HX1.out.later (Below.refl _ _).drew, (Below.refl _ _).drew⟩ | exact keepB1 ‹_ ∧ Bx _ _ _ ∧ Below _ _ _› hb2 | exact keepB1 ‹_ ∧ Bx _ _ _ ∧ Below _ _ _› hb3 | exact keepG1 ‹_ ∧ Bx _ _ _ ∧ Below _ _ _› HX1.out (own_below hO2 hb3) hg4) (first
      | (go_at_call 62; have _t := tok1; refine (bytes_any (keyE e) A1 _ c1 _ (by have := HLEN.out; omega) (HS1.out.later (‹_ ∧ Bx _ _ _ ∧ Below _ _ _›).2.2).rb).mono ?_; rw [← X1.out]; rintro e' x2 ⟨A2, c2, rfl, hO2, hb2⟩; have hO2 := own_low hO2 (‹_ ∧ Bx _ _ _ ∧ Below _ _ _›).2.2.size; clear tok1)
      | (go_at_call 62; refine (bytes_any e.val D v q _ (by have := HLEN.out; omega) (HE.out _ (‹_ ∧ Bx _ _ _ ∧ Below _ _ _›).2.1.up).val.rb).mono ?_; rw [← X2.out]; rintro e' x3 ⟨A3, c3, rfl, hO3, hb3⟩)
      | (refine step_append_cells _ (by rfl) _ _ (by rfl) Try.u8s' x1.heap.size (.slice A2 L1.length c2) L1.length (u8s (L1)) (by rfl) (own_below hO2 hb3) x3.heap.size A3 L2.length c3 (u8s (L2)) (by rfl) (RB.own hO3) (u8s_one _) (by have := XL.out; unfold maxLen; omega) (by have := XL.out; omega) (Nat.le_trans (‹_ ∧ Bx _ _ _ ∧ Below _ _ x3›).2.2.size (Nat.le_refl _)) ?_; intro v4 x4 hown4 hg4 hat4 hold4 hcell4))
    all_goals
      obtain ⟨-, -, hb4⟩ := ‹_ ∧ Bx _ _ _ ∧ Below _ _ x4›
      rw [← u8s_append] at hown4
      have HO4 := Lib.hid hown4
      have HB4 := Lib.hid (HX1.out.up.trans (hb4.mono HX1.out.up.size))
      clear hown4 hg4 hat4 hold4 hcell4 hb4 hO2 hO3 hb2 hb3 y6
      go_wp2_with fail
      go_ret2
      exact bytes_post2 (own_low HO4.out HX1.out.up.size) HB4.out
  · rw [if_neg hc]
    obtain ⟨z, hz⟩ : ∃ z, z = checkE e := ⟨_, rfl⟩
    have HK : Hid (KeyE e = ([], z)) := Lib.hid (by unfold KeyE; rw [if_neg hc, hz])
    have hd : (z != 0) = true := by rw [bne_iff_ne, hz]; exact hc
    rw [← hz]
    clear h hc hz hvl
    go_enter Try.func35, Try.ntmps35
    go_wp2_with (go_at_call 25; go_must (refine (key_any e A n c B m d D v q _ (HE.out _ HX0.out.up)).mono ?_); rw [HK.out]; rintro e' x1 hp; obtain ⟨A1, c1, rfl, hS1, _, hb1⟩ := hp.at_ (n := 0) rfl rfl; have HX1 := Lib.hid (HX0.out.later hb1); clear hb1 hp hS1)
    go_ret2
    exact bytes_none2 HX1.out.up

set_option maxRecDepth 100000 in
set_option maxHeartbeats 1000000 in
theorem cstart_any (l : List UInt8) (A : Option Addr) (n c : Nat) (w : World) (hs : Sl w A n c l) (hn : n ≤ 140737488355000) :
    Calls Try.prog 26 #[.slice A n c] w (BytesPost2 5 (StartE l).1 (StartE l).2 w) := by
  have hl := hs.len
  have HR := Lib.hid hs.rb
  unfold StartE
  by_cases h : outI n 1 256 = true
  · rw [if_pos (by have := outI_pos h; omega)]
    clear hs hl HR
    go_enter Try.func26, Try.ntmps26
    go_wp2_with (go_at_call 58; go_must (refine (cOutside_any _ _ _ _).mono ?_); rintro e w' ⟨rfl, rfl⟩)
    go_ret2
    exact bytes_none2 (Below.refl _ _)
  · have hb : outI n 1 256 = false := by simpa using h
    have hlim := outI_no hb
    rw [if_neg (by omega)]
    have HN : Hid (n ≤ 256) := Lib.hid (by omega)
    clear hs hl h hlim
    go_enter Try.func26, Try.ntmps26
    go_wp2_with (first
      | (go_at_call 58; go_must (refine (cOutside_any _ _ _ _).mono ?_); rintro e w' ⟨rfl, rfl⟩)
      | (go_at_call 55; go_must (refine (ordered_any l A n c _ (by have := HN.out; omega) HR.out).mono ?_); rintro e w1 ⟨A1, c1, rfl, hO1, hb1⟩; have HO1 := Lib.hid hO1; have HB1 := Lib.hid hb1; clear hO1 hb1))
    go_ret2
    exact ⟨A1, c1, rfl, HO1.out, HB1.out⟩
set_option maxRecDepth 100000 in
set_option maxHeartbeats 1000000 in
theorem cbehind_any (l : List UInt8) (A : Option Addr) (n c : Nat) (w : World) (hs : Sl w A n c l) (hn : n ≤ 140737488355000) :
    Calls Try.prog 27 #[.slice A n c] w (BytesPost2 5 (BehindE l).1 (BehindE l).2 w) := by
  have HS := Lib.hid hs
  unfold BehindE
  by_cases h : l.length < 1 ∨ 256 < l.length
  · rw [if_pos h]
    have HE : Hid (StartE l = ([], 20)) := Lib.hid (by unfold StartE; rw [if_pos h])
    clear hs h
    go_enter Try.func27, Try.ntmps27
    go_wp2_with (go_at_call 26; go_must (refine (cstart_any l A n c _ HS.out hn).mono ?_); rw [HE.out]; rintro e x1 hp; obtain ⟨A1, c1, rfl, _, _, hb1⟩ := hp.at_ (n := 0) rfl rfl; have HB1 := Lib.hid hb1; clear hb1 hp)
    go_ret2
    exact bytes_none2 HB1.out
  · rw [if_neg h]
    have HE : Hid (StartE l = (ordB l, 0)) := Lib.hid (by unfold StartE; rw [if_neg h])
    have HLEN : Hid ((ordB l).length ≤ 514) := Lib.hid (by have := ordB_len l; omega)
    clear hs h
    go_enter Try.func27, Try.ntmps27
    go_wp2_with (first
      | (go_at_call 26; go_must (refine (cstart_any l A n c _ HS.out hn).mono ?_); rw [HE.out]; rintro e x1 hp; obtain ⟨A1, c1, rfl, _, hO1, hb1⟩ := hp.at_ (n := (ordB l).length) rfl rfl; have HB1 := Lib.hid hb1; have HO1 := Lib.hid hO1; clear hb1 hp hO1)
      | (at_builtin; go_must (refine wpList_append_reads _ rfl (.tmp 14) (.tmp 15) rfl Try.u8s' w.heap.size (.slice A1 (ordB l).length c1) (ordB l).length (u8s (ordB l)) rfl (World.ownsRow.alloc HO1.out _) (x1.heap.size + 1) (some ⟨x1.heap.size, 0, none⟩) 1 1 (u8s [255]) rfl (by exact reads_lit x1 _ [255] _ _ rfl) (u8s_one _) (by have := HLEN.out; unfold maxLen; omega) (by have := HLEN.out; omega) (by have := HB1.out.size; simp; omega) ?_); intro v2 x2 hown hg hat; have HB2 := Lib.hid (below_app (HB1.out.alloc HB1.out.size (.cells #[.int .u8 255] 5)) (World.ownsRow.alloc HO1.out _) hg (by have := HB1.out.size; simp; omega) (Nat.le_refl _)); rw [← u8s_append] at hown; have HO2 := Lib.hid hown; clear hown hg hat))
    go_ret2
    have h := HO2.out
    have e : (ordB l ++ [(255 : UInt8)]).length = (ordB l).length + 1 := by simp
    exact bytes_post2 h HB2.out
end Go.Proofs.Ytcikhlieaoanoaa

/-
  strataref2.Pack, Start, Behind walked. (Printed by gen_pack.py.)
-/
namespace Go.Proofs.Ytcikhlieaoanoaa
open Go.RowKit

set_option maxRecDepth 100000 in
set_option maxHeartbeats 1000000 in
theorem rpack_any (e : Ent) (A : Option Addr) (n c : Nat) (B : Option Addr) (m d : Nat) (D : Option Addr) (v q : Nat) (w : World) (h : En w A n c B m d D v q e) :
    Calls Try.prog 36 #[entV A n c B m d D v q e] w (BytesPost2 5 (PackE e).1 (PackE e).2 w) := by
  have HX0 := Lib.hid (Bx.new w #[.slice A n c, .int .i64 e.fam, .slice B m d, .int .i64 e.ts, .int .i64 e.seq, .int .i64 e.kind, .slice D v q] 27)
  have HE : Hid (∀ x, Below w.heap.size w x → En x A n c B m d D v q e) := Lib.hid fun x hx => h.later hx
  have hl1 := h.row.len
  have hl2 := h.qual.len
  have hvl := h.val.len
  have HC : Hid (checkN n e.fam m e.ts e.seq e.kind v = checkE e) := Lib.hid (by unfold checkE; simp only [hl1, hl2, hvl])
  unfold PackE entV
  by_cases hc : checkE e = 0
  · rw [if_pos hc]
    have HZ := Lib.hid hc
    have HLEN : Hid ((keyE e).length ≤ 1048 ∧ v ≤ 4096 ∧ (uintB (keyE e).length).length ≤ 10 ∧ (uintB e.val.length).length ≤ 10 ∧ e.val.length = v) := Lib.hid (by
      have h1 := keyE_len (ok_of hc); have h2 := (ok_of hc).val.1
      exact ⟨h1, by omega, uintB_ten (by omega), uintB_ten (by omega), hvl⟩)
    obtain ⟨L1, hL1⟩ : ∃ L, L = uintB (keyE e).length ++ keyE e := ⟨_, rfl⟩
    obtain ⟨L2, hL2⟩ : ∃ L, L = uintB e.val.length ++ e.val := ⟨_, rfl⟩
    have X1 := Lib.hid hL1
    have X2 := Lib.hid hL2
    have XL : Hid (L1.length ≤ 1058 ∧ L2.length ≤ 4106) := Lib.hid (by have := HLEN.out; rw [hL1, hL2]; simp only [List.length_append]; omega)
    have XP : Hid (packB e = L1 ++ L2) := Lib.hid (by rw [hL1, hL2]; rfl)
    rw [XP.out]
    clear hL1 hL2
    clear h hc hl1 hl2 hvl
    have tok1 : True := trivial
    go_enter Try.func36, Try.ntmps36
    go_wp2_with (first
      | (go_at_call 33; go_must (refine (rCheck_any _ _ _ _ _ _ _ _ _ _ _ _ _ _).mono ?_); rintro e' x1 ⟨rfl, hb1⟩; rw [HC.out, HZ.out]; have HX1 := Lib.hid (HX0.out.later hb1); clear hb1; have y0 := HX1.out.cell (i := 0) (v := .slice A n c) rfl; have y1 := HX1.out.cell (i := 1) (v := .int .i64 e.fam) rfl; have y2 := HX1.out.cell (i := 2) (v := .slice B m d) rfl; have y3 := HX1.out.cell (i := 3) (v := .int .i64 e.ts) rfl; have y4 := HX1.out.cell (i := 4) (v := .int .i64 e.seq) rfl; have y5 := HX1.out.cell (i := 5) (v := .int .i64 e.kind) rfl; have y6 := HX1.out.cell (i := 6) (v := .slice D v q) rfl)
      | (go_at_call 61; go_must (refine (rkey_any e HZ.out A n c B m d D v q _ (HE.out _ HX1.out.up)).mono ?_); rintro e' x2 ⟨A2, c2, rfl, hO2, hb2⟩; have HX2 := Lib.hid (HX1.out.later hb2); have HS2 := Lib.hid (Sl.own hO2); clear hb2 hO2)
      | (go_at_call 63; have _t := tok1; go_must (refine (rBytes_any (keyE e) A2 _ c2 _ (by have := HLEN.out; omega) HS2.out.rb).mono ?_); rw [← X1.out]; rintro e' x3 ⟨A3, c3, rfl, hO3, hb3⟩; have HX3 := Lib.hid (HX2.out.later hb3); have HO3 := Lib.hid (own_low hO3 HX2.out.size); clear hb3 hO3 tok1; have y6' := HX3.out.cell (i := 6) (v := .slice D v q) rfl)
      | (go_at_call 63; go_must (refine (rBytes_any e.val D v q _ (by have := HLEN.out; omega) (HE.out _ HX3.out.up).val.rb).mono ?_); rw [← X2.out]; rintro e' x4 ⟨A4, c4, rfl, hO4, hb4⟩; have HX4 := Lib.hid (HX3.out.later hb4); have HO4 := Lib.hid (own_below HO3.out hb4); have HR4 := Lib.hid (RB.own hO4); clear hb4 hO4)
      | (at_builtin; go_must (refine wpList_append_reads _ rfl (.tmp 14) (.tmp 17) rfl Try.u8s' (w.heap.size + 1) (.slice A3 L1.length c3) L1.length (u8s (L1)) rfl HO4.out x4.heap.size A4 L2.length c4 (u8s (L2)) rfl HR4.out (u8s_one _) (by have := XL.out; unfold maxLen; omega) (by have := XL.out; omega) HX4.out.size ?_); intro v5 x5 hown hg hat; have HX5 := Lib.hid (HX4.out.grow HO4.out hg); rw [← u8s_append] at hown; have HO5 := Lib.hid hown; clear hown hg hat))
    go_ret2
    exact bytes_post2 (own_low HO5.out (Nat.le_succ _)) HX5.out.up
  · rw [if_neg hc]
    obtain ⟨z, hz⟩ : ∃ z, z = checkE e := ⟨_, rfl⟩
    have HZ := Lib.hid hz
    have hd : (z != 0) = true := by rw [bne_iff_ne, hz]; exact hc
    rw [← hz]
    clear h hc hz hl1 hl2 hvl
    go_enter Try.func36, Try.ntmps36
    go_wp2_with (go_at_call 33; go_must (refine (rCheck_any _ _ _ _ _ _ _ _ _ _ _ _ _ _).mono ?_); rintro e' x1 ⟨rfl, hb1⟩; rw [HC.out, ← HZ.out]; have HX1 := Lib.hid (HX0.out.later hb1); clear hb1)
    go_ret2
    exact bytes_none2 HX1.out.up

set_option maxRecDepth 100000 in
set_option maxHeartbeats 1000000 in
theorem rstart_any (l : List UInt8) (A : Option Addr) (n c : Nat) (w : World) (hs : Sl w A n c l) (hn : n ≤ 140737488355000) :
    Calls Try.prog 28 #[.slice A n c] w (BytesPost2 5 (StartE l).1 (StartE l).2 w) := by
  have hl := hs.len
  have HR := Lib.hid hs.rb
  unfold StartE
  by_cases h : outI n 1 256 = true
  · rw [if_pos (by have := outI_pos h; omega)]
    clear hs hl HR
    go_enter Try.func28, Try.ntmps28
    go_wp2_with (go_at_call 59; go_must (refine (rOut_any _ _ _ _).mono ?_); rintro e w' ⟨rfl, rfl⟩)
    go_ret2
    exact bytes_none2 (Below.refl _ _)
  · have hb : outI n 1 256 = false := by simpa using h
    have hlim := outI_no hb
    rw [if_neg (by omega)]
    have HN : Hid (n ≤ 256) := Lib.hid (by omega)
    clear hs hl h hlim
    go_enter Try.func28, Try.ntmps28
    go_wp2_with (first
      | (go_at_call 59; go_must (refine (rOut_any _ _ _ _).mono ?_); rintro e w' ⟨rfl, rfl⟩)
      | (go_at_call 60; go_must (refine (rOrdered_any l A n c _ (by have := HN.out; omega) HR.out).mono ?_); rintro e w1 ⟨A1, c1, rfl, hO1, hb1⟩; have HO1 := Lib.hid hO1; have HB1 := Lib.hid hb1; clear hO1 hb1))
    go_ret2
    exact ⟨A1, c1, rfl, HO1.out, HB1.out⟩
set_option maxRecDepth 100000 in
set_option maxHeartbeats 1000000 in
theorem rbehind_any (l : List UInt8) (A : Option Addr) (n c : Nat) (w : World) (hs : Sl w A n c l) (hn : n ≤ 140737488355000) :
    Calls Try.prog 29 #[.slice A n c] w (BytesPost2 5 (BehindE l).1 (BehindE l).2 w) := by
  have HS := Lib.hid hs
  unfold BehindE
  by_cases h : l.length < 1 ∨ 256 < l.length
  · rw [if_pos h]
    have HE : Hid (StartE l = ([], 20)) := Lib.hid (by unfold StartE; rw [if_pos h])
    clear hs h
    go_enter Try.func29, Try.ntmps29
    go_wp2_with (go_at_call 28; go_must (refine (rstart_any l A n c _ HS.out hn).mono ?_); rw [HE.out]; rintro e x1 hp; obtain ⟨A1, c1, rfl, _, _, hb1⟩ := hp.at_ (n := 0) rfl rfl; have HB1 := Lib.hid hb1; clear hb1 hp)
    go_ret2
    exact bytes_none2 HB1.out
  · rw [if_neg h]
    have HE : Hid (StartE l = (ordB l, 0)) := Lib.hid (by unfold StartE; rw [if_neg h])
    have HLEN : Hid ((ordB l).length ≤ 514) := Lib.hid (by have := ordB_len l; omega)
    clear hs h
    go_enter Try.func29, Try.ntmps29
    go_wp2_with (first
      | (go_at_call 28; go_must (refine (rstart_any l A n c _ HS.out hn).mono ?_); rw [HE.out]; rintro e x1 hp; obtain ⟨A1, c1, rfl, _, hO1, hb1⟩ := hp.at_ (n := (ordB l).length) rfl rfl; have HB1 := Lib.hid hb1; have HO1 := Lib.hid hO1; clear hb1 hp hO1)
      | (at_builtin; go_must (refine wpList_append_reads _ rfl (.tmp 14) (.tmp 15) rfl Try.u8s' w.heap.size (.slice A1 (ordB l).length c1) (ordB l).length (u8s (ordB l)) rfl (World.ownsRow.alloc HO1.out _) (x1.heap.size + 1) (some ⟨x1.heap.size, 0, none⟩) 1 1 (u8s [255]) rfl (by exact reads_lit x1 _ [255] _ _ rfl) (u8s_one _) (by have := HLEN.out; unfold maxLen; omega) (by have := HLEN.out; omega) (by have := HB1.out.size; simp; omega) ?_); intro v2 x2 hown hg hat; have HB2 := Lib.hid (below_app (HB1.out.alloc HB1.out.size (.cells #[.int .u8 255] 5)) (World.ownsRow.alloc HO1.out _) hg (by have := HB1.out.size; simp; omega) (Nat.le_refl _)); rw [← u8s_append] at hown; have HO2 := Lib.hid hown; clear hown hg hat))
    go_ret2
    have h := HO2.out
    have e : (ordB l ++ [(255 : UInt8)]).length = (ordB l).length + 1 := by simp
    exact bytes_post2 h HB2.out
end Go.Proofs.Ytcikhlieaoanoaa

/-
  The law's told, walked. (Printed by gen_told.py.)
-/
namespace Go.Proofs.Ytcikhlieaoanoaa
open Go.RowKit

theorem plain_at (w : World) : Calls Try.prog 46 #[] w fun r w' => ∃ A B D, r = .returned (.agg #[.slice A 1 1, .int .i64 1, .slice B 1 1, .int .i64 5, .int .i64 32, .int .i64 1, .slice D 1 1]) ∧ En w' A 1 1 B 1 1 D 1 1 plainE ∧ Below w.heap.size w w' := plain_any w
def badE : Ent := ⟨[114], 1, [113], 0, 32, 1, [118]⟩
theorem keep9 {x y z : World} {p0 p1 p2 p3 p4 p5 p6 p7 : Addr} {v0 v1 v2 v3 v4 v5 v6 v7 : Value} (h : x.cell? p0 = some v0 ∧ x.cell? p1 = some v1 ∧ x.cell? p2 = some v2 ∧ x.cell? p3 = some v3 ∧ x.cell? p4 = some v4 ∧ x.cell? p5 = some v5 ∧ x.cell? p6 = some v6 ∧ x.cell? p7 = some v7 ∧ Below z.heap.size z x) (k : Below x.heap.size x y) :
    y.cell? p0 = some v0 ∧ y.cell? p1 = some v1 ∧ y.cell? p2 = some v2 ∧ y.cell? p3 = some v3 ∧ y.cell? p4 = some v4 ∧ y.cell? p5 = some v5 ∧ y.cell? p6 = some v6 ∧ y.cell? p7 = some v7 ∧ Below z.heap.size z y :=
  ⟨cell_below k h.1, cell_below k h.2.1, cell_below k h.2.2.1, cell_below k h.2.2.2.1, cell_below k h.2.2.2.2.1, cell_below k h.2.2.2.2.2.1, cell_below k h.2.2.2.2.2.2.1, cell_below k h.2.2.2.2.2.2.2.1, h.2.2.2.2.2.2.2.2.trans (k.mono h.2.2.2.2.2.2.2.2.size)⟩

set_option maxRecDepth 100000 in
set_option maxHeartbeats 4000000 in
theorem told_any (w : World) : Calls Try.prog 12 #[] w fun e w' => e = .returned (.bool true) ∧ Below w.heap.size w w' := by
  obtain ⟨K0, hK0⟩ : ∃ K, K = keyE plainE := ⟨_, rfl⟩
  obtain ⟨N0, hN0⟩ : ∃ N, N = K0.length := ⟨_, rfl⟩
  have HN0 := Lib.hid hN0.symm
  have hpl : checkE plainE = 0 := by decide
  have HNB : Hid (N0 ≤ 1048) := Lib.hid (by rw [hN0, hK0]; exact keyE_len (ok_of hpl))
  have HK : Hid (KeyE plainE = (K0, 0)) := Lib.hid (by rw [hK0]; exact if_pos hpl)
  have HKB : Hid (KeyE badE = ([], 23)) := Lib.hid (by unfold KeyE; rw [if_neg (by decide)]; rfl)
  have HPK : Hid (ParseKeyE K0 = (⟨[114], 1, [113], 5, 32, 1, []⟩, 0)) := Lib.hid (by rw [hK0]; exact ParseKey_back (ok_of hpl))
  have HCN : Hid (checkN 1 1 1 0 (-1) 1 1 = 23) := Lib.hid (by decide)
  have XC : Hid (cmpE plainE badE = -1) := Lib.hid (by decide)
  have XS : Hid ((K0 == K0) = true) := Lib.hid (by simp)
  clear hK0 hN0 hpl
  have t1 : True := trivial
  have t2 : True := trivial
  have t3 : True := trivial
  have k1 : True := trivial
  go_enter Try.func12, Try.ntmps12
  go_wp2_with (first
    | (go_at_call 46; have _t := t1; go_must (refine (plain_at _).mono ?_); rintro e x1 ⟨A1, B1, D1, rfl, hE1, hb1⟩; have HE1 := Lib.hid hE1; have HB1 := Lib.hid hb1; clear hE1 hb1 t1)
    | (go_at_call 25; have _t := k1; go_must (refine (key_any plainE A1 1 1 B1 1 1 D1 1 1 _ HE1.out).mono ?_); rw [HK.out]; rintro e x2 hp; obtain ⟨A2, c2, rfl, hS2, _, hb2⟩ := hp.at_ (n := N0) HN0.out rfl; have HB2 := Lib.hid (below_up HB1.out hb2); have HS2 := Lib.hid hS2; clear hb2 hp hS2 k1)
    | (go_at_call 15; go_must (refine (parsekey_any K0 A2 N0 c2 _ HS2.out (by have := HNB.out; omega)).mono ?_); rw [HPK.out]; rintro e x3 ⟨P1, d1, P2, d2, P3, d3, rfl, _, hb3⟩; have HB3 := Lib.hid (below_up HB2.out hb3); have HS3 := Lib.hid (HS2.out.later hb3); clear hb3)
    | (go_at_call 46; have _t := t2; go_must (refine (plain_at _).mono ?_); rintro e x4 ⟨A4, B4, D4, rfl, hE4, hb4⟩; have HE4 := Lib.hid hE4; have HX4 := Lib.hid ((Bx.new x3 #[.slice P1 1 d1, .int .i64 1, .slice P2 1 d2, .int .i64 5, .int .i64 32, .int .i64 1, .slice P3 0 d3] 27).later hb4); clear hE4 hb4 t2)
    | (go_at_call 34; go_must (refine (rKey_any plainE A4 1 1 B4 1 1 D4 1 1 _ HE4.out).mono ?_); rw [HK.out]; rintro e x5 hp; obtain ⟨A5, c5, rfl, hS5, _, hb5⟩ := hp.at_ (n := N0) HN0.out rfl; have HX5 := Lib.hid (HX4.out.later hb5); have HS5 := Lib.hid hS5; clear hb5 hp hS5)
    | (go_at_call 46; have _t := t3; go_must (refine (plain_at _).mono ?_); rintro e x6 ⟨A6, B6, D6, rfl, hE6, hb6⟩; have HE6 : Hid (∀ x, Below x6.heap.size x6 x → En x A6 1 1 B6 1 1 D6 1 1 badE) := Lib.hid (fun x h => ⟨(hE6.later h).row, (hE6.later h).qual, (hE6.later h).val⟩); have HX6 := Lib.hid (HX5.out.later hb6); have HS6 := Lib.hid (HS5.out.later hb6); clear hE6 hb6 t3)
    | (go_at_call 25; go_must (refine (key_any badE A6 1 1 B6 1 1 D6 1 1 _ (HE6.out _ ((Below.refl _ _).alloc (Nat.le_refl _) _))).mono ?_); rw [HKB.out]; rintro e x7 hp; obtain ⟨A7, c7, rfl, _, _, hb7⟩ := hp.at_ (n := 0) rfl rfl; have HY7 := Lib.hid ((Bx.new x6 #[.slice A6 1 1, .int .i64 1, .slice B6 1 1, .int .i64 0, .int .i64 32, .int .i64 1, .slice D6 1 1] 27).later hb7); have HX7 := Lib.hid ((HX6.out.alloc (.cells #[.slice A6 1 1, .int .i64 1, .slice B6 1 1, .int .i64 0, .int .i64 32, .int .i64 1, .slice D6 1 1] 27)).later hb7); clear hb7 hp; have y0 := HY7.out.cell (i := 0) (v := .slice A6 1 1) rfl; have y1 := HY7.out.cell (i := 1) (v := .int .i64 1) rfl; have y2 := HY7.out.cell (i := 2) (v := .slice B6 1 1) rfl; have y3 := HY7.out.cell (i := 3) (v := .int .i64 0) rfl; have y4 := HY7.out.cell (i := 4) (v := .int .i64 32) rfl; have y5 := HY7.out.cell (i := 5) (v := .int .i64 1) rfl; have y6 := HY7.out.cell (i := 6) (v := .slice D6 1 1) rfl)
    | (go_at_call 32; go_must (refine (check_any _ _ _ _ _ _ _ _ _ _ _ _ _ _).mono ?_); rw [HCN.out]; rintro e x8 ⟨rfl, hb8⟩; have HY8 := Lib.hid ((HY7.out.alloc (.cells #[.slice A6 1 1, .int .i64 1, .slice B6 1 1, .int .i64 0, .int .i64 (-1), .int .i64 1, .slice D6 1 1] 27)).later hb8); have HX8 := Lib.hid ((HX7.out.alloc (.cells #[.slice A6 1 1, .int .i64 1, .slice B6 1 1, .int .i64 0, .int .i64 (-1), .int .i64 1, .slice D6 1 1] 27)).later hb8); clear hb8 y0 y1 y2 y3 y4 y5 y6))
  have HF : Hid (∀ x, Below x8.heap.size x8 x → (x.cell? ⟨x3.heap.size, 3, none⟩ = some (.int .i64 5) ∧ x.cell? ⟨x6.heap.size, 0, none⟩ = some (.slice A6 1 1) ∧ x.cell? ⟨x6.heap.size, 1, none⟩ = some (.int .i64 1) ∧ x.cell? ⟨x6.heap.size, 2, none⟩ = some (.slice B6 1 1) ∧ x.cell? ⟨x6.heap.size, 3, none⟩ = some (.int .i64 0) ∧ x.cell? ⟨x6.heap.size, 4, none⟩ = some (.int .i64 32) ∧ x.cell? ⟨x6.heap.size, 5, none⟩ = some (.int .i64 1) ∧ x.cell? ⟨x6.heap.size, 6, none⟩ = some (.slice D6 1 1) ∧ Below x8.heap.size x8 x)) := Lib.hid (fun x h => ⟨(HX8.out.later h).cell (i := 3) (v := .int .i64 5) rfl, (HY8.out.later h).cell (i := 0) (v := .slice A6 1 1) rfl, (HY8.out.later h).cell (i := 1) (v := .int .i64 1) rfl, (HY8.out.later h).cell (i := 2) (v := .slice B6 1 1) rfl, (HY8.out.later h).cell (i := 3) (v := .int .i64 0) rfl, (HY8.out.later h).cell (i := 4) (v := .int .i64 32) rfl, (HY8.out.later h).cell (i := 5) (v := .int .i64 1) rfl, (HY8.out.later h).cell (i := 6) (v := .slice D6 1 1) rfl, h⟩)
  have HB8 := Lib.hid (below_up HB3.out HX8.out.up)
  have HB68 := Lib.hid HY8.out.up
  have HS28 : Hid (Sl x8 A2 N0 c2 K0) := Lib.hid (HS3.out.later HX8.out.up)
  have HS58 : Hid (Sl x8 A5 N0 c5 K0) := Lib.hid (HS6.out.later HY8.out.up)
  go_region_held3 (fun x => x.cell? ⟨x3.heap.size, 3, none⟩ = some (.int .i64 5) ∧ x.cell? ⟨x6.heap.size, 0, none⟩ = some (.slice A6 1 1) ∧ x.cell? ⟨x6.heap.size, 1, none⟩ = some (.int .i64 1) ∧ x.cell? ⟨x6.heap.size, 2, none⟩ = some (.slice B6 1 1) ∧ x.cell? ⟨x6.heap.size, 3, none⟩ = some (.int .i64 0) ∧ x.cell? ⟨x6.heap.size, 4, none⟩ = some (.int .i64 32) ∧ x.cell? ⟨x6.heap.size, 5, none⟩ = some (.int .i64 1) ∧ x.cell? ⟨x6.heap.size, 6, none⟩ = some (.slice D6 1 1) ∧ Below x8.heap.size x8 x) (first | assumption | exact HF.out _ (Below.refl _ _).drew | exact keep9 (‹_ ∧ _ ∧ _ ∧ _ ∧ _ ∧ _ ∧ _ ∧ _ ∧ Below x8.heap.size x8 _›) hb9 | exact keep9 (‹_ ∧ _ ∧ _ ∧ _ ∧ _ ∧ _ ∧ _ ∧ _ ∧ Below x8.heap.size x8 _›) hb10 | exact keep9 (‹_ ∧ _ ∧ _ ∧ _ ∧ _ ∧ _ ∧ _ ∧ _ ∧ Below x8.heap.size x8 _›) hb11) (first
    | (go_at_call 30; refine (same_any K0 K0 A2 A5 N0 c2 N0 c5 _ (by have := HNB.out; omega) (HS28.out.later (‹_ ∧ _ ∧ _ ∧ _ ∧ _ ∧ _ ∧ _ ∧ _ ∧ Below x8.heap.size x8 _›).2.2.2.2.2.2.2.2).rb (HS58.out.later (‹_ ∧ _ ∧ _ ∧ _ ∧ _ ∧ _ ∧ _ ∧ _ ∧ Below x8.heap.size x8 _›).2.2.2.2.2.2.2.2).rb).mono ?_; rw [XS.out]; rintro e x9 ⟨rfl, hb9⟩)
    | (go_at_call 46; refine (plain_at _).mono ?_; rintro e x10 ⟨A10, B10, D10, rfl, hE10, hb10⟩)
    | (go_at_call 22; refine (compare_any plainE badE A10 1 1 B10 1 1 D10 1 1 A6 1 1 B6 1 1 D6 1 1 _ hE10 (HE6.out _ (below_up HB68.out (‹_ ∧ _ ∧ _ ∧ _ ∧ _ ∧ _ ∧ _ ∧ _ ∧ Below x8.heap.size x8 _›).2.2.2.2.2.2.2.2))).mono ?_; rw [XC.out]; rintro e x11 ⟨rfl, hb11⟩))
  all_goals
    have HB11 := Lib.hid (below_up HB8.out (‹_ ∧ _ ∧ _ ∧ _ ∧ _ ∧ _ ∧ _ ∧ _ ∧ Below x8.heap.size x8 x11›).2.2.2.2.2.2.2.2)
    go_wp2_with fail
    go_ret
    exact ⟨rfl, HB11.out⟩
end Go.Proofs.Ytcikhlieaoanoaa

/-
  CellSorts walked. (Printed by gen_sorts.py.)
-/
namespace Go.Proofs.Ytcikhlieaoanoaa
open Go.RowKit

set_option maxRecDepth 100000 in
set_option maxHeartbeats 4000000 in
theorem sorts_a (a b : Ent) (A1 : Option Addr) (n1 c1 : Nat) (B1 : Option Addr) (m1 d1 : Nat) (D1 : Option Addr) (v1 q1 : Nat) (A2 : Option Addr) (n2 c2 : Nat) (B2 : Option Addr) (m2 d2 : Nat) (D2 : Option Addr) (v2 q2 : Nat) (w : World) (ha : En w A1 n1 c1 B1 m1 d1 D1 v1 q1 a) (hb : En w A2 n2 c2 B2 m2 d2 D2 v2 q2 b) (K1 K2 : List UInt8) (z y : Int) (hz : z ≠ 0) (hka : KeyE a = (K1, z)) (hkb : KeyE b = (K2, y)) :
    Calls Try.prog 5 #[entV A1 n1 c1 B1 m1 d1 D1 v1 q1 a, entV A2 n2 c2 B2 m2 d2 D2 v2 q2 b] w fun e w' => e = .returned (.bool true) ∧ Below w.heap.size w w' := by
  have HA : Hid (∀ x, Below w.heap.size w x → En x A1 n1 c1 B1 m1 d1 D1 v1 q1 a) := Lib.hid fun x h => ha.later h
  have HB : Hid (∀ x, Below w.heap.size w x → En x A2 n2 c2 B2 m2 d2 D2 v2 q2 b) := Lib.hid fun x h => hb.later h
  have HX0 := Lib.hid (Bxs.two w 27 #[.slice A1 n1 c1, .int .i64 a.fam, .slice B1 m1 d1, .int .i64 a.ts, .int .i64 a.seq, .int .i64 a.kind, .slice D1 v1 q1] #[.slice A2 n2 c2, .int .i64 b.fam, .slice B2 m2 d2, .int .i64 b.ts, .int .i64 b.seq, .int .i64 b.kind, .slice D2 v2 q2])
  unfold entV
  have tk : True := trivial
  have HKA := Lib.hid hka
  have HKB := Lib.hid hkb
  have hd : (z != 0) = true := by rw [bne_iff_ne]; exact hz
  clear ha hb hka hkb hz
  go_enter Try.func5, Try.ntmps5
  go_wp2_with (first
    | (go_at_call 12; go_must (refine (told_any _).mono ?_); rintro e x1 ⟨rfl, hb1⟩; have HX1 := Lib.hid (HX0.out.later hb1); clear hb1 HX0; have f0 := HX1.out.c0 (i := 0) (v := .slice A1 n1 c1) rfl rfl; have g0 := HX1.out.c1 (i := 0) (v := .slice A2 n2 c2) rfl rfl; have f1 := HX1.out.c0 (i := 1) (v := .int .i64 a.fam) rfl rfl; have g1 := HX1.out.c1 (i := 1) (v := .int .i64 b.fam) rfl rfl; have f2 := HX1.out.c0 (i := 2) (v := .slice B1 m1 d1) rfl rfl; have g2 := HX1.out.c1 (i := 2) (v := .slice B2 m2 d2) rfl rfl; have f3 := HX1.out.c0 (i := 3) (v := .int .i64 a.ts) rfl rfl; have g3 := HX1.out.c1 (i := 3) (v := .int .i64 b.ts) rfl rfl; have f4 := HX1.out.c0 (i := 4) (v := .int .i64 a.seq) rfl rfl; have g4 := HX1.out.c1 (i := 4) (v := .int .i64 b.seq) rfl rfl; have f5 := HX1.out.c0 (i := 5) (v := .int .i64 a.kind) rfl rfl; have g5 := HX1.out.c1 (i := 5) (v := .int .i64 b.kind) rfl rfl; have f6 := HX1.out.c0 (i := 6) (v := .slice D1 v1 q1) rfl rfl; have g6 := HX1.out.c1 (i := 6) (v := .slice D2 v2 q2) rfl rfl)
    | (go_at_call 25; have _t := tk; go_must (refine (key_any a A1 n1 c1 B1 m1 d1 D1 v1 q1 _ (HA.out _ HX1.out.up)).mono ?_); rw [HKA.out]; rintro e x2 hp; obtain ⟨P1, p1, rfl, hS2, _, hb2⟩ := hp.at_ (n := K1.length) rfl rfl; have HX2 := Lib.hid (HX1.out.later hb2); have HS2 := Lib.hid hS2; clear hb2 hp hS2 tk f0 g0 f1 g1 f2 g2 f3 g3 f4 g4 f5 g5 f6 g6; have f0 := HX2.out.c0 (i := 0) (v := .slice A1 n1 c1) rfl rfl; have g0 := HX2.out.c1 (i := 0) (v := .slice A2 n2 c2) rfl rfl; have f1 := HX2.out.c0 (i := 1) (v := .int .i64 a.fam) rfl rfl; have g1 := HX2.out.c1 (i := 1) (v := .int .i64 b.fam) rfl rfl; have f2 := HX2.out.c0 (i := 2) (v := .slice B1 m1 d1) rfl rfl; have g2 := HX2.out.c1 (i := 2) (v := .slice B2 m2 d2) rfl rfl; have f3 := HX2.out.c0 (i := 3) (v := .int .i64 a.ts) rfl rfl; have g3 := HX2.out.c1 (i := 3) (v := .int .i64 b.ts) rfl rfl; have f4 := HX2.out.c0 (i := 4) (v := .int .i64 a.seq) rfl rfl; have g4 := HX2.out.c1 (i := 4) (v := .int .i64 b.seq) rfl rfl; have f5 := HX2.out.c0 (i := 5) (v := .int .i64 a.kind) rfl rfl; have g5 := HX2.out.c1 (i := 5) (v := .int .i64 b.kind) rfl rfl; have f6 := HX2.out.c0 (i := 6) (v := .slice D1 v1 q1) rfl rfl; have g6 := HX2.out.c1 (i := 6) (v := .slice D2 v2 q2) rfl rfl)
    | (go_at_call 25; go_must (refine (key_any b A2 n2 c2 B2 m2 d2 D2 v2 q2 _ (HB.out _ HX2.out.up)).mono ?_); rw [HKB.out]; rintro e x3 hp; obtain ⟨P2, p2, rfl, hS3, _, hb3⟩ := hp.at_ (n := K2.length) rfl rfl; have HX3 := Lib.hid (HX2.out.later hb3); have HS3 := Lib.hid hS3; have HS23 := Lib.hid (HS2.out.later hb3); clear hb3 hp hS3 f0 g0 f1 g1 f2 g2 f3 g3 f4 g4 f5 g5 f6 g6; have f0 := HX3.out.c0 (i := 0) (v := .slice A1 n1 c1) rfl rfl; have g0 := HX3.out.c1 (i := 0) (v := .slice A2 n2 c2) rfl rfl; have f1 := HX3.out.c0 (i := 1) (v := .int .i64 a.fam) rfl rfl; have g1 := HX3.out.c1 (i := 1) (v := .int .i64 b.fam) rfl rfl; have f2 := HX3.out.c0 (i := 2) (v := .slice B1 m1 d1) rfl rfl; have g2 := HX3.out.c1 (i := 2) (v := .slice B2 m2 d2) rfl rfl; have f3 := HX3.out.c0 (i := 3) (v := .int .i64 a.ts) rfl rfl; have g3 := HX3.out.c1 (i := 3) (v := .int .i64 b.ts) rfl rfl; have f4 := HX3.out.c0 (i := 4) (v := .int .i64 a.seq) rfl rfl; have g4 := HX3.out.c1 (i := 4) (v := .int .i64 b.seq) rfl rfl; have f5 := HX3.out.c0 (i := 5) (v := .int .i64 a.kind) rfl rfl; have g5 := HX3.out.c1 (i := 5) (v := .int .i64 b.kind) rfl rfl; have f6 := HX3.out.c0 (i := 6) (v := .slice D1 v1 q1) rfl rfl; have g6 := HX3.out.c1 (i := 6) (v := .slice D2 v2 q2) rfl rfl))
  go_ret
  exact ⟨rfl, HX3.out.up⟩

set_option maxRecDepth 100000 in
set_option maxHeartbeats 4000000 in
theorem sorts_b (a b : Ent) (A1 : Option Addr) (n1 c1 : Nat) (B1 : Option Addr) (m1 d1 : Nat) (D1 : Option Addr) (v1 q1 : Nat) (A2 : Option Addr) (n2 c2 : Nat) (B2 : Option Addr) (m2 d2 : Nat) (D2 : Option Addr) (v2 q2 : Nat) (w : World) (ha : En w A1 n1 c1 B1 m1 d1 D1 v1 q1 a) (hb : En w A2 n2 c2 B2 m2 d2 D2 v2 q2 b) (K1 K2 : List UInt8) (y : Int) (hz : y ≠ 0) (hka : KeyE a = (K1, 0)) (hkb : KeyE b = (K2, y)) :
    Calls Try.prog 5 #[entV A1 n1 c1 B1 m1 d1 D1 v1 q1 a, entV A2 n2 c2 B2 m2 d2 D2 v2 q2 b] w fun e w' => e = .returned (.bool true) ∧ Below w.heap.size w w' := by
  have HA : Hid (∀ x, Below w.heap.size w x → En x A1 n1 c1 B1 m1 d1 D1 v1 q1 a) := Lib.hid fun x h => ha.later h
  have HB : Hid (∀ x, Below w.heap.size w x → En x A2 n2 c2 B2 m2 d2 D2 v2 q2 b) := Lib.hid fun x h => hb.later h
  have HX0 := Lib.hid (Bxs.two w 27 #[.slice A1 n1 c1, .int .i64 a.fam, .slice B1 m1 d1, .int .i64 a.ts, .int .i64 a.seq, .int .i64 a.kind, .slice D1 v1 q1] #[.slice A2 n2 c2, .int .i64 b.fam, .slice B2 m2 d2, .int .i64 b.ts, .int .i64 b.seq, .int .i64 b.kind, .slice D2 v2 q2])
  unfold entV
  have tk : True := trivial
  have HKA := Lib.hid hka
  have HKB := Lib.hid hkb
  have hd : (y != 0) = true := by rw [bne_iff_ne]; exact hz
  clear ha hb hka hkb hz
  go_enter Try.func5, Try.ntmps5
  go_wp2_with (first
    | (go_at_call 12; go_must (refine (told_any _).mono ?_); rintro e x1 ⟨rfl, hb1⟩; have HX1 := Lib.hid (HX0.out.later hb1); clear hb1 HX0; have f0 := HX1.out.c0 (i := 0) (v := .slice A1 n1 c1) rfl rfl; have g0 := HX1.out.c1 (i := 0) (v := .slice A2 n2 c2) rfl rfl; have f1 := HX1.out.c0 (i := 1) (v := .int .i64 a.fam) rfl rfl; have g1 := HX1.out.c1 (i := 1) (v := .int .i64 b.fam) rfl rfl; have f2 := HX1.out.c0 (i := 2) (v := .slice B1 m1 d1) rfl rfl; have g2 := HX1.out.c1 (i := 2) (v := .slice B2 m2 d2) rfl rfl; have f3 := HX1.out.c0 (i := 3) (v := .int .i64 a.ts) rfl rfl; have g3 := HX1.out.c1 (i := 3) (v := .int .i64 b.ts) rfl rfl; have f4 := HX1.out.c0 (i := 4) (v := .int .i64 a.seq) rfl rfl; have g4 := HX1.out.c1 (i := 4) (v := .int .i64 b.seq) rfl rfl; have f5 := HX1.out.c0 (i := 5) (v := .int .i64 a.kind) rfl rfl; have g5 := HX1.out.c1 (i := 5) (v := .int .i64 b.kind) rfl rfl; have f6 := HX1.out.c0 (i := 6) (v := .slice D1 v1 q1) rfl rfl; have g6 := HX1.out.c1 (i := 6) (v := .slice D2 v2 q2) rfl rfl)
    | (go_at_call 25; have _t := tk; go_must (refine (key_any a A1 n1 c1 B1 m1 d1 D1 v1 q1 _ (HA.out _ HX1.out.up)).mono ?_); rw [HKA.out]; rintro e x2 hp; obtain ⟨P1, p1, rfl, hS2, _, hb2⟩ := hp.at_ (n := K1.length) rfl rfl; have HX2 := Lib.hid (HX1.out.later hb2); have HS2 := Lib.hid hS2; clear hb2 hp hS2 tk f0 g0 f1 g1 f2 g2 f3 g3 f4 g4 f5 g5 f6 g6; have f0 := HX2.out.c0 (i := 0) (v := .slice A1 n1 c1) rfl rfl; have g0 := HX2.out.c1 (i := 0) (v := .slice A2 n2 c2) rfl rfl; have f1 := HX2.out.c0 (i := 1) (v := .int .i64 a.fam) rfl rfl; have g1 := HX2.out.c1 (i := 1) (v := .int .i64 b.fam) rfl rfl; have f2 := HX2.out.c0 (i := 2) (v := .slice B1 m1 d1) rfl rfl; have g2 := HX2.out.c1 (i := 2) (v := .slice B2 m2 d2) rfl rfl; have f3 := HX2.out.c0 (i := 3) (v := .int .i64 a.ts) rfl rfl; have g3 := HX2.out.c1 (i := 3) (v := .int .i64 b.ts) rfl rfl; have f4 := HX2.out.c0 (i := 4) (v := .int .i64 a.seq) rfl rfl; have g4 := HX2.out.c1 (i := 4) (v := .int .i64 b.seq) rfl rfl; have f5 := HX2.out.c0 (i := 5) (v := .int .i64 a.kind) rfl rfl; have g5 := HX2.out.c1 (i := 5) (v := .int .i64 b.kind) rfl rfl; have f6 := HX2.out.c0 (i := 6) (v := .slice D1 v1 q1) rfl rfl; have g6 := HX2.out.c1 (i := 6) (v := .slice D2 v2 q2) rfl rfl)
    | (go_at_call 25; go_must (refine (key_any b A2 n2 c2 B2 m2 d2 D2 v2 q2 _ (HB.out _ HX2.out.up)).mono ?_); rw [HKB.out]; rintro e x3 hp; obtain ⟨P2, p2, rfl, hS3, _, hb3⟩ := hp.at_ (n := K2.length) rfl rfl; have HX3 := Lib.hid (HX2.out.later hb3); have HS3 := Lib.hid hS3; have HS23 := Lib.hid (HS2.out.later hb3); clear hb3 hp hS3 f0 g0 f1 g1 f2 g2 f3 g3 f4 g4 f5 g5 f6 g6; have f0 := HX3.out.c0 (i := 0) (v := .slice A1 n1 c1) rfl rfl; have g0 := HX3.out.c1 (i := 0) (v := .slice A2 n2 c2) rfl rfl; have f1 := HX3.out.c0 (i := 1) (v := .int .i64 a.fam) rfl rfl; have g1 := HX3.out.c1 (i := 1) (v := .int .i64 b.fam) rfl rfl; have f2 := HX3.out.c0 (i := 2) (v := .slice B1 m1 d1) rfl rfl; have g2 := HX3.out.c1 (i := 2) (v := .slice B2 m2 d2) rfl rfl; have f3 := HX3.out.c0 (i := 3) (v := .int .i64 a.ts) rfl rfl; have g3 := HX3.out.c1 (i := 3) (v := .int .i64 b.ts) rfl rfl; have f4 := HX3.out.c0 (i := 4) (v := .int .i64 a.seq) rfl rfl; have g4 := HX3.out.c1 (i := 4) (v := .int .i64 b.seq) rfl rfl; have f5 := HX3.out.c0 (i := 5) (v := .int .i64 a.kind) rfl rfl; have g5 := HX3.out.c1 (i := 5) (v := .int .i64 b.kind) rfl rfl; have f6 := HX3.out.c0 (i := 6) (v := .slice D1 v1 q1) rfl rfl; have g6 := HX3.out.c1 (i := 6) (v := .slice D2 v2 q2) rfl rfl))
  go_ret
  exact ⟨rfl, HX3.out.up⟩

set_option maxRecDepth 100000 in
set_option maxHeartbeats 4000000 in
theorem sorts_ok (a b : Ent) (A1 : Option Addr) (n1 c1 : Nat) (B1 : Option Addr) (m1 d1 : Nat) (D1 : Option Addr) (v1 q1 : Nat) (A2 : Option Addr) (n2 c2 : Nat) (B2 : Option Addr) (m2 d2 : Nat) (D2 : Option Addr) (v2 q2 : Nat) (w : World) (ha : En w A1 n1 c1 B1 m1 d1 D1 v1 q1 a) (hb : En w A2 n2 c2 B2 m2 d2 D2 v2 q2 b) (oa : OkE a) (ob : OkE b) (K1 K2 : List UInt8) (ea : K1 = keyE a) (eb : K2 = keyE b) :
    Calls Try.prog 5 #[entV A1 n1 c1 B1 m1 d1 D1 v1 q1 a, entV A2 n2 c2 B2 m2 d2 D2 v2 q2 b] w fun e w' => e = .returned (.bool true) ∧ Below w.heap.size w w' := by
  have HA : Hid (∀ x, Below w.heap.size w x → En x A1 n1 c1 B1 m1 d1 D1 v1 q1 a) := Lib.hid fun x h => ha.later h
  have HB : Hid (∀ x, Below w.heap.size w x → En x A2 n2 c2 B2 m2 d2 D2 v2 q2 b) := Lib.hid fun x h => hb.later h
  have HX0 := Lib.hid (Bxs.two w 27 #[.slice A1 n1 c1, .int .i64 a.fam, .slice B1 m1 d1, .int .i64 a.ts, .int .i64 a.seq, .int .i64 a.kind, .slice D1 v1 q1] #[.slice A2 n2 c2, .int .i64 b.fam, .slice B2 m2 d2, .int .i64 b.ts, .int .i64 b.seq, .int .i64 b.kind, .slice D2 v2 q2])
  unfold entV
  have tk : True := trivial
  have HKA : Hid (KeyE a = (K1, 0)) := Lib.hid (by rw [ea]; exact if_pos (of_ok oa))
  have HKB : Hid (KeyE b = (K2, 0)) := Lib.hid (by rw [eb]; exact if_pos (of_ok ob))
  have HN : Hid (K1.length ≤ 1048 ∧ K2.length ≤ 1048) := Lib.hid (by rw [ea, eb]; exact ⟨keyE_len oa, keyE_len ob⟩)
  have HEND : Hid (∀ n, K1.take n = K2.take n → n = K1.length ∨ n = K2.length → cmpE a b = 0 ∧ K1.length = K2.length) := Lib.hid (by subst ea; subst eb; exact fun n h1 h2 => sorts_end oa ob h1 h2)
  have HMID : Hid (∀ n (u v : UInt8), K1.take n = K2.take n → K1[n]? = some u → K2[n]? = some v → u ≠ v → cmpE a b = if u.toNat < v.toNat then -1 else 1) := Lib.hid (by subst ea; subst eb; exact fun n u v h1 h2 h3 h4 => sorts_mid oa ob h1 h2 h3 h4)
  clear ha hb ea eb oa ob
  go_enter Try.func5, Try.ntmps5
  go_wp2_with (first
    | (go_at_call 12; go_must (refine (told_any _).mono ?_); rintro e x1 ⟨rfl, hb1⟩; have HX1 := Lib.hid (HX0.out.later hb1); clear hb1 HX0; have f0 := HX1.out.c0 (i := 0) (v := .slice A1 n1 c1) rfl rfl; have g0 := HX1.out.c1 (i := 0) (v := .slice A2 n2 c2) rfl rfl; have f1 := HX1.out.c0 (i := 1) (v := .int .i64 a.fam) rfl rfl; have g1 := HX1.out.c1 (i := 1) (v := .int .i64 b.fam) rfl rfl; have f2 := HX1.out.c0 (i := 2) (v := .slice B1 m1 d1) rfl rfl; have g2 := HX1.out.c1 (i := 2) (v := .slice B2 m2 d2) rfl rfl; have f3 := HX1.out.c0 (i := 3) (v := .int .i64 a.ts) rfl rfl; have g3 := HX1.out.c1 (i := 3) (v := .int .i64 b.ts) rfl rfl; have f4 := HX1.out.c0 (i := 4) (v := .int .i64 a.seq) rfl rfl; have g4 := HX1.out.c1 (i := 4) (v := .int .i64 b.seq) rfl rfl; have f5 := HX1.out.c0 (i := 5) (v := .int .i64 a.kind) rfl rfl; have g5 := HX1.out.c1 (i := 5) (v := .int .i64 b.kind) rfl rfl; have f6 := HX1.out.c0 (i := 6) (v := .slice D1 v1 q1) rfl rfl; have g6 := HX1.out.c1 (i := 6) (v := .slice D2 v2 q2) rfl rfl)
    | (go_at_call 25; have _t := tk; go_must (refine (key_any a A1 n1 c1 B1 m1 d1 D1 v1 q1 _ (HA.out _ HX1.out.up)).mono ?_); rw [HKA.out]; rintro e x2 hp; obtain ⟨P1, p1, rfl, hS2, _, hb2⟩ := hp.at_ (n := K1.length) rfl rfl; have HX2 := Lib.hid (HX1.out.later hb2); have HS2 := Lib.hid hS2; clear hb2 hp hS2 tk f0 g0 f1 g1 f2 g2 f3 g3 f4 g4 f5 g5 f6 g6; have f0 := HX2.out.c0 (i := 0) (v := .slice A1 n1 c1) rfl rfl; have g0 := HX2.out.c1 (i := 0) (v := .slice A2 n2 c2) rfl rfl; have f1 := HX2.out.c0 (i := 1) (v := .int .i64 a.fam) rfl rfl; have g1 := HX2.out.c1 (i := 1) (v := .int .i64 b.fam) rfl rfl; have f2 := HX2.out.c0 (i := 2) (v := .slice B1 m1 d1) rfl rfl; have g2 := HX2.out.c1 (i := 2) (v := .slice B2 m2 d2) rfl rfl; have f3 := HX2.out.c0 (i := 3) (v := .int .i64 a.ts) rfl rfl; have g3 := HX2.out.c1 (i := 3) (v := .int .i64 b.ts) rfl rfl; have f4 := HX2.out.c0 (i := 4) (v := .int .i64 a.seq) rfl rfl; have g4 := HX2.out.c1 (i := 4) (v := .int .i64 b.seq) rfl rfl; have f5 := HX2.out.c0 (i := 5) (v := .int .i64 a.kind) rfl rfl; have g5 := HX2.out.c1 (i := 5) (v := .int .i64 b.kind) rfl rfl; have f6 := HX2.out.c0 (i := 6) (v := .slice D1 v1 q1) rfl rfl; have g6 := HX2.out.c1 (i := 6) (v := .slice D2 v2 q2) rfl rfl)
    | (go_at_call 25; go_must (refine (key_any b A2 n2 c2 B2 m2 d2 D2 v2 q2 _ (HB.out _ HX2.out.up)).mono ?_); rw [HKB.out]; rintro e x3 hp; obtain ⟨P2, p2, rfl, hS3, _, hb3⟩ := hp.at_ (n := K2.length) rfl rfl; have HX3 := Lib.hid (HX2.out.later hb3); have HS3 := Lib.hid hS3; have HS23 := Lib.hid (HS2.out.later hb3); clear hb3 hp hS3 f0 g0 f1 g1 f2 g2 f3 g3 f4 g4 f5 g5 f6 g6; have f0 := HX3.out.c0 (i := 0) (v := .slice A1 n1 c1) rfl rfl; have g0 := HX3.out.c1 (i := 0) (v := .slice A2 n2 c2) rfl rfl; have f1 := HX3.out.c0 (i := 1) (v := .int .i64 a.fam) rfl rfl; have g1 := HX3.out.c1 (i := 1) (v := .int .i64 b.fam) rfl rfl; have f2 := HX3.out.c0 (i := 2) (v := .slice B1 m1 d1) rfl rfl; have g2 := HX3.out.c1 (i := 2) (v := .slice B2 m2 d2) rfl rfl; have f3 := HX3.out.c0 (i := 3) (v := .int .i64 a.ts) rfl rfl; have g3 := HX3.out.c1 (i := 3) (v := .int .i64 b.ts) rfl rfl; have f4 := HX3.out.c0 (i := 4) (v := .int .i64 a.seq) rfl rfl; have g4 := HX3.out.c1 (i := 4) (v := .int .i64 b.seq) rfl rfl; have f5 := HX3.out.c0 (i := 5) (v := .int .i64 a.kind) rfl rfl; have g5 := HX3.out.c1 (i := 5) (v := .int .i64 b.kind) rfl rfl; have f6 := HX3.out.c0 (i := 6) (v := .slice D1 v1 q1) rfl rfl; have g6 := HX3.out.c1 (i := 6) (v := .slice D2 v2 q2) rfl rfl))
  have HFX : Hid (∀ x, Below x3.heap.size x3 x → Bxs w [#[.slice A1 n1 c1, .int .i64 a.fam, .slice B1 m1 d1, .int .i64 a.ts, .int .i64 a.seq, .int .i64 a.kind, .slice D1 v1 q1], #[.slice A2 n2 c2, .int .i64 b.fam, .slice B2 m2 d2, .int .i64 b.ts, .int .i64 b.seq, .int .i64 b.kind, .slice D2 v2 q2]] x) := Lib.hid fun x h => HX3.out.later h
  have H1 : Hid (∀ x, Below x3.heap.size x3 x → Sl x P1 K1.length p1 K1) := Lib.hid fun x h => HS23.out.later h
  have H2 : Hid (∀ x, Below x3.heap.size x3 x → Sl x P2 K2.length p2 K2) := Lib.hid fun x h => HS3.out.later h
  obtain ⟨N1, hN1⟩ : ∃ N, N = K1.length := ⟨_, rfl⟩
  obtain ⟨N2, hN2⟩ : ∃ N, N = K2.length := ⟨_, rfl⟩
  have HL1 := Lib.hid hN1.symm
  have HL2 := Lib.hid hN2.symm
  rw [← hN1, ← hN2] at HN
  rw [← hN1] at H1 ⊢
  rw [← hN2] at H2 ⊢
  clear f0 g0 f1 g1 f2 g2 f3 g3 f4 g4 f5 g5 f6 g6 HX1 HX2 HX3 HS2 HS3 HS23 hN1 hN2
  go_loopw [9] (fun i wr => ∃ k : Nat, k ≤ N1 ∧ k ≤ N2 ∧ i = .int .i64 k ∧ Hid (K1.take k = K2.take k) ∧ Hid (Below x3.heap.size x3 wr)) (fun i _ => N1 - (intOf i).toNat)
  case atStart => exact ⟨0, Nat.zero_le _, Nat.zero_le _, rfl, Lib.hid rfl, Lib.hid (Below.refl _ _)⟩
  case round =>
    obtain ⟨k, hk1, hk2, rfl, HT, HW⟩ := hrel
    have hn := HN.out
    have HXR := Lib.hid (HFX.out _ HW.out)
    by_cases hlt : k < N1
    case neg =>
      obtain rfl : k = N1 := by omega
      obtain ⟨hE, hEL⟩ := HEND.out k HT.out (.inl HL1.out.symm)
      obtain rfl : k = N2 := by rw [← HL1.out, ← HL2.out]; exact hEL
      have HE := Lib.hid hE
      have hd1 : decide ((k : Int) < (k : Int)) = false := decide_eq_false (by omega)
      have hd2 : decide (k < k) = false := decide_eq_false (by omega)
      clear hE hEL
      go_wp2_with fail
      go_quiet (fail)
      have HXR := Lib.hid (HXR.out.later (below_drewN (n := nq) (Below.refl _ _)))
      generalize wr.drewN nq = w4 at *
      have f0 := HXR.out.c0 (i := 0) (v := .slice A1 n1 c1) rfl rfl
      have g0 := HXR.out.c1 (i := 0) (v := .slice A2 n2 c2) rfl rfl
      have f1 := HXR.out.c0 (i := 1) (v := .int .i64 a.fam) rfl rfl
      have g1 := HXR.out.c1 (i := 1) (v := .int .i64 b.fam) rfl rfl
      have f2 := HXR.out.c0 (i := 2) (v := .slice B1 m1 d1) rfl rfl
      have g2 := HXR.out.c1 (i := 2) (v := .slice B2 m2 d2) rfl rfl
      have f3 := HXR.out.c0 (i := 3) (v := .int .i64 a.ts) rfl rfl
      have g3 := HXR.out.c1 (i := 3) (v := .int .i64 b.ts) rfl rfl
      have f4 := HXR.out.c0 (i := 4) (v := .int .i64 a.seq) rfl rfl
      have g4 := HXR.out.c1 (i := 4) (v := .int .i64 b.seq) rfl rfl
      have f5 := HXR.out.c0 (i := 5) (v := .int .i64 a.kind) rfl rfl
      have g5 := HXR.out.c1 (i := 5) (v := .int .i64 b.kind) rfl rfl
      have f6 := HXR.out.c0 (i := 6) (v := .slice D1 v1 q1) rfl rfl
      have g6 := HXR.out.c1 (i := 6) (v := .slice D2 v2 q2) rfl rfl
      go_wp2_with (go_at_call 22; go_must (refine (compare_any a b A1 n1 c1 B1 m1 d1 D1 v1 q1 A2 n2 c2 B2 m2 d2 D2 v2 q2 _ (HA.out _ HXR.out.up) (HB.out _ HXR.out.up)).mono ?_); rw [HE.out]; rintro e x4 ⟨rfl, hb4⟩; have HX4 := Lib.hid (HXR.out.later hb4); clear hb4 f0 g0 f1 g1 f2 g2 f3 g3 f4 g4 f5 g5 f6 g6)
      go_ret
      exact ⟨rfl, HX4.out.up⟩
    have hd1 : decide ((k : Int) < (N1 : Int)) = true := decide_eq_true (by omega)
    have hd2 : decide (k < N1) = true := decide_eq_true hlt
    by_cases hlt2 : k < N2
    case neg =>
      obtain rfl : k = N2 := by omega
      have hEL := (HEND.out k HT.out (.inr HL2.out.symm)).2
      exact absurd (show N1 = k by rw [← HL1.out, ← HL2.out]; exact hEL) (by omega)
    have hd3 : decide ((k : Int) < (N2 : Int)) = true := decide_eq_true (by omega)
    have hd4 : decide (k < N2) = true := decide_eq_true hlt2
    have hkI1 : (k : Int) < (N1 : Int) := by omega
    have hkI2 : (k : Int) < (N2 : Int) := by omega
    have hne1 : ((k : Int) == (N1 : Int)) = false := by rw [beq_eq_false_iff_ne]; omega
    have hne2 : ((k : Int) == (N2 : Int)) = false := by rw [beq_eq_false_iff_ne]; omega
    obtain ⟨b1, o1, x, rfl, _, hx, _⟩ := (H1.out _ HW.out).rb.at_ hlt
    obtain ⟨b2, o2, y, rfl, _, hy, _⟩ := (H2.out _ HW.out).rb.at_ hlt2
    have HX := Lib.hid hx
    have HY := Lib.hid hy
    have HCX : Hid (∀ z, Below x3.heap.size x3 z → z.cell? ⟨b1, o1 + k, none⟩ = some (.int .u8 (x.toNat : Int))) := Lib.hid fun z h => (H1.out z h).rb.cell HX.out
    have HCY : Hid (∀ z, Below x3.heap.size x3 z → z.cell? ⟨b2, o2 + k, none⟩ = some (.int .u8 (y.toNat : Int))) := Lib.hid fun z h => (H2.out z h).rb.cell HY.out
    have c1 := HCX.out _ HW.out
    have c2 := HCY.out _ HW.out
    clear hx hy
    by_cases hxy : x = y
    · subst hxy
      have HE := Lib.hid (cmp_eq_at HT.out HX.out HY.out)
      have e1 : ((x.toNat : Int) == (x.toNat : Int)) = true := by simp
      go_wp2_with fail
      go_quiet (fail)
      have HW2 := Lib.hid (below_drewN (n := nq) HW.out)
      clear c1 c2 HXR
      generalize wr.drewN nq = w3 at *
      go_wp2
      go_roundw
      case rel => exact ⟨k + 1, by omega, by omega, by go_num, HE, HW2⟩
      case measure => simp [intOf]; omega
    have HEE := Lib.hid (HMID.out k x y HT.out HX.out HY.out hxy)
    have e1 : ((x.toNat : Int) == (y.toNat : Int)) = false := by rw [beq_eq_false_iff_ne]; intro h; exact hxy (UInt8.toNat_inj.1 (by omega))
    have hxy' : x.toNat ≠ y.toNat := fun h => hxy (UInt8.toNat_inj.1 h)
    go_wp2_with fail
    go_quiet (fail)
    have HW2 := Lib.hid (below_drewN (n := nq) HW.out)
    clear c1 c2 HXR
    generalize wr.drewN nq = w4 at *
    have HXR := Lib.hid (HFX.out _ HW2.out)
    have f0 := HXR.out.c0 (i := 0) (v := .slice A1 n1 c1) rfl rfl
    have g0 := HXR.out.c1 (i := 0) (v := .slice A2 n2 c2) rfl rfl
    have f1 := HXR.out.c0 (i := 1) (v := .int .i64 a.fam) rfl rfl
    have g1 := HXR.out.c1 (i := 1) (v := .int .i64 b.fam) rfl rfl
    have f2 := HXR.out.c0 (i := 2) (v := .slice B1 m1 d1) rfl rfl
    have g2 := HXR.out.c1 (i := 2) (v := .slice B2 m2 d2) rfl rfl
    have f3 := HXR.out.c0 (i := 3) (v := .int .i64 a.ts) rfl rfl
    have g3 := HXR.out.c1 (i := 3) (v := .int .i64 b.ts) rfl rfl
    have f4 := HXR.out.c0 (i := 4) (v := .int .i64 a.seq) rfl rfl
    have g4 := HXR.out.c1 (i := 4) (v := .int .i64 b.seq) rfl rfl
    have f5 := HXR.out.c0 (i := 5) (v := .int .i64 a.kind) rfl rfl
    have g5 := HXR.out.c1 (i := 5) (v := .int .i64 b.kind) rfl rfl
    have f6 := HXR.out.c0 (i := 6) (v := .slice D1 v1 q1) rfl rfl
    have g6 := HXR.out.c1 (i := 6) (v := .slice D2 v2 q2) rfl rfl
    have c1 := HCX.out
    by_cases hlow : x.toNat < y.toNat
    · have HE : Hid (cmpE a b = -1) := Lib.hid (by rw [HEE.out, if_pos hlow])
      have e2 : decide ((x.toNat : Int) < (y.toNat : Int)) = true := decide_eq_true (by omega)
      have e3 : decide (x.toNat < y.toNat) = true := decide_eq_true hlow
      clear c1
      go_wp2_with (go_at_call 22; go_must (refine (compare_any a b A1 n1 c1 B1 m1 d1 D1 v1 q1 A2 n2 c2 B2 m2 d2 D2 v2 q2 _ (HA.out _ HXR.out.up) (HB.out _ HXR.out.up)).mono ?_); rw [HE.out]; rintro e x4 ⟨rfl, hb4⟩; have HX4 := Lib.hid (HXR.out.later hb4); have HW5 := Lib.hid (below_up HW2.out hb4); clear hb4 f0 g0 f1 g1 f2 g2 f3 g3 f4 g4 f5 g5 f6 g6)
      have c1 := HCX.out _ HW5.out
      have c2 := HCY.out _ HW5.out
      go_wp2_with fail
      go_quiet (fail)
      have HX5 := Lib.hid (HX4.out.later (below_drewN (n := nq) (Below.refl _ _)))
      clear c1 c2
      generalize x4.drewN nq = w5 at *
      go_wp2
      go_ret
      exact ⟨rfl, HX5.out.up⟩
    · have HE : Hid (cmpE a b = 1) := Lib.hid (by rw [HEE.out, if_neg hlow])
      have e2 : decide ((y.toNat : Int) < (x.toNat : Int)) = true := decide_eq_true (by omega)
      have e3 : decide (y.toNat < x.toNat) = true := decide_eq_true (by omega)
      clear c1
      go_wp2_with (go_at_call 22; go_must (refine (compare_any a b A1 n1 c1 B1 m1 d1 D1 v1 q1 A2 n2 c2 B2 m2 d2 D2 v2 q2 _ (HA.out _ HXR.out.up) (HB.out _ HXR.out.up)).mono ?_); rw [HE.out]; rintro e x4 ⟨rfl, hb4⟩; have HX4 := Lib.hid (HXR.out.later hb4); have HW5 := Lib.hid (below_up HW2.out hb4); clear hb4 f0 g0 f1 g1 f2 g2 f3 g3 f4 g4 f5 g5 f6 g6)
      have c1 := HCX.out _ HW5.out
      have c2 := HCY.out _ HW5.out
      go_wp2_with fail
      go_quiet (fail)
      have HX5 := Lib.hid (HX4.out.later (below_drewN (n := nq) (Below.refl _ _)))
      clear c1 c2
      generalize x4.drewN nq = w5 at *
      go_wp2
      go_ret
      exact ⟨rfl, HX5.out.up⟩

theorem sorts_any (a b : Ent) (A1 : Option Addr) (n1 c1 : Nat) (B1 : Option Addr) (m1 d1 : Nat) (D1 : Option Addr) (v1 q1 : Nat) (A2 : Option Addr) (n2 c2 : Nat) (B2 : Option Addr) (m2 d2 : Nat) (D2 : Option Addr) (v2 q2 : Nat) (w : World) (ha : En w A1 n1 c1 B1 m1 d1 D1 v1 q1 a) (hb : En w A2 n2 c2 B2 m2 d2 D2 v2 q2 b) :
    Calls Try.prog 5 #[entV A1 n1 c1 B1 m1 d1 D1 v1 q1 a, entV A2 n2 c2 B2 m2 d2 D2 v2 q2 b] w fun e w' => e = .returned (.bool true) ∧ Below w.heap.size w w' := by
  by_cases h1 : checkE a = 0
  · by_cases h2 : checkE b = 0
    · exact sorts_ok a b A1 n1 c1 B1 m1 d1 D1 v1 q1 A2 n2 c2 B2 m2 d2 D2 v2 q2 w ha hb (ok_of h1) (ok_of h2) _ _ rfl rfl
    · exact sorts_b a b A1 n1 c1 B1 m1 d1 D1 v1 q1 A2 n2 c2 B2 m2 d2 D2 v2 q2 w ha hb _ _ _ h2 (if_pos h1) (if_neg h2)
  · exact sorts_a a b A1 n1 c1 B1 m1 d1 D1 v1 q1 A2 n2 c2 B2 m2 d2 D2 v2 q2 w ha hb _ _ _ _ h1 (if_neg h1) rfl
end Go.Proofs.Ytcikhlieaoanoaa

/-
  A row that is written full of one mark and lengthened with it, several times over.
-/
namespace Go.Proofs.Ytcikhlieaoanoaa
open Go.RowKit

section
variable {w x y : World} {T : TypeId}
theorem rep_snoc (n : Nat) (m : UInt8) : List.replicate n m ++ [m] = List.replicate (n + 1) m := by rw [List.replicate_succ']
/-- Marks are written over by the same marks. -/
def Over (m : UInt8) (w x : World) : Prop := w.heap.size ≤ x.heap.size ∧ ∀ p u, w.cell? p = some u → x.cell? p = some u ∨ x.cell? p = some (u8v m)
theorem Over.refl (m : UInt8) (w : World) : Over m w w := ⟨Nat.le_refl _, fun _p _u h => .inl h⟩
theorem Over.trans {m : UInt8} (h : Over m w x) (k : Over m x y) : Over m w y := ⟨Nat.le_trans h.1 k.1, fun p u e => by
  rcases h.2 p u e with e | e
  · exact k.2 p u e
  · rcases k.2 p _ e with e | e <;> exact .inr e⟩
theorem Over.alloc {m : UInt8} (w : World) (o : Obj) : Over m w (w.alloc o) := ⟨((Below.refl _ w).alloc (Nat.le_refl _) o).size, fun _p _u e => .inl (cell_alloc_old e)⟩
theorem over_app {m : UInt8} {v : Value} {n q : Nat} (hs : w.heap.size ≤ x.heap.size)
    (h : ∀ p u, w.cell? p = some u → x.cell? p = some u ∨ (some p.block = v.ownBlock ∧ p.spot = none ∧ n ≤ p.off ∧ p.off < n + q ∧ x.cell? p = (u8s (List.replicate q m))[p.off - n]?)) : Over m w x := ⟨hs, fun p u e => by
  rcases h p u e with e | ⟨_, _, h1, h2, e⟩
  · exact .inl e
  · refine .inr ?_
    rw [e]
    unfold u8s
    rw [List.getElem?_map, List.getElem?_replicate, if_pos (by omega)]
    rfl⟩
theorem Sl.remark {A : Option Addr} {n c : Nat} {m : UInt8} (h : Sl w A n c (List.replicate n m)) (k : Over m w x) : Sl x A n c (List.replicate n m) := by
  refine ⟨RB.mk' (by simp) fun h0 => ?_, h.cap, h.lim, h.nil⟩
  obtain ⟨b, o, _, rfl, hb, _, _⟩ := h.rb.at_ (k := 0) h0
  refine ⟨b, o, rfl, Nat.lt_of_lt_of_le hb k.1, fun j u hj => ?_⟩
  have hu : u = m := by
    have := List.getElem?_eq_some_iff.1 hj
    obtain ⟨_, e⟩ := this
    simp at e
    exact e.symm
  subst hu
  rcases k.2 _ _ (h.rb.cell hj) with e | e <;> exact e
theorem own_cell {base g c k : Nat} {l : List UInt8} {u : UInt8} (h : OwnB T base w (some ⟨g, 0, none⟩) c l) (hk : l[k]? = some u) : w.cell? ⟨g, k, none⟩ = some (.int .u8 (u.toNat : Int)) ∧ w.frozen? ⟨g, k, none⟩ = false :=
  (RowsB.nil.snoc h (fun i r hr => by simp at hr)).cell (i := 0) rfl hk
theorem own_store {base g c : Nat} {l : List UInt8} (h : OwnB T base w (some ⟨g, 0, none⟩) c l) (k : Nat) (u : UInt8) : OwnB T base (w.setCell ⟨g, k, none⟩ (u8v u)) (some ⟨g, 0, none⟩) c (l.set k u) :=
  ((RowsB.nil.snoc h (fun i r hr => by simp at hr)).store (i := 0) (k := k) rfl u).1.1 0 _ rfl
/-- The four lists that 'longer' hands out of the row A. -/
structure Lng (w : World) (A : Option Addr) (n : Nat) (m : UInt8) (g : Nat) (x : World) : Prop where
  ge : w.heap.size ≤ g
  lt : g < x.heap.size
  all : ∃ c A1 c1 A2 c2 A3 c3, (x.cell? ⟨g, 0, none⟩ = some (.slice A n c) ∧ x.cell? ⟨g, 1, none⟩ = some (.slice A1 (n + 1) c1) ∧ x.cell? ⟨g, 2, none⟩ = some (.slice A2 (n + 2) c2) ∧ x.cell? ⟨g, 3, none⟩ = some (.slice A3 (n + 101) c3)) ∧
    (Sl x A n c (List.replicate n m) ∧ Sl x A1 (n + 1) c1 (List.replicate (n + 1) m) ∧ Sl x A2 (n + 2) c2 (List.replicate (n + 2) m) ∧ Sl x A3 (n + 101) c3 (List.replicate (n + 101) m)) ∧ Blk w A A1 ∧ Blk w A A2 ∧ Blk w A A3
theorem Lng.chg {A : Option Addr} {n : Nat} {m : UInt8} {g : Nat} {S : Nat → Prop} (h : Lng w A n m g x) (hc : Chg S x y) (hS : ∀ b, S b → b < w.heap.size ∧ A.map (·.block) ≠ some b) : Lng w A n m g y := by
  obtain ⟨c, A1, c1, A2, c2, A3, c3, ⟨q0, q1, q2, q3⟩, ⟨s0, s1, s2, s3⟩, b1, b2, b3⟩ := h.all
  have hg : ¬ S g := fun e => by have := (hS g e).1; have := h.ge; omega
  have hA : ∀ a, A = some a → ¬ S a.block := fun a ha e => (hS _ e).2 (by rw [ha]; rfl)
  have hB : ∀ {A' : Option Addr}, Blk w A A' → ∀ a, A' = some a → ¬ S a.block := fun hb a ha e => by
    rcases hb a ha with h' | h'
    · exact (hS _ e).2 h'
    · have := (hS _ e).1; omega
  exact ⟨h.ge, Nat.lt_of_lt_of_le h.lt hc.size, c, A1, c1, A2, c2, A3, c3, ⟨hc.cell q0 hg, hc.cell q1 hg, hc.cell q2 hg, hc.cell q3 hg⟩,
    ⟨s0.chg hc fun _ => hA, s1.chg hc fun _ => hB b1, s2.chg hc fun _ => hB b2, s3.chg hc fun _ => hB b3⟩, b1, b2, b3⟩
theorem Lng.later {A : Option Addr} {n : Nat} {m : UInt8} {g : Nat} (h : Lng w A n m g x) (hb : Below x.heap.size x y) : Lng w A n m g y := h.chg (S := fun _ => False) (Below.chg0 hb) fun _b e => e.elim
theorem blk_step {A A5 A6 : Option Addr} {n5 c5 n6 c6 H : Nat} (h : Blk w A A5) (hat : (Value.slice A6 n6 c6).ownBlock = (Value.slice A5 n5 c5).ownBlock ∨ (Value.slice A6 n6 c6).ownBlock = some H) (hle : w.heap.size ≤ H) : Blk w A A6 := fun a ha => by
  subst ha
  rcases hat with e | e
  · rw [own_block A5] at e
    cases A5 with
    | none => cases e
    | some z =>
      have e : some a.block = some z.block := e
      rcases h z rfl with h | h
      · exact .inl (h.trans e.symm)
      · injection e with e; exact .inr (by omega)
  · injection e with e
    have e : a.block = H := e
    exact .inr (by omega)
theorem chg_blk {A A5 : Option Addr} {n5 c5 : Nat} {o : Obj} (h : Chg (fun b => A.map (·.block) = some b) w x) (hb : Blk w A A5) (hg : (x.alloc o).grownBy y (Value.slice A5 n5 c5).ownBlock) : Chg (fun b => A.map (·.block) = some b) w y := by
  have h2 := h.alloc o
  have h3 := grown_chg hg
  refine ⟨h3.os.trans h2.os, h3.tape.trans h2.tape, h3.output.trans h2.output, Nat.le_trans h2.size h3.size, fun b hlt hn => (h3.block b (Nat.lt_of_lt_of_le hlt h2.size) fun e => ?_).trans (h2.block b hlt hn)⟩
  rw [own_block] at e
  cases A5 with
  | none => cases e
  | some z =>
    have e : some z.block = some b := e
    rcases hb z rfl with h' | h'
    · exact hn (h'.trans e)
    · injection e with e; omega
end
end Go.Proofs.Ytcikhlieaoanoaa

/-
  The law's longer and full, walked.
-/
namespace Go.Proofs.Ytcikhlieaoanoaa
open Go.RowKit

set_option maxRecDepth 100000 in
set_option maxHeartbeats 2000000 in
theorem longer_any (base : Nat) (l : List UInt8) (A : Option Addr) (n c : Nat) (m : UInt8) (w : World) (ho : OwnB 5 base w A c l) (hl : l.length = n) (hn : n ≤ 1000000) (hbase : base ≤ w.heap.size) :
    Calls Try.prog 19 #[.slice A n c, .int .u8 (m.toNat : Int)] w fun e w' => ∃ g, e = .returned (.slice (some ⟨g, 0, none⟩) 4 4) ∧ Lng w A n m g w' ∧ Chg (fun b => A.map (·.block) = some b) w w' := by
  have HL := Lib.hid hl
  have HO := Lib.hid ho
  clear ho hl
  go_enter Try.func19, Try.ntmps19
  go_wp2
  go_loopw [5] (fun i wr => ∃ k : Nat, k ≤ n ∧ i = .int .i64 k ∧ Hid (OwnB 5 base wr A c (fillTo l m k)) ∧ Hid (Chg (fun b => A.map (·.block) = some b) w wr)) (fun i _ => n - (intOf i).toNat)
  case atStart => exact ⟨0, Nat.zero_le _, rfl, Lib.hid (by rw [fillTo_zero]; exact HO.out), Lib.hid (Chg.refl _ _)⟩
  case round =>
    obtain ⟨k, hk, rfl, HK, HC⟩ := hrel
    by_cases hlt : k < n
    · have hd : decide ((k : Int) < (n : Int)) = true := decide_eq_true (by omega)
      have hk1 : (k : Int) < (n : Int) := by omega
      have hfl : (fillTo l m k).length = n := by rw [fillTo_len m (by rw [HL.out]; omega), HL.out]
      obtain ⟨g, cap, hg, _, _, _⟩ := own_form HK.out (by rw [hfl]; omega)
      injection hg with hg _ _
      subst hg
      obtain ⟨u, hu⟩ := get_of (b := fillTo l m k) (k := k) (by rw [hfl]; omega)
      obtain ⟨q1, q2⟩ := own_cell HK.out hu
      have HN : Hid (OwnB 5 base (wr.setCell ⟨g, k, none⟩ (.int .u8 (m.toNat : Int))) (some ⟨g, 0, none⟩) c (fillTo l m (k + 1))) := Lib.hid (by
        have h := own_store HK.out k m
        rw [fillTo_set m (by rw [HL.out]; omega)] at h
        exact h)
      have HC2 : Hid (Chg (fun b => (some ({ block := g, off := 0, spot := none } : Addr)).map (·.block) = some b) w (wr.setCell ⟨g, k, none⟩ (.int .u8 (m.toNat : Int)))) := Lib.hid (HC.out.trans ((Chg.setCell wr ⟨g, k, none⟩ _).mono fun b _ e => by rw [e]; rfl))
      clear hu hfl
      go_wp2
      go_roundw
      case rel => exact ⟨k + 1, by omega, by go_num, HN, HC2⟩
      case measure => simp [intOf]; omega
    have hd : decide ((k : Int) < (n : Int)) = false := decide_eq_false (by omega)
    obtain rfl : k = n := by omega
    have HO2 : Hid (wr.ownsRow base 5 1 (.slice A k c) k (u8s (List.replicate k m))) := Lib.hid (by
      have h := HK.out
      rw [← HL.out, fillTo_all] at h
      rw [HL.out] at h
      exact own_len h (by simp))
    have HS0 : Hid (Sl wr A k c (List.replicate k m)) := Lib.hid (by have h := Sl.own (own_of_len HO2.out (by simp)); rwa [List.length_replicate] at h)
    have HB : Hid (base ≤ wr.heap.size) := Lib.hid (Nat.le_trans hbase HC.out.size)
    have HW : Hid (w.heap.size ≤ wr.heap.size) := Lib.hid HC.out.size
    have tok1 : True := trivial
    have tok2 : True := trivial
    have tok3 : True := trivial
    clear HK hlt
    go_wp2_with (first
      | (at_builtin; have _t := tok1; go_must (refine wpList_append_cells _ rfl (.tmp 20) (.tmp 22) rfl Try.u8s' base (.slice A k c) k (u8s (List.replicate k m)) rfl (HO2.out.alloc _) (wr.heap.size + 1) (some ⟨wr.heap.size, 0, none⟩) 1 1 (u8s (List.replicate 1 m)) rfl (by exact reads_lit wr _ (List.replicate 1 m) _ _ rfl) (u8s_one _) (by unfold maxLen; omega) (by omega) (by have := HB.out; simp; omega) ?_); intro v1 x1 hown1 hg1 hat1 hold1 hcell1; obtain ⟨A1, c1, rfl, _⟩ := own_slice hown1; have OV1 := Lib.hid ((Over.alloc wr (.cells #[.int .u8 (m.toNat : Int)] 5)).trans (over_app hg1.size hcell1)); have S1 : Hid (Sl x1 A1 (k + 1) c1 (List.replicate (k + 1) m)) := Lib.hid (by rw [← u8s_append, show List.replicate k m ++ List.replicate 1 m = List.replicate (k + 1) m from rep_snoc k m] at hown1; have h := Sl.own (own_of_len hown1 (by simp)); rwa [List.length_replicate] at h); have B1 : Hid (Blk w A A1) := Lib.hid (blk_of hat1 (by have := HW.out; simp; omega)); have O1 := Lib.hid hold1; have C1 := Lib.hid (HC.out.trans ((Chg.alloc (Chg.refl _ wr) (.cells #[.int .u8 (m.toNat : Int)] 5)).trans ((grown_chg hg1).mono fun b _ e => by rw [own_block] at e; exact e))); have HZ1 : Hid (wr.heap.size ≤ x1.heap.size) := Lib.hid OV1.out.1; clear hown1 hg1 hat1 hold1 hcell1 tok1)
      | (at_builtin; have _t := tok2; go_must (refine wpList_append_cells _ rfl (.tmp 24) (.tmp 27) rfl Try.u8s' base (.slice A k c) k (u8s (List.replicate k m)) rfl (O1.out.alloc _) (x1.heap.size + 1) (some ⟨x1.heap.size, 0, none⟩) 2 2 (u8s (List.replicate 2 m)) rfl (by exact reads_lit x1 _ (List.replicate 2 m) _ _ rfl) (u8s_one _) (by unfold maxLen; omega) (by omega) (by have := HB.out; have := HZ1.out; simp; omega) ?_); intro v2 x2 hown2 hg2 hat2 hold2 hcell2; obtain ⟨A2, c2, rfl, _⟩ := own_slice hown2; have OV2 := Lib.hid ((Over.alloc x1 (.cells #[.int .u8 (m.toNat : Int), .int .u8 (m.toNat : Int)] 5)).trans (over_app hg2.size hcell2)); have S2 : Hid (Sl x2 A2 (k + 2) c2 (List.replicate (k + 2) m)) := Lib.hid (by rw [← u8s_append, List.replicate_append_replicate] at hown2; have h := Sl.own (own_of_len hown2 (by simp)); rwa [List.length_replicate] at h); have B2 : Hid (Blk w A A2) := Lib.hid (blk_of hat2 (by have := HW.out; have := HZ1.out; simp; omega)); have O2 := Lib.hid hold2; have C2 := Lib.hid (C1.out.trans ((Chg.alloc (Chg.refl _ x1) (.cells #[.int .u8 (m.toNat : Int), .int .u8 (m.toNat : Int)] 5)).trans ((grown_chg hg2).mono fun b _ e => by rw [own_block] at e; exact e))); have HZ2 : Hid (wr.heap.size ≤ x2.heap.size) := Lib.hid (Nat.le_trans HZ1.out OV2.out.1); clear hown2 hg2 hat2 hold2 hcell2 tok2)
      | (at_builtin; have _t := tok3; go_must (refine wpList_append_cells _ rfl (.tmp 29) (.tmp 31) rfl Try.u8s' base (.slice A k c) k (u8s (List.replicate k m)) rfl (O2.out.alloc _) (x2.heap.size + 1) (some ⟨x2.heap.size, 0, none⟩) 1 1 (u8s (List.replicate 1 m)) rfl (by exact reads_lit x2 _ (List.replicate 1 m) _ _ rfl) (u8s_one _) (by unfold maxLen; omega) (by omega) (by have := HB.out; have := HZ2.out; simp; omega) ?_); intro v3 x3 hown3 hg3 hat3 hold3 hcell3; obtain ⟨A3, c3, rfl, _⟩ := own_slice hown3; have OV3 := Lib.hid ((Over.alloc x2 (.cells #[.int .u8 (m.toNat : Int)] 5)).trans (over_app hg3.size hcell3)); have S3 : Hid (x3.ownsRow base 5 1 (.slice A3 (k + 1) c3) (k + 1) (u8s (List.replicate (k + 1) m))) := Lib.hid (by rw [← u8s_append, show List.replicate k m ++ List.replicate 1 m = List.replicate (k + 1) m from rep_snoc k m] at hown3; exact hown3); have B3 : Hid (Blk w A A3) := Lib.hid (blk_of hat3 (by have := HW.out; have := HZ2.out; simp; omega)); have C3 := Lib.hid (C2.out.trans ((Chg.alloc (Chg.refl _ x2) (.cells #[.int .u8 (m.toNat : Int)] 5)).trans ((grown_chg hg3).mono fun b _ e => by rw [own_block] at e; exact e))); have HZ3 : Hid (wr.heap.size ≤ x3.heap.size) := Lib.hid (Nat.le_trans HZ2.out OV3.out.1); clear hown3 hg3 hat3 hold3 hcell3 tok3))
    have T0 := Lib.hid (((HS0.out.remark OV1.out).remark OV2.out).remark OV3.out)
    have T1 := Lib.hid ((S1.out.remark OV2.out).remark OV3.out)
    have T2 := Lib.hid (S2.out.remark OV3.out)
    clear HO2 HS0 OV1 OV2 OV3 S1 S2 O1 O2 C1 C2 HZ1 HZ2 HC
    go_loopw [8, 9] (fun v i xr => ∃ (j : Nat) (A5 : Option Addr) (c5 : Nat), j ≤ 100 ∧ i = .int .i64 j ∧ v = .slice A5 (k + 1 + j) c5 ∧ Hid (xr.ownsRow base 5 1 (.slice A5 (k + 1 + j) c5) (k + 1 + j) (u8s (List.replicate (k + 1 + j) m))) ∧ Hid (Blk w A A5) ∧ Hid (Chg (fun b => A.map (·.block) = some b) w xr) ∧ Hid (Sl xr A k c (List.replicate k m) ∧ Sl xr A1 (k + 1) c1 (List.replicate (k + 1) m) ∧ Sl xr A2 (k + 2) c2 (List.replicate (k + 2) m))) (fun _ i _ => 100 - (intOf i).toNat)
    case atStart => exact ⟨0, A3, c3, by omega, rfl, rfl, S3, B3, C3, Lib.hid ⟨T0.out, T1.out, T2.out⟩⟩
    case round =>
      clear S3 B3 C3 T0 T1 T2 HZ3
      obtain ⟨j, A5, c5, hj, rfl, rfl, HO5, HB5, HC5, HS5⟩ := hrel
      have HWX : Hid (w.heap.size ≤ wr.heap.size) := Lib.hid HC5.out.size
      by_cases hlt : j < 100
      · have hd : decide ((j : Int) < 100) = true := decide_eq_true (by omega)
        go_wp2_with (at_builtin; go_must (refine wpList_append_cells _ rfl (.tmp 37) (.tmp 39) rfl Try.u8s' base (.slice A5 (k + 1 + j) c5) (k + 1 + j) (u8s (List.replicate (k + 1 + j) m)) rfl (HO5.out.alloc _) (wr.heap.size + 1) (some ⟨wr.heap.size, 0, none⟩) 1 1 (u8s (List.replicate 1 m)) rfl (by exact reads_lit wr _ (List.replicate 1 m) _ _ rfl) (u8s_one _) (by unfold maxLen; omega) (by omega) (by have := HWX.out; simp; omega) ?_); intro v6 x6 hown6 hg6 hat6 hold6 hcell6; obtain ⟨A6, c6, rfl, _⟩ := own_slice hown6; have OV6 := Lib.hid ((Over.alloc wr (.cells #[.int .u8 (m.toNat : Int)] 5)).trans (over_app hg6.size hcell6)); have S6 : Hid (x6.ownsRow base 5 1 (.slice A6 (k + 1 + (j + 1)) c6) (k + 1 + (j + 1)) (u8s (List.replicate (k + 1 + (j + 1)) m))) := Lib.hid (by rw [← u8s_append, List.replicate_append_replicate] at hown6; exact hown6); have B6 : Hid (Blk w A A6) := Lib.hid (blk_step HB5.out hat6 (by have := HWX.out; simp; omega)); have C6 := Lib.hid (chg_blk HC5.out HB5.out hg6); clear hown6 hg6 hat6 hold6 hcell6)
        go_roundw
        case rel => exact ⟨j + 1, A6, c6, by omega, by go_num, rfl, S6, B6, C6, Lib.hid ⟨HS5.out.1.remark OV6.out, HS5.out.2.1.remark OV6.out, HS5.out.2.2.remark OV6.out⟩⟩
        case measure => simp [intOf]; omega
      · have hd : decide ((j : Int) < 100) = false := decide_eq_false (by omega)
        obtain rfl : j = 100 := by omega
        have S5 : Hid (Sl wr A5 (k + 101) c5 (List.replicate (k + 101) m)) := Lib.hid (by have h := Sl.own (own_of_len HO5.out (by simp)); rwa [List.length_replicate] at h)
        clear HO5 hlt
        go_wp2
        go_ret
        exact ⟨wr.heap.size, rfl, ⟨HWX.out, by show wr.heap.size < (wr.heap.push _).size; simp, c, A1, c1, A2, c2, A5, c5, ⟨by simp, by simp, by simp, by simp⟩, ⟨HS5.out.1.later ((Below.refl _ _).alloc (Nat.le_refl _) _), HS5.out.2.1.later ((Below.refl _ _).alloc (Nat.le_refl _) _), HS5.out.2.2.later ((Below.refl _ _).alloc (Nat.le_refl _) _), S5.out.later ((Below.refl _ _).alloc (Nat.le_refl _) _)⟩, B1.out, B2.out, HB5.out⟩, HC5.out.alloc _⟩
end Go.Proofs.Ytcikhlieaoanoaa

/-
  The law's full, walked.
-/
namespace Go.Proofs.Ytcikhlieaoanoaa
open Go.RowKit

theorem rep_atm {k : List UInt8} {m : UInt8} (h : k = List.replicate k.length m) {t : Nat} (ht : t < k.length) : k[t]? = some m := by
  rw [h, List.getElem?_replicate, if_pos ht]
set_option maxRecDepth 100000 in
set_option maxHeartbeats 1000000 in
theorem full_rbs (ks : List (List UInt8)) (A : Option Addr) (n c : Nat) (m : UInt8) (w : World) (hr : RBs w w.heap.size A n ks) (hn : n ≤ 1000) (hall : ∀ (i : Nat) k, ks[i]? = some k → k = List.replicate k.length m ∧ k.length ≤ 1000000000) :
    Calls Try.prog 20 #[.slice A n c, .int .u8 (m.toNat : Int)] w fun e w' => e = .returned (.bool true) ∧ w = w' := by
  have HR := Lib.hid hr
  have HA := Lib.hid hall
  clear hr hall
  go_enter Try.func20, Try.ntmps20
  go_wp2
  go_loop [5] (fun i => ∃ q : Nat, q ≤ n ∧ i = .int .i64 q) (fun i => n - (intOf i).toNat)
  case atStart => exact ⟨0, Nat.zero_le _, rfl⟩
  case round =>
    obtain ⟨q, hq, rfl⟩ := hrel
    by_cases hlt : q < n
    case neg =>
      have hd : decide ((q : Int) < (n : Int)) = false := decide_eq_false (by omega)
      go_wp2
      go_ret
      exact ⟨rfl, rfl⟩
    have hd : decide ((q : Int) < (n : Int)) = true := decide_eq_true (by omega)
    have hq1 : (q : Int) < (n : Int) := by omega
    obtain ⟨b, o, k, a, ca, rfl, _, hk, hc, _, _, _, hrb⟩ := HR.out.at_ hlt
    obtain ⟨hrep, hkl⟩ := HA.out q k hk
    obtain ⟨L, hL⟩ : ∃ L, L = k.length := ⟨_, rfl⟩
    rw [← hL] at hc hkl hrb
    have HB := Lib.hid hrb
    have HREP : Hid (∀ t, t < L → k[t]? = some m) := Lib.hid fun t ht => rep_atm hrep (by omega)
    clear hrb hrep hk hL
    go_wp2
    go_loop [6] (fun j => ∃ t : Nat, t ≤ L ∧ j = .int .i64 t) (fun j => L - (intOf j).toNat)
    case atStart => exact ⟨0, Nat.zero_le _, rfl⟩
    case round =>
      obtain ⟨t, ht, rfl⟩ := hrel
      by_cases hlt2 : t < L
      · have hd2 : decide ((t : Int) < (L : Int)) = true := decide_eq_true (by omega)
        have ht1 : (t : Int) < (L : Int) := by omega
        obtain ⟨b2, o2, y, rfl, _, hy, hcy⟩ := HB.out.at_ hlt2
        have hym : y = m := by have h := HREP.out t hlt2; rw [hy] at h; injection h
        subst hym
        have e1 : ((y.toNat : Int) != (y.toNat : Int)) = false := by simp
        clear hy
        go_wp2
        go_round
        case rel => exact ⟨t + 1, by omega, by go_num⟩
        case measure => simp [intOf]; omega
      · have hd2 : decide ((t : Int) < (L : Int)) = false := decide_eq_false (by omega)
        go_wp2
        go_round
        case rel => exact ⟨q + 1, by omega, by go_num⟩
        case measure => simp [intOf]; omega
theorem full_any {w0 : World} (A : Option Addr) (n g : Nat) (m : UInt8) (w : World) (h : Lng w0 A n m g w) (hn : n ≤ 1000000) :
    Calls Try.prog 20 #[.slice (some ⟨g, 0, none⟩) 4 4, .int .u8 (m.toNat : Int)] w fun e w' => e = .returned (.bool true) ∧ w = w' := by
  obtain ⟨c, A1, c1, A2, c2, A3, c3, ⟨q0, q1, q2, q3⟩, ⟨s0, s1, s2, s3⟩, _, _, _⟩ := h.all
  have hk : KV w w.heap.size [.slice A n c, .slice A1 (n + 1) c1, .slice A2 (n + 2) c2, .slice A3 (n + 101) c3] [List.replicate n m, List.replicate (n + 1) m, List.replicate (n + 2) m, List.replicate (n + 101) m] :=
    s0.cons (s1.cons (s2.cons (s3.cons KV.nil)))
  have hr : Reads w w.heap.size 1 (some ⟨g, 0, none⟩) 4 [.slice A n c, .slice A1 (n + 1) c1, .slice A2 (n + 2) c2, .slice A3 (n + 101) c3] :=
    ⟨rfl, fun _ => ⟨g, 0, rfl, h.lt, fun j u hj => by
      match j, hj with
      | 0, hj => injection hj with hj; subst hj; exact q0
      | 1, hj => injection hj with hj; subst hj; exact q1
      | 2, hj => injection hj with hj; subst hj; exact q2
      | 3, hj => injection hj with hj; subst hj; exact q3⟩⟩
  refine full_rbs _ _ 4 4 m w (hk.rbs hr) (by decide) fun i k hi => ?_
  match i, hi with
  | 0, hi => injection hi with hi; subst hi; exact ⟨by simp, by simp; omega⟩
  | 1, hi => injection hi with hi; subst hi; exact ⟨by simp, by simp; omega⟩
  | 2, hi => injection hi with hi; subst hi; exact ⟨by simp, by simp; omega⟩
  | 3, hi => injection hi with hi; subst hi; exact ⟨by simp, by simp; omega⟩
end Go.Proofs.Ytcikhlieaoanoaa

/-
  Regions that draw their order, by what holds of what is done; boxes and rows of the call's own under one head. Over any program.
-/
namespace Go.Proofs.Ytcikhlieaoanoaa
open Go.RowKit

section
variable {P : Program} {ops : Array Oper} {Q : Exit → Act → World → Prop}
/-- Every edge goes back; no operation is guarded. -/
def regOk (ops : Array Oper) : Bool := (List.range ops.size).all fun i => match ops[i]? with
  | none => true
  | some o => o.guard.isNone && o.after.all fun e => !Region.binds .any e || decide (e.on < i)
theorem regOk_at (h : regOk ops = true) {i : Nat} {o : Oper} (ho : ops[i]? = some o) : o.guard = none ∧ ∀ e, e ∈ o.after → Region.binds .any e = true → e.on < i := by
  have hi := (Array.getElem?_eq_some_iff.1 ho).1
  have h1 := List.all_eq_true.1 h i (List.mem_range.2 hi)
  simp only [ho, Bool.and_eq_true, Option.isNone_iff_eq_none, Array.all_eq_true_iff_forall_mem, Bool.or_eq_true, Bool.not_eq_true', decide_eq_true_eq] at h1
  refine ⟨h1.1, fun e he hb => ?_⟩
  rcases h1.2 e he with h2 | h2
  · rw [hb] at h2; cases h2
  · exact h2
theorem ready_iff {L : Array Bool} {i : Nat} : i ∈ Region.ready .any ops L ↔ ∃ o, ops[i]? = some o ∧ L.getD i true = false ∧ ∀ e, e ∈ o.after → Region.binds .any e = true → L.getD e.on false = true := by
  unfold Region.ready
  rw [List.mem_filter, List.mem_range]
  constructor
  · rintro ⟨h1, h2⟩
    cases ho : ops[i]? with
    | none => rw [ho] at h2; simp at h2
    | some o =>
      rw [ho] at h2
      simp only [Option.map_some, Option.getD_some, Bool.and_eq_true, Bool.not_eq_true', Array.all_eq_true_iff_forall_mem, Bool.or_eq_true] at h2
      refine ⟨o, rfl, h2.1, fun e he hb => ?_⟩
      rcases h2.2 e he with h3 | h3
      · rw [hb] at h3; cases h3
      · exact h3
  · rintro ⟨o, ho, h1, h2⟩
    refine ⟨(Array.getElem?_eq_some_iff.1 ho).1, ?_⟩
    rw [ho]
    simp only [Option.map_some, Option.getD_some, Bool.and_eq_true, Bool.not_eq_true', Array.all_eq_true_iff_forall_mem, Bool.or_eq_true]
    refine ⟨h1, fun e he => ?_⟩
    cases hb : Region.binds .any e with
    | false => exact .inl rfl
    | true => exact .inr (h2 e he hb)
theorem getD_two {L : Array Bool} {i : Nat} (h : i < L.size) : L.getD i true = L.getD i false := by
  simp [Array.getD, h]
theorem set_getD {L : Array Bool} {i : Nat} (h : i < L.size) : (fun j => (L.setIfInBounds i true).getD j false) = fun j => j == i || L.getD j false := by
  funext j
  simp only [Array.getD_eq_getD_getElem?, Array.getElem?_setIfInBounds]
  by_cases e : i = j
  · subst e; simp [h]
  · have : (j == i) = false := by simpa using fun h => e h.symm
    simp [e, this]
theorem all_listed (hk : regOk ops = true) {L : Array Bool} (hL : L.size = ops.size) (hr : Region.ready .any ops L = []) : ∀ i, i < ops.size → L.getD i false = true := by
  intro i
  induction i using Nat.strongRecOn with
  | ind i ih =>
    intro hi
    cases hb : L.getD i false with
    | true => rfl
    | false =>
      have ho : ops[i]? = some ops[i] := Array.getElem?_eq_getElem hi
      have hm : i ∈ Region.ready .any ops L := ready_iff.2 ⟨_, ho, by rw [getD_two (by omega)]; exact hb, fun e he hb' => by
        have h1 := (regOk_at hk ho).2 e he hb'
        exact ih _ h1 (by omega)⟩
      rw [hr] at hm
      cases hm
theorem filter_less {p p' : Nat → Bool} {l : List Nat} {i : Nat} (hi : i ∈ l) (h1 : p i = true) (h2 : p' i = false) (h : ∀ j, p' j = true → p j = true) : (l.filter p').length < (l.filter p).length := by
  have e : l.filter p' = (l.filter p).filter p' := by
    rw [List.filter_filter]
    refine List.filter_congr fun j _ => ?_
    cases hj : p' j with
    | false => rfl
    | true => rw [h j hj]; rfl
  rw [e]
  exact List.length_filter_lt_length_iff_exists.2 ⟨i, List.mem_filter.2 ⟨hi, h1⟩, by simp [h2]⟩
/-- A region that draws its order: what holds of the operations that are done, kept by each. -/
theorem wp_region_inv {id : Nat} {a : Act} {w : World} (hm : P.follows .mixedOrders = true) (hk : regOk ops = true) (I : (Nat → Bool) → Act → World → Prop)
    (h0 : I (fun _ => false) a w.drew)
    (hs : ∀ (i : Nat) o, ops[i]? = some o → ∀ D a w, I D a w → D i = false → (∀ e, e ∈ o.after → Region.binds .any e = true → D e.on = true) → o.wp P a w (I fun j => j == i || D j) Q)
    (he : ∀ D a w, (∀ i, i < ops.size → D i = true) → I D a w → Q .normal a w) : (Code.region id ops true).wp P Q a w := by
  refine wp_region_any hm ?_
  have main : ∀ fuel (L : Array Bool) a w, L.size = ops.size → I (fun j => L.getD j false) a w → ((List.range ops.size).filter fun i => !L.getD i false).length ≤ fuel → wpAny P .any ops Q fuel L a w := by
    intro fuel
    induction fuel with
    | zero =>
      intro L a w hL hI hc
      have hall : ∀ i, i < ops.size → L.getD i false = true := fun i hi => by
        cases hb : L.getD i false with
        | true => rfl
        | false =>
          have : i ∈ (List.range ops.size).filter fun i => !L.getD i false := List.mem_filter.2 ⟨List.mem_range.2 hi, by simp [hb]⟩
          have := List.length_pos_of_mem this
          omega
      refine ⟨?_, he _ _ _ hall hI⟩
      cases hr : Region.ready .any ops L with
      | nil => rfl
      | cons i r =>
        obtain ⟨o, ho, h1, _⟩ := ready_iff.1 (show i ∈ Region.ready .any ops L by rw [hr]; simp)
        have hi := (Array.getElem?_eq_some_iff.1 ho).1
        rw [getD_two (by omega), hall i hi] at h1
        cases h1
    | succ fuel ih =>
      intro L a w hL hI hc
      refine ⟨fun hr => he _ _ _ (all_listed hk hL hr) hI, fun i hi => ?_⟩
      obtain ⟨o, ho, h1, h2⟩ := ready_iff.1 hi
      have hlt := (Array.getElem?_eq_some_iff.1 ho).1
      rw [getD_two (by omega)] at h1
      have hg := (regOk_at hk ho).1
      unfold wpOp
      rw [ho]
      have hw : Region.wanted o (yielded ops a.tmps) = true := by unfold Region.wanted; rw [hg]
      simp only [hw, if_true]
      refine .inl (Oper.wp_mono (fun a' w' hI' => ih _ a' w' (by simpa using hL) (by rw [set_getD (by omega)]; exact hI') ?_) (hs i o ho _ a w hI h1 h2))
      have := filter_less (p := fun i => !L.getD i false) (p' := fun j => !(L.setIfInBounds i true).getD j false) (l := List.range ops.size) (i := i) (List.mem_range.2 hlt) (by rw [h1]; rfl) (by
        rw [congrFun (set_getD (L := L) (i := i) (by omega)) i]
        simp) (fun j hj => by
        rw [congrFun (set_getD (L := L) (i := i) (by omega)) j] at hj
        simp only [Bool.not_eq_true', Bool.or_eq_false_iff] at hj
        rw [hj.2]; rfl)
      omega
  exact main _ _ _ _ (by simp) (by
    have e : (fun j => (Array.replicate ops.size false).getD j false) = fun _ => false := by
      funext j
      simp only [Array.getD_eq_getD_getElem?, Array.getElem?_replicate]
      split <;> rfl
    rw [e]; exact h0) (Nat.le_trans (List.length_filter_le _ _) (by simp))

/-! ### Frames that differ from a given one in some slots alone -/
structure Same (S : List Nat) (b a : Act) : Prop where
  size : a.tmps.size = b.tmps.size
  rest : a.defers = b.defers
  at_ : ∀ k, k ∉ S → a.tmps[k]? = b.tmps[k]?
theorem Same.refl (S : List Nat) (a : Act) : Same S a a := ⟨rfl, rfl, fun _ _ => rfl⟩
theorem Same.put {S : List Nat} {b a : Act} (h : Same S b a) {d : Nat} (hd : d ∈ S) (x : Value) : Same S b (a.put (some d) x) :=
  ⟨by simp [Act.put, h.size], h.rest, fun k hk => by
    have : d ≠ k := fun e => hk (e ▸ hd)
    simp only [Act.put, Array.getElem?_setIfInBounds_ne this]
    exact h.at_ k hk⟩
theorem eval_tmp (a : Act) (k : Nat) : a.eval (.tmp k) = a.tmps.getD k undef := rfl
theorem put_same {a : Act} {d : Nat} (h : d < a.tmps.size) (x : Value) : (a.put (some d) x).eval (.tmp d) = x := by
  simp [eval_tmp, Act.put, h]
theorem put_other {a : Act} {d k : Nat} (h : d ≠ k) (x : Value) : (a.put (some d) x).eval (.tmp k) = a.eval (.tmp k) := by
  simp [eval_tmp, Act.put, Array.getElem?_setIfInBounds_ne h]
theorem Same.eval {S : List Nat} {b a : Act} (h : Same S b a) {k : Nat} (hk : k ∉ S) : a.eval (.tmp k) = b.eval (.tmp k) := by
  simp only [eval_tmp, Array.getD_eq_getD_getElem?, h.at_ k hk]
/-- The frame b with the slots S as v says. -/
def putsF (b : Act) (S : List Nat) (v : Nat → Value) : Act := S.foldl (fun a s => a.put (some s) (v s)) b
theorem putsF_size (S : List Nat) (v : Nat → Value) : ∀ b : Act, (putsF b S v).tmps.size = b.tmps.size ∧ (putsF b S v).defers = b.defers := by
  induction S with
  | nil => intro b; exact ⟨rfl, rfl⟩
  | cons s S ih =>
    intro b
    obtain ⟨h1, h2⟩ := ih (b.put (some s) (v s))
    exact ⟨by show (putsF (b.put (some s) (v s)) S v).tmps.size = _; rw [h1]; simp [Act.put], h2⟩
theorem putsF_at (v : Nat → Value) (S : List Nat) : ∀ (b : Act) (k : Nat), k < b.tmps.size → (putsF b S v).tmps[k]? = if k ∈ S then some (v k) else b.tmps[k]? := by
  induction S with
  | nil => intro b k _; simp [putsF]
  | cons s S ih =>
    intro b k hk
    show (putsF (b.put (some s) (v s)) S v).tmps[k]? = _
    rw [ih _ k (by simpa [Act.put] using hk)]
    by_cases h1 : k ∈ S
    · simp [h1]
    · rw [if_neg h1]
      by_cases h2 : k = s
      · subst h2; simp [Act.put, hk]
      · rw [if_neg (by simp [h1, h2])]
        simp [Act.put, Array.getElem?_setIfInBounds_ne (fun e => h2 e.symm)]
theorem Same.puts {S : List Nat} {b a : Act} (h : Same S b a) : a = putsF b S fun k => a.eval (.tmp k) := by
  obtain ⟨h1, h2⟩ := putsF_size S (fun k => a.eval (.tmp k)) b
  have ht : a.tmps = (putsF b S fun k => a.eval (.tmp k)).tmps := by
    refine Array.ext_getElem? fun k => ?_
    by_cases hk : k < b.tmps.size
    · rw [putsF_at _ _ _ _ hk]
      by_cases hs : k ∈ S
      · rw [if_pos hs]
        have hk' : k < a.tmps.size := by rw [h.size]; exact hk
        simp [eval_tmp, hk']
      · rw [if_neg hs]; exact h.at_ k hs
    · rw [Array.getElem?_eq_none (by rw [h.size]; omega), Array.getElem?_eq_none (by rw [h1]; omega)]
  have hd : a.defers = (putsF b S fun k => a.eval (.tmp k)).defers := h.rest.trans h2.symm
  obtain ⟨t, d⟩ := a
  generalize (putsF b S fun k => Act.eval { tmps := t, defers := d } (.tmp k)) = z at *
  obtain ⟨t', d'⟩ := z
  simp only at ht hd
  subst ht; subst hd
  rfl

def AllOps (C : Nat → Oper → Prop) : Nat → List Oper → Prop
  | _, [] => True
  | k, o :: l => C k o ∧ AllOps C (k + 1) l
theorem AllOps.at_ {C : Nat → Oper → Prop} : ∀ {l : List Oper} {k : Nat}, AllOps C k l → ∀ (i : Nat) o, l[i]? = some o → C (k + i) o
  | [], _, _, i, o, h => by simp at h
  | x :: l, k, h, i, o, hi => by
    cases i with
    | zero => injection hi with hi; subst hi; exact h.1
    | succ i =>
      have := AllOps.at_ h.2 i o hi
      rwa [show k + 1 + i = k + (i + 1) from by omega] at this
/-- What is done is done with all that goes ahead of it. -/
def Closed (l : List Oper) (D : Nat → Bool) : Prop := ∀ (i : Nat) o, l[i]? = some o → D i = true → ∀ e, e ∈ o.after → Region.binds .any e = true → D e.on = true
/-- One operation's duty: it puts something into its slot, and what holds of what is done holds on. -/
def RegStep (P : Program) (Q : Exit → Act → World → Prop) (l : List Oper) (S : List Nat) (b : Act) (R : (Nat → Bool) → (Nat → Value) → World → Prop) (i : Nat) (o : Oper) : Prop :=
  ∀ D a w, Closed l D → Same S b a → R D (fun k => a.eval (.tmp k)) w → D i = false → (∀ e, e ∈ o.after → Region.binds .any e = true → D e.on = true) →
    o.wp P a w (fun a' w' => Same S b a' ∧ R (fun j => j == i || D j) (fun k => a'.eval (.tmp k)) w') Q
/-- The region's law, over frames: S are the slots that it writes; R speaks of what is done, of the slots and the world. -/
theorem wp_region_reg {id : Nat} {l : List Oper} {a : Act} {w : World} (hm : P.follows .mixedOrders = true) (hk : regOk l.toArray = true) (S : List Nat) (R : (Nat → Bool) → (Nat → Value) → World → Prop)
    (h0 : R (fun _ => false) (fun k => a.eval (.tmp k)) w.drew) (hs : AllOps (RegStep P Q l S a R) 0 l)
    (he : ∀ D v w', (∀ i, i < l.length → D i = true) → R D v w' → Q .normal (putsF a S v) w') : (Code.region id l.toArray true).wp P Q a w := by
  refine wp_region_inv hm hk (fun D a' w' => Closed l D ∧ Same S a a' ∧ R D (fun k => a'.eval (.tmp k)) w') ⟨(fun i o _ h => nomatch h), Same.refl S a, h0⟩ (fun i o ho D a' w' hI hd hp => ?_) fun D a' w' hd hI => ?_
  · have := AllOps.at_ hs i o (by simpa using ho)
    rw [Nat.zero_add] at this
    refine Oper.wp_mono (fun a'' w'' h => ⟨fun j oj hj hD e he hb => ?_, h⟩) (this D a' w' hI.1 hI.2.1 hI.2.2 hd hp)
    simp only [Bool.or_eq_true, beq_iff_eq] at hD ⊢
    rcases hD with rfl | hD
    · have : oj = o := by
        have h1 : l.toArray[j]? = l[j]? := by simp
        rw [h1, hj] at ho; injection ho
      subst this
      exact .inr (hp e he hb)
    · exact .inr (hI.1 j oj hj hD e he hb)
  · have := he D _ w' (fun i hi => hd i (by simpa using hi)) hI.2.2
    rw [← hI.2.1.puts] at this
    exact this

/-! ### Single operations -/
/-- A function of the program's own. -/
def GoFn (P : Program) (f : FuncId) : Prop := ∃ fn, P.funcs[f]? = some fn ∧ (fn.name == "runtime.NumGoroutine") = false ∧ fn.body.isNone = false
theorem run_callFunc_go {f : FuncId} (h : GoFn P f) (args : Array Value) (w : World) : (callFunc f args).run P w = .ok (.enter f args) w := by
  obtain ⟨fn, h1, h2, h3⟩ := h
  have e2 : (fn.name == "runtime.NumGoroutine") = false := h2
  have e3 : fn.body.isNone = false := h3
  unfold callFunc
  have hp : program.run P w = .ok P w := rfl
  simp only [Sem.run_bind, hp, Result.andThen_ok, h1, e2, e3, Bool.false_eq_true, if_false, Sem.run_pure]
theorem wp_call_go {o : Oper} {a : Act} {w : World} {K : Act → World → Prop} {f : FuncId} {xs : Array Operand} {ats : Array TypeId} (ho : o.op = .call { callee := .value (.func f), args := xs, argTypes := ats }) (hf : GoFn P f)
    (vals : Array Value) (hv : xs.map a.eval = vals) (hc : Calls P f vals w fun e w' => ∃ v, e = .returned v ∧ K (a.put o.dst v) w') : o.wp P a w K Q := by
  subst hv
  have hrun : (execOp a.eval o).run P w = .ok (.enter f (xs.map a.eval)) w := by
    obtain ⟨dst, op, type, pos, after, guard⟩ := o
    simp only at ho
    subst ho
    rw [execOp_call_go]
    have e : #[] ++ xs.map a.eval ++ #[] = xs.map a.eval := by simp
    rw [e]
    exact run_callFunc_go hf _ w
  unfold Oper.wp
  rw [hrun, Oper.upon_enter]
  refine hc.mono fun e w' ⟨v, he, hK⟩ => ?_
  subst he
  exact hK
/-- A type whose values are rows of n cells. -/
structure RowTy (P : Program) (ty : TypeId) (n : Nat) : Prop where
  desc : ∃ d, P.underlying ty = some d ∧ d.isRow = true
  size : (P.info? ty).map (·.size) = some n
theorem wp_load_row7 {o : Oper} {a : Act} {w : World} {K : Act → World → Prop} {ty : TypeId} {x : Operand} (ho : o.op = .load ty x) {g : Nat} {cs : List Value} (hx : a.eval x = .pointer (some ⟨g, 0, none⟩)) (hr : w.rangeAt g 0 cs) (ht : RowTy P ty cs.length)
    (hK : K (a.put o.dst (.agg cs.toArray)) w) : o.wp P a w K Q := by
  obtain ⟨⟨d, hu, hd⟩, hi⟩ := ht
  exact wp_load_mid ty x ho g 0 hx cs d hr hu hd hi hK
theorem wpList_load_row7 {rest : List Oper} {o : Oper} {a : Act} {w : World} (hgd : Region.wanted o (yielded ops a.tmps) = true) (ty : TypeId) (x : Operand) (ho : o.op = .load ty x) {g : Nat} {cs : List Value} (hx : a.eval x = .pointer (some ⟨g, 0, none⟩)) (hr : w.rangeAt g 0 cs) (ht : RowTy P ty cs.length)
    (hK : wpList P ops Q rest (a.put o.dst (.agg cs.toArray)) w) : wpList P ops Q (o :: rest) a w :=
  BigFrame.wpList_want hgd fun _ h => wp_load_row7 ho hx hr ht (h _ _ hK)
end
end Go.Proofs.Ytcikhlieaoanoaa

/-
  Boxes and rows of the call's own under one head. Over any program.
-/
namespace Go.Proofs.Ytcikhlieaoanoaa
open Go.RowKit

abbrev Bx1 := Option (Nat × List Value)
/-- All that the call has made: boxes (none: a place that is not made yet), rows of bytes; all apart. -/
structure St (T : TypeId) (w : World) (bs : List Bx1) (rs : RowL) (x : World) : Prop where
  up : Below w.heap.size w x
  box : ∀ (i : Nat) g cs, bs[i]? = some (some (g, cs)) → w.heap.size ≤ g ∧ g < x.heap.size ∧ x.rangeAt g 0 cs ∧ ∀ j, x.frozen? ⟨g, j, none⟩ = false
  ne : ∀ (i j : Nat) g cs h ds, bs[i]? = some (some (g, cs)) → bs[j]? = some (some (h, ds)) → i ≠ j → g ≠ h
  rows : RowsB T w.heap.size x rs
  off : ∀ (i j : Nat) g cs r a, bs[i]? = some (some (g, cs)) → rs[j]? = some r → r.1 = some a → a.block ≠ g

section
variable {T : TypeId} {w x y : World} {bs : List Bx1} {rs : RowL} {i g : Nat} {cs vs : List Value}
theorem St.nil (T : TypeId) (w : World) : St T w [] [] w := ⟨Below.refl _ _, fun i g cs h => by simp at h, fun i j g cs h ds h1 => by simp at h1, RowsB.nil, fun i j g cs r a h => by simp at h⟩
theorem range_below {g : Nat} (h : x.rangeAt g 0 cs) (k : Below x.heap.size x y) : y.rangeAt g 0 cs := fun j v hv => cell_below k (h j v hv)
theorem St.later (h : St T w bs rs x) (k : Below x.heap.size x y) : St T w bs rs y :=
  ⟨h.up.trans (k.mono h.up.size), fun i g cs hb => by
    obtain ⟨h1, h2, h3, h4⟩ := h.box i g cs hb
    exact ⟨h1, Nat.lt_of_lt_of_le h2 k.size, range_below h3 k, fun j => (k.frozen (p := ⟨g, j, none⟩) h2).trans (h4 j)⟩, h.ne, h.rows.later k, h.off⟩
theorem St.drew (h : St T w bs rs x) : St T w bs rs x.drew := h.later (Below.refl _ _).drew
theorem St.range (h : St T w bs rs x) (hb : bs[i]? = some (some (g, cs))) : x.rangeAt g 0 cs := (h.box i g cs hb).2.2.1
theorem St.cell (h : St T w bs rs x) (hb : bs[i]? = some (some (g, cs))) {j : Nat} {v : Value} (hv : cs[j]? = some v) : x.cell? ⟨g, j, none⟩ = some v := by have := h.range hb j v hv; rwa [Nat.zero_add] at this
theorem St.fz (h : St T w bs rs x) (hb : bs[i]? = some (some (g, cs))) (j : Nat) : x.frozen? ⟨g, j, none⟩ = false := (h.box i g cs hb).2.2.2 j
theorem St.more (h : St T w bs rs x) : St T w (bs ++ [none]) rs x := by
  have hg : ∀ (i : Nat) b, (bs ++ [none])[i]? = some (some b) → bs[i]? = some (some b) := fun i b hi => by
    rw [List.getElem?_append] at hi
    split at hi
    · exact hi
    · rw [List.getElem?_singleton] at hi; split at hi <;> simp at hi
  exact ⟨h.up, fun i g cs hb => h.box i g cs (hg i _ hb), fun i j g cs g' ds h1 h2 => h.ne i j g cs g' ds (hg i _ h1) (hg j _ h2), h.rows, fun i j g cs r a h1 => h.off i j g cs r a (hg i _ h1)⟩
theorem set_get {b : Bx1} {c : Nat × List Value} {j : Nat} (hj : (bs.set i b)[j]? = some (some c)) : (j = i ∧ b = some c) ∨ (j ≠ i ∧ bs[j]? = some (some c)) := by
  rw [List.getElem?_set] at hj
  by_cases e : i = j
  · subst e
    rw [if_pos rfl] at hj
    split at hj
    · injection hj with hj; exact .inl ⟨rfl, hj⟩
    · cases hj
  · rw [if_neg e] at hj
    exact .inr ⟨fun h => e h.symm, hj⟩
theorem range_new (w : World) (cs : List Value) (t : TypeId) : (w.alloc (.cells cs.toArray t)).rangeAt w.heap.size 0 cs := fun j v hv => by
  rw [Nat.zero_add]; simpa using hv
/-- A place is made. -/
theorem St.fill {t : TypeId} (h : St T w bs rs x) (i : Nat) (cs : List Value) (hn : bs[i]? = some none) : St T w (bs.set i (some (x.heap.size, cs))) rs (x.alloc (.cells cs.toArray t)) := by
  have hb : Below x.heap.size x (x.alloc (.cells cs.toArray t)) := (Below.refl _ x).alloc (Nat.le_refl _) _
  have k := h.later hb
  have hsz : x.heap.size < (x.alloc (.cells cs.toArray t)).heap.size := by show _ < (x.heap.push _).size; simp
  refine ⟨k.up, fun j g ds hj => ?_, fun j q g ds g' ds' hj hq hne => ?_, k.rows, fun j q g ds r a hj hq ha => ?_⟩
  · rcases set_get hj with ⟨rfl, e⟩ | ⟨_, hj⟩
    · injection e with e; injection e with e1 e2; subst e1; subst e2
      exact ⟨h.up.size, hsz, range_new _ _ _, fun j => by simp⟩
    · exact k.box j g ds hj
  · rcases set_get hj with ⟨rfl, e⟩ | ⟨h1, hj1⟩ <;> rcases set_get hq with ⟨rfl, e'⟩ | ⟨h2, hq1⟩
    · exact absurd rfl hne
    · injection e with e; injection e with e1 _; subst e1
      exact Nat.ne_of_gt (h.box q g' ds' hq1).2.1
    · injection e' with e'; injection e' with e1 _; subst e1
      exact Nat.ne_of_lt (h.box j g ds hj1).2.1
    · exact h.ne j q g ds g' ds' hj1 hq1 hne
  · rcases set_get hj with ⟨rfl, e⟩ | ⟨h1, hj⟩
    · injection e with e; injection e with e1 _; subst e1
      exact Nat.ne_of_lt (((h.rows.1 q r hq).lt ha).2)
    · exact h.off j q g ds r a hj hq ha
theorem St.push {t : TypeId} (h : St T w bs rs x) (cs : List Value) : St T w (bs ++ [some (x.heap.size, cs)]) rs (x.alloc (.cells cs.toArray t)) := by
  have := (h.more).fill (t := t) bs.length cs (by simp)
  simpa using this
/-- Blocks that are not the call's boxes change. -/
theorem St.chg {S : Nat → Prop} (h : St T w bs rs x) (hc : Chg S x y) (hS : ∀ b, S b → w.heap.size ≤ b) (hb : ∀ (i : Nat) g cs, bs[i]? = some (some (g, cs)) → ¬ S g) (hr : ∀ (i : Nat) r, rs[i]? = some r → ∀ a, r.1 = some a → ¬ S a.block) : St T w bs rs y :=
  ⟨h.up.trans (hc.below h.up.size fun k _ hk => hS k hk), fun i g cs hi => by
    obtain ⟨h1, h2, h3, h4⟩ := h.box i g cs hi
    refine ⟨h1, Nat.lt_of_lt_of_le h2 hc.size, fun j v hv => hc.cell (h3 j v hv) (hb i g cs hi), fun j => ?_⟩
    have := hc.block g h2 (hb i g cs hi)
    have h5 := h4 j
    unfold World.frozen? at h5 ⊢
    rw [this]; exact h5, h.ne, h.rows.chg hc hr, h.off⟩
theorem setCells_chg (g : Nat) : ∀ (vs : List Value) (o : Nat) (x : World), Chg (fun b => b = g) x (x.setCells g o vs)
  | [], _, x => Chg.refl _ x
  | v :: vs, o, x => (Chg.setCell x ⟨g, o, none⟩ v).trans (setCells_chg g vs (o + 1) _)
/-- A box is written whole. -/
theorem St.put (h : St T w bs rs x) (hb : bs[i]? = some (some (g, cs))) (hl : vs.length = cs.length) : St T w (bs.set i (some (g, vs))) rs (x.setCells g 0 vs) ∧ Chg (fun b => b = g) x (x.setCells g 0 vs) := by
  have hc := setCells_chg g vs 0 x
  obtain ⟨hw, hx, hr, hf⟩ := h.box i g cs hb
  have ht : x.there g 0 vs.length := fun j hj => ⟨hr.isSome j (by omega), by rw [Nat.zero_add]; exact hf j⟩
  have hfz : ∀ q, (x.setCells g 0 vs).frozen? q = x.frozen? q := fun q => World.frozen?_setCells _ _ _ _ _
  refine ⟨⟨h.up.trans (hc.below h.up.size fun k _ hk => by rw [hk]; exact hw), fun j g' ds hj => ?_, fun j q g' ds g'' ds' hj hq hne => ?_, h.rows.chg hc fun q r hq a ha => h.off i q g cs r a hb hq ha, fun j q g' ds r a hj hq ha => ?_⟩, hc⟩
  · rcases set_get hj with ⟨rfl, e⟩ | ⟨h1, hj⟩
    · injection e with e; injection e with e1 e2; subst e1; subst e2
      exact ⟨hw, Nat.lt_of_lt_of_le hx hc.size, World.rangeAt_setCells_same x g 0 vs ht, fun j => (hfz _).trans (hf j)⟩
    · obtain ⟨a1, a2, a3, a4⟩ := h.box j g' ds hj
      exact ⟨a1, Nat.lt_of_lt_of_le a2 hc.size, World.rangeAt_setCells_apart a3 g 0 vs (.inl (h.ne j i g' ds g cs hj hb h1)), fun j => (hfz _).trans (a4 j)⟩
  · rcases set_get hj with ⟨rfl, e⟩ | ⟨h1, hj1⟩ <;> rcases set_get hq with ⟨rfl, e'⟩ | ⟨h2, hq1⟩
    · exact absurd rfl hne
    · injection e with e; injection e with e1 _; subst e1
      exact h.ne j q g cs g'' ds' hb hq1 hne
    · injection e' with e'; injection e' with e1 _; subst e1
      exact h.ne j q g' ds g cs hj1 hb hne
    · exact h.ne j q g' ds g'' ds' hj1 hq1 hne
  · rcases set_get hj with ⟨rfl, e⟩ | ⟨h1, hj⟩
    · injection e with e; injection e with e1 _; subst e1
      exact h.off j q g cs r a hb hq ha
    · exact h.off j q g' ds r a hj hq ha
/-- Rows that a call has made since. -/
theorem St.app (h : St T w bs rs x) (k : Below x.heap.size x y) {rs' : RowL} (hr : RowsB T x.heap.size y rs') : St T w bs (rs ++ rs') y :=
  ⟨(h.later k).up, (h.later k).box, h.ne, h.rows.app k hr h.up.size, fun i j g cs r a hb hj ha => by
    rw [List.getElem?_append] at hj
    split at hj
    · exact h.off i j g cs r a hb hj ha
    · have h1 := ((hr.1 _ r hj).lt ha).1
      have h2 := (h.box i g cs hb).2.1
      omega⟩
theorem St.fresh (h : St T w bs rs x) (k : Below x.heap.size x y) {A : Option Addr} {c : Nat} {l : List UInt8} (ho : OwnB T x.heap.size y A c l) : St T w bs (rs ++ [(A, c, l)]) y :=
  h.app k (RowsB.nil.snoc ho fun i r hr => by simp at hr)
theorem St.sl {c n : Nat} {A : Option Addr} {l : List UInt8} (h : St T w bs rs x) (hr : rs[i]? = some (A, c, l)) (hn : l.length = n) : Sl x A n c l := h.rows.sl_at hr hn
theorem St.own {c : Nat} {A : Option Addr} {l : List UInt8} (h : St T w bs rs x) (hr : rs[i]? = some (A, c, l)) : OwnB T w.heap.size x A c l := h.rows.1 i _ hr
theorem RowsB.erase {B : Nat} (h : RowsB T B x rs) (i : Nat) : RowsB T B x (rs.eraseIdx i) :=
  h.pick (fun j => if j < i then j else j + 1) (fun a b _ _ hne => by split <;> split <;> omega) fun j s hs => by
    rw [List.getElem?_eraseIdx] at hs
    split at hs
    · rename_i hj; rw [if_pos hj]; exact hs
    · rename_i hj; rw [if_neg hj]; exact hs
theorem erase_from {j : Nat} {r : Option Addr × Nat × List UInt8} (h : (rs.eraseIdx i)[j]? = some r) : ∃ k, k ≠ i ∧ rs[k]? = some r := by
  rw [List.getElem?_eraseIdx] at h
  split at h
  · exact ⟨j, by omega, h⟩
  · exact ⟨j + 1, by omega, h⟩
theorem St.erase (h : St T w bs rs x) (i : Nat) : St T w bs (rs.eraseIdx i) x := ⟨h.up, h.box, h.ne, h.rows.erase i, fun q j g cs r a hb hr ha => by
  obtain ⟨k, _, hk⟩ := erase_from hr
  exact h.off q k g cs r a hb hk ha⟩
/-- A row is written over and lengthened: the others stand. -/
theorem St.lng {A : Option Addr} {c : Nat} {l : List UInt8} (h : St T w bs rs x) (hr : rs[i]? = some (A, c, l)) (hc : Chg (fun b => A.map (·.block) = some b) x y) : St T w bs (rs.eraseIdx i) y := by
  have hS : ∀ b, A.map (·.block) = some b → ∃ a, A = some a ∧ a.block = b := fun b e => by
    cases A with
    | none => cases e
    | some a => injection e with e; exact ⟨a, rfl, e⟩
  refine (h.erase i).chg hc (fun b e => ?_) (fun q g cs hb e => ?_) fun j r hj a ha e => ?_
  · obtain ⟨a, ha, rfl⟩ := hS b e
    exact ((h.rows.1 i _ hr).lt ha).1
  · obtain ⟨a, ha, e'⟩ := hS g e
    exact h.off q i g cs _ a hb hr ha e'
  · obtain ⟨k, hk, hj⟩ := erase_from hj
    obtain ⟨b, hb, e'⟩ := hS _ e
    exact h.rows.2 i k _ r hr hj (fun e => hk e.symm) b a hb ha e'
theorem Lng.aside {x0 : World} {A A' : Option Addr} {c c' n g i j : Nat} {m : UInt8} {l l' : List UInt8} (L : Lng x0 A n m g x) (h : St T w bs rs x0) (hi : rs[i]? = some (A, c, l)) (hj : rs[j]? = some (A', c', l')) (hne : i ≠ j) (hc : Chg (fun b => A'.map (·.block) = some b) x y) : Lng x0 A n m g y := by
  refine L.chg hc fun b e => ?_
  cases A' with
  | none => cases e
  | some a =>
    injection e with e
    have e : a.block = b := e
    subst e
    refine ⟨((h.rows.1 j _ hj).lt rfl).2, fun e => ?_⟩
    cases A with
    | none => cases e
    | some a' =>
      injection e with e
      exact h.rows.2 i j _ _ hi hj hne a' a rfl rfl e
theorem Lng.box {x0 : World} {A : Option Addr} {c n g k i g1 : Nat} {m : UInt8} {l : List UInt8} {cs : List Value} (L : Lng x0 A n m g x) (h : St T w bs rs x0) (hb : bs[k]? = some (some (g1, cs))) (hi : rs[i]? = some (A, c, l)) (hc : Chg (fun b => b = g1) x y) : Lng x0 A n m g y := by
  refine L.chg hc fun b e => ?_
  subst e
  refine ⟨(h.box k _ cs hb).2.1, fun e => ?_⟩
  cases A with
  | none => cases e
  | some a =>
    injection e with e
    exact h.off k i _ cs _ a hb hi rfl e
theorem RowsB.lift {B B' : Nat} (h : RowsB T B x rs) (hb : B' ≤ B) : RowsB T B' x rs := ⟨fun i r hr => (h.1 i r hr).rebase hb, h.2⟩
end

section
variable {P : Program} {ops : Array Oper} {Q : Exit → Act → World → Prop}
theorem wp_alloc_row {o : Oper} {a : Act} {w : World} {K : Act → World → Prop} {ty : TypeId} (ho : o.op = .alloc ty) {z : Value} (hz : (P.info? ty).bind (·.zero) = some z)
    (hK : K (a.put o.dst (.pointer (some ⟨w.heap.size, 0, none⟩))) (w.alloc (.cells z.cells ty))) : o.wp P a w K Q := by
  cases hi : P.info? ty with
  | none => rw [hi] at hz; cases hz
  | some i =>
    rw [hi] at hz
    have hz : i.zero = some z := hz
    unfold Oper.wp execOp
    simp [ho, Instr.alloc, zeroValue, typeInfo, hi, hz, newVar, newRow, Sem.run_bind, Oper.upon]
    exact hK
theorem wp_store_row {o : Oper} {a : Act} {w : World} {K : Act → World → Prop} {ty : TypeId} {x y : Operand} (ho : o.op = .store ty x y) {g : Nat} {cs vs : List Value} (hx : a.eval x = .pointer (some ⟨g, 0, none⟩)) (hy : a.eval y = .agg vs.toArray)
    (hr : w.rangeAt g 0 cs) (hf : ∀ j, w.frozen? ⟨g, j, none⟩ = false) (hl : vs.length = cs.length) (ht : (P.info? ty).map (·.size) = some vs.length) (h1 : ∀ u ∈ vs, u.oneCell' = true)
    (hK : K (a.put o.dst undef) (w.setCells g 0 vs)) : o.wp P a w K Q :=
  wp_store_mid ty x y ho g 0 vs.toArray hx hy (fun j hj => ⟨hr.isSome j (by simpa [hl] using hj), by rw [Nat.zero_add]; exact hf j⟩) (by simpa using ht) (all_oneCell_toArray h1) hK
theorem wpList_store_row {rest : List Oper} {o : Oper} {a : Act} {w : World} (hgd : Region.wanted o (yielded ops a.tmps) = true) (ty : TypeId) (x y : Operand) (ho : o.op = .store ty x y) {g : Nat} {cs vs : List Value} (hx : a.eval x = .pointer (some ⟨g, 0, none⟩)) (hy : a.eval y = .agg vs.toArray)
    (hr : w.rangeAt g 0 cs) (hf : ∀ j, w.frozen? ⟨g, j, none⟩ = false) (hl : vs.length = cs.length) (ht : (P.info? ty).map (·.size) = some vs.length) (h1 : ∀ u ∈ vs, u.oneCell' = true)
    (hK : wpList P ops Q rest (a.put o.dst undef) (w.setCells g 0 vs)) : wpList P ops Q (o :: rest) a w :=
  BigFrame.wpList_want hgd fun _ h => wp_store_row ho hx hy hr hf hl ht h1 (h _ _ hK)
theorem wpList_alloc_st {rest : List Oper} {o : Oper} {a : Act} {W : World} (hgd : Region.wanted o (yielded ops a.tmps) = true) (ty : TypeId) (ho : o.op = .alloc ty) {T : TypeId} {w : World} {bs : List Bx1} {rs : RowL} (h : St T w bs rs W) (cs : List Value) (hz : (P.info? ty).bind (·.zero) = some (.agg cs.toArray))
    (hK : ∀ g W', St T w (bs ++ [some (g, cs)]) rs W' → Below W.heap.size W W' → wpList P ops Q rest (a.put o.dst (.pointer (some ⟨g, 0, none⟩))) W') : wpList P ops Q (o :: rest) a W :=
  BigFrame.wpList_want hgd fun _ hk => wp_alloc_row ho hz (hk _ _ (hK _ _ (h.push cs) ((Below.refl _ _).alloc (Nat.le_refl _) _)))
theorem wpList_store_st {rest : List Oper} {o : Oper} {a : Act} {W : World} (hgd : Region.wanted o (yielded ops a.tmps) = true) (ty : TypeId) (x y : Operand) (ho : o.op = .store ty x y) {T : TypeId} {w : World} {bs : List Bx1} {rs : RowL} (h : St T w bs rs W) (i : Nat) {g : Nat} {cs : List Value} (hb : bs[i]? = some (some (g, cs)))
    (hx : a.eval x = .pointer (some ⟨g, 0, none⟩)) (vs : List Value) (hy : a.eval y = .agg vs.toArray) (hl : vs.length = cs.length) (ht : (P.info? ty).map (·.size) = some vs.length) (h1 : ∀ u ∈ vs, u.oneCell' = true)
    (hK : ∀ W', St T w (bs.set i (some (g, vs))) rs W' → Chg (fun b => b = g) W W' → wpList P ops Q rest (a.put o.dst undef) W') : wpList P ops Q (o :: rest) a W :=
  wpList_store_row hgd ty x y ho hx hy (h.range hb) (h.fz hb) hl ht h1 (hK _ (h.put hb hl).1 (h.put hb hl).2)
end
end Go.Proofs.Ytcikhlieaoanoaa

/-
  A statement 'x, y, .. := f(a), f(b), ..' whose variables are boxed: a region that draws its order; each part is loaded, called for, given a place and stored. Over any program.
-/
namespace Go.Proofs.Ytcikhlieaoanoaa
open Go.RowKit

/-- Where the parts stand: slots of the loaded, of the answer, of the place; numbers of the operations. -/
structure Parts where
  k : Nat
  s : Nat → Nat
  u : Nat → Nat
  t : Nat → Nat
  L : Nat → Nat
  C : Nat → Nat
  A : Nat → Nat
  X : Nat → Nat
def Parts.slots (p : Parts) : List Nat := (List.range p.k).flatMap fun j => [p.s j, p.u j, p.t j]
def apartB (l : List Nat) : Bool := decide l.Nodup
def Parts.sl (p : Parts) (j : Nat) : List Nat := [p.s j, p.u j, p.t j]
def Parts.op (p : Parts) (j : Nat) : List Nat := [p.L j, p.C j, p.A j, p.X j]
def Parts.ok (p : Parts) (n : Nat) : Bool := (List.range p.k).all fun j => decide ((p.sl j).Nodup) && decide ((p.op j).Nodup) && (p.sl j).all (fun d => decide (d < n)) &&
  (List.range p.k).all fun i => i == j || ((p.sl i).all fun x => !(p.sl j).contains x) && (p.op i).all fun x => !(p.op j).contains x
theorem ok_at {p : Parts} {m : Nat} (h : p.ok m = true) {j : Nat} (hj : j < p.k) : ((p.sl j).Nodup ∧ (p.op j).Nodup ∧ ∀ d ∈ p.sl j, d < m) ∧ ∀ i, i < p.k → i ≠ j → (∀ x ∈ p.sl i, ∀ y ∈ p.sl j, x ≠ y) ∧ ∀ x ∈ p.op i, ∀ y ∈ p.op j, x ≠ y := by
  have h1 := List.all_eq_true.1 h j (List.mem_range.2 hj)
  simp only [Bool.and_eq_true, decide_eq_true_eq, List.all_eq_true, Bool.or_eq_true, beq_iff_eq, Bool.not_eq_true', List.mem_range] at h1
  obtain ⟨⟨⟨a1, a2⟩, a3⟩, a4⟩ := h1
  refine ⟨⟨a1, a2, a3⟩, fun i hi hne => ?_⟩
  rcases a4 i hi with e | ⟨b1, b2⟩
  · exact absurd e hne
  · exact ⟨fun x hx y hy e => by subst e; have := b1 x hx; simp at this; exact this hy, fun x hx y hy e => by subst e; have := b2 x hx; simp at this; exact this hy⟩
def edgeB (o : Oper) (n : Nat) : Bool := o.after.any fun e => Region.binds .any e && e.on == n
theorem edge_on {o : Oper} {n : Nat} {D : Nat → Bool} (h : edgeB o n = true) (hp : ∀ e, e ∈ o.after → Region.binds .any e = true → D e.on = true) : D n = true := by
  obtain ⟨e, he, hb⟩ := Array.any_eq_true'.1 h
  simp only [Bool.and_eq_true, beq_iff_eq] at hb
  rw [← hb.2]
  exact hp e he hb.1
def chainB (l : List Oper) (C : Nat → Nat) (k : Nat) : Bool := (List.range (k - 1)).all fun j => match l[C (j + 1)]? with
  | some o => edgeB o (C j)
  | none => false
theorem chain_down {l : List Oper} {C : Nat → Nat} {k : Nat} {D : Nat → Bool} (h : chainB l C k = true) (hc : Closed l D) {j : Nat} (hj : D (C j) = false) : ∀ i, j ≤ i → i < k → D (C i) = false := by
  intro i
  induction i with
  | zero => intro h0 _; obtain rfl : j = 0 := by omega
            exact hj
  | succ i ih =>
    intro h0 h1
    rcases Nat.lt_or_ge i j with hlt | hge
    · obtain rfl : j = i + 1 := by omega
      exact hj
    · cases hd : D (C (i + 1)) with
      | false => rfl
      | true =>
        have h2 := List.all_eq_true.1 h i (List.mem_range.2 (by omega))
        split at h2
        · rename_i o ho
          have := edge_on h2 (hc _ o ho hd)
          rw [ih hge (by omega)] at this
          cases this
        · cases h2
section
variable {P : Program} {Q : Exit → Act → World → Prop} {T : TypeId} {w : World} {bs : List Bx1} {rs : RowL}
/-- What holds of one part. -/
structure Part1 (p : Parts) (n : Nat) (arg : List Value) (Pst : Value → RowL → Prop) (j : Nat) (D : Nat → Bool) (v : Nat → Value) (b : Bx1) (R : RowL) : Prop where
  load : D (p.L j) = true → v (p.s j) = .agg arg.toArray
  no : D (p.C j) = false → R = []
  call : D (p.C j) = true → Pst (v (p.u j)) R
  nob : D (p.A j) = false → b = none
  box : D (p.A j) = true → ∃ g cs, v (p.t j) = .pointer (some ⟨g, 0, none⟩) ∧ b = some (g, cs) ∧ cs.length = n ∧ (D (p.X j) = true → v (p.u j) = .agg cs.toArray)
theorem slot_ne {p : Parts} {m : Nat} (h : p.ok m = true) {i j : Nat} (hi : i < p.k) (hj : j < p.k) (hne : i ≠ j) :
    (p.s i ≠ p.s j ∧ p.s i ≠ p.u j ∧ p.s i ≠ p.t j ∧ p.u i ≠ p.s j ∧ p.u i ≠ p.u j ∧ p.u i ≠ p.t j ∧ p.t i ≠ p.s j ∧ p.t i ≠ p.u j ∧ p.t i ≠ p.t j) := by
  have k := ((ok_at h hj).2 i hi hne).1
  unfold Parts.sl at k
  exact ⟨k _ (by simp) _ (by simp), k _ (by simp) _ (by simp), k _ (by simp) _ (by simp), k _ (by simp) _ (by simp), k _ (by simp) _ (by simp), k _ (by simp) _ (by simp), k _ (by simp) _ (by simp), k _ (by simp) _ (by simp), k _ (by simp) _ (by simp)⟩
theorem oper_ne {p : Parts} {m : Nat} (h : p.ok m = true) {i j : Nat} (hi : i < p.k) (hj : j < p.k) (hne : i ≠ j) :
    ∀ x ∈ [p.L i, p.C i, p.A i, p.X i], ∀ y ∈ [p.L j, p.C j, p.A j, p.X j], x ≠ y := ((ok_at h hj).2 i hi hne).2
theorem own_ne {p : Parts} {m : Nat} (h : p.ok m = true) {j : Nat} (hj : j < p.k) : (p.s j ≠ p.u j ∧ p.s j ≠ p.t j ∧ p.u j ≠ p.t j) ∧ (p.L j ≠ p.C j ∧ p.L j ≠ p.A j ∧ p.L j ≠ p.X j ∧ p.C j ≠ p.A j ∧ p.C j ≠ p.X j ∧ p.A j ≠ p.X j) ∧ (p.s j < m ∧ p.u j < m ∧ p.t j < m) := by
  obtain ⟨h1, h2, h3⟩ := (ok_at h hj).1
  unfold Parts.sl at h1 h3
  unfold Parts.op at h2
  simp only [List.nodup_cons, List.mem_cons, List.not_mem_nil, not_or, or_false] at h1 h2
  exact ⟨⟨h1.1.1, h1.1.2, h1.2.1⟩, ⟨h2.1.1, h2.1.2.1, h2.1.2.2, h2.2.1.1, h2.2.1.2, h2.2.2.1⟩, h3 _ (by simp), h3 _ (by simp), h3 _ (by simp)⟩
theorem slot_in {p : Parts} {j : Nat} (hj : j < p.k) : p.s j ∈ p.slots ∧ p.u j ∈ p.slots ∧ p.t j ∈ p.slots :=
  ⟨List.mem_flatMap.2 ⟨j, List.mem_range.2 hj, by simp⟩, List.mem_flatMap.2 ⟨j, List.mem_range.2 hj, by simp⟩, List.mem_flatMap.2 ⟨j, List.mem_range.2 hj, by simp⟩⟩
/-- A part that is not meant stays. -/
theorem Part1.other {p : Parts} {n : Nat} {arg : List Value} {Pst : Value → RowL → Prop} {j : Nat} {D D' : Nat → Bool} {v v' : Nat → Value} {b : Bx1} {R : RowL} (h : Part1 p n arg Pst j D v b R)
    (hD : D' (p.L j) = D (p.L j) ∧ D' (p.C j) = D (p.C j) ∧ D' (p.A j) = D (p.A j) ∧ D' (p.X j) = D (p.X j)) (hv : v' (p.s j) = v (p.s j) ∧ v' (p.u j) = v (p.u j) ∧ v' (p.t j) = v (p.t j)) : Part1 p n arg Pst j D' v' b R := by
  obtain ⟨d1, d2, d3, d4⟩ := hD
  obtain ⟨v1, v2, v3⟩ := hv
  refine ⟨fun e => ?_, fun e => ?_, fun e => ?_, fun e => ?_, fun e => ?_⟩
  · rw [v1]; exact h.load (d1 ▸ e)
  · exact h.no (d2 ▸ e)
  · rw [v2]; exact h.call (d2 ▸ e)
  · exact h.nob (d3 ▸ e)
  · rw [v2, v3, d4]; exact h.box (d3 ▸ e)
def Rows1 (R : Nat → RowL) (k : Nat) : RowL := (List.range k).flatMap R
def Boxes1 (b : Nat → Bx1) (k : Nat) : List Bx1 := (List.range k).map b
/-- What holds of the region. -/
def PartR (p : Parts) (T : TypeId) (w : World) (bs : List Bx1) (rs : RowL) (n : Nat) (arg : Nat → List Value) (Pst : Nat → Value → RowL → Prop) (D : Nat → Bool) (v : Nat → Value) (x : World) : Prop :=
  ∃ (b : Nat → Bx1) (R : Nat → RowL), St T w (bs ++ Boxes1 b p.k) (rs ++ Rows1 R p.k) x ∧ ∀ j, j < p.k → Part1 p n (arg j) (Pst j) j D v (b j) (R j)
variable {p : Parts} {n m : Nat} {arg : Nat → List Value} {Pst : Nat → Value → RowL → Prop} {l : List Oper} {f0 : Act} {o : Oper} {j : Nat}
def upd {α : Type} (f : Nat → α) (j : Nat) (x : α) : Nat → α := fun i => if i = j then x else f i
theorem upd_same {α : Type} (f : Nat → α) (j : Nat) (x : α) : upd f j x j = x := by simp [upd]
theorem upd_other {α : Type} {f : Nat → α} {j i : Nat} {x : α} (h : i ≠ j) : upd f j x i = f i := by simp [upd, h]
theorem boxes_upd (b : Nat → Bx1) (k : Nat) (x : Bx1) : Boxes1 (upd b j x) k = (Boxes1 b k).set j x := by
  refine List.ext_getElem? fun i => ?_
  unfold Boxes1
  rw [List.getElem?_set, List.getElem?_map, List.getElem?_map]
  by_cases hi : i < k
  · rw [List.getElem?_range hi]
    by_cases e : j = i
    · subst e; simp [hi, upd]
    · have e2 : i ≠ j := fun h => e h.symm
      simp [upd, e, e2]
  · rw [List.getElem?_eq_none (by simpa using hi)]
    by_cases e : j = i
    · subst e; simp [hi]
    · simp [e]
theorem boxes_at {b : Nat → Bx1} {k : Nat} (hj : j < k) : (bs ++ Boxes1 b k)[bs.length + j]? = some (b j) := by
  rw [List.getElem?_append_right (by omega)]
  simp [Boxes1, hj]
theorem rows_upd {R : Nat → RowL} {k : Nat} {x : RowL} (hj : j < k) (h : ∀ i, j ≤ i → i < k → R i = []) : Rows1 (upd R j x) k = Rows1 R k ++ x := by
  unfold Rows1
  obtain ⟨d, rfl⟩ : ∃ d, k = j + 1 + d := ⟨k - (j + 1), by omega⟩
  have hcut : ∀ F : Nat → RowL, (List.range (j + 1 + d)).flatMap F = (List.range j).flatMap F ++ F j ++ ((List.range d).map (j + 1 + ·)).flatMap F := fun F => by
    rw [List.range_add, List.flatMap_append, List.range_succ, List.flatMap_append]; simp
  have hnil : ∀ F : Nat → RowL, (∀ i, j < i → i < j + 1 + d → F i = []) → ((List.range d).map (j + 1 + ·)).flatMap F = [] := fun F hF => by
    rw [List.flatMap_eq_nil_iff]
    intro i hi
    obtain ⟨q, hq, rfl⟩ := List.mem_map.1 hi
    exact hF _ (by omega) (by have := List.mem_range.1 hq; omega)
  have hpre : (List.range j).flatMap (upd R j x) = (List.range j).flatMap R := by
    unfold List.flatMap
    congr 1
    exact List.map_congr_left fun i hi => upd_other (by have := List.mem_range.1 hi; omega)
  rw [hcut, hcut, hnil _ (fun i h1 h2 => by rw [upd_other (by omega)]; exact h i (by omega) h2), hnil _ (fun i h1 h2 => h i (by omega) h2), hpre, upd_same, h j (Nat.le_refl _) hj]
  simp
theorem done_same (D : Nat → Bool) (i : Nat) : (i == i || D i) = true := by simp
theorem done_other {D : Nat → Bool} {i q : Nat} (h : q ≠ i) : (q == i || D q) = D q := by simp [h]
/-- The others stay. -/
theorem others {D : Nat → Bool} {a : Act} {b : Nat → Bx1} {R : Nat → RowL} (hok : p.ok m = true) (hj : j < p.k) (h : ∀ i, i < p.k → Part1 p n (arg i) (Pst i) i D (fun q => a.eval (.tmp q)) (b i) (R i)) {c d : Nat} {x : Value}
    (hc : c ∈ [p.L j, p.C j, p.A j, p.X j]) (hd : d = p.s j ∨ d = p.u j ∨ d = p.t j) {i : Nat} (hi : i < p.k) (hne : i ≠ j) : Part1 p n (arg i) (Pst i) i (fun q => q == c || D q) (fun q => (a.put (some d) x).eval (.tmp q)) (b i) (R i) := by
  have h1 := oper_ne hok hi hj hne
  obtain ⟨n1, n2, n3, n4, n5, n6, n7, n8, n9⟩ := slot_ne hok hi hj hne
  refine (h i hi).other ⟨done_other (h1 _ (by simp) c hc), done_other (h1 _ (by simp) c hc), done_other (h1 _ (by simp) c hc), done_other (h1 _ (by simp) c hc)⟩ ?_
  rcases hd with rfl | rfl | rfl
  · exact ⟨put_other n1.symm x, put_other n4.symm x, put_other n7.symm x⟩
  · exact ⟨put_other n2.symm x, put_other n5.symm x, put_other n8.symm x⟩
  · exact ⟨put_other n3.symm x, put_other n6.symm x, put_other n9.symm x⟩
theorem part_load {ty : TypeId} {q i g : Nat} (hok : p.ok f0.tmps.size = true) (hj : j < p.k) (ho : o.op = .load ty (.tmp q)) (hd : o.dst = some (p.s j)) (hq : q ∉ p.slots) (he : f0.eval (.tmp q) = .pointer (some ⟨g, 0, none⟩)) (hb : bs[i]? = some (some (g, arg j))) (ht : RowTy P ty (arg j).length) :
    RegStep P Q l p.slots f0 (PartR p T w bs rs n arg Pst) (p.L j) o := by
  intro D a x hcl hs ⟨b, R, hst, hp⟩ hD hpre
  obtain ⟨⟨o1, o2, o3⟩, ⟨e1, e2, e3, e4, e5, e6⟩, ⟨m1, m2, m3⟩⟩ := own_ne hok hj
  refine wp_load_row7 ho ((hs.eval hq).trans he) (hst.range (i := i) (by rw [List.getElem?_append_left (List.getElem?_eq_some_iff.1 hb).1]; exact hb)) ht ?_
  rw [hd]
  refine ⟨hs.put (slot_in hj).1 _, b, R, hst, fun i hi => ?_⟩
  by_cases e : i = j
  · subst e
    have h := hp i hi
    refine ⟨fun _ => put_same (by rw [hs.size]; exact m1) _, fun e => h.no (by rwa [done_other e1.symm] at e), fun e => ?_, fun e => h.nob (by rwa [done_other e2.symm] at e), fun e => ?_⟩
    · rw [put_other o1]; exact h.call (by rwa [done_other e1.symm] at e)
    · rw [put_other o1, put_other o2, done_other e3.symm]; exact h.box (by rwa [done_other e2.symm] at e)
  · exact others hok hj hp (by simp) (.inl rfl) hi e
theorem part_call {f : FuncId} {ats : Array TypeId} (hok : p.ok f0.tmps.size = true) (hj : j < p.k) (ho : o.op = .call { callee := .value (.func f), args := #[.tmp (p.s j)], argTypes := ats }) (hd : o.dst = some (p.u j)) (hf : GoFn P f)
    (hL : edgeB o (p.L j) = true) (hch : chainB l p.C p.k = true) (hX : ∃ ox, l[p.X j]? = some ox ∧ edgeB ox (p.C j) = true)
    (hc : ∀ x, Below w.heap.size w x → Calls P f #[.agg (arg j).toArray] x fun e y => ∃ v R, e = .returned v ∧ Pst j v R ∧ RowsB T x.heap.size y R ∧ Below x.heap.size x y) :
    RegStep P Q l p.slots f0 (PartR p T w bs rs n arg Pst) (p.C j) o := by
  intro D a x hcl hs ⟨b, R, hst, hp⟩ hD hpre
  obtain ⟨⟨o1, o2, o3⟩, ⟨e1, e2, e3, e4, e5, e6⟩, ⟨m1, m2, m3⟩⟩ := own_ne hok hj
  have hl := (hp j hj).load (edge_on hL hpre)
  refine wp_call_go ho hf #[.agg (arg j).toArray] (by simp only [List.map_toArray, List.map_cons, List.map_nil]; rw [show a.eval (.tmp (p.s j)) = _ from hl]) ((hc x hst.up).mono fun e y ⟨v, R', he, hP, hR, hB⟩ => ⟨v, he, ?_⟩)
  rw [hd]
  have hno := chain_down hch hcl hD
  have hXf : D (p.X j) = false := by
    obtain ⟨ox, hox, hoe⟩ := hX
    cases h : D (p.X j) with
    | false => rfl
    | true => have := edge_on hoe (hcl _ _ hox h); rw [hD] at this; cases this
  refine ⟨hs.put (slot_in hj).2.1 _, b, upd R j R', ?_, fun i hi => ?_⟩
  · rw [rows_upd hj fun i h1 h2 => (hp i h2).no (hno i h1 h2), ← List.append_assoc]
    exact hst.app hB hR
  · by_cases e : i = j
    · subst e
      have h := hp i hi
      rw [upd_same]
      refine ⟨fun e => ?_, fun e => ?_, fun _ => ?_, fun e => h.nob (by rwa [done_other e4.symm] at e), fun e => ?_⟩
      · rw [put_other o1.symm]; exact h.load (by rwa [done_other e1] at e)
      · rw [done_same] at e; cases e
      · rw [put_same (by rw [hs.size]; exact m2)]; exact hP
      · obtain ⟨g, cs, h1, h2, h3, h4⟩ := h.box (by rwa [done_other e4.symm] at e)
        refine ⟨g, cs, by rw [put_other o3]; exact h1, h2, h3, fun e => ?_⟩
        rw [done_other e5.symm, hXf] at e; cases e
    · rw [upd_other e]
      exact others hok hj hp (by simp) (.inr (.inl rfl)) hi e
theorem part_alloc {ty : TypeId} {cs : List Value} (hok : p.ok f0.tmps.size = true) (hj : j < p.k) (ho : o.op = .alloc ty) (hd : o.dst = some (p.t j)) (hz : (P.info? ty).bind (·.zero) = some (.agg cs.toArray)) (hn : cs.length = n)
    (hX : ∃ ox, l[p.X j]? = some ox ∧ edgeB ox (p.A j) = true) : RegStep P Q l p.slots f0 (PartR p T w bs rs n arg Pst) (p.A j) o := by
  intro D a x hcl hs ⟨b, R, hst, hp⟩ hD hpre
  obtain ⟨⟨o1, o2, o3⟩, ⟨e1, e2, e3, e4, e5, e6⟩, ⟨m1, m2, m3⟩⟩ := own_ne hok hj
  refine wp_alloc_row ho hz ?_
  rw [hd]
  have hXf : D (p.X j) = false := by
    obtain ⟨ox, hox, hoe⟩ := hX
    cases h : D (p.X j) with
    | false => rfl
    | true => have := edge_on hoe (hcl _ _ hox h); rw [hD] at this; cases this
  refine ⟨hs.put (slot_in hj).2.2 _, upd b j (some (x.heap.size, cs)), R, ?_, fun i hi => ?_⟩
  · have h := hst.fill (t := ty) (bs.length + j) cs (by rw [boxes_at hj, (hp j hj).nob hD])
    rw [boxes_upd]
    rw [List.set_append_right _ _ (by omega), show bs.length + j - bs.length = j from by omega] at h
    exact h
  · by_cases e : i = j
    · subst e
      have h := hp i hi
      rw [upd_same]
      refine ⟨fun e => ?_, fun e => h.no (by rwa [done_other e4] at e), fun e => ?_, fun e => ?_, fun _ => ⟨_, cs, put_same (by rw [hs.size]; exact m3) _, rfl, hn, fun e => ?_⟩⟩
      · rw [put_other o2.symm]; exact h.load (by rwa [done_other e2] at e)
      · rw [put_other o3.symm]; exact h.call (by rwa [done_other e4] at e)
      · rw [done_same] at e; cases e
      · rw [done_other e6.symm, hXf] at e; cases e
    · rw [upd_other e]
      exact others hok hj hp (by simp) (.inr (.inr rfl)) hi e
theorem part_store {ty : TypeId} (hok : p.ok f0.tmps.size = true) (hj : j < p.k) (ho : o.op = .store ty (.tmp (p.t j)) (.tmp (p.u j))) (hd : o.dst = none) (hA : edgeB o (p.A j) = true) (hC : edgeB o (p.C j) = true)
    (hP : ∀ v R, Pst j v R → ∃ cs : List Value, v = .agg cs.toArray ∧ cs.length = n ∧ ∀ u ∈ cs, u.oneCell' = true) (ht : (P.info? ty).map (·.size) = some n) : RegStep P Q l p.slots f0 (PartR p T w bs rs n arg Pst) (p.X j) o := by
  intro D a x hcl hs ⟨b, R, hst, hp⟩ hD hpre
  obtain ⟨⟨o1, o2, o3⟩, ⟨e1, e2, e3, e4, e5, e6⟩, ⟨m1, m2, m3⟩⟩ := own_ne hok hj
  obtain ⟨g, cs, h1, h2, h3, _⟩ := (hp j hj).box (edge_on hA hpre)
  have hc := (hp j hj).call (edge_on hC hpre)
  obtain ⟨vs, k1, k2, k3⟩ := hP _ _ hc
  have hb : (bs ++ Boxes1 b p.k)[bs.length + j]? = some (some (g, cs)) := by rw [boxes_at hj, h2]
  refine wp_store_row ho h1 k1 (hst.range hb) (hst.fz hb) (by rw [k2, h3]) (by rw [k2]; exact ht) k3 ?_
  rw [hd]
  refine ⟨hs, upd b j (some (g, vs)), R, ?_, fun i hi => ?_⟩
  · have h := (hst.put (vs := vs) hb (by rw [k2, h3])).1
    rw [boxes_upd]
    rw [List.set_append_right _ _ (by omega), show bs.length + j - bs.length = j from by omega] at h
    exact h
  · by_cases e : i = j
    · subst e
      have h := hp i hi
      rw [upd_same]
      refine ⟨fun e => h.load (by rwa [done_other e3] at e), fun e => h.no (by rwa [done_other e5] at e), fun e => h.call (by rwa [done_other e5] at e), fun e => ?_, fun e => ⟨g, vs, h1, rfl, k2, fun _ => k1⟩⟩
      rw [done_other e6, edge_on hA hpre] at e; cases e
    · rw [upd_other e]
      have q := oper_ne hok hi hj e
      exact (hp i hi).other ⟨done_other (q _ (by simp) _ (by simp)), done_other (q _ (by simp) _ (by simp)), done_other (q _ (by simp) _ (by simp)), done_other (q _ (by simp) _ (by simp))⟩ ⟨rfl, rfl, rfl⟩
theorem partR_start {v : Nat → Value} {x : World} (h : St T w bs rs x) : PartR p T w bs rs n arg Pst (fun _ => false) v x := by
  refine ⟨fun _ => none, fun _ => [], ?_, fun j _ => ⟨(fun e => nomatch e), fun _ => rfl, (fun e => nomatch e), fun _ => rfl, (fun e => nomatch e)⟩⟩
  have e1 : Rows1 (fun _ => []) p.k = [] := by unfold Rows1; simp
  have e2 : ∀ k, St T w (bs ++ Boxes1 (fun _ => none) k) rs x := by
    intro k
    induction k with
    | zero => simpa [Boxes1] using h
    | succ k ih =>
      have := ih.more
      simpa [Boxes1, List.range_succ] using this
  rw [e1, List.append_nil]
  exact e2 p.k
end
end Go.Proofs.Ytcikhlieaoanoaa

/-
  Entries laid by the law's entry, two or three in one statement.
-/
namespace Go.Proofs.Ytcikhlieaoanoaa
open Go.RowKit

/-- The cells of an entry's box. -/
def entL (A : Option Addr) (n c : Nat) (B : Option Addr) (m d : Nat) (D : Option Addr) (v q : Nat) (e : Ent) : List Value := [.slice A n c, .int .i64 e.fam, .slice B m d, .int .i64 e.ts, .int .i64 e.seq, .int .i64 e.kind, .slice D v q]
def zeroL : List Value := [.slice none 0 0, .int .i64 0, .slice none 0 0, .int .i64 0, .int .i64 0, .int .i64 0, .slice none 0 0]
def LPst (e : Ent) (v : Value) (R : RowL) : Prop := ∃ A c B d D q, v = .agg (entL A e.row.length c B e.qual.length d D e.val.length q e).toArray ∧ R = [(A, c, e.row ++ mkL 70), (B, d, e.qual ++ mkL 70), (D, q, e.val ++ mkL 70)]
theorem ent_row : RowTy Try.prog 27 7 := ⟨⟨_, Try.underlying27, rfl⟩, by kernel_rfl⟩
theorem ent_zero : (Try.prog.info? 27).bind (·.zero) = some (.agg zeroL.toArray) := by kernel_rfl
theorem ent_size : (Try.prog.info? 27).map (·.size) = some 7 := by kernel_rfl
theorem go_entry : GoFn Try.prog 21 := ⟨_, Try.func21, by decide, by kernel_rfl⟩
theorem entL_one (A : Option Addr) (n c : Nat) (B : Option Addr) (m d : Nat) (D : Option Addr) (v q : Nat) (e : Ent) : ∀ u ∈ entL A n c B m d D v q e, u.oneCell' = true := by
  intro u hu
  simp only [entL, List.mem_cons, List.not_mem_nil, or_false] at hu
  rcases hu with rfl | rfl | rfl | rfl | rfl | rfl | rfl <;> rfl
theorem lpst_cells {e : Ent} : ∀ v R, LPst e v R → ∃ cs : List Value, v = .agg cs.toArray ∧ cs.length = 7 ∧ ∀ u ∈ cs, u.oneCell' = true := by
  rintro v R ⟨A, c, B, d, D, q, rfl, _⟩
  exact ⟨_, rfl, rfl, entL_one _ _ _ _ _ _ _ _ _ _⟩
theorem entry_part {A : Option Addr} {n c : Nat} {B : Option Addr} {m d : Nat} {D : Option Addr} {v q : Nat} {e : Ent} {w : World} (h : En w A n c B m d D v q e) : ∀ x, Below w.heap.size w x →
    Calls Try.prog 21 #[.agg (entL A n c B m d D v q e).toArray] x fun r y => ∃ v R, r = .returned v ∧ LPst (cutE e) v R ∧ RowsB 5 x.heap.size y R ∧ Below x.heap.size x y := fun x hx =>
  (entry_any e A n c B m d D v q x (h.later hx)).mono fun _r _y ⟨A, c, B, d, D, q, h1, h2, h3⟩ => ⟨_, _, h1, ⟨A, c, B, d, D, q, rfl, rfl⟩, h2, h3⟩
theorem part_end {p : Parts} {arg : List Value} {e : Ent} {j : Nat} {D : Nat → Bool} {v : Nat → Value} {b : Bx1} {R : RowL} (h : Part1 p 7 arg (LPst e) j D v b R) (hD : ∀ i ∈ p.op j, D i = true) :
    ∃ A c B d D q g, v (p.t j) = .pointer (some ⟨g, 0, none⟩) ∧ b = some (g, entL A e.row.length c B e.qual.length d D e.val.length q e) ∧ R = [(A, c, e.row ++ mkL 70), (B, d, e.qual ++ mkL 70), (D, q, e.val ++ mkL 70)] := by
  obtain ⟨g, cs, h1, h2, _, h4⟩ := h.box (hD _ (by simp [Parts.op]))
  obtain ⟨A, c, B, d, E, q, k1, k2⟩ := h.call (hD _ (by simp [Parts.op]))
  have h5 := h4 (hD _ (by simp [Parts.op]))
  rw [k1] at h5
  injection h5 with h5
  have h5 := congrArg Array.toList h5
  simp only at h5
  subst h5
  exact ⟨A, c, B, d, E, q, g, h1, h2, k2⟩
theorem ents2 {p : Parts} {T : TypeId} {w x : World} {bs : List Bx1} {rs : RowL} {arg : Nat → List Value} {es : Nat → Ent} {D : Nat → Bool} {v : Nat → Value} (hk : p.k = 2) (h : PartR p T w bs rs 7 arg (fun j => LPst (es j)) D v x) (hD : ∀ j, j < 2 → ∀ i ∈ p.op j, D i = true) :
    ∃ A1 c1 B1 d1 D1 q1 g1 A2 c2 B2 d2 D2 q2 g2, v (p.t 0) = .pointer (some ⟨g1, 0, none⟩) ∧ v (p.t 1) = .pointer (some ⟨g2, 0, none⟩) ∧
      St T w (bs ++ [some (g1, entL A1 (es 0).row.length c1 B1 (es 0).qual.length d1 D1 (es 0).val.length q1 (es 0)), some (g2, entL A2 (es 1).row.length c2 B2 (es 1).qual.length d2 D2 (es 1).val.length q2 (es 1))])
        (rs ++ [(A1, c1, (es 0).row ++ mkL 70), (B1, d1, (es 0).qual ++ mkL 70), (D1, q1, (es 0).val ++ mkL 70), (A2, c2, (es 1).row ++ mkL 70), (B2, d2, (es 1).qual ++ mkL 70), (D2, q2, (es 1).val ++ mkL 70)]) x := by
  obtain ⟨b, R, hst, hp⟩ := h
  obtain ⟨A1, c1, B1, d1, D1, q1, g1, h1, h2, h3⟩ := part_end (hp 0 (by omega)) (hD 0 (by omega))
  obtain ⟨A2, c2, B2, d2, D2, q2, g2, k1, k2, k3⟩ := part_end (hp 1 (by omega)) (hD 1 (by omega))
  rw [hk] at hst
  have e1 : Boxes1 b 2 = [b 0, b 1] := rfl
  have e2 : Rows1 R 2 = R 0 ++ (R 1 ++ []) := rfl
  rw [e1, e2, h2, k2, h3, k3] at hst
  exact ⟨A1, c1, B1, d1, D1, q1, g1, A2, c2, B2, d2, D2, q2, g2, h1, k1, hst⟩
theorem ents3 {p : Parts} {T : TypeId} {w x : World} {bs : List Bx1} {rs : RowL} {arg : Nat → List Value} {es : Nat → Ent} {D : Nat → Bool} {v : Nat → Value} (hk : p.k = 3) (h : PartR p T w bs rs 7 arg (fun j => LPst (es j)) D v x) (hD : ∀ j, j < 3 → ∀ i ∈ p.op j, D i = true) :
    ∃ A1 c1 B1 d1 D1 q1 g1 A2 c2 B2 d2 D2 q2 g2 A3 c3 B3 d3 D3 q3 g3, v (p.t 0) = .pointer (some ⟨g1, 0, none⟩) ∧ v (p.t 1) = .pointer (some ⟨g2, 0, none⟩) ∧ v (p.t 2) = .pointer (some ⟨g3, 0, none⟩) ∧
      St T w (bs ++ [some (g1, entL A1 (es 0).row.length c1 B1 (es 0).qual.length d1 D1 (es 0).val.length q1 (es 0)), some (g2, entL A2 (es 1).row.length c2 B2 (es 1).qual.length d2 D2 (es 1).val.length q2 (es 1)), some (g3, entL A3 (es 2).row.length c3 B3 (es 2).qual.length d3 D3 (es 2).val.length q3 (es 2))])
        (rs ++ [(A1, c1, (es 0).row ++ mkL 70), (B1, d1, (es 0).qual ++ mkL 70), (D1, q1, (es 0).val ++ mkL 70), (A2, c2, (es 1).row ++ mkL 70), (B2, d2, (es 1).qual ++ mkL 70), (D2, q2, (es 1).val ++ mkL 70), (A3, c3, (es 2).row ++ mkL 70), (B3, d3, (es 2).qual ++ mkL 70), (D3, q3, (es 2).val ++ mkL 70)]) x := by
  obtain ⟨b, R, hst, hp⟩ := h
  obtain ⟨A1, c1, B1, d1, D1, q1, g1, h1, h2, h3⟩ := part_end (hp 0 (by omega)) (hD 0 (by omega))
  obtain ⟨A2, c2, B2, d2, D2, q2, g2, k1, k2, k3⟩ := part_end (hp 1 (by omega)) (hD 1 (by omega))
  obtain ⟨A3, c3, B3, d3, D3, q3, g3, j1, j2, j3⟩ := part_end (hp 2 (by omega)) (hD 2 (by omega))
  rw [hk] at hst
  have e1 : Boxes1 b 3 = [b 0, b 1, b 2] := rfl
  have e2 : Rows1 R 3 = R 0 ++ (R 1 ++ (R 2 ++ [])) := rfl
  rw [e1, e2, h2, k2, j2, h3, k3, j3] at hst
  exact ⟨A1, c1, B1, d1, D1, q1, g1, A2, c2, B2, d2, D2, q2, g2, A3, c3, B3, d3, D3, q3, g3, h1, k1, j1, hst⟩
/-- Three rows of an entry with marks. -/
theorem enm_of {w x : World} {bs : List Bx1} {rs : RowL} {T : TypeId} {i : Nat} {A : Option Addr} {c : Nat} {B : Option Addr} {d : Nat} {D : Option Addr} {q : Nat} {e : Ent} (h : St T w bs rs x)
    (h0 : rs[i]? = some (A, c, e.row ++ mkL 70)) (h1 : rs[i + 1]? = some (B, d, e.qual ++ mkL 70)) (h2 : rs[i + 2]? = some (D, q, e.val ++ mkL 70)) (hl : e.row.length ≤ 5000 ∧ e.qual.length ≤ 5000 ∧ e.val.length ≤ 5000) : EnM x A e.row.length c B e.qual.length d D e.val.length q e :=
  ⟨h.sl h0 (by rw [List.length_append, mkL_len]), h.sl h1 (by rw [List.length_append, mkL_len]), h.sl h2 (by rw [List.length_append, mkL_len]), ⟨rfl, hl.1⟩, ⟨rfl, hl.2.1⟩, ⟨rfl, hl.2.2⟩⟩
theorem cutE_len (e : Ent) : (cutE e).row.length ≤ 5000 ∧ (cutE e).qual.length ≤ 5000 ∧ (cutE e).val.length ≤ 5000 := ⟨cut_len _, cut_len _, cut_len _⟩
end Go.Proofs.Ytcikhlieaoanoaa

/-
  A region that draws its order, walked as a straight line: what only reads is taken first; the rest comes one at a time. Over any program.
-/
namespace Go.Proofs.Ytcikhlieaoanoaa
open Go.RowKit

section
variable {P : Program} {Q : Exit → Act → World → Prop} {S : World → Prop} {l : List Oper} {fuel : Nat} {listed : Array Bool} {a : Act} {w : World} {i : Nat} {o : Oper} {v : Value}
theorem lx_start {id : Nat} (hm : P.follows .mixedOrders = true) (_hS : S w.drew) (h : wpAnyH P .any l.toArray Q S l.length (Array.replicate l.length false) a w.drew) : (Code.region id l.toArray true).wp P Q a w :=
  wp_region_held (S := S) hm (by simpa using h)
theorem lx_at (hi : l[i]? = some o) : l.toArray[i]? = some o := by simpa using hi
theorem lx_take (i : Nat) {o : Oper} (hi : l[i]? = some o) (hs : Region.noSelect l.toArray = true) (hf : Region.free .any l.toArray listed i = true) (hr : (Region.ready .any l.toArray listed).contains i = true)
    (hQ : ∀ c a w, Q (.panic c) (a.put o.dst v) w → Q (.panic c) a w) (hy : YieldsIf P l.toArray S o v a) (hS : S w)
    (h : wpAnyH P .any l.toArray Q S fuel (listed.setIfInBounds i true) (a.put o.dst v) w) : wpAnyH P .any l.toArray Q S (fuel + 1) listed a w :=
  wpAnyH_take (lx_at hi) hs hf hr hQ hy hS h
/-- A guarded operation that is not wanted. -/
theorem lx_skip (i : Nat) {o : Oper} (hi : l[i]? = some o) (hs : Region.noSelect l.toArray = true) (hf : Region.free .any l.toArray listed i = true) (hr : (Region.ready .any l.toArray listed).contains i = true)
    (hQ : ∀ c a w, Q (.panic c) (a.put o.dst undef) w → Q (.panic c) a w) (hw : Region.wanted o (yielded l.toArray a.tmps) = false) (hS : S w)
    (h : wpAnyH P .any l.toArray Q S fuel (listed.setIfInBounds i true) (a.put o.dst undef) w) : wpAnyH P .any l.toArray Q S (fuel + 1) listed a w :=
  wpAnyH_take (lx_at hi) hs hf hr hQ (.inr ⟨hw, rfl⟩) hS h
theorem lx_call (i : Nat) {o : Oper} {f : FuncId} {xs : List Operand} {ats : Array TypeId} (hi : l[i]? = some o) (hr : Region.ready .any l.toArray listed = [i]) (hw : Region.wanted o (yielded l.toArray a.tmps) = true)
    (ho : o.op = .call { callee := .value (.func f), args := xs.toArray, argTypes := ats }) (hf : GoFn P f) (vals : List Value) (hv : xs.map a.eval = vals)
    (hc : Calls P f vals.toArray w fun e w' => ∃ v, e = .returned v ∧ S w' ∧ wpAnyH P .any l.toArray Q S fuel (listed.setIfInBounds i true) (a.put o.dst v) w') : wpAnyH P .any l.toArray Q S (fuel + 1) listed a w := by
  refine wpAnyH_all hr (by simp) fun j hj => ?_
  obtain rfl : j = i := by simpa using hj
  unfold wpOp
  rw [lx_at hi]
  simp only [hw, if_true]
  exact .inl (wp_call_go ho hf vals.toArray (by rw [List.map_toArray, hv]) hc)
theorem lx_done (hr : Region.ready .any l.toArray listed = []) (h : Q .normal a w) : wpAnyH P .any l.toArray Q S fuel listed a w := wpAnyH_done hr h fuel
theorem ev_tmp (l : List Value) (d : List Deferred) (k : Nat) : Act.eval { tmps := l.toArray, defers := d } (.tmp k) = (l[k]?).getD undef := by simp [eval_tmp]
theorem ev_const (a : Act) (v : Value) : a.eval (.const v) = v := rfl
/-! What yields. -/
theorem yi_row {ty : TypeId} {x : Operand} (hw : Region.wanted o (yielded l.toArray a.tmps) = true) (ho : o.op = .load ty x) {g : Nat} {cs : List Value} (hx : a.eval x = .pointer (some ⟨g, 0, none⟩)) (hr : ∀ w, S w → w.rangeAt g 0 cs) (ht : RowTy P ty cs.length) :
    YieldsIf P l.toArray S o (.agg cs.toArray) a := by
  obtain ⟨⟨d, hu, hd⟩, hi⟩ := ht
  refine .inl ⟨hw, fun w hS => ?_⟩
  unfold execOp
  simp only [ho, hx, Instr.loadAt, Instr.sureAddr, Sem.run_bind, Sem.run_pure, Result.andThen_ok, run_loadVar_mid w g 0 ty cs d (hr w hS) hu hd hi]
theorem yi_cell {ty : TypeId} {x : Operand} (hw : Region.wanted o (yielded l.toArray a.tmps) = true) (ho : o.op = .load ty x) {g k : Nat} (hx : a.eval x = .pointer (some ⟨g, k, none⟩)) (hr : ∀ w, S w → w.cell? ⟨g, k, none⟩ = some v) (ha : ∀ w, (isAgg ty).run P w = .ok false w) :
    YieldsIf P l.toArray S o v a := by
  refine .inl ⟨hw, fun w hS => ?_⟩
  have h := hr w hS
  unfold execOp
  simp only [ho, hx, Instr.loadAt, Instr.sureAddr, loadVar, Sem.run_bind, Sem.run_pure, Result.andThen_ok, ha w, Bool.false_eq_true, if_false]
  simp [go_sem, h]
theorem yi_move {x : Operand} (hw : Region.wanted o (yielded l.toArray a.tmps) = true) (ho : o.op = .move x) (hx : a.eval x = v) : YieldsIf P l.toArray S o v a := .inl ⟨hw, fun w _ => by subst hx; unfold execOp; simp only [ho, Sem.run_pure]⟩
theorem yi_assign {x : Operand} (hw : Region.wanted o (yielded l.toArray a.tmps) = true) (ho : o.op = .assign x) (hx : a.eval x = v) : YieldsIf P l.toArray S o v a := .inl ⟨hw, fun w _ => by subst hx; unfold execOp; simp only [ho, Sem.run_pure]⟩
theorem yi_pick {c x y : Operand} {b : Bool} (hw : Region.wanted o (yielded l.toArray a.tmps) = true) (ho : o.op = .pick c x y) (hc : a.eval c = .bool b) (hv : (if b then a.eval x else a.eval y) = v) : YieldsIf P l.toArray S o v a := .inl ⟨hw, fun w _ => by
  subst hv
  unfold execOp
  simp only [ho, hc, asBool, Sem.run_bind, Sem.run_pure, Result.andThen_ok]⟩
theorem yi_run (hw : Region.wanted o (yielded l.toArray a.tmps) = true) (h : ∀ w, (execOp a.eval o).run P w = .ok (.value v) w) : YieldsIf P l.toArray S o v a := .inl ⟨hw, fun w _ => h w⟩
end
end Go.Proofs.Ytcikhlieaoanoaa

/-
  CellKeys walked. (Printed by gen_keys.py.)
-/
namespace Go.Proofs.Ytcikhlieaoanoaa
open Go.RowKit

theorem keys_len (e : Ent) : (KeyE e).1.length ≤ 100000 ∧ (PackE e).1.length ≤ 100000 := by
  unfold KeyE PackE
  by_cases h : checkE e = 0
  · have h1 := ok_of h
    have h2 := keyE_len h1
    have h3 := h1.val.1
    rw [if_pos h, if_pos h]
    refine ⟨by simp only; omega, ?_⟩
    have h4 := uintB_ten (v := (keyE e).length) (by omega)
    have h5 := uintB_ten (v := e.val.length) (by omega)
    simp only [packB, List.length_append]
    omega
  · rw [if_neg h, if_neg h]; simp
set_option maxRecDepth 100000 in
set_option maxHeartbeats 4000000 in
theorem keys_any (e : Ent) (A : Option Addr) (n c : Nat) (B : Option Addr) (m d : Nat) (D : Option Addr) (v q : Nat) (w : World) (he : En w A n c B m d D v q e) :
    Calls Try.prog 7 #[entV A n c B m d D v q e] w fun r w' => r = .returned (.bool true) ∧ Below w.heap.size w w' := by
  have HX : Hid (St 5 w [some (w.heap.size, entL A n c B m d D v q e)] [] (w.alloc (.cells (entL A n c B m d D v q e).toArray 27))) := Lib.hid ((St.nil 5 w).push _)
  have HE := Lib.hid he
  obtain ⟨E, hE⟩ : ∃ E, E = cutE e := ⟨_, rfl⟩
  have HEL : Hid (E.row.length ≤ 5000 ∧ E.qual.length ≤ 5000 ∧ E.val.length ≤ 5000) := Lib.hid (by rw [hE]; exact cutE_len e)
  have HCE := Lib.hid hE.symm
  clear hE he
  unfold entV
  go_enter Try.func7, Try.ntmps7
  go_wp2_with (go_at_call 12; go_must (refine (told_any _).mono ?_); rintro r x1 ⟨rfl, hb1⟩; replace HX := Lib.hid (HX.out.later hb1); clear hb1)
  refine wp_region_reg (by kernel_rfl) (by kernel_rfl) (Parts.slots (⟨2, fun j => 19 + 2 * j, fun j => 20 + 2 * j, fun j => 3 + j, fun j => 2 * j, fun j => 2 * j + 1, fun j => 4 + j, fun j => 6 + j⟩ : Parts)) (PartR (⟨2, fun j => 19 + 2 * j, fun j => 20 + 2 * j, fun j => 3 + j, fun j => 2 * j, fun j => 2 * j + 1, fun j => 4 + j, fun j => 6 + j⟩ : Parts) 5 w [some (w.heap.size, entL A n c B m d D v q e)] [] 7 (fun _ => entL A n c B m d D v q e) (fun _ => LPst (cutE e))) (partR_start HX.out.drew) ⟨part_load (j := 0) (i := 0) rfl (by decide) rfl rfl (by decide) rfl rfl ent_row, part_call (j := 0) rfl (by decide) rfl rfl go_entry (by kernel_rfl) (by kernel_rfl) ⟨_, rfl, by kernel_rfl⟩ (entry_part HE.out), part_load (j := 1) (i := 0) rfl (by decide) rfl rfl (by decide) rfl rfl ent_row, part_call (j := 1) rfl (by decide) rfl rfl go_entry (by kernel_rfl) (by kernel_rfl) ⟨_, rfl, by kernel_rfl⟩ (entry_part HE.out), part_alloc (j := 0) (cs := zeroL) rfl (by decide) rfl rfl ent_zero rfl ⟨_, rfl, by kernel_rfl⟩, part_alloc (j := 1) (cs := zeroL) rfl (by decide) rfl rfl ent_zero rfl ⟨_, rfl, by kernel_rfl⟩, part_store (j := 0) rfl (by decide) rfl rfl (by kernel_rfl) (by kernel_rfl) lpst_cells ent_size, part_store (j := 1) rfl (by decide) rfl rfl (by kernel_rfl) (by kernel_rfl) lpst_cells ent_size, trivial⟩ ?_
  intro Dn sv x2 hall hR
  obtain ⟨A1, c1, B1, d1, D1, q1, g1, A2, c2, B2, d2, D2, q2, g2, h1, h2, hst⟩ := ents2 (es := fun _ => cutE e) rfl hR (by
    intro j hj i hi
    have : i < 8 := by
      match j, hj with
      | 0, _ => revert i; decide
      | 1, _ => revert i; decide
    exact hall i this)
  have h1 : sv 3 = .pointer (some ⟨g1, 0, none⟩) := h1
  have h2 : sv 4 = .pointer (some ⟨g2, 0, none⟩) := h2
  simp only [show Parts.slots (⟨2, fun j => 19 + 2 * j, fun j => 20 + 2 * j, fun j => 3 + j, fun j => 2 * j, fun j => 2 * j + 1, fun j => 4 + j, fun j => 6 + j⟩ : Parts) = [19, 20, 3, 21, 22, 4] from rfl, putsF, List.foldl_cons, List.foldl_nil, Act.put, List.setIfInBounds_toArray, List.set_cons_zero, List.set_cons_succ, h1, h2]
  have hst : St 5 w [some (w.heap.size, entL A n c B m d D v q e), some (g1, entL A1 E.row.length c1 B1 E.qual.length d1 D1 E.val.length q1 E), some (g2, entL A2 E.row.length c2 B2 E.qual.length d2 D2 E.val.length q2 E)]
      [(A1, c1, E.row ++ mkL 70), (B1, d1, E.qual ++ mkL 70), (D1, q1, E.val ++ mkL 70), (A2, c2, E.row ++ mkL 70), (B2, d2, E.qual ++ mkL 70), (D2, q2, E.val ++ mkL 70)] x2 := by have h := hst; rw [HCE.out] at h; exact h
  replace HX := Lib.hid hst
  have HI : Hid (∀ x, Below x2.heap.size x2 x → EnM x A1 E.row.length c1 B1 E.qual.length d1 D1 E.val.length q1 E) := Lib.hid fun x hx => (enm_of (i := 0) HX.out rfl rfl rfl HEL.out).later hx
  have HD : Hid (∀ x, Below x2.heap.size x2 x → EnM x A2 E.row.length c2 B2 E.qual.length d2 D2 E.val.length q2 E) := Lib.hid fun x hx => (enm_of (i := 3) HX.out rfl rfl rfl HEL.out).later hx
  have HF : Hid (∀ x, Below x2.heap.size x2 x → (x.rangeAt g1 0 (entL A1 E.row.length c1 B1 E.qual.length d1 D1 E.val.length q1 E) ∧ x.rangeAt g2 0 (entL A2 E.row.length c2 B2 E.qual.length d2 D2 E.val.length q2 E) ∧ Below x2.heap.size x2 x)) := Lib.hid fun x hx => ⟨(HX.out.later hx).range (i := 1) rfl, (HX.out.later hx).range (i := 2) rfl, hx⟩
  clear hst hR hall h1 h2
  have HS := Lib.hid (Below.refl x2.heap.size x2).drew
  go_wp2
  refine lx_start (S := fun x => Below x2.heap.size x2 x) (by kernel_rfl) HS.out ?_
  refine lx_take 0 rfl (by kernel_rfl) (by kernel_rfl) (by kernel_rfl) (fun _ _ _ h => h) (yi_row rfl rfl rfl (fun w hS => (HX.out.later hS).range (i := 1) rfl) ent_row) HS.out ?_
  simp only [Act.put, List.setIfInBounds_toArray, List.set_cons_zero, List.set_cons_succ]
  refine lx_take 2 rfl (by kernel_rfl) (by kernel_rfl) (by kernel_rfl) (fun _ _ _ h => h) (yi_row rfl rfl rfl (fun w hS => (HX.out.later hS).range (i := 2) rfl) ent_row) HS.out ?_
  simp only [Act.put, List.setIfInBounds_toArray, List.set_cons_zero, List.set_cons_succ]
  refine lx_call 1 rfl (by kernel_rfl) rfl rfl ⟨_, Try.func32, by decide, by kernel_rfl⟩ [.agg (entL A1 E.row.length c1 B1 E.qual.length d1 D1 E.val.length q1 E).toArray] rfl ?_
  refine (check_any A1 E.row.length c1 E.fam B1 E.qual.length d1 E.ts E.seq E.kind D1 E.val.length q1 _).mono ?_
  rintro r x3 ⟨rfl, hb3⟩
  replace HS := Lib.hid (below_up HS.out hb3)
  clear hb3
  refine ⟨_, rfl, HS.out, ?_⟩
  simp only [Act.put, List.setIfInBounds_toArray, List.set_cons_zero, List.set_cons_succ]
  refine lx_call 3 rfl (by kernel_rfl) rfl rfl ⟨_, Try.func33, by decide, by kernel_rfl⟩ [.agg (entL A2 E.row.length c2 B2 E.qual.length d2 D2 E.val.length q2 E).toArray] rfl ?_
  refine (rCheck_any A2 E.row.length c2 E.fam B2 E.qual.length d2 E.ts E.seq E.kind D2 E.val.length q2 _).mono ?_
  rintro r x4 ⟨rfl, hb4⟩
  replace HS := Lib.hid (below_up HS.out hb4)
  clear hb4
  refine ⟨_, rfl, HS.out, ?_⟩
  simp only [Act.put, List.setIfInBounds_toArray, List.set_cons_zero, List.set_cons_succ]
  refine lx_take 4 rfl (by kernel_rfl) (by kernel_rfl) (by kernel_rfl) (fun _ _ _ h => h) (v := ?v) (yi_run rfl (fun w => ?hy)) HS.out ?rest
  case hy => first | (go_simp; done) | (go_simp; with_reducible rfl)
  simp only [Act.put, List.setIfInBounds_toArray, List.set_cons_zero, List.set_cons_succ]
  refine lx_done (by kernel_rfl) ?_
  have HX4 := Lib.hid (HX.out.later HS.out)
  obtain ⟨K, hK⟩ : ∃ K, K = (KeyE E).1 := ⟨_, rfl⟩
  obtain ⟨kz, hkz⟩ : ∃ z, z = (KeyE E).2 := ⟨_, rfl⟩
  obtain ⟨G, hG⟩ : ∃ K, K = (PackE E).1 := ⟨_, rfl⟩
  obtain ⟨gz, hgz⟩ : ∃ z, z = (PackE E).2 := ⟨_, rfl⟩
  have HK : Hid (KeyE E = (K, kz)) := Lib.hid (by rw [hK, hkz])
  have HG : Hid (PackE E = (G, gz)) := Lib.hid (by rw [hG, hgz])
  have HKL : Hid (K.length ≤ 100000 ∧ G.length ≤ 100000) := Lib.hid (by rw [hK, hG]; exact keys_len E)
  obtain ⟨kn, hkn⟩ : ∃ n, n = K.length := ⟨_, rfl⟩
  obtain ⟨gn, hgn⟩ : ∃ n, n = G.length := ⟨_, rfl⟩
  have HN : Hid (K.length = kn ∧ G.length = gn) := Lib.hid ⟨hkn.symm, hgn.symm⟩
  have HR : Hid (St 5 x4 [] [] x4) := Lib.hid (St.nil _ _)
  replace HX := HX4
  clear hK hkz hG hgz hkn hgn HX4 HE
  have HKK : Hid ((K == K) = true) := Lib.hid (by simp)
  have HGG : Hid ((G == G) = true) := Lib.hid (by simp)
  have tok1 : True := trivial
  have tok2 : True := trivial
  have HX5 := Lib.hid HX.out
  have tok3 : True := trivial
  have tok4 : True := trivial
  have tok5 : True := trivial
  have tok6 : True := trivial
  have tok7 : True := trivial
  have tok8 : True := trivial
  go_wp2_with (first
    | (refine wpList_load_row7 rfl 27 (.tmp 3) rfl rfl (HX.out.range (i := 1) rfl) ent_row ?_)
    | (refine wpList_load_row7 rfl 27 (.tmp 4) rfl rfl (HX.out.range (i := 2) rfl) ent_row ?_)
    | (go_at_call 25; have _t := tok1; go_must (refine (key_any E A1 E.row.length c1 B1 E.qual.length d1 D1 E.val.length q1 _ (HI.out _ (below_up HS.out HR.out.up)).en).mono ?_); rw [HK.out]; rintro r x5 hp; obtain ⟨Ak, ck, rfl, _, ho, hb⟩ := hp.at_ (n := kn) HN.out.1 rfl; replace HX := Lib.hid (HX.out.later hb); replace HR := Lib.hid (HR.out.fresh hb ho); clear hb ho hp tok1)
    | (go_at_call 34; go_must (refine (rKey_any E A2 E.row.length c2 B2 E.qual.length d2 D2 E.val.length q2 _ (HD.out _ (below_up HS.out HR.out.up)).en).mono ?_); rw [HK.out]; rintro r x6 hp; obtain ⟨Aw, cw, rfl, _, ho, hb⟩ := hp.at_ (n := kn) HN.out.1 rfl; replace HX := Lib.hid (HX.out.later hb); replace HR := Lib.hid (HR.out.fresh hb ho); clear hb ho hp)
    | (go_at_call 35; have _t := tok2; go_must (refine (pack_any E A1 E.row.length c1 B1 E.qual.length d1 D1 E.val.length q1 _ (HI.out _ (below_up HS.out HR.out.up)).en).mono ?_); rw [HG.out]; rintro r x7 hp; obtain ⟨Ap, cp, rfl, _, ho, hb⟩ := hp.at_ (n := gn) HN.out.2 rfl; replace HX := Lib.hid (HX.out.later hb); replace HR := Lib.hid (HR.out.fresh hb ho); clear hb ho hp tok2)
    | (go_at_call 36; go_must (refine (rpack_any E A2 E.row.length c2 B2 E.qual.length d2 D2 E.val.length q2 _ (HD.out _ (below_up HS.out HR.out.up)).en).mono ?_); rw [HG.out]; rintro r x8 hp; obtain ⟨Av, cv, rfl, _, ho, hb⟩ := hp.at_ (n := gn) HN.out.2 rfl; replace HX := Lib.hid (HX.out.later hb); replace HR := Lib.hid (HR.out.fresh hb ho); clear hb ho hp)
    | (go_at_call 30; have _t := tok3; go_must (refine (same_any K K Ak Aw kn ck kn cw _ (by have := HKL.out; have := HN.out; omega) (HR.out.sl (i := 0) rfl HN.out.1).rb (HR.out.sl (i := 1) rfl HN.out.1).rb).mono ?_); rw [HKK.out]; rintro r y1 ⟨rfl, hb⟩; replace HX := Lib.hid (HX.out.later hb); replace HR := Lib.hid (HR.out.later hb); clear hb tok3)
    | (go_at_call 30; have _t := tok4; go_must (refine (same_any G G Ap Av gn cp gn cv _ (by have := HKL.out; have := HN.out; omega) (HR.out.sl (i := 2) rfl HN.out.2).rb (HR.out.sl (i := 3) rfl HN.out.2).rb).mono ?_); rw [HGG.out]; rintro r y2 ⟨rfl, hb⟩; replace HX := Lib.hid (HX.out.later hb); replace HR := Lib.hid (HR.out.later hb); clear hb tok4)
    | (go_at_call 24; have _t := tok5; go_must (refine (stands_any E A1 E.row.length c1 B1 E.qual.length d1 D1 E.val.length q1 A2 c2 B2 d2 D2 q2 _ (HI.out _ (below_up HS.out HR.out.up)) (HD.out _ (below_up HS.out HR.out.up)).en).mono ?_); rintro r y3 ⟨rfl, hb⟩; replace HX := Lib.hid (HX.out.later hb); replace HR := Lib.hid (HR.out.later hb); clear hb tok5)
    | (go_at_call 19; have _t := tok6; go_must (refine (longer_any _ K Ak kn ck 17 _ (HR.out.own (i := 0) rfl) HN.out.1 (by have := HKL.out; have := HN.out; omega) HR.out.up.size).mono ?_); rintro r y4 ⟨gk, rfl, hl, hc⟩; have HR0 := Lib.hid HR.out; have HL1 := Lib.hid hl; replace HR := Lib.hid (HR.out.lng (i := 0) rfl hc); replace HX := Lib.hid (HX5.out.later HR.out.up); clear hl hc tok6)
    | (go_at_call 19; go_must (refine (longer_any _ G Ap gn cp 18 _ (HR.out.own (i := 1) rfl) HN.out.2 (by have := HKL.out; have := HN.out; omega) HR.out.up.size).mono ?_); rintro r y5 ⟨gp, rfl, hl, hc⟩; have HL2 := Lib.hid hl; replace HL1 := Lib.hid (HL1.out.aside (i := 0) (j := 2) HR0.out rfl rfl (by decide) hc); replace HR := Lib.hid (HR.out.lng (i := 1) rfl hc); replace HX := Lib.hid (HX5.out.later HR.out.up); clear hl hc HR0)
    | (go_at_call 25; go_must (refine (key_any E A1 E.row.length c1 B1 E.qual.length d1 D1 E.val.length q1 _ (HI.out _ (below_up HS.out HR.out.up)).en).mono ?_); rw [HK.out]; rintro r y6 hp; obtain ⟨Ac, cc, rfl, _, ho, hb⟩ := hp.at_ (n := kn) HN.out.1 rfl; replace HX := Lib.hid (HX.out.later hb); replace HL1 := Lib.hid (HL1.out.later hb); replace HL2 := Lib.hid (HL2.out.later hb); replace HR := Lib.hid (HR.out.fresh hb ho); clear hb ho hp)
    | (go_at_call 35; go_must (refine (pack_any E A1 E.row.length c1 B1 E.qual.length d1 D1 E.val.length q1 _ (HI.out _ (below_up HS.out HR.out.up)).en).mono ?_); rw [HG.out]; rintro r y7 hp; obtain ⟨Aq, cq, rfl, _, ho, hb⟩ := hp.at_ (n := gn) HN.out.2 rfl; replace HX := Lib.hid (HX.out.later hb); replace HL1 := Lib.hid (HL1.out.later hb); replace HL2 := Lib.hid (HL2.out.later hb); replace HR := Lib.hid (HR.out.fresh hb ho); clear hb ho hp)
    | (go_at_call 30; have _t := tok7; go_must (refine (same_any K K Ac Aw kn cc kn cw _ (by have := HKL.out; have := HN.out; omega) (HR.out.sl (i := 2) rfl HN.out.1).rb (HR.out.sl (i := 0) rfl HN.out.1).rb).mono ?_); rw [HKK.out]; rintro r y8 ⟨rfl, hb⟩; replace HX := Lib.hid (HX.out.later hb); replace HL1 := Lib.hid (HL1.out.later hb); replace HL2 := Lib.hid (HL2.out.later hb); replace HR := Lib.hid (HR.out.later hb); clear hb tok7)
    | (go_at_call 30; go_must (refine (same_any G G Aq Av gn cq gn cv _ (by have := HKL.out; have := HN.out; omega) (HR.out.sl (i := 3) rfl HN.out.2).rb (HR.out.sl (i := 1) rfl HN.out.2).rb).mono ?_); rw [HGG.out]; rintro r y9 ⟨rfl, hb⟩; replace HX := Lib.hid (HX.out.later hb); replace HL1 := Lib.hid (HL1.out.later hb); replace HL2 := Lib.hid (HL2.out.later hb); replace HR := Lib.hid (HR.out.later hb); clear hb)
    | (go_at_call 12; go_must (refine (told_any _).mono ?_); rintro r z1 ⟨rfl, hb⟩; replace HX := Lib.hid (HX.out.later hb); replace HL1 := Lib.hid (HL1.out.later hb); replace HL2 := Lib.hid (HL2.out.later hb); replace HR := Lib.hid (HR.out.later hb); clear hb)
    | (go_at_call 20; have _t := tok8; go_must (refine (full_any Ak kn gk 17 _ HL1.out (by have := HKL.out; have := HN.out; omega)).mono ?_); rintro r _ ⟨rfl, rfl⟩; clear tok8)
    | (go_at_call 20; go_must (refine (full_any Ap gn gp 18 _ HL2.out (by have := HKL.out; have := HN.out; omega)).mono ?_); rintro r _ ⟨rfl, rfl⟩)
    | (go_at_call 24; go_must (refine (stands_any E A1 E.row.length c1 B1 E.qual.length d1 D1 E.val.length q1 A2 c2 B2 d2 D2 q2 _ (HI.out _ (below_up HS.out HR.out.up)) (HD.out _ (below_up HS.out HR.out.up)).en).mono ?_); rintro r z2 ⟨rfl, hb⟩; replace HX := Lib.hid (HX.out.later hb); clear hb))
  go_ret
  exact ⟨rfl, HX.out.up⟩
end Go.Proofs.Ytcikhlieaoanoaa
