/-
  Laid together by merge.py: CellW8, CellR1, WireR1, WireW13, WireR3, WireR4, CellR2, CellR3, CellR4, WireR2.
-/
import Derived.Test.YtcikhlieaoanoaaCm2
import Derived.Deep.DeepCutAuto
import Derived.Test.YtcikhlieaoanoaaCm1
import Derived.Deep.CutRange

/-
  cell.Unpack walked. (Printed by gen_unpack.py.)
-/
namespace Go.Proofs.Ytcikhlieaoanoaa
open Go.RowKit

set_option maxRecDepth 100000 in
set_option maxHeartbeats 2000000 in
theorem up_u1 (b : List UInt8) (A : Option Addr) (n c : Nat) (a : Int) (w : World) (hs : Sl w A n c b) (hn : n ≤ 140737488355000) (K : List UInt8) (p er : Nat) (h1 : readBy b a 1048 = (K, p, er)) (he : er ≠ 0) :
    Calls Try.prog 37 #[.slice A n c, .int .i64 a] w (EntPost (fun v => .tuple #[v, .int .i64 0, .int .i64 (er : Int)]) noEnt w) := by
  have HS : Hid (∀ x, Below w.heap.size w x → Sl x A n c b) := Lib.hid fun x h => hs.later h
  have HX0 := Lib.hid (Bt.of (T := 5) (Bxs.one w 27 #[.slice none 0 0, .int .i64 0, .slice none 0 0, .int .i64 0, .int .i64 0, .int .i64 0, .slice none 0 0]))
  have H1 := Lib.hid h1
  have hd : ((er : Int) != 0) = true := by rw [bne_iff_ne]; omega
  clear hs h1 he
  go_enter Try.func37, Try.ntmps37
  go_wp2_with (go_at_call 64; go_must (refine (rby_any b A n c a 1048 _ (HS.out _ HX0.out.box.up) (by omega) (by omega)).mono ?_); rw [H1.out]; rintro e x1 hp; obtain ⟨A1, c1, rfl, _, hO1, hb1⟩ := hp.at_ (n := K.length) rfl rfl rfl; have HX1 := Lib.hid (HX0.out.fresh hb1 hO1); clear hb1 hp hO1; have z0 := HX1.out.box.c0 (i := 0) (v := .slice none 0 0) rfl rfl; have z1 := HX1.out.box.c0 (i := 1) (v := .int .i64 0) rfl rfl; have z2 := HX1.out.box.c0 (i := 2) (v := .slice none 0 0) rfl rfl; have z3 := HX1.out.box.c0 (i := 3) (v := .int .i64 0) rfl rfl; have z4 := HX1.out.box.c0 (i := 4) (v := .int .i64 0) rfl rfl; have z5 := HX1.out.box.c0 (i := 5) (v := .int .i64 0) rfl rfl; have z6 := HX1.out.box.c0 (i := 6) (v := .slice none 0 0) rfl rfl; have fz := HX1.out.box.f0 rfl)
  (try simp only [Exit.inBlock, Exit.then])
  have HR := Lib.hid (HX1.out.fill7 rfl (.slice none 0 0) (.int .i64 0) (.slice none 0 0) (.int .i64 0) (.int .i64 0) (.int .i64 0) (.slice none 0 0))
  refine bodyPost_ret (results_box2 rfl _ _ w.heap.size _ rfl (HR.out.box.cells0 rfl) (by kernel_rfl) (by kernel_rfl)) rfl ?_
  exact ent_none (mk := fun v => .tuple #[v, .int .i64 0, .int .i64 (er : Int)]) HR.out.box.up

set_option maxRecDepth 100000 in
set_option maxHeartbeats 2000000 in
theorem up_u2 (b : List UInt8) (A : Option Addr) (n c : Nat) (a : Int) (w : World) (hs : Sl w A n c b) (hn : n ≤ 140737488355000) (K : List UInt8) (p : Nat) (hkl : K.length ≤ 1048) (h1 : readBy b a 1048 = (K, p, 0)) (E : Ent) (z : Int) (hz : z ≠ 0) (hpk : ParseKeyE K = (E, z)) :
    Calls Try.prog 37 #[.slice A n c, .int .i64 a] w (EntPost (fun v => .tuple #[v, .int .i64 0, .int .i64 29]) noEnt w) := by
  have HS : Hid (∀ x, Below w.heap.size w x → Sl x A n c b) := Lib.hid fun x h => hs.later h
  have HX0 := Lib.hid (Bt.of (T := 5) (Bxs.one w 27 #[.slice none 0 0, .int .i64 0, .slice none 0 0, .int .i64 0, .int .i64 0, .int .i64 0, .slice none 0 0]))
  have H1 := Lib.hid h1
  have HPK := Lib.hid hpk
  have HKL := Lib.hid hkl
  have hd : (z != 0) = true := by rw [bne_iff_ne]; exact hz
  clear hs h1 hpk hkl hz
  go_enter Try.func37, Try.ntmps37
  go_upto_if 28 with (first
    | (go_at_call 64; go_must (refine (rby_any b A n c a 1048 _ (HS.out _ HX0.out.box.up) (by omega) (by omega)).mono ?_); rw [H1.out]; rintro e x1 hp; obtain ⟨A1, c1, rfl, _, hO1, hb1⟩ := hp.at_ (n := K.length) rfl rfl rfl; have HX1 := Lib.hid (HX0.out.fresh hb1 hO1); clear hb1 hp hO1)
    | (go_at_call 15; go_must (refine (parsekey_any K A1 K.length c1 _ (HX1.out.rows.sl (i := 0) rfl) (by have := HKL.out; omega)).mono ?_); rw [HPK.out]; rintro e x2 ⟨B1, d1, B2, d2, D, q, rfl, hr2, hb2⟩; have HX2 := Lib.hid (HX1.out.freshR hb2 hr2); clear hb2 hr2))
  have HX3 := Lib.hid (HX2.out.alloc (.cells #[.slice B1 E.row.length d1, .int .i64 E.fam, .slice B2 E.qual.length d2, .int .i64 E.ts, .int .i64 E.seq, .int .i64 E.kind, .slice D E.val.length q] 27))
  clear HX1 HX2
  generalize x2.alloc (.cells #[.slice B1 E.row.length d1, .int .i64 E.fam, .slice B2 E.qual.length d2, .int .i64 E.ts, .int .i64 E.seq, .int .i64 E.kind, .slice D E.val.length q] 27) = x3 at HX3 ⊢
  have z0 := HX3.out.box.c0 (i := 0) (v := .slice none 0 0) rfl rfl; have z1 := HX3.out.box.c0 (i := 1) (v := .int .i64 0) rfl rfl; have z2 := HX3.out.box.c0 (i := 2) (v := .slice none 0 0) rfl rfl; have z3 := HX3.out.box.c0 (i := 3) (v := .int .i64 0) rfl rfl; have z4 := HX3.out.box.c0 (i := 4) (v := .int .i64 0) rfl rfl; have z5 := HX3.out.box.c0 (i := 5) (v := .int .i64 0) rfl rfl; have z6 := HX3.out.box.c0 (i := 6) (v := .slice none 0 0) rfl rfl; have fz := HX3.out.box.f0 rfl
  go_wp2_with fail
  (try simp only [Exit.inBlock, Exit.then])
  have HR := Lib.hid (HX3.out.fill7 rfl (.slice none 0 0) (.int .i64 0) (.slice none 0 0) (.int .i64 0) (.int .i64 0) (.int .i64 0) (.slice none 0 0))
  refine bodyPost_ret (results_box2 rfl _ _ w.heap.size _ rfl (HR.out.box.cells0 rfl) (by kernel_rfl) (by kernel_rfl)) rfl ?_
  exact ent_none (mk := fun v => .tuple #[v, .int .i64 0, .int .i64 29]) HR.out.box.up

set_option maxRecDepth 100000 in
set_option maxHeartbeats 2000000 in
theorem up_u3 (b : List UInt8) (A : Option Addr) (n c : Nat) (a : Int) (w : World) (hs : Sl w A n c b) (hn : n ≤ 140737488355000) (K : List UInt8) (p : Nat) (hkl : K.length ≤ 1048) (h1 : readBy b a 1048 = (K, p, 0)) (E : Ent) (hpk : ParseKeyE K = (E, 0)) (V : List UInt8) (p2 : Nat) (er : Nat) (h3 : readBy b (p : Int) 4096 = (V, p2, er)) (he : er ≠ 0) :
    Calls Try.prog 37 #[.slice A n c, .int .i64 a] w (EntPost (fun v => .tuple #[v, .int .i64 0, .int .i64 (er : Int)]) noEnt w) := by
  have HS : Hid (∀ x, Below w.heap.size w x → Sl x A n c b) := Lib.hid fun x h => hs.later h
  have HX0 := Lib.hid (Bt.of (T := 5) (Bxs.one w 27 #[.slice none 0 0, .int .i64 0, .slice none 0 0, .int .i64 0, .int .i64 0, .int .i64 0, .slice none 0 0]))
  have H1 := Lib.hid h1
  have H3 := Lib.hid h3
  have HPK := Lib.hid hpk
  have HKL := Lib.hid hkl
  have hd : ((er : Int) != 0) = true := by rw [bne_iff_ne]; omega
  clear hs h1 h3 hpk hkl he
  have tB : True := trivial
  go_enter Try.func37, Try.ntmps37
  go_wp2_with (first
    | (go_at_call 64; have _t := tB; go_must (refine (rby_any b A n c a 1048 _ (HS.out _ HX0.out.box.up) (by omega) (by omega)).mono ?_); rw [H1.out]; rintro e x1 hp; obtain ⟨A1, c1, rfl, _, hO1, hb1⟩ := hp.at_ (n := K.length) rfl rfl rfl; have HX1 := Lib.hid (HX0.out.fresh hb1 hO1); clear hb1 hp hO1 tB)
    | (go_at_call 15; go_must (refine (parsekey_any K A1 K.length c1 _ (HX1.out.rows.sl (i := 0) rfl) (by have := HKL.out; omega)).mono ?_); rw [HPK.out]; rintro e x2 ⟨B1, d1, B2, d2, D, q, rfl, hr2, hb2⟩; have HX2 := Lib.hid (HX1.out.freshR hb2 hr2); clear hb2 hr2)
    | (go_at_call 64; go_must (refine (rby_any b A n c _ 4096 _ (HS.out _ (HX2.out.alloc (.cells #[.slice B1 E.row.length d1, .int .i64 E.fam, .slice B2 E.qual.length d2, .int .i64 E.ts, .int .i64 E.seq, .int .i64 E.kind, .slice D E.val.length q] 27)).box.up) (by omega) (by omega)).mono ?_); rw [H3.out]; rintro e x3 hp; obtain ⟨A5, c5, rfl, _, hO5, hb5⟩ := hp.at_ (n := V.length) rfl rfl rfl; have HX3 := Lib.hid ((HX2.out.alloc (.cells #[.slice B1 E.row.length d1, .int .i64 E.fam, .slice B2 E.qual.length d2, .int .i64 E.ts, .int .i64 E.seq, .int .i64 E.kind, .slice D E.val.length q] 27)).fresh hb5 hO5); have HY3 := Lib.hid ((Bxs.one x2 27 #[.slice B1 E.row.length d1, .int .i64 E.fam, .slice B2 E.qual.length d2, .int .i64 E.ts, .int .i64 E.seq, .int .i64 E.kind, .slice D E.val.length q]).later hb5); have HO5 := Lib.hid hO5; clear hb5 hp hO5; have z0 := HX3.out.box.c0 (i := 0) (v := .slice none 0 0) rfl rfl; have z1 := HX3.out.box.c0 (i := 1) (v := .int .i64 0) rfl rfl; have z2 := HX3.out.box.c0 (i := 2) (v := .slice none 0 0) rfl rfl; have z3 := HX3.out.box.c0 (i := 3) (v := .int .i64 0) rfl rfl; have z4 := HX3.out.box.c0 (i := 4) (v := .int .i64 0) rfl rfl; have z5 := HX3.out.box.c0 (i := 5) (v := .int .i64 0) rfl rfl; have z6 := HX3.out.box.c0 (i := 6) (v := .slice none 0 0) rfl rfl; have fz := HX3.out.box.f0 rfl; have y0 := HY3.out.c0 (i := 0) (v := .slice B1 E.row.length d1) rfl rfl; have y1 := HY3.out.c0 (i := 1) (v := .int .i64 E.fam) rfl rfl; have y2 := HY3.out.c0 (i := 2) (v := .slice B2 E.qual.length d2) rfl rfl; have y3 := HY3.out.c0 (i := 3) (v := .int .i64 E.ts) rfl rfl; have y4 := HY3.out.c0 (i := 4) (v := .int .i64 E.seq) rfl rfl; have y5 := HY3.out.c0 (i := 5) (v := .int .i64 E.kind) rfl rfl; have y6 := HY3.out.c0 (i := 6) (v := .slice D E.val.length q) rfl rfl; have fy := HY3.out.f0 rfl; have hlt : w.heap.size < x2.heap.size := Nat.lt_of_lt_of_le (Nat.lt_of_lt_of_le (Nat.lt_succ_self _) (by simp)) HX2.out.box.size))
  (try simp only [Exit.inBlock, Exit.then])
  have HR := Lib.hid (HX3.out.fill7 rfl (.slice none 0 0) (.int .i64 0) (.slice none 0 0) (.int .i64 0) (.int .i64 0) (.int .i64 0) (.slice none 0 0))
  refine bodyPost_ret (results_box2 rfl _ _ w.heap.size _ rfl (HR.out.box.cells0 rfl) (by kernel_rfl) (by kernel_rfl)) rfl ?_
  exact ent_none (mk := fun v => .tuple #[v, .int .i64 0, .int .i64 (er : Int)]) HR.out.box.up

set_option maxRecDepth 100000 in
set_option maxHeartbeats 2000000 in
theorem up_u4 (b : List UInt8) (A : Option Addr) (n c : Nat) (a : Int) (w : World) (hs : Sl w A n c b) (hn : n ≤ 140737488355000) (K : List UInt8) (p : Nat) (hkl : K.length ≤ 1048) (h1 : readBy b a 1048 = (K, p, 0)) (E : Ent) (hpk : ParseKeyE K = (E, 0)) (V : List UInt8) (p2 : Nat) (h3 : readBy b (p : Int) 4096 = (V, p2, 0)) (hvl : V.length ≤ 4096) (hkd : E.kind ≠ 1) (hv : 0 < V.length) :
    Calls Try.prog 37 #[.slice A n c, .int .i64 a] w (EntPost (fun v => .tuple #[v, .int .i64 0, .int .i64 29]) noEnt w) := by
  have HS : Hid (∀ x, Below w.heap.size w x → Sl x A n c b) := Lib.hid fun x h => hs.later h
  have HX0 := Lib.hid (Bt.of (T := 5) (Bxs.one w 27 #[.slice none 0 0, .int .i64 0, .slice none 0 0, .int .i64 0, .int .i64 0, .int .i64 0, .slice none 0 0]))
  have H1 := Lib.hid h1
  have H3 := Lib.hid h3
  have HPK := Lib.hid hpk
  have HKL := Lib.hid hkl
  have hd1 : (E.kind != 1) = true := by rw [bne_iff_ne]; exact hkd
  have hd2 : decide (0 < V.length) = true := decide_eq_true hv
  have hd3 : decide ((0 : Int) < (V.length : Int)) = true := decide_eq_true (by omega)
  clear hs h1 h3 hpk hkl hkd hv hvl
  have tB : True := trivial
  go_enter Try.func37, Try.ntmps37
  go_wp2_with (first
    | (go_at_call 64; have _t := tB; go_must (refine (rby_any b A n c a 1048 _ (HS.out _ HX0.out.box.up) (by omega) (by omega)).mono ?_); rw [H1.out]; rintro e x1 hp; obtain ⟨A1, c1, rfl, _, hO1, hb1⟩ := hp.at_ (n := K.length) rfl rfl rfl; have HX1 := Lib.hid (HX0.out.fresh hb1 hO1); clear hb1 hp hO1 tB)
    | (go_at_call 15; go_must (refine (parsekey_any K A1 K.length c1 _ (HX1.out.rows.sl (i := 0) rfl) (by have := HKL.out; omega)).mono ?_); rw [HPK.out]; rintro e x2 ⟨B1, d1, B2, d2, D, q, rfl, hr2, hb2⟩; have HX2 := Lib.hid (HX1.out.freshR hb2 hr2); clear hb2 hr2)
    | (go_at_call 64; go_must (refine (rby_any b A n c _ 4096 _ (HS.out _ (HX2.out.alloc (.cells #[.slice B1 E.row.length d1, .int .i64 E.fam, .slice B2 E.qual.length d2, .int .i64 E.ts, .int .i64 E.seq, .int .i64 E.kind, .slice D E.val.length q] 27)).box.up) (by omega) (by omega)).mono ?_); rw [H3.out]; rintro e x3 hp; obtain ⟨A5, c5, rfl, _, hO5, hb5⟩ := hp.at_ (n := V.length) rfl rfl rfl; have HX3 := Lib.hid ((HX2.out.alloc (.cells #[.slice B1 E.row.length d1, .int .i64 E.fam, .slice B2 E.qual.length d2, .int .i64 E.ts, .int .i64 E.seq, .int .i64 E.kind, .slice D E.val.length q] 27)).fresh hb5 hO5); have HY3 := Lib.hid ((Bxs.one x2 27 #[.slice B1 E.row.length d1, .int .i64 E.fam, .slice B2 E.qual.length d2, .int .i64 E.ts, .int .i64 E.seq, .int .i64 E.kind, .slice D E.val.length q]).later hb5); have HO5 := Lib.hid hO5; clear hb5 hp hO5; have z0 := HX3.out.box.c0 (i := 0) (v := .slice none 0 0) rfl rfl; have z1 := HX3.out.box.c0 (i := 1) (v := .int .i64 0) rfl rfl; have z2 := HX3.out.box.c0 (i := 2) (v := .slice none 0 0) rfl rfl; have z3 := HX3.out.box.c0 (i := 3) (v := .int .i64 0) rfl rfl; have z4 := HX3.out.box.c0 (i := 4) (v := .int .i64 0) rfl rfl; have z5 := HX3.out.box.c0 (i := 5) (v := .int .i64 0) rfl rfl; have z6 := HX3.out.box.c0 (i := 6) (v := .slice none 0 0) rfl rfl; have fz := HX3.out.box.f0 rfl; have y0 := HY3.out.c0 (i := 0) (v := .slice B1 E.row.length d1) rfl rfl; have y1 := HY3.out.c0 (i := 1) (v := .int .i64 E.fam) rfl rfl; have y2 := HY3.out.c0 (i := 2) (v := .slice B2 E.qual.length d2) rfl rfl; have y3 := HY3.out.c0 (i := 3) (v := .int .i64 E.ts) rfl rfl; have y4 := HY3.out.c0 (i := 4) (v := .int .i64 E.seq) rfl rfl; have y5 := HY3.out.c0 (i := 5) (v := .int .i64 E.kind) rfl rfl; have y6 := HY3.out.c0 (i := 6) (v := .slice D E.val.length q) rfl rfl; have fy := HY3.out.f0 rfl; have hlt : w.heap.size < x2.heap.size := Nat.lt_of_lt_of_le (Nat.lt_of_lt_of_le (Nat.lt_succ_self _) (by simp)) HX2.out.box.size))
  have HOFF := Lib.hid (rows_off HX2.out.rows (y := x3) (by have := HO5.out; rw [show (x2.alloc (.cells #[.slice B1 E.row.length d1, .int .i64 E.fam, .slice B2 E.qual.length d2, .int .i64 E.ts, .int .i64 E.seq, .int .i64 E.kind, .slice D E.val.length q] 27)).heap.size = x2.heap.size + 1 from by show (x2.heap.push _).size = _; simp] at this; exact this))
  (try simp only [Exit.inBlock, Exit.then])
  have HR := Lib.hid ((HX3.out.setAside x2.heap.size 6 (.slice A5 V.length c5) HX2.out.box.size HOFF.out).fill7 rfl (.slice none 0 0) (.int .i64 0) (.slice none 0 0) (.int .i64 0) (.int .i64 0) (.int .i64 0) (.slice none 0 0))
  refine bodyPost_ret (results_box2 rfl _ _ w.heap.size _ rfl (HR.out.box.cells0 rfl) (by kernel_rfl) (by kernel_rfl)) rfl ?_
  exact ent_none (mk := fun v => .tuple #[v, .int .i64 0, .int .i64 29]) HR.out.box.up

set_option maxRecDepth 100000 in
set_option maxHeartbeats 2000000 in
theorem up_okA (b : List UInt8) (A : Option Addr) (n c : Nat) (a : Int) (w : World) (hs : Sl w A n c b) (hn : n ≤ 140737488355000) (K : List UInt8) (p : Nat) (hkl : K.length ≤ 1048) (h1 : readBy b a 1048 = (K, p, 0)) (E : Ent) (hpk : ParseKeyE K = (E, 0)) (V : List UInt8) (p2 : Nat) (h3 : readBy b (p : Int) 4096 = (V, p2, 0)) (hvl : V.length ≤ 4096) (hkd : E.kind = 1) (hv : 0 < V.length) :
    Calls Try.prog 37 #[.slice A n c, .int .i64 a] w (EntPost (fun v => .tuple #[v, .int .i64 (p2 : Int), .int .i64 0]) { E with val := V } w) := by
  have HS : Hid (∀ x, Below w.heap.size w x → Sl x A n c b) := Lib.hid fun x h => hs.later h
  have HX0 := Lib.hid (Bt.of (T := 5) (Bxs.one w 27 #[.slice none 0 0, .int .i64 0, .slice none 0 0, .int .i64 0, .int .i64 0, .int .i64 0, .slice none 0 0]))
  have H1 := Lib.hid h1
  have H3 := Lib.hid h3
  have HPK := Lib.hid hpk
  have HKL := Lib.hid hkl
  have hd1 : (E.kind != 1) = false := by rw [bne_eq_false_iff_eq]; exact hkd
  have hd2 : decide (0 < V.length) = true := decide_eq_true hv
  have hd3 : decide ((0 : Int) < (V.length : Int)) = true := decide_eq_true (by omega)
  clear hs h1 h3 hpk hkl hkd hv hvl
  have tB : True := trivial
  go_enter Try.func37, Try.ntmps37
  go_wp2_with (first
    | (go_at_call 64; have _t := tB; go_must (refine (rby_any b A n c a 1048 _ (HS.out _ HX0.out.box.up) (by omega) (by omega)).mono ?_); rw [H1.out]; rintro e x1 hp; obtain ⟨A1, c1, rfl, _, hO1, hb1⟩ := hp.at_ (n := K.length) rfl rfl rfl; have HX1 := Lib.hid (HX0.out.fresh hb1 hO1); clear hb1 hp hO1 tB)
    | (go_at_call 15; go_must (refine (parsekey_any K A1 K.length c1 _ (HX1.out.rows.sl (i := 0) rfl) (by have := HKL.out; omega)).mono ?_); rw [HPK.out]; rintro e x2 ⟨B1, d1, B2, d2, D, q, rfl, hr2, hb2⟩; have HX2 := Lib.hid (HX1.out.freshR hb2 hr2); clear hb2 hr2)
    | (go_at_call 64; go_must (refine (rby_any b A n c _ 4096 _ (HS.out _ (HX2.out.alloc (.cells #[.slice B1 E.row.length d1, .int .i64 E.fam, .slice B2 E.qual.length d2, .int .i64 E.ts, .int .i64 E.seq, .int .i64 E.kind, .slice D E.val.length q] 27)).box.up) (by omega) (by omega)).mono ?_); rw [H3.out]; rintro e x3 hp; obtain ⟨A5, c5, rfl, _, hO5, hb5⟩ := hp.at_ (n := V.length) rfl rfl rfl; have HX3 := Lib.hid ((HX2.out.alloc (.cells #[.slice B1 E.row.length d1, .int .i64 E.fam, .slice B2 E.qual.length d2, .int .i64 E.ts, .int .i64 E.seq, .int .i64 E.kind, .slice D E.val.length q] 27)).fresh hb5 hO5); have HY3 := Lib.hid ((Bxs.one x2 27 #[.slice B1 E.row.length d1, .int .i64 E.fam, .slice B2 E.qual.length d2, .int .i64 E.ts, .int .i64 E.seq, .int .i64 E.kind, .slice D E.val.length q]).later hb5); have HO5 := Lib.hid hO5; clear hb5 hp hO5; have z0 := HX3.out.box.c0 (i := 0) (v := .slice none 0 0) rfl rfl; have z1 := HX3.out.box.c0 (i := 1) (v := .int .i64 0) rfl rfl; have z2 := HX3.out.box.c0 (i := 2) (v := .slice none 0 0) rfl rfl; have z3 := HX3.out.box.c0 (i := 3) (v := .int .i64 0) rfl rfl; have z4 := HX3.out.box.c0 (i := 4) (v := .int .i64 0) rfl rfl; have z5 := HX3.out.box.c0 (i := 5) (v := .int .i64 0) rfl rfl; have z6 := HX3.out.box.c0 (i := 6) (v := .slice none 0 0) rfl rfl; have fz := HX3.out.box.f0 rfl; have y0 := HY3.out.c0 (i := 0) (v := .slice B1 E.row.length d1) rfl rfl; have y1 := HY3.out.c0 (i := 1) (v := .int .i64 E.fam) rfl rfl; have y2 := HY3.out.c0 (i := 2) (v := .slice B2 E.qual.length d2) rfl rfl; have y3 := HY3.out.c0 (i := 3) (v := .int .i64 E.ts) rfl rfl; have y4 := HY3.out.c0 (i := 4) (v := .int .i64 E.seq) rfl rfl; have y5 := HY3.out.c0 (i := 5) (v := .int .i64 E.kind) rfl rfl; have y6 := HY3.out.c0 (i := 6) (v := .slice D E.val.length q) rfl rfl; have fy := HY3.out.f0 rfl; have hlt : w.heap.size < x2.heap.size := Nat.lt_of_lt_of_le (Nat.lt_of_lt_of_le (Nat.lt_succ_self _) (by simp)) HX2.out.box.size))
  have HOFF := Lib.hid (rows_off HX2.out.rows (y := x3) (by have := HO5.out; rw [show (x2.alloc (.cells #[.slice B1 E.row.length d1, .int .i64 E.fam, .slice B2 E.qual.length d2, .int .i64 E.ts, .int .i64 E.seq, .int .i64 E.kind, .slice D E.val.length q] 27)).heap.size = x2.heap.size + 1 from by show (x2.heap.push _).size = _; simp] at this; exact this))
  (try simp only [Exit.inBlock, Exit.then])
  have HR := Lib.hid ((HX3.out.setAside x2.heap.size 6 (.slice A5 V.length c5) HX2.out.box.size HOFF.out).fill7 rfl (.slice B1 E.row.length d1) (.int .i64 E.fam) (.slice B2 E.qual.length d2) (.int .i64 E.ts) (.int .i64 E.seq) (.int .i64 E.kind) (.slice A5 V.length c5))
  refine bodyPost_ret (results_box2 rfl _ _ w.heap.size _ rfl (HR.out.box.cells0 rfl) (by kernel_rfl) (by kernel_rfl)) rfl ?_
  exact ⟨B1, d1, B2, d2, A5, c5, rfl, rows_low (rows_pick3 HR.out.rows) (Nat.le_add_right _ _), HR.out.box.up⟩

set_option maxRecDepth 100000 in
set_option maxHeartbeats 2000000 in
theorem up_okB (b : List UInt8) (A : Option Addr) (n c : Nat) (a : Int) (w : World) (hs : Sl w A n c b) (hn : n ≤ 140737488355000) (K : List UInt8) (p : Nat) (hkl : K.length ≤ 1048) (h1 : readBy b a 1048 = (K, p, 0)) (E : Ent) (hpk : ParseKeyE K = (E, 0)) (V : List UInt8) (p2 : Nat) (h3 : readBy b (p : Int) 4096 = (V, p2, 0)) (_hvl : V.length ≤ 4096) (hkd : E.kind = 1) (hv : V.length = 0) :
    Calls Try.prog 37 #[.slice A n c, .int .i64 a] w (EntPost (fun v => .tuple #[v, .int .i64 (p2 : Int), .int .i64 0]) { E with val := V } w) := by
  have HS : Hid (∀ x, Below w.heap.size w x → Sl x A n c b) := Lib.hid fun x h => hs.later h
  have HX0 := Lib.hid (Bt.of (T := 5) (Bxs.one w 27 #[.slice none 0 0, .int .i64 0, .slice none 0 0, .int .i64 0, .int .i64 0, .int .i64 0, .slice none 0 0]))
  have H1 := Lib.hid h1
  have H3 := Lib.hid h3
  have HPK := Lib.hid hpk
  have HKL := Lib.hid hkl
  have hd1 : (E.kind != 1) = false := by rw [bne_eq_false_iff_eq]; exact hkd
  have hd2 : decide (0 < V.length) = false := decide_eq_false (by omega)
  have hd3 : decide ((0 : Int) < (V.length : Int)) = false := decide_eq_false (by omega)
  clear hs h1 h3 hpk hkl hkd hv _hvl
  have tB : True := trivial
  go_enter Try.func37, Try.ntmps37
  go_wp2_with (first
    | (go_at_call 64; have _t := tB; go_must (refine (rby_any b A n c a 1048 _ (HS.out _ HX0.out.box.up) (by omega) (by omega)).mono ?_); rw [H1.out]; rintro e x1 hp; obtain ⟨A1, c1, rfl, _, hO1, hb1⟩ := hp.at_ (n := K.length) rfl rfl rfl; have HX1 := Lib.hid (HX0.out.fresh hb1 hO1); clear hb1 hp hO1 tB)
    | (go_at_call 15; go_must (refine (parsekey_any K A1 K.length c1 _ (HX1.out.rows.sl (i := 0) rfl) (by have := HKL.out; omega)).mono ?_); rw [HPK.out]; rintro e x2 ⟨B1, d1, B2, d2, D, q, rfl, hr2, hb2⟩; have HX2 := Lib.hid (HX1.out.freshR hb2 hr2); clear hb2 hr2)
    | (go_at_call 64; go_must (refine (rby_any b A n c _ 4096 _ (HS.out _ (HX2.out.alloc (.cells #[.slice B1 E.row.length d1, .int .i64 E.fam, .slice B2 E.qual.length d2, .int .i64 E.ts, .int .i64 E.seq, .int .i64 E.kind, .slice D E.val.length q] 27)).box.up) (by omega) (by omega)).mono ?_); rw [H3.out]; rintro e x3 hp; obtain ⟨A5, c5, rfl, _, hO5, hb5⟩ := hp.at_ (n := V.length) rfl rfl rfl; have HX3 := Lib.hid ((HX2.out.alloc (.cells #[.slice B1 E.row.length d1, .int .i64 E.fam, .slice B2 E.qual.length d2, .int .i64 E.ts, .int .i64 E.seq, .int .i64 E.kind, .slice D E.val.length q] 27)).fresh hb5 hO5); have HY3 := Lib.hid ((Bxs.one x2 27 #[.slice B1 E.row.length d1, .int .i64 E.fam, .slice B2 E.qual.length d2, .int .i64 E.ts, .int .i64 E.seq, .int .i64 E.kind, .slice D E.val.length q]).later hb5); have HO5 := Lib.hid hO5; clear hb5 hp hO5; have z0 := HX3.out.box.c0 (i := 0) (v := .slice none 0 0) rfl rfl; have z1 := HX3.out.box.c0 (i := 1) (v := .int .i64 0) rfl rfl; have z2 := HX3.out.box.c0 (i := 2) (v := .slice none 0 0) rfl rfl; have z3 := HX3.out.box.c0 (i := 3) (v := .int .i64 0) rfl rfl; have z4 := HX3.out.box.c0 (i := 4) (v := .int .i64 0) rfl rfl; have z5 := HX3.out.box.c0 (i := 5) (v := .int .i64 0) rfl rfl; have z6 := HX3.out.box.c0 (i := 6) (v := .slice none 0 0) rfl rfl; have fz := HX3.out.box.f0 rfl; have y0 := HY3.out.c0 (i := 0) (v := .slice B1 E.row.length d1) rfl rfl; have y1 := HY3.out.c0 (i := 1) (v := .int .i64 E.fam) rfl rfl; have y2 := HY3.out.c0 (i := 2) (v := .slice B2 E.qual.length d2) rfl rfl; have y3 := HY3.out.c0 (i := 3) (v := .int .i64 E.ts) rfl rfl; have y4 := HY3.out.c0 (i := 4) (v := .int .i64 E.seq) rfl rfl; have y5 := HY3.out.c0 (i := 5) (v := .int .i64 E.kind) rfl rfl; have y6 := HY3.out.c0 (i := 6) (v := .slice D E.val.length q) rfl rfl; have fy := HY3.out.f0 rfl; have hlt : w.heap.size < x2.heap.size := Nat.lt_of_lt_of_le (Nat.lt_of_lt_of_le (Nat.lt_succ_self _) (by simp)) HX2.out.box.size))
  have HOFF := Lib.hid (rows_off HX2.out.rows (y := x3) (by have := HO5.out; rw [show (x2.alloc (.cells #[.slice B1 E.row.length d1, .int .i64 E.fam, .slice B2 E.qual.length d2, .int .i64 E.ts, .int .i64 E.seq, .int .i64 E.kind, .slice D E.val.length q] 27)).heap.size = x2.heap.size + 1 from by show (x2.heap.push _).size = _; simp] at this; exact this))
  (try simp only [Exit.inBlock, Exit.then])
  have HR := Lib.hid ((HX3.out.setAside x2.heap.size 6 (.slice A5 V.length c5) HX2.out.box.size HOFF.out).fill7 rfl (.slice B1 E.row.length d1) (.int .i64 E.fam) (.slice B2 E.qual.length d2) (.int .i64 E.ts) (.int .i64 E.seq) (.int .i64 E.kind) (.slice A5 V.length c5))
  refine bodyPost_ret (results_box2 rfl _ _ w.heap.size _ rfl (HR.out.box.cells0 rfl) (by kernel_rfl) (by kernel_rfl)) rfl ?_
  exact ⟨B1, d1, B2, d2, A5, c5, rfl, rows_low (rows_pick3 HR.out.rows) (Nat.le_add_right _ _), HR.out.box.up⟩

set_option maxRecDepth 100000 in
set_option maxHeartbeats 2000000 in
theorem up_okC (b : List UInt8) (A : Option Addr) (n c : Nat) (a : Int) (w : World) (hs : Sl w A n c b) (hn : n ≤ 140737488355000) (K : List UInt8) (p : Nat) (hkl : K.length ≤ 1048) (h1 : readBy b a 1048 = (K, p, 0)) (E : Ent) (hpk : ParseKeyE K = (E, 0)) (V : List UInt8) (p2 : Nat) (h3 : readBy b (p : Int) 4096 = (V, p2, 0)) (_hvl : V.length ≤ 4096) (hkd : E.kind ≠ 1) (hv : V.length = 0) :
    Calls Try.prog 37 #[.slice A n c, .int .i64 a] w (EntPost (fun v => .tuple #[v, .int .i64 (p2 : Int), .int .i64 0]) { E with val := V } w) := by
  have HS : Hid (∀ x, Below w.heap.size w x → Sl x A n c b) := Lib.hid fun x h => hs.later h
  have HX0 := Lib.hid (Bt.of (T := 5) (Bxs.one w 27 #[.slice none 0 0, .int .i64 0, .slice none 0 0, .int .i64 0, .int .i64 0, .int .i64 0, .slice none 0 0]))
  have H1 := Lib.hid h1
  have H3 := Lib.hid h3
  have HPK := Lib.hid hpk
  have HKL := Lib.hid hkl
  have hd1 : (E.kind != 1) = true := by rw [bne_iff_ne]; exact hkd
  have hd2 : decide (0 < V.length) = false := decide_eq_false (by omega)
  have hd3 : decide ((0 : Int) < (V.length : Int)) = false := decide_eq_false (by omega)
  clear hs h1 h3 hpk hkl hkd hv _hvl
  have tB : True := trivial
  go_enter Try.func37, Try.ntmps37
  go_wp2_with (first
    | (go_at_call 64; have _t := tB; go_must (refine (rby_any b A n c a 1048 _ (HS.out _ HX0.out.box.up) (by omega) (by omega)).mono ?_); rw [H1.out]; rintro e x1 hp; obtain ⟨A1, c1, rfl, _, hO1, hb1⟩ := hp.at_ (n := K.length) rfl rfl rfl; have HX1 := Lib.hid (HX0.out.fresh hb1 hO1); clear hb1 hp hO1 tB)
    | (go_at_call 15; go_must (refine (parsekey_any K A1 K.length c1 _ (HX1.out.rows.sl (i := 0) rfl) (by have := HKL.out; omega)).mono ?_); rw [HPK.out]; rintro e x2 ⟨B1, d1, B2, d2, D, q, rfl, hr2, hb2⟩; have HX2 := Lib.hid (HX1.out.freshR hb2 hr2); clear hb2 hr2)
    | (go_at_call 64; go_must (refine (rby_any b A n c _ 4096 _ (HS.out _ (HX2.out.alloc (.cells #[.slice B1 E.row.length d1, .int .i64 E.fam, .slice B2 E.qual.length d2, .int .i64 E.ts, .int .i64 E.seq, .int .i64 E.kind, .slice D E.val.length q] 27)).box.up) (by omega) (by omega)).mono ?_); rw [H3.out]; rintro e x3 hp; obtain ⟨A5, c5, rfl, _, hO5, hb5⟩ := hp.at_ (n := V.length) rfl rfl rfl; have HX3 := Lib.hid ((HX2.out.alloc (.cells #[.slice B1 E.row.length d1, .int .i64 E.fam, .slice B2 E.qual.length d2, .int .i64 E.ts, .int .i64 E.seq, .int .i64 E.kind, .slice D E.val.length q] 27)).fresh hb5 hO5); have HY3 := Lib.hid ((Bxs.one x2 27 #[.slice B1 E.row.length d1, .int .i64 E.fam, .slice B2 E.qual.length d2, .int .i64 E.ts, .int .i64 E.seq, .int .i64 E.kind, .slice D E.val.length q]).later hb5); have HO5 := Lib.hid hO5; clear hb5 hp hO5; have z0 := HX3.out.box.c0 (i := 0) (v := .slice none 0 0) rfl rfl; have z1 := HX3.out.box.c0 (i := 1) (v := .int .i64 0) rfl rfl; have z2 := HX3.out.box.c0 (i := 2) (v := .slice none 0 0) rfl rfl; have z3 := HX3.out.box.c0 (i := 3) (v := .int .i64 0) rfl rfl; have z4 := HX3.out.box.c0 (i := 4) (v := .int .i64 0) rfl rfl; have z5 := HX3.out.box.c0 (i := 5) (v := .int .i64 0) rfl rfl; have z6 := HX3.out.box.c0 (i := 6) (v := .slice none 0 0) rfl rfl; have fz := HX3.out.box.f0 rfl; have y0 := HY3.out.c0 (i := 0) (v := .slice B1 E.row.length d1) rfl rfl; have y1 := HY3.out.c0 (i := 1) (v := .int .i64 E.fam) rfl rfl; have y2 := HY3.out.c0 (i := 2) (v := .slice B2 E.qual.length d2) rfl rfl; have y3 := HY3.out.c0 (i := 3) (v := .int .i64 E.ts) rfl rfl; have y4 := HY3.out.c0 (i := 4) (v := .int .i64 E.seq) rfl rfl; have y5 := HY3.out.c0 (i := 5) (v := .int .i64 E.kind) rfl rfl; have y6 := HY3.out.c0 (i := 6) (v := .slice D E.val.length q) rfl rfl; have fy := HY3.out.f0 rfl; have hlt : w.heap.size < x2.heap.size := Nat.lt_of_lt_of_le (Nat.lt_of_lt_of_le (Nat.lt_succ_self _) (by simp)) HX2.out.box.size))
  have HOFF := Lib.hid (rows_off HX2.out.rows (y := x3) (by have := HO5.out; rw [show (x2.alloc (.cells #[.slice B1 E.row.length d1, .int .i64 E.fam, .slice B2 E.qual.length d2, .int .i64 E.ts, .int .i64 E.seq, .int .i64 E.kind, .slice D E.val.length q] 27)).heap.size = x2.heap.size + 1 from by show (x2.heap.push _).size = _; simp] at this; exact this))
  (try simp only [Exit.inBlock, Exit.then])
  have HR := Lib.hid ((HX3.out.setAside x2.heap.size 6 (.slice A5 V.length c5) HX2.out.box.size HOFF.out).fill7 rfl (.slice B1 E.row.length d1) (.int .i64 E.fam) (.slice B2 E.qual.length d2) (.int .i64 E.ts) (.int .i64 E.seq) (.int .i64 E.kind) (.slice A5 V.length c5))
  refine bodyPost_ret (results_box2 rfl _ _ w.heap.size _ rfl (HR.out.box.cells0 rfl) (by kernel_rfl) (by kernel_rfl)) rfl ?_
  exact ⟨B1, d1, B2, d2, A5, c5, rfl, rows_low (rows_pick3 HR.out.rows) (Nat.le_add_right _ _), HR.out.box.up⟩
end Go.Proofs.Ytcikhlieaoanoaa

/-
  The document's out, Check; walked.
-/
namespace Go.Proofs.Ytcikhlieaoanoaa
open Go.RowKit

set_option maxRecDepth 100000 in
set_option maxHeartbeats 1000000 in
theorem rOut_any (n lo hi : Int) (w : World) : Calls Try.prog 59 #[.int .i64 n, .int .i64 lo, .int .i64 hi] w fun e w' => e = .returned (.bool (outI n lo hi)) ∧ w = w' := by
  unfold outI
  by_cases h : n < lo
  · have hd : decide (n < lo) = true := decide_eq_true h
    go_enter Try.func59, Try.ntmps59
    go_wp2
    go_ret
    exact ⟨by simp [hd], rfl⟩
  · have hd : decide (n < lo) = false := decide_eq_false h
    go_enter Try.func59, Try.ntmps59
    go_wp2
    go_ret
    exact ⟨by simp, rfl⟩

set_option maxRecDepth 100000 in
set_option maxHeartbeats 4000000 in
theorem rCheck_any (A : Option Addr) (n c : Nat) (f : Int) (B : Option Addr) (m d : Nat) (t s k : Int) (D : Option Addr) (v q : Nat) (w : World) :
    Calls Try.prog 33 #[.agg #[.slice A n c, .int .i64 f, .slice B m d, .int .i64 t, .int .i64 s, .int .i64 k, .slice D v q]] w fun e w' => e = .returned (.int .i64 (checkN n f m t s k v)) ∧ Below w.heap.size w w' := by
  have HB : Hid (∀ o, Below w.heap.size w (w.alloc o)) := Lib.hid fun o => (Below.refl _ w).alloc (Nat.le_refl _) o
  go_enter Try.func33, Try.ntmps33
  by_cases h0 : outI n 1 256 = true
  · have o0 := Lib.hid (outI_pos h0)
    go_wp2_with (go_at_call 59; refine (rOut_any _ _ _ _).mono ?_; rintro e w' ⟨rfl, rfl⟩)
    go_ret
    refine ⟨?_, HB.out _⟩
    clear HB
    have HZ : checkN n f m t s k v = 20 := by
      simp only [hid_iff] at *
      unfold checkN
      (repeat' split) <;> first | rfl | omega
    rw [HZ]; rfl
  have p0 := Lib.hid (outI_no (outI_neg h0))
  replace h0 := outI_neg h0
  by_cases h1 : outI f 0 7 = true
  · have o1 := Lib.hid (outI_pos h1)
    go_wp2_with (go_at_call 59; refine (rOut_any _ _ _ _).mono ?_; rintro e w' ⟨rfl, rfl⟩)
    go_ret
    refine ⟨?_, HB.out _⟩
    clear HB
    have HZ : checkN n f m t s k v = 21 := by
      simp only [hid_iff] at *
      unfold checkN
      (repeat' split) <;> first | rfl | omega
    rw [HZ]; rfl
  have p1 := Lib.hid (outI_no (outI_neg h1))
  replace h1 := outI_neg h1
  by_cases h2 : 256 < m
  · have d1 : decide ((256 : Int) < (m : Int)) = true := decide_eq_true (by omega)
    have d1n : decide (256 < m) = true := decide_eq_true h2
    go_wp2_with (go_at_call 59; refine (rOut_any _ _ _ _).mono ?_; rintro e w' ⟨rfl, rfl⟩)
    go_ret
    refine ⟨?_, HB.out _⟩
    clear HB
    have HZ : checkN n f m t s k v = 22 := by
      simp only [hid_iff] at *
      unfold checkN
      (repeat' split) <;> first | rfl | omega
    rw [HZ]; rfl
  have da2 : decide ((256 : Int) < (m : Int)) = false := decide_eq_false (by omega)
  have db2 : decide (256 < m) = false := decide_eq_false h2
  by_cases k2 : k = 5
  · have e2 : (k == 5) = true := by simpa using k2
    replace k2 := Lib.hid k2
    by_cases l2 : 0 < m
    · have d1 : decide ((0 : Int) < (m : Int)) = true := decide_eq_true (by omega)
      have d1n : decide (0 < m) = true := decide_eq_true l2
      go_wp2_with (go_at_call 59; refine (rOut_any _ _ _ _).mono ?_; rintro e w' ⟨rfl, rfl⟩)
      go_ret
      refine ⟨?_, HB.out _⟩
      clear HB
      have HZ : checkN n f m t s k v = 22 := by
        simp only [hid_iff] at *
        unfold checkN
        (repeat' split) <;> first | rfl | omega
      rw [HZ]; rfl
    have dc2 : decide ((0 : Int) < (m : Int)) = false := decide_eq_false (by omega)
    have dd2 : decide (0 < m) = false := decide_eq_false l2
    by_cases h3 : outI t 1 1099511627776 = true
    · have o3 := Lib.hid (outI_pos h3)
      go_wp2_with (go_at_call 59; refine (rOut_any _ _ _ _).mono ?_; rintro e w' ⟨rfl, rfl⟩)
      go_ret
      refine ⟨?_, HB.out _⟩
      clear HB
      have HZ : checkN n f m t s k v = 23 := by
        simp only [hid_iff] at *
        unfold checkN
        (repeat' split) <;> first | rfl | omega
      rw [HZ]; rfl
    have p3 := Lib.hid (outI_no (outI_neg h3))
    replace h3 := outI_neg h3
    by_cases h4 : outI s 0 17592186044431 = true
    · have o4 := Lib.hid (outI_pos h4)
      go_wp2_with (go_at_call 59; refine (rOut_any _ _ _ _).mono ?_; rintro e w' ⟨rfl, rfl⟩)
      go_ret
      refine ⟨?_, HB.out _⟩
      clear HB
      have HZ : checkN n f m t s k v = 24 := by
        simp only [hid_iff] at *
        unfold checkN
        (repeat' split) <;> first | rfl | omega
      rw [HZ]; rfl
    have p4 := Lib.hid (outI_no (outI_neg h4))
    replace h4 := outI_neg h4
    by_cases h5 : outI k 1 5 = true
    · have o5 := Lib.hid (outI_pos h5)
      go_wp2_with (go_at_call 59; refine (rOut_any _ _ _ _).mono ?_; rintro e w' ⟨rfl, rfl⟩)
      go_ret
      refine ⟨?_, HB.out _⟩
      clear HB
      have HZ : checkN n f m t s k v = 25 := by
        simp only [hid_iff] at *
        unfold checkN
        (repeat' split) <;> first | rfl | omega
      rw [HZ]; rfl
    have p5 := Lib.hid (outI_no (outI_neg h5))
    replace h5 := outI_neg h5
    by_cases h6 : 4096 < v
    · have d1 : decide ((4096 : Int) < (v : Int)) = true := decide_eq_true (by omega)
      have d1n : decide (4096 < v) = true := decide_eq_true h6
      go_wp2_with (go_at_call 59; refine (rOut_any _ _ _ _).mono ?_; rintro e w' ⟨rfl, rfl⟩)
      go_ret
      refine ⟨?_, HB.out _⟩
      clear HB
      have HZ : checkN n f m t s k v = 26 := by
        simp only [hid_iff] at *
        unfold checkN
        (repeat' split) <;> first | rfl | omega
      rw [HZ]; rfl
    have da6 : decide ((4096 : Int) < (v : Int)) = false := decide_eq_false (by omega)
    have db6 : decide (4096 < v) = false := decide_eq_false h6
    by_cases k6 : ¬ k = 1
    · have e6 : (k != 1) = true := by simpa using k6
      replace k6 := Lib.hid k6
      by_cases l6 : 0 < v
      · have d1 : decide ((0 : Int) < (v : Int)) = true := decide_eq_true (by omega)
        have d1n : decide (0 < v) = true := decide_eq_true l6
        go_wp2_with (go_at_call 59; refine (rOut_any _ _ _ _).mono ?_; rintro e w' ⟨rfl, rfl⟩)
        go_ret
        refine ⟨?_, HB.out _⟩
        clear HB
        have HZ : checkN n f m t s k v = 26 := by
          simp only [hid_iff] at *
          unfold checkN
          (repeat' split) <;> first | rfl | omega
        rw [HZ]; rfl
      have dc6 : decide ((0 : Int) < (v : Int)) = false := decide_eq_false (by omega)
      have dd6 : decide (0 < v) = false := decide_eq_false l6
      go_wp2_with (go_at_call 59; refine (rOut_any _ _ _ _).mono ?_; rintro e w' ⟨rfl, rfl⟩)
      go_ret
      refine ⟨?_, HB.out _⟩
      clear HB
      have HZ : checkN n f m t s k v = 0 := by
        simp only [hid_iff] at *
        unfold checkN
        (repeat' split) <;> first | rfl | omega
      rw [HZ]; rfl
    have e6 : (k != 1) = false := by simpa using k6
    replace k6 := Lib.hid k6
    go_wp2_with (go_at_call 59; refine (rOut_any _ _ _ _).mono ?_; rintro e w' ⟨rfl, rfl⟩)
    go_ret
    refine ⟨?_, HB.out _⟩
    clear HB
    have HZ : checkN n f m t s k v = 0 := by
      simp only [hid_iff] at *
      unfold checkN
      (repeat' split) <;> first | rfl | omega
    rw [HZ]; rfl
  have e2 : (k == 5) = false := by simpa using k2
  replace k2 := Lib.hid k2
  by_cases h3 : outI t 1 1099511627776 = true
  · have o3 := Lib.hid (outI_pos h3)
    go_wp2_with (go_at_call 59; refine (rOut_any _ _ _ _).mono ?_; rintro e w' ⟨rfl, rfl⟩)
    go_ret
    refine ⟨?_, HB.out _⟩
    clear HB
    have HZ : checkN n f m t s k v = 23 := by
      simp only [hid_iff] at *
      unfold checkN
      (repeat' split) <;> first | rfl | omega
    rw [HZ]; rfl
  have p3 := Lib.hid (outI_no (outI_neg h3))
  replace h3 := outI_neg h3
  by_cases h4 : outI s 0 17592186044431 = true
  · have o4 := Lib.hid (outI_pos h4)
    go_wp2_with (go_at_call 59; refine (rOut_any _ _ _ _).mono ?_; rintro e w' ⟨rfl, rfl⟩)
    go_ret
    refine ⟨?_, HB.out _⟩
    clear HB
    have HZ : checkN n f m t s k v = 24 := by
      simp only [hid_iff] at *
      unfold checkN
      (repeat' split) <;> first | rfl | omega
    rw [HZ]; rfl
  have p4 := Lib.hid (outI_no (outI_neg h4))
  replace h4 := outI_neg h4
  by_cases h5 : outI k 1 5 = true
  · have o5 := Lib.hid (outI_pos h5)
    go_wp2_with (go_at_call 59; refine (rOut_any _ _ _ _).mono ?_; rintro e w' ⟨rfl, rfl⟩)
    go_ret
    refine ⟨?_, HB.out _⟩
    clear HB
    have HZ : checkN n f m t s k v = 25 := by
      simp only [hid_iff] at *
      unfold checkN
      (repeat' split) <;> first | rfl | omega
    rw [HZ]; rfl
  have p5 := Lib.hid (outI_no (outI_neg h5))
  replace h5 := outI_neg h5
  by_cases h6 : 4096 < v
  · have d1 : decide ((4096 : Int) < (v : Int)) = true := decide_eq_true (by omega)
    have d1n : decide (4096 < v) = true := decide_eq_true h6
    go_wp2_with (go_at_call 59; refine (rOut_any _ _ _ _).mono ?_; rintro e w' ⟨rfl, rfl⟩)
    go_ret
    refine ⟨?_, HB.out _⟩
    clear HB
    have HZ : checkN n f m t s k v = 26 := by
      simp only [hid_iff] at *
      unfold checkN
      (repeat' split) <;> first | rfl | omega
    rw [HZ]; rfl
  have da6 : decide ((4096 : Int) < (v : Int)) = false := decide_eq_false (by omega)
  have db6 : decide (4096 < v) = false := decide_eq_false h6
  by_cases k6 : ¬ k = 1
  · have e6 : (k != 1) = true := by simpa using k6
    replace k6 := Lib.hid k6
    by_cases l6 : 0 < v
    · have d1 : decide ((0 : Int) < (v : Int)) = true := decide_eq_true (by omega)
      have d1n : decide (0 < v) = true := decide_eq_true l6
      go_wp2_with (go_at_call 59; refine (rOut_any _ _ _ _).mono ?_; rintro e w' ⟨rfl, rfl⟩)
      go_ret
      refine ⟨?_, HB.out _⟩
      clear HB
      have HZ : checkN n f m t s k v = 26 := by
        simp only [hid_iff] at *
        unfold checkN
        (repeat' split) <;> first | rfl | omega
      rw [HZ]; rfl
    have dc6 : decide ((0 : Int) < (v : Int)) = false := decide_eq_false (by omega)
    have dd6 : decide (0 < v) = false := decide_eq_false l6
    go_wp2_with (go_at_call 59; refine (rOut_any _ _ _ _).mono ?_; rintro e w' ⟨rfl, rfl⟩)
    go_ret
    refine ⟨?_, HB.out _⟩
    clear HB
    have HZ : checkN n f m t s k v = 0 := by
      simp only [hid_iff] at *
      unfold checkN
      (repeat' split) <;> first | rfl | omega
    rw [HZ]; rfl
  have e6 : (k != 1) = false := by simpa using k6
  replace k6 := Lib.hid k6
  go_wp2_with (go_at_call 59; refine (rOut_any _ _ _ _).mono ?_; rintro e w' ⟨rfl, rfl⟩)
  go_ret
  refine ⟨?_, HB.out _⟩
  clear HB
  have HZ : checkN n f m t s k v = 0 := by
    simp only [hid_iff] at *
    unfold checkN
    (repeat' split) <;> first | rfl | omega
  rw [HZ]; rfl

end Go.Proofs.Ytcikhlieaoanoaa

/-
  The reference's Part, Same, Uint, outside, ReadUint, Bytes, ReadBytes, walked.
-/
namespace Go.Proofs.Ytcikhlieaoanoaa
open Go.RowKit

set_option maxRecDepth 100000 in
theorem rSame_any (a b : List UInt8) (A B : Option Addr) (n c m d : Nat) (w : World) (ha : RB w w.heap.size A n a) (hb : RB w w.heap.size B m b) :
    Calls Try.prog 51 #[.slice A n c, .slice B m d] w fun e w' => e = .returned (.bool (a == b)) ∧ w = w' := by
  have tok1 : True := trivial
  go_enter Try.func51, Try.ntmps51
  go_wp2_with (first
    | (have _t := tok1; refine wpList_string_reads rfl _ 22 9 5 rfl Try.underlying22 Try.underlying5 Try.underlying9 rfl ha ?_; clear tok1)
    | (refine wpList_string_reads rfl _ 22 9 5 rfl Try.underlying22 Try.underlying5 Try.underlying9 rfl hb ?_))
  go_ret
  exact ⟨rfl, rfl⟩

theorem Sl.cut {w : World} {A : Option Addr} {n c lo hi : Nat} {l : List UInt8} (h : Sl w A n c l) (h1 : lo ≤ hi) (h2 : hi ≤ n) (hc : lo < c) : Sl w (A.map (·.add lo)) (hi - lo) (c - lo) (cutS l lo (hi - lo)) := by
  have h3 := (h.drop (k := lo) (by omega) hc).take (m := hi - lo) (by omega)
  exact h3

set_option maxRecDepth 100000 in
set_option maxHeartbeats 400000 in
theorem part_any (l : List UInt8) (A : Option Addr) (n c lo hi : Nat) (a z : Int) (ha : a = (lo : Int)) (hz : z = (hi : Int)) (w : World) (hs : Sl w A n c l) (h1 : lo ≤ hi) (h2 : hi ≤ n) (hn : n ≤ 140737488355328) :
    Calls Try.prog 90 #[.slice A n c, .int .i64 a, .int .i64 z] w (BytesPost 5 (cutS l lo (hi - lo)) w) := by
  subst ha; subst hz
  have hcap := hs.cap
  have hlim := hs.lim
  by_cases hc : c = lo
  · obtain rfl : hi = lo := by omega
    have HE : Hid (RB w w.heap.size A 0 []) := Lib.hid RB.nil
    have H : Hid (BytesPost 5 (cutS l hi (hi - hi)) w = BytesPost 5 [] w) := Lib.hid (by rw [Nat.sub_self]; unfold cutS; rw [List.take_zero])
    have k2 : hi - hi = 0 := by omega
    have k3 : (hi : Int) ≤ (c : Int) := by omega
    have HC := Lib.hid hc
    have k4 : c = hi := hc
    have HO := Lib.hid (own_nil w w.heap.size 5 1)
    rw [H.out]
    subst k4
    clear hs hc hlim h1
    go_enter Try.func90, Try.ntmps90
    go_wp2_with (at_builtin; go_must (refine wpList_append_reads _ rfl (.tmp 8) (.tmp 12) rfl Try.u8s' w.heap.size (.slice none 0 0) 0 [] rfl (own_nil _ _ _ _) _ A 0 0 (u8s []) rfl HE.out (u8s_one _) (by decide) (by decide) (Nat.le_refl _) ?_); intro v1 w1 hown1 hg1 hat1)
    go_ret
    exact bytes_post hown1 (below_app (Below.refl _ _) HO.out hg1 (Nat.le_refl _) (Nat.le_refl _))
  · have HE := Lib.hid (hs.cut h1 h2 (by omega))
    have HL : Hid ((cutS l lo (hi - lo)).length = hi - lo) := Lib.hid HE.out.len
    have k3 : (hi : Int) ≤ (c : Int) := by omega
    have k4 : (lo : Int) ≤ (hi : Int) := by omega
    have k5 : c ≠ lo := hc
    have HO := Lib.hid (own_nil w w.heap.size 5 1)
    obtain ⟨C, hC⟩ : ∃ C, C = cutS l lo (hi - lo) := ⟨_, rfl⟩
    rw [← hC] at HE HL ⊢
    clear hs hlim hC hc
    go_enter Try.func90, Try.ntmps90
    go_wp2_with (at_builtin; go_must (refine wpList_append_reads _ rfl (.tmp 8) (.tmp 12) rfl Try.u8s' w.heap.size (.slice none 0 0) 0 [] rfl (own_nil _ _ _ _) _ (A.map (·.add lo)) (hi - lo) (c - lo) (u8s C) rfl HE.out.rb (u8s_one _) (by unfold maxLen; omega) (by omega) (Nat.le_refl _) ?_); intro v1 w1 hown1 hg1 hat1)
    go_ret
    rw [List.nil_append] at hown1
    exact bytes_post hown1 (below_app (Below.refl _ _) HO.out hg1 (Nat.le_refl _) (Nat.le_refl _))

theorem u8v_rem (V : Nat) : u8v (UInt8.ofNat (V % 128 + 128)) = .int .u8 (128 + (V : Int) % 128) := by
  unfold u8v
  rw [UInt8.toNat_ofNat', Nat.mod_eq_of_lt (by omega)]; congr 1; omega

set_option maxRecDepth 100000 in
set_option maxHeartbeats 1000000 in
theorem rUint_any (v : Nat) (w : World) (hv : v < 18446744073709551616) : Calls Try.prog 85 #[.int .u64 v] w (BytesPost 5 (uintB v) w) := by
  have HL := Lib.hid (uintB_ten hv)
  have HV := Lib.hid hv
  clear hv
  go_enter Try.func85, Try.ntmps85
  go_wp2
  go_loopw [0, 3] (fun x b wr => ∃ (V : Nat) (pre : List UInt8), V < 18446744073709551616 ∧ x = .int .u64 V ∧ Hid (pre ++ uintB V = uintB v) ∧ Hid (pre.length ≤ 10) ∧ wr.ownsRow w.heap.size 5 1 b pre.length (u8s pre) ∧ Hid (Below w.heap.size w wr)) (fun x _ _ => (intOf x).toNat)
  case atStart => exact ⟨v, [], HV.out, rfl, Lib.hid rfl, Lib.hid (by simp), own_nil _ _ _ _, Lib.hid (Below.refl _ _)⟩
  case round =>
    obtain ⟨V, pre, hV2, rfl, HP, HPL, hown, HB⟩ := hrel
    by_cases h : 128 ≤ V
    · have hd : decide ((127 : Int) < (V : Int)) = true := decide_eq_true (by omega)
      have hm1 : (V : Int) % 128 < 128 := by omega
      have hm0 : 0 ≤ (V : Int) % 128 := by omega
      have hm2 : (128 + (V : Int) % 128) % 256 = 128 + (V : Int) % 128 := by omega
      have H8 := Lib.hid (u8v_rem V)
      have HN : Hid ((pre ++ [UInt8.ofNat (V % 128 + 128)]) ++ uintB (V / 128) = uintB v) := Lib.hid (by rw [← HP.out, uintB_ge h]; simp)
      have HNL : Hid ((pre ++ [UInt8.ofNat (V % 128 + 128)]).length ≤ 10) := Lib.hid (by
        have := congrArg List.length HN.out
        rw [List.length_append] at this
        have := HL.out
        omega)
      obtain ⟨bv, hb⟩ : ∃ bv, bv = u3 := ⟨_, rfl⟩
      rw [← hb] at hown ⊢
      clear hb
      go_wp2_with (at_builtin; go_must (refine wpList_append_reads _ rfl (.tmp 6) (.tmp 11) rfl Try.u8s' w.heap.size bv pre.length (u8s pre) rfl (hown.alloc _) (wr.heap.size + 1) (some ⟨wr.heap.size, 0, none⟩) 1 1 (u8s [UInt8.ofNat (V % 128 + 128)]) rfl (by exact reads_lit wr _ [UInt8.ofNat (V % 128 + 128)] _ _ (by show _ = [u8v _]; rw [H8.out])) (u8s_one _) (by have := HPL.out; unfold maxLen; omega) (by have := HPL.out; omega) (by have := HB.out.size; simp; omega) ?_); intro v1 w1 hown1 hg1 hat1)
      have hB : w.heap.size ≤ (wr.alloc (.cells #[.int .u8 (128 + (V : Int) % 128)] 5)).heap.size := by have := HB.out.size; simp; omega
      have HB1 := Lib.hid (below_app (HB.out.alloc HB.out.size _) (hown.alloc _) hg1 hB (Nat.le_refl _))
      rw [← u8s_append] at hown1
      have hO1 : w1.ownsRow w.heap.size 5 1 v1 (pre ++ [UInt8.ofNat (V % 128 + 128)]).length (u8s (pre ++ [UInt8.ofNat (V % 128 + 128)])) := by
        rw [List.length_append]; exact hown1
      clear hown hown1 hg1 hat1 hB hm2
      go_roundw
      case rel => exact ⟨V / 128, _, by omega, by rw [Int.natCast_ediv]; rfl, HN, HNL, hO1, HB1⟩
      case measure => simp [intOf]; omega
    · have hd : decide ((127 : Int) < (V : Int)) = false := decide_eq_false (by omega)
      have hm : (V : Int) % 256 = (V : Int) := by omega
      have H8 : Hid (u8v (UInt8.ofNat V) = .int .u8 (V : Int)) := Lib.hid (by
        unfold u8v
        rw [UInt8.toNat_ofNat', Nat.mod_eq_of_lt (by omega)])
      have HN : Hid (pre ++ [UInt8.ofNat V] = uintB v) := Lib.hid (by rw [← HP.out, uintB_lt (by omega)])
      obtain ⟨bv, hb⟩ : ∃ bv, bv = u3 := ⟨_, rfl⟩
      rw [← hb] at hown ⊢
      clear hb
      go_wp2_with (at_builtin; go_must (refine wpList_append_reads _ rfl (.tmp 15) (.tmp 18) rfl Try.u8s' w.heap.size bv pre.length (u8s pre) rfl (hown.alloc _) (wr.heap.size + 1) (some ⟨wr.heap.size, 0, none⟩) 1 1 (u8s [UInt8.ofNat V]) rfl (by exact reads_lit wr _ [UInt8.ofNat V] _ _ (by show _ = [u8v _]; rw [H8.out])) (u8s_one _) (by have := HPL.out; unfold maxLen; omega) (by have := HPL.out; omega) (by have := HB.out.size; simp; omega) ?_); intro v1 w1 hown1 hg1 hat1)
      go_ret
      have hB : w.heap.size ≤ (wr.alloc (.cells #[.int .u8 (V : Int)] 5)).heap.size := by have := HB.out.size; simp; omega
      have HB1 := below_app (HB.out.alloc HB.out.size _) (hown.alloc _) hg1 hB (Nat.le_refl _)
      rw [← u8s_append, HN.out] at hown1
      exact bytes_post hown1 HB1

theorem rUint_of (v : Nat) (a : Int) (ha : a = (v : Int)) (w : World) (hv : v < 18446744073709551616) : Calls Try.prog 85 #[.int .u64 a] w (BytesPost 5 (uintB v) w) := by
  subst ha
  exact rUint_any v w hv

set_option maxRecDepth 100000 in
theorem rOutside_any (A : Option Addr) (n c : Nat) (a : Int) (w : World) : Calls Try.prog 69 #[.slice A n c, .int .i64 a] w fun e w' => e = .returned (.bool (outB n a)) ∧ w = w' := by
  by_cases h : a < 0
  · have H := Lib.hid (outB_neg (n := n) h)
    have hd : decide (a < 0) = true := decide_eq_true h
    go_enter Try.func69, Try.ntmps69
    go_wp2
    go_ret
    exact ⟨by rw [H.out]; rfl, rfl⟩
  · have hd : decide (a < 0) = false := decide_eq_false h
    have H : Hid (outB n a = decide ((n : Int) < a)) := Lib.hid (by unfold outB; rw [hd]; rfl)
    go_enter Try.func69, Try.ntmps69
    go_wp2
    go_ret
    exact ⟨by rw [H.out]; rfl, rfl⟩

set_option maxRecDepth 100000 in
set_option maxHeartbeats 400000 in
theorem rBytes_any (l : List UInt8) (A : Option Addr) (n c : Nat) (w : World) (hn : n ≤ 140737488355318) (hr : RB w w.heap.size A n l) :
    Calls Try.prog 63 #[.slice A n c] w (BytesPost 5 (uintB l.length ++ l) w) := by
  have HR : Hid (∀ w', Below w.heap.size w w' → RB w' w'.heap.size A n l) := Lib.hid fun w' h => hr.later h
  have HL := Lib.hid hr.len
  have HU := Lib.hid (uintB_ten (v := n) (by omega))
  clear hr
  go_enter Try.func63, Try.ntmps63
  go_wp2_with (first
    | (go_at_call 85; go_must (refine (rUint_of n _ (by omega) _ (by omega)).mono ?_); rintro e w1 ⟨A1, c1, rfl, hO1, hb1⟩; have HB1 := Lib.hid hb1; have HO1 := Lib.hid hO1; clear hb1 hO1)
    | (at_builtin; go_must (refine wpList_append_reads _ rfl (.tmp 6) (.tmp 7) rfl Try.u8s' w.heap.size (.slice A1 (uintB n).length c1) (uintB n).length (u8s (uintB n)) rfl HO1.out _ A n c (u8s l) rfl (HR.out _ HB1.out) (u8s_one _) (by have := HU.out; unfold maxLen; omega) (by have := HU.out; omega) HB1.out.size ?_); intro v2 w2 hown2 hg2 hat2))
  go_ret
  rw [← u8s_append] at hown2
  rw [HL.out]
  exact bytes_post hown2 (below_app HB1.out HO1.out hg2 HB1.out.size (Nat.le_refl _))

set_option maxRecDepth 100000 in
set_option maxHeartbeats 400000 in
theorem rRu_out (l : List UInt8) (A : Option Addr) (n c : Nat) (w : World) (a : Int) (hl : l.length = n) (h : a < 0 ∨ (n : Int) < a) :
    Calls Try.prog 89 #[.slice A n c, .int .i64 a] w (RUPost (readU l a) w) := by
  have HO : Hid (outB n a = true) := Lib.hid (by rcases h with h | h <;> simp [outB, h])
  have H : Hid (readU l a = (0, 0, 1)) := Lib.hid (by unfold readU; rw [if_pos (by omega)])
  clear h hl
  go_enter Try.func89, Try.ntmps89
  go_wp2_with (go_at_call 69; go_must (refine (rOutside_any A n c a _).mono ?_); rintro e w0 ⟨rfl, rfl⟩; rw [HO.out])
  go_ret3
  rw [H.out]
  exact ⟨rfl, rfl⟩

theorem ref_mul (U x : Nat) (hU : U ≤ 72057594037927936) (hx : x < 128) : U * x < 9223372036854775808 := by
  have h1 : x ≤ 127 := by omega
  have := Nat.mul_le_mul hU h1
  omega
theorem ref_step (V U j x : Nat) (hj : j ≤ 8) (hU : U = 2 ^ (7 * j)) (hV : V < U) :
    IntKind.u64.wrap ((U : Int) * ((x : Int) % 128)) = ((U * (x % 128) : Nat) : Int) ∧ IntKind.u64.wrap ((V : Int) + ((U * (x % 128) : Nat) : Int)) = ((V + x % 128 * 2 ^ (7 * j) : Nat) : Int) ∧ IntKind.u64.wrap ((U : Int) * 128) = ((U * 128 : Nat) : Int) ∧ V + x % 128 * 2 ^ (7 * j) < U * 128 ∧ U * 128 = 2 ^ (7 * (j + 1)) := by
  have h1 := pow7_le hj
  rw [← hU] at h1
  have h2 : x % 128 < 128 := Nat.mod_lt _ (by decide)
  have h3 := ref_mul U (x % 128) h1 h2
  have e1 : (U : Int) * ((x : Int) % 128) = ((U * (x % 128) : Nat) : Int) := by rw [Int.natCast_mul, Int.natCast_emod]; rfl
  have e2 : x % 128 * 2 ^ (7 * j) = U * (x % 128) := by rw [← hU, Nat.mul_comm]
  rw [e1, e2]
  have h4 : U * (x % 128) ≤ U * 127 := Nat.mul_le_mul_left _ (by omega)
  refine ⟨?_, ?_, ?_, ?_, ?_⟩
  · rw [IntKind.wrap_u64]; omega
  · rw [IntKind.wrap_u64]; omega
  · rw [IntKind.wrap_u64]; omega
  · omega
  · rw [hU, pow7_step]; omega
theorem ref_last (V x : Nat) (hx : x ≤ 1) (hV : V < 9223372036854775808) :
    IntKind.u64.wrap ((9223372036854775808 : Int) * ((x : Int) % 128)) = ((9223372036854775808 * (x % 128) : Nat) : Int) ∧ IntKind.u64.wrap ((V : Int) + ((9223372036854775808 * (x % 128) : Nat) : Int)) = ((V + x % 128 * 2 ^ (7 * 9) : Nat) : Int) := by
  rw [show (2 : Nat) ^ (7 * 9) = 9223372036854775808 from by decide]
  constructor
  · rw [IntKind.wrap_u64]; omega
  · rw [IntKind.wrap_u64]; omega

end Go.Proofs.Ytcikhlieaoanoaa

/-
  The statements' written, walked.
-/
namespace Go.Proofs.Ytcikhlieaoanoaa
open Go.RowKit

theorem rTo_len8 (v : Nat) : (risB v).length = 8 := rTo_len v 8
theorem own_lit (w : World) (C : Array Value) (e : TypeId) (base n size : Nat) (hb : base ≤ w.heap.size) (hm : n ≤ maxLen) (hs : C.size = n * size) : (w.alloc (.cells C e)).ownsRow base e size (.slice (some ⟨w.heap.size, 0, none⟩) n n) n C.toList :=
  ⟨by rw [Array.length_toList]; exact hs, .inr ⟨w.heap.size, n, C, rfl, hb, heap_alloc_new w _, Nat.le_refl _, hm, hs, by rw [← hs, ← Array.length_toList, List.take_length]⟩⟩
theorem OwnB.kept13 {T : TypeId} {base g : Nat} {w w' : World} {A : Option Addr} {c : Nat} {l : List UInt8} (h : OwnB T base w A c l) (hg : w.grownBy w' (some g)) (hlt : g < base) : OwnB T base w' A c l := by
  refine World.ownsRow.kept h hg ?_
  cases A with
  | none => exact .inl rfl
  | some a =>
    refine .inr fun e => ?_
    have := (World.ownsRow.lt h a.block rfl).1
    injection e with e
    omega
/-- A slice that reads, behind an append to a younger row. -/
theorem Sl.over {w x y : World} {A : Option Addr} {n c g : Nat} {l : List UInt8} (h : Sl w A n c l) (hb : Below w.heap.size w x) (hg : x.grownBy y (some g)) (hle : w.heap.size ≤ g) : Sl y A n c l :=
  ⟨Reads.more (Reads.grown (h.rb.below hb) hg hb.size (fun _ e => by injection e with e; omega)) (Nat.le_trans hb.size hg.size), h.cap, h.lim, h.nil⟩
/-- What is written of a number and of bytes; by which Read it is read. -/
def wB (v : Nat) (l : List UInt8) : Nat → List UInt8
  | 0 => uintB v
  | 1 => risB (v / 2)
  | 2 => risB (9223372036854775807 - v / 2)
  | 3 => uintB l.length ++ l
  | 4 => ordB l
  | _ => frameB l
def wK : Nat → Int
  | 0 => 2
  | 1 => 6
  | 2 => 8
  | 3 => 4
  | 4 => 10
  | _ => 13
end Go.Proofs.Ytcikhlieaoanoaa

/-
  The reference's eight, number, Rising, ReadRising, Falling, ReadFalling, ReadOrdered, walked.
-/
namespace Go.Proofs.Ytcikhlieaoanoaa
open Go.RowKit

def eB (v : Nat) : Nat → List UInt8
  | 0 => []
  | i + 1 => UInt8.ofNat (v / 256 ^ i) :: eB v i
theorem eB_len (v : Nat) : ∀ i, (eB v i).length = i
  | 0 => rfl
  | i + 1 => by show (eB v i).length + 1 = _; rw [eB_len v i]
theorem eB_ris (v : Nat) : eB v 8 = risB v := by simp [eB, risB, rTo, List.range_succ]

set_option maxRecDepth 100000 in
set_option maxHeartbeats 1000000 in
theorem eight_any (v : Nat) (w : World) (hv : v < 18446744073709551616) : Calls Try.prog 96 #[.int .u64 v] w (BytesPost 5 (risB v) w) := by
  go_enter Try.func96, Try.ntmps96
  go_wp2
  go_loopw [0, 3, 4] (fun x b i wr => ∃ (j V : Nat), j ≤ 8 ∧ i = .int .i64 j ∧ Hid (V = v / 256 ^ j) ∧ V < 18446744073709551616 ∧ x = .int .u64 V ∧ wr.ownsRow w.heap.size 5 1 b j (u8s (eB v j)) ∧ Hid (Below w.heap.size w wr)) (fun _ _ i _ => 8 - (intOf i).toNat)
  case atStart => exact ⟨0, v, by omega, rfl, Lib.hid (by simp), hv, rfl, own_nil _ _ _ _, Lib.hid (Below.refl _ _)⟩
  case round =>
    obtain ⟨j, V, hj, rfl, HV, hV, rfl, hown, HB⟩ := hrel
    by_cases hlt : j < 8
    case neg =>
      obtain rfl : j = 8 := by omega
      have hd : decide ((8 : Int) < 8) = false := by decide
      rw [eB_ris] at hown
      have HP := Lib.hid (bytes_post hown HB.out)
      clear hown
      go_wp2
      go_ret
      exact HP.out
    have hd : decide ((j : Int) < 8) = true := decide_eq_true (by omega)
    obtain ⟨A, c, hbv, hl1, hl2, _, hrl⟩ := own_slice hown
    subst hbv
    have hm0 : 0 ≤ (V : Int) % 256 := by omega
    have hm1 : (V : Int) % 256 < 256 := by omega
    have HR := Lib.hid hrl
    have hB : w.heap.size ≤ wr.heap.size := HB.out.size
    have HC : Hid (u8s [UInt8.ofNat V] = [.int .u8 ((V : Int) % 256)]) := Lib.hid (by show [u8v _] = _; rw [u8v_mod])
    have HO : Hid ((wr.alloc (.cells #[.int .u8 ((V : Int) % 256)] 5)).ownsRow w.heap.size 5 1 (.slice (some ⟨wr.heap.size, 0, none⟩) 1 1) 1 (u8s [UInt8.ofNat V])) := Lib.hid (by rw [HC.out]; exact own_lit wr #[.int .u8 ((V : Int) % 256)] 5 w.heap.size 1 1 hB (by decide) rfl)
    have HN : Hid (u8s [UInt8.ofNat V] ++ u8s (eB v j) = u8s (eB v (j + 1))) := Lib.hid (by rw [HV.out, ← u8s_append]; rfl)
    clear hown hrl hl1 hl2
    go_wp2_with (at_builtin; go_must (refine wpList_append_reads _ rfl (.tmp 12) (.tmp 13) rfl Try.u8s' w.heap.size (.slice (some ⟨wr.heap.size, 0, none⟩) 1 1) 1 (u8s [UInt8.ofNat V]) rfl HO.out wr.heap.size A j c (u8s (eB v j)) rfl (Reads.alloc HR.out (Nat.le_refl _) _) (u8s_one _) (by unfold maxLen; omega) (by omega) (by have := HB.out.size; simp; omega) ?_); intro v1 w1 hown1 hg1 hat1; have HB1 := Lib.hid (below_app (HB.out.alloc HB.out.size (.cells #[.int .u8 ((V : Int) % 256)] 5)) HO.out hg1 (by have := HB.out.size; simp; omega) (Nat.le_refl _)); rw [HN.out] at hown1; have HO1 := Lib.hid hown1; clear hown1 hg1 hat1)
    have HV2 : Hid (V / 256 = v / 256 ^ (j + 1)) := Lib.hid (by rw [HV.out, Nat.pow_succ, Nat.div_div_eq_div_mul])
    have hO1 : w1.ownsRow w.heap.size 5 1 v1 (j + 1) (u8s (eB v (j + 1))) := by
      have := HO1.out
      rw [Nat.add_comm 1 j] at this
      exact this
    clear HO1 hB
    go_roundw
    case rel => exact ⟨j + 1, V / 256, by omega, by go_num, HV2, by omega, by rw [Int.natCast_ediv]; rfl, hO1, HB1⟩
    case measure => simp [intOf]; omega
theorem eight_of (v : Nat) (a : Int) (ha : a = (v : Int)) (w : World) (hv : v < 18446744073709551616) : Calls Try.prog 96 #[.int .u64 a] w (BytesPost 5 (risB v) w) := by
  subst ha; exact eight_any v w hv

theorem big_bound (l : List UInt8) (_m : Nat) (h : l.length ≤ 7) : big l < 72057594037927936 := by
  have h1 := big_lt l
  have h2 := Nat.pow_le_pow_right (show 0 < 256 by decide) h
  have h3 : (256 : Nat) ^ 7 = 72057594037927936 := by decide
  omega
set_option maxRecDepth 100000 in
set_option maxHeartbeats 1000000 in
theorem number_any (l : List UInt8) (A : Option Addr) (n c k m : Nat) (w : World) (hr : RB w w.heap.size A n l) (hn : n ≤ 140737488355328) (hm : m ≤ 8) (hk : k + m ≤ n) :
    Calls Try.prog 92 #[.slice A n c, .int .i64 k, .int .i64 m] w fun e w' => e = .returned (.int .u64 (big (cutS l k m))) ∧ w = w' := by
  obtain ⟨L, hL⟩ : ∃ L, L = cutS l k m := ⟨_, rfl⟩
  have HLL : Hid (L.length = m) := Lib.hid (by rw [hL]; unfold cutS; rw [List.length_take, List.length_drop]; have := hr.len; omega)
  have HA : Hid (∀ (j : Nat) (y : UInt8), j < m → l[k + j]? = some y → L[j]? = some y) := Lib.hid fun j y hj hy => by
    rw [hL]; unfold cutS; rw [List.getElem?_take_of_lt hj, List.getElem?_drop]; exact hy
  have HR := Lib.hid hr
  rw [← hL]
  clear hL hr
  go_enter Try.func92, Try.ntmps92
  go_wp2
  go_loop [7, 8] (fun s i => ∃ j N : Nat, j ≤ m ∧ i = .int .i64 j ∧ Hid (N = big (L.take j)) ∧ s = .int .u64 N) (fun _ i => m - (intOf i).toNat)
  case atStart => exact ⟨0, 0, by omega, rfl, Lib.hid (by simp [big]), rfl⟩
  case round =>
    obtain ⟨j, N, hj, rfl, HN, rfl⟩ := hrel
    by_cases hlt : j < m
    case neg =>
      have HE : Hid (N = big L) := Lib.hid (by rw [HN.out, take_all (by rw [HLL.out]; omega)])
      have hd : decide ((j : Int) < (m : Int)) = false := decide_eq_false (by omega)
      go_wp2
      go_ret
      rw [HE.out]
      exact ⟨rfl, rfl⟩
    have hd : decide ((j : Int) < (m : Int)) = true := decide_eq_true (by omega)
    obtain ⟨b, o, y, rfl, _, hy, hcy⟩ := HR.out.at_ (k := k + j) (by omega)
    have HY := Lib.hid (HA.out j y hlt hy)
    have hNb : N < 72057594037927936 := by rw [HN.out]; exact big_bound _ 0 (by rw [List.length_take]; omega)
    have hy8 := y.toNat_lt
    have e1 : IntKind.u64.wrap (y.toNat : Int) = (y.toNat : Int) := by rw [IntKind.wrap_u64]; omega
    have e2 : IntKind.u64.wrap (256 * (N : Int)) = 256 * (N : Int) := by rw [IntKind.wrap_u64]; omega
    have HN2 : Hid (N * 256 + y.toNat = big (L.take (j + 1))) := Lib.hid (by rw [take_snoc HY.out, big_snoc, HN.out])
    have q1 : IntKind.i64.wrap ((k : Int) + (j : Int)) = (k : Int) + (j : Int) := i64_sum (by omega) (by omega)
    clear hy
    go_wp2
    go_round
    case rel => exact ⟨j + 1, N * 256 + y.toNat, by omega, by go_num, HN2, by rw [show ((N * 256 + y.toNat : Nat) : Int) = 256 * (N : Int) + (y.toNat : Int) from by omega]⟩
    case measure => simp [intOf]; omega

set_option maxRecDepth 100000 in
theorem rRising_neg (z : Int) (w : World) (hz : z < 0) : Calls Try.prog 95 #[.int .i64 z] w (BytesPost2 5 [] 1 w) := by
  have hd : decide (z < 0) = true := decide_eq_true hz
  go_enter Try.func95, Try.ntmps95
  go_wp2
  go_ret2
  exact bytes_none2 (Below.refl _ _)
set_option maxRecDepth 100000 in
theorem rRising_any (v : Nat) (w : World) (hv : v < 9223372036854775808) : Calls Try.prog 95 #[.int .i64 v] w (BytesPost2 5 (risB v) 0 w) := by
  have hd : decide ((v : Int) < 0) = false := decide_eq_false (by omega)
  have e1 : IntKind.u64.wrap (v : Int) = (v : Int) := by rw [IntKind.wrap_u64]; omega
  go_enter Try.func95, Try.ntmps95
  go_wp2_with (go_at_call 96; go_must (refine (eight_of v _ (by omega) _ (by omega)).mono ?_); rintro e w1 ⟨A1, c1, rfl, hO1, hb1⟩)
  go_ret2
  exact ⟨A1, c1, rfl, hO1, hb1⟩

theorem big_most {l : List UInt8} (h : l.length = 8) (h0 : 127 < (l[0]?.getD 0).toNat) : 9223372036854775807 < big l := by
  match l, h with
  | c :: t, h =>
    rw [big_cons]
    have ht : t.length = 7 := by simpa using h
    have hc : 127 < c.toNat := by simpa using h0
    rw [ht]
    have h3 : (256 : Nat) ^ 7 = 72057594037927936 := by decide
    rw [h3]
    omega

set_option maxRecDepth 100000 in
set_option maxHeartbeats 2000000 in
theorem rRr_any (l : List UInt8) (A : Option Addr) (n c : Nat) (a : Int) (w : World) (hs : Sl w A n c l) (hn : n ≤ 140737488355000) :
    Calls Try.prog 70 #[.slice A n c, .int .i64 a] w (RRPost (readR l a) w) := by
  have hl := hs.len
  by_cases ho : outB n a = true
  · have HO := Lib.hid ho
    have H : Hid (readR l a = (0, 0, 1)) := Lib.hid (by
      unfold outB at ho
      simp at ho
      unfold readR
      rw [if_pos (by omega)])
    clear hs ho hl
    go_enter Try.func70, Try.ntmps70
    go_wp2_with (go_at_call 69; go_must (refine (rOutside_any A n c a _).mono ?_); rintro e w0 ⟨rfl, rfl⟩; rw [HO.out])
    go_ret3
    rw [H.out]
    exact ⟨rfl, rfl⟩
  have ho : outB n a = false := by simpa using ho
  have HO := Lib.hid ho
  have ha : 0 ≤ a ∧ a ≤ n := by unfold outB at ho; simp at ho; omega
  obtain ⟨k, rfl⟩ : ∃ k : Nat, a = (k : Int) := ⟨a.toNat, by omega⟩
  have hk : k ≤ n := by omega
  have hbase : readR l (k : Int) = if n < k + 8 then (0, 0, 10) else if 127 < (l[k]?.getD 0).toNat then (0, 0, 13) else (big (cutS l k 8), k + 8, 0) := by
    unfold readR; rw [if_neg (by omega), Int.toNat_natCast, hl]
  by_cases h8 : n < k + 8
  · have H : Hid (readR l (k : Int) = (0, 0, 10)) := Lib.hid (by rw [hbase, if_pos h8])
    have hd : decide ((n : Int) - (k : Int) < 8) = true := decide_eq_true (by omega)
    clear hs ho hl ha hbase
    go_enter Try.func70, Try.ntmps70
    go_wp2_with (go_at_call 69; go_must (refine (rOutside_any A n c (k : Int) _).mono ?_); rintro e w0 ⟨rfl, rfl⟩; rw [HO.out])
    go_ret3
    rw [H.out]
    exact ⟨rfl, rfl⟩
  rw [if_neg h8] at hbase
  have hd : decide ((n : Int) - (k : Int) < 8) = false := decide_eq_false (by omega)
  have HL8 : (cutS l k 8).length = 8 := by unfold cutS; rw [List.length_take, List.length_drop]; omega
  have h00 : (cutS l k 8)[0]? = l[k]? := by unfold cutS; rw [List.getElem?_take_of_lt (by omega), List.getElem?_drop, Nat.add_zero]
  have HR := Lib.hid hs.rb
  obtain ⟨N, hN⟩ : ∃ N, N = big (cutS l k 8) := ⟨_, rfl⟩
  have HNN := Lib.hid hN
  have hk8 : k + 8 ≤ n := by omega
  by_cases hbig : 127 < (l[k]?.getD 0).toNat
  · have H : Hid (readR l (k : Int) = (0, 0, 13)) := Lib.hid (by rw [hbase, if_pos hbig])
    have hb2 : 9223372036854775807 < N := by rw [hN]; exact big_most HL8 (by rw [h00]; exact hbig)
    have hd2 : decide ((9223372036854775807 : Int) < (N : Int)) = true := decide_eq_true (by omega)
    have hd3 : decide (9223372036854775807 < N) = true := decide_eq_true hb2
    clear hs ho hl ha hbase hN HL8 h00 hbig hb2
    go_enter Try.func70, Try.ntmps70
    go_wp2_with (first
      | (go_at_call 69; go_must (refine (rOutside_any A n c (k : Int) _).mono ?_); rintro e w0 ⟨rfl, rfl⟩; rw [HO.out])
      | (go_at_call 92; go_must (refine (number_any l A n c k 8 _ HR.out (by omega) (by omega) hk8).mono ?_); rintro e w0 ⟨rfl, rfl⟩; rw [← HNN.out]))
    go_ret3
    rw [H.out]
    exact ⟨rfl, rfl⟩
  have H : Hid (readR l (k : Int) = (N, k + 8, 0)) := Lib.hid (by rw [hbase, if_neg hbig, hN])
  have hb2 : N < 9223372036854775808 := by rw [hN]; exact big_half HL8 (by rw [h00]; omega)
  have hd2 : decide ((9223372036854775807 : Int) < (N : Int)) = false := decide_eq_false (by omega)
  have hd3 : decide (9223372036854775807 < N) = false := decide_eq_false (by omega)
  have k0 : IntKind.i64.wrap ((k : Int) + 8) = (k : Int) + 8 := i64_sum (by omega) (by omega)
  have k1 : IntKind.i64.wrap (N : Int) = (N : Int) := i64_sum (by omega) (by omega)
  clear hs ho hl ha hbase hN HL8 h00 hbig
  go_enter Try.func70, Try.ntmps70
  go_wp2_with (first
    | (go_at_call 69; go_must (refine (rOutside_any A n c (k : Int) _).mono ?_); rintro e w0 ⟨rfl, rfl⟩; rw [HO.out])
    | (go_at_call 92; go_must (refine (number_any l A n c k 8 _ HR.out (by omega) (by omega) hk8).mono ?_); rintro e w0 ⟨rfl, rfl⟩; rw [← HNN.out]))
  go_ret3
  rw [H.out]
  exact ⟨rfl, rfl⟩

set_option maxRecDepth 100000 in
theorem rFalling_neg (z : Int) (w : World) (hz : z < 0) : Calls Try.prog 83 #[.int .i64 z] w (BytesPost2 5 [] 1 w) := by
  have hd : decide (z < 0) = true := decide_eq_true hz
  go_enter Try.func83, Try.ntmps83
  go_wp2
  go_ret2
  exact bytes_none2 (Below.refl _ _)
set_option maxRecDepth 100000 in
theorem rFalling_any (v : Nat) (w : World) (hv : v < 9223372036854775808) : Calls Try.prog 83 #[.int .i64 v] w (BytesPost2 5 (risB (9223372036854775807 - v)) 0 w) := by
  have hd : decide ((v : Int) < 0) = false := decide_eq_false (by omega)
  have HC : Hid (∀ z : Int, z = 9223372036854775807 - (v : Int) → ∀ w, Calls Try.prog 95 #[.int .i64 z] w (BytesPost2 5 (risB (9223372036854775807 - v)) 0 w)) := Lib.hid fun z hz w => by
    rw [show z = ((9223372036854775807 - v : Nat) : Int) from by omega]
    exact rRising_any _ w (by omega)
  have k1 : IntKind.i64.wrap (9223372036854775807 - (v : Int)) = 9223372036854775807 - (v : Int) := i64_sum (by omega) (by omega)
  go_enter Try.func83, Try.ntmps83
  go_wp2_with (go_at_call 95; go_must (refine (HC.out _ (by omega) _).mono ?_); rintro e w1 ⟨A1, c1, rfl, hO1, hb1⟩)
  go_ret2
  exact ⟨A1, c1, rfl, hO1, hb1⟩
set_option maxRecDepth 100000 in
set_option maxHeartbeats 2000000 in
theorem rRfl_any (l : List UInt8) (A : Option Addr) (n c : Nat) (a : Int) (w : World) (hs : Sl w A n c l) (hn : n ≤ 140737488355000) :
    Calls Try.prog 50 #[.slice A n c, .int .i64 a] w (RRPost (readFl l a) w) := by
  have hend := readR_end l a
  have HC := Lib.hid (rRr_any l A n c a w hs hn)
  obtain ⟨v, hv⟩ : ∃ v, v = (readR l a).1 := ⟨_, rfl⟩
  obtain ⟨p, hp⟩ : ∃ p, p = (readR l a).2.1 := ⟨_, rfl⟩
  obtain ⟨k, hk⟩ : ∃ k, k = (readR l a).2.2 := ⟨_, rfl⟩
  have hbase : readFl l a = if k = 0 then (9223372036854775807 - v, p, 0) else (0, 0, k) := by unfold readFl; rw [hv, hp, hk]
  have HU : Hid (RRPost (readR l a) w = RRPost (v, p, k) w) := Lib.hid (by rw [hv, hp, hk])
  rw [← hv, ← hk] at hend
  clear hv hp hk hs
  by_cases hk0 : k = 0
  · have H : Hid (readFl l a = (9223372036854775807 - v, p, 0)) := Lib.hid (by rw [hbase, if_pos hk0])
    obtain ⟨_, _, _, _, hv⟩ := hend hk0
    subst hk0
    have q1 : IntKind.i64.wrap (9223372036854775807 - (v : Int)) = ((9223372036854775807 - v : Nat) : Int) := by rw [i64_sum (by omega) (by omega)]; omega
    have q2 : (9223372036854775807 - (v : Int)) = ((9223372036854775807 - v : Nat) : Int) := by omega
    have HQ := Lib.hid q2
    clear hbase hend q2
    go_enter Try.func50, Try.ntmps50
    go_wp2_with (go_at_call 70; go_must (refine HC.out.mono ?_); rw [HU.out]; rintro e w1 ⟨rfl, rfl⟩)
    go_ret3
    rw [H.out]
    refine ⟨?_, rfl⟩
    first
      | rfl
      | (rw [← HQ.out]; rfl)
  · have H : Hid (readFl l a = (0, 0, k)) := Lib.hid (by rw [hbase, if_neg hk0])
    have hd : ((k : Int) != 0) = true := by rw [bne_iff_ne]; omega
    clear hbase hend
    go_enter Try.func50, Try.ntmps50
    go_wp2_with (go_at_call 70; go_must (refine HC.out.mono ?_); rw [HU.out]; rintro e w1 ⟨rfl, rfl⟩)
    go_ret3
    rw [H.out]
    exact ⟨rfl, rfl⟩

set_option maxRecDepth 100000 in
set_option maxHeartbeats 2000000 in
theorem rRo_any (l : List UInt8) (A : Option Addr) (n c : Nat) (a : Int) (w : World) (hs : Sl w A n c l) (hn : n ≤ 140737488355000) :
    Calls Try.prog 49 #[.slice A n c, .int .i64 a] w (BytesPost3 5 (readO l a).1 ((readO l a).2.1 : Nat) ((readO l a).2.2 : Nat) w) := by
  have hl := hs.len
  have HR : Hid (∀ w', Below w.heap.size w w' → RB w' w'.heap.size A n l) := Lib.hid fun w' h => hs.rb.later h
  by_cases ho : outB n a = true
  · have HO := Lib.hid ho
    have H : Hid (BytesPost3 5 (readO l a).1 ((readO l a).2.1 : Nat) ((readO l a).2.2 : Nat) w (.returned (.tuple #[.slice none 0 0, .int .i64 0, .int .i64 1])) w) := Lib.hid (by
      unfold outB at ho
      simp at ho
      unfold readO
      rw [if_pos (by omega)]
      exact bytes_none3 (Below.refl _ _))
    clear hs ho hl
    go_enter Try.func49, Try.ntmps49
    go_wp2_with (go_at_call 69; go_must (refine (rOutside_any A n c a _).mono ?_); rintro e w0 ⟨rfl, rfl⟩; rw [HO.out])
    go_ret3
    exact H.out
  have ho : outB n a = false := by simpa using ho
  have HO := Lib.hid ho
  have ha : 0 ≤ a ∧ a ≤ n := by unfold outB at ho; simp at ho; omega
  obtain ⟨K, rfl⟩ : ∃ K : Nat, a = (K : Int) := ⟨a.toNat, by omega⟩
  have HL := Lib.hid hl
  obtain ⟨R, hR⟩ : ∃ R, R = readO l (K : Int) := ⟨_, rfl⟩
  rw [← hR]
  have HS : Hid (glO [] K (rdO (l.drop K)) = R) := Lib.hid (by rw [hR, readO_in (by omega)])
  have hK : K ≤ n := by omega
  clear hs ho hl ha hR
  go_enter Try.func49, Try.ntmps49
  go_wp2_with (go_at_call 69; go_must (refine (rOutside_any A n c (K : Int) _).mono ?_); rintro e w0 ⟨rfl, rfl⟩; rw [HO.out])
  go_loopw [7, 8] (fun v i wr => ∃ (k : Nat) (P : List UInt8), k ≤ n ∧ i = .int .i64 k ∧ Hid (P.length ≤ k) ∧ Hid (glO P k (rdO (l.drop k)) = R) ∧ wr.ownsRow w.heap.size 5 1 v P.length (u8s P) ∧ Hid (Below w.heap.size w wr)) (fun _ i _ => n - (intOf i).toNat)
  case atStart => exact ⟨K, [], hK, rfl, Lib.hid (by simp), HS, own_nil _ _ _ _, Lib.hid (Below.refl _ _)⟩
  case round =>
    clear HS
    obtain ⟨k, P, hk, rfl, HPL, HG, hown, HB⟩ := hrel
    obtain ⟨v, hv⟩ : ∃ v, v = u7 := ⟨_, rfl⟩
    rw [← hv] at hown ⊢
    clear hv
    have HT : Hid (rdO [] = ([], 0, 10) ∧ ∀ x, rdO [x] = ([], 0, 10)) := Lib.hid ⟨rfl, fun _ => rfl⟩
    have HE : Hid (∀ e, e ≠ 0 → R = ([], 0, e) → BytesPost3 5 R.1 (R.2.1 : Nat) (R.2.2 : Nat) w (.returned (.tuple #[.slice none 0 0, .int .i64 0, .int .i64 e])) wr) := Lib.hid fun e _ h => by
      rw [h]; exact bytes_none3 HB.out
    by_cases hlt : k < n
    case neg =>
      have hd : decide ((k : Int) < (n : Int)) = false := decide_eq_false (by omega)
      have H := Lib.hid (HE.out 10 (by decide) (by rw [← HG.out, List.drop_eq_nil_of_le (by have := HL.out; omega), HT.out.1]; rfl))
      clear HE
      go_wp2
      go_ret3
      exact H.out
    have hd : decide ((k : Int) < (n : Int)) = true := decide_eq_true (by omega)
    obtain ⟨b, o, x, rfl, _, hx, hcx⟩ := (HR.out _ HB.out).at_ hlt
    have HX := Lib.hid (drop_of_get hx)
    clear hx
    by_cases hx0 : x.toNat = 0
    case neg =>
      have hd2 : ((x.toNat : Int) != 0) = true := by rw [bne_iff_ne]; omega
      have HN : Hid (glO (P ++ [x]) (k + 1) (rdO (l.drop (k + 1))) = R) := Lib.hid (by rw [← HG.out, HX.out, rdO_ne hx0, glO_add])
      have HPL2 : Hid ((P ++ [x]).length ≤ k + 1) := Lib.hid (by rw [List.length_append]; have := HPL.out; simp; omega)
      clear HE hx0
      go_wp2_with (at_builtin; go_must (refine wpList_append_reads _ rfl (.tmp 24) (.tmp 29) rfl Try.u8s' w.heap.size v P.length (u8s P) rfl (hown.alloc _) (wr.heap.size + 1) (some ⟨wr.heap.size, 0, none⟩) 1 1 (u8s [x]) rfl (by exact reads_lit wr _ [x] _ _ rfl) (u8s_one _) (by have := HPL.out; unfold maxLen; omega) (by have := HPL.out; omega) (by have := HB.out.size; simp; omega) ?_); intro v1 w1 hown1 hg1 hat1; have HB1 := Lib.hid (below_app (HB.out.alloc HB.out.size (.cells #[.int .u8 (x.toNat : Int)] 5)) (hown.alloc _) hg1 (by have := HB.out.size; simp; omega) (Nat.le_refl _)); rw [← u8s_append] at hown1; have HO1 := Lib.hid hown1; clear hown1 hg1 hat1)
      have hO1 : w1.ownsRow w.heap.size 5 1 v1 (P ++ [x]).length (u8s (P ++ [x])) := by
        have := HO1.out
        rw [show (P ++ [x]).length = P.length + 1 from by simp]; exact this
      clear HO1
      go_roundw
      case rel => exact ⟨k + 1, P ++ [x], by omega, by go_num, HPL2, HN, hO1, HB1⟩
      case measure => simp [intOf]; omega
    have hd2 : ((x.toNat : Int) != 0) = false := by rw [bne_eq_false_iff_eq]; omega
    have hq1 : IntKind.i64.wrap ((k : Int) + 1) = (k : Int) + 1 := i64_sum (by omega) (by omega)
    by_cases hlt2 : k + 1 < n
    case neg =>
      have hd3 : ((k : Int) + 1 == (n : Int)) = true := by rw [beq_iff_eq]; omega
      have H := Lib.hid (HE.out 10 (by decide) (by rw [← HG.out, HX.out, List.drop_eq_nil_of_le (by have := HL.out; omega), HT.out.2]; rfl))
      clear HE hx0
      go_wp2
      go_ret3
      exact H.out
    have hd3 : ((k : Int) + 1 == (n : Int)) = false := by rw [beq_eq_false_iff_ne]; omega
    have hq2 : (0 : Int) ≤ (k : Int) + 1 := by omega
    have hq3 : (k : Int) + 1 < (n : Int) := by omega
    have hq4 : ((k : Int) + 1).toNat = k + 1 := by omega
    have hq5 : IntKind.i64.wrap ((k : Int) + 1 + 1) = (k : Int) + 2 := by rw [i64_sum (by omega) (by omega)]; omega
    obtain ⟨b', o', y, e', _, hy, hcy⟩ := (HR.out _ HB.out).at_ hlt2
    injection e' with e'
    injection e' with e1 e2
    subst e1; subst e2
    have HY := Lib.hid (drop_of_get hy)
    clear hy
    by_cases hy1 : y.toNat = 1
    · have hd4 : ((y.toNat : Int) == 1) = true := by rw [beq_iff_eq]; omega
      have H : Hid (BytesPost3 5 R.1 (R.2.1 : Nat) (R.2.2 : Nat) w (.returned (.tuple #[v, .int .i64 ((k : Int) + 2), .int .i64 0])) wr) := Lib.hid (by
        rw [← HG.out, HX.out, HY.out, rdO_one hx0 hy1]
        unfold glO
        rw [if_pos rfl]
        show BytesPost3 5 (P ++ []) ((k + 2 : Nat) : Int) 0 w _ wr
        rw [List.append_nil]
        exact bytes_post3 hown HB.out)
      clear HE hx0
      go_wp2
      go_ret3
      exact H.out
    have hd4 : ((y.toNat : Int) == 1) = false := by rw [beq_eq_false_iff_ne]; omega
    by_cases hy2 : y.toNat = 255
    · have hd5 : ((y.toNat : Int) != 255) = false := by rw [bne_eq_false_iff_eq]; omega
      have HN : Hid (glO (P ++ [0]) (k + 2) (rdO (l.drop (k + 2))) = R) := Lib.hid (by rw [← HG.out, HX.out, HY.out, rdO_zero hx0 hy2, glO_add])
      have HPL2 : Hid ((P ++ [(0 : UInt8)]).length ≤ k + 2) := Lib.hid (by rw [List.length_append]; have := HPL.out; simp; omega)
      clear HE hx0
      go_wp2_with (at_builtin; go_must (refine wpList_append_reads _ rfl (.tmp 50) (.tmp 51) rfl Try.u8s' w.heap.size v P.length (u8s P) rfl (hown.alloc _) (wr.heap.size + 1) (some ⟨wr.heap.size, 0, none⟩) 1 1 (u8s [0]) rfl (by exact reads_lit wr _ [0] _ _ rfl) (u8s_one _) (by have := HPL.out; unfold maxLen; omega) (by have := HPL.out; omega) (by have := HB.out.size; simp; omega) ?_); intro v1 w1 hown1 hg1 hat1; have HB1 := Lib.hid (below_app (HB.out.alloc HB.out.size (.cells #[.int .u8 0] 5)) (hown.alloc _) hg1 (by have := HB.out.size; simp; omega) (Nat.le_refl _)); rw [← u8s_append] at hown1; have HO1 := Lib.hid hown1; clear hown1 hg1 hat1)
      have hO1 : w1.ownsRow w.heap.size 5 1 v1 (P ++ [(0 : UInt8)]).length (u8s (P ++ [(0 : UInt8)])) := by
        have := HO1.out
        rw [show (P ++ [(0 : UInt8)]).length = P.length + 1 from by simp]; exact this
      clear HO1
      go_roundw
      case rel => exact ⟨k + 2, P ++ [0], by omega, by go_num, HPL2, HN, hO1, HB1⟩
      case measure => simp [intOf]; omega
    · have hd5 : ((y.toNat : Int) != 255) = true := by rw [bne_iff_ne]; omega
      have H := Lib.hid (HE.out 11 (by decide) (by rw [← HG.out, HX.out, HY.out, rdO_form hx0 hy1 hy2]; rfl))
      clear HE hx0
      go_wp2
      go_ret3
      exact H.out

end Go.Proofs.Ytcikhlieaoanoaa

/-
  The reference's Ordered, Sum, Sealed, walked.
-/
namespace Go.Proofs.Ytcikhlieaoanoaa
open Go.RowKit

set_option maxRecDepth 100000 in
set_option maxHeartbeats 1000000 in
theorem rOrdered_any (l : List UInt8) (A : Option Addr) (n c : Nat) (w : World) (hn : n ≤ 70368744177000) (hr : RB w w.heap.size A n l) :
    Calls Try.prog 60 #[.slice A n c] w (BytesPost 5 (ordB l) w) := by
  have HL := Lib.hid hr.len
  have HR : Hid (∀ w', Below w.heap.size w w' → RB w' w'.heap.size A n l) := Lib.hid fun w' h => hr.later h
  have HF : Hid (∀ k, ((l.take k).flatMap ordC).length ≤ 140737488354000) := Lib.hid fun k => by
    have := ordF_len (l.take k)
    have h2 : (l.take k).length ≤ l.length := by rw [List.length_take]; omega
    have h3 := HL.out
    omega
  clear hr
  go_enter Try.func60, Try.ntmps60
  go_wp2
  go_loopw [3, 4] (fun v i wr => ∃ (k : Nat) (P : List UInt8), k ≤ n ∧ i = .int .i64 k ∧ Hid (P = (l.take k).flatMap ordC) ∧ wr.ownsRow w.heap.size 5 1 v P.length (u8s P) ∧ Hid (Below w.heap.size w wr)) (fun _ i _ => n - (intOf i).toNat)
  case atStart => exact ⟨0, [], Nat.zero_le _, rfl, Lib.hid rfl, own_nil _ _ _ _, Lib.hid (Below.refl _ _)⟩
  case round =>
    obtain ⟨k, P, hk, rfl, HP, hown, HB⟩ := hrel
    obtain ⟨v, hv⟩ : ∃ v, v = u3 := ⟨_, rfl⟩
    rw [← hv] at hown ⊢
    clear hv
    have HPL : Hid (P.length ≤ 140737488354000) := Lib.hid (by rw [HP.out]; exact HF.out k)
    by_cases hlt : k < n
    case neg =>
      have HE : Hid (P ++ [0, 1] = ordB l) := Lib.hid (by rw [HP.out, take_all (by have := HL.out; omega)]; rfl)
      go_wp2_with (at_builtin; go_must (refine wpList_append_reads _ rfl (.tmp 26) (.tmp 27) rfl Try.u8s' w.heap.size v P.length (u8s P) rfl (hown.alloc _) (wr.heap.size + 1) (some ⟨wr.heap.size, 0, none⟩) 2 2 (u8s [0, 1]) rfl (by exact reads_lit wr _ [0, 1] _ _ rfl) (u8s_one _) (by have := HPL.out; unfold maxLen; omega) (by have := HPL.out; omega) (by have := HB.out.size; simp; omega) ?_); intro v1 w1 hown1 hg1 hat1)
      go_ret
      have hB : w.heap.size ≤ (wr.alloc (.cells #[.int .u8 0, .int .u8 1] 5)).heap.size := by have := HB.out.size; simp; omega
      have HB1 := below_app (HB.out.alloc HB.out.size _) (hown.alloc _) hg1 hB (Nat.le_refl _)
      rw [← u8s_append, HE.out] at hown1
      exact bytes_post hown1 HB1
    obtain ⟨b, o, y, rfl, _, hy, hcy⟩ := (HR.out _ HB.out).at_ hlt
    have HY := Lib.hid (ordB_take hy)
    have HY0 := Lib.hid hy
    clear hy
    by_cases h0 : y.toNat = 0
    · have HN : Hid ((P ++ [y]) ++ [255] = (l.take (k + 1)).flatMap ordC) := Lib.hid (by
        rw [HY.out, HP.out]
        unfold ordC
        rw [if_pos h0, UInt8.toNat_inj.1 (show y.toNat = (0 : UInt8).toNat from h0)]; simp)
      have hd : ((y.toNat : Int) == 0) = true := by rw [beq_iff_eq]; omega
      have tok1 : True := trivial
      clear HY h0
      go_wp2_with (first
        | (at_builtin; have _t := tok1; go_must (refine wpList_append_reads _ rfl (.tmp 11) (.tmp 16) rfl Try.u8s' w.heap.size v P.length (u8s P) rfl (hown.alloc _) (wr.heap.size + 1) (some ⟨wr.heap.size, 0, none⟩) 1 1 (u8s [y]) rfl (by exact reads_lit wr _ [y] _ _ rfl) (u8s_one _) (by have := HPL.out; unfold maxLen; omega) (by have := HPL.out; omega) (by have := HB.out.size; simp; omega) ?_); intro v1 w1 hown1 hg1 hat1; clear tok1; have HB1 := Lib.hid (below_app (HB.out.alloc HB.out.size (.cells #[.int .u8 (y.toNat : Int)] 5)) (hown.alloc _) hg1 (by have := HB.out.size; simp; omega) (Nat.le_refl _)); rw [← u8s_append] at hown1; have HO1 := Lib.hid hown1; have hcy1 := (HR.out _ HB1.out).cell HY0.out; clear hown1 hg1 hat1)
        | (at_builtin; go_must (refine wpList_append_reads _ rfl (.tmp 23) (.tmp 24) rfl Try.u8s' w.heap.size v1 (P.length + 1) (u8s (P ++ [y])) rfl (HO1.out.alloc _) (w1.heap.size + 1) (some ⟨w1.heap.size, 0, none⟩) 1 1 (u8s [255]) rfl (by exact reads_lit w1 _ [255] _ _ rfl) (u8s_one _) (by have := HPL.out; unfold maxLen; omega) (by have := HPL.out; omega) (by have := HB1.out.size; simp; omega) ?_); intro v2 w2 hown2 hg2 hat2; have HB2 := Lib.hid (below_app (HB1.out.alloc HB1.out.size (.cells #[.int .u8 255] 5)) (HO1.out.alloc _) hg2 (by have := HB1.out.size; simp; omega) (Nat.le_refl _)); rw [← u8s_append] at hown2; have HO2 := Lib.hid hown2; clear hown2 hg2 hat2))
      have hO2 : w2.ownsRow w.heap.size 5 1 v2 ((P ++ [y]) ++ [255]).length (u8s ((P ++ [y]) ++ [255])) := by
        have := HO2.out
        have e : ((P ++ [y]) ++ [(255 : UInt8)]).length = P.length + 1 + 1 := by simp
        rw [e]; exact this
      clear HO2 HO1
      go_roundw
      case rel => exact ⟨k + 1, (P ++ [y]) ++ [255], by omega, by go_num, HN, hO2, HB2⟩
      case measure => simp [intOf]; omega
    · have HN : Hid (P ++ [y] = (l.take (k + 1)).flatMap ordC) := Lib.hid (by
        rw [HY.out, HP.out]
        unfold ordC
        rw [if_neg h0])
      have hd : ((y.toNat : Int) == 0) = false := by rw [beq_eq_false_iff_ne]; omega
      clear HY h0
      go_wp2_with (at_builtin; go_must (refine wpList_append_reads _ rfl (.tmp 11) (.tmp 16) rfl Try.u8s' w.heap.size v P.length (u8s P) rfl (hown.alloc _) (wr.heap.size + 1) (some ⟨wr.heap.size, 0, none⟩) 1 1 (u8s [y]) rfl (by exact reads_lit wr _ [y] _ _ rfl) (u8s_one _) (by have := HPL.out; unfold maxLen; omega) (by have := HPL.out; omega) (by have := HB.out.size; simp; omega) ?_); intro v1 w1 hown1 hg1 hat1; have HB1 := Lib.hid (below_app (HB.out.alloc HB.out.size (.cells #[.int .u8 (y.toNat : Int)] 5)) (hown.alloc _) hg1 (by have := HB.out.size; simp; omega) (Nat.le_refl _)); rw [← u8s_append] at hown1; have HO1 := Lib.hid hown1; have hcy1 := (HR.out _ HB1.out).cell HY0.out; clear hown1 hg1 hat1)
      have hO1 : w1.ownsRow w.heap.size 5 1 v1 (P ++ [y]).length (u8s (P ++ [y])) := by
        have := HO1.out
        rw [show (P ++ [y]).length = P.length + 1 from by simp]; exact this
      clear HO1
      go_roundw
      case rel => exact ⟨k + 1, P ++ [y], by omega, by go_num, HN, hO1, HB1⟩
      case measure => simp [intOf]; omega


theorem rStep_two (r c : Nat) (_hr : r < 4294967296) (_hc : c < 4294967296) : rStep (r ^^^ c) = (if (r % 2 != c % 2) = true then r / 2 ^^^ 2197175160 else r / 2) ^^^ (c / 2) := by
  unfold rStep
  have e1 : (r ^^^ c) >>> 1 = (r / 2) ^^^ (c / 2) := by
    rw [Nat.shiftRight_xor_distrib, Nat.shiftRight_eq_div_pow, Nat.shiftRight_eq_div_pow]
  have e2 : (r ^^^ c).testBit 0 = (r % 2 != c % 2) := by
    rw [Nat.testBit_xor, Nat.testBit_zero, Nat.testBit_zero]
    rcases Nat.mod_two_eq_zero_or_one r with h | h <;> rcases Nat.mod_two_eq_zero_or_one c with h' | h' <;> rw [h, h'] <;> rfl
  rw [e1, e2]
  by_cases h : (r % 2 != c % 2) = true
  · rw [if_pos h, if_pos h]; ac_rfl
  · rw [if_neg h, if_neg h, Nat.xor_zero]
theorem rIter_snoc (j x : Nat) : rIter (j + 1) x = rStep (rIter j x) := rIter_succ j x
theorem poly_walk (r : Nat) (h : r < 4294967296) : bits .xor .u32 ((r : Int)) 2197175160 = ((r ^^^ 2197175160 : Nat) : Int) := by
  rw [show (2197175160 : Int) = ((2197175160 : Nat) : Int) from rfl, u32_xor_nat _ _ h (by decide)]

end Go.Proofs.Ytcikhlieaoanoaa

/-
  strataref2.key, Key walked. (Printed by gen_rkey.py.)
-/
namespace Go.Proofs.Ytcikhlieaoanoaa
open Go.RowKit

theorem rFalling_at (v : Nat) (w : World) (hv : v < 9223372036854775808) : Calls Try.prog 83 #[.int .i64 v] w fun e w' => ∃ A c, e = .returned (.tuple #[.slice A 8 c, .int .i64 0]) ∧ w'.ownsRow w.heap.size 5 1 (.slice A 8 c) 8 (u8s (numK v)) ∧ Below w.heap.size w w' := by
  refine (rFalling_any v w hv).mono fun e w' h => ?_
  obtain ⟨A, c, h1, h2, h3, h4⟩ := BytesPost2.at_ h (risB_len _) rfl
  refine ⟨A, c, h1, ?_, h4⟩
  unfold numK
  rw [Int.toNat_natCast]
  have := h3
  unfold OwnB at this
  rw [risB_len] at this
  exact this

set_option maxRecDepth 100000 in
set_option maxHeartbeats 2000000 in
theorem rkey_five (row qual : List UInt8) (A : Option Addr) (n c F : Nat) (B : Option Addr) (m d T S : Nat) (D : Option Addr) (v q : Nat) (w : World) (hrow : Sl w A n c row) (hqual : Sl w B m d qual) (hz : checkN n F m T S 5 v = 0) :
    Calls Try.prog 61 #[.agg #[.slice A n c, .int .i64 (F : Int), .slice B m d, .int .i64 (T : Int), .int .i64 (S : Int), .int .i64 5, .slice D v q]] w (BytesPost 5 (keyE ⟨row, F, qual, T, S, 5, []⟩) w) := by
  obtain ⟨z1, z2, z3, z4, z5, z6, -⟩ := checkN_ok hz
  have HN : Hid (n ≤ 256 ∧ m ≤ 256 ∧ T ≤ 1099511627776 ∧ S ≤ 17592186044431) := Lib.hid (by omega)
  have HR : Hid (∀ x, Below w.heap.size w x → Sl x A n c row) := Lib.hid fun x h => hrow.later h
  have HQ : Hid (∀ x, Below w.heap.size w x → Sl x B m d qual) := Lib.hid fun x h => hqual.later h
  have HLEN : Hid ((ordB row).length ≤ 514 ∧ (ordB qual).length ≤ 514) := Lib.hid (by
    have h1 := ordB_len row; have h2 := ordB_len qual; have h3 := hrow.len; have h4 := hqual.len; omega)
  have HX0 := Lib.hid (Bx.new w #[.slice A n c, .int .i64 (F : Int), .slice B m d, .int .i64 (T : Int), .int .i64 (S : Int), .int .i64 5, .slice D v q] 27)
  clear hz z1 z2 z3 z4 z5 z6 hrow hqual
  have tO1 : True := trivial
  have tA1 : True := trivial
  have tA2 : True := trivial
  have tF1 : True := trivial
  have tA5 : True := trivial
  have tA6 : True := trivial
  go_enter Try.func61, Try.ntmps61
  go_wp2_with (first
    | (go_at_call 60; have _t := tO1; go_must (refine (rOrdered_any row A n c _ (by have := HN.out; omega) (HR.out _ HX0.out.up).rb).mono ?_); rintro e x1 ⟨A1, c1, rfl, hO1, hb1⟩; have HX1 := Lib.hid (HX0.out.later hb1); have HO1 := Lib.hid (own_low hO1 HX0.out.size); clear hO1 hb1 tO1; have q1_1 := HX1.out.cell (i := 1) (v := .int .i64 (F : Int)) rfl)
    | (at_builtin; have _t := tA1; go_must (refine wpList_append_reads _ rfl (.tmp 12) (.tmp 16) rfl Try.u8s' (w.heap.size + 1) (.slice A1 (ordB row).length c1) ((ordB row).length) (u8s (ordB row)) rfl (HO1.out.alloc _) (x1.heap.size + 1) (some ⟨x1.heap.size, 0, none⟩) 1 1 (u8s ([UInt8.ofNat F])) rfl (by exact reads_lit x1 _ ([UInt8.ofNat F]) _ _ (by show [_] = [u8v _]; rw [u8v_mod])) (u8s_one _) (by have := HLEN.out; unfold maxLen; omega) (by have := HLEN.out; omega) (by have := HX1.out.size; simp; omega) ?_); intro v2 x2 hown hg hat; clear tA1; have HX2 := Lib.hid ((HX1.out.alloc _).grow (HO1.out.alloc _) hg); rw [← u8s_append] at hown; have HO2 := Lib.hid hown; clear hown hg hat; have q2_5 := HX2.out.cell (i := 5) (v := .int .i64 5) rfl)
    | (at_builtin; have _t := tA2; go_must (refine wpList_append_reads _ rfl (.tmp 21) (.tmp 22) rfl Try.u8s' (w.heap.size + 1) v2 ((ordB row).length + 1) (u8s ((ordB row) ++ [UInt8.ofNat F])) rfl (HO2.out.alloc _) (x2.heap.size + 1) (some ⟨x2.heap.size, 0, none⟩) 1 1 (u8s ([0])) rfl (by exact reads_lit x2 _ ([0]) _ _ (by rfl)) (u8s_one _) (by have := HLEN.out; unfold maxLen; omega) (by have := HLEN.out; omega) (by have := HX2.out.size; simp; omega) ?_); intro v3 x3 hown hg hat; clear tA2; have HX3 := Lib.hid ((HX2.out.alloc _).grow (HO2.out.alloc _) hg); rw [← u8s_append] at hown; have HO3 := Lib.hid hown; clear hown hg hat; have q3_3 := HX3.out.cell (i := 3) (v := .int .i64 (T : Int)) rfl)
    | (go_at_call 83; have _t := tF1; go_must (refine (rFalling_at T _ (by have := HN.out; omega)).mono ?_); rintro e x7 ⟨A7, c7, rfl, hO7, hb7⟩; have HX7 := Lib.hid (HX3.out.later hb7); have HO7 := Lib.hid (own_below HO3.out hb7); have HT7 := Lib.hid hO7; clear hO7 hb7 tF1; have q7_4 := HX7.out.cell (i := 4) (v := .int .i64 (S : Int)) rfl)
    | (go_at_call 83; go_must (refine (rFalling_at S _ (by have := HN.out; omega)).mono ?_); rintro e x8 ⟨A8, c8, rfl, hO8, hb8⟩; have HX8 := Lib.hid (HX7.out.later hb8); have HO8 := Lib.hid (own_below HO7.out hb8); have HS8 := Lib.hid hO8; have HR8 := Lib.hid (RB.own (own_below HT7.out hb8)); clear hO8 hb8)
    | (at_builtin; have _t := tA5; go_must (refine wpList_append_reads _ rfl (.tmp 51) (.tmp 52) rfl Try.u8s' (w.heap.size + 1) v3 ((ordB row).length + 1 + 1) (u8s (((ordB row) ++ [UInt8.ofNat F]) ++ [0])) rfl HO8.out x8.heap.size A7 8 c7 (u8s (numK T)) rfl HR8.out (u8s_one _) (by have := HLEN.out; unfold maxLen; omega) (by have := HLEN.out; omega) (by have := HX8.out.size; omega) ?_); intro v9 x9 hown hg hat; clear tA5; have HR9 := Lib.hid (RB.own (own_aside HS8.out HO7.out (Nat.le_refl _) hg)); have HX9 := Lib.hid (HX8.out.grow HO8.out hg); rw [← u8s_append] at hown; have HO9 := Lib.hid hown; clear hown hg hat; have q9_5 := HX9.out.cell (i := 5) (v := .int .i64 5) rfl)
    | (at_builtin; have _t := tA6; go_must (refine wpList_append_reads _ rfl (.tmp 54) (.tmp 55) rfl Try.u8s' (w.heap.size + 1) v9 ((ordB row).length + 1 + 1 + 8) (u8s ((((ordB row) ++ [UInt8.ofNat F]) ++ [0]) ++ numK T)) rfl HO9.out x9.heap.size A8 8 c8 (u8s (numK S)) rfl HR9.out (u8s_one _) (by have := HLEN.out; unfold maxLen; omega) (by have := HLEN.out; omega) (by have := HX9.out.size; omega) ?_); intro va xa hown hg hat; clear tA6; have HXa := Lib.hid (HX9.out.grow HO9.out hg); rw [← u8s_append] at hown; have HOa := Lib.hid hown; clear hown hg hat; have q10_5 := HXa.out.cell (i := 5) (v := .int .i64 5) rfl)
    | (at_builtin; go_must (refine wpList_append_reads _ rfl (.tmp 57) (.tmp 61) rfl Try.u8s' (w.heap.size + 1) va ((ordB row).length + 1 + 1 + 8 + 8) (u8s (((((ordB row) ++ [UInt8.ofNat F]) ++ [0]) ++ numK T) ++ numK S)) rfl (HOa.out.alloc _) (xa.heap.size + 1) (some ⟨xa.heap.size, 0, none⟩) 1 1 (u8s ([UInt8.ofNat 5])) rfl (by exact reads_lit xa _ ([UInt8.ofNat 5]) _ _ (by rfl)) (u8s_one _) (by have := HLEN.out; unfold maxLen; omega) (by have := HLEN.out; omega) (by have := HXa.out.size; simp; omega) ?_); intro vb xb hown hg hat; have HXb := Lib.hid ((HXa.out.alloc _).grow (HOa.out.alloc _) hg); rw [← u8s_append] at hown; have HOb := Lib.hid hown; clear hown hg hat))
  go_ret
  have hf : ((((((ordB row) ++ [UInt8.ofNat F]) ++ [0]) ++ numK T) ++ numK S) ++ [UInt8.ofNat 5]) = keyE ⟨row, F, qual, T, S, 5, []⟩ := by
    unfold keyE tailK qualK
    simp [flg]
  have := HOb.out
  rw [hf] at this
  exact bytes_post (own_low this (Nat.le_succ _)) HXb.out.up

set_option maxRecDepth 100000 in
set_option maxHeartbeats 2000000 in
theorem rkey_four (row qual : List UInt8) (A : Option Addr) (n c F : Nat) (B : Option Addr) (m d T S : Nat) (D : Option Addr) (v q : Nat) (w : World) (hrow : Sl w A n c row) (hqual : Sl w B m d qual) (hz : checkN n F m T S 4 v = 0) :
    Calls Try.prog 61 #[.agg #[.slice A n c, .int .i64 (F : Int), .slice B m d, .int .i64 (T : Int), .int .i64 (S : Int), .int .i64 4, .slice D v q]] w (BytesPost 5 (keyE ⟨row, F, qual, T, S, 4, []⟩) w) := by
  obtain ⟨z1, z2, z3, z4, z5, z6, -⟩ := checkN_ok hz
  have HN : Hid (n ≤ 256 ∧ m ≤ 256 ∧ T ≤ 1099511627776 ∧ S ≤ 17592186044431) := Lib.hid (by omega)
  have HR : Hid (∀ x, Below w.heap.size w x → Sl x A n c row) := Lib.hid fun x h => hrow.later h
  have HQ : Hid (∀ x, Below w.heap.size w x → Sl x B m d qual) := Lib.hid fun x h => hqual.later h
  have HLEN : Hid ((ordB row).length ≤ 514 ∧ (ordB qual).length ≤ 514) := Lib.hid (by
    have h1 := ordB_len row; have h2 := ordB_len qual; have h3 := hrow.len; have h4 := hqual.len; omega)
  have HX0 := Lib.hid (Bx.new w #[.slice A n c, .int .i64 (F : Int), .slice B m d, .int .i64 (T : Int), .int .i64 (S : Int), .int .i64 4, .slice D v q] 27)
  clear hz z1 z2 z3 z4 z5 z6 hrow hqual
  have tO1 : True := trivial
  have tA1 : True := trivial
  have tA2 : True := trivial
  have tF1 : True := trivial
  have tA5 : True := trivial
  have tA6 : True := trivial
  have tO2 : True := trivial
  have tA3 : True := trivial
  have tA4 : True := trivial
  go_enter Try.func61, Try.ntmps61
  go_wp2_with (first
    | (go_at_call 60; have _t := tO1; go_must (refine (rOrdered_any row A n c _ (by have := HN.out; omega) (HR.out _ HX0.out.up).rb).mono ?_); rintro e x1 ⟨A1, c1, rfl, hO1, hb1⟩; have HX1 := Lib.hid (HX0.out.later hb1); have HO1 := Lib.hid (own_low hO1 HX0.out.size); clear hO1 hb1 tO1; have q1_1 := HX1.out.cell (i := 1) (v := .int .i64 (F : Int)) rfl)
    | (at_builtin; have _t := tA1; go_must (refine wpList_append_reads _ rfl (.tmp 12) (.tmp 16) rfl Try.u8s' (w.heap.size + 1) (.slice A1 (ordB row).length c1) ((ordB row).length) (u8s (ordB row)) rfl (HO1.out.alloc _) (x1.heap.size + 1) (some ⟨x1.heap.size, 0, none⟩) 1 1 (u8s ([UInt8.ofNat F])) rfl (by exact reads_lit x1 _ ([UInt8.ofNat F]) _ _ (by show [_] = [u8v _]; rw [u8v_mod])) (u8s_one _) (by have := HLEN.out; unfold maxLen; omega) (by have := HLEN.out; omega) (by have := HX1.out.size; simp; omega) ?_); intro v2 x2 hown hg hat; clear tA1; have HX2 := Lib.hid ((HX1.out.alloc _).grow (HO1.out.alloc _) hg); rw [← u8s_append] at hown; have HO2 := Lib.hid hown; clear hown hg hat; have q2_5 := HX2.out.cell (i := 5) (v := .int .i64 4) rfl)
    | (at_builtin; have _t := tA2; go_must (refine wpList_append_reads _ rfl (.tmp 24) (.tmp 25) rfl Try.u8s' (w.heap.size + 1) v2 ((ordB row).length + 1) (u8s ((ordB row) ++ [UInt8.ofNat F])) rfl (HO2.out.alloc _) (x2.heap.size + 1) (some ⟨x2.heap.size, 0, none⟩) 1 1 (u8s ([1])) rfl (by exact reads_lit x2 _ ([1]) _ _ (by rfl)) (u8s_one _) (by have := HLEN.out; unfold maxLen; omega) (by have := HLEN.out; omega) (by have := HX2.out.size; simp; omega) ?_); intro v3 x3 hown hg hat; clear tA2; have HX3 := Lib.hid ((HX2.out.alloc _).grow (HO2.out.alloc _) hg); rw [← u8s_append] at hown; have HO3 := Lib.hid hown; clear hown hg hat; have q3_2 := HX3.out.cell (i := 2) (v := .slice B m d) rfl)
    | (go_at_call 60; have _t := tO2; go_must (refine (rOrdered_any qual B m d _ (by have := HN.out; omega) (HQ.out _ HX3.out.up).rb).mono ?_); rintro e x4 ⟨A4, c4, rfl, hO4, hb4⟩; have HX4 := Lib.hid (HX3.out.later hb4); have HO4 := Lib.hid (own_below HO3.out hb4); have HR4 := Lib.hid (RB.own hO4); clear hO4 hb4 tO2)
    | (at_builtin; have _t := tA3; go_must (refine wpList_append_reads _ rfl (.tmp 27) (.tmp 30) rfl Try.u8s' (w.heap.size + 1) v3 ((ordB row).length + 1 + 1) (u8s (((ordB row) ++ [UInt8.ofNat F]) ++ [1])) rfl HO4.out x4.heap.size A4 (ordB qual).length c4 (u8s (ordB qual)) rfl HR4.out (u8s_one _) (by have := HLEN.out; unfold maxLen; omega) (by have := HLEN.out; omega) (by have := HX4.out.size; omega) ?_); intro v5 x5 hown hg hat; clear tA3; have HX5 := Lib.hid (HX4.out.grow HO4.out hg); rw [← u8s_append] at hown; have HO5 := Lib.hid hown; clear hown hg hat; have q5_5 := HX5.out.cell (i := 5) (v := .int .i64 4) rfl)
    | (at_builtin; have _t := tA4; go_must (refine wpList_append_reads _ rfl (.tmp 35) (.tmp 37) rfl Try.u8s' (w.heap.size + 1) v5 ((ordB row).length + 1 + 1 + (ordB qual).length) (u8s ((((ordB row) ++ [UInt8.ofNat F]) ++ [1]) ++ ordB qual)) rfl (HO5.out.alloc _) (x5.heap.size + 1) (some ⟨x5.heap.size, 0, none⟩) 1 1 (u8s ([0])) rfl (by exact reads_lit x5 _ ([0]) _ _ (by rfl)) (u8s_one _) (by have := HLEN.out; unfold maxLen; omega) (by have := HLEN.out; omega) (by have := HX5.out.size; simp; omega) ?_); intro v6 x6 hown hg hat; clear tA4; have HX6 := Lib.hid ((HX5.out.alloc _).grow (HO5.out.alloc _) hg); rw [← u8s_append] at hown; have HO6 := Lib.hid hown; clear hown hg hat; have q6_3 := HX6.out.cell (i := 3) (v := .int .i64 (T : Int)) rfl)
    | (go_at_call 83; have _t := tF1; go_must (refine (rFalling_at T _ (by have := HN.out; omega)).mono ?_); rintro e x7 ⟨A7, c7, rfl, hO7, hb7⟩; have HX7 := Lib.hid (HX6.out.later hb7); have HO7 := Lib.hid (own_below HO6.out hb7); have HT7 := Lib.hid hO7; clear hO7 hb7 tF1; have q7_4 := HX7.out.cell (i := 4) (v := .int .i64 (S : Int)) rfl)
    | (go_at_call 83; go_must (refine (rFalling_at S _ (by have := HN.out; omega)).mono ?_); rintro e x8 ⟨A8, c8, rfl, hO8, hb8⟩; have HX8 := Lib.hid (HX7.out.later hb8); have HO8 := Lib.hid (own_below HO7.out hb8); have HS8 := Lib.hid hO8; have HR8 := Lib.hid (RB.own (own_below HT7.out hb8)); clear hO8 hb8)
    | (at_builtin; have _t := tA5; go_must (refine wpList_append_reads _ rfl (.tmp 51) (.tmp 52) rfl Try.u8s' (w.heap.size + 1) v6 ((ordB row).length + 1 + 1 + (ordB qual).length + 1) (u8s (((((ordB row) ++ [UInt8.ofNat F]) ++ [1]) ++ ordB qual) ++ [0])) rfl HO8.out x8.heap.size A7 8 c7 (u8s (numK T)) rfl HR8.out (u8s_one _) (by have := HLEN.out; unfold maxLen; omega) (by have := HLEN.out; omega) (by have := HX8.out.size; omega) ?_); intro v9 x9 hown hg hat; clear tA5; have HR9 := Lib.hid (RB.own (own_aside HS8.out HO7.out (Nat.le_refl _) hg)); have HX9 := Lib.hid (HX8.out.grow HO8.out hg); rw [← u8s_append] at hown; have HO9 := Lib.hid hown; clear hown hg hat; have q9_5 := HX9.out.cell (i := 5) (v := .int .i64 4) rfl)
    | (at_builtin; have _t := tA6; go_must (refine wpList_append_reads _ rfl (.tmp 54) (.tmp 55) rfl Try.u8s' (w.heap.size + 1) v9 ((ordB row).length + 1 + 1 + (ordB qual).length + 1 + 8) (u8s ((((((ordB row) ++ [UInt8.ofNat F]) ++ [1]) ++ ordB qual) ++ [0]) ++ numK T)) rfl HO9.out x9.heap.size A8 8 c8 (u8s (numK S)) rfl HR9.out (u8s_one _) (by have := HLEN.out; unfold maxLen; omega) (by have := HLEN.out; omega) (by have := HX9.out.size; omega) ?_); intro va xa hown hg hat; clear tA6; have HXa := Lib.hid (HX9.out.grow HO9.out hg); rw [← u8s_append] at hown; have HOa := Lib.hid hown; clear hown hg hat; have q10_5 := HXa.out.cell (i := 5) (v := .int .i64 4) rfl)
    | (at_builtin; go_must (refine wpList_append_reads _ rfl (.tmp 57) (.tmp 61) rfl Try.u8s' (w.heap.size + 1) va ((ordB row).length + 1 + 1 + (ordB qual).length + 1 + 8 + 8) (u8s (((((((ordB row) ++ [UInt8.ofNat F]) ++ [1]) ++ ordB qual) ++ [0]) ++ numK T) ++ numK S)) rfl (HOa.out.alloc _) (xa.heap.size + 1) (some ⟨xa.heap.size, 0, none⟩) 1 1 (u8s ([UInt8.ofNat 4])) rfl (by exact reads_lit xa _ ([UInt8.ofNat 4]) _ _ (by rfl)) (u8s_one _) (by have := HLEN.out; unfold maxLen; omega) (by have := HLEN.out; omega) (by have := HXa.out.size; simp; omega) ?_); intro vb xb hown hg hat; have HXb := Lib.hid ((HXa.out.alloc _).grow (HOa.out.alloc _) hg); rw [← u8s_append] at hown; have HOb := Lib.hid hown; clear hown hg hat))
  go_ret
  have hf : ((((((((ordB row) ++ [UInt8.ofNat F]) ++ [1]) ++ ordB qual) ++ [0]) ++ numK T) ++ numK S) ++ [UInt8.ofNat 4]) = keyE ⟨row, F, qual, T, S, 4, []⟩ := by
    unfold keyE tailK qualK
    simp [flg]
  have := HOb.out
  rw [hf] at this
  exact bytes_post (own_low this (Nat.le_succ _)) HXb.out.up

set_option maxRecDepth 100000 in
set_option maxHeartbeats 2000000 in
theorem rkey_more (row qual : List UInt8) (A : Option Addr) (n c F : Nat) (B : Option Addr) (m d T S K : Nat) (D : Option Addr) (v q : Nat) (w : World) (hrow : Sl w A n c row) (hqual : Sl w B m d qual) (hz : checkN n F m T S K v = 0) (hk5 : K ≠ 5) (hk4 : K ≠ 4) :
    Calls Try.prog 61 #[.agg #[.slice A n c, .int .i64 (F : Int), .slice B m d, .int .i64 (T : Int), .int .i64 (S : Int), .int .i64 (K : Int), .slice D v q]] w (BytesPost 5 (keyE ⟨row, F, qual, T, S, (K : Int), []⟩) w) := by
  obtain ⟨z1, z2, z3, z4, z5, z6, -⟩ := checkN_ok hz
  have HN : Hid (n ≤ 256 ∧ m ≤ 256 ∧ T ≤ 1099511627776 ∧ S ≤ 17592186044431) := Lib.hid (by omega)
  have HR : Hid (∀ x, Below w.heap.size w x → Sl x A n c row) := Lib.hid fun x h => hrow.later h
  have HQ : Hid (∀ x, Below w.heap.size w x → Sl x B m d qual) := Lib.hid fun x h => hqual.later h
  have HLEN : Hid ((ordB row).length ≤ 514 ∧ (ordB qual).length ≤ 514) := Lib.hid (by
    have h1 := ordB_len row; have h2 := ordB_len qual; have h3 := hrow.len; have h4 := hqual.len; omega)
  have HX0 := Lib.hid (Bx.new w #[.slice A n c, .int .i64 (F : Int), .slice B m d, .int .i64 (T : Int), .int .i64 (S : Int), .int .i64 (K : Int), .slice D v q] 27)
  have hkk5 : ((K : Int) == 5) = false := by rw [beq_eq_false_iff_ne]; omega
  have hkk4 : ((K : Int) == 4) = false := by rw [beq_eq_false_iff_ne]; omega
  have HK5 := Lib.hid hk5
  have HK4 := Lib.hid hk4
  clear hk5 hk4
  clear hz z1 z2 z3 z4 z5 z6 hrow hqual
  have tO1 : True := trivial
  have tA1 : True := trivial
  have tA2 : True := trivial
  have tF1 : True := trivial
  have tA5 : True := trivial
  have tA6 : True := trivial
  have tO2 : True := trivial
  have tA3 : True := trivial
  have tA4 : True := trivial
  go_enter Try.func61, Try.ntmps61
  go_wp2_with (first
    | (go_at_call 60; have _t := tO1; go_must (refine (rOrdered_any row A n c _ (by have := HN.out; omega) (HR.out _ HX0.out.up).rb).mono ?_); rintro e x1 ⟨A1, c1, rfl, hO1, hb1⟩; have HX1 := Lib.hid (HX0.out.later hb1); have HO1 := Lib.hid (own_low hO1 HX0.out.size); clear hO1 hb1 tO1; have q1_1 := HX1.out.cell (i := 1) (v := .int .i64 (F : Int)) rfl)
    | (at_builtin; have _t := tA1; go_must (refine wpList_append_reads _ rfl (.tmp 12) (.tmp 16) rfl Try.u8s' (w.heap.size + 1) (.slice A1 (ordB row).length c1) ((ordB row).length) (u8s (ordB row)) rfl (HO1.out.alloc _) (x1.heap.size + 1) (some ⟨x1.heap.size, 0, none⟩) 1 1 (u8s ([UInt8.ofNat F])) rfl (by exact reads_lit x1 _ ([UInt8.ofNat F]) _ _ (by show [_] = [u8v _]; rw [u8v_mod])) (u8s_one _) (by have := HLEN.out; unfold maxLen; omega) (by have := HLEN.out; omega) (by have := HX1.out.size; simp; omega) ?_); intro v2 x2 hown hg hat; clear tA1; have HX2 := Lib.hid ((HX1.out.alloc _).grow (HO1.out.alloc _) hg); rw [← u8s_append] at hown; have HO2 := Lib.hid hown; clear hown hg hat; have q2_5 := HX2.out.cell (i := 5) (v := .int .i64 (K : Int)) rfl)
    | (at_builtin; have _t := tA2; go_must (refine wpList_append_reads _ rfl (.tmp 24) (.tmp 25) rfl Try.u8s' (w.heap.size + 1) v2 ((ordB row).length + 1) (u8s ((ordB row) ++ [UInt8.ofNat F])) rfl (HO2.out.alloc _) (x2.heap.size + 1) (some ⟨x2.heap.size, 0, none⟩) 1 1 (u8s ([1])) rfl (by exact reads_lit x2 _ ([1]) _ _ (by rfl)) (u8s_one _) (by have := HLEN.out; unfold maxLen; omega) (by have := HLEN.out; omega) (by have := HX2.out.size; simp; omega) ?_); intro v3 x3 hown hg hat; clear tA2; have HX3 := Lib.hid ((HX2.out.alloc _).grow (HO2.out.alloc _) hg); rw [← u8s_append] at hown; have HO3 := Lib.hid hown; clear hown hg hat; have q3_2 := HX3.out.cell (i := 2) (v := .slice B m d) rfl)
    | (go_at_call 60; have _t := tO2; go_must (refine (rOrdered_any qual B m d _ (by have := HN.out; omega) (HQ.out _ HX3.out.up).rb).mono ?_); rintro e x4 ⟨A4, c4, rfl, hO4, hb4⟩; have HX4 := Lib.hid (HX3.out.later hb4); have HO4 := Lib.hid (own_below HO3.out hb4); have HR4 := Lib.hid (RB.own hO4); clear hO4 hb4 tO2)
    | (at_builtin; have _t := tA3; go_must (refine wpList_append_reads _ rfl (.tmp 27) (.tmp 30) rfl Try.u8s' (w.heap.size + 1) v3 ((ordB row).length + 1 + 1) (u8s (((ordB row) ++ [UInt8.ofNat F]) ++ [1])) rfl HO4.out x4.heap.size A4 (ordB qual).length c4 (u8s (ordB qual)) rfl HR4.out (u8s_one _) (by have := HLEN.out; unfold maxLen; omega) (by have := HLEN.out; omega) (by have := HX4.out.size; omega) ?_); intro v5 x5 hown hg hat; clear tA3; have HX5 := Lib.hid (HX4.out.grow HO4.out hg); rw [← u8s_append] at hown; have HO5 := Lib.hid hown; clear hown hg hat; have q5_5 := HX5.out.cell (i := 5) (v := .int .i64 (K : Int)) rfl)
    | (at_builtin; have _t := tA4; go_must (refine wpList_append_reads _ rfl (.tmp 35) (.tmp 37) rfl Try.u8s' (w.heap.size + 1) v5 ((ordB row).length + 1 + 1 + (ordB qual).length) (u8s ((((ordB row) ++ [UInt8.ofNat F]) ++ [1]) ++ ordB qual)) rfl (HO5.out.alloc _) (x5.heap.size + 1) (some ⟨x5.heap.size, 0, none⟩) 1 1 (u8s ([1])) rfl (by exact reads_lit x5 _ ([1]) _ _ (by rfl)) (u8s_one _) (by have := HLEN.out; unfold maxLen; omega) (by have := HLEN.out; omega) (by have := HX5.out.size; simp; omega) ?_); intro v6 x6 hown hg hat; clear tA4; have HX6 := Lib.hid ((HX5.out.alloc _).grow (HO5.out.alloc _) hg); rw [← u8s_append] at hown; have HO6 := Lib.hid hown; clear hown hg hat; have q6_3 := HX6.out.cell (i := 3) (v := .int .i64 (T : Int)) rfl)
    | (go_at_call 83; have _t := tF1; go_must (refine (rFalling_at T _ (by have := HN.out; omega)).mono ?_); rintro e x7 ⟨A7, c7, rfl, hO7, hb7⟩; have HX7 := Lib.hid (HX6.out.later hb7); have HO7 := Lib.hid (own_below HO6.out hb7); have HT7 := Lib.hid hO7; clear hO7 hb7 tF1; have q7_4 := HX7.out.cell (i := 4) (v := .int .i64 (S : Int)) rfl)
    | (go_at_call 83; go_must (refine (rFalling_at S _ (by have := HN.out; omega)).mono ?_); rintro e x8 ⟨A8, c8, rfl, hO8, hb8⟩; have HX8 := Lib.hid (HX7.out.later hb8); have HO8 := Lib.hid (own_below HO7.out hb8); have HS8 := Lib.hid hO8; have HR8 := Lib.hid (RB.own (own_below HT7.out hb8)); clear hO8 hb8)
    | (at_builtin; have _t := tA5; go_must (refine wpList_append_reads _ rfl (.tmp 51) (.tmp 52) rfl Try.u8s' (w.heap.size + 1) v6 ((ordB row).length + 1 + 1 + (ordB qual).length + 1) (u8s (((((ordB row) ++ [UInt8.ofNat F]) ++ [1]) ++ ordB qual) ++ [1])) rfl HO8.out x8.heap.size A7 8 c7 (u8s (numK T)) rfl HR8.out (u8s_one _) (by have := HLEN.out; unfold maxLen; omega) (by have := HLEN.out; omega) (by have := HX8.out.size; omega) ?_); intro v9 x9 hown hg hat; clear tA5; have HR9 := Lib.hid (RB.own (own_aside HS8.out HO7.out (Nat.le_refl _) hg)); have HX9 := Lib.hid (HX8.out.grow HO8.out hg); rw [← u8s_append] at hown; have HO9 := Lib.hid hown; clear hown hg hat; have q9_5 := HX9.out.cell (i := 5) (v := .int .i64 (K : Int)) rfl)
    | (at_builtin; have _t := tA6; go_must (refine wpList_append_reads _ rfl (.tmp 54) (.tmp 55) rfl Try.u8s' (w.heap.size + 1) v9 ((ordB row).length + 1 + 1 + (ordB qual).length + 1 + 8) (u8s ((((((ordB row) ++ [UInt8.ofNat F]) ++ [1]) ++ ordB qual) ++ [1]) ++ numK T)) rfl HO9.out x9.heap.size A8 8 c8 (u8s (numK S)) rfl HR9.out (u8s_one _) (by have := HLEN.out; unfold maxLen; omega) (by have := HLEN.out; omega) (by have := HX9.out.size; omega) ?_); intro va xa hown hg hat; clear tA6; have HXa := Lib.hid (HX9.out.grow HO9.out hg); rw [← u8s_append] at hown; have HOa := Lib.hid hown; clear hown hg hat; have q10_5 := HXa.out.cell (i := 5) (v := .int .i64 (K : Int)) rfl)
    | (at_builtin; go_must (refine wpList_append_reads _ rfl (.tmp 57) (.tmp 61) rfl Try.u8s' (w.heap.size + 1) va ((ordB row).length + 1 + 1 + (ordB qual).length + 1 + 8 + 8) (u8s (((((((ordB row) ++ [UInt8.ofNat F]) ++ [1]) ++ ordB qual) ++ [1]) ++ numK T) ++ numK S)) rfl (HOa.out.alloc _) (xa.heap.size + 1) (some ⟨xa.heap.size, 0, none⟩) 1 1 (u8s ([UInt8.ofNat K])) rfl (by exact reads_lit xa _ ([UInt8.ofNat K]) _ _ (by show [_] = [u8v _]; rw [u8v_mod])) (u8s_one _) (by have := HLEN.out; unfold maxLen; omega) (by have := HLEN.out; omega) (by have := HXa.out.size; simp; omega) ?_); intro vb xb hown hg hat; have HXb := Lib.hid ((HXa.out.alloc _).grow (HOa.out.alloc _) hg); rw [← u8s_append] at hown; have HOb := Lib.hid hown; clear hown hg hat))
  go_ret
  have hf : ((((((((ordB row) ++ [UInt8.ofNat F]) ++ [1]) ++ ordB qual) ++ [1]) ++ numK T) ++ numK S) ++ [UInt8.ofNat K]) = keyE ⟨row, F, qual, T, S, (K : Int), []⟩ := by
    unfold keyE tailK qualK
    have a5 : ¬ ((K : Int) = 5) := by have := HK5.out; omega
    have e5 : ((K : Int) == 5) = false := hkk5
    have e4 : ((K : Int) == 4) = false := hkk4
    rw [if_neg a5]
    simp only [e5, e4]
    simp [flg]
  have := HOb.out
  rw [hf] at this
  exact bytes_post (own_low this (Nat.le_succ _)) HXb.out.up

theorem rkey_any (e : Ent) (hz : checkE e = 0) (A : Option Addr) (n c : Nat) (B : Option Addr) (m d : Nat) (D : Option Addr) (v q : Nat) (w : World) (h : En w A n c B m d D v q e) :
    Calls Try.prog 61 #[entV A n c B m d D v q e] w (BytesPost 5 (keyE e) w) := by
  obtain ⟨row, f, qual, t, s, k, val⟩ := e
  have hl1 : row.length = n := h.row.len
  have hl2 : qual.length = m := h.qual.len
  have hl3 : val.length = v := h.val.len
  have hc : checkE ⟨row, f, qual, t, s, k, val⟩ = checkN n f m t s k v := by unfold checkE; simp only [hl1, hl2, hl3]
  rw [hc] at hz
  obtain ⟨z1, z2, z3, z4, z5, z6, -⟩ := checkN_ok hz
  obtain ⟨F, rfl⟩ : ∃ F : Nat, f = F := ⟨f.toNat, by omega⟩
  obtain ⟨T, rfl⟩ : ∃ T : Nat, t = T := ⟨t.toNat, by omega⟩
  obtain ⟨S, rfl⟩ : ∃ S : Nat, s = S := ⟨s.toNat, by omega⟩
  obtain ⟨K, rfl⟩ : ∃ K : Nat, k = K := ⟨k.toNat, by omega⟩
  by_cases hk : K = 5
  · subst hk
    exact rkey_five row qual A n c F B m d T S D v q w h.row h.qual hz
  · by_cases hk4 : K = 4
    · subst hk4
      exact rkey_four row qual A n c F B m d T S D v q w h.row h.qual hz
    · exact rkey_more row qual A n c F B m d T S K D v q w h.row h.qual hz hk hk4
set_option maxRecDepth 100000 in
set_option maxHeartbeats 1000000 in
theorem rKey_any (e : Ent) (A : Option Addr) (n c : Nat) (B : Option Addr) (m d : Nat) (D : Option Addr) (v q : Nat) (w : World) (h : En w A n c B m d D v q e) :
    Calls Try.prog 34 #[entV A n c B m d D v q e] w (BytesPost2 5 (KeyE e).1 (KeyE e).2 w) := by
  have hl1 := h.row.len
  have hl2 := h.qual.len
  have hl3 := h.val.len
  have HC : Hid (checkN n e.fam m e.ts e.seq e.kind v = checkE e) := Lib.hid (by unfold checkE; simp only [hl1, hl2, hl3])
  have HX0 := Lib.hid (Bx.new w #[.slice A n c, .int .i64 e.fam, .slice B m d, .int .i64 e.ts, .int .i64 e.seq, .int .i64 e.kind, .slice D v q] 27)
  obtain ⟨z, hz⟩ : ∃ z, z = checkE e := ⟨_, rfl⟩
  have HZ := Lib.hid hz
  unfold KeyE
  rw [← hz]
  unfold entV
  by_cases h0 : z = 0
  · subst h0
    have HK : Hid (∀ x, Below w.heap.size w x → Calls Try.prog 61 #[.agg #[.slice A n c, .int .i64 e.fam, .slice B m d, .int .i64 e.ts, .int .i64 e.seq, .int .i64 e.kind, .slice D v q]] x (BytesPost 5 (keyE e) x)) := Lib.hid fun x hx => rkey_any e hz.symm A n c B m d D v q x (h.later hx)
    rw [if_pos rfl]
    clear hz h hl1 hl2 hl3
    go_enter Try.func34, Try.ntmps34
    go_wp2_with (first
      | (go_at_call 33; go_must (refine (rCheck_any _ _ _ _ _ _ _ _ _ _ _ _ _ _).mono ?_); rintro e' x1 ⟨rfl, hb1⟩; rw [HC.out, ← HZ.out]; have HX1 := Lib.hid (HX0.out.later hb1); clear hb1 HX0; have q0 := HX1.out.cell (i := 0) (v := .slice A n c) rfl; have q1 := HX1.out.cell (i := 1) (v := .int .i64 e.fam) rfl; have q2 := HX1.out.cell (i := 2) (v := .slice B m d) rfl; have q3 := HX1.out.cell (i := 3) (v := .int .i64 e.ts) rfl; have q4 := HX1.out.cell (i := 4) (v := .int .i64 e.seq) rfl; have q5 := HX1.out.cell (i := 5) (v := .int .i64 e.kind) rfl; have q6 := HX1.out.cell (i := 6) (v := .slice D v q) rfl)
      | (go_at_call 61; go_must (refine (HK.out _ HX1.out.up).mono ?_); rintro e' x2 ⟨A2, c2, rfl, hO2, hb2⟩; have HO2 := Lib.hid hO2; have HB2 := Lib.hid (HX1.out.up.trans (hb2.mono HX1.out.up.size)); clear hO2 hb2))
    go_ret2
    exact ⟨A2, c2, rfl, HO2.out.rebase HX1.out.up.size, HB2.out⟩
  · rw [if_neg h0]
    have hd : (z != 0) = true := by rw [bne_iff_ne]; exact h0
    clear hz h hl1 hl2 hl3 h0
    go_enter Try.func34, Try.ntmps34
    go_wp2_with (go_at_call 33; go_must (refine (rCheck_any _ _ _ _ _ _ _ _ _ _ _ _ _ _).mono ?_); rintro e' x1 ⟨rfl, hb1⟩; rw [HC.out, ← HZ.out]; have HX1 := Lib.hid (HX0.out.later hb1); clear hb1 HX0)
    go_ret2
    exact bytes_none2 HX1.out.up
end Go.Proofs.Ytcikhlieaoanoaa

/-
  strataref2.ParseKey walked. (Printed by gen_parse.py.)
-/
namespace Go.Proofs.Ytcikhlieaoanoaa
open Go.RowKit

set_option maxRecDepth 100000 in
set_option maxHeartbeats 2000000 in
theorem rp_N_f1a (b : List UInt8) (A : Option Addr) (n c : Nat) (w : World) (rw0 : List UInt8) (p1 er : Nat) (hs : Sl w A n c b) (hn : n ≤ 140737488355000) (h0 : readO b 0 = (rw0, p1, er)) (he : er ≠ 0) :
    Calls Try.prog 16 #[.slice A n c] w (EntPost (fun v => .tuple #[v, .int .i64 27]) noEnt w) := by
  have HS : Hid (∀ x, Below w.heap.size w x → Sl x A n c b) := Lib.hid fun x h => hs.later h
  have HX0 := Lib.hid (Bt.of (T := 5) (Bxs.three w 27 #[.slice none 0 0, .int .i64 0, .slice none 0 0, .int .i64 0, .int .i64 0, .int .i64 0, .slice none 0 0] #[.slice none 0 0, .int .i64 0, .slice none 0 0, .int .i64 0, .int .i64 0, .int .i64 0, .slice none 0 0] #[.slice none 0 0, .int .i64 0, .slice none 0 0, .int .i64 0, .int .i64 0, .int .i64 0, .slice none 0 0]))
  have H0 := Lib.hid h0
  have hd : ((er : Int) != 0) = true := by rw [bne_iff_ne]; omega
  have tO1 : True := trivial
  clear hs h0 he
  go_enter Try.func16, Try.ntmps16
  go_wp2_with (first
    | (go_at_call 49; have _t := tO1; go_must (refine (rRo_any b A n c 0 _ (HS.out _ HX0.out.box.up) hn).mono ?_); rw [H0.out]; rintro e x1 hp; obtain ⟨A1, c1, rfl, _, hO1, hb1⟩ := hp.at_ (n := rw0.length) rfl rfl rfl; have HX1 := Lib.hid (HX0.out.fresh hb1 hO1); clear hb1 hp hO1 tO1; have z0 := HX1.out.box.c0 (i := 0) (v := .slice none 0 0) rfl rfl; have n0 := HX1.out.box.c1 (i := 0) (v := .slice none 0 0) rfl rfl; have y0 := HX1.out.box.c2 (i := 0) (v := .slice none 0 0) rfl rfl; have z1 := HX1.out.box.c0 (i := 1) (v := .int .i64 0) rfl rfl; have n1 := HX1.out.box.c1 (i := 1) (v := .int .i64 0) rfl rfl; have y1 := HX1.out.box.c2 (i := 1) (v := .int .i64 0) rfl rfl; have z2 := HX1.out.box.c0 (i := 2) (v := .slice none 0 0) rfl rfl; have n2 := HX1.out.box.c1 (i := 2) (v := .slice none 0 0) rfl rfl; have y2 := HX1.out.box.c2 (i := 2) (v := .slice none 0 0) rfl rfl; have z3 := HX1.out.box.c0 (i := 3) (v := .int .i64 0) rfl rfl; have n3 := HX1.out.box.c1 (i := 3) (v := .int .i64 0) rfl rfl; have y3 := HX1.out.box.c2 (i := 3) (v := .int .i64 0) rfl rfl; have z4 := HX1.out.box.c0 (i := 4) (v := .int .i64 0) rfl rfl; have n4 := HX1.out.box.c1 (i := 4) (v := .int .i64 0) rfl rfl; have y4 := HX1.out.box.c2 (i := 4) (v := .int .i64 0) rfl rfl; have z5 := HX1.out.box.c0 (i := 5) (v := .int .i64 0) rfl rfl; have n5 := HX1.out.box.c1 (i := 5) (v := .int .i64 0) rfl rfl; have y5 := HX1.out.box.c2 (i := 5) (v := .int .i64 0) rfl rfl; have z6 := HX1.out.box.c0 (i := 6) (v := .slice none 0 0) rfl rfl; have n6 := HX1.out.box.c1 (i := 6) (v := .slice none 0 0) rfl rfl; have y6 := HX1.out.box.c2 (i := 6) (v := .slice none 0 0) rfl rfl; have fz := HX1.out.box.f0 rfl; have fy := HX1.out.box.f2 rfl))
  (try simp only [Exit.inBlock, Exit.then])
  have HR := Lib.hid ((HX1.out.fill7 rfl (.slice none 0 0) (.int .i64 0) (.slice none 0 0) (.int .i64 0) (.int .i64 0) (.int .i64 0) (.slice none 0 0)))
  refine bodyPost_ret (results_box1 rfl _ _ w.heap.size _ rfl (HR.out.box.cells0 rfl) (by kernel_rfl) (by kernel_rfl)) rfl ?_
  exact ent_none (mk := fun v => .tuple #[v, .int .i64 27]) HR.out.box.up

set_option maxRecDepth 100000 in
set_option maxHeartbeats 2000000 in
theorem rp_N_f1b (b : List UInt8) (A : Option Addr) (n c : Nat) (w : World) (row : List UInt8) (p1 : Nat) (hs : Sl w A n c b) (hn : n ≤ 140737488355000) (h0 : readO b 0 = (row, p1, 0)) (hp1 : p1 ≤ n) (hsh : n < p1 + 2) :
    Calls Try.prog 16 #[.slice A n c] w (EntPost (fun v => .tuple #[v, .int .i64 27]) noEnt w) := by
  have HS : Hid (∀ x, Below w.heap.size w x → Sl x A n c b) := Lib.hid fun x h => hs.later h
  have HX0 := Lib.hid (Bt.of (T := 5) (Bxs.three w 27 #[.slice none 0 0, .int .i64 0, .slice none 0 0, .int .i64 0, .int .i64 0, .int .i64 0, .slice none 0 0] #[.slice none 0 0, .int .i64 0, .slice none 0 0, .int .i64 0, .int .i64 0, .int .i64 0, .slice none 0 0] #[.slice none 0 0, .int .i64 0, .slice none 0 0, .int .i64 0, .int .i64 0, .int .i64 0, .slice none 0 0]))
  have H0 := Lib.hid h0
  have tO1 : True := trivial
  clear hs h0
  go_enter Try.func16, Try.ntmps16
  go_wp2_with (first
    | (go_at_call 49; have _t := tO1; go_must (refine (rRo_any b A n c 0 _ (HS.out _ HX0.out.box.up) hn).mono ?_); rw [H0.out]; rintro e x1 hp; obtain ⟨A1, c1, rfl, _, hO1, hb1⟩ := hp.at_ (n := row.length) rfl rfl rfl; have HX1 := Lib.hid (HX0.out.fresh hb1 hO1); clear hb1 hp hO1 tO1; have z0 := HX1.out.box.c0 (i := 0) (v := .slice none 0 0) rfl rfl; have n0 := HX1.out.box.c1 (i := 0) (v := .slice none 0 0) rfl rfl; have y0 := HX1.out.box.c2 (i := 0) (v := .slice none 0 0) rfl rfl; have z1 := HX1.out.box.c0 (i := 1) (v := .int .i64 0) rfl rfl; have n1 := HX1.out.box.c1 (i := 1) (v := .int .i64 0) rfl rfl; have y1 := HX1.out.box.c2 (i := 1) (v := .int .i64 0) rfl rfl; have z2 := HX1.out.box.c0 (i := 2) (v := .slice none 0 0) rfl rfl; have n2 := HX1.out.box.c1 (i := 2) (v := .slice none 0 0) rfl rfl; have y2 := HX1.out.box.c2 (i := 2) (v := .slice none 0 0) rfl rfl; have z3 := HX1.out.box.c0 (i := 3) (v := .int .i64 0) rfl rfl; have n3 := HX1.out.box.c1 (i := 3) (v := .int .i64 0) rfl rfl; have y3 := HX1.out.box.c2 (i := 3) (v := .int .i64 0) rfl rfl; have z4 := HX1.out.box.c0 (i := 4) (v := .int .i64 0) rfl rfl; have n4 := HX1.out.box.c1 (i := 4) (v := .int .i64 0) rfl rfl; have y4 := HX1.out.box.c2 (i := 4) (v := .int .i64 0) rfl rfl; have z5 := HX1.out.box.c0 (i := 5) (v := .int .i64 0) rfl rfl; have n5 := HX1.out.box.c1 (i := 5) (v := .int .i64 0) rfl rfl; have y5 := HX1.out.box.c2 (i := 5) (v := .int .i64 0) rfl rfl; have z6 := HX1.out.box.c0 (i := 6) (v := .slice none 0 0) rfl rfl; have n6 := HX1.out.box.c1 (i := 6) (v := .slice none 0 0) rfl rfl; have y6 := HX1.out.box.c2 (i := 6) (v := .slice none 0 0) rfl rfl; have fz := HX1.out.box.f0 rfl; have fy := HX1.out.box.f2 rfl))
  (try simp only [Exit.inBlock, Exit.then])
  have HR := Lib.hid ((HX1.out.fill7 rfl (.slice none 0 0) (.int .i64 0) (.slice none 0 0) (.int .i64 0) (.int .i64 0) (.int .i64 0) (.slice none 0 0)))
  refine bodyPost_ret (results_box1 rfl _ _ w.heap.size _ rfl (HR.out.box.cells0 rfl) (by kernel_rfl) (by kernel_rfl)) rfl ?_
  exact ent_none (mk := fun v => .tuple #[v, .int .i64 27]) HR.out.box.up

set_option maxRecDepth 100000 in
set_option maxHeartbeats 2000000 in
theorem rp_P_f2a (b : List UInt8) (A : Option Addr) (n c : Nat) (w : World) (row : List UInt8) (p1 : Nat) (f g : UInt8) (ql0 : List UInt8) (p2 er : Nat) (hs : Sl w A n c b) (hn : n ≤ 140737488355000) (h0 : readO b 0 = (row, p1, 0)) (hlen : p1 + 2 ≤ n) (hf : b[p1]? = some f) (hg : b[p1 + 1]? = some g) (hg0 : g.toNat ≠ 0) (h2 : readO b ((p1 + 2 : Nat) : Int) = (ql0, p2, er)) (he : er ≠ 0) :
    Calls Try.prog 16 #[.slice A n c] w (EntPost (fun v => .tuple #[v, .int .i64 27]) noEnt w) := by
  have HS : Hid (∀ x, Below w.heap.size w x → Sl x A n c b) := Lib.hid fun x h => hs.later h
  have HX0 := Lib.hid (Bt.of (T := 5) (Bxs.three w 27 #[.slice none 0 0, .int .i64 0, .slice none 0 0, .int .i64 0, .int .i64 0, .int .i64 0, .slice none 0 0] #[.slice none 0 0, .int .i64 0, .slice none 0 0, .int .i64 0, .int .i64 0, .int .i64 0, .slice none 0 0] #[.slice none 0 0, .int .i64 0, .slice none 0 0, .int .i64 0, .int .i64 0, .int .i64 0, .slice none 0 0]))
  have H0 := Lib.hid h0
  obtain ⟨bb, oo, _, rfl, hbb, _, _⟩ := hs.rb.at_ (k := p1) (by omega)
  have HC : Hid (∀ (j : Nat) (u : UInt8) x, b[j]? = some u → Below w.heap.size w x → x.cell? ⟨bb, oo + j, none⟩ = some (.int .u8 (u.toNat : Int))) := Lib.hid fun j u x hu hx => (hs.rb.later hx).cell hu
  have hbb0 : ¬ bb = w.heap.size := by omega
  have hbb1 : ¬ bb = w.heap.size + 1 := by omega
  have hbb2 : ¬ bb = w.heap.size + 1 + 1 := by omega
  have HF := Lib.hid hf
  have HG := Lib.hid hg
  have hgd : ((g.toNat : Int) != 0) = true := by rw [bne_iff_ne]; omega
  have H2 := Lib.hid h2
  have hd : ((er : Int) != 0) = true := by rw [bne_iff_ne]; omega
  have q1 : (p1 : Int) < (n : Int) := by omega
  have q2 : (p1 : Int) + 1 < (n : Int) := by omega
  have q3 : decide ((n : Int) < (p1 : Int) + 2) = false := decide_eq_false (by omega)
  have q8 : wrap64 ((f.toNat : Nat) : Int) = (f.toNat : Int) := wrap64_id (by omega) (by have := f.toNat_lt; omega)
  have q9 : IntKind.i64.wrap ((f.toNat : Nat) : Int) = (f.toNat : Int) := i64_sum (by omega) (by have := f.toNat_lt; omega)
  have tO1 : True := trivial
  have tO2 : True := trivial
  clear hs h0 hf hg hg0 h2 he
  go_enter Try.func16, Try.ntmps16
  go_wp2_with (first
    | (go_at_call 49; have _t := tO1; go_must (refine (rRo_any b (some ⟨bb, oo, none⟩) n c 0 _ (HS.out _ HX0.out.box.up) hn).mono ?_); rw [H0.out]; rintro e x1 hp; obtain ⟨A1, c1, rfl, _, hO1, hb1⟩ := hp.at_ (n := row.length) rfl rfl rfl; have HX1 := Lib.hid (HX0.out.fresh hb1 hO1); clear hb1 hp hO1 tO1; have z0 := HX1.out.box.c0 (i := 0) (v := .slice none 0 0) rfl rfl; have n0 := HX1.out.box.c1 (i := 0) (v := .slice none 0 0) rfl rfl; have y0 := HX1.out.box.c2 (i := 0) (v := .slice none 0 0) rfl rfl; have z1 := HX1.out.box.c0 (i := 1) (v := .int .i64 0) rfl rfl; have n1 := HX1.out.box.c1 (i := 1) (v := .int .i64 0) rfl rfl; have y1 := HX1.out.box.c2 (i := 1) (v := .int .i64 0) rfl rfl; have z2 := HX1.out.box.c0 (i := 2) (v := .slice none 0 0) rfl rfl; have n2 := HX1.out.box.c1 (i := 2) (v := .slice none 0 0) rfl rfl; have y2 := HX1.out.box.c2 (i := 2) (v := .slice none 0 0) rfl rfl; have z3 := HX1.out.box.c0 (i := 3) (v := .int .i64 0) rfl rfl; have n3 := HX1.out.box.c1 (i := 3) (v := .int .i64 0) rfl rfl; have y3 := HX1.out.box.c2 (i := 3) (v := .int .i64 0) rfl rfl; have z4 := HX1.out.box.c0 (i := 4) (v := .int .i64 0) rfl rfl; have n4 := HX1.out.box.c1 (i := 4) (v := .int .i64 0) rfl rfl; have y4 := HX1.out.box.c2 (i := 4) (v := .int .i64 0) rfl rfl; have z5 := HX1.out.box.c0 (i := 5) (v := .int .i64 0) rfl rfl; have n5 := HX1.out.box.c1 (i := 5) (v := .int .i64 0) rfl rfl; have y5 := HX1.out.box.c2 (i := 5) (v := .int .i64 0) rfl rfl; have z6 := HX1.out.box.c0 (i := 6) (v := .slice none 0 0) rfl rfl; have n6 := HX1.out.box.c1 (i := 6) (v := .slice none 0 0) rfl rfl; have y6 := HX1.out.box.c2 (i := 6) (v := .slice none 0 0) rfl rfl; have fz := HX1.out.box.f0 rfl; have fy := HX1.out.box.f2 rfl; have g1 := HC.out p1 f _ HF.out HX1.out.box.up; have g2 := HC.out (p1 + 1) g _ HG.out HX1.out.box.up)
    | (go_at_call 49; have _t := tO2; go_must (refine (rRo_any b (some ⟨bb, oo, none⟩) n c _ _ (HS.out _ ((HX1.out.s2_0 (.slice A1 row.length c1)).s2_1 (.int .i64 (f.toNat : Int))).box.up) hn).mono ?_); rw [show ((p1 : Int) + 2) = ((p1 + 2 : Nat) : Int) from by omega, H2.out]; rintro e x2 hp; obtain ⟨A2, c2, rfl, _, hO2, hb2⟩ := hp.at_ (n := ql0.length) rfl rfl rfl; have HX2 := Lib.hid (((HX1.out.s2_0 (.slice A1 row.length c1)).s2_1 (.int .i64 (f.toNat : Int))).fresh hb2 hO2); clear hb2 hp hO2 tO2 g1 g2; clear z0 y0 n0 z1 y1 n1 z2 y2 n2 z3 y3 n3 z4 y4 n4 z5 y5 n5 z6 y6 n6 fz fy; have z0 := HX2.out.box.c0 (i := 0) (v := .slice none 0 0) rfl rfl; have n0 := HX2.out.box.c1 (i := 0) (v := .slice none 0 0) rfl rfl; have y0 := HX2.out.box.c2 (i := 0) (v := .slice A1 row.length c1) rfl rfl; have z1 := HX2.out.box.c0 (i := 1) (v := .int .i64 0) rfl rfl; have n1 := HX2.out.box.c1 (i := 1) (v := .int .i64 0) rfl rfl; have y1 := HX2.out.box.c2 (i := 1) (v := .int .i64 (f.toNat : Int)) rfl rfl; have z2 := HX2.out.box.c0 (i := 2) (v := .slice none 0 0) rfl rfl; have n2 := HX2.out.box.c1 (i := 2) (v := .slice none 0 0) rfl rfl; have y2 := HX2.out.box.c2 (i := 2) (v := .slice none 0 0) rfl rfl; have z3 := HX2.out.box.c0 (i := 3) (v := .int .i64 0) rfl rfl; have n3 := HX2.out.box.c1 (i := 3) (v := .int .i64 0) rfl rfl; have y3 := HX2.out.box.c2 (i := 3) (v := .int .i64 0) rfl rfl; have z4 := HX2.out.box.c0 (i := 4) (v := .int .i64 0) rfl rfl; have n4 := HX2.out.box.c1 (i := 4) (v := .int .i64 0) rfl rfl; have y4 := HX2.out.box.c2 (i := 4) (v := .int .i64 0) rfl rfl; have z5 := HX2.out.box.c0 (i := 5) (v := .int .i64 0) rfl rfl; have n5 := HX2.out.box.c1 (i := 5) (v := .int .i64 0) rfl rfl; have y5 := HX2.out.box.c2 (i := 5) (v := .int .i64 0) rfl rfl; have z6 := HX2.out.box.c0 (i := 6) (v := .slice none 0 0) rfl rfl; have n6 := HX2.out.box.c1 (i := 6) (v := .slice none 0 0) rfl rfl; have y6 := HX2.out.box.c2 (i := 6) (v := .slice none 0 0) rfl rfl; have fz := HX2.out.box.f0 rfl; have fy := HX2.out.box.f2 rfl))
  (try simp only [Exit.inBlock, Exit.then])
  have HR := Lib.hid (((HX2.out.s2_2 (.slice A2 ql0.length c2)).fill7 rfl (.slice none 0 0) (.int .i64 0) (.slice none 0 0) (.int .i64 0) (.int .i64 0) (.int .i64 0) (.slice none 0 0)))
  refine bodyPost_ret (results_box1 rfl _ _ w.heap.size _ rfl (HR.out.box.cells0 rfl) (by kernel_rfl) (by kernel_rfl)) rfl ?_
  exact ent_none (mk := fun v => .tuple #[v, .int .i64 27]) HR.out.box.up

set_option maxRecDepth 100000 in
set_option maxHeartbeats 2000000 in
theorem rp_P_f2b (b : List UInt8) (A : Option Addr) (n c : Nat) (w : World) (row : List UInt8) (p1 : Nat) (f g : UInt8) (qual : List UInt8) (p2 : Nat) (hs : Sl w A n c b) (hn : n ≤ 140737488355000) (h0 : readO b 0 = (row, p1, 0)) (hlen : p1 + 2 ≤ n) (hf : b[p1]? = some f) (hg : b[p1 + 1]? = some g) (hg0 : g.toNat ≠ 0) (h2 : readO b ((p1 + 2 : Nat) : Int) = (qual, p2, 0)) (hp2 : p2 ≤ n) (hsh : n ≤ p2) :
    Calls Try.prog 16 #[.slice A n c] w (EntPost (fun v => .tuple #[v, .int .i64 27]) noEnt w) := by
  have HS : Hid (∀ x, Below w.heap.size w x → Sl x A n c b) := Lib.hid fun x h => hs.later h
  have HX0 := Lib.hid (Bt.of (T := 5) (Bxs.three w 27 #[.slice none 0 0, .int .i64 0, .slice none 0 0, .int .i64 0, .int .i64 0, .int .i64 0, .slice none 0 0] #[.slice none 0 0, .int .i64 0, .slice none 0 0, .int .i64 0, .int .i64 0, .int .i64 0, .slice none 0 0] #[.slice none 0 0, .int .i64 0, .slice none 0 0, .int .i64 0, .int .i64 0, .int .i64 0, .slice none 0 0]))
  have H0 := Lib.hid h0
  obtain ⟨bb, oo, _, rfl, hbb, _, _⟩ := hs.rb.at_ (k := p1) (by omega)
  have HC : Hid (∀ (j : Nat) (u : UInt8) x, b[j]? = some u → Below w.heap.size w x → x.cell? ⟨bb, oo + j, none⟩ = some (.int .u8 (u.toNat : Int))) := Lib.hid fun j u x hu hx => (hs.rb.later hx).cell hu
  have hbb0 : ¬ bb = w.heap.size := by omega
  have hbb1 : ¬ bb = w.heap.size + 1 := by omega
  have hbb2 : ¬ bb = w.heap.size + 1 + 1 := by omega
  have HF := Lib.hid hf
  have HG := Lib.hid hg
  have hgd : ((g.toNat : Int) != 0) = true := by rw [bne_iff_ne]; omega
  have H2 := Lib.hid h2
  have q1 : (p1 : Int) < (n : Int) := by omega
  have q2 : (p1 : Int) + 1 < (n : Int) := by omega
  have q3 : decide ((n : Int) < (p1 : Int) + 2) = false := decide_eq_false (by omega)
  have q8 : wrap64 ((f.toNat : Nat) : Int) = (f.toNat : Int) := wrap64_id (by omega) (by have := f.toNat_lt; omega)
  have q9 : IntKind.i64.wrap ((f.toNat : Nat) : Int) = (f.toNat : Int) := i64_sum (by omega) (by have := f.toNat_lt; omega)
  have tO1 : True := trivial
  have tO2 : True := trivial
  clear hs h0 hf hg hg0 h2
  go_enter Try.func16, Try.ntmps16
  go_wp2_with (first
    | (go_at_call 49; have _t := tO1; go_must (refine (rRo_any b (some ⟨bb, oo, none⟩) n c 0 _ (HS.out _ HX0.out.box.up) hn).mono ?_); rw [H0.out]; rintro e x1 hp; obtain ⟨A1, c1, rfl, _, hO1, hb1⟩ := hp.at_ (n := row.length) rfl rfl rfl; have HX1 := Lib.hid (HX0.out.fresh hb1 hO1); clear hb1 hp hO1 tO1; have z0 := HX1.out.box.c0 (i := 0) (v := .slice none 0 0) rfl rfl; have n0 := HX1.out.box.c1 (i := 0) (v := .slice none 0 0) rfl rfl; have y0 := HX1.out.box.c2 (i := 0) (v := .slice none 0 0) rfl rfl; have z1 := HX1.out.box.c0 (i := 1) (v := .int .i64 0) rfl rfl; have n1 := HX1.out.box.c1 (i := 1) (v := .int .i64 0) rfl rfl; have y1 := HX1.out.box.c2 (i := 1) (v := .int .i64 0) rfl rfl; have z2 := HX1.out.box.c0 (i := 2) (v := .slice none 0 0) rfl rfl; have n2 := HX1.out.box.c1 (i := 2) (v := .slice none 0 0) rfl rfl; have y2 := HX1.out.box.c2 (i := 2) (v := .slice none 0 0) rfl rfl; have z3 := HX1.out.box.c0 (i := 3) (v := .int .i64 0) rfl rfl; have n3 := HX1.out.box.c1 (i := 3) (v := .int .i64 0) rfl rfl; have y3 := HX1.out.box.c2 (i := 3) (v := .int .i64 0) rfl rfl; have z4 := HX1.out.box.c0 (i := 4) (v := .int .i64 0) rfl rfl; have n4 := HX1.out.box.c1 (i := 4) (v := .int .i64 0) rfl rfl; have y4 := HX1.out.box.c2 (i := 4) (v := .int .i64 0) rfl rfl; have z5 := HX1.out.box.c0 (i := 5) (v := .int .i64 0) rfl rfl; have n5 := HX1.out.box.c1 (i := 5) (v := .int .i64 0) rfl rfl; have y5 := HX1.out.box.c2 (i := 5) (v := .int .i64 0) rfl rfl; have z6 := HX1.out.box.c0 (i := 6) (v := .slice none 0 0) rfl rfl; have n6 := HX1.out.box.c1 (i := 6) (v := .slice none 0 0) rfl rfl; have y6 := HX1.out.box.c2 (i := 6) (v := .slice none 0 0) rfl rfl; have fz := HX1.out.box.f0 rfl; have fy := HX1.out.box.f2 rfl; have g1 := HC.out p1 f _ HF.out HX1.out.box.up; have g2 := HC.out (p1 + 1) g _ HG.out HX1.out.box.up)
    | (go_at_call 49; have _t := tO2; go_must (refine (rRo_any b (some ⟨bb, oo, none⟩) n c _ _ (HS.out _ ((HX1.out.s2_0 (.slice A1 row.length c1)).s2_1 (.int .i64 (f.toNat : Int))).box.up) hn).mono ?_); rw [show ((p1 : Int) + 2) = ((p1 + 2 : Nat) : Int) from by omega, H2.out]; rintro e x2 hp; obtain ⟨A2, c2, rfl, _, hO2, hb2⟩ := hp.at_ (n := qual.length) rfl rfl rfl; have HX2 := Lib.hid (((HX1.out.s2_0 (.slice A1 row.length c1)).s2_1 (.int .i64 (f.toNat : Int))).fresh hb2 hO2); clear hb2 hp hO2 tO2 g1 g2; clear z0 y0 n0 z1 y1 n1 z2 y2 n2 z3 y3 n3 z4 y4 n4 z5 y5 n5 z6 y6 n6 fz fy; have z0 := HX2.out.box.c0 (i := 0) (v := .slice none 0 0) rfl rfl; have n0 := HX2.out.box.c1 (i := 0) (v := .slice none 0 0) rfl rfl; have y0 := HX2.out.box.c2 (i := 0) (v := .slice A1 row.length c1) rfl rfl; have z1 := HX2.out.box.c0 (i := 1) (v := .int .i64 0) rfl rfl; have n1 := HX2.out.box.c1 (i := 1) (v := .int .i64 0) rfl rfl; have y1 := HX2.out.box.c2 (i := 1) (v := .int .i64 (f.toNat : Int)) rfl rfl; have z2 := HX2.out.box.c0 (i := 2) (v := .slice none 0 0) rfl rfl; have n2 := HX2.out.box.c1 (i := 2) (v := .slice none 0 0) rfl rfl; have y2 := HX2.out.box.c2 (i := 2) (v := .slice none 0 0) rfl rfl; have z3 := HX2.out.box.c0 (i := 3) (v := .int .i64 0) rfl rfl; have n3 := HX2.out.box.c1 (i := 3) (v := .int .i64 0) rfl rfl; have y3 := HX2.out.box.c2 (i := 3) (v := .int .i64 0) rfl rfl; have z4 := HX2.out.box.c0 (i := 4) (v := .int .i64 0) rfl rfl; have n4 := HX2.out.box.c1 (i := 4) (v := .int .i64 0) rfl rfl; have y4 := HX2.out.box.c2 (i := 4) (v := .int .i64 0) rfl rfl; have z5 := HX2.out.box.c0 (i := 5) (v := .int .i64 0) rfl rfl; have n5 := HX2.out.box.c1 (i := 5) (v := .int .i64 0) rfl rfl; have y5 := HX2.out.box.c2 (i := 5) (v := .int .i64 0) rfl rfl; have z6 := HX2.out.box.c0 (i := 6) (v := .slice none 0 0) rfl rfl; have n6 := HX2.out.box.c1 (i := 6) (v := .slice none 0 0) rfl rfl; have y6 := HX2.out.box.c2 (i := 6) (v := .slice none 0 0) rfl rfl; have fz := HX2.out.box.f0 rfl; have fy := HX2.out.box.f2 rfl))
  (try simp only [Exit.inBlock, Exit.then])
  have HR := Lib.hid (((HX2.out.s2_2 (.slice A2 qual.length c2)).fill7 rfl (.slice none 0 0) (.int .i64 0) (.slice none 0 0) (.int .i64 0) (.int .i64 0) (.int .i64 0) (.slice none 0 0)))
  refine bodyPost_ret (results_box1 rfl _ _ w.heap.size _ rfl (HR.out.box.cells0 rfl) (by kernel_rfl) (by kernel_rfl)) rfl ?_
  exact ent_none (mk := fun v => .tuple #[v, .int .i64 27]) HR.out.box.up

set_option maxRecDepth 100000 in
set_option maxHeartbeats 2000000 in
theorem rp_P_f3 (b : List UInt8) (A : Option Addr) (n c : Nat) (w : World) (row : List UInt8) (p1 : Nat) (f g : UInt8) (qual : List UInt8) (p2 : Nat) (t p3 er : Nat) (hs : Sl w A n c b) (hn : n ≤ 140737488355000) (h0 : readO b 0 = (row, p1, 0)) (hlen : p1 + 2 ≤ n) (hf : b[p1]? = some f) (hg : b[p1 + 1]? = some g) (hg0 : g.toNat ≠ 0) (h2 : readO b ((p1 + 2 : Nat) : Int) = (qual, p2, 0)) (hlen2 : p2 < n) (h3 : readFl b (((p2 + 1) : Nat) : Int) = (t, p3, er)) (he : er ≠ 0) :
    Calls Try.prog 16 #[.slice A n c] w (EntPost (fun v => .tuple #[v, .int .i64 27]) noEnt w) := by
  have HS : Hid (∀ x, Below w.heap.size w x → Sl x A n c b) := Lib.hid fun x h => hs.later h
  have HX0 := Lib.hid (Bt.of (T := 5) (Bxs.three w 27 #[.slice none 0 0, .int .i64 0, .slice none 0 0, .int .i64 0, .int .i64 0, .int .i64 0, .slice none 0 0] #[.slice none 0 0, .int .i64 0, .slice none 0 0, .int .i64 0, .int .i64 0, .int .i64 0, .slice none 0 0] #[.slice none 0 0, .int .i64 0, .slice none 0 0, .int .i64 0, .int .i64 0, .int .i64 0, .slice none 0 0]))
  have H0 := Lib.hid h0
  obtain ⟨bb, oo, _, rfl, hbb, _, _⟩ := hs.rb.at_ (k := p1) (by omega)
  have HC : Hid (∀ (j : Nat) (u : UInt8) x, b[j]? = some u → Below w.heap.size w x → x.cell? ⟨bb, oo + j, none⟩ = some (.int .u8 (u.toNat : Int))) := Lib.hid fun j u x hu hx => (hs.rb.later hx).cell hu
  have hbb0 : ¬ bb = w.heap.size := by omega
  have hbb1 : ¬ bb = w.heap.size + 1 := by omega
  have hbb2 : ¬ bb = w.heap.size + 1 + 1 := by omega
  have HF := Lib.hid hf
  have HG := Lib.hid hg
  have hgd : ((g.toNat : Int) != 0) = true := by rw [bne_iff_ne]; omega
  have H2 := Lib.hid h2
  have H3 := Lib.hid h3
  have hd : ((er : Int) != 0) = true := by rw [bne_iff_ne]; omega
  have q1 : (p1 : Int) < (n : Int) := by omega
  have q2 : (p1 : Int) + 1 < (n : Int) := by omega
  have q3 : decide ((n : Int) < (p1 : Int) + 2) = false := decide_eq_false (by omega)
  have q4 : (p2 : Int) < (n : Int) := by omega
  have q8 : wrap64 ((f.toNat : Nat) : Int) = (f.toNat : Int) := wrap64_id (by omega) (by have := f.toNat_lt; omega)
  have q9 : IntKind.i64.wrap ((f.toNat : Nat) : Int) = (f.toNat : Int) := i64_sum (by omega) (by have := f.toNat_lt; omega)
  have tO1 : True := trivial
  have tO2 : True := trivial
  have tF1 : True := trivial
  clear hs h0 hf hg hg0 h2 h3 he
  go_enter Try.func16, Try.ntmps16
  go_wp2_with (first
    | (go_at_call 49; have _t := tO1; go_must (refine (rRo_any b (some ⟨bb, oo, none⟩) n c 0 _ (HS.out _ HX0.out.box.up) hn).mono ?_); rw [H0.out]; rintro e x1 hp; obtain ⟨A1, c1, rfl, _, hO1, hb1⟩ := hp.at_ (n := row.length) rfl rfl rfl; have HX1 := Lib.hid (HX0.out.fresh hb1 hO1); clear hb1 hp hO1 tO1; have z0 := HX1.out.box.c0 (i := 0) (v := .slice none 0 0) rfl rfl; have n0 := HX1.out.box.c1 (i := 0) (v := .slice none 0 0) rfl rfl; have y0 := HX1.out.box.c2 (i := 0) (v := .slice none 0 0) rfl rfl; have z1 := HX1.out.box.c0 (i := 1) (v := .int .i64 0) rfl rfl; have n1 := HX1.out.box.c1 (i := 1) (v := .int .i64 0) rfl rfl; have y1 := HX1.out.box.c2 (i := 1) (v := .int .i64 0) rfl rfl; have z2 := HX1.out.box.c0 (i := 2) (v := .slice none 0 0) rfl rfl; have n2 := HX1.out.box.c1 (i := 2) (v := .slice none 0 0) rfl rfl; have y2 := HX1.out.box.c2 (i := 2) (v := .slice none 0 0) rfl rfl; have z3 := HX1.out.box.c0 (i := 3) (v := .int .i64 0) rfl rfl; have n3 := HX1.out.box.c1 (i := 3) (v := .int .i64 0) rfl rfl; have y3 := HX1.out.box.c2 (i := 3) (v := .int .i64 0) rfl rfl; have z4 := HX1.out.box.c0 (i := 4) (v := .int .i64 0) rfl rfl; have n4 := HX1.out.box.c1 (i := 4) (v := .int .i64 0) rfl rfl; have y4 := HX1.out.box.c2 (i := 4) (v := .int .i64 0) rfl rfl; have z5 := HX1.out.box.c0 (i := 5) (v := .int .i64 0) rfl rfl; have n5 := HX1.out.box.c1 (i := 5) (v := .int .i64 0) rfl rfl; have y5 := HX1.out.box.c2 (i := 5) (v := .int .i64 0) rfl rfl; have z6 := HX1.out.box.c0 (i := 6) (v := .slice none 0 0) rfl rfl; have n6 := HX1.out.box.c1 (i := 6) (v := .slice none 0 0) rfl rfl; have y6 := HX1.out.box.c2 (i := 6) (v := .slice none 0 0) rfl rfl; have fz := HX1.out.box.f0 rfl; have fy := HX1.out.box.f2 rfl; have g1 := HC.out p1 f _ HF.out HX1.out.box.up; have g2 := HC.out (p1 + 1) g _ HG.out HX1.out.box.up)
    | (go_at_call 49; have _t := tO2; go_must (refine (rRo_any b (some ⟨bb, oo, none⟩) n c _ _ (HS.out _ ((HX1.out.s2_0 (.slice A1 row.length c1)).s2_1 (.int .i64 (f.toNat : Int))).box.up) hn).mono ?_); rw [show ((p1 : Int) + 2) = ((p1 + 2 : Nat) : Int) from by omega, H2.out]; rintro e x2 hp; obtain ⟨A2, c2, rfl, _, hO2, hb2⟩ := hp.at_ (n := qual.length) rfl rfl rfl; have HX2 := Lib.hid (((HX1.out.s2_0 (.slice A1 row.length c1)).s2_1 (.int .i64 (f.toNat : Int))).fresh hb2 hO2); clear hb2 hp hO2 tO2 g1 g2; clear z0 y0 n0 z1 y1 n1 z2 y2 n2 z3 y3 n3 z4 y4 n4 z5 y5 n5 z6 y6 n6 fz fy; have z0 := HX2.out.box.c0 (i := 0) (v := .slice none 0 0) rfl rfl; have n0 := HX2.out.box.c1 (i := 0) (v := .slice none 0 0) rfl rfl; have y0 := HX2.out.box.c2 (i := 0) (v := .slice A1 row.length c1) rfl rfl; have z1 := HX2.out.box.c0 (i := 1) (v := .int .i64 0) rfl rfl; have n1 := HX2.out.box.c1 (i := 1) (v := .int .i64 0) rfl rfl; have y1 := HX2.out.box.c2 (i := 1) (v := .int .i64 (f.toNat : Int)) rfl rfl; have z2 := HX2.out.box.c0 (i := 2) (v := .slice none 0 0) rfl rfl; have n2 := HX2.out.box.c1 (i := 2) (v := .slice none 0 0) rfl rfl; have y2 := HX2.out.box.c2 (i := 2) (v := .slice none 0 0) rfl rfl; have z3 := HX2.out.box.c0 (i := 3) (v := .int .i64 0) rfl rfl; have n3 := HX2.out.box.c1 (i := 3) (v := .int .i64 0) rfl rfl; have y3 := HX2.out.box.c2 (i := 3) (v := .int .i64 0) rfl rfl; have z4 := HX2.out.box.c0 (i := 4) (v := .int .i64 0) rfl rfl; have n4 := HX2.out.box.c1 (i := 4) (v := .int .i64 0) rfl rfl; have y4 := HX2.out.box.c2 (i := 4) (v := .int .i64 0) rfl rfl; have z5 := HX2.out.box.c0 (i := 5) (v := .int .i64 0) rfl rfl; have n5 := HX2.out.box.c1 (i := 5) (v := .int .i64 0) rfl rfl; have y5 := HX2.out.box.c2 (i := 5) (v := .int .i64 0) rfl rfl; have z6 := HX2.out.box.c0 (i := 6) (v := .slice none 0 0) rfl rfl; have n6 := HX2.out.box.c1 (i := 6) (v := .slice none 0 0) rfl rfl; have y6 := HX2.out.box.c2 (i := 6) (v := .slice none 0 0) rfl rfl; have fz := HX2.out.box.f0 rfl; have fy := HX2.out.box.f2 rfl)
    | (go_at_call 50; have _t := tF1; go_must (refine (rRfl_any b (some ⟨bb, oo, none⟩) n c _ _ (HS.out _ (HX2.out.s2_2 (.slice A2 qual.length c2)).box.up) hn).mono ?_); rw [show ((p2 : Int) + 1) = ((p2 + 1 : Nat) : Int) from by omega, H3.out]; rintro e x3 ⟨rfl, rfl⟩; clear tF1))
  (try simp only [Exit.inBlock, Exit.then])
  have HR := Lib.hid ((((HX2.out.s2_2 (.slice A2 qual.length c2)).s2_3 (.int .i64 (t : Int))).fill7 rfl (.slice none 0 0) (.int .i64 0) (.slice none 0 0) (.int .i64 0) (.int .i64 0) (.int .i64 0) (.slice none 0 0)))
  refine bodyPost_ret (results_box1 rfl _ _ w.heap.size _ rfl (HR.out.box.cells0 rfl) (by kernel_rfl) (by kernel_rfl)) rfl ?_
  exact ent_none (mk := fun v => .tuple #[v, .int .i64 27]) HR.out.box.up

set_option maxRecDepth 100000 in
set_option maxHeartbeats 2000000 in
theorem rp_P_f4a (b : List UInt8) (A : Option Addr) (n c : Nat) (w : World) (row : List UInt8) (p1 : Nat) (f g : UInt8) (qual : List UInt8) (p2 : Nat) (t p3 : Nat) (s p4 er : Nat) (hs : Sl w A n c b) (hn : n ≤ 140737488355000) (h0 : readO b 0 = (row, p1, 0)) (hlen : p1 + 2 ≤ n) (hf : b[p1]? = some f) (hg : b[p1 + 1]? = some g) (hg0 : g.toNat ≠ 0) (h2 : readO b ((p1 + 2 : Nat) : Int) = (qual, p2, 0)) (hlen2 : p2 < n) (h3 : readFl b (((p2 + 1) : Nat) : Int) = (t, p3, 0)) (h4 : readFl b (p3 : Int) = (s, p4, er)) (he : er ≠ 0) :
    Calls Try.prog 16 #[.slice A n c] w (EntPost (fun v => .tuple #[v, .int .i64 27]) noEnt w) := by
  have HS : Hid (∀ x, Below w.heap.size w x → Sl x A n c b) := Lib.hid fun x h => hs.later h
  have HX0 := Lib.hid (Bt.of (T := 5) (Bxs.three w 27 #[.slice none 0 0, .int .i64 0, .slice none 0 0, .int .i64 0, .int .i64 0, .int .i64 0, .slice none 0 0] #[.slice none 0 0, .int .i64 0, .slice none 0 0, .int .i64 0, .int .i64 0, .int .i64 0, .slice none 0 0] #[.slice none 0 0, .int .i64 0, .slice none 0 0, .int .i64 0, .int .i64 0, .int .i64 0, .slice none 0 0]))
  have H0 := Lib.hid h0
  obtain ⟨bb, oo, _, rfl, hbb, _, _⟩ := hs.rb.at_ (k := p1) (by omega)
  have HC : Hid (∀ (j : Nat) (u : UInt8) x, b[j]? = some u → Below w.heap.size w x → x.cell? ⟨bb, oo + j, none⟩ = some (.int .u8 (u.toNat : Int))) := Lib.hid fun j u x hu hx => (hs.rb.later hx).cell hu
  have hbb0 : ¬ bb = w.heap.size := by omega
  have hbb1 : ¬ bb = w.heap.size + 1 := by omega
  have hbb2 : ¬ bb = w.heap.size + 1 + 1 := by omega
  have HF := Lib.hid hf
  have HG := Lib.hid hg
  have hgd : ((g.toNat : Int) != 0) = true := by rw [bne_iff_ne]; omega
  have H2 := Lib.hid h2
  have H3 := Lib.hid h3
  have H4 := Lib.hid h4
  have hd : ((er : Int) != 0) = true := by rw [bne_iff_ne]; omega
  have q1 : (p1 : Int) < (n : Int) := by omega
  have q2 : (p1 : Int) + 1 < (n : Int) := by omega
  have q3 : decide ((n : Int) < (p1 : Int) + 2) = false := decide_eq_false (by omega)
  have q4 : (p2 : Int) < (n : Int) := by omega
  have q8 : wrap64 ((f.toNat : Nat) : Int) = (f.toNat : Int) := wrap64_id (by omega) (by have := f.toNat_lt; omega)
  have q9 : IntKind.i64.wrap ((f.toNat : Nat) : Int) = (f.toNat : Int) := i64_sum (by omega) (by have := f.toNat_lt; omega)
  have tO1 : True := trivial
  have tO2 : True := trivial
  have tF1 : True := trivial
  clear hs h0 hf hg hg0 h2 h3 h4 he
  go_enter Try.func16, Try.ntmps16
  go_wp2_with (first
    | (go_at_call 49; have _t := tO1; go_must (refine (rRo_any b (some ⟨bb, oo, none⟩) n c 0 _ (HS.out _ HX0.out.box.up) hn).mono ?_); rw [H0.out]; rintro e x1 hp; obtain ⟨A1, c1, rfl, _, hO1, hb1⟩ := hp.at_ (n := row.length) rfl rfl rfl; have HX1 := Lib.hid (HX0.out.fresh hb1 hO1); clear hb1 hp hO1 tO1; have z0 := HX1.out.box.c0 (i := 0) (v := .slice none 0 0) rfl rfl; have n0 := HX1.out.box.c1 (i := 0) (v := .slice none 0 0) rfl rfl; have y0 := HX1.out.box.c2 (i := 0) (v := .slice none 0 0) rfl rfl; have z1 := HX1.out.box.c0 (i := 1) (v := .int .i64 0) rfl rfl; have n1 := HX1.out.box.c1 (i := 1) (v := .int .i64 0) rfl rfl; have y1 := HX1.out.box.c2 (i := 1) (v := .int .i64 0) rfl rfl; have z2 := HX1.out.box.c0 (i := 2) (v := .slice none 0 0) rfl rfl; have n2 := HX1.out.box.c1 (i := 2) (v := .slice none 0 0) rfl rfl; have y2 := HX1.out.box.c2 (i := 2) (v := .slice none 0 0) rfl rfl; have z3 := HX1.out.box.c0 (i := 3) (v := .int .i64 0) rfl rfl; have n3 := HX1.out.box.c1 (i := 3) (v := .int .i64 0) rfl rfl; have y3 := HX1.out.box.c2 (i := 3) (v := .int .i64 0) rfl rfl; have z4 := HX1.out.box.c0 (i := 4) (v := .int .i64 0) rfl rfl; have n4 := HX1.out.box.c1 (i := 4) (v := .int .i64 0) rfl rfl; have y4 := HX1.out.box.c2 (i := 4) (v := .int .i64 0) rfl rfl; have z5 := HX1.out.box.c0 (i := 5) (v := .int .i64 0) rfl rfl; have n5 := HX1.out.box.c1 (i := 5) (v := .int .i64 0) rfl rfl; have y5 := HX1.out.box.c2 (i := 5) (v := .int .i64 0) rfl rfl; have z6 := HX1.out.box.c0 (i := 6) (v := .slice none 0 0) rfl rfl; have n6 := HX1.out.box.c1 (i := 6) (v := .slice none 0 0) rfl rfl; have y6 := HX1.out.box.c2 (i := 6) (v := .slice none 0 0) rfl rfl; have fz := HX1.out.box.f0 rfl; have fy := HX1.out.box.f2 rfl; have g1 := HC.out p1 f _ HF.out HX1.out.box.up; have g2 := HC.out (p1 + 1) g _ HG.out HX1.out.box.up)
    | (go_at_call 49; have _t := tO2; go_must (refine (rRo_any b (some ⟨bb, oo, none⟩) n c _ _ (HS.out _ ((HX1.out.s2_0 (.slice A1 row.length c1)).s2_1 (.int .i64 (f.toNat : Int))).box.up) hn).mono ?_); rw [show ((p1 : Int) + 2) = ((p1 + 2 : Nat) : Int) from by omega, H2.out]; rintro e x2 hp; obtain ⟨A2, c2, rfl, _, hO2, hb2⟩ := hp.at_ (n := qual.length) rfl rfl rfl; have HX2 := Lib.hid (((HX1.out.s2_0 (.slice A1 row.length c1)).s2_1 (.int .i64 (f.toNat : Int))).fresh hb2 hO2); clear hb2 hp hO2 tO2 g1 g2; clear z0 y0 n0 z1 y1 n1 z2 y2 n2 z3 y3 n3 z4 y4 n4 z5 y5 n5 z6 y6 n6 fz fy; have z0 := HX2.out.box.c0 (i := 0) (v := .slice none 0 0) rfl rfl; have n0 := HX2.out.box.c1 (i := 0) (v := .slice none 0 0) rfl rfl; have y0 := HX2.out.box.c2 (i := 0) (v := .slice A1 row.length c1) rfl rfl; have z1 := HX2.out.box.c0 (i := 1) (v := .int .i64 0) rfl rfl; have n1 := HX2.out.box.c1 (i := 1) (v := .int .i64 0) rfl rfl; have y1 := HX2.out.box.c2 (i := 1) (v := .int .i64 (f.toNat : Int)) rfl rfl; have z2 := HX2.out.box.c0 (i := 2) (v := .slice none 0 0) rfl rfl; have n2 := HX2.out.box.c1 (i := 2) (v := .slice none 0 0) rfl rfl; have y2 := HX2.out.box.c2 (i := 2) (v := .slice none 0 0) rfl rfl; have z3 := HX2.out.box.c0 (i := 3) (v := .int .i64 0) rfl rfl; have n3 := HX2.out.box.c1 (i := 3) (v := .int .i64 0) rfl rfl; have y3 := HX2.out.box.c2 (i := 3) (v := .int .i64 0) rfl rfl; have z4 := HX2.out.box.c0 (i := 4) (v := .int .i64 0) rfl rfl; have n4 := HX2.out.box.c1 (i := 4) (v := .int .i64 0) rfl rfl; have y4 := HX2.out.box.c2 (i := 4) (v := .int .i64 0) rfl rfl; have z5 := HX2.out.box.c0 (i := 5) (v := .int .i64 0) rfl rfl; have n5 := HX2.out.box.c1 (i := 5) (v := .int .i64 0) rfl rfl; have y5 := HX2.out.box.c2 (i := 5) (v := .int .i64 0) rfl rfl; have z6 := HX2.out.box.c0 (i := 6) (v := .slice none 0 0) rfl rfl; have n6 := HX2.out.box.c1 (i := 6) (v := .slice none 0 0) rfl rfl; have y6 := HX2.out.box.c2 (i := 6) (v := .slice none 0 0) rfl rfl; have fz := HX2.out.box.f0 rfl; have fy := HX2.out.box.f2 rfl)
    | (go_at_call 50; have _t := tF1; go_must (refine (rRfl_any b (some ⟨bb, oo, none⟩) n c _ _ (HS.out _ (HX2.out.s2_2 (.slice A2 qual.length c2)).box.up) hn).mono ?_); rw [show ((p2 : Int) + 1) = ((p2 + 1 : Nat) : Int) from by omega, H3.out]; rintro e x3 ⟨rfl, rfl⟩; clear tF1)
    | (go_at_call 50; go_must (refine (rRfl_any b (some ⟨bb, oo, none⟩) n c _ _ (HS.out _ ((HX2.out.s2_2 (.slice A2 qual.length c2)).s2_3 (.int .i64 (t : Int))).box.up) hn).mono ?_); rw [H4.out]; rintro e x4 ⟨rfl, rfl⟩))
  (try simp only [Exit.inBlock, Exit.then])
  have HR := Lib.hid (((((HX2.out.s2_2 (.slice A2 qual.length c2)).s2_3 (.int .i64 (t : Int))).s2_4 (.int .i64 (s : Int))).fill7 rfl (.slice none 0 0) (.int .i64 0) (.slice none 0 0) (.int .i64 0) (.int .i64 0) (.int .i64 0) (.slice none 0 0)))
  refine bodyPost_ret (results_box1 rfl _ _ w.heap.size _ rfl (HR.out.box.cells0 rfl) (by kernel_rfl) (by kernel_rfl)) rfl ?_
  exact ent_none (mk := fun v => .tuple #[v, .int .i64 27]) HR.out.box.up

set_option maxRecDepth 100000 in
set_option maxHeartbeats 2000000 in
theorem rp_P_f4b (b : List UInt8) (A : Option Addr) (n c : Nat) (w : World) (row : List UInt8) (p1 : Nat) (f g : UInt8) (qual : List UInt8) (p2 : Nat) (t p3 : Nat) (s p4 : Nat) (hs : Sl w A n c b) (hn : n ≤ 140737488355000) (h0 : readO b 0 = (row, p1, 0)) (hlen : p1 + 2 ≤ n) (hf : b[p1]? = some f) (hg : b[p1 + 1]? = some g) (hg0 : g.toNat ≠ 0) (h2 : readO b ((p1 + 2 : Nat) : Int) = (qual, p2, 0)) (hlen2 : p2 < n) (h3 : readFl b (((p2 + 1) : Nat) : Int) = (t, p3, 0)) (h4 : readFl b (p3 : Int) = (s, p4, 0)) (hp4 : p4 ≤ n) (hsh : p4 + 1 ≠ n) :
    Calls Try.prog 16 #[.slice A n c] w (EntPost (fun v => .tuple #[v, .int .i64 27]) noEnt w) := by
  have HS : Hid (∀ x, Below w.heap.size w x → Sl x A n c b) := Lib.hid fun x h => hs.later h
  have HX0 := Lib.hid (Bt.of (T := 5) (Bxs.three w 27 #[.slice none 0 0, .int .i64 0, .slice none 0 0, .int .i64 0, .int .i64 0, .int .i64 0, .slice none 0 0] #[.slice none 0 0, .int .i64 0, .slice none 0 0, .int .i64 0, .int .i64 0, .int .i64 0, .slice none 0 0] #[.slice none 0 0, .int .i64 0, .slice none 0 0, .int .i64 0, .int .i64 0, .int .i64 0, .slice none 0 0]))
  have H0 := Lib.hid h0
  obtain ⟨bb, oo, _, rfl, hbb, _, _⟩ := hs.rb.at_ (k := p1) (by omega)
  have HC : Hid (∀ (j : Nat) (u : UInt8) x, b[j]? = some u → Below w.heap.size w x → x.cell? ⟨bb, oo + j, none⟩ = some (.int .u8 (u.toNat : Int))) := Lib.hid fun j u x hu hx => (hs.rb.later hx).cell hu
  have hbb0 : ¬ bb = w.heap.size := by omega
  have hbb1 : ¬ bb = w.heap.size + 1 := by omega
  have hbb2 : ¬ bb = w.heap.size + 1 + 1 := by omega
  have HF := Lib.hid hf
  have HG := Lib.hid hg
  have hgd : ((g.toNat : Int) != 0) = true := by rw [bne_iff_ne]; omega
  have H2 := Lib.hid h2
  have H3 := Lib.hid h3
  have H4 := Lib.hid h4
  have q1 : (p1 : Int) < (n : Int) := by omega
  have q2 : (p1 : Int) + 1 < (n : Int) := by omega
  have q3 : decide ((n : Int) < (p1 : Int) + 2) = false := decide_eq_false (by omega)
  have q4 : (p2 : Int) < (n : Int) := by omega
  have q8 : wrap64 ((f.toNat : Nat) : Int) = (f.toNat : Int) := wrap64_id (by omega) (by have := f.toNat_lt; omega)
  have q9 : IntKind.i64.wrap ((f.toNat : Nat) : Int) = (f.toNat : Int) := i64_sum (by omega) (by have := f.toNat_lt; omega)
  have q10 : ((p4 : Int) + 1 != (n : Int)) = true := by rw [bne_iff_ne]; omega
  have tO1 : True := trivial
  have tO2 : True := trivial
  have tF1 : True := trivial
  clear hs h0 hf hg hg0 h2 h3 h4
  go_enter Try.func16, Try.ntmps16
  go_wp2_with (first
    | (go_at_call 49; have _t := tO1; go_must (refine (rRo_any b (some ⟨bb, oo, none⟩) n c 0 _ (HS.out _ HX0.out.box.up) hn).mono ?_); rw [H0.out]; rintro e x1 hp; obtain ⟨A1, c1, rfl, _, hO1, hb1⟩ := hp.at_ (n := row.length) rfl rfl rfl; have HX1 := Lib.hid (HX0.out.fresh hb1 hO1); clear hb1 hp hO1 tO1; have z0 := HX1.out.box.c0 (i := 0) (v := .slice none 0 0) rfl rfl; have n0 := HX1.out.box.c1 (i := 0) (v := .slice none 0 0) rfl rfl; have y0 := HX1.out.box.c2 (i := 0) (v := .slice none 0 0) rfl rfl; have z1 := HX1.out.box.c0 (i := 1) (v := .int .i64 0) rfl rfl; have n1 := HX1.out.box.c1 (i := 1) (v := .int .i64 0) rfl rfl; have y1 := HX1.out.box.c2 (i := 1) (v := .int .i64 0) rfl rfl; have z2 := HX1.out.box.c0 (i := 2) (v := .slice none 0 0) rfl rfl; have n2 := HX1.out.box.c1 (i := 2) (v := .slice none 0 0) rfl rfl; have y2 := HX1.out.box.c2 (i := 2) (v := .slice none 0 0) rfl rfl; have z3 := HX1.out.box.c0 (i := 3) (v := .int .i64 0) rfl rfl; have n3 := HX1.out.box.c1 (i := 3) (v := .int .i64 0) rfl rfl; have y3 := HX1.out.box.c2 (i := 3) (v := .int .i64 0) rfl rfl; have z4 := HX1.out.box.c0 (i := 4) (v := .int .i64 0) rfl rfl; have n4 := HX1.out.box.c1 (i := 4) (v := .int .i64 0) rfl rfl; have y4 := HX1.out.box.c2 (i := 4) (v := .int .i64 0) rfl rfl; have z5 := HX1.out.box.c0 (i := 5) (v := .int .i64 0) rfl rfl; have n5 := HX1.out.box.c1 (i := 5) (v := .int .i64 0) rfl rfl; have y5 := HX1.out.box.c2 (i := 5) (v := .int .i64 0) rfl rfl; have z6 := HX1.out.box.c0 (i := 6) (v := .slice none 0 0) rfl rfl; have n6 := HX1.out.box.c1 (i := 6) (v := .slice none 0 0) rfl rfl; have y6 := HX1.out.box.c2 (i := 6) (v := .slice none 0 0) rfl rfl; have fz := HX1.out.box.f0 rfl; have fy := HX1.out.box.f2 rfl; have g1 := HC.out p1 f _ HF.out HX1.out.box.up; have g2 := HC.out (p1 + 1) g _ HG.out HX1.out.box.up)
    | (go_at_call 49; have _t := tO2; go_must (refine (rRo_any b (some ⟨bb, oo, none⟩) n c _ _ (HS.out _ ((HX1.out.s2_0 (.slice A1 row.length c1)).s2_1 (.int .i64 (f.toNat : Int))).box.up) hn).mono ?_); rw [show ((p1 : Int) + 2) = ((p1 + 2 : Nat) : Int) from by omega, H2.out]; rintro e x2 hp; obtain ⟨A2, c2, rfl, _, hO2, hb2⟩ := hp.at_ (n := qual.length) rfl rfl rfl; have HX2 := Lib.hid (((HX1.out.s2_0 (.slice A1 row.length c1)).s2_1 (.int .i64 (f.toNat : Int))).fresh hb2 hO2); clear hb2 hp hO2 tO2 g1 g2; clear z0 y0 n0 z1 y1 n1 z2 y2 n2 z3 y3 n3 z4 y4 n4 z5 y5 n5 z6 y6 n6 fz fy; have z0 := HX2.out.box.c0 (i := 0) (v := .slice none 0 0) rfl rfl; have n0 := HX2.out.box.c1 (i := 0) (v := .slice none 0 0) rfl rfl; have y0 := HX2.out.box.c2 (i := 0) (v := .slice A1 row.length c1) rfl rfl; have z1 := HX2.out.box.c0 (i := 1) (v := .int .i64 0) rfl rfl; have n1 := HX2.out.box.c1 (i := 1) (v := .int .i64 0) rfl rfl; have y1 := HX2.out.box.c2 (i := 1) (v := .int .i64 (f.toNat : Int)) rfl rfl; have z2 := HX2.out.box.c0 (i := 2) (v := .slice none 0 0) rfl rfl; have n2 := HX2.out.box.c1 (i := 2) (v := .slice none 0 0) rfl rfl; have y2 := HX2.out.box.c2 (i := 2) (v := .slice none 0 0) rfl rfl; have z3 := HX2.out.box.c0 (i := 3) (v := .int .i64 0) rfl rfl; have n3 := HX2.out.box.c1 (i := 3) (v := .int .i64 0) rfl rfl; have y3 := HX2.out.box.c2 (i := 3) (v := .int .i64 0) rfl rfl; have z4 := HX2.out.box.c0 (i := 4) (v := .int .i64 0) rfl rfl; have n4 := HX2.out.box.c1 (i := 4) (v := .int .i64 0) rfl rfl; have y4 := HX2.out.box.c2 (i := 4) (v := .int .i64 0) rfl rfl; have z5 := HX2.out.box.c0 (i := 5) (v := .int .i64 0) rfl rfl; have n5 := HX2.out.box.c1 (i := 5) (v := .int .i64 0) rfl rfl; have y5 := HX2.out.box.c2 (i := 5) (v := .int .i64 0) rfl rfl; have z6 := HX2.out.box.c0 (i := 6) (v := .slice none 0 0) rfl rfl; have n6 := HX2.out.box.c1 (i := 6) (v := .slice none 0 0) rfl rfl; have y6 := HX2.out.box.c2 (i := 6) (v := .slice none 0 0) rfl rfl; have fz := HX2.out.box.f0 rfl; have fy := HX2.out.box.f2 rfl)
    | (go_at_call 50; have _t := tF1; go_must (refine (rRfl_any b (some ⟨bb, oo, none⟩) n c _ _ (HS.out _ (HX2.out.s2_2 (.slice A2 qual.length c2)).box.up) hn).mono ?_); rw [show ((p2 : Int) + 1) = ((p2 + 1 : Nat) : Int) from by omega, H3.out]; rintro e x3 ⟨rfl, rfl⟩; clear tF1)
    | (go_at_call 50; go_must (refine (rRfl_any b (some ⟨bb, oo, none⟩) n c _ _ (HS.out _ ((HX2.out.s2_2 (.slice A2 qual.length c2)).s2_3 (.int .i64 (t : Int))).box.up) hn).mono ?_); rw [H4.out]; rintro e x4 ⟨rfl, rfl⟩))
  (try simp only [Exit.inBlock, Exit.then])
  have HR := Lib.hid (((((HX2.out.s2_2 (.slice A2 qual.length c2)).s2_3 (.int .i64 (t : Int))).s2_4 (.int .i64 (s : Int))).fill7 rfl (.slice none 0 0) (.int .i64 0) (.slice none 0 0) (.int .i64 0) (.int .i64 0) (.int .i64 0) (.slice none 0 0)))
  refine bodyPost_ret (results_box1 rfl _ _ w.heap.size _ rfl (HR.out.box.cells0 rfl) (by kernel_rfl) (by kernel_rfl)) rfl ?_
  exact ent_none (mk := fun v => .tuple #[v, .int .i64 27]) HR.out.box.up

set_option maxRecDepth 100000 in
set_option maxHeartbeats 2000000 in
theorem rp_P_okA (b : List UInt8) (A : Option Addr) (n c : Nat) (w : World) (row : List UInt8) (p1 : Nat) (f g : UInt8) (qual : List UInt8) (p2 : Nat) (t p3 : Nat) (s p4 : Nat) (k : UInt8) (K : List UInt8) (z : Int) (hs : Sl w A n c b) (hn : n ≤ 140737488355000) (h0 : readO b 0 = (row, p1, 0)) (hlen : p1 + 2 ≤ n) (hf : b[p1]? = some f) (hg : b[p1 + 1]? = some g) (hg0 : g.toNat ≠ 0) (h2 : readO b ((p1 + 2 : Nat) : Int) = (qual, p2, 0)) (hlen2 : p2 < n) (h3 : readFl b (((p2 + 1) : Nat) : Int) = (t, p3, 0)) (h4 : readFl b (p3 : Int) = (s, p4, 0)) (hlen4 : p4 + 1 = n) (hk : b[p4]? = some k) (hz : z ≠ 0) (hke : KeyE ⟨row, (f.toNat : Int), qual, (t : Int), (s : Int), (k.toNat : Int), []⟩ = (K, z)) :
    Calls Try.prog 16 #[.slice A n c] w (EntPost (fun v => .tuple #[v, .int .i64 27]) noEnt w) := by
  have HS : Hid (∀ x, Below w.heap.size w x → Sl x A n c b) := Lib.hid fun x h => hs.later h
  have HX0 := Lib.hid (Bt.of (T := 5) (Bxs.three w 27 #[.slice none 0 0, .int .i64 0, .slice none 0 0, .int .i64 0, .int .i64 0, .int .i64 0, .slice none 0 0] #[.slice none 0 0, .int .i64 0, .slice none 0 0, .int .i64 0, .int .i64 0, .int .i64 0, .slice none 0 0] #[.slice none 0 0, .int .i64 0, .slice none 0 0, .int .i64 0, .int .i64 0, .int .i64 0, .slice none 0 0]))
  have H0 := Lib.hid h0
  obtain ⟨bb, oo, _, rfl, hbb, _, _⟩ := hs.rb.at_ (k := p1) (by omega)
  have HC : Hid (∀ (j : Nat) (u : UInt8) x, b[j]? = some u → Below w.heap.size w x → x.cell? ⟨bb, oo + j, none⟩ = some (.int .u8 (u.toNat : Int))) := Lib.hid fun j u x hu hx => (hs.rb.later hx).cell hu
  have hbb0 : ¬ bb = w.heap.size := by omega
  have hbb1 : ¬ bb = w.heap.size + 1 := by omega
  have hbb2 : ¬ bb = w.heap.size + 1 + 1 := by omega
  have HF := Lib.hid hf
  have HG := Lib.hid hg
  have hgd : ((g.toNat : Int) != 0) = true := by rw [bne_iff_ne]; omega
  have H2 := Lib.hid h2
  have H3 := Lib.hid h3
  have H4 := Lib.hid h4
  have HK := Lib.hid hk
  have HKE := Lib.hid hke
  have hd : (z != 0) = true := by rw [bne_iff_ne]; exact hz
  have q1 : (p1 : Int) < (n : Int) := by omega
  have q2 : (p1 : Int) + 1 < (n : Int) := by omega
  have q3 : decide ((n : Int) < (p1 : Int) + 2) = false := decide_eq_false (by omega)
  have q4 : (p2 : Int) < (n : Int) := by omega
  have q8 : wrap64 ((f.toNat : Nat) : Int) = (f.toNat : Int) := wrap64_id (by omega) (by have := f.toNat_lt; omega)
  have q9 : IntKind.i64.wrap ((f.toNat : Nat) : Int) = (f.toNat : Int) := i64_sum (by omega) (by have := f.toNat_lt; omega)
  have q10 : ((p4 : Int) + 1 != (n : Int)) = false := by rw [bne_eq_false_iff_eq]; omega
  have q5 : (p4 : Int) < (n : Int) := by omega
  have q6 : wrap64 ((k.toNat : Nat) : Int) = (k.toNat : Int) := wrap64_id (by omega) (by have := k.toNat_lt; omega)
  have q7 : IntKind.i64.wrap ((k.toNat : Nat) : Int) = (k.toNat : Int) := i64_sum (by omega) (by have := k.toNat_lt; omega)
  have tO1 : True := trivial
  have tO2 : True := trivial
  have tF1 : True := trivial
  clear hs h0 hf hg hg0 h2 h3 h4 hk hke hz
  go_enter Try.func16, Try.ntmps16
  go_wp2_with (first
    | (go_at_call 49; have _t := tO1; go_must (refine (rRo_any b (some ⟨bb, oo, none⟩) n c 0 _ (HS.out _ HX0.out.box.up) hn).mono ?_); rw [H0.out]; rintro e x1 hp; obtain ⟨A1, c1, rfl, _, hO1, hb1⟩ := hp.at_ (n := row.length) rfl rfl rfl; have HX1 := Lib.hid (HX0.out.fresh hb1 hO1); clear hb1 hp hO1 tO1; have z0 := HX1.out.box.c0 (i := 0) (v := .slice none 0 0) rfl rfl; have n0 := HX1.out.box.c1 (i := 0) (v := .slice none 0 0) rfl rfl; have y0 := HX1.out.box.c2 (i := 0) (v := .slice none 0 0) rfl rfl; have z1 := HX1.out.box.c0 (i := 1) (v := .int .i64 0) rfl rfl; have n1 := HX1.out.box.c1 (i := 1) (v := .int .i64 0) rfl rfl; have y1 := HX1.out.box.c2 (i := 1) (v := .int .i64 0) rfl rfl; have z2 := HX1.out.box.c0 (i := 2) (v := .slice none 0 0) rfl rfl; have n2 := HX1.out.box.c1 (i := 2) (v := .slice none 0 0) rfl rfl; have y2 := HX1.out.box.c2 (i := 2) (v := .slice none 0 0) rfl rfl; have z3 := HX1.out.box.c0 (i := 3) (v := .int .i64 0) rfl rfl; have n3 := HX1.out.box.c1 (i := 3) (v := .int .i64 0) rfl rfl; have y3 := HX1.out.box.c2 (i := 3) (v := .int .i64 0) rfl rfl; have z4 := HX1.out.box.c0 (i := 4) (v := .int .i64 0) rfl rfl; have n4 := HX1.out.box.c1 (i := 4) (v := .int .i64 0) rfl rfl; have y4 := HX1.out.box.c2 (i := 4) (v := .int .i64 0) rfl rfl; have z5 := HX1.out.box.c0 (i := 5) (v := .int .i64 0) rfl rfl; have n5 := HX1.out.box.c1 (i := 5) (v := .int .i64 0) rfl rfl; have y5 := HX1.out.box.c2 (i := 5) (v := .int .i64 0) rfl rfl; have z6 := HX1.out.box.c0 (i := 6) (v := .slice none 0 0) rfl rfl; have n6 := HX1.out.box.c1 (i := 6) (v := .slice none 0 0) rfl rfl; have y6 := HX1.out.box.c2 (i := 6) (v := .slice none 0 0) rfl rfl; have fz := HX1.out.box.f0 rfl; have fy := HX1.out.box.f2 rfl; have g1 := HC.out p1 f _ HF.out HX1.out.box.up; have g2 := HC.out (p1 + 1) g _ HG.out HX1.out.box.up; have g3 := HC.out p4 k _ HK.out HX1.out.box.up)
    | (go_at_call 49; have _t := tO2; go_must (refine (rRo_any b (some ⟨bb, oo, none⟩) n c _ _ (HS.out _ ((HX1.out.s2_0 (.slice A1 row.length c1)).s2_1 (.int .i64 (f.toNat : Int))).box.up) hn).mono ?_); rw [show ((p1 : Int) + 2) = ((p1 + 2 : Nat) : Int) from by omega, H2.out]; rintro e x2 hp; obtain ⟨A2, c2, rfl, _, hO2, hb2⟩ := hp.at_ (n := qual.length) rfl rfl rfl; have HX2 := Lib.hid (((HX1.out.s2_0 (.slice A1 row.length c1)).s2_1 (.int .i64 (f.toNat : Int))).fresh hb2 hO2); clear hb2 hp hO2 tO2 g1 g2 g3; clear z0 y0 n0 z1 y1 n1 z2 y2 n2 z3 y3 n3 z4 y4 n4 z5 y5 n5 z6 y6 n6 fz fy; have z0 := HX2.out.box.c0 (i := 0) (v := .slice none 0 0) rfl rfl; have n0 := HX2.out.box.c1 (i := 0) (v := .slice none 0 0) rfl rfl; have y0 := HX2.out.box.c2 (i := 0) (v := .slice A1 row.length c1) rfl rfl; have z1 := HX2.out.box.c0 (i := 1) (v := .int .i64 0) rfl rfl; have n1 := HX2.out.box.c1 (i := 1) (v := .int .i64 0) rfl rfl; have y1 := HX2.out.box.c2 (i := 1) (v := .int .i64 (f.toNat : Int)) rfl rfl; have z2 := HX2.out.box.c0 (i := 2) (v := .slice none 0 0) rfl rfl; have n2 := HX2.out.box.c1 (i := 2) (v := .slice none 0 0) rfl rfl; have y2 := HX2.out.box.c2 (i := 2) (v := .slice none 0 0) rfl rfl; have z3 := HX2.out.box.c0 (i := 3) (v := .int .i64 0) rfl rfl; have n3 := HX2.out.box.c1 (i := 3) (v := .int .i64 0) rfl rfl; have y3 := HX2.out.box.c2 (i := 3) (v := .int .i64 0) rfl rfl; have z4 := HX2.out.box.c0 (i := 4) (v := .int .i64 0) rfl rfl; have n4 := HX2.out.box.c1 (i := 4) (v := .int .i64 0) rfl rfl; have y4 := HX2.out.box.c2 (i := 4) (v := .int .i64 0) rfl rfl; have z5 := HX2.out.box.c0 (i := 5) (v := .int .i64 0) rfl rfl; have n5 := HX2.out.box.c1 (i := 5) (v := .int .i64 0) rfl rfl; have y5 := HX2.out.box.c2 (i := 5) (v := .int .i64 0) rfl rfl; have z6 := HX2.out.box.c0 (i := 6) (v := .slice none 0 0) rfl rfl; have n6 := HX2.out.box.c1 (i := 6) (v := .slice none 0 0) rfl rfl; have y6 := HX2.out.box.c2 (i := 6) (v := .slice none 0 0) rfl rfl; have fz := HX2.out.box.f0 rfl; have fy := HX2.out.box.f2 rfl; have g3 := HC.out p4 k _ HK.out HX2.out.box.up)
    | (go_at_call 50; have _t := tF1; go_must (refine (rRfl_any b (some ⟨bb, oo, none⟩) n c _ _ (HS.out _ (HX2.out.s2_2 (.slice A2 qual.length c2)).box.up) hn).mono ?_); rw [show ((p2 : Int) + 1) = ((p2 + 1 : Nat) : Int) from by omega, H3.out]; rintro e x3 ⟨rfl, rfl⟩; clear tF1)
    | (go_at_call 50; go_must (refine (rRfl_any b (some ⟨bb, oo, none⟩) n c _ _ (HS.out _ ((HX2.out.s2_2 (.slice A2 qual.length c2)).s2_3 (.int .i64 (t : Int))).box.up) hn).mono ?_); rw [H4.out]; rintro e x4 ⟨rfl, rfl⟩)
    | (go_at_call 34; go_must (refine (rKey_any ⟨row, (f.toNat : Int), qual, (t : Int), (s : Int), (k.toNat : Int), []⟩ A1 row.length c1 A2 qual.length c2 none 0 0 _ ⟨((((HX2.out.s2_2 (.slice A2 qual.length c2)).s2_3 (.int .i64 (t : Int))).s2_4 (.int .i64 (s : Int))).s2_5 (.int .i64 (k.toNat : Int))).rows.sl (i := 0) rfl, (((((HX2.out.s2_2 (.slice A2 qual.length c2)).s2_3 (.int .i64 (t : Int))).s2_4 (.int .i64 (s : Int))).s2_5 (.int .i64 (k.toNat : Int))).rows.sl (i := 1) rfl), Sl.none _⟩).mono ?_); rw [HKE.out]; rintro e x5 hp; obtain ⟨A5, c5, rfl, hS5, hO5, hb5⟩ := hp.at_ (n := K.length) rfl rfl; have HX5 := Lib.hid (((((HX2.out.s2_2 (.slice A2 qual.length c2)).s2_3 (.int .i64 (t : Int))).s2_4 (.int .i64 (s : Int))).s2_5 (.int .i64 (k.toNat : Int))).fresh hb5 hO5); have HS5 := Lib.hid hS5; clear hb5 hp hO5 hS5 g3; clear z0 y0 n0 z1 y1 n1 z2 y2 n2 z3 y3 n3 z4 y4 n4 z5 y5 n5 z6 y6 n6 fz fy; have z0 := HX5.out.box.c0 (i := 0) (v := .slice none 0 0) rfl rfl; have n0 := HX5.out.box.c1 (i := 0) (v := .slice none 0 0) rfl rfl; have y0 := HX5.out.box.c2 (i := 0) (v := .slice A1 row.length c1) rfl rfl; have z1 := HX5.out.box.c0 (i := 1) (v := .int .i64 0) rfl rfl; have n1 := HX5.out.box.c1 (i := 1) (v := .int .i64 0) rfl rfl; have y1 := HX5.out.box.c2 (i := 1) (v := .int .i64 (f.toNat : Int)) rfl rfl; have z2 := HX5.out.box.c0 (i := 2) (v := .slice none 0 0) rfl rfl; have n2 := HX5.out.box.c1 (i := 2) (v := .slice none 0 0) rfl rfl; have y2 := HX5.out.box.c2 (i := 2) (v := .slice A2 qual.length c2) rfl rfl; have z3 := HX5.out.box.c0 (i := 3) (v := .int .i64 0) rfl rfl; have n3 := HX5.out.box.c1 (i := 3) (v := .int .i64 0) rfl rfl; have y3 := HX5.out.box.c2 (i := 3) (v := .int .i64 (t : Int)) rfl rfl; have z4 := HX5.out.box.c0 (i := 4) (v := .int .i64 0) rfl rfl; have n4 := HX5.out.box.c1 (i := 4) (v := .int .i64 0) rfl rfl; have y4 := HX5.out.box.c2 (i := 4) (v := .int .i64 (s : Int)) rfl rfl; have z5 := HX5.out.box.c0 (i := 5) (v := .int .i64 0) rfl rfl; have n5 := HX5.out.box.c1 (i := 5) (v := .int .i64 0) rfl rfl; have y5 := HX5.out.box.c2 (i := 5) (v := .int .i64 (k.toNat : Int)) rfl rfl; have z6 := HX5.out.box.c0 (i := 6) (v := .slice none 0 0) rfl rfl; have n6 := HX5.out.box.c1 (i := 6) (v := .slice none 0 0) rfl rfl; have y6 := HX5.out.box.c2 (i := 6) (v := .slice none 0 0) rfl rfl; have fz := HX5.out.box.f0 rfl; have fy := HX5.out.box.f2 rfl))
  (try simp only [Exit.inBlock, Exit.then])
  have HR := Lib.hid ((HX5.out.fill7 rfl (.slice none 0 0) (.int .i64 0) (.slice none 0 0) (.int .i64 0) (.int .i64 0) (.int .i64 0) (.slice none 0 0)))
  refine bodyPost_ret (results_box1 rfl _ _ w.heap.size _ rfl (HR.out.box.cells0 rfl) (by kernel_rfl) (by kernel_rfl)) rfl ?_
  exact ent_none (mk := fun v => .tuple #[v, .int .i64 27]) HR.out.box.up

set_option maxRecDepth 100000 in
set_option maxHeartbeats 2000000 in
theorem rp_P_okB (b : List UInt8) (A : Option Addr) (n c : Nat) (w : World) (row : List UInt8) (p1 : Nat) (f g : UInt8) (qual : List UInt8) (p2 : Nat) (t p3 : Nat) (s p4 : Nat) (k : UInt8) (K : List UInt8) (hs : Sl w A n c b) (hn : n ≤ 140737488355000) (h0 : readO b 0 = (row, p1, 0)) (hlen : p1 + 2 ≤ n) (hf : b[p1]? = some f) (hg : b[p1 + 1]? = some g) (hg0 : g.toNat ≠ 0) (h2 : readO b ((p1 + 2 : Nat) : Int) = (qual, p2, 0)) (hlen2 : p2 < n) (h3 : readFl b (((p2 + 1) : Nat) : Int) = (t, p3, 0)) (h4 : readFl b (p3 : Int) = (s, p4, 0)) (hlen4 : p4 + 1 = n) (hk : b[p4]? = some k) (hke : KeyE ⟨row, (f.toNat : Int), qual, (t : Int), (s : Int), (k.toNat : Int), []⟩ = (K, 0)) (hkb : (K == b) = false) :
    Calls Try.prog 16 #[.slice A n c] w (EntPost (fun v => .tuple #[v, .int .i64 27]) noEnt w) := by
  have HS : Hid (∀ x, Below w.heap.size w x → Sl x A n c b) := Lib.hid fun x h => hs.later h
  have HX0 := Lib.hid (Bt.of (T := 5) (Bxs.three w 27 #[.slice none 0 0, .int .i64 0, .slice none 0 0, .int .i64 0, .int .i64 0, .int .i64 0, .slice none 0 0] #[.slice none 0 0, .int .i64 0, .slice none 0 0, .int .i64 0, .int .i64 0, .int .i64 0, .slice none 0 0] #[.slice none 0 0, .int .i64 0, .slice none 0 0, .int .i64 0, .int .i64 0, .int .i64 0, .slice none 0 0]))
  have H0 := Lib.hid h0
  obtain ⟨bb, oo, _, rfl, hbb, _, _⟩ := hs.rb.at_ (k := p1) (by omega)
  have HC : Hid (∀ (j : Nat) (u : UInt8) x, b[j]? = some u → Below w.heap.size w x → x.cell? ⟨bb, oo + j, none⟩ = some (.int .u8 (u.toNat : Int))) := Lib.hid fun j u x hu hx => (hs.rb.later hx).cell hu
  have hbb0 : ¬ bb = w.heap.size := by omega
  have hbb1 : ¬ bb = w.heap.size + 1 := by omega
  have hbb2 : ¬ bb = w.heap.size + 1 + 1 := by omega
  have HF := Lib.hid hf
  have HG := Lib.hid hg
  have hgd : ((g.toNat : Int) != 0) = true := by rw [bne_iff_ne]; omega
  have H2 := Lib.hid h2
  have H3 := Lib.hid h3
  have H4 := Lib.hid h4
  have HK := Lib.hid hk
  have HKE := Lib.hid hke
  have HKB := Lib.hid hkb
  have q1 : (p1 : Int) < (n : Int) := by omega
  have q2 : (p1 : Int) + 1 < (n : Int) := by omega
  have q3 : decide ((n : Int) < (p1 : Int) + 2) = false := decide_eq_false (by omega)
  have q4 : (p2 : Int) < (n : Int) := by omega
  have q8 : wrap64 ((f.toNat : Nat) : Int) = (f.toNat : Int) := wrap64_id (by omega) (by have := f.toNat_lt; omega)
  have q9 : IntKind.i64.wrap ((f.toNat : Nat) : Int) = (f.toNat : Int) := i64_sum (by omega) (by have := f.toNat_lt; omega)
  have q10 : ((p4 : Int) + 1 != (n : Int)) = false := by rw [bne_eq_false_iff_eq]; omega
  have q5 : (p4 : Int) < (n : Int) := by omega
  have q6 : wrap64 ((k.toNat : Nat) : Int) = (k.toNat : Int) := wrap64_id (by omega) (by have := k.toNat_lt; omega)
  have q7 : IntKind.i64.wrap ((k.toNat : Nat) : Int) = (k.toNat : Int) := i64_sum (by omega) (by have := k.toNat_lt; omega)
  have tO1 : True := trivial
  have tO2 : True := trivial
  have tF1 : True := trivial
  clear hs h0 hf hg hg0 h2 h3 h4 hk hke hkb
  go_enter Try.func16, Try.ntmps16
  go_wp2_with (first
    | (go_at_call 49; have _t := tO1; go_must (refine (rRo_any b (some ⟨bb, oo, none⟩) n c 0 _ (HS.out _ HX0.out.box.up) hn).mono ?_); rw [H0.out]; rintro e x1 hp; obtain ⟨A1, c1, rfl, _, hO1, hb1⟩ := hp.at_ (n := row.length) rfl rfl rfl; have HX1 := Lib.hid (HX0.out.fresh hb1 hO1); clear hb1 hp hO1 tO1; have z0 := HX1.out.box.c0 (i := 0) (v := .slice none 0 0) rfl rfl; have n0 := HX1.out.box.c1 (i := 0) (v := .slice none 0 0) rfl rfl; have y0 := HX1.out.box.c2 (i := 0) (v := .slice none 0 0) rfl rfl; have z1 := HX1.out.box.c0 (i := 1) (v := .int .i64 0) rfl rfl; have n1 := HX1.out.box.c1 (i := 1) (v := .int .i64 0) rfl rfl; have y1 := HX1.out.box.c2 (i := 1) (v := .int .i64 0) rfl rfl; have z2 := HX1.out.box.c0 (i := 2) (v := .slice none 0 0) rfl rfl; have n2 := HX1.out.box.c1 (i := 2) (v := .slice none 0 0) rfl rfl; have y2 := HX1.out.box.c2 (i := 2) (v := .slice none 0 0) rfl rfl; have z3 := HX1.out.box.c0 (i := 3) (v := .int .i64 0) rfl rfl; have n3 := HX1.out.box.c1 (i := 3) (v := .int .i64 0) rfl rfl; have y3 := HX1.out.box.c2 (i := 3) (v := .int .i64 0) rfl rfl; have z4 := HX1.out.box.c0 (i := 4) (v := .int .i64 0) rfl rfl; have n4 := HX1.out.box.c1 (i := 4) (v := .int .i64 0) rfl rfl; have y4 := HX1.out.box.c2 (i := 4) (v := .int .i64 0) rfl rfl; have z5 := HX1.out.box.c0 (i := 5) (v := .int .i64 0) rfl rfl; have n5 := HX1.out.box.c1 (i := 5) (v := .int .i64 0) rfl rfl; have y5 := HX1.out.box.c2 (i := 5) (v := .int .i64 0) rfl rfl; have z6 := HX1.out.box.c0 (i := 6) (v := .slice none 0 0) rfl rfl; have n6 := HX1.out.box.c1 (i := 6) (v := .slice none 0 0) rfl rfl; have y6 := HX1.out.box.c2 (i := 6) (v := .slice none 0 0) rfl rfl; have fz := HX1.out.box.f0 rfl; have fy := HX1.out.box.f2 rfl; have g1 := HC.out p1 f _ HF.out HX1.out.box.up; have g2 := HC.out (p1 + 1) g _ HG.out HX1.out.box.up; have g3 := HC.out p4 k _ HK.out HX1.out.box.up)
    | (go_at_call 49; have _t := tO2; go_must (refine (rRo_any b (some ⟨bb, oo, none⟩) n c _ _ (HS.out _ ((HX1.out.s2_0 (.slice A1 row.length c1)).s2_1 (.int .i64 (f.toNat : Int))).box.up) hn).mono ?_); rw [show ((p1 : Int) + 2) = ((p1 + 2 : Nat) : Int) from by omega, H2.out]; rintro e x2 hp; obtain ⟨A2, c2, rfl, _, hO2, hb2⟩ := hp.at_ (n := qual.length) rfl rfl rfl; have HX2 := Lib.hid (((HX1.out.s2_0 (.slice A1 row.length c1)).s2_1 (.int .i64 (f.toNat : Int))).fresh hb2 hO2); clear hb2 hp hO2 tO2 g1 g2 g3; clear z0 y0 n0 z1 y1 n1 z2 y2 n2 z3 y3 n3 z4 y4 n4 z5 y5 n5 z6 y6 n6 fz fy; have z0 := HX2.out.box.c0 (i := 0) (v := .slice none 0 0) rfl rfl; have n0 := HX2.out.box.c1 (i := 0) (v := .slice none 0 0) rfl rfl; have y0 := HX2.out.box.c2 (i := 0) (v := .slice A1 row.length c1) rfl rfl; have z1 := HX2.out.box.c0 (i := 1) (v := .int .i64 0) rfl rfl; have n1 := HX2.out.box.c1 (i := 1) (v := .int .i64 0) rfl rfl; have y1 := HX2.out.box.c2 (i := 1) (v := .int .i64 (f.toNat : Int)) rfl rfl; have z2 := HX2.out.box.c0 (i := 2) (v := .slice none 0 0) rfl rfl; have n2 := HX2.out.box.c1 (i := 2) (v := .slice none 0 0) rfl rfl; have y2 := HX2.out.box.c2 (i := 2) (v := .slice none 0 0) rfl rfl; have z3 := HX2.out.box.c0 (i := 3) (v := .int .i64 0) rfl rfl; have n3 := HX2.out.box.c1 (i := 3) (v := .int .i64 0) rfl rfl; have y3 := HX2.out.box.c2 (i := 3) (v := .int .i64 0) rfl rfl; have z4 := HX2.out.box.c0 (i := 4) (v := .int .i64 0) rfl rfl; have n4 := HX2.out.box.c1 (i := 4) (v := .int .i64 0) rfl rfl; have y4 := HX2.out.box.c2 (i := 4) (v := .int .i64 0) rfl rfl; have z5 := HX2.out.box.c0 (i := 5) (v := .int .i64 0) rfl rfl; have n5 := HX2.out.box.c1 (i := 5) (v := .int .i64 0) rfl rfl; have y5 := HX2.out.box.c2 (i := 5) (v := .int .i64 0) rfl rfl; have z6 := HX2.out.box.c0 (i := 6) (v := .slice none 0 0) rfl rfl; have n6 := HX2.out.box.c1 (i := 6) (v := .slice none 0 0) rfl rfl; have y6 := HX2.out.box.c2 (i := 6) (v := .slice none 0 0) rfl rfl; have fz := HX2.out.box.f0 rfl; have fy := HX2.out.box.f2 rfl; have g3 := HC.out p4 k _ HK.out HX2.out.box.up)
    | (go_at_call 50; have _t := tF1; go_must (refine (rRfl_any b (some ⟨bb, oo, none⟩) n c _ _ (HS.out _ (HX2.out.s2_2 (.slice A2 qual.length c2)).box.up) hn).mono ?_); rw [show ((p2 : Int) + 1) = ((p2 + 1 : Nat) : Int) from by omega, H3.out]; rintro e x3 ⟨rfl, rfl⟩; clear tF1)
    | (go_at_call 50; go_must (refine (rRfl_any b (some ⟨bb, oo, none⟩) n c _ _ (HS.out _ ((HX2.out.s2_2 (.slice A2 qual.length c2)).s2_3 (.int .i64 (t : Int))).box.up) hn).mono ?_); rw [H4.out]; rintro e x4 ⟨rfl, rfl⟩)
    | (go_at_call 34; go_must (refine (rKey_any ⟨row, (f.toNat : Int), qual, (t : Int), (s : Int), (k.toNat : Int), []⟩ A1 row.length c1 A2 qual.length c2 none 0 0 _ ⟨((((HX2.out.s2_2 (.slice A2 qual.length c2)).s2_3 (.int .i64 (t : Int))).s2_4 (.int .i64 (s : Int))).s2_5 (.int .i64 (k.toNat : Int))).rows.sl (i := 0) rfl, (((((HX2.out.s2_2 (.slice A2 qual.length c2)).s2_3 (.int .i64 (t : Int))).s2_4 (.int .i64 (s : Int))).s2_5 (.int .i64 (k.toNat : Int))).rows.sl (i := 1) rfl), Sl.none _⟩).mono ?_); rw [HKE.out]; rintro e x5 hp; obtain ⟨A5, c5, rfl, hS5, hO5, hb5⟩ := hp.at_ (n := K.length) rfl rfl; have HX5 := Lib.hid (((((HX2.out.s2_2 (.slice A2 qual.length c2)).s2_3 (.int .i64 (t : Int))).s2_4 (.int .i64 (s : Int))).s2_5 (.int .i64 (k.toNat : Int))).fresh hb5 hO5); have HS5 := Lib.hid hS5; clear hb5 hp hO5 hS5 g3; clear z0 y0 n0 z1 y1 n1 z2 y2 n2 z3 y3 n3 z4 y4 n4 z5 y5 n5 z6 y6 n6 fz fy; have z0 := HX5.out.box.c0 (i := 0) (v := .slice none 0 0) rfl rfl; have n0 := HX5.out.box.c1 (i := 0) (v := .slice none 0 0) rfl rfl; have y0 := HX5.out.box.c2 (i := 0) (v := .slice A1 row.length c1) rfl rfl; have z1 := HX5.out.box.c0 (i := 1) (v := .int .i64 0) rfl rfl; have n1 := HX5.out.box.c1 (i := 1) (v := .int .i64 0) rfl rfl; have y1 := HX5.out.box.c2 (i := 1) (v := .int .i64 (f.toNat : Int)) rfl rfl; have z2 := HX5.out.box.c0 (i := 2) (v := .slice none 0 0) rfl rfl; have n2 := HX5.out.box.c1 (i := 2) (v := .slice none 0 0) rfl rfl; have y2 := HX5.out.box.c2 (i := 2) (v := .slice A2 qual.length c2) rfl rfl; have z3 := HX5.out.box.c0 (i := 3) (v := .int .i64 0) rfl rfl; have n3 := HX5.out.box.c1 (i := 3) (v := .int .i64 0) rfl rfl; have y3 := HX5.out.box.c2 (i := 3) (v := .int .i64 (t : Int)) rfl rfl; have z4 := HX5.out.box.c0 (i := 4) (v := .int .i64 0) rfl rfl; have n4 := HX5.out.box.c1 (i := 4) (v := .int .i64 0) rfl rfl; have y4 := HX5.out.box.c2 (i := 4) (v := .int .i64 (s : Int)) rfl rfl; have z5 := HX5.out.box.c0 (i := 5) (v := .int .i64 0) rfl rfl; have n5 := HX5.out.box.c1 (i := 5) (v := .int .i64 0) rfl rfl; have y5 := HX5.out.box.c2 (i := 5) (v := .int .i64 (k.toNat : Int)) rfl rfl; have z6 := HX5.out.box.c0 (i := 6) (v := .slice none 0 0) rfl rfl; have n6 := HX5.out.box.c1 (i := 6) (v := .slice none 0 0) rfl rfl; have y6 := HX5.out.box.c2 (i := 6) (v := .slice none 0 0) rfl rfl; have fz := HX5.out.box.f0 rfl; have fy := HX5.out.box.f2 rfl)
    | (go_at_call 51; go_must (refine (rSame_any K b A5 (some ⟨bb, oo, none⟩) K.length c5 n c _ HS5.out.rb (HS.out _ HX5.out.box.up).rb).mono ?_); rw [HKB.out]; rintro e x6 ⟨rfl, rfl⟩))
  (try simp only [Exit.inBlock, Exit.then])
  have HR := Lib.hid ((HX5.out.fill7 rfl (.slice none 0 0) (.int .i64 0) (.slice none 0 0) (.int .i64 0) (.int .i64 0) (.int .i64 0) (.slice none 0 0)))
  refine bodyPost_ret (results_box1 rfl _ _ w.heap.size _ rfl (HR.out.box.cells0 rfl) (by kernel_rfl) (by kernel_rfl)) rfl ?_
  exact ent_none (mk := fun v => .tuple #[v, .int .i64 27]) HR.out.box.up

set_option maxRecDepth 100000 in
set_option maxHeartbeats 2000000 in
theorem rp_P_okC (b : List UInt8) (A : Option Addr) (n c : Nat) (w : World) (row : List UInt8) (p1 : Nat) (f g : UInt8) (qual : List UInt8) (p2 : Nat) (t p3 : Nat) (s p4 : Nat) (k : UInt8) (K : List UInt8) (hs : Sl w A n c b) (hn : n ≤ 140737488355000) (h0 : readO b 0 = (row, p1, 0)) (hlen : p1 + 2 ≤ n) (hf : b[p1]? = some f) (hg : b[p1 + 1]? = some g) (hg0 : g.toNat ≠ 0) (h2 : readO b ((p1 + 2 : Nat) : Int) = (qual, p2, 0)) (hlen2 : p2 < n) (h3 : readFl b (((p2 + 1) : Nat) : Int) = (t, p3, 0)) (h4 : readFl b (p3 : Int) = (s, p4, 0)) (hlen4 : p4 + 1 = n) (hk : b[p4]? = some k) (hke : KeyE ⟨row, (f.toNat : Int), qual, (t : Int), (s : Int), (k.toNat : Int), []⟩ = (K, 0)) (hkb : (K == b) = true) :
    Calls Try.prog 16 #[.slice A n c] w (EntPost (fun v => .tuple #[v, .int .i64 0]) ⟨row, (f.toNat : Int), qual, (t : Int), (s : Int), (k.toNat : Int), []⟩ w) := by
  have HS : Hid (∀ x, Below w.heap.size w x → Sl x A n c b) := Lib.hid fun x h => hs.later h
  have HX0 := Lib.hid (Bt.of (T := 5) (Bxs.three w 27 #[.slice none 0 0, .int .i64 0, .slice none 0 0, .int .i64 0, .int .i64 0, .int .i64 0, .slice none 0 0] #[.slice none 0 0, .int .i64 0, .slice none 0 0, .int .i64 0, .int .i64 0, .int .i64 0, .slice none 0 0] #[.slice none 0 0, .int .i64 0, .slice none 0 0, .int .i64 0, .int .i64 0, .int .i64 0, .slice none 0 0]))
  have H0 := Lib.hid h0
  obtain ⟨bb, oo, _, rfl, hbb, _, _⟩ := hs.rb.at_ (k := p1) (by omega)
  have HC : Hid (∀ (j : Nat) (u : UInt8) x, b[j]? = some u → Below w.heap.size w x → x.cell? ⟨bb, oo + j, none⟩ = some (.int .u8 (u.toNat : Int))) := Lib.hid fun j u x hu hx => (hs.rb.later hx).cell hu
  have hbb0 : ¬ bb = w.heap.size := by omega
  have hbb1 : ¬ bb = w.heap.size + 1 := by omega
  have hbb2 : ¬ bb = w.heap.size + 1 + 1 := by omega
  have HF := Lib.hid hf
  have HG := Lib.hid hg
  have hgd : ((g.toNat : Int) != 0) = true := by rw [bne_iff_ne]; omega
  have H2 := Lib.hid h2
  have H3 := Lib.hid h3
  have H4 := Lib.hid h4
  have HK := Lib.hid hk
  have HKE := Lib.hid hke
  have HKB := Lib.hid hkb
  have q1 : (p1 : Int) < (n : Int) := by omega
  have q2 : (p1 : Int) + 1 < (n : Int) := by omega
  have q3 : decide ((n : Int) < (p1 : Int) + 2) = false := decide_eq_false (by omega)
  have q4 : (p2 : Int) < (n : Int) := by omega
  have q8 : wrap64 ((f.toNat : Nat) : Int) = (f.toNat : Int) := wrap64_id (by omega) (by have := f.toNat_lt; omega)
  have q9 : IntKind.i64.wrap ((f.toNat : Nat) : Int) = (f.toNat : Int) := i64_sum (by omega) (by have := f.toNat_lt; omega)
  have q10 : ((p4 : Int) + 1 != (n : Int)) = false := by rw [bne_eq_false_iff_eq]; omega
  have q5 : (p4 : Int) < (n : Int) := by omega
  have q6 : wrap64 ((k.toNat : Nat) : Int) = (k.toNat : Int) := wrap64_id (by omega) (by have := k.toNat_lt; omega)
  have q7 : IntKind.i64.wrap ((k.toNat : Nat) : Int) = (k.toNat : Int) := i64_sum (by omega) (by have := k.toNat_lt; omega)
  have tO1 : True := trivial
  have tO2 : True := trivial
  have tF1 : True := trivial
  clear hs h0 hf hg hg0 h2 h3 h4 hk hke hkb
  go_enter Try.func16, Try.ntmps16
  go_wp2_with (first
    | (go_at_call 49; have _t := tO1; go_must (refine (rRo_any b (some ⟨bb, oo, none⟩) n c 0 _ (HS.out _ HX0.out.box.up) hn).mono ?_); rw [H0.out]; rintro e x1 hp; obtain ⟨A1, c1, rfl, _, hO1, hb1⟩ := hp.at_ (n := row.length) rfl rfl rfl; have HX1 := Lib.hid (HX0.out.fresh hb1 hO1); clear hb1 hp hO1 tO1; have z0 := HX1.out.box.c0 (i := 0) (v := .slice none 0 0) rfl rfl; have n0 := HX1.out.box.c1 (i := 0) (v := .slice none 0 0) rfl rfl; have y0 := HX1.out.box.c2 (i := 0) (v := .slice none 0 0) rfl rfl; have z1 := HX1.out.box.c0 (i := 1) (v := .int .i64 0) rfl rfl; have n1 := HX1.out.box.c1 (i := 1) (v := .int .i64 0) rfl rfl; have y1 := HX1.out.box.c2 (i := 1) (v := .int .i64 0) rfl rfl; have z2 := HX1.out.box.c0 (i := 2) (v := .slice none 0 0) rfl rfl; have n2 := HX1.out.box.c1 (i := 2) (v := .slice none 0 0) rfl rfl; have y2 := HX1.out.box.c2 (i := 2) (v := .slice none 0 0) rfl rfl; have z3 := HX1.out.box.c0 (i := 3) (v := .int .i64 0) rfl rfl; have n3 := HX1.out.box.c1 (i := 3) (v := .int .i64 0) rfl rfl; have y3 := HX1.out.box.c2 (i := 3) (v := .int .i64 0) rfl rfl; have z4 := HX1.out.box.c0 (i := 4) (v := .int .i64 0) rfl rfl; have n4 := HX1.out.box.c1 (i := 4) (v := .int .i64 0) rfl rfl; have y4 := HX1.out.box.c2 (i := 4) (v := .int .i64 0) rfl rfl; have z5 := HX1.out.box.c0 (i := 5) (v := .int .i64 0) rfl rfl; have n5 := HX1.out.box.c1 (i := 5) (v := .int .i64 0) rfl rfl; have y5 := HX1.out.box.c2 (i := 5) (v := .int .i64 0) rfl rfl; have z6 := HX1.out.box.c0 (i := 6) (v := .slice none 0 0) rfl rfl; have n6 := HX1.out.box.c1 (i := 6) (v := .slice none 0 0) rfl rfl; have y6 := HX1.out.box.c2 (i := 6) (v := .slice none 0 0) rfl rfl; have fz := HX1.out.box.f0 rfl; have fy := HX1.out.box.f2 rfl; have g1 := HC.out p1 f _ HF.out HX1.out.box.up; have g2 := HC.out (p1 + 1) g _ HG.out HX1.out.box.up; have g3 := HC.out p4 k _ HK.out HX1.out.box.up)
    | (go_at_call 49; have _t := tO2; go_must (refine (rRo_any b (some ⟨bb, oo, none⟩) n c _ _ (HS.out _ ((HX1.out.s2_0 (.slice A1 row.length c1)).s2_1 (.int .i64 (f.toNat : Int))).box.up) hn).mono ?_); rw [show ((p1 : Int) + 2) = ((p1 + 2 : Nat) : Int) from by omega, H2.out]; rintro e x2 hp; obtain ⟨A2, c2, rfl, _, hO2, hb2⟩ := hp.at_ (n := qual.length) rfl rfl rfl; have HX2 := Lib.hid (((HX1.out.s2_0 (.slice A1 row.length c1)).s2_1 (.int .i64 (f.toNat : Int))).fresh hb2 hO2); clear hb2 hp hO2 tO2 g1 g2 g3; clear z0 y0 n0 z1 y1 n1 z2 y2 n2 z3 y3 n3 z4 y4 n4 z5 y5 n5 z6 y6 n6 fz fy; have z0 := HX2.out.box.c0 (i := 0) (v := .slice none 0 0) rfl rfl; have n0 := HX2.out.box.c1 (i := 0) (v := .slice none 0 0) rfl rfl; have y0 := HX2.out.box.c2 (i := 0) (v := .slice A1 row.length c1) rfl rfl; have z1 := HX2.out.box.c0 (i := 1) (v := .int .i64 0) rfl rfl; have n1 := HX2.out.box.c1 (i := 1) (v := .int .i64 0) rfl rfl; have y1 := HX2.out.box.c2 (i := 1) (v := .int .i64 (f.toNat : Int)) rfl rfl; have z2 := HX2.out.box.c0 (i := 2) (v := .slice none 0 0) rfl rfl; have n2 := HX2.out.box.c1 (i := 2) (v := .slice none 0 0) rfl rfl; have y2 := HX2.out.box.c2 (i := 2) (v := .slice none 0 0) rfl rfl; have z3 := HX2.out.box.c0 (i := 3) (v := .int .i64 0) rfl rfl; have n3 := HX2.out.box.c1 (i := 3) (v := .int .i64 0) rfl rfl; have y3 := HX2.out.box.c2 (i := 3) (v := .int .i64 0) rfl rfl; have z4 := HX2.out.box.c0 (i := 4) (v := .int .i64 0) rfl rfl; have n4 := HX2.out.box.c1 (i := 4) (v := .int .i64 0) rfl rfl; have y4 := HX2.out.box.c2 (i := 4) (v := .int .i64 0) rfl rfl; have z5 := HX2.out.box.c0 (i := 5) (v := .int .i64 0) rfl rfl; have n5 := HX2.out.box.c1 (i := 5) (v := .int .i64 0) rfl rfl; have y5 := HX2.out.box.c2 (i := 5) (v := .int .i64 0) rfl rfl; have z6 := HX2.out.box.c0 (i := 6) (v := .slice none 0 0) rfl rfl; have n6 := HX2.out.box.c1 (i := 6) (v := .slice none 0 0) rfl rfl; have y6 := HX2.out.box.c2 (i := 6) (v := .slice none 0 0) rfl rfl; have fz := HX2.out.box.f0 rfl; have fy := HX2.out.box.f2 rfl; have g3 := HC.out p4 k _ HK.out HX2.out.box.up)
    | (go_at_call 50; have _t := tF1; go_must (refine (rRfl_any b (some ⟨bb, oo, none⟩) n c _ _ (HS.out _ (HX2.out.s2_2 (.slice A2 qual.length c2)).box.up) hn).mono ?_); rw [show ((p2 : Int) + 1) = ((p2 + 1 : Nat) : Int) from by omega, H3.out]; rintro e x3 ⟨rfl, rfl⟩; clear tF1)
    | (go_at_call 50; go_must (refine (rRfl_any b (some ⟨bb, oo, none⟩) n c _ _ (HS.out _ ((HX2.out.s2_2 (.slice A2 qual.length c2)).s2_3 (.int .i64 (t : Int))).box.up) hn).mono ?_); rw [H4.out]; rintro e x4 ⟨rfl, rfl⟩)
    | (go_at_call 34; go_must (refine (rKey_any ⟨row, (f.toNat : Int), qual, (t : Int), (s : Int), (k.toNat : Int), []⟩ A1 row.length c1 A2 qual.length c2 none 0 0 _ ⟨((((HX2.out.s2_2 (.slice A2 qual.length c2)).s2_3 (.int .i64 (t : Int))).s2_4 (.int .i64 (s : Int))).s2_5 (.int .i64 (k.toNat : Int))).rows.sl (i := 0) rfl, (((((HX2.out.s2_2 (.slice A2 qual.length c2)).s2_3 (.int .i64 (t : Int))).s2_4 (.int .i64 (s : Int))).s2_5 (.int .i64 (k.toNat : Int))).rows.sl (i := 1) rfl), Sl.none _⟩).mono ?_); rw [HKE.out]; rintro e x5 hp; obtain ⟨A5, c5, rfl, hS5, hO5, hb5⟩ := hp.at_ (n := K.length) rfl rfl; have HX5 := Lib.hid (((((HX2.out.s2_2 (.slice A2 qual.length c2)).s2_3 (.int .i64 (t : Int))).s2_4 (.int .i64 (s : Int))).s2_5 (.int .i64 (k.toNat : Int))).fresh hb5 hO5); have HS5 := Lib.hid hS5; clear hb5 hp hO5 hS5 g3; clear z0 y0 n0 z1 y1 n1 z2 y2 n2 z3 y3 n3 z4 y4 n4 z5 y5 n5 z6 y6 n6 fz fy; have z0 := HX5.out.box.c0 (i := 0) (v := .slice none 0 0) rfl rfl; have n0 := HX5.out.box.c1 (i := 0) (v := .slice none 0 0) rfl rfl; have y0 := HX5.out.box.c2 (i := 0) (v := .slice A1 row.length c1) rfl rfl; have z1 := HX5.out.box.c0 (i := 1) (v := .int .i64 0) rfl rfl; have n1 := HX5.out.box.c1 (i := 1) (v := .int .i64 0) rfl rfl; have y1 := HX5.out.box.c2 (i := 1) (v := .int .i64 (f.toNat : Int)) rfl rfl; have z2 := HX5.out.box.c0 (i := 2) (v := .slice none 0 0) rfl rfl; have n2 := HX5.out.box.c1 (i := 2) (v := .slice none 0 0) rfl rfl; have y2 := HX5.out.box.c2 (i := 2) (v := .slice A2 qual.length c2) rfl rfl; have z3 := HX5.out.box.c0 (i := 3) (v := .int .i64 0) rfl rfl; have n3 := HX5.out.box.c1 (i := 3) (v := .int .i64 0) rfl rfl; have y3 := HX5.out.box.c2 (i := 3) (v := .int .i64 (t : Int)) rfl rfl; have z4 := HX5.out.box.c0 (i := 4) (v := .int .i64 0) rfl rfl; have n4 := HX5.out.box.c1 (i := 4) (v := .int .i64 0) rfl rfl; have y4 := HX5.out.box.c2 (i := 4) (v := .int .i64 (s : Int)) rfl rfl; have z5 := HX5.out.box.c0 (i := 5) (v := .int .i64 0) rfl rfl; have n5 := HX5.out.box.c1 (i := 5) (v := .int .i64 0) rfl rfl; have y5 := HX5.out.box.c2 (i := 5) (v := .int .i64 (k.toNat : Int)) rfl rfl; have z6 := HX5.out.box.c0 (i := 6) (v := .slice none 0 0) rfl rfl; have n6 := HX5.out.box.c1 (i := 6) (v := .slice none 0 0) rfl rfl; have y6 := HX5.out.box.c2 (i := 6) (v := .slice none 0 0) rfl rfl; have fz := HX5.out.box.f0 rfl; have fy := HX5.out.box.f2 rfl)
    | (go_at_call 51; go_must (refine (rSame_any K b A5 (some ⟨bb, oo, none⟩) K.length c5 n c _ HS5.out.rb (HS.out _ HX5.out.box.up).rb).mono ?_); rw [HKB.out]; rintro e x6 ⟨rfl, rfl⟩))
  (try simp only [Exit.inBlock, Exit.then])
  have HR := Lib.hid ((HX5.out.fill7 rfl (.slice A1 row.length c1) (.int .i64 (f.toNat : Int)) (.slice A2 qual.length c2) (.int .i64 (t : Int)) (.int .i64 (s : Int)) (.int .i64 (k.toNat : Int)) (.slice none 0 0)))
  refine bodyPost_ret (results_box1 rfl _ _ w.heap.size _ rfl (HR.out.box.cells0 rfl) (by kernel_rfl) (by kernel_rfl)) rfl ?_
  exact ent_post (mk := fun v => .tuple #[v, .int .i64 0]) (rows_low (rows_pre HR.out.rows) (Nat.le_add_right _ _)) HR.out.box.up

set_option maxRecDepth 100000 in
set_option maxHeartbeats 2000000 in
theorem rp_N_f3 (b : List UInt8) (A : Option Addr) (n c : Nat) (w : World) (row : List UInt8) (p1 : Nat) (f g : UInt8) (t p3 er : Nat) (hs : Sl w A n c b) (hn : n ≤ 140737488355000) (h0 : readO b 0 = (row, p1, 0)) (hlen : p1 + 2 ≤ n) (hf : b[p1]? = some f) (hg : b[p1 + 1]? = some g) (hg0 : g.toNat = 0) (h3 : readFl b (((p1 + 2) : Nat) : Int) = (t, p3, er)) (he : er ≠ 0) :
    Calls Try.prog 16 #[.slice A n c] w (EntPost (fun v => .tuple #[v, .int .i64 27]) noEnt w) := by
  have HS : Hid (∀ x, Below w.heap.size w x → Sl x A n c b) := Lib.hid fun x h => hs.later h
  have HX0 := Lib.hid (Bt.of (T := 5) (Bxs.three w 27 #[.slice none 0 0, .int .i64 0, .slice none 0 0, .int .i64 0, .int .i64 0, .int .i64 0, .slice none 0 0] #[.slice none 0 0, .int .i64 0, .slice none 0 0, .int .i64 0, .int .i64 0, .int .i64 0, .slice none 0 0] #[.slice none 0 0, .int .i64 0, .slice none 0 0, .int .i64 0, .int .i64 0, .int .i64 0, .slice none 0 0]))
  have H0 := Lib.hid h0
  obtain ⟨bb, oo, _, rfl, hbb, _, _⟩ := hs.rb.at_ (k := p1) (by omega)
  have HC : Hid (∀ (j : Nat) (u : UInt8) x, b[j]? = some u → Below w.heap.size w x → x.cell? ⟨bb, oo + j, none⟩ = some (.int .u8 (u.toNat : Int))) := Lib.hid fun j u x hu hx => (hs.rb.later hx).cell hu
  have hbb0 : ¬ bb = w.heap.size := by omega
  have hbb1 : ¬ bb = w.heap.size + 1 := by omega
  have hbb2 : ¬ bb = w.heap.size + 1 + 1 := by omega
  have HF := Lib.hid hf
  have HG := Lib.hid hg
  have hgd : ((g.toNat : Int) != 0) = false := by rw [hg0]; rfl
  have H3 := Lib.hid h3
  have hd : ((er : Int) != 0) = true := by rw [bne_iff_ne]; omega
  have q1 : (p1 : Int) < (n : Int) := by omega
  have q2 : (p1 : Int) + 1 < (n : Int) := by omega
  have q3 : decide ((n : Int) < (p1 : Int) + 2) = false := decide_eq_false (by omega)
  have q8 : wrap64 ((f.toNat : Nat) : Int) = (f.toNat : Int) := wrap64_id (by omega) (by have := f.toNat_lt; omega)
  have q9 : IntKind.i64.wrap ((f.toNat : Nat) : Int) = (f.toNat : Int) := i64_sum (by omega) (by have := f.toNat_lt; omega)
  have tO1 : True := trivial
  have tF1 : True := trivial
  clear hs h0 hf hg hg0 h3 he
  go_enter Try.func16, Try.ntmps16
  go_wp2_with (first
    | (go_at_call 49; have _t := tO1; go_must (refine (rRo_any b (some ⟨bb, oo, none⟩) n c 0 _ (HS.out _ HX0.out.box.up) hn).mono ?_); rw [H0.out]; rintro e x1 hp; obtain ⟨A1, c1, rfl, _, hO1, hb1⟩ := hp.at_ (n := row.length) rfl rfl rfl; have HX1 := Lib.hid (HX0.out.fresh hb1 hO1); clear hb1 hp hO1 tO1; have z0 := HX1.out.box.c0 (i := 0) (v := .slice none 0 0) rfl rfl; have n0 := HX1.out.box.c1 (i := 0) (v := .slice none 0 0) rfl rfl; have y0 := HX1.out.box.c2 (i := 0) (v := .slice none 0 0) rfl rfl; have z1 := HX1.out.box.c0 (i := 1) (v := .int .i64 0) rfl rfl; have n1 := HX1.out.box.c1 (i := 1) (v := .int .i64 0) rfl rfl; have y1 := HX1.out.box.c2 (i := 1) (v := .int .i64 0) rfl rfl; have z2 := HX1.out.box.c0 (i := 2) (v := .slice none 0 0) rfl rfl; have n2 := HX1.out.box.c1 (i := 2) (v := .slice none 0 0) rfl rfl; have y2 := HX1.out.box.c2 (i := 2) (v := .slice none 0 0) rfl rfl; have z3 := HX1.out.box.c0 (i := 3) (v := .int .i64 0) rfl rfl; have n3 := HX1.out.box.c1 (i := 3) (v := .int .i64 0) rfl rfl; have y3 := HX1.out.box.c2 (i := 3) (v := .int .i64 0) rfl rfl; have z4 := HX1.out.box.c0 (i := 4) (v := .int .i64 0) rfl rfl; have n4 := HX1.out.box.c1 (i := 4) (v := .int .i64 0) rfl rfl; have y4 := HX1.out.box.c2 (i := 4) (v := .int .i64 0) rfl rfl; have z5 := HX1.out.box.c0 (i := 5) (v := .int .i64 0) rfl rfl; have n5 := HX1.out.box.c1 (i := 5) (v := .int .i64 0) rfl rfl; have y5 := HX1.out.box.c2 (i := 5) (v := .int .i64 0) rfl rfl; have z6 := HX1.out.box.c0 (i := 6) (v := .slice none 0 0) rfl rfl; have n6 := HX1.out.box.c1 (i := 6) (v := .slice none 0 0) rfl rfl; have y6 := HX1.out.box.c2 (i := 6) (v := .slice none 0 0) rfl rfl; have fz := HX1.out.box.f0 rfl; have fy := HX1.out.box.f2 rfl; have g1 := HC.out p1 f _ HF.out HX1.out.box.up; have g2 := HC.out (p1 + 1) g _ HG.out HX1.out.box.up)
    | (go_at_call 50; have _t := tF1; go_must (refine (rRfl_any b (some ⟨bb, oo, none⟩) n c _ _ (HS.out _ ((HX1.out.s2_0 (.slice A1 row.length c1)).s2_1 (.int .i64 (f.toNat : Int))).box.up) hn).mono ?_); rw [show ((p1 : Int) + 2) = ((p1 + 2 : Nat) : Int) from by omega, H3.out]; rintro e x3 ⟨rfl, rfl⟩; clear tF1))
  (try simp only [Exit.inBlock, Exit.then])
  have HR := Lib.hid (((((HX1.out.s2_0 (.slice A1 row.length c1)).s2_1 (.int .i64 (f.toNat : Int))).s2_3 (.int .i64 (t : Int))).fill7 rfl (.slice none 0 0) (.int .i64 0) (.slice none 0 0) (.int .i64 0) (.int .i64 0) (.int .i64 0) (.slice none 0 0)))
  refine bodyPost_ret (results_box1 rfl _ _ w.heap.size _ rfl (HR.out.box.cells0 rfl) (by kernel_rfl) (by kernel_rfl)) rfl ?_
  exact ent_none (mk := fun v => .tuple #[v, .int .i64 27]) HR.out.box.up

set_option maxRecDepth 100000 in
set_option maxHeartbeats 2000000 in
theorem rp_N_f4a (b : List UInt8) (A : Option Addr) (n c : Nat) (w : World) (row : List UInt8) (p1 : Nat) (f g : UInt8) (t p3 : Nat) (s p4 er : Nat) (hs : Sl w A n c b) (hn : n ≤ 140737488355000) (h0 : readO b 0 = (row, p1, 0)) (hlen : p1 + 2 ≤ n) (hf : b[p1]? = some f) (hg : b[p1 + 1]? = some g) (hg0 : g.toNat = 0) (h3 : readFl b (((p1 + 2) : Nat) : Int) = (t, p3, 0)) (h4 : readFl b (p3 : Int) = (s, p4, er)) (he : er ≠ 0) :
    Calls Try.prog 16 #[.slice A n c] w (EntPost (fun v => .tuple #[v, .int .i64 27]) noEnt w) := by
  have HS : Hid (∀ x, Below w.heap.size w x → Sl x A n c b) := Lib.hid fun x h => hs.later h
  have HX0 := Lib.hid (Bt.of (T := 5) (Bxs.three w 27 #[.slice none 0 0, .int .i64 0, .slice none 0 0, .int .i64 0, .int .i64 0, .int .i64 0, .slice none 0 0] #[.slice none 0 0, .int .i64 0, .slice none 0 0, .int .i64 0, .int .i64 0, .int .i64 0, .slice none 0 0] #[.slice none 0 0, .int .i64 0, .slice none 0 0, .int .i64 0, .int .i64 0, .int .i64 0, .slice none 0 0]))
  have H0 := Lib.hid h0
  obtain ⟨bb, oo, _, rfl, hbb, _, _⟩ := hs.rb.at_ (k := p1) (by omega)
  have HC : Hid (∀ (j : Nat) (u : UInt8) x, b[j]? = some u → Below w.heap.size w x → x.cell? ⟨bb, oo + j, none⟩ = some (.int .u8 (u.toNat : Int))) := Lib.hid fun j u x hu hx => (hs.rb.later hx).cell hu
  have hbb0 : ¬ bb = w.heap.size := by omega
  have hbb1 : ¬ bb = w.heap.size + 1 := by omega
  have hbb2 : ¬ bb = w.heap.size + 1 + 1 := by omega
  have HF := Lib.hid hf
  have HG := Lib.hid hg
  have hgd : ((g.toNat : Int) != 0) = false := by rw [hg0]; rfl
  have H3 := Lib.hid h3
  have H4 := Lib.hid h4
  have hd : ((er : Int) != 0) = true := by rw [bne_iff_ne]; omega
  have q1 : (p1 : Int) < (n : Int) := by omega
  have q2 : (p1 : Int) + 1 < (n : Int) := by omega
  have q3 : decide ((n : Int) < (p1 : Int) + 2) = false := decide_eq_false (by omega)
  have q8 : wrap64 ((f.toNat : Nat) : Int) = (f.toNat : Int) := wrap64_id (by omega) (by have := f.toNat_lt; omega)
  have q9 : IntKind.i64.wrap ((f.toNat : Nat) : Int) = (f.toNat : Int) := i64_sum (by omega) (by have := f.toNat_lt; omega)
  have tO1 : True := trivial
  have tF1 : True := trivial
  clear hs h0 hf hg hg0 h3 h4 he
  go_enter Try.func16, Try.ntmps16
  go_wp2_with (first
    | (go_at_call 49; have _t := tO1; go_must (refine (rRo_any b (some ⟨bb, oo, none⟩) n c 0 _ (HS.out _ HX0.out.box.up) hn).mono ?_); rw [H0.out]; rintro e x1 hp; obtain ⟨A1, c1, rfl, _, hO1, hb1⟩ := hp.at_ (n := row.length) rfl rfl rfl; have HX1 := Lib.hid (HX0.out.fresh hb1 hO1); clear hb1 hp hO1 tO1; have z0 := HX1.out.box.c0 (i := 0) (v := .slice none 0 0) rfl rfl; have n0 := HX1.out.box.c1 (i := 0) (v := .slice none 0 0) rfl rfl; have y0 := HX1.out.box.c2 (i := 0) (v := .slice none 0 0) rfl rfl; have z1 := HX1.out.box.c0 (i := 1) (v := .int .i64 0) rfl rfl; have n1 := HX1.out.box.c1 (i := 1) (v := .int .i64 0) rfl rfl; have y1 := HX1.out.box.c2 (i := 1) (v := .int .i64 0) rfl rfl; have z2 := HX1.out.box.c0 (i := 2) (v := .slice none 0 0) rfl rfl; have n2 := HX1.out.box.c1 (i := 2) (v := .slice none 0 0) rfl rfl; have y2 := HX1.out.box.c2 (i := 2) (v := .slice none 0 0) rfl rfl; have z3 := HX1.out.box.c0 (i := 3) (v := .int .i64 0) rfl rfl; have n3 := HX1.out.box.c1 (i := 3) (v := .int .i64 0) rfl rfl; have y3 := HX1.out.box.c2 (i := 3) (v := .int .i64 0) rfl rfl; have z4 := HX1.out.box.c0 (i := 4) (v := .int .i64 0) rfl rfl; have n4 := HX1.out.box.c1 (i := 4) (v := .int .i64 0) rfl rfl; have y4 := HX1.out.box.c2 (i := 4) (v := .int .i64 0) rfl rfl; have z5 := HX1.out.box.c0 (i := 5) (v := .int .i64 0) rfl rfl; have n5 := HX1.out.box.c1 (i := 5) (v := .int .i64 0) rfl rfl; have y5 := HX1.out.box.c2 (i := 5) (v := .int .i64 0) rfl rfl; have z6 := HX1.out.box.c0 (i := 6) (v := .slice none 0 0) rfl rfl; have n6 := HX1.out.box.c1 (i := 6) (v := .slice none 0 0) rfl rfl; have y6 := HX1.out.box.c2 (i := 6) (v := .slice none 0 0) rfl rfl; have fz := HX1.out.box.f0 rfl; have fy := HX1.out.box.f2 rfl; have g1 := HC.out p1 f _ HF.out HX1.out.box.up; have g2 := HC.out (p1 + 1) g _ HG.out HX1.out.box.up)
    | (go_at_call 50; have _t := tF1; go_must (refine (rRfl_any b (some ⟨bb, oo, none⟩) n c _ _ (HS.out _ ((HX1.out.s2_0 (.slice A1 row.length c1)).s2_1 (.int .i64 (f.toNat : Int))).box.up) hn).mono ?_); rw [show ((p1 : Int) + 2) = ((p1 + 2 : Nat) : Int) from by omega, H3.out]; rintro e x3 ⟨rfl, rfl⟩; clear tF1)
    | (go_at_call 50; go_must (refine (rRfl_any b (some ⟨bb, oo, none⟩) n c _ _ (HS.out _ (((HX1.out.s2_0 (.slice A1 row.length c1)).s2_1 (.int .i64 (f.toNat : Int))).s2_3 (.int .i64 (t : Int))).box.up) hn).mono ?_); rw [H4.out]; rintro e x4 ⟨rfl, rfl⟩))
  (try simp only [Exit.inBlock, Exit.then])
  have HR := Lib.hid ((((((HX1.out.s2_0 (.slice A1 row.length c1)).s2_1 (.int .i64 (f.toNat : Int))).s2_3 (.int .i64 (t : Int))).s2_4 (.int .i64 (s : Int))).fill7 rfl (.slice none 0 0) (.int .i64 0) (.slice none 0 0) (.int .i64 0) (.int .i64 0) (.int .i64 0) (.slice none 0 0)))
  refine bodyPost_ret (results_box1 rfl _ _ w.heap.size _ rfl (HR.out.box.cells0 rfl) (by kernel_rfl) (by kernel_rfl)) rfl ?_
  exact ent_none (mk := fun v => .tuple #[v, .int .i64 27]) HR.out.box.up

set_option maxRecDepth 100000 in
set_option maxHeartbeats 2000000 in
theorem rp_N_f4b (b : List UInt8) (A : Option Addr) (n c : Nat) (w : World) (row : List UInt8) (p1 : Nat) (f g : UInt8) (t p3 : Nat) (s p4 : Nat) (hs : Sl w A n c b) (hn : n ≤ 140737488355000) (h0 : readO b 0 = (row, p1, 0)) (hlen : p1 + 2 ≤ n) (hf : b[p1]? = some f) (hg : b[p1 + 1]? = some g) (hg0 : g.toNat = 0) (h3 : readFl b (((p1 + 2) : Nat) : Int) = (t, p3, 0)) (h4 : readFl b (p3 : Int) = (s, p4, 0)) (hp4 : p4 ≤ n) (hsh : p4 + 1 ≠ n) :
    Calls Try.prog 16 #[.slice A n c] w (EntPost (fun v => .tuple #[v, .int .i64 27]) noEnt w) := by
  have HS : Hid (∀ x, Below w.heap.size w x → Sl x A n c b) := Lib.hid fun x h => hs.later h
  have HX0 := Lib.hid (Bt.of (T := 5) (Bxs.three w 27 #[.slice none 0 0, .int .i64 0, .slice none 0 0, .int .i64 0, .int .i64 0, .int .i64 0, .slice none 0 0] #[.slice none 0 0, .int .i64 0, .slice none 0 0, .int .i64 0, .int .i64 0, .int .i64 0, .slice none 0 0] #[.slice none 0 0, .int .i64 0, .slice none 0 0, .int .i64 0, .int .i64 0, .int .i64 0, .slice none 0 0]))
  have H0 := Lib.hid h0
  obtain ⟨bb, oo, _, rfl, hbb, _, _⟩ := hs.rb.at_ (k := p1) (by omega)
  have HC : Hid (∀ (j : Nat) (u : UInt8) x, b[j]? = some u → Below w.heap.size w x → x.cell? ⟨bb, oo + j, none⟩ = some (.int .u8 (u.toNat : Int))) := Lib.hid fun j u x hu hx => (hs.rb.later hx).cell hu
  have hbb0 : ¬ bb = w.heap.size := by omega
  have hbb1 : ¬ bb = w.heap.size + 1 := by omega
  have hbb2 : ¬ bb = w.heap.size + 1 + 1 := by omega
  have HF := Lib.hid hf
  have HG := Lib.hid hg
  have hgd : ((g.toNat : Int) != 0) = false := by rw [hg0]; rfl
  have H3 := Lib.hid h3
  have H4 := Lib.hid h4
  have q1 : (p1 : Int) < (n : Int) := by omega
  have q2 : (p1 : Int) + 1 < (n : Int) := by omega
  have q3 : decide ((n : Int) < (p1 : Int) + 2) = false := decide_eq_false (by omega)
  have q8 : wrap64 ((f.toNat : Nat) : Int) = (f.toNat : Int) := wrap64_id (by omega) (by have := f.toNat_lt; omega)
  have q9 : IntKind.i64.wrap ((f.toNat : Nat) : Int) = (f.toNat : Int) := i64_sum (by omega) (by have := f.toNat_lt; omega)
  have q10 : ((p4 : Int) + 1 != (n : Int)) = true := by rw [bne_iff_ne]; omega
  have tO1 : True := trivial
  have tF1 : True := trivial
  clear hs h0 hf hg hg0 h3 h4
  go_enter Try.func16, Try.ntmps16
  go_wp2_with (first
    | (go_at_call 49; have _t := tO1; go_must (refine (rRo_any b (some ⟨bb, oo, none⟩) n c 0 _ (HS.out _ HX0.out.box.up) hn).mono ?_); rw [H0.out]; rintro e x1 hp; obtain ⟨A1, c1, rfl, _, hO1, hb1⟩ := hp.at_ (n := row.length) rfl rfl rfl; have HX1 := Lib.hid (HX0.out.fresh hb1 hO1); clear hb1 hp hO1 tO1; have z0 := HX1.out.box.c0 (i := 0) (v := .slice none 0 0) rfl rfl; have n0 := HX1.out.box.c1 (i := 0) (v := .slice none 0 0) rfl rfl; have y0 := HX1.out.box.c2 (i := 0) (v := .slice none 0 0) rfl rfl; have z1 := HX1.out.box.c0 (i := 1) (v := .int .i64 0) rfl rfl; have n1 := HX1.out.box.c1 (i := 1) (v := .int .i64 0) rfl rfl; have y1 := HX1.out.box.c2 (i := 1) (v := .int .i64 0) rfl rfl; have z2 := HX1.out.box.c0 (i := 2) (v := .slice none 0 0) rfl rfl; have n2 := HX1.out.box.c1 (i := 2) (v := .slice none 0 0) rfl rfl; have y2 := HX1.out.box.c2 (i := 2) (v := .slice none 0 0) rfl rfl; have z3 := HX1.out.box.c0 (i := 3) (v := .int .i64 0) rfl rfl; have n3 := HX1.out.box.c1 (i := 3) (v := .int .i64 0) rfl rfl; have y3 := HX1.out.box.c2 (i := 3) (v := .int .i64 0) rfl rfl; have z4 := HX1.out.box.c0 (i := 4) (v := .int .i64 0) rfl rfl; have n4 := HX1.out.box.c1 (i := 4) (v := .int .i64 0) rfl rfl; have y4 := HX1.out.box.c2 (i := 4) (v := .int .i64 0) rfl rfl; have z5 := HX1.out.box.c0 (i := 5) (v := .int .i64 0) rfl rfl; have n5 := HX1.out.box.c1 (i := 5) (v := .int .i64 0) rfl rfl; have y5 := HX1.out.box.c2 (i := 5) (v := .int .i64 0) rfl rfl; have z6 := HX1.out.box.c0 (i := 6) (v := .slice none 0 0) rfl rfl; have n6 := HX1.out.box.c1 (i := 6) (v := .slice none 0 0) rfl rfl; have y6 := HX1.out.box.c2 (i := 6) (v := .slice none 0 0) rfl rfl; have fz := HX1.out.box.f0 rfl; have fy := HX1.out.box.f2 rfl; have g1 := HC.out p1 f _ HF.out HX1.out.box.up; have g2 := HC.out (p1 + 1) g _ HG.out HX1.out.box.up)
    | (go_at_call 50; have _t := tF1; go_must (refine (rRfl_any b (some ⟨bb, oo, none⟩) n c _ _ (HS.out _ ((HX1.out.s2_0 (.slice A1 row.length c1)).s2_1 (.int .i64 (f.toNat : Int))).box.up) hn).mono ?_); rw [show ((p1 : Int) + 2) = ((p1 + 2 : Nat) : Int) from by omega, H3.out]; rintro e x3 ⟨rfl, rfl⟩; clear tF1)
    | (go_at_call 50; go_must (refine (rRfl_any b (some ⟨bb, oo, none⟩) n c _ _ (HS.out _ (((HX1.out.s2_0 (.slice A1 row.length c1)).s2_1 (.int .i64 (f.toNat : Int))).s2_3 (.int .i64 (t : Int))).box.up) hn).mono ?_); rw [H4.out]; rintro e x4 ⟨rfl, rfl⟩))
  (try simp only [Exit.inBlock, Exit.then])
  have HR := Lib.hid ((((((HX1.out.s2_0 (.slice A1 row.length c1)).s2_1 (.int .i64 (f.toNat : Int))).s2_3 (.int .i64 (t : Int))).s2_4 (.int .i64 (s : Int))).fill7 rfl (.slice none 0 0) (.int .i64 0) (.slice none 0 0) (.int .i64 0) (.int .i64 0) (.int .i64 0) (.slice none 0 0)))
  refine bodyPost_ret (results_box1 rfl _ _ w.heap.size _ rfl (HR.out.box.cells0 rfl) (by kernel_rfl) (by kernel_rfl)) rfl ?_
  exact ent_none (mk := fun v => .tuple #[v, .int .i64 27]) HR.out.box.up

set_option maxRecDepth 100000 in
set_option maxHeartbeats 2000000 in
theorem rp_N_okA (b : List UInt8) (A : Option Addr) (n c : Nat) (w : World) (row : List UInt8) (p1 : Nat) (f g : UInt8) (t p3 : Nat) (s p4 : Nat) (k : UInt8) (K : List UInt8) (z : Int) (hs : Sl w A n c b) (hn : n ≤ 140737488355000) (h0 : readO b 0 = (row, p1, 0)) (hlen : p1 + 2 ≤ n) (hf : b[p1]? = some f) (hg : b[p1 + 1]? = some g) (hg0 : g.toNat = 0) (h3 : readFl b (((p1 + 2) : Nat) : Int) = (t, p3, 0)) (h4 : readFl b (p3 : Int) = (s, p4, 0)) (hlen4 : p4 + 1 = n) (hk : b[p4]? = some k) (hz : z ≠ 0) (hke : KeyE ⟨row, (f.toNat : Int), [], (t : Int), (s : Int), (k.toNat : Int), []⟩ = (K, z)) :
    Calls Try.prog 16 #[.slice A n c] w (EntPost (fun v => .tuple #[v, .int .i64 27]) noEnt w) := by
  have HS : Hid (∀ x, Below w.heap.size w x → Sl x A n c b) := Lib.hid fun x h => hs.later h
  have HX0 := Lib.hid (Bt.of (T := 5) (Bxs.three w 27 #[.slice none 0 0, .int .i64 0, .slice none 0 0, .int .i64 0, .int .i64 0, .int .i64 0, .slice none 0 0] #[.slice none 0 0, .int .i64 0, .slice none 0 0, .int .i64 0, .int .i64 0, .int .i64 0, .slice none 0 0] #[.slice none 0 0, .int .i64 0, .slice none 0 0, .int .i64 0, .int .i64 0, .int .i64 0, .slice none 0 0]))
  have H0 := Lib.hid h0
  obtain ⟨bb, oo, _, rfl, hbb, _, _⟩ := hs.rb.at_ (k := p1) (by omega)
  have HC : Hid (∀ (j : Nat) (u : UInt8) x, b[j]? = some u → Below w.heap.size w x → x.cell? ⟨bb, oo + j, none⟩ = some (.int .u8 (u.toNat : Int))) := Lib.hid fun j u x hu hx => (hs.rb.later hx).cell hu
  have hbb0 : ¬ bb = w.heap.size := by omega
  have hbb1 : ¬ bb = w.heap.size + 1 := by omega
  have hbb2 : ¬ bb = w.heap.size + 1 + 1 := by omega
  have HF := Lib.hid hf
  have HG := Lib.hid hg
  have hgd : ((g.toNat : Int) != 0) = false := by rw [hg0]; rfl
  have H3 := Lib.hid h3
  have H4 := Lib.hid h4
  have HK := Lib.hid hk
  have HKE := Lib.hid hke
  have hd : (z != 0) = true := by rw [bne_iff_ne]; exact hz
  have q1 : (p1 : Int) < (n : Int) := by omega
  have q2 : (p1 : Int) + 1 < (n : Int) := by omega
  have q3 : decide ((n : Int) < (p1 : Int) + 2) = false := decide_eq_false (by omega)
  have q8 : wrap64 ((f.toNat : Nat) : Int) = (f.toNat : Int) := wrap64_id (by omega) (by have := f.toNat_lt; omega)
  have q9 : IntKind.i64.wrap ((f.toNat : Nat) : Int) = (f.toNat : Int) := i64_sum (by omega) (by have := f.toNat_lt; omega)
  have q10 : ((p4 : Int) + 1 != (n : Int)) = false := by rw [bne_eq_false_iff_eq]; omega
  have q5 : (p4 : Int) < (n : Int) := by omega
  have q6 : wrap64 ((k.toNat : Nat) : Int) = (k.toNat : Int) := wrap64_id (by omega) (by have := k.toNat_lt; omega)
  have q7 : IntKind.i64.wrap ((k.toNat : Nat) : Int) = (k.toNat : Int) := i64_sum (by omega) (by have := k.toNat_lt; omega)
  have tO1 : True := trivial
  have tF1 : True := trivial
  clear hs h0 hf hg hg0 h3 h4 hk hke hz
  go_enter Try.func16, Try.ntmps16
  go_wp2_with (first
    | (go_at_call 49; have _t := tO1; go_must (refine (rRo_any b (some ⟨bb, oo, none⟩) n c 0 _ (HS.out _ HX0.out.box.up) hn).mono ?_); rw [H0.out]; rintro e x1 hp; obtain ⟨A1, c1, rfl, _, hO1, hb1⟩ := hp.at_ (n := row.length) rfl rfl rfl; have HX1 := Lib.hid (HX0.out.fresh hb1 hO1); clear hb1 hp hO1 tO1; have z0 := HX1.out.box.c0 (i := 0) (v := .slice none 0 0) rfl rfl; have n0 := HX1.out.box.c1 (i := 0) (v := .slice none 0 0) rfl rfl; have y0 := HX1.out.box.c2 (i := 0) (v := .slice none 0 0) rfl rfl; have z1 := HX1.out.box.c0 (i := 1) (v := .int .i64 0) rfl rfl; have n1 := HX1.out.box.c1 (i := 1) (v := .int .i64 0) rfl rfl; have y1 := HX1.out.box.c2 (i := 1) (v := .int .i64 0) rfl rfl; have z2 := HX1.out.box.c0 (i := 2) (v := .slice none 0 0) rfl rfl; have n2 := HX1.out.box.c1 (i := 2) (v := .slice none 0 0) rfl rfl; have y2 := HX1.out.box.c2 (i := 2) (v := .slice none 0 0) rfl rfl; have z3 := HX1.out.box.c0 (i := 3) (v := .int .i64 0) rfl rfl; have n3 := HX1.out.box.c1 (i := 3) (v := .int .i64 0) rfl rfl; have y3 := HX1.out.box.c2 (i := 3) (v := .int .i64 0) rfl rfl; have z4 := HX1.out.box.c0 (i := 4) (v := .int .i64 0) rfl rfl; have n4 := HX1.out.box.c1 (i := 4) (v := .int .i64 0) rfl rfl; have y4 := HX1.out.box.c2 (i := 4) (v := .int .i64 0) rfl rfl; have z5 := HX1.out.box.c0 (i := 5) (v := .int .i64 0) rfl rfl; have n5 := HX1.out.box.c1 (i := 5) (v := .int .i64 0) rfl rfl; have y5 := HX1.out.box.c2 (i := 5) (v := .int .i64 0) rfl rfl; have z6 := HX1.out.box.c0 (i := 6) (v := .slice none 0 0) rfl rfl; have n6 := HX1.out.box.c1 (i := 6) (v := .slice none 0 0) rfl rfl; have y6 := HX1.out.box.c2 (i := 6) (v := .slice none 0 0) rfl rfl; have fz := HX1.out.box.f0 rfl; have fy := HX1.out.box.f2 rfl; have g1 := HC.out p1 f _ HF.out HX1.out.box.up; have g2 := HC.out (p1 + 1) g _ HG.out HX1.out.box.up; have g3 := HC.out p4 k _ HK.out HX1.out.box.up)
    | (go_at_call 50; have _t := tF1; go_must (refine (rRfl_any b (some ⟨bb, oo, none⟩) n c _ _ (HS.out _ ((HX1.out.s2_0 (.slice A1 row.length c1)).s2_1 (.int .i64 (f.toNat : Int))).box.up) hn).mono ?_); rw [show ((p1 : Int) + 2) = ((p1 + 2 : Nat) : Int) from by omega, H3.out]; rintro e x3 ⟨rfl, rfl⟩; clear tF1)
    | (go_at_call 50; go_must (refine (rRfl_any b (some ⟨bb, oo, none⟩) n c _ _ (HS.out _ (((HX1.out.s2_0 (.slice A1 row.length c1)).s2_1 (.int .i64 (f.toNat : Int))).s2_3 (.int .i64 (t : Int))).box.up) hn).mono ?_); rw [H4.out]; rintro e x4 ⟨rfl, rfl⟩)
    | (go_at_call 34; go_must (refine (rKey_any ⟨row, (f.toNat : Int), [], (t : Int), (s : Int), (k.toNat : Int), []⟩ A1 row.length c1 none 0 0 none 0 0 _ ⟨(((((HX1.out.s2_0 (.slice A1 row.length c1)).s2_1 (.int .i64 (f.toNat : Int))).s2_3 (.int .i64 (t : Int))).s2_4 (.int .i64 (s : Int))).s2_5 (.int .i64 (k.toNat : Int))).rows.sl (i := 0) rfl, (Sl.none _), Sl.none _⟩).mono ?_); rw [HKE.out]; rintro e x5 hp; obtain ⟨A5, c5, rfl, hS5, hO5, hb5⟩ := hp.at_ (n := K.length) rfl rfl; have HX5 := Lib.hid ((((((HX1.out.s2_0 (.slice A1 row.length c1)).s2_1 (.int .i64 (f.toNat : Int))).s2_3 (.int .i64 (t : Int))).s2_4 (.int .i64 (s : Int))).s2_5 (.int .i64 (k.toNat : Int))).fresh hb5 hO5); have HS5 := Lib.hid hS5; clear hb5 hp hO5 hS5 g1 g2 g3; clear z0 y0 n0 z1 y1 n1 z2 y2 n2 z3 y3 n3 z4 y4 n4 z5 y5 n5 z6 y6 n6 fz fy; have z0 := HX5.out.box.c0 (i := 0) (v := .slice none 0 0) rfl rfl; have n0 := HX5.out.box.c1 (i := 0) (v := .slice none 0 0) rfl rfl; have y0 := HX5.out.box.c2 (i := 0) (v := .slice A1 row.length c1) rfl rfl; have z1 := HX5.out.box.c0 (i := 1) (v := .int .i64 0) rfl rfl; have n1 := HX5.out.box.c1 (i := 1) (v := .int .i64 0) rfl rfl; have y1 := HX5.out.box.c2 (i := 1) (v := .int .i64 (f.toNat : Int)) rfl rfl; have z2 := HX5.out.box.c0 (i := 2) (v := .slice none 0 0) rfl rfl; have n2 := HX5.out.box.c1 (i := 2) (v := .slice none 0 0) rfl rfl; have y2 := HX5.out.box.c2 (i := 2) (v := .slice none 0 0) rfl rfl; have z3 := HX5.out.box.c0 (i := 3) (v := .int .i64 0) rfl rfl; have n3 := HX5.out.box.c1 (i := 3) (v := .int .i64 0) rfl rfl; have y3 := HX5.out.box.c2 (i := 3) (v := .int .i64 (t : Int)) rfl rfl; have z4 := HX5.out.box.c0 (i := 4) (v := .int .i64 0) rfl rfl; have n4 := HX5.out.box.c1 (i := 4) (v := .int .i64 0) rfl rfl; have y4 := HX5.out.box.c2 (i := 4) (v := .int .i64 (s : Int)) rfl rfl; have z5 := HX5.out.box.c0 (i := 5) (v := .int .i64 0) rfl rfl; have n5 := HX5.out.box.c1 (i := 5) (v := .int .i64 0) rfl rfl; have y5 := HX5.out.box.c2 (i := 5) (v := .int .i64 (k.toNat : Int)) rfl rfl; have z6 := HX5.out.box.c0 (i := 6) (v := .slice none 0 0) rfl rfl; have n6 := HX5.out.box.c1 (i := 6) (v := .slice none 0 0) rfl rfl; have y6 := HX5.out.box.c2 (i := 6) (v := .slice none 0 0) rfl rfl; have fz := HX5.out.box.f0 rfl; have fy := HX5.out.box.f2 rfl))
  (try simp only [Exit.inBlock, Exit.then])
  have HR := Lib.hid ((HX5.out.fill7 rfl (.slice none 0 0) (.int .i64 0) (.slice none 0 0) (.int .i64 0) (.int .i64 0) (.int .i64 0) (.slice none 0 0)))
  refine bodyPost_ret (results_box1 rfl _ _ w.heap.size _ rfl (HR.out.box.cells0 rfl) (by kernel_rfl) (by kernel_rfl)) rfl ?_
  exact ent_none (mk := fun v => .tuple #[v, .int .i64 27]) HR.out.box.up

set_option maxRecDepth 100000 in
set_option maxHeartbeats 2000000 in
theorem rp_N_okB (b : List UInt8) (A : Option Addr) (n c : Nat) (w : World) (row : List UInt8) (p1 : Nat) (f g : UInt8) (t p3 : Nat) (s p4 : Nat) (k : UInt8) (K : List UInt8) (hs : Sl w A n c b) (hn : n ≤ 140737488355000) (h0 : readO b 0 = (row, p1, 0)) (hlen : p1 + 2 ≤ n) (hf : b[p1]? = some f) (hg : b[p1 + 1]? = some g) (hg0 : g.toNat = 0) (h3 : readFl b (((p1 + 2) : Nat) : Int) = (t, p3, 0)) (h4 : readFl b (p3 : Int) = (s, p4, 0)) (hlen4 : p4 + 1 = n) (hk : b[p4]? = some k) (hke : KeyE ⟨row, (f.toNat : Int), [], (t : Int), (s : Int), (k.toNat : Int), []⟩ = (K, 0)) (hkb : (K == b) = false) :
    Calls Try.prog 16 #[.slice A n c] w (EntPost (fun v => .tuple #[v, .int .i64 27]) noEnt w) := by
  have HS : Hid (∀ x, Below w.heap.size w x → Sl x A n c b) := Lib.hid fun x h => hs.later h
  have HX0 := Lib.hid (Bt.of (T := 5) (Bxs.three w 27 #[.slice none 0 0, .int .i64 0, .slice none 0 0, .int .i64 0, .int .i64 0, .int .i64 0, .slice none 0 0] #[.slice none 0 0, .int .i64 0, .slice none 0 0, .int .i64 0, .int .i64 0, .int .i64 0, .slice none 0 0] #[.slice none 0 0, .int .i64 0, .slice none 0 0, .int .i64 0, .int .i64 0, .int .i64 0, .slice none 0 0]))
  have H0 := Lib.hid h0
  obtain ⟨bb, oo, _, rfl, hbb, _, _⟩ := hs.rb.at_ (k := p1) (by omega)
  have HC : Hid (∀ (j : Nat) (u : UInt8) x, b[j]? = some u → Below w.heap.size w x → x.cell? ⟨bb, oo + j, none⟩ = some (.int .u8 (u.toNat : Int))) := Lib.hid fun j u x hu hx => (hs.rb.later hx).cell hu
  have hbb0 : ¬ bb = w.heap.size := by omega
  have hbb1 : ¬ bb = w.heap.size + 1 := by omega
  have hbb2 : ¬ bb = w.heap.size + 1 + 1 := by omega
  have HF := Lib.hid hf
  have HG := Lib.hid hg
  have hgd : ((g.toNat : Int) != 0) = false := by rw [hg0]; rfl
  have H3 := Lib.hid h3
  have H4 := Lib.hid h4
  have HK := Lib.hid hk
  have HKE := Lib.hid hke
  have HKB := Lib.hid hkb
  have q1 : (p1 : Int) < (n : Int) := by omega
  have q2 : (p1 : Int) + 1 < (n : Int) := by omega
  have q3 : decide ((n : Int) < (p1 : Int) + 2) = false := decide_eq_false (by omega)
  have q8 : wrap64 ((f.toNat : Nat) : Int) = (f.toNat : Int) := wrap64_id (by omega) (by have := f.toNat_lt; omega)
  have q9 : IntKind.i64.wrap ((f.toNat : Nat) : Int) = (f.toNat : Int) := i64_sum (by omega) (by have := f.toNat_lt; omega)
  have q10 : ((p4 : Int) + 1 != (n : Int)) = false := by rw [bne_eq_false_iff_eq]; omega
  have q5 : (p4 : Int) < (n : Int) := by omega
  have q6 : wrap64 ((k.toNat : Nat) : Int) = (k.toNat : Int) := wrap64_id (by omega) (by have := k.toNat_lt; omega)
  have q7 : IntKind.i64.wrap ((k.toNat : Nat) : Int) = (k.toNat : Int) := i64_sum (by omega) (by have := k.toNat_lt; omega)
  have tO1 : True := trivial
  have tF1 : True := trivial
  clear hs h0 hf hg hg0 h3 h4 hk hke hkb
  go_enter Try.func16, Try.ntmps16
  go_wp2_with (first
    | (go_at_call 49; have _t := tO1; go_must (refine (rRo_any b (some ⟨bb, oo, none⟩) n c 0 _ (HS.out _ HX0.out.box.up) hn).mono ?_); rw [H0.out]; rintro e x1 hp; obtain ⟨A1, c1, rfl, _, hO1, hb1⟩ := hp.at_ (n := row.length) rfl rfl rfl; have HX1 := Lib.hid (HX0.out.fresh hb1 hO1); clear hb1 hp hO1 tO1; have z0 := HX1.out.box.c0 (i := 0) (v := .slice none 0 0) rfl rfl; have n0 := HX1.out.box.c1 (i := 0) (v := .slice none 0 0) rfl rfl; have y0 := HX1.out.box.c2 (i := 0) (v := .slice none 0 0) rfl rfl; have z1 := HX1.out.box.c0 (i := 1) (v := .int .i64 0) rfl rfl; have n1 := HX1.out.box.c1 (i := 1) (v := .int .i64 0) rfl rfl; have y1 := HX1.out.box.c2 (i := 1) (v := .int .i64 0) rfl rfl; have z2 := HX1.out.box.c0 (i := 2) (v := .slice none 0 0) rfl rfl; have n2 := HX1.out.box.c1 (i := 2) (v := .slice none 0 0) rfl rfl; have y2 := HX1.out.box.c2 (i := 2) (v := .slice none 0 0) rfl rfl; have z3 := HX1.out.box.c0 (i := 3) (v := .int .i64 0) rfl rfl; have n3 := HX1.out.box.c1 (i := 3) (v := .int .i64 0) rfl rfl; have y3 := HX1.out.box.c2 (i := 3) (v := .int .i64 0) rfl rfl; have z4 := HX1.out.box.c0 (i := 4) (v := .int .i64 0) rfl rfl; have n4 := HX1.out.box.c1 (i := 4) (v := .int .i64 0) rfl rfl; have y4 := HX1.out.box.c2 (i := 4) (v := .int .i64 0) rfl rfl; have z5 := HX1.out.box.c0 (i := 5) (v := .int .i64 0) rfl rfl; have n5 := HX1.out.box.c1 (i := 5) (v := .int .i64 0) rfl rfl; have y5 := HX1.out.box.c2 (i := 5) (v := .int .i64 0) rfl rfl; have z6 := HX1.out.box.c0 (i := 6) (v := .slice none 0 0) rfl rfl; have n6 := HX1.out.box.c1 (i := 6) (v := .slice none 0 0) rfl rfl; have y6 := HX1.out.box.c2 (i := 6) (v := .slice none 0 0) rfl rfl; have fz := HX1.out.box.f0 rfl; have fy := HX1.out.box.f2 rfl; have g1 := HC.out p1 f _ HF.out HX1.out.box.up; have g2 := HC.out (p1 + 1) g _ HG.out HX1.out.box.up; have g3 := HC.out p4 k _ HK.out HX1.out.box.up)
    | (go_at_call 50; have _t := tF1; go_must (refine (rRfl_any b (some ⟨bb, oo, none⟩) n c _ _ (HS.out _ ((HX1.out.s2_0 (.slice A1 row.length c1)).s2_1 (.int .i64 (f.toNat : Int))).box.up) hn).mono ?_); rw [show ((p1 : Int) + 2) = ((p1 + 2 : Nat) : Int) from by omega, H3.out]; rintro e x3 ⟨rfl, rfl⟩; clear tF1)
    | (go_at_call 50; go_must (refine (rRfl_any b (some ⟨bb, oo, none⟩) n c _ _ (HS.out _ (((HX1.out.s2_0 (.slice A1 row.length c1)).s2_1 (.int .i64 (f.toNat : Int))).s2_3 (.int .i64 (t : Int))).box.up) hn).mono ?_); rw [H4.out]; rintro e x4 ⟨rfl, rfl⟩)
    | (go_at_call 34; go_must (refine (rKey_any ⟨row, (f.toNat : Int), [], (t : Int), (s : Int), (k.toNat : Int), []⟩ A1 row.length c1 none 0 0 none 0 0 _ ⟨(((((HX1.out.s2_0 (.slice A1 row.length c1)).s2_1 (.int .i64 (f.toNat : Int))).s2_3 (.int .i64 (t : Int))).s2_4 (.int .i64 (s : Int))).s2_5 (.int .i64 (k.toNat : Int))).rows.sl (i := 0) rfl, (Sl.none _), Sl.none _⟩).mono ?_); rw [HKE.out]; rintro e x5 hp; obtain ⟨A5, c5, rfl, hS5, hO5, hb5⟩ := hp.at_ (n := K.length) rfl rfl; have HX5 := Lib.hid ((((((HX1.out.s2_0 (.slice A1 row.length c1)).s2_1 (.int .i64 (f.toNat : Int))).s2_3 (.int .i64 (t : Int))).s2_4 (.int .i64 (s : Int))).s2_5 (.int .i64 (k.toNat : Int))).fresh hb5 hO5); have HS5 := Lib.hid hS5; clear hb5 hp hO5 hS5 g1 g2 g3; clear z0 y0 n0 z1 y1 n1 z2 y2 n2 z3 y3 n3 z4 y4 n4 z5 y5 n5 z6 y6 n6 fz fy; have z0 := HX5.out.box.c0 (i := 0) (v := .slice none 0 0) rfl rfl; have n0 := HX5.out.box.c1 (i := 0) (v := .slice none 0 0) rfl rfl; have y0 := HX5.out.box.c2 (i := 0) (v := .slice A1 row.length c1) rfl rfl; have z1 := HX5.out.box.c0 (i := 1) (v := .int .i64 0) rfl rfl; have n1 := HX5.out.box.c1 (i := 1) (v := .int .i64 0) rfl rfl; have y1 := HX5.out.box.c2 (i := 1) (v := .int .i64 (f.toNat : Int)) rfl rfl; have z2 := HX5.out.box.c0 (i := 2) (v := .slice none 0 0) rfl rfl; have n2 := HX5.out.box.c1 (i := 2) (v := .slice none 0 0) rfl rfl; have y2 := HX5.out.box.c2 (i := 2) (v := .slice none 0 0) rfl rfl; have z3 := HX5.out.box.c0 (i := 3) (v := .int .i64 0) rfl rfl; have n3 := HX5.out.box.c1 (i := 3) (v := .int .i64 0) rfl rfl; have y3 := HX5.out.box.c2 (i := 3) (v := .int .i64 (t : Int)) rfl rfl; have z4 := HX5.out.box.c0 (i := 4) (v := .int .i64 0) rfl rfl; have n4 := HX5.out.box.c1 (i := 4) (v := .int .i64 0) rfl rfl; have y4 := HX5.out.box.c2 (i := 4) (v := .int .i64 (s : Int)) rfl rfl; have z5 := HX5.out.box.c0 (i := 5) (v := .int .i64 0) rfl rfl; have n5 := HX5.out.box.c1 (i := 5) (v := .int .i64 0) rfl rfl; have y5 := HX5.out.box.c2 (i := 5) (v := .int .i64 (k.toNat : Int)) rfl rfl; have z6 := HX5.out.box.c0 (i := 6) (v := .slice none 0 0) rfl rfl; have n6 := HX5.out.box.c1 (i := 6) (v := .slice none 0 0) rfl rfl; have y6 := HX5.out.box.c2 (i := 6) (v := .slice none 0 0) rfl rfl; have fz := HX5.out.box.f0 rfl; have fy := HX5.out.box.f2 rfl)
    | (go_at_call 51; go_must (refine (rSame_any K b A5 (some ⟨bb, oo, none⟩) K.length c5 n c _ HS5.out.rb (HS.out _ HX5.out.box.up).rb).mono ?_); rw [HKB.out]; rintro e x6 ⟨rfl, rfl⟩))
  (try simp only [Exit.inBlock, Exit.then])
  have HR := Lib.hid ((HX5.out.fill7 rfl (.slice none 0 0) (.int .i64 0) (.slice none 0 0) (.int .i64 0) (.int .i64 0) (.int .i64 0) (.slice none 0 0)))
  refine bodyPost_ret (results_box1 rfl _ _ w.heap.size _ rfl (HR.out.box.cells0 rfl) (by kernel_rfl) (by kernel_rfl)) rfl ?_
  exact ent_none (mk := fun v => .tuple #[v, .int .i64 27]) HR.out.box.up

set_option maxRecDepth 100000 in
set_option maxHeartbeats 2000000 in
theorem rp_N_okC (b : List UInt8) (A : Option Addr) (n c : Nat) (w : World) (row : List UInt8) (p1 : Nat) (f g : UInt8) (t p3 : Nat) (s p4 : Nat) (k : UInt8) (K : List UInt8) (hs : Sl w A n c b) (hn : n ≤ 140737488355000) (h0 : readO b 0 = (row, p1, 0)) (hlen : p1 + 2 ≤ n) (hf : b[p1]? = some f) (hg : b[p1 + 1]? = some g) (hg0 : g.toNat = 0) (h3 : readFl b (((p1 + 2) : Nat) : Int) = (t, p3, 0)) (h4 : readFl b (p3 : Int) = (s, p4, 0)) (hlen4 : p4 + 1 = n) (hk : b[p4]? = some k) (hke : KeyE ⟨row, (f.toNat : Int), [], (t : Int), (s : Int), (k.toNat : Int), []⟩ = (K, 0)) (hkb : (K == b) = true) :
    Calls Try.prog 16 #[.slice A n c] w (EntPost (fun v => .tuple #[v, .int .i64 0]) ⟨row, (f.toNat : Int), [], (t : Int), (s : Int), (k.toNat : Int), []⟩ w) := by
  have HS : Hid (∀ x, Below w.heap.size w x → Sl x A n c b) := Lib.hid fun x h => hs.later h
  have HX0 := Lib.hid (Bt.of (T := 5) (Bxs.three w 27 #[.slice none 0 0, .int .i64 0, .slice none 0 0, .int .i64 0, .int .i64 0, .int .i64 0, .slice none 0 0] #[.slice none 0 0, .int .i64 0, .slice none 0 0, .int .i64 0, .int .i64 0, .int .i64 0, .slice none 0 0] #[.slice none 0 0, .int .i64 0, .slice none 0 0, .int .i64 0, .int .i64 0, .int .i64 0, .slice none 0 0]))
  have H0 := Lib.hid h0
  obtain ⟨bb, oo, _, rfl, hbb, _, _⟩ := hs.rb.at_ (k := p1) (by omega)
  have HC : Hid (∀ (j : Nat) (u : UInt8) x, b[j]? = some u → Below w.heap.size w x → x.cell? ⟨bb, oo + j, none⟩ = some (.int .u8 (u.toNat : Int))) := Lib.hid fun j u x hu hx => (hs.rb.later hx).cell hu
  have hbb0 : ¬ bb = w.heap.size := by omega
  have hbb1 : ¬ bb = w.heap.size + 1 := by omega
  have hbb2 : ¬ bb = w.heap.size + 1 + 1 := by omega
  have HF := Lib.hid hf
  have HG := Lib.hid hg
  have hgd : ((g.toNat : Int) != 0) = false := by rw [hg0]; rfl
  have H3 := Lib.hid h3
  have H4 := Lib.hid h4
  have HK := Lib.hid hk
  have HKE := Lib.hid hke
  have HKB := Lib.hid hkb
  have q1 : (p1 : Int) < (n : Int) := by omega
  have q2 : (p1 : Int) + 1 < (n : Int) := by omega
  have q3 : decide ((n : Int) < (p1 : Int) + 2) = false := decide_eq_false (by omega)
  have q8 : wrap64 ((f.toNat : Nat) : Int) = (f.toNat : Int) := wrap64_id (by omega) (by have := f.toNat_lt; omega)
  have q9 : IntKind.i64.wrap ((f.toNat : Nat) : Int) = (f.toNat : Int) := i64_sum (by omega) (by have := f.toNat_lt; omega)
  have q10 : ((p4 : Int) + 1 != (n : Int)) = false := by rw [bne_eq_false_iff_eq]; omega
  have q5 : (p4 : Int) < (n : Int) := by omega
  have q6 : wrap64 ((k.toNat : Nat) : Int) = (k.toNat : Int) := wrap64_id (by omega) (by have := k.toNat_lt; omega)
  have q7 : IntKind.i64.wrap ((k.toNat : Nat) : Int) = (k.toNat : Int) := i64_sum (by omega) (by have := k.toNat_lt; omega)
  have tO1 : True := trivial
  have tF1 : True := trivial
  clear hs h0 hf hg hg0 h3 h4 hk hke hkb
  go_enter Try.func16, Try.ntmps16
  go_wp2_with (first
    | (go_at_call 49; have _t := tO1; go_must (refine (rRo_any b (some ⟨bb, oo, none⟩) n c 0 _ (HS.out _ HX0.out.box.up) hn).mono ?_); rw [H0.out]; rintro e x1 hp; obtain ⟨A1, c1, rfl, _, hO1, hb1⟩ := hp.at_ (n := row.length) rfl rfl rfl; have HX1 := Lib.hid (HX0.out.fresh hb1 hO1); clear hb1 hp hO1 tO1; have z0 := HX1.out.box.c0 (i := 0) (v := .slice none 0 0) rfl rfl; have n0 := HX1.out.box.c1 (i := 0) (v := .slice none 0 0) rfl rfl; have y0 := HX1.out.box.c2 (i := 0) (v := .slice none 0 0) rfl rfl; have z1 := HX1.out.box.c0 (i := 1) (v := .int .i64 0) rfl rfl; have n1 := HX1.out.box.c1 (i := 1) (v := .int .i64 0) rfl rfl; have y1 := HX1.out.box.c2 (i := 1) (v := .int .i64 0) rfl rfl; have z2 := HX1.out.box.c0 (i := 2) (v := .slice none 0 0) rfl rfl; have n2 := HX1.out.box.c1 (i := 2) (v := .slice none 0 0) rfl rfl; have y2 := HX1.out.box.c2 (i := 2) (v := .slice none 0 0) rfl rfl; have z3 := HX1.out.box.c0 (i := 3) (v := .int .i64 0) rfl rfl; have n3 := HX1.out.box.c1 (i := 3) (v := .int .i64 0) rfl rfl; have y3 := HX1.out.box.c2 (i := 3) (v := .int .i64 0) rfl rfl; have z4 := HX1.out.box.c0 (i := 4) (v := .int .i64 0) rfl rfl; have n4 := HX1.out.box.c1 (i := 4) (v := .int .i64 0) rfl rfl; have y4 := HX1.out.box.c2 (i := 4) (v := .int .i64 0) rfl rfl; have z5 := HX1.out.box.c0 (i := 5) (v := .int .i64 0) rfl rfl; have n5 := HX1.out.box.c1 (i := 5) (v := .int .i64 0) rfl rfl; have y5 := HX1.out.box.c2 (i := 5) (v := .int .i64 0) rfl rfl; have z6 := HX1.out.box.c0 (i := 6) (v := .slice none 0 0) rfl rfl; have n6 := HX1.out.box.c1 (i := 6) (v := .slice none 0 0) rfl rfl; have y6 := HX1.out.box.c2 (i := 6) (v := .slice none 0 0) rfl rfl; have fz := HX1.out.box.f0 rfl; have fy := HX1.out.box.f2 rfl; have g1 := HC.out p1 f _ HF.out HX1.out.box.up; have g2 := HC.out (p1 + 1) g _ HG.out HX1.out.box.up; have g3 := HC.out p4 k _ HK.out HX1.out.box.up)
    | (go_at_call 50; have _t := tF1; go_must (refine (rRfl_any b (some ⟨bb, oo, none⟩) n c _ _ (HS.out _ ((HX1.out.s2_0 (.slice A1 row.length c1)).s2_1 (.int .i64 (f.toNat : Int))).box.up) hn).mono ?_); rw [show ((p1 : Int) + 2) = ((p1 + 2 : Nat) : Int) from by omega, H3.out]; rintro e x3 ⟨rfl, rfl⟩; clear tF1)
    | (go_at_call 50; go_must (refine (rRfl_any b (some ⟨bb, oo, none⟩) n c _ _ (HS.out _ (((HX1.out.s2_0 (.slice A1 row.length c1)).s2_1 (.int .i64 (f.toNat : Int))).s2_3 (.int .i64 (t : Int))).box.up) hn).mono ?_); rw [H4.out]; rintro e x4 ⟨rfl, rfl⟩)
    | (go_at_call 34; go_must (refine (rKey_any ⟨row, (f.toNat : Int), [], (t : Int), (s : Int), (k.toNat : Int), []⟩ A1 row.length c1 none 0 0 none 0 0 _ ⟨(((((HX1.out.s2_0 (.slice A1 row.length c1)).s2_1 (.int .i64 (f.toNat : Int))).s2_3 (.int .i64 (t : Int))).s2_4 (.int .i64 (s : Int))).s2_5 (.int .i64 (k.toNat : Int))).rows.sl (i := 0) rfl, (Sl.none _), Sl.none _⟩).mono ?_); rw [HKE.out]; rintro e x5 hp; obtain ⟨A5, c5, rfl, hS5, hO5, hb5⟩ := hp.at_ (n := K.length) rfl rfl; have HX5 := Lib.hid ((((((HX1.out.s2_0 (.slice A1 row.length c1)).s2_1 (.int .i64 (f.toNat : Int))).s2_3 (.int .i64 (t : Int))).s2_4 (.int .i64 (s : Int))).s2_5 (.int .i64 (k.toNat : Int))).fresh hb5 hO5); have HS5 := Lib.hid hS5; clear hb5 hp hO5 hS5 g1 g2 g3; clear z0 y0 n0 z1 y1 n1 z2 y2 n2 z3 y3 n3 z4 y4 n4 z5 y5 n5 z6 y6 n6 fz fy; have z0 := HX5.out.box.c0 (i := 0) (v := .slice none 0 0) rfl rfl; have n0 := HX5.out.box.c1 (i := 0) (v := .slice none 0 0) rfl rfl; have y0 := HX5.out.box.c2 (i := 0) (v := .slice A1 row.length c1) rfl rfl; have z1 := HX5.out.box.c0 (i := 1) (v := .int .i64 0) rfl rfl; have n1 := HX5.out.box.c1 (i := 1) (v := .int .i64 0) rfl rfl; have y1 := HX5.out.box.c2 (i := 1) (v := .int .i64 (f.toNat : Int)) rfl rfl; have z2 := HX5.out.box.c0 (i := 2) (v := .slice none 0 0) rfl rfl; have n2 := HX5.out.box.c1 (i := 2) (v := .slice none 0 0) rfl rfl; have y2 := HX5.out.box.c2 (i := 2) (v := .slice none 0 0) rfl rfl; have z3 := HX5.out.box.c0 (i := 3) (v := .int .i64 0) rfl rfl; have n3 := HX5.out.box.c1 (i := 3) (v := .int .i64 0) rfl rfl; have y3 := HX5.out.box.c2 (i := 3) (v := .int .i64 (t : Int)) rfl rfl; have z4 := HX5.out.box.c0 (i := 4) (v := .int .i64 0) rfl rfl; have n4 := HX5.out.box.c1 (i := 4) (v := .int .i64 0) rfl rfl; have y4 := HX5.out.box.c2 (i := 4) (v := .int .i64 (s : Int)) rfl rfl; have z5 := HX5.out.box.c0 (i := 5) (v := .int .i64 0) rfl rfl; have n5 := HX5.out.box.c1 (i := 5) (v := .int .i64 0) rfl rfl; have y5 := HX5.out.box.c2 (i := 5) (v := .int .i64 (k.toNat : Int)) rfl rfl; have z6 := HX5.out.box.c0 (i := 6) (v := .slice none 0 0) rfl rfl; have n6 := HX5.out.box.c1 (i := 6) (v := .slice none 0 0) rfl rfl; have y6 := HX5.out.box.c2 (i := 6) (v := .slice none 0 0) rfl rfl; have fz := HX5.out.box.f0 rfl; have fy := HX5.out.box.f2 rfl)
    | (go_at_call 51; go_must (refine (rSame_any K b A5 (some ⟨bb, oo, none⟩) K.length c5 n c _ HS5.out.rb (HS.out _ HX5.out.box.up).rb).mono ?_); rw [HKB.out]; rintro e x6 ⟨rfl, rfl⟩))
  (try simp only [Exit.inBlock, Exit.then])
  have HR := Lib.hid ((HX5.out.fill7 rfl (.slice A1 row.length c1) (.int .i64 (f.toNat : Int)) (.slice none 0 0) (.int .i64 (t : Int)) (.int .i64 (s : Int)) (.int .i64 (k.toNat : Int)) (.slice none 0 0)))
  refine bodyPost_ret (results_box1 rfl _ _ w.heap.size _ rfl (HR.out.box.cells0 rfl) (by kernel_rfl) (by kernel_rfl)) rfl ?_
  exact ent_post_n (mk := fun v => .tuple #[v, .int .i64 0]) (rows_low (rows_pre HR.out.rows) (Nat.le_add_right _ _)) HR.out.box.up
end Go.Proofs.Ytcikhlieaoanoaa

/-
  strataref2.ParseKey: the ways together.
-/
namespace Go.Proofs.Ytcikhlieaoanoaa
open Go.RowKit

def RPost (b : List UInt8) (o : Option (Ent × Nat)) (w : World) : Ending → World → Prop := EntPost (fun v => .tuple #[v, .int .i64 (ParseKeyO b o).2]) (ParseKeyO b o).1 w
theorem keyE_ok {e : Ent} (h : checkE e = 0) : KeyE e = (keyE e, 0) := by unfold KeyE; rw [if_pos h]
theorem keyE_bad {e : Ent} (h : checkE e ≠ 0) : KeyE e = ([], checkE e) := by unfold KeyE; rw [if_neg h]
theorem rpost_ok {b : List UInt8} {E : Ent} {p : Nat} {w : World} (h1 : checkE E = 0) (h2 : keyE E = b) {f : FuncId} {args : Array Value} (h : Calls Try.prog f args w (EntPost (fun v => .tuple #[v, .int .i64 0]) E w)) : Calls Try.prog f args w (RPost b (some (E, p)) w) := by
  unfold RPost ParseKeyO
  simp only
  rw [if_pos ⟨h1, h2⟩]
  exact h
theorem rpost_no {b : List UInt8} {E : Ent} {p : Nat} {w : World} (hn : ¬ (checkE E = 0 ∧ keyE E = b)) {f : FuncId} {args : Array Value} (h : Calls Try.prog f args w (EntPost (fun v => .tuple #[v, .int .i64 27]) noEnt w)) : Calls Try.prog f args w (RPost b (some (E, p)) w) := by
  unfold RPost ParseKeyO
  simp only
  rw [if_neg hn]
  exact h
theorem not_end {b : List UInt8} {E : Ent} {p : Nat} (h : parseE b = some (E, p)) (hp : p ≠ b.length) : ¬ (checkE E = 0 ∧ keyE E = b) := by
  rintro ⟨h1, h2⟩
  have := parse_key (ok_of h1)
  rw [h2, h] at this
  injection this with this
  injection this with _ this
  exact hp this
theorem rparsekey_any (b : List UInt8) (A : Option Addr) (n c : Nat) (w : World) (hs : Sl w A n c b) (hn : n ≤ 140737488355000) :
    Calls Try.prog 16 #[.slice A n c] w (EntPost (fun v => .tuple #[v, .int .i64 (ParseKeyE b).2]) (ParseKeyE b).1 w) := by
  have hl := hs.len
  refine parse_cases b (C := fun o => parseE b = o → Calls Try.prog 16 #[.slice A n c] w (RPost b o w)) ?_ ?_ ?_ ?_ ?_ ?_ rfl
  · intro rw0 p1 er h0 he _; exact rp_N_f1a b A n c w rw0 p1 er hs hn h0 he
  · intro row p1 h0 h1 h2 _; exact rp_N_f1b b A n c w row p1 hs hn h0 (by omega) (by omega)
  · intro row p1 f g ql0 p2 er h0 h1 hf hg hg0 h2 he _; exact rp_P_f2a b A n c w row p1 f g ql0 p2 er hs hn h0 (by omega) hf hg hg0 h2 he
  · intro row p1 f g qual p2 h0 h1 hf hg hg0 h2 h3 h4 _; exact rp_P_f2b b A n c w row p1 f g qual p2 hs hn h0 (by omega) hf hg hg0 h2 (by omega) (by omega)
  · intro row p1 f g qual p2 h0 h1 hf hg hg0 h2 h3
    refine parseN_cases b row f.toNat qual (p2 + 1) (C := fun o => parseE b = o → Calls Try.prog 16 #[.slice A n c] w (RPost b o w)) ?_ ?_ ?_ ?_
    · intro t p3 er h3' he _; exact rp_P_f3 b A n c w row p1 f g qual p2 t p3 er hs hn h0 (by omega) hf hg hg0 h2 (by omega) h3' he
    · intro t p3 s p4 er h3' h4 he _; exact rp_P_f4a b A n c w row p1 f g qual p2 t p3 s p4 er hs hn h0 (by omega) hf hg hg0 h2 (by omega) h3' h4 he
    · intro t p3 s p4 h3' h4 h5 h6 _; exact rp_P_f4b b A n c w row p1 f g qual p2 t p3 s p4 hs hn h0 (by omega) hf hg hg0 h2 (by omega) h3' h4 (by omega) (by omega)
    · intro t p3 s p4 k h3' h4 h5 hk hp
      by_cases hpn : p4 + 1 = n
      · by_cases hc : checkE ⟨row, f.toNat, qual, t, s, k.toNat, []⟩ = 0
        · by_cases hb : keyE ⟨row, f.toNat, qual, t, s, k.toNat, []⟩ = b
          · exact rpost_ok hc hb (rp_P_okC b A n c w row p1 f g qual p2 t p3 s p4 k b hs hn h0 (by omega) hf hg hg0 h2 (by omega) h3' h4 hpn hk (by rw [keyE_ok hc, hb]) (by simp))
          · exact rpost_no (fun h => hb h.2) (rp_P_okB b A n c w row p1 f g qual p2 t p3 s p4 k _ hs hn h0 (by omega) hf hg hg0 h2 (by omega) h3' h4 hpn hk (keyE_ok hc) (by simpa using hb))
        · exact rpost_no (fun h => hc h.1) (rp_P_okA b A n c w row p1 f g qual p2 t p3 s p4 k _ _ hs hn h0 (by omega) hf hg hg0 h2 (by omega) h3' h4 hpn hk hc (keyE_bad hc))
      · exact rpost_no (not_end hp (by omega)) (rp_P_f4b b A n c w row p1 f g qual p2 t p3 s p4 hs hn h0 (by omega) hf hg hg0 h2 (by omega) h3' h4 (by omega) hpn)
  · intro row p1 f g h0 h1 hf hg hg0
    refine parseN_cases b row f.toNat [] (p1 + 2) (C := fun o => parseE b = o → Calls Try.prog 16 #[.slice A n c] w (RPost b o w)) ?_ ?_ ?_ ?_
    · intro t p3 er h3' he _; exact rp_N_f3 b A n c w row p1 f g t p3 er hs hn h0 (by omega) hf hg hg0 h3' he
    · intro t p3 s p4 er h3' h4 he _; exact rp_N_f4a b A n c w row p1 f g t p3 s p4 er hs hn h0 (by omega) hf hg hg0 h3' h4 he
    · intro t p3 s p4 h3' h4 h5 h6 _; exact rp_N_f4b b A n c w row p1 f g t p3 s p4 hs hn h0 (by omega) hf hg hg0 h3' h4 (by omega) (by omega)
    · intro t p3 s p4 k h3' h4 h5 hk hp
      by_cases hpn : p4 + 1 = n
      · by_cases hc : checkE ⟨row, f.toNat, [], t, s, k.toNat, []⟩ = 0
        · by_cases hb : keyE ⟨row, f.toNat, [], t, s, k.toNat, []⟩ = b
          · exact rpost_ok hc hb (rp_N_okC b A n c w row p1 f g t p3 s p4 k b hs hn h0 (by omega) hf hg hg0 h3' h4 hpn hk (by rw [keyE_ok hc, hb]) (by simp))
          · exact rpost_no (fun h => hb h.2) (rp_N_okB b A n c w row p1 f g t p3 s p4 k _ hs hn h0 (by omega) hf hg hg0 h3' h4 hpn hk (keyE_ok hc) (by simpa using hb))
        · exact rpost_no (fun h => hc h.1) (rp_N_okA b A n c w row p1 f g t p3 s p4 k _ _ hs hn h0 (by omega) hf hg hg0 h3' h4 hpn hk hc (keyE_bad hc))
      · exact rpost_no (not_end hp (by omega)) (rp_N_f4b b A n c w row p1 f g t p3 s p4 hs hn h0 (by omega) hf hg hg0 h3' h4 (by omega) hpn)
end Go.Proofs.Ytcikhlieaoanoaa

/-
  The reference's ReadUint and ReadBytes, walked.
-/
namespace Go.Proofs.Ytcikhlieaoanoaa
open Go.RowKit

theorem ref_any (V U j x : Nat) (hj : j ≤ 9) (hx : j = 9 → x ≤ 1) (hU : U = 2 ^ (7 * j)) (hV : V < U) :
    ∃ Q S T : Nat, IntKind.u64.wrap ((U : Int) * ((x : Int) % 128)) = (Q : Int) ∧ IntKind.u64.wrap ((V : Int) + (Q : Int)) = (S : Int) ∧ IntKind.u64.wrap ((U : Int) * 128) = (T : Int) ∧ S = V + x % 128 * 2 ^ (7 * j) ∧ (j ≤ 8 → T = 2 ^ (7 * (j + 1)) ∧ S < T) := by
  by_cases h : j ≤ 8
  · obtain ⟨e1, e2, e3, e4, e5⟩ := ref_step V U j x h hU hV
    exact ⟨_, _, _, e1, e2, e3, rfl, fun _ => ⟨e5, e4⟩⟩
  · obtain rfl : j = 9 := by omega
    rw [show (2 : Nat) ^ (7 * 9) = 9223372036854775808 from by decide] at hU
    subst hU
    obtain ⟨e1, e2⟩ := ref_last V x (hx rfl) hV
    refine ⟨_, _, (IntKind.u64.wrap ((9223372036854775808 : Int) * 128)).toNat, e1, e2, ?_, rfl, fun h => absurd h (by omega)⟩
    decide

set_option maxRecDepth 100000 in
set_option maxHeartbeats 1000000 in
theorem rRu_in (l : List UInt8) (A : Option Addr) (n c k : Nat) (w : World) (hn : n ≤ 9223372036854775797) (hr : RB w w.heap.size A n l) (hk : k ≤ n) :
    Calls Try.prog 89 #[.slice A n c, .int .i64 k] w (RUPost (readU l k) w) := by
  have HO : Hid (outB n (k : Int) = false) := Lib.hid (outB_no (by omega) (by omega))
  have hl := hr.len
  have HR := Lib.hid hr
  have HL := Lib.hid hl
  clear hr hl
  go_enter Try.func89, Try.ntmps89
  go_wp2_with (go_at_call 69; go_must (refine (rOutside_any A n c k _).mono ?_); rintro e w0 ⟨rfl, rfl⟩; rw [HO.out])
  go_loop [7, 8, 9] (fun x y i => ∃ (V U j : Nat), Hid (V < U) ∧ Hid (U = 2 ^ (7 * j)) ∧ x = .int .u64 V ∧ y = .int .u64 U ∧ i = .int .i64 j ∧ j ≤ 9 ∧ k + j ≤ n ∧ Hid (rdU (l.drop (k + j)) j V = rdU (l.drop k) 0 0)) (fun _ _ i => n + 1 - (intOf i).toNat)
  case atStart => exact ⟨0, 1, 0, Lib.hid (by decide), Lib.hid rfl, rfl, rfl, rfl, by omega, by omega, Lib.hid rfl⟩
  case round =>
    obtain ⟨V, U, j, HV, HUU, rfl, rfl, rfl, hj9, hjn, HI⟩ := hrel
    have hd10 : decide ((j : Int) < 10) = true := decide_eq_true (by omega)
    by_cases hkj : k + j < n
    case neg =>
      have H : Hid (readU l k = (0, 0, 10)) := Lib.hid (readU_at (r := (0, 0, 10)) (by rw [HL.out]; exact hk) HI.out (by rw [List.drop_eq_nil_of_le (by rw [HL.out]; omega)]; rfl))
      go_wp2
      go_ret3
      rw [H.out]
      exact ⟨rfl, rfl⟩
    obtain ⟨b, o, x, eA, hb, hx, hcx⟩ := HR.out.at_ hkj
    subst eA
    have HC : Hid (l.drop (k + j) = x :: l.drop (k + (j + 1))) := Lib.hid (by
      obtain ⟨h1, h2⟩ := List.getElem?_eq_some_iff.1 hx
      rw [List.drop_eq_getElem_cons h1, h2]; rfl)
    have hx8 := x.toNat_lt
    clear hx
    have HK : Hid (k ≤ l.length) := Lib.hid (by rw [HL.out]; exact hk)
    have tail : Hid (∀ r, rdU (l.drop (k + j)) j V = r → readU l (k : Int) = if r.2.2 = 0 then (r.1, k + r.2.1, 0) else (0, 0, r.2.2)) := Lib.hid fun r h => readU_at HK.out HI.out h
    have HU : Hid (rdU (l.drop (k + j)) j V = if j = 9 ∧ 1 < x.toNat then (0, 0, 13) else if x.toNat < 128 then (if x.toNat = 0 ∧ 0 < j then (0, 0, 11) else (V + x.toNat % 128 * 2 ^ (7 * j), j + 1, 0)) else rdU (l.drop (k + (j + 1))) (j + 1) (V + x.toNat % 128 * 2 ^ (7 * j))) := Lib.hid (by rw [HC.out]; rfl)
    have hxw : IntKind.u64.wrap (x.toNat : Int) = (x.toNat : Int) := by rw [IntKind.wrap_u64]; omega
    by_cases hbig : j = 9 ∧ 1 < x.toNat
    · obtain ⟨rfl, h1⟩ := hbig
      have H : Hid (readU l k = (0, 0, 13)) := Lib.hid ((tail.out (0, 0, 13) (by rw [HU.out, if_pos ⟨rfl, h1⟩])).trans rfl)
      have hdx : decide ((1 : Int) < (x.toNat : Int)) = true := decide_eq_true (by omega)
      go_wp2
      go_ret3
      rw [H.out]
      exact ⟨rfl, rfl⟩
    obtain ⟨Q, S, T, q1, q2, q3, hS, hT⟩ := ref_any V U j x.toNat hj9 (fun h => by omega) HUU.out HV.out
    have HS := Lib.hid hS
    have HT := Lib.hid hT
    clear hS hT
    have HU2 : Hid (rdU (l.drop (k + j)) j V = if x.toNat < 128 then (if x.toNat = 0 ∧ 0 < j then (0, 0, 11) else (S, j + 1, 0)) else rdU (l.drop (k + (j + 1))) (j + 1) S) := Lib.hid (by rw [HU.out, if_neg hbig, HS.out])
    have hx128 : (0 : Int) ≤ (x.toNat : Int) := by omega
    have hguard : (((j : Int) == 9) = false) ∨ ((((j : Int) == 9) = true) ∧ decide ((1 : Int) < (x.toNat : Int)) = false) := by
      by_cases h : j = 9
      · exact .inr ⟨by rw [beq_iff_eq]; omega, decide_eq_false (by omega)⟩
      · exact .inl (by rw [beq_eq_false_iff_ne]; omega)
    clear hbig
    by_cases hx7 : x.toNat < 128
    · have hdx7 : decide ((x.toNat : Int) < 128) = true := decide_eq_true (by omega)
      by_cases h0 : x.toNat = 0
      · by_cases hj0 : j = 0
        · have H : Hid (readU l k = (S, k + (j + 1), 0)) := Lib.hid ((tail.out (S, j + 1, 0) (by rw [HU2.out, if_pos (by omega), if_neg (by omega)])).trans (by rw [if_pos rfl]))
          have hd0 : ((x.toNat : Int) == 0) = true := by rw [beq_iff_eq]; omega
          have hd1 : decide ((0 : Int) < (j : Int)) = false := decide_eq_false (by omega)
          have hd2 : decide (0 < j) = false := decide_eq_false (by omega)
          clear h0 hj0
          rcases hguard with h9 | ⟨h9, h9'⟩
          all_goals
            go_wp2
            go_ret3
            rw [H.out]
            refine ⟨?_, rfl⟩
            rw [show ((k + (j + 1) : Nat) : Int) = (k : Int) + j + 1 from by omega]; rfl
        · have H : Hid (readU l k = (0, 0, 11)) := Lib.hid ((tail.out (0, 0, 11) (by rw [HU2.out, if_pos (by omega), if_pos (by omega)])).trans rfl)
          have hd0 : ((x.toNat : Int) == 0) = true := by rw [beq_iff_eq]; omega
          have hd1 : decide ((0 : Int) < (j : Int)) = true := decide_eq_true (by omega)
          have hd2 : decide (0 < j) = true := decide_eq_true (by omega)
          clear h0 hj0
          rcases hguard with h9 | ⟨h9, h9'⟩
          all_goals
            go_wp2
            go_ret3
            rw [H.out]
            exact ⟨rfl, rfl⟩
      · have H : Hid (readU l k = (S, k + (j + 1), 0)) := Lib.hid ((tail.out (S, j + 1, 0) (by rw [HU2.out, if_pos (by omega), if_neg (by omega)])).trans (by rw [if_pos rfl]))
        have hd0 : ((x.toNat : Int) == 0) = false := by rw [beq_eq_false_iff_ne]; omega
        rcases hguard with h9 | ⟨h9, h9'⟩
        all_goals
          go_wp2
          go_ret3
          rw [H.out]
          refine ⟨?_, rfl⟩
          rw [show ((k + (j + 1) : Nat) : Int) = (k : Int) + j + 1 from by omega]; rfl
    · have hj8 : j ≤ 8 := by
        rcases hguard with h9 | ⟨h9, h9'⟩
        · rw [beq_eq_false_iff_ne] at h9; omega
        · have := of_decide_eq_false h9'; omega
      have hdx7 : decide ((x.toNat : Int) < 128) = false := decide_eq_false (by omega)
      have hd9 : ((j : Int) == 9) = false := by rw [beq_eq_false_iff_ne]; omega
      have HN : Hid (rdU (l.drop (k + (j + 1))) (j + 1) S = rdU (l.drop k) 0 0) := Lib.hid (by
        rw [← HI.out, HU2.out, if_neg (by omega)])
      clear hguard
      go_wp2
      go_round
      case rel => exact ⟨S, T, j + 1, Lib.hid (HT.out hj8).2, Lib.hid (HT.out hj8).1, rfl, rfl, by go_num, by omega, by omega, HN⟩
      case measure => simp [intOf]; omega

theorem rRu_any (l : List UInt8) (A : Option Addr) (n c : Nat) (a : Int) (w : World) (hn : n ≤ 9223372036854775797) (hr : RB w w.heap.size A n l) :
    Calls Try.prog 89 #[.slice A n c, .int .i64 a] w (RUPost (readU l a) w) := by
  by_cases h : a < 0 ∨ (n : Int) < a
  · exact rRu_out l A n c w a hr.len h
  · obtain ⟨k, rfl⟩ : ∃ k : Nat, a = (k : Int) := ⟨a.toNat, by omega⟩
    exact rRu_in l A n c k w hn hr (by omega)

set_option maxRecDepth 100000 in
set_option maxHeartbeats 2000000 in
theorem rRby_any (l : List UInt8) (A : Option Addr) (n c : Nat) (a most : Int) (w : World) (hs : Sl w A n c l) (hn : n ≤ 140737488355328) (hm : -9223372036854775808 ≤ most ∧ most < 9223372036854775808) :
    Calls Try.prog 65 #[.slice A n c, .int .i64 a, .int .i64 most] w (BytesPost3 5 (readBy l a most).1 ((readBy l a most).2.1 : Nat) ((readBy l a most).2.2 : Nat) w) := by
  have hl := hs.len
  have HR := Lib.hid hs.rb
  have HS := Lib.hid hs
  have HN : Hid (n ≤ 9223372036854775797) := Lib.hid (by omega)
  have hcap := hs.cap
  have hlim := hs.lim
  by_cases ho : outB n a = true
  · have HO := Lib.hid ho
    have H : Hid (BytesPost3 5 (readBy l a most).1 ((readBy l a most).2.1 : Nat) ((readBy l a most).2.2 : Nat) w (.returned (.tuple #[.slice none 0 0, .int .i64 0, .int .i64 1])) w) := Lib.hid (by
      unfold outB at ho
      simp at ho
      unfold readBy
      rw [if_pos (by omega)]
      exact bytes_none3 (Below.refl _ _))
    clear hs ho hl hcap hlim
    go_enter Try.func65, Try.ntmps65
    go_wp2_with (go_at_call 69; go_must (refine (rOutside_any A n c a _).mono ?_); rintro e w0 ⟨rfl, rfl⟩; rw [HO.out])
    go_ret3
    exact H.out
  have ho : outB n a = false := by simpa using ho
  have HO := Lib.hid ho
  have ha : 0 ≤ a ∧ a ≤ n := by unfold outB at ho; simp at ho; omega
  by_cases hmn : most < 0
  · have H : Hid (BytesPost3 5 (readBy l a most).1 ((readBy l a most).2.1 : Nat) ((readBy l a most).2.2 : Nat) w (.returned (.tuple #[.slice none 0 0, .int .i64 0, .int .i64 1])) w) := Lib.hid (by
      unfold readBy
      rw [if_pos (by omega)]
      exact bytes_none3 (Below.refl _ _))
    have hd : decide (most < 0) = true := decide_eq_true hmn
    clear hs ho hl hcap hlim ha hm hmn
    go_enter Try.func65, Try.ntmps65
    go_wp2_with (go_at_call 69; go_must (refine (rOutside_any A n c a _).mono ?_); rintro e w0 ⟨rfl, rfl⟩; rw [HO.out])
    go_ret3
    exact H.out
  have hd : decide (most < 0) = false := decide_eq_false hmn
  obtain ⟨M, rfl⟩ : ∃ M : Nat, most = (M : Int) := ⟨most.toNat, by omega⟩
  have hbase : readBy l a M = if (readU l a).2.2 ≠ 0 then ([], 0, (readU l a).2.2) else if (M : Int) < ((readU l a).1 : Int) then ([], 0, 13) else if l.length - (readU l a).2.1 < (readU l a).1 then ([], 0, 10) else (cutS l (readU l a).2.1 (readU l a).1, (readU l a).2.1 + (readU l a).1, 0) := by
    unfold readBy; rw [if_neg (by omega)]
  have hend := readU_end l a
  have hval := readU_val l a
  obtain ⟨v, hv⟩ : ∃ v, v = (readU l a).1 := ⟨_, rfl⟩
  obtain ⟨p, hp⟩ : ∃ p, p = (readU l a).2.1 := ⟨_, rfl⟩
  obtain ⟨k, hk⟩ : ∃ k, k = (readU l a).2.2 := ⟨_, rfl⟩
  rw [← hv, ← hp, ← hk] at hbase
  rw [← hp, ← hk] at hend
  rw [← hv] at hval
  have HU : Hid (RUPost (readU l a) w = RUPost (v, p, k) w) := Lib.hid (by rw [hv, hp, hk])
  clear hv hp hk hs ho ha
  by_cases hk0 : k = 0
  case neg =>
    have H : Hid (BytesPost3 5 (readBy l a M).1 ((readBy l a M).2.1 : Nat) ((readBy l a M).2.2 : Nat) w (.returned (.tuple #[.slice none 0 0, .int .i64 0, .int .i64 k])) w) := Lib.hid (by
      rw [hbase, if_pos hk0]
      exact bytes_none3 (Below.refl _ _))
    have hd2 : ((k : Int) != 0) = true := by rw [bne_iff_ne]; omega
    clear hbase hend hval hk0 hl hcap hlim hm hmn
    go_enter Try.func65, Try.ntmps65
    go_wp2_with (first
      | (go_at_call 69; go_must (refine (rOutside_any A n c a _).mono ?_); rintro e w0 ⟨rfl, rfl⟩; rw [HO.out])
      | (go_at_call 89; go_must (refine (rRu_any l A n c a _ HN.out HR.out).mono ?_); rw [HU.out]; rintro e w1 ⟨rfl, rfl⟩))
    go_ret3
    exact H.out
  subst hk0
  obtain ⟨hpn, ha0, hap⟩ := hend rfl
  rw [if_neg (by simp)] at hbase
  have XV := Lib.hid hval
  by_cases hbig : M < v
  · have H : Hid (BytesPost3 5 (readBy l a M).1 ((readBy l a M).2.1 : Nat) ((readBy l a M).2.2 : Nat) w (.returned (.tuple #[.slice none 0 0, .int .i64 0, .int .i64 13])) w) := Lib.hid (by
      rw [hbase, if_pos (by omega)]
      exact bytes_none3 (Below.refl _ _))
    have hd3 : decide ((M : Int) < (v : Int)) = true := decide_eq_true (by omega)
    have hd4 : decide (M < v) = true := decide_eq_true hbig
    have hM0 : (0 : Int) ≤ (M : Int) := by omega
    clear hbase hval hl hcap hlim hmn hbig hpn hap hend
    go_enter Try.func65, Try.ntmps65
    go_wp2_with (first
      | (go_at_call 69; go_must (refine (rOutside_any A n c a _).mono ?_); rintro e w0 ⟨rfl, rfl⟩; rw [HO.out])
      | (go_at_call 89; go_must (refine (rRu_any l A n c a _ HN.out HR.out).mono ?_); rw [HU.out]; rintro e w1 ⟨rfl, rfl⟩))
    go_ret3
    exact H.out
  rw [if_neg (by omega)] at hbase
  have hd3 : decide ((M : Int) < (v : Int)) = false := decide_eq_false (by omega)
  have hd4 : decide (M < v) = false := decide_eq_false hbig
  have hM0 : (0 : Int) ≤ (M : Int) := by omega
  by_cases htorn : n - p < v
  · have H : Hid (BytesPost3 5 (readBy l a M).1 ((readBy l a M).2.1 : Nat) ((readBy l a M).2.2 : Nat) w (.returned (.tuple #[.slice none 0 0, .int .i64 0, .int .i64 10])) w) := Lib.hid (by
      rw [hbase, if_pos (by omega)]
      exact bytes_none3 (Below.refl _ _))
    have hd5 : decide ((n : Int) - (p : Int) < (v : Int)) = true := decide_eq_true (by omega)
    have hpn2 : p ≤ n := by omega
    clear hbase hval hl hcap hlim hmn hbig hpn hap htorn hend
    go_enter Try.func65, Try.ntmps65
    go_wp2_with (first
      | (go_at_call 69; go_must (refine (rOutside_any A n c a _).mono ?_); rintro e w0 ⟨rfl, rfl⟩; rw [HO.out])
      | (go_at_call 89; go_must (refine (rRu_any l A n c a _ HN.out HR.out).mono ?_); rw [HU.out]; rintro e w1 ⟨rfl, rfl⟩))
    go_ret3
    exact H.out
  rw [if_neg (by omega)] at hbase
  have hd5 : decide ((n : Int) - (p : Int) < (v : Int)) = false := decide_eq_false (by omega)
  have hpv : p + v ≤ n := by omega
  have HB := Lib.hid hbase
  have XS : Hid ((cutS l p v).length = v) := Lib.hid (by unfold cutS; rw [List.length_take, List.length_drop]; omega)
  have hvb : v ≤ 140737488355328 := by omega
  have k7 : IntKind.i64.wrap ((p : Int) + (v : Int)) = (p : Int) + (v : Int) := i64_sum (by omega) (by omega)
  have k8 : p + v - p = v := by omega
  have HP : Hid (∀ z : Int, z = (p : Int) + (v : Int) → Calls Try.prog 90 #[.slice A n c, .int .i64 p, .int .i64 z] w (BytesPost 5 (cutS l p v) w)) := Lib.hid fun z hz => by
    have := part_any l A n c p (p + v) (p : Int) z rfl (by omega) w HS.out (by omega) (by omega) hn
    rwa [k8] at this
  clear hbase hval hl hlim hmn hbig hpn hap htorn hend k8
  go_enter Try.func65, Try.ntmps65
  go_wp2_with (first
    | (go_at_call 69; go_must (refine (rOutside_any A n c a _).mono ?_); rintro e w0 ⟨rfl, rfl⟩; rw [HO.out])
    | (go_at_call 89; go_must (refine (rRu_any l A n c a _ HN.out HR.out).mono ?_); rw [HU.out]; rintro e w1 ⟨rfl, rfl⟩)
    | (go_at_call 90; go_must (refine (HP.out _ (by first | rfl | exact k7 | omega)).mono ?_); rintro e w2 ⟨A2, c2, rfl, hO2, hb2⟩))
  go_ret3
  rw [HB.out]
  refine ⟨A2, c2, ?_, hO2, hb2⟩
  rw [XS.out]
  rw [show ((p + v : Nat) : Int) = (p : Int) + v from by omega]; rfl
end Go.Proofs.Ytcikhlieaoanoaa
