/-
  Laid together by merge.py: CellW4, CellP3, CellW5, CellW6, WireW3, WireW4, WireW6, WireW7, WireW9, CellW8, CellR1, WireR1, WireW13, WireR3, WireR4, CellR2.
-/
import Derived.Test.YtfdbcfaeiglbeaaGreatDoorRQ2
import Derived.Test.YtfdbcfaeiglbeaaGreatDoorRQ1
import Derived.Deep.DeepCutAuto
import Derived.Deep.CutRange
namespace Go.Proofs.YtfdbcfaeiglbeaaGreatDoor
open Go.RowKit
def EntPost (mk : Value → Value) (e : Ent) (w : World) (r : Ending) (w' : World) : Prop :=
  ∃ A c B d D q, r = .returned (mk (entV A e.row.length c B e.qual.length d D e.val.length q e)) ∧ RowsB 5 w.heap.size w' [(A, c, e.row), (B, d, e.qual), (D, q, e.val)] ∧ Below w.heap.size w w'
def NoPost (w : World) (r : Ending) (w' : World) : Prop :=
  (∃ A1 n1 c1 f A2 n2 c2 t s k, r = .returned (.tuple #[.agg #[.slice A1 n1 c1, .int .i64 f, .slice A2 n2 c2, .int .i64 t, .int .i64 s, .int .i64 k, .slice none 0 0], .bool false])) ∧ Below w.heap.size w w'
section
variable {T : TypeId} {base base' : Nat} {w w' : World} {rs : RowL} {mk : Value → Value}
theorem rows_low (h : RowsB T base w rs) (hb : base' ≤ base) : RowsB T base' w rs := ⟨fun i r hr => (h.1 i r hr).rebase hb, h.2⟩
theorem rows_nil (h : RowsB T base w rs) : RowsB T base w (rs ++ [(none, 0, [])]) := h.snoc (own_nil _ _ _ _) fun _ _ _ a b _ e => by cases e
theorem ent_none (hb : Below w.heap.size w w') : EntPost mk noEnt w (.returned (mk (entV none 0 0 none 0 0 none 0 0 noEnt))) w' :=
  ⟨none, 0, none, 0, none, 0, rfl, rows_nil (rows_nil (rows_nil RowsB.nil)), hb⟩
theorem ent_post {row qual : List UInt8} {f t s k : Int} {A1 A2 : Option Addr} {c1 c2 : Nat} (h : RowsB 5 w.heap.size w' [(A1, c1, row), (A2, c2, qual)]) (hb : Below w.heap.size w w') :
    EntPost mk ⟨row, f, qual, t, s, k, []⟩ w (.returned (mk (.agg #[.slice A1 row.length c1, .int .i64 f, .slice A2 qual.length c2, .int .i64 t, .int .i64 s, .int .i64 k, .slice none 0 0]))) w' :=
  ⟨A1, c1, A2, c2, none, 0, rfl, rows_nil h, hb⟩
theorem ent_post_n {row : List UInt8} {f t s k : Int} {A1 : Option Addr} {c1 : Nat} (h : RowsB 5 w.heap.size w' [(A1, c1, row)]) (hb : Below w.heap.size w w') :
    EntPost mk ⟨row, f, [], t, s, k, []⟩ w (.returned (mk (.agg #[.slice A1 row.length c1, .int .i64 f, .slice none 0 0, .int .i64 t, .int .i64 s, .int .i64 k, .slice none 0 0]))) w' :=
  ⟨A1, c1, none, 0, none, 0, rfl, rows_nil (rows_nil h), hb⟩
end
set_option maxRecDepth 100000 in
set_option maxHeartbeats 2000000 in
theorem pa_N_f1a (b : List UInt8) (A : Option Addr) (n c : Nat) (w : World) (rw0 : List UInt8) (p1 er : Nat) (hs : Sl w A n c b) (hn : n ≤ 140737488355000) (h0 : readO b 0 = (rw0, p1, er)) (he : er ≠ 0) :
    Calls Tryz.prog 155 #[.slice A n c] w (NoPost w) := by
  have HS : Hid (∀ x, Below w.heap.size w x → Sl x A n c b) := Lib.hid fun x h => hs.later h
  have HX0 := Lib.hid (Bt.of (T := 5) (Bxs.two w 60 #[.slice none 0 0, .int .i64 0, .slice none 0 0, .int .i64 0, .int .i64 0, .int .i64 0, .slice none 0 0] #[.slice none 0 0, .int .i64 0, .slice none 0 0, .int .i64 0, .int .i64 0, .int .i64 0, .slice none 0 0]))
  have H0 := Lib.hid h0
  have hd : ((er : Int) != 0) = true := by rw [bne_iff_ne]; omega
  have tO1 : True := trivial
  clear hs h0 he
  go_enter Tryz.func155, Tryz.ntmps155
  go_wp2_with (first
    | (go_at_call 196; have _t := tO1; go_must (refine (ro_any b A n c 0 _ (HS.out _ HX0.out.box.up) hn).mono ?_); rw [H0.out]; rintro e x1 hp; obtain ⟨A1, c1, rfl, _, hO1, hb1⟩ := hp.at_ (n := rw0.length) rfl rfl rfl; have HX1 := Lib.hid (HX0.out.fresh hb1 hO1); clear hb1 hp hO1 tO1; have z0 := HX1.out.box.c0 (i := 0) (v := .slice none 0 0) rfl rfl; have y0 := HX1.out.box.c1 (i := 0) (v := .slice none 0 0) rfl rfl; have z1 := HX1.out.box.c0 (i := 1) (v := .int .i64 0) rfl rfl; have y1 := HX1.out.box.c1 (i := 1) (v := .int .i64 0) rfl rfl; have z2 := HX1.out.box.c0 (i := 2) (v := .slice none 0 0) rfl rfl; have y2 := HX1.out.box.c1 (i := 2) (v := .slice none 0 0) rfl rfl; have z3 := HX1.out.box.c0 (i := 3) (v := .int .i64 0) rfl rfl; have y3 := HX1.out.box.c1 (i := 3) (v := .int .i64 0) rfl rfl; have z4 := HX1.out.box.c0 (i := 4) (v := .int .i64 0) rfl rfl; have y4 := HX1.out.box.c1 (i := 4) (v := .int .i64 0) rfl rfl; have z5 := HX1.out.box.c0 (i := 5) (v := .int .i64 0) rfl rfl; have y5 := HX1.out.box.c1 (i := 5) (v := .int .i64 0) rfl rfl; have z6 := HX1.out.box.c0 (i := 6) (v := .slice none 0 0) rfl rfl; have y6 := HX1.out.box.c1 (i := 6) (v := .slice none 0 0) rfl rfl; have fz := HX1.out.box.f0 rfl; have fy := HX1.out.box.f1 rfl))
  (try simp only [Exit.inBlock, Exit.then])
  have HR := Lib.hid ((HX1.out.fill7 rfl (.slice none 0 0) (.int .i64 0) (.slice none 0 0) (.int .i64 0) (.int .i64 0) (.int .i64 0) (.slice none 0 0)))
  refine bodyPost_ret (results_box1 rfl _ _ w.heap.size _ rfl (HR.out.box.cells0 rfl) (by kernel_rfl) (by kernel_rfl)) rfl ?_
  exact ⟨⟨_, _, _, _, _, _, _, _, _, _, rfl⟩, HR.out.box.up⟩
set_option maxRecDepth 100000 in
set_option maxHeartbeats 2000000 in
theorem pa_N_f1b (b : List UInt8) (A : Option Addr) (n c : Nat) (w : World) (row : List UInt8) (p1 : Nat) (hs : Sl w A n c b) (hn : n ≤ 140737488355000) (h0 : readO b 0 = (row, p1, 0)) (hp1 : p1 ≤ n) (hsh : n < p1 + 2) :
    Calls Tryz.prog 155 #[.slice A n c] w (NoPost w) := by
  have HS : Hid (∀ x, Below w.heap.size w x → Sl x A n c b) := Lib.hid fun x h => hs.later h
  have HX0 := Lib.hid (Bt.of (T := 5) (Bxs.two w 60 #[.slice none 0 0, .int .i64 0, .slice none 0 0, .int .i64 0, .int .i64 0, .int .i64 0, .slice none 0 0] #[.slice none 0 0, .int .i64 0, .slice none 0 0, .int .i64 0, .int .i64 0, .int .i64 0, .slice none 0 0]))
  have H0 := Lib.hid h0
  have tO1 : True := trivial
  clear hs h0
  go_enter Tryz.func155, Tryz.ntmps155
  go_wp2_with (first
    | (go_at_call 196; have _t := tO1; go_must (refine (ro_any b A n c 0 _ (HS.out _ HX0.out.box.up) hn).mono ?_); rw [H0.out]; rintro e x1 hp; obtain ⟨A1, c1, rfl, _, hO1, hb1⟩ := hp.at_ (n := row.length) rfl rfl rfl; have HX1 := Lib.hid (HX0.out.fresh hb1 hO1); clear hb1 hp hO1 tO1; have z0 := HX1.out.box.c0 (i := 0) (v := .slice none 0 0) rfl rfl; have y0 := HX1.out.box.c1 (i := 0) (v := .slice none 0 0) rfl rfl; have z1 := HX1.out.box.c0 (i := 1) (v := .int .i64 0) rfl rfl; have y1 := HX1.out.box.c1 (i := 1) (v := .int .i64 0) rfl rfl; have z2 := HX1.out.box.c0 (i := 2) (v := .slice none 0 0) rfl rfl; have y2 := HX1.out.box.c1 (i := 2) (v := .slice none 0 0) rfl rfl; have z3 := HX1.out.box.c0 (i := 3) (v := .int .i64 0) rfl rfl; have y3 := HX1.out.box.c1 (i := 3) (v := .int .i64 0) rfl rfl; have z4 := HX1.out.box.c0 (i := 4) (v := .int .i64 0) rfl rfl; have y4 := HX1.out.box.c1 (i := 4) (v := .int .i64 0) rfl rfl; have z5 := HX1.out.box.c0 (i := 5) (v := .int .i64 0) rfl rfl; have y5 := HX1.out.box.c1 (i := 5) (v := .int .i64 0) rfl rfl; have z6 := HX1.out.box.c0 (i := 6) (v := .slice none 0 0) rfl rfl; have y6 := HX1.out.box.c1 (i := 6) (v := .slice none 0 0) rfl rfl; have fz := HX1.out.box.f0 rfl; have fy := HX1.out.box.f1 rfl))
  (try simp only [Exit.inBlock, Exit.then])
  have HR := Lib.hid ((HX1.out.fill7 rfl (.slice none 0 0) (.int .i64 0) (.slice none 0 0) (.int .i64 0) (.int .i64 0) (.int .i64 0) (.slice none 0 0)))
  refine bodyPost_ret (results_box1 rfl _ _ w.heap.size _ rfl (HR.out.box.cells0 rfl) (by kernel_rfl) (by kernel_rfl)) rfl ?_
  exact ⟨⟨_, _, _, _, _, _, _, _, _, _, rfl⟩, HR.out.box.up⟩
set_option maxRecDepth 100000 in
set_option maxHeartbeats 2000000 in
theorem pa_P_f2a (b : List UInt8) (A : Option Addr) (n c : Nat) (w : World) (row : List UInt8) (p1 : Nat) (f g : UInt8) (ql0 : List UInt8) (p2 er : Nat) (hs : Sl w A n c b) (hn : n ≤ 140737488355000) (h0 : readO b 0 = (row, p1, 0)) (hlen : p1 + 2 ≤ n) (hf : b[p1]? = some f) (hg : b[p1 + 1]? = some g) (hg0 : g.toNat ≠ 0) (h2 : readO b ((p1 + 2 : Nat) : Int) = (ql0, p2, er)) (he : er ≠ 0) :
    Calls Tryz.prog 155 #[.slice A n c] w (NoPost w) := by
  have HS : Hid (∀ x, Below w.heap.size w x → Sl x A n c b) := Lib.hid fun x h => hs.later h
  have HX0 := Lib.hid (Bt.of (T := 5) (Bxs.two w 60 #[.slice none 0 0, .int .i64 0, .slice none 0 0, .int .i64 0, .int .i64 0, .int .i64 0, .slice none 0 0] #[.slice none 0 0, .int .i64 0, .slice none 0 0, .int .i64 0, .int .i64 0, .int .i64 0, .slice none 0 0]))
  have H0 := Lib.hid h0
  obtain ⟨bb, oo, _, rfl, hbb, _, _⟩ := hs.rb.at_ (k := p1) (by omega)
  have HC : Hid (∀ (j : Nat) (u : UInt8) x, b[j]? = some u → Below w.heap.size w x → x.cell? ⟨bb, oo + j, none⟩ = some (.int .u8 (u.toNat : Int))) := Lib.hid fun j u x hu hx => (hs.rb.later hx).cell hu
  have hbb0 : ¬ bb = w.heap.size := by omega
  have hbb1 : ¬ bb = w.heap.size + 1 := by omega
  have HF := Lib.hid hf
  have HG := Lib.hid hg
  have hgd : ((g.toNat : Int) != 0) = true := by rw [bne_iff_ne]; omega
  have H2 := Lib.hid h2
  have hd : ((er : Int) != 0) = true := by rw [bne_iff_ne]; omega
  have q1 : (p1 : Int) < (n : Int) := by omega
  have q2 : (p1 : Int) + 1 < (n : Int) := by omega
  have q3 : decide ((n : Int) < (p1 : Int) + 2) = false := decide_eq_false (by omega)
  have tO1 : True := trivial
  have tO2 : True := trivial
  clear hs h0 hf hg hg0 h2 he
  go_enter Tryz.func155, Tryz.ntmps155
  go_wp2_with (go_at_call 196; have _t := tO1; go_must (refine (ro_any b (some ⟨bb, oo, none⟩) n c 0 _ (HS.out _ HX0.out.box.up) hn).mono ?_); rw [H0.out]; rintro e x1 hp; obtain ⟨A1, c1, rfl, _, hO1, hb1⟩ := hp.at_ (n := row.length) rfl rfl rfl; have HX1 := Lib.hid (HX0.out.fresh hb1 hO1); clear hb1 hp hO1 tO1; have z0 := HX1.out.box.c0 (i := 0) (v := .slice none 0 0) rfl rfl; have y0 := HX1.out.box.c1 (i := 0) (v := .slice none 0 0) rfl rfl; have z1 := HX1.out.box.c0 (i := 1) (v := .int .i64 0) rfl rfl; have y1 := HX1.out.box.c1 (i := 1) (v := .int .i64 0) rfl rfl; have z2 := HX1.out.box.c0 (i := 2) (v := .slice none 0 0) rfl rfl; have y2 := HX1.out.box.c1 (i := 2) (v := .slice none 0 0) rfl rfl; have z3 := HX1.out.box.c0 (i := 3) (v := .int .i64 0) rfl rfl; have y3 := HX1.out.box.c1 (i := 3) (v := .int .i64 0) rfl rfl; have z4 := HX1.out.box.c0 (i := 4) (v := .int .i64 0) rfl rfl; have y4 := HX1.out.box.c1 (i := 4) (v := .int .i64 0) rfl rfl; have z5 := HX1.out.box.c0 (i := 5) (v := .int .i64 0) rfl rfl; have y5 := HX1.out.box.c1 (i := 5) (v := .int .i64 0) rfl rfl; have z6 := HX1.out.box.c0 (i := 6) (v := .slice none 0 0) rfl rfl; have y6 := HX1.out.box.c1 (i := 6) (v := .slice none 0 0) rfl rfl; have fz := HX1.out.box.f0 rfl; have fy := HX1.out.box.f1 rfl; have g1 := HC.out p1 f _ HF.out HX1.out.box.up; have g2 := HC.out (p1 + 1) g _ HG.out HX1.out.box.up)
  go_region
  rw [show wrap64 ((f.toNat : Nat) : Int) = (f.toNat : Int) from wrap64_id (by omega) (by have := f.toNat_lt; omega)]
  go_wp2_with (first
    | (go_at_call 196; have _t := tO2; go_must (refine (ro_any b (some ⟨bb, oo, none⟩) n c _ _ (HS.out _ ((HX1.out.s1_0 (.slice A1 row.length c1)).s1_1 (.int .i64 (f.toNat : Int))).drew.box.up) hn).mono ?_); rw [show ((p1 : Int) + 2) = ((p1 + 2 : Nat) : Int) from by omega, H2.out]; rintro e x2 hp; obtain ⟨A2, c2, rfl, _, hO2, hb2⟩ := hp.at_ (n := ql0.length) rfl rfl rfl; have HX2 := Lib.hid (((HX1.out.s1_0 (.slice A1 row.length c1)).s1_1 (.int .i64 (f.toNat : Int))).drew.fresh hb2 hO2); clear hb2 hp hO2 tO2 g1 g2; clear z0 y0 z1 y1 z2 y2 z3 y3 z4 y4 z5 y5 z6 y6 fz fy; have z0 := HX2.out.box.c0 (i := 0) (v := .slice none 0 0) rfl rfl; have y0 := HX2.out.box.c1 (i := 0) (v := .slice A1 row.length c1) rfl rfl; have z1 := HX2.out.box.c0 (i := 1) (v := .int .i64 0) rfl rfl; have y1 := HX2.out.box.c1 (i := 1) (v := .int .i64 (f.toNat : Int)) rfl rfl; have z2 := HX2.out.box.c0 (i := 2) (v := .slice none 0 0) rfl rfl; have y2 := HX2.out.box.c1 (i := 2) (v := .slice none 0 0) rfl rfl; have z3 := HX2.out.box.c0 (i := 3) (v := .int .i64 0) rfl rfl; have y3 := HX2.out.box.c1 (i := 3) (v := .int .i64 0) rfl rfl; have z4 := HX2.out.box.c0 (i := 4) (v := .int .i64 0) rfl rfl; have y4 := HX2.out.box.c1 (i := 4) (v := .int .i64 0) rfl rfl; have z5 := HX2.out.box.c0 (i := 5) (v := .int .i64 0) rfl rfl; have y5 := HX2.out.box.c1 (i := 5) (v := .int .i64 0) rfl rfl; have z6 := HX2.out.box.c0 (i := 6) (v := .slice none 0 0) rfl rfl; have y6 := HX2.out.box.c1 (i := 6) (v := .slice none 0 0) rfl rfl; have fz := HX2.out.box.f0 rfl; have fy := HX2.out.box.f1 rfl))
  (try simp only [Exit.inBlock, Exit.then])
  have HR := Lib.hid ((HX2.out.fill7 rfl (.slice A1 row.length c1) (.int .i64 (f.toNat : Int)) (.slice none 0 0) (.int .i64 0) (.int .i64 0) (.int .i64 0) (.slice none 0 0)))
  refine bodyPost_ret (results_box1 rfl _ _ w.heap.size _ rfl (HR.out.box.cells0 rfl) (by kernel_rfl) (by kernel_rfl)) rfl ?_
  exact ⟨⟨_, _, _, _, _, _, _, _, _, _, rfl⟩, HR.out.box.up⟩
set_option maxRecDepth 100000 in
set_option maxHeartbeats 2000000 in
theorem pa_P_f2b (b : List UInt8) (A : Option Addr) (n c : Nat) (w : World) (row : List UInt8) (p1 : Nat) (f g : UInt8) (qual : List UInt8) (p2 : Nat) (hs : Sl w A n c b) (hn : n ≤ 140737488355000) (h0 : readO b 0 = (row, p1, 0)) (hlen : p1 + 2 ≤ n) (hf : b[p1]? = some f) (hg : b[p1 + 1]? = some g) (hg0 : g.toNat ≠ 0) (h2 : readO b ((p1 + 2 : Nat) : Int) = (qual, p2, 0)) (hsh : n ≤ p2) :
    Calls Tryz.prog 155 #[.slice A n c] w (NoPost w) := by
  have HS : Hid (∀ x, Below w.heap.size w x → Sl x A n c b) := Lib.hid fun x h => hs.later h
  have HX0 := Lib.hid (Bt.of (T := 5) (Bxs.two w 60 #[.slice none 0 0, .int .i64 0, .slice none 0 0, .int .i64 0, .int .i64 0, .int .i64 0, .slice none 0 0] #[.slice none 0 0, .int .i64 0, .slice none 0 0, .int .i64 0, .int .i64 0, .int .i64 0, .slice none 0 0]))
  have H0 := Lib.hid h0
  obtain ⟨bb, oo, _, rfl, hbb, _, _⟩ := hs.rb.at_ (k := p1) (by omega)
  have HC : Hid (∀ (j : Nat) (u : UInt8) x, b[j]? = some u → Below w.heap.size w x → x.cell? ⟨bb, oo + j, none⟩ = some (.int .u8 (u.toNat : Int))) := Lib.hid fun j u x hu hx => (hs.rb.later hx).cell hu
  have hbb0 : ¬ bb = w.heap.size := by omega
  have hbb1 : ¬ bb = w.heap.size + 1 := by omega
  have HF := Lib.hid hf
  have HG := Lib.hid hg
  have hgd : ((g.toNat : Int) != 0) = true := by rw [bne_iff_ne]; omega
  have H2 := Lib.hid h2
  have q1 : (p1 : Int) < (n : Int) := by omega
  have q2 : (p1 : Int) + 1 < (n : Int) := by omega
  have q3 : decide ((n : Int) < (p1 : Int) + 2) = false := decide_eq_false (by omega)
  have tO1 : True := trivial
  have tO2 : True := trivial
  clear hs h0 hf hg hg0 h2
  go_enter Tryz.func155, Tryz.ntmps155
  go_wp2_with (go_at_call 196; have _t := tO1; go_must (refine (ro_any b (some ⟨bb, oo, none⟩) n c 0 _ (HS.out _ HX0.out.box.up) hn).mono ?_); rw [H0.out]; rintro e x1 hp; obtain ⟨A1, c1, rfl, _, hO1, hb1⟩ := hp.at_ (n := row.length) rfl rfl rfl; have HX1 := Lib.hid (HX0.out.fresh hb1 hO1); clear hb1 hp hO1 tO1; have z0 := HX1.out.box.c0 (i := 0) (v := .slice none 0 0) rfl rfl; have y0 := HX1.out.box.c1 (i := 0) (v := .slice none 0 0) rfl rfl; have z1 := HX1.out.box.c0 (i := 1) (v := .int .i64 0) rfl rfl; have y1 := HX1.out.box.c1 (i := 1) (v := .int .i64 0) rfl rfl; have z2 := HX1.out.box.c0 (i := 2) (v := .slice none 0 0) rfl rfl; have y2 := HX1.out.box.c1 (i := 2) (v := .slice none 0 0) rfl rfl; have z3 := HX1.out.box.c0 (i := 3) (v := .int .i64 0) rfl rfl; have y3 := HX1.out.box.c1 (i := 3) (v := .int .i64 0) rfl rfl; have z4 := HX1.out.box.c0 (i := 4) (v := .int .i64 0) rfl rfl; have y4 := HX1.out.box.c1 (i := 4) (v := .int .i64 0) rfl rfl; have z5 := HX1.out.box.c0 (i := 5) (v := .int .i64 0) rfl rfl; have y5 := HX1.out.box.c1 (i := 5) (v := .int .i64 0) rfl rfl; have z6 := HX1.out.box.c0 (i := 6) (v := .slice none 0 0) rfl rfl; have y6 := HX1.out.box.c1 (i := 6) (v := .slice none 0 0) rfl rfl; have fz := HX1.out.box.f0 rfl; have fy := HX1.out.box.f1 rfl; have g1 := HC.out p1 f _ HF.out HX1.out.box.up; have g2 := HC.out (p1 + 1) g _ HG.out HX1.out.box.up)
  go_region
  rw [show wrap64 ((f.toNat : Nat) : Int) = (f.toNat : Int) from wrap64_id (by omega) (by have := f.toNat_lt; omega)]
  go_wp2_with (first
    | (go_at_call 196; have _t := tO2; go_must (refine (ro_any b (some ⟨bb, oo, none⟩) n c _ _ (HS.out _ ((HX1.out.s1_0 (.slice A1 row.length c1)).s1_1 (.int .i64 (f.toNat : Int))).drew.box.up) hn).mono ?_); rw [show ((p1 : Int) + 2) = ((p1 + 2 : Nat) : Int) from by omega, H2.out]; rintro e x2 hp; obtain ⟨A2, c2, rfl, _, hO2, hb2⟩ := hp.at_ (n := qual.length) rfl rfl rfl; have HX2 := Lib.hid (((HX1.out.s1_0 (.slice A1 row.length c1)).s1_1 (.int .i64 (f.toNat : Int))).drew.fresh hb2 hO2); clear hb2 hp hO2 tO2 g1 g2; clear z0 y0 z1 y1 z2 y2 z3 y3 z4 y4 z5 y5 z6 y6 fz fy; have z0 := HX2.out.box.c0 (i := 0) (v := .slice none 0 0) rfl rfl; have y0 := HX2.out.box.c1 (i := 0) (v := .slice A1 row.length c1) rfl rfl; have z1 := HX2.out.box.c0 (i := 1) (v := .int .i64 0) rfl rfl; have y1 := HX2.out.box.c1 (i := 1) (v := .int .i64 (f.toNat : Int)) rfl rfl; have z2 := HX2.out.box.c0 (i := 2) (v := .slice none 0 0) rfl rfl; have y2 := HX2.out.box.c1 (i := 2) (v := .slice none 0 0) rfl rfl; have z3 := HX2.out.box.c0 (i := 3) (v := .int .i64 0) rfl rfl; have y3 := HX2.out.box.c1 (i := 3) (v := .int .i64 0) rfl rfl; have z4 := HX2.out.box.c0 (i := 4) (v := .int .i64 0) rfl rfl; have y4 := HX2.out.box.c1 (i := 4) (v := .int .i64 0) rfl rfl; have z5 := HX2.out.box.c0 (i := 5) (v := .int .i64 0) rfl rfl; have y5 := HX2.out.box.c1 (i := 5) (v := .int .i64 0) rfl rfl; have z6 := HX2.out.box.c0 (i := 6) (v := .slice none 0 0) rfl rfl; have y6 := HX2.out.box.c1 (i := 6) (v := .slice none 0 0) rfl rfl; have fz := HX2.out.box.f0 rfl; have fy := HX2.out.box.f1 rfl))
  (try simp only [Exit.inBlock, Exit.then])
  have HR := Lib.hid ((HX2.out.fill7 rfl (.slice A1 row.length c1) (.int .i64 (f.toNat : Int)) (.slice none 0 0) (.int .i64 0) (.int .i64 0) (.int .i64 0) (.slice none 0 0)))
  refine bodyPost_ret (results_box1 rfl _ _ w.heap.size _ rfl (HR.out.box.cells0 rfl) (by kernel_rfl) (by kernel_rfl)) rfl ?_
  exact ⟨⟨_, _, _, _, _, _, _, _, _, _, rfl⟩, HR.out.box.up⟩
set_option maxRecDepth 100000 in
set_option maxHeartbeats 2000000 in
theorem pa_P_f3 (b : List UInt8) (A : Option Addr) (n c : Nat) (w : World) (row : List UInt8) (p1 : Nat) (f g : UInt8) (qual : List UInt8) (p2 : Nat) (t p3 er : Nat) (hs : Sl w A n c b) (hn : n ≤ 140737488355000) (h0 : readO b 0 = (row, p1, 0)) (hlen : p1 + 2 ≤ n) (hf : b[p1]? = some f) (hg : b[p1 + 1]? = some g) (hg0 : g.toNat ≠ 0) (h2 : readO b ((p1 + 2 : Nat) : Int) = (qual, p2, 0)) (hlen2 : p2 < n) (h3 : readFl b (((p2 + 1) : Nat) : Int) = (t, p3, er)) (he : er ≠ 0) :
    Calls Tryz.prog 155 #[.slice A n c] w (NoPost w) := by
  have HS : Hid (∀ x, Below w.heap.size w x → Sl x A n c b) := Lib.hid fun x h => hs.later h
  have HX0 := Lib.hid (Bt.of (T := 5) (Bxs.two w 60 #[.slice none 0 0, .int .i64 0, .slice none 0 0, .int .i64 0, .int .i64 0, .int .i64 0, .slice none 0 0] #[.slice none 0 0, .int .i64 0, .slice none 0 0, .int .i64 0, .int .i64 0, .int .i64 0, .slice none 0 0]))
  have H0 := Lib.hid h0
  obtain ⟨bb, oo, _, rfl, hbb, _, _⟩ := hs.rb.at_ (k := p1) (by omega)
  have HC : Hid (∀ (j : Nat) (u : UInt8) x, b[j]? = some u → Below w.heap.size w x → x.cell? ⟨bb, oo + j, none⟩ = some (.int .u8 (u.toNat : Int))) := Lib.hid fun j u x hu hx => (hs.rb.later hx).cell hu
  have hbb0 : ¬ bb = w.heap.size := by omega
  have hbb1 : ¬ bb = w.heap.size + 1 := by omega
  have HF := Lib.hid hf
  have HG := Lib.hid hg
  have hgd : ((g.toNat : Int) != 0) = true := by rw [bne_iff_ne]; omega
  have H2 := Lib.hid h2
  have H3 := Lib.hid h3
  have hd : ((er : Int) != 0) = true := by rw [bne_iff_ne]; omega
  have q1 : (p1 : Int) < (n : Int) := by omega
  have q2 : (p1 : Int) + 1 < (n : Int) := by omega
  have q3 : decide ((n : Int) < (p1 : Int) + 2) = false := decide_eq_false (by omega)
  have q4 : (p2 : Int) < (n : Int) := by omega
  have tO1 : True := trivial
  have tO2 : True := trivial
  have tF1 : True := trivial
  clear hs h0 hf hg hg0 h2 h3 he
  go_enter Tryz.func155, Tryz.ntmps155
  go_wp2_with (go_at_call 196; have _t := tO1; go_must (refine (ro_any b (some ⟨bb, oo, none⟩) n c 0 _ (HS.out _ HX0.out.box.up) hn).mono ?_); rw [H0.out]; rintro e x1 hp; obtain ⟨A1, c1, rfl, _, hO1, hb1⟩ := hp.at_ (n := row.length) rfl rfl rfl; have HX1 := Lib.hid (HX0.out.fresh hb1 hO1); clear hb1 hp hO1 tO1; have z0 := HX1.out.box.c0 (i := 0) (v := .slice none 0 0) rfl rfl; have y0 := HX1.out.box.c1 (i := 0) (v := .slice none 0 0) rfl rfl; have z1 := HX1.out.box.c0 (i := 1) (v := .int .i64 0) rfl rfl; have y1 := HX1.out.box.c1 (i := 1) (v := .int .i64 0) rfl rfl; have z2 := HX1.out.box.c0 (i := 2) (v := .slice none 0 0) rfl rfl; have y2 := HX1.out.box.c1 (i := 2) (v := .slice none 0 0) rfl rfl; have z3 := HX1.out.box.c0 (i := 3) (v := .int .i64 0) rfl rfl; have y3 := HX1.out.box.c1 (i := 3) (v := .int .i64 0) rfl rfl; have z4 := HX1.out.box.c0 (i := 4) (v := .int .i64 0) rfl rfl; have y4 := HX1.out.box.c1 (i := 4) (v := .int .i64 0) rfl rfl; have z5 := HX1.out.box.c0 (i := 5) (v := .int .i64 0) rfl rfl; have y5 := HX1.out.box.c1 (i := 5) (v := .int .i64 0) rfl rfl; have z6 := HX1.out.box.c0 (i := 6) (v := .slice none 0 0) rfl rfl; have y6 := HX1.out.box.c1 (i := 6) (v := .slice none 0 0) rfl rfl; have fz := HX1.out.box.f0 rfl; have fy := HX1.out.box.f1 rfl; have g1 := HC.out p1 f _ HF.out HX1.out.box.up; have g2 := HC.out (p1 + 1) g _ HG.out HX1.out.box.up)
  go_region
  rw [show wrap64 ((f.toNat : Nat) : Int) = (f.toNat : Int) from wrap64_id (by omega) (by have := f.toNat_lt; omega)]
  go_wp2_with (first
    | (go_at_call 196; have _t := tO2; go_must (refine (ro_any b (some ⟨bb, oo, none⟩) n c _ _ (HS.out _ ((HX1.out.s1_0 (.slice A1 row.length c1)).s1_1 (.int .i64 (f.toNat : Int))).drew.box.up) hn).mono ?_); rw [show ((p1 : Int) + 2) = ((p1 + 2 : Nat) : Int) from by omega, H2.out]; rintro e x2 hp; obtain ⟨A2, c2, rfl, _, hO2, hb2⟩ := hp.at_ (n := qual.length) rfl rfl rfl; have HX2 := Lib.hid (((HX1.out.s1_0 (.slice A1 row.length c1)).s1_1 (.int .i64 (f.toNat : Int))).drew.fresh hb2 hO2); clear hb2 hp hO2 tO2 g1 g2; clear z0 y0 z1 y1 z2 y2 z3 y3 z4 y4 z5 y5 z6 y6 fz fy; have z0 := HX2.out.box.c0 (i := 0) (v := .slice none 0 0) rfl rfl; have y0 := HX2.out.box.c1 (i := 0) (v := .slice A1 row.length c1) rfl rfl; have z1 := HX2.out.box.c0 (i := 1) (v := .int .i64 0) rfl rfl; have y1 := HX2.out.box.c1 (i := 1) (v := .int .i64 (f.toNat : Int)) rfl rfl; have z2 := HX2.out.box.c0 (i := 2) (v := .slice none 0 0) rfl rfl; have y2 := HX2.out.box.c1 (i := 2) (v := .slice none 0 0) rfl rfl; have z3 := HX2.out.box.c0 (i := 3) (v := .int .i64 0) rfl rfl; have y3 := HX2.out.box.c1 (i := 3) (v := .int .i64 0) rfl rfl; have z4 := HX2.out.box.c0 (i := 4) (v := .int .i64 0) rfl rfl; have y4 := HX2.out.box.c1 (i := 4) (v := .int .i64 0) rfl rfl; have z5 := HX2.out.box.c0 (i := 5) (v := .int .i64 0) rfl rfl; have y5 := HX2.out.box.c1 (i := 5) (v := .int .i64 0) rfl rfl; have z6 := HX2.out.box.c0 (i := 6) (v := .slice none 0 0) rfl rfl; have y6 := HX2.out.box.c1 (i := 6) (v := .slice none 0 0) rfl rfl; have fz := HX2.out.box.f0 rfl; have fy := HX2.out.box.f1 rfl)
    | (go_at_call 197; have _t := tF1; go_must (refine (rfl_any b (some ⟨bb, oo, none⟩) n c _ _ (HS.out _ (HX2.out.s1_2 (.slice A2 qual.length c2)).box.up) hn).mono ?_); rw [show ((p2 : Int) + 1) = ((p2 + 1 : Nat) : Int) from by omega, H3.out]; rintro e x3 ⟨rfl, rfl⟩; clear tF1))
  (try simp only [Exit.inBlock, Exit.then])
  have HR := Lib.hid ((((HX2.out.s1_2 (.slice A2 qual.length c2)).s1_3 (.int .i64 (t : Int))).fill7 rfl (.slice A1 row.length c1) (.int .i64 (f.toNat : Int)) (.slice A2 qual.length c2) (.int .i64 (t : Int)) (.int .i64 0) (.int .i64 0) (.slice none 0 0)))
  refine bodyPost_ret (results_box1 rfl _ _ w.heap.size _ rfl (HR.out.box.cells0 rfl) (by kernel_rfl) (by kernel_rfl)) rfl ?_
  exact ⟨⟨_, _, _, _, _, _, _, _, _, _, rfl⟩, HR.out.box.up⟩
set_option maxRecDepth 100000 in
set_option maxHeartbeats 2000000 in
theorem pa_P_f4a (b : List UInt8) (A : Option Addr) (n c : Nat) (w : World) (row : List UInt8) (p1 : Nat) (f g : UInt8) (qual : List UInt8) (p2 : Nat) (t p3 : Nat) (s p4 er : Nat) (hs : Sl w A n c b) (hn : n ≤ 140737488355000) (h0 : readO b 0 = (row, p1, 0)) (hlen : p1 + 2 ≤ n) (hf : b[p1]? = some f) (hg : b[p1 + 1]? = some g) (hg0 : g.toNat ≠ 0) (h2 : readO b ((p1 + 2 : Nat) : Int) = (qual, p2, 0)) (hlen2 : p2 < n) (h3 : readFl b (((p2 + 1) : Nat) : Int) = (t, p3, 0)) (h4 : readFl b (p3 : Int) = (s, p4, er)) (he : er ≠ 0) :
    Calls Tryz.prog 155 #[.slice A n c] w (NoPost w) := by
  have HS : Hid (∀ x, Below w.heap.size w x → Sl x A n c b) := Lib.hid fun x h => hs.later h
  have HX0 := Lib.hid (Bt.of (T := 5) (Bxs.two w 60 #[.slice none 0 0, .int .i64 0, .slice none 0 0, .int .i64 0, .int .i64 0, .int .i64 0, .slice none 0 0] #[.slice none 0 0, .int .i64 0, .slice none 0 0, .int .i64 0, .int .i64 0, .int .i64 0, .slice none 0 0]))
  have H0 := Lib.hid h0
  obtain ⟨bb, oo, _, rfl, hbb, _, _⟩ := hs.rb.at_ (k := p1) (by omega)
  have HC : Hid (∀ (j : Nat) (u : UInt8) x, b[j]? = some u → Below w.heap.size w x → x.cell? ⟨bb, oo + j, none⟩ = some (.int .u8 (u.toNat : Int))) := Lib.hid fun j u x hu hx => (hs.rb.later hx).cell hu
  have hbb0 : ¬ bb = w.heap.size := by omega
  have hbb1 : ¬ bb = w.heap.size + 1 := by omega
  have HF := Lib.hid hf
  have HG := Lib.hid hg
  have hgd : ((g.toNat : Int) != 0) = true := by rw [bne_iff_ne]; omega
  have H2 := Lib.hid h2
  have H3 := Lib.hid h3
  have H4 := Lib.hid h4
  have hd : ((er : Int) != 0) = true := by rw [bne_iff_ne]; omega
  have q1 : (p1 : Int) < (n : Int) := by omega
  have q2 : (p1 : Int) + 1 < (n : Int) := by omega
  have q3 : decide ((n : Int) < (p1 : Int) + 2) = false := decide_eq_false (by omega)
  have q4 : (p2 : Int) < (n : Int) := by omega
  have tO1 : True := trivial
  have tO2 : True := trivial
  have tF1 : True := trivial
  clear hs h0 hf hg hg0 h2 h3 h4 he
  go_enter Tryz.func155, Tryz.ntmps155
  go_wp2_with (go_at_call 196; have _t := tO1; go_must (refine (ro_any b (some ⟨bb, oo, none⟩) n c 0 _ (HS.out _ HX0.out.box.up) hn).mono ?_); rw [H0.out]; rintro e x1 hp; obtain ⟨A1, c1, rfl, _, hO1, hb1⟩ := hp.at_ (n := row.length) rfl rfl rfl; have HX1 := Lib.hid (HX0.out.fresh hb1 hO1); clear hb1 hp hO1 tO1; have z0 := HX1.out.box.c0 (i := 0) (v := .slice none 0 0) rfl rfl; have y0 := HX1.out.box.c1 (i := 0) (v := .slice none 0 0) rfl rfl; have z1 := HX1.out.box.c0 (i := 1) (v := .int .i64 0) rfl rfl; have y1 := HX1.out.box.c1 (i := 1) (v := .int .i64 0) rfl rfl; have z2 := HX1.out.box.c0 (i := 2) (v := .slice none 0 0) rfl rfl; have y2 := HX1.out.box.c1 (i := 2) (v := .slice none 0 0) rfl rfl; have z3 := HX1.out.box.c0 (i := 3) (v := .int .i64 0) rfl rfl; have y3 := HX1.out.box.c1 (i := 3) (v := .int .i64 0) rfl rfl; have z4 := HX1.out.box.c0 (i := 4) (v := .int .i64 0) rfl rfl; have y4 := HX1.out.box.c1 (i := 4) (v := .int .i64 0) rfl rfl; have z5 := HX1.out.box.c0 (i := 5) (v := .int .i64 0) rfl rfl; have y5 := HX1.out.box.c1 (i := 5) (v := .int .i64 0) rfl rfl; have z6 := HX1.out.box.c0 (i := 6) (v := .slice none 0 0) rfl rfl; have y6 := HX1.out.box.c1 (i := 6) (v := .slice none 0 0) rfl rfl; have fz := HX1.out.box.f0 rfl; have fy := HX1.out.box.f1 rfl; have g1 := HC.out p1 f _ HF.out HX1.out.box.up; have g2 := HC.out (p1 + 1) g _ HG.out HX1.out.box.up)
  go_region
  rw [show wrap64 ((f.toNat : Nat) : Int) = (f.toNat : Int) from wrap64_id (by omega) (by have := f.toNat_lt; omega)]
  go_wp2_with (first
    | (go_at_call 196; have _t := tO2; go_must (refine (ro_any b (some ⟨bb, oo, none⟩) n c _ _ (HS.out _ ((HX1.out.s1_0 (.slice A1 row.length c1)).s1_1 (.int .i64 (f.toNat : Int))).drew.box.up) hn).mono ?_); rw [show ((p1 : Int) + 2) = ((p1 + 2 : Nat) : Int) from by omega, H2.out]; rintro e x2 hp; obtain ⟨A2, c2, rfl, _, hO2, hb2⟩ := hp.at_ (n := qual.length) rfl rfl rfl; have HX2 := Lib.hid (((HX1.out.s1_0 (.slice A1 row.length c1)).s1_1 (.int .i64 (f.toNat : Int))).drew.fresh hb2 hO2); clear hb2 hp hO2 tO2 g1 g2; clear z0 y0 z1 y1 z2 y2 z3 y3 z4 y4 z5 y5 z6 y6 fz fy; have z0 := HX2.out.box.c0 (i := 0) (v := .slice none 0 0) rfl rfl; have y0 := HX2.out.box.c1 (i := 0) (v := .slice A1 row.length c1) rfl rfl; have z1 := HX2.out.box.c0 (i := 1) (v := .int .i64 0) rfl rfl; have y1 := HX2.out.box.c1 (i := 1) (v := .int .i64 (f.toNat : Int)) rfl rfl; have z2 := HX2.out.box.c0 (i := 2) (v := .slice none 0 0) rfl rfl; have y2 := HX2.out.box.c1 (i := 2) (v := .slice none 0 0) rfl rfl; have z3 := HX2.out.box.c0 (i := 3) (v := .int .i64 0) rfl rfl; have y3 := HX2.out.box.c1 (i := 3) (v := .int .i64 0) rfl rfl; have z4 := HX2.out.box.c0 (i := 4) (v := .int .i64 0) rfl rfl; have y4 := HX2.out.box.c1 (i := 4) (v := .int .i64 0) rfl rfl; have z5 := HX2.out.box.c0 (i := 5) (v := .int .i64 0) rfl rfl; have y5 := HX2.out.box.c1 (i := 5) (v := .int .i64 0) rfl rfl; have z6 := HX2.out.box.c0 (i := 6) (v := .slice none 0 0) rfl rfl; have y6 := HX2.out.box.c1 (i := 6) (v := .slice none 0 0) rfl rfl; have fz := HX2.out.box.f0 rfl; have fy := HX2.out.box.f1 rfl)
    | (go_at_call 197; have _t := tF1; go_must (refine (rfl_any b (some ⟨bb, oo, none⟩) n c _ _ (HS.out _ (HX2.out.s1_2 (.slice A2 qual.length c2)).box.up) hn).mono ?_); rw [show ((p2 : Int) + 1) = ((p2 + 1 : Nat) : Int) from by omega, H3.out]; rintro e x3 ⟨rfl, rfl⟩; clear tF1)
    | (go_at_call 197; go_must (refine (rfl_any b (some ⟨bb, oo, none⟩) n c _ _ (HS.out _ ((HX2.out.s1_2 (.slice A2 qual.length c2)).s1_3 (.int .i64 (t : Int))).box.up) hn).mono ?_); rw [H4.out]; rintro e x4 ⟨rfl, rfl⟩))
  (try simp only [Exit.inBlock, Exit.then])
  have HR := Lib.hid (((((HX2.out.s1_2 (.slice A2 qual.length c2)).s1_3 (.int .i64 (t : Int))).s1_4 (.int .i64 (s : Int))).fill7 rfl (.slice A1 row.length c1) (.int .i64 (f.toNat : Int)) (.slice A2 qual.length c2) (.int .i64 (t : Int)) (.int .i64 (s : Int)) (.int .i64 0) (.slice none 0 0)))
  refine bodyPost_ret (results_box1 rfl _ _ w.heap.size _ rfl (HR.out.box.cells0 rfl) (by kernel_rfl) (by kernel_rfl)) rfl ?_
  exact ⟨⟨_, _, _, _, _, _, _, _, _, _, rfl⟩, HR.out.box.up⟩
set_option maxRecDepth 100000 in
set_option maxHeartbeats 2000000 in
theorem pa_P_f4b (b : List UInt8) (A : Option Addr) (n c : Nat) (w : World) (row : List UInt8) (p1 : Nat) (f g : UInt8) (qual : List UInt8) (p2 : Nat) (t p3 : Nat) (s p4 : Nat) (hs : Sl w A n c b) (hn : n ≤ 140737488355000) (h0 : readO b 0 = (row, p1, 0)) (hlen : p1 + 2 ≤ n) (hf : b[p1]? = some f) (hg : b[p1 + 1]? = some g) (hg0 : g.toNat ≠ 0) (h2 : readO b ((p1 + 2 : Nat) : Int) = (qual, p2, 0)) (hlen2 : p2 < n) (h3 : readFl b (((p2 + 1) : Nat) : Int) = (t, p3, 0)) (h4 : readFl b (p3 : Int) = (s, p4, 0)) (hsh : n ≤ p4) :
    Calls Tryz.prog 155 #[.slice A n c] w (NoPost w) := by
  have HS : Hid (∀ x, Below w.heap.size w x → Sl x A n c b) := Lib.hid fun x h => hs.later h
  have HX0 := Lib.hid (Bt.of (T := 5) (Bxs.two w 60 #[.slice none 0 0, .int .i64 0, .slice none 0 0, .int .i64 0, .int .i64 0, .int .i64 0, .slice none 0 0] #[.slice none 0 0, .int .i64 0, .slice none 0 0, .int .i64 0, .int .i64 0, .int .i64 0, .slice none 0 0]))
  have H0 := Lib.hid h0
  obtain ⟨bb, oo, _, rfl, hbb, _, _⟩ := hs.rb.at_ (k := p1) (by omega)
  have HC : Hid (∀ (j : Nat) (u : UInt8) x, b[j]? = some u → Below w.heap.size w x → x.cell? ⟨bb, oo + j, none⟩ = some (.int .u8 (u.toNat : Int))) := Lib.hid fun j u x hu hx => (hs.rb.later hx).cell hu
  have hbb0 : ¬ bb = w.heap.size := by omega
  have hbb1 : ¬ bb = w.heap.size + 1 := by omega
  have HF := Lib.hid hf
  have HG := Lib.hid hg
  have hgd : ((g.toNat : Int) != 0) = true := by rw [bne_iff_ne]; omega
  have H2 := Lib.hid h2
  have H3 := Lib.hid h3
  have H4 := Lib.hid h4
  have q1 : (p1 : Int) < (n : Int) := by omega
  have q2 : (p1 : Int) + 1 < (n : Int) := by omega
  have q3 : decide ((n : Int) < (p1 : Int) + 2) = false := decide_eq_false (by omega)
  have q4 : (p2 : Int) < (n : Int) := by omega
  have tO1 : True := trivial
  have tO2 : True := trivial
  have tF1 : True := trivial
  clear hs h0 hf hg hg0 h2 h3 h4
  go_enter Tryz.func155, Tryz.ntmps155
  go_wp2_with (go_at_call 196; have _t := tO1; go_must (refine (ro_any b (some ⟨bb, oo, none⟩) n c 0 _ (HS.out _ HX0.out.box.up) hn).mono ?_); rw [H0.out]; rintro e x1 hp; obtain ⟨A1, c1, rfl, _, hO1, hb1⟩ := hp.at_ (n := row.length) rfl rfl rfl; have HX1 := Lib.hid (HX0.out.fresh hb1 hO1); clear hb1 hp hO1 tO1; have z0 := HX1.out.box.c0 (i := 0) (v := .slice none 0 0) rfl rfl; have y0 := HX1.out.box.c1 (i := 0) (v := .slice none 0 0) rfl rfl; have z1 := HX1.out.box.c0 (i := 1) (v := .int .i64 0) rfl rfl; have y1 := HX1.out.box.c1 (i := 1) (v := .int .i64 0) rfl rfl; have z2 := HX1.out.box.c0 (i := 2) (v := .slice none 0 0) rfl rfl; have y2 := HX1.out.box.c1 (i := 2) (v := .slice none 0 0) rfl rfl; have z3 := HX1.out.box.c0 (i := 3) (v := .int .i64 0) rfl rfl; have y3 := HX1.out.box.c1 (i := 3) (v := .int .i64 0) rfl rfl; have z4 := HX1.out.box.c0 (i := 4) (v := .int .i64 0) rfl rfl; have y4 := HX1.out.box.c1 (i := 4) (v := .int .i64 0) rfl rfl; have z5 := HX1.out.box.c0 (i := 5) (v := .int .i64 0) rfl rfl; have y5 := HX1.out.box.c1 (i := 5) (v := .int .i64 0) rfl rfl; have z6 := HX1.out.box.c0 (i := 6) (v := .slice none 0 0) rfl rfl; have y6 := HX1.out.box.c1 (i := 6) (v := .slice none 0 0) rfl rfl; have fz := HX1.out.box.f0 rfl; have fy := HX1.out.box.f1 rfl; have g1 := HC.out p1 f _ HF.out HX1.out.box.up; have g2 := HC.out (p1 + 1) g _ HG.out HX1.out.box.up)
  go_region
  rw [show wrap64 ((f.toNat : Nat) : Int) = (f.toNat : Int) from wrap64_id (by omega) (by have := f.toNat_lt; omega)]
  go_wp2_with (first
    | (go_at_call 196; have _t := tO2; go_must (refine (ro_any b (some ⟨bb, oo, none⟩) n c _ _ (HS.out _ ((HX1.out.s1_0 (.slice A1 row.length c1)).s1_1 (.int .i64 (f.toNat : Int))).drew.box.up) hn).mono ?_); rw [show ((p1 : Int) + 2) = ((p1 + 2 : Nat) : Int) from by omega, H2.out]; rintro e x2 hp; obtain ⟨A2, c2, rfl, _, hO2, hb2⟩ := hp.at_ (n := qual.length) rfl rfl rfl; have HX2 := Lib.hid (((HX1.out.s1_0 (.slice A1 row.length c1)).s1_1 (.int .i64 (f.toNat : Int))).drew.fresh hb2 hO2); clear hb2 hp hO2 tO2 g1 g2; clear z0 y0 z1 y1 z2 y2 z3 y3 z4 y4 z5 y5 z6 y6 fz fy; have z0 := HX2.out.box.c0 (i := 0) (v := .slice none 0 0) rfl rfl; have y0 := HX2.out.box.c1 (i := 0) (v := .slice A1 row.length c1) rfl rfl; have z1 := HX2.out.box.c0 (i := 1) (v := .int .i64 0) rfl rfl; have y1 := HX2.out.box.c1 (i := 1) (v := .int .i64 (f.toNat : Int)) rfl rfl; have z2 := HX2.out.box.c0 (i := 2) (v := .slice none 0 0) rfl rfl; have y2 := HX2.out.box.c1 (i := 2) (v := .slice none 0 0) rfl rfl; have z3 := HX2.out.box.c0 (i := 3) (v := .int .i64 0) rfl rfl; have y3 := HX2.out.box.c1 (i := 3) (v := .int .i64 0) rfl rfl; have z4 := HX2.out.box.c0 (i := 4) (v := .int .i64 0) rfl rfl; have y4 := HX2.out.box.c1 (i := 4) (v := .int .i64 0) rfl rfl; have z5 := HX2.out.box.c0 (i := 5) (v := .int .i64 0) rfl rfl; have y5 := HX2.out.box.c1 (i := 5) (v := .int .i64 0) rfl rfl; have z6 := HX2.out.box.c0 (i := 6) (v := .slice none 0 0) rfl rfl; have y6 := HX2.out.box.c1 (i := 6) (v := .slice none 0 0) rfl rfl; have fz := HX2.out.box.f0 rfl; have fy := HX2.out.box.f1 rfl)
    | (go_at_call 197; have _t := tF1; go_must (refine (rfl_any b (some ⟨bb, oo, none⟩) n c _ _ (HS.out _ (HX2.out.s1_2 (.slice A2 qual.length c2)).box.up) hn).mono ?_); rw [show ((p2 : Int) + 1) = ((p2 + 1 : Nat) : Int) from by omega, H3.out]; rintro e x3 ⟨rfl, rfl⟩; clear tF1)
    | (go_at_call 197; go_must (refine (rfl_any b (some ⟨bb, oo, none⟩) n c _ _ (HS.out _ ((HX2.out.s1_2 (.slice A2 qual.length c2)).s1_3 (.int .i64 (t : Int))).box.up) hn).mono ?_); rw [H4.out]; rintro e x4 ⟨rfl, rfl⟩))
  (try simp only [Exit.inBlock, Exit.then])
  have HR := Lib.hid (((((HX2.out.s1_2 (.slice A2 qual.length c2)).s1_3 (.int .i64 (t : Int))).s1_4 (.int .i64 (s : Int))).fill7 rfl (.slice A1 row.length c1) (.int .i64 (f.toNat : Int)) (.slice A2 qual.length c2) (.int .i64 (t : Int)) (.int .i64 (s : Int)) (.int .i64 0) (.slice none 0 0)))
  refine bodyPost_ret (results_box1 rfl _ _ w.heap.size _ rfl (HR.out.box.cells0 rfl) (by kernel_rfl) (by kernel_rfl)) rfl ?_
  exact ⟨⟨_, _, _, _, _, _, _, _, _, _, rfl⟩, HR.out.box.up⟩
set_option maxRecDepth 100000 in
set_option maxHeartbeats 2000000 in
theorem pa_P_ok (b : List UInt8) (A : Option Addr) (n c : Nat) (w : World) (row : List UInt8) (p1 : Nat) (f g : UInt8) (qual : List UInt8) (p2 : Nat) (t p3 : Nat) (s p4 : Nat) (k : UInt8) (hs : Sl w A n c b) (hn : n ≤ 140737488355000) (h0 : readO b 0 = (row, p1, 0)) (hlen : p1 + 2 ≤ n) (hf : b[p1]? = some f) (hg : b[p1 + 1]? = some g) (hg0 : g.toNat ≠ 0) (h2 : readO b ((p1 + 2 : Nat) : Int) = (qual, p2, 0)) (hlen2 : p2 < n) (h3 : readFl b (((p2 + 1) : Nat) : Int) = (t, p3, 0)) (h4 : readFl b (p3 : Int) = (s, p4, 0)) (hlen4 : p4 < n) (hk : b[p4]? = some k) :
    Calls Tryz.prog 155 #[.slice A n c] w (EntPost (fun v => .tuple #[v, .bool true]) ⟨row, (f.toNat : Int), qual, (t : Int), (s : Int), (k.toNat : Int), []⟩ w) := by
  have HS : Hid (∀ x, Below w.heap.size w x → Sl x A n c b) := Lib.hid fun x h => hs.later h
  have HX0 := Lib.hid (Bt.of (T := 5) (Bxs.two w 60 #[.slice none 0 0, .int .i64 0, .slice none 0 0, .int .i64 0, .int .i64 0, .int .i64 0, .slice none 0 0] #[.slice none 0 0, .int .i64 0, .slice none 0 0, .int .i64 0, .int .i64 0, .int .i64 0, .slice none 0 0]))
  have H0 := Lib.hid h0
  obtain ⟨bb, oo, _, rfl, hbb, _, _⟩ := hs.rb.at_ (k := p1) (by omega)
  have HC : Hid (∀ (j : Nat) (u : UInt8) x, b[j]? = some u → Below w.heap.size w x → x.cell? ⟨bb, oo + j, none⟩ = some (.int .u8 (u.toNat : Int))) := Lib.hid fun j u x hu hx => (hs.rb.later hx).cell hu
  have hbb0 : ¬ bb = w.heap.size := by omega
  have hbb1 : ¬ bb = w.heap.size + 1 := by omega
  have HF := Lib.hid hf
  have HG := Lib.hid hg
  have hgd : ((g.toNat : Int) != 0) = true := by rw [bne_iff_ne]; omega
  have H2 := Lib.hid h2
  have H3 := Lib.hid h3
  have H4 := Lib.hid h4
  have HK := Lib.hid hk
  have q1 : (p1 : Int) < (n : Int) := by omega
  have q2 : (p1 : Int) + 1 < (n : Int) := by omega
  have q3 : decide ((n : Int) < (p1 : Int) + 2) = false := decide_eq_false (by omega)
  have q4 : (p2 : Int) < (n : Int) := by omega
  have q5 : (p4 : Int) < (n : Int) := by omega
  have q6 : wrap64 ((k.toNat : Nat) : Int) = (k.toNat : Int) := wrap64_id (by omega) (by have := k.toNat_lt; omega)
  have q7 : IntKind.i64.wrap ((k.toNat : Nat) : Int) = (k.toNat : Int) := i64_sum (by omega) (by have := k.toNat_lt; omega)
  have tO1 : True := trivial
  have tO2 : True := trivial
  have tF1 : True := trivial
  clear hs h0 hf hg hg0 h2 h3 h4 hk
  go_enter Tryz.func155, Tryz.ntmps155
  go_wp2_with (go_at_call 196; have _t := tO1; go_must (refine (ro_any b (some ⟨bb, oo, none⟩) n c 0 _ (HS.out _ HX0.out.box.up) hn).mono ?_); rw [H0.out]; rintro e x1 hp; obtain ⟨A1, c1, rfl, _, hO1, hb1⟩ := hp.at_ (n := row.length) rfl rfl rfl; have HX1 := Lib.hid (HX0.out.fresh hb1 hO1); clear hb1 hp hO1 tO1; have z0 := HX1.out.box.c0 (i := 0) (v := .slice none 0 0) rfl rfl; have y0 := HX1.out.box.c1 (i := 0) (v := .slice none 0 0) rfl rfl; have z1 := HX1.out.box.c0 (i := 1) (v := .int .i64 0) rfl rfl; have y1 := HX1.out.box.c1 (i := 1) (v := .int .i64 0) rfl rfl; have z2 := HX1.out.box.c0 (i := 2) (v := .slice none 0 0) rfl rfl; have y2 := HX1.out.box.c1 (i := 2) (v := .slice none 0 0) rfl rfl; have z3 := HX1.out.box.c0 (i := 3) (v := .int .i64 0) rfl rfl; have y3 := HX1.out.box.c1 (i := 3) (v := .int .i64 0) rfl rfl; have z4 := HX1.out.box.c0 (i := 4) (v := .int .i64 0) rfl rfl; have y4 := HX1.out.box.c1 (i := 4) (v := .int .i64 0) rfl rfl; have z5 := HX1.out.box.c0 (i := 5) (v := .int .i64 0) rfl rfl; have y5 := HX1.out.box.c1 (i := 5) (v := .int .i64 0) rfl rfl; have z6 := HX1.out.box.c0 (i := 6) (v := .slice none 0 0) rfl rfl; have y6 := HX1.out.box.c1 (i := 6) (v := .slice none 0 0) rfl rfl; have fz := HX1.out.box.f0 rfl; have fy := HX1.out.box.f1 rfl; have g1 := HC.out p1 f _ HF.out HX1.out.box.up; have g2 := HC.out (p1 + 1) g _ HG.out HX1.out.box.up; have g3 := HC.out p4 k _ HK.out HX1.out.box.up)
  go_region
  rw [show wrap64 ((f.toNat : Nat) : Int) = (f.toNat : Int) from wrap64_id (by omega) (by have := f.toNat_lt; omega)]
  go_wp2_with (first
    | (go_at_call 196; have _t := tO2; go_must (refine (ro_any b (some ⟨bb, oo, none⟩) n c _ _ (HS.out _ ((HX1.out.s1_0 (.slice A1 row.length c1)).s1_1 (.int .i64 (f.toNat : Int))).drew.box.up) hn).mono ?_); rw [show ((p1 : Int) + 2) = ((p1 + 2 : Nat) : Int) from by omega, H2.out]; rintro e x2 hp; obtain ⟨A2, c2, rfl, _, hO2, hb2⟩ := hp.at_ (n := qual.length) rfl rfl rfl; have HX2 := Lib.hid (((HX1.out.s1_0 (.slice A1 row.length c1)).s1_1 (.int .i64 (f.toNat : Int))).drew.fresh hb2 hO2); clear hb2 hp hO2 tO2 g1 g2 g3; clear z0 y0 z1 y1 z2 y2 z3 y3 z4 y4 z5 y5 z6 y6 fz fy; have z0 := HX2.out.box.c0 (i := 0) (v := .slice none 0 0) rfl rfl; have y0 := HX2.out.box.c1 (i := 0) (v := .slice A1 row.length c1) rfl rfl; have z1 := HX2.out.box.c0 (i := 1) (v := .int .i64 0) rfl rfl; have y1 := HX2.out.box.c1 (i := 1) (v := .int .i64 (f.toNat : Int)) rfl rfl; have z2 := HX2.out.box.c0 (i := 2) (v := .slice none 0 0) rfl rfl; have y2 := HX2.out.box.c1 (i := 2) (v := .slice none 0 0) rfl rfl; have z3 := HX2.out.box.c0 (i := 3) (v := .int .i64 0) rfl rfl; have y3 := HX2.out.box.c1 (i := 3) (v := .int .i64 0) rfl rfl; have z4 := HX2.out.box.c0 (i := 4) (v := .int .i64 0) rfl rfl; have y4 := HX2.out.box.c1 (i := 4) (v := .int .i64 0) rfl rfl; have z5 := HX2.out.box.c0 (i := 5) (v := .int .i64 0) rfl rfl; have y5 := HX2.out.box.c1 (i := 5) (v := .int .i64 0) rfl rfl; have z6 := HX2.out.box.c0 (i := 6) (v := .slice none 0 0) rfl rfl; have y6 := HX2.out.box.c1 (i := 6) (v := .slice none 0 0) rfl rfl; have fz := HX2.out.box.f0 rfl; have fy := HX2.out.box.f1 rfl; have g3 := HC.out p4 k _ HK.out HX2.out.box.up)
    | (go_at_call 197; have _t := tF1; go_must (refine (rfl_any b (some ⟨bb, oo, none⟩) n c _ _ (HS.out _ (HX2.out.s1_2 (.slice A2 qual.length c2)).box.up) hn).mono ?_); rw [show ((p2 : Int) + 1) = ((p2 + 1 : Nat) : Int) from by omega, H3.out]; rintro e x3 ⟨rfl, rfl⟩; clear tF1)
    | (go_at_call 197; go_must (refine (rfl_any b (some ⟨bb, oo, none⟩) n c _ _ (HS.out _ ((HX2.out.s1_2 (.slice A2 qual.length c2)).s1_3 (.int .i64 (t : Int))).box.up) hn).mono ?_); rw [H4.out]; rintro e x4 ⟨rfl, rfl⟩))
  (try simp only [Exit.inBlock, Exit.then])
  have HR := Lib.hid ((((((HX2.out.s1_2 (.slice A2 qual.length c2)).s1_3 (.int .i64 (t : Int))).s1_4 (.int .i64 (s : Int))).s1_5 (.int .i64 (k.toNat : Int))).fill7 rfl (.slice A1 row.length c1) (.int .i64 (f.toNat : Int)) (.slice A2 qual.length c2) (.int .i64 (t : Int)) (.int .i64 (s : Int)) (.int .i64 (k.toNat : Int)) (.slice none 0 0)))
  refine bodyPost_ret (results_box1 rfl _ _ w.heap.size _ rfl (HR.out.box.cells0 rfl) (by kernel_rfl) (by kernel_rfl)) rfl ?_
  exact ent_post (mk := fun v => .tuple #[v, .bool true]) (rows_low HR.out.rows (Nat.le_add_right _ _)) HR.out.box.up
set_option maxRecDepth 100000 in
set_option maxHeartbeats 2000000 in
theorem pa_N_f3 (b : List UInt8) (A : Option Addr) (n c : Nat) (w : World) (row : List UInt8) (p1 : Nat) (f g : UInt8) (t p3 er : Nat) (hs : Sl w A n c b) (hn : n ≤ 140737488355000) (h0 : readO b 0 = (row, p1, 0)) (hlen : p1 + 2 ≤ n) (hf : b[p1]? = some f) (hg : b[p1 + 1]? = some g) (hg0 : g.toNat = 0) (h3 : readFl b (((p1 + 2) : Nat) : Int) = (t, p3, er)) (he : er ≠ 0) :
    Calls Tryz.prog 155 #[.slice A n c] w (NoPost w) := by
  have HS : Hid (∀ x, Below w.heap.size w x → Sl x A n c b) := Lib.hid fun x h => hs.later h
  have HX0 := Lib.hid (Bt.of (T := 5) (Bxs.two w 60 #[.slice none 0 0, .int .i64 0, .slice none 0 0, .int .i64 0, .int .i64 0, .int .i64 0, .slice none 0 0] #[.slice none 0 0, .int .i64 0, .slice none 0 0, .int .i64 0, .int .i64 0, .int .i64 0, .slice none 0 0]))
  have H0 := Lib.hid h0
  obtain ⟨bb, oo, _, rfl, hbb, _, _⟩ := hs.rb.at_ (k := p1) (by omega)
  have HC : Hid (∀ (j : Nat) (u : UInt8) x, b[j]? = some u → Below w.heap.size w x → x.cell? ⟨bb, oo + j, none⟩ = some (.int .u8 (u.toNat : Int))) := Lib.hid fun j u x hu hx => (hs.rb.later hx).cell hu
  have hbb0 : ¬ bb = w.heap.size := by omega
  have hbb1 : ¬ bb = w.heap.size + 1 := by omega
  have HF := Lib.hid hf
  have HG := Lib.hid hg
  have hgd : ((g.toNat : Int) != 0) = false := by rw [hg0]; rfl
  have H3 := Lib.hid h3
  have hd : ((er : Int) != 0) = true := by rw [bne_iff_ne]; omega
  have q1 : (p1 : Int) < (n : Int) := by omega
  have q2 : (p1 : Int) + 1 < (n : Int) := by omega
  have q3 : decide ((n : Int) < (p1 : Int) + 2) = false := decide_eq_false (by omega)
  have tO1 : True := trivial
  have tF1 : True := trivial
  clear hs h0 hf hg hg0 h3 he
  go_enter Tryz.func155, Tryz.ntmps155
  go_wp2_with (go_at_call 196; have _t := tO1; go_must (refine (ro_any b (some ⟨bb, oo, none⟩) n c 0 _ (HS.out _ HX0.out.box.up) hn).mono ?_); rw [H0.out]; rintro e x1 hp; obtain ⟨A1, c1, rfl, _, hO1, hb1⟩ := hp.at_ (n := row.length) rfl rfl rfl; have HX1 := Lib.hid (HX0.out.fresh hb1 hO1); clear hb1 hp hO1 tO1; have z0 := HX1.out.box.c0 (i := 0) (v := .slice none 0 0) rfl rfl; have y0 := HX1.out.box.c1 (i := 0) (v := .slice none 0 0) rfl rfl; have z1 := HX1.out.box.c0 (i := 1) (v := .int .i64 0) rfl rfl; have y1 := HX1.out.box.c1 (i := 1) (v := .int .i64 0) rfl rfl; have z2 := HX1.out.box.c0 (i := 2) (v := .slice none 0 0) rfl rfl; have y2 := HX1.out.box.c1 (i := 2) (v := .slice none 0 0) rfl rfl; have z3 := HX1.out.box.c0 (i := 3) (v := .int .i64 0) rfl rfl; have y3 := HX1.out.box.c1 (i := 3) (v := .int .i64 0) rfl rfl; have z4 := HX1.out.box.c0 (i := 4) (v := .int .i64 0) rfl rfl; have y4 := HX1.out.box.c1 (i := 4) (v := .int .i64 0) rfl rfl; have z5 := HX1.out.box.c0 (i := 5) (v := .int .i64 0) rfl rfl; have y5 := HX1.out.box.c1 (i := 5) (v := .int .i64 0) rfl rfl; have z6 := HX1.out.box.c0 (i := 6) (v := .slice none 0 0) rfl rfl; have y6 := HX1.out.box.c1 (i := 6) (v := .slice none 0 0) rfl rfl; have fz := HX1.out.box.f0 rfl; have fy := HX1.out.box.f1 rfl; have g1 := HC.out p1 f _ HF.out HX1.out.box.up; have g2 := HC.out (p1 + 1) g _ HG.out HX1.out.box.up)
  go_region
  rw [show wrap64 ((f.toNat : Nat) : Int) = (f.toNat : Int) from wrap64_id (by omega) (by have := f.toNat_lt; omega)]
  go_wp2_with (first
    | (go_at_call 197; have _t := tF1; go_must (refine (rfl_any b (some ⟨bb, oo, none⟩) n c _ _ (HS.out _ ((HX1.out.s1_0 (.slice A1 row.length c1)).s1_1 (.int .i64 (f.toNat : Int))).drew.box.up) hn).mono ?_); rw [show ((p1 : Int) + 2) = ((p1 + 2 : Nat) : Int) from by omega, H3.out]; rintro e x3 ⟨rfl, rfl⟩; clear tF1))
  (try simp only [Exit.inBlock, Exit.then])
  have HR := Lib.hid (((((HX1.out.s1_0 (.slice A1 row.length c1)).s1_1 (.int .i64 (f.toNat : Int))).s1_3 (.int .i64 (t : Int))).fill7 rfl (.slice A1 row.length c1) (.int .i64 (f.toNat : Int)) (.slice none 0 0) (.int .i64 (t : Int)) (.int .i64 0) (.int .i64 0) (.slice none 0 0)).drew)
  refine bodyPost_ret (results_box1 rfl _ _ w.heap.size _ rfl (HR.out.box.cells0 rfl) (by kernel_rfl) (by kernel_rfl)) rfl ?_
  exact ⟨⟨_, _, _, _, _, _, _, _, _, _, rfl⟩, HR.out.box.up⟩
set_option maxRecDepth 100000 in
set_option maxHeartbeats 2000000 in
theorem pa_N_f4a (b : List UInt8) (A : Option Addr) (n c : Nat) (w : World) (row : List UInt8) (p1 : Nat) (f g : UInt8) (t p3 : Nat) (s p4 er : Nat) (hs : Sl w A n c b) (hn : n ≤ 140737488355000) (h0 : readO b 0 = (row, p1, 0)) (hlen : p1 + 2 ≤ n) (hf : b[p1]? = some f) (hg : b[p1 + 1]? = some g) (hg0 : g.toNat = 0) (h3 : readFl b (((p1 + 2) : Nat) : Int) = (t, p3, 0)) (h4 : readFl b (p3 : Int) = (s, p4, er)) (he : er ≠ 0) :
    Calls Tryz.prog 155 #[.slice A n c] w (NoPost w) := by
  have HS : Hid (∀ x, Below w.heap.size w x → Sl x A n c b) := Lib.hid fun x h => hs.later h
  have HX0 := Lib.hid (Bt.of (T := 5) (Bxs.two w 60 #[.slice none 0 0, .int .i64 0, .slice none 0 0, .int .i64 0, .int .i64 0, .int .i64 0, .slice none 0 0] #[.slice none 0 0, .int .i64 0, .slice none 0 0, .int .i64 0, .int .i64 0, .int .i64 0, .slice none 0 0]))
  have H0 := Lib.hid h0
  obtain ⟨bb, oo, _, rfl, hbb, _, _⟩ := hs.rb.at_ (k := p1) (by omega)
  have HC : Hid (∀ (j : Nat) (u : UInt8) x, b[j]? = some u → Below w.heap.size w x → x.cell? ⟨bb, oo + j, none⟩ = some (.int .u8 (u.toNat : Int))) := Lib.hid fun j u x hu hx => (hs.rb.later hx).cell hu
  have hbb0 : ¬ bb = w.heap.size := by omega
  have hbb1 : ¬ bb = w.heap.size + 1 := by omega
  have HF := Lib.hid hf
  have HG := Lib.hid hg
  have hgd : ((g.toNat : Int) != 0) = false := by rw [hg0]; rfl
  have H3 := Lib.hid h3
  have H4 := Lib.hid h4
  have hd : ((er : Int) != 0) = true := by rw [bne_iff_ne]; omega
  have q1 : (p1 : Int) < (n : Int) := by omega
  have q2 : (p1 : Int) + 1 < (n : Int) := by omega
  have q3 : decide ((n : Int) < (p1 : Int) + 2) = false := decide_eq_false (by omega)
  have tO1 : True := trivial
  have tF1 : True := trivial
  clear hs h0 hf hg hg0 h3 h4 he
  go_enter Tryz.func155, Tryz.ntmps155
  go_wp2_with (go_at_call 196; have _t := tO1; go_must (refine (ro_any b (some ⟨bb, oo, none⟩) n c 0 _ (HS.out _ HX0.out.box.up) hn).mono ?_); rw [H0.out]; rintro e x1 hp; obtain ⟨A1, c1, rfl, _, hO1, hb1⟩ := hp.at_ (n := row.length) rfl rfl rfl; have HX1 := Lib.hid (HX0.out.fresh hb1 hO1); clear hb1 hp hO1 tO1; have z0 := HX1.out.box.c0 (i := 0) (v := .slice none 0 0) rfl rfl; have y0 := HX1.out.box.c1 (i := 0) (v := .slice none 0 0) rfl rfl; have z1 := HX1.out.box.c0 (i := 1) (v := .int .i64 0) rfl rfl; have y1 := HX1.out.box.c1 (i := 1) (v := .int .i64 0) rfl rfl; have z2 := HX1.out.box.c0 (i := 2) (v := .slice none 0 0) rfl rfl; have y2 := HX1.out.box.c1 (i := 2) (v := .slice none 0 0) rfl rfl; have z3 := HX1.out.box.c0 (i := 3) (v := .int .i64 0) rfl rfl; have y3 := HX1.out.box.c1 (i := 3) (v := .int .i64 0) rfl rfl; have z4 := HX1.out.box.c0 (i := 4) (v := .int .i64 0) rfl rfl; have y4 := HX1.out.box.c1 (i := 4) (v := .int .i64 0) rfl rfl; have z5 := HX1.out.box.c0 (i := 5) (v := .int .i64 0) rfl rfl; have y5 := HX1.out.box.c1 (i := 5) (v := .int .i64 0) rfl rfl; have z6 := HX1.out.box.c0 (i := 6) (v := .slice none 0 0) rfl rfl; have y6 := HX1.out.box.c1 (i := 6) (v := .slice none 0 0) rfl rfl; have fz := HX1.out.box.f0 rfl; have fy := HX1.out.box.f1 rfl; have g1 := HC.out p1 f _ HF.out HX1.out.box.up; have g2 := HC.out (p1 + 1) g _ HG.out HX1.out.box.up)
  go_region
  rw [show wrap64 ((f.toNat : Nat) : Int) = (f.toNat : Int) from wrap64_id (by omega) (by have := f.toNat_lt; omega)]
  go_wp2_with (first
    | (go_at_call 197; have _t := tF1; go_must (refine (rfl_any b (some ⟨bb, oo, none⟩) n c _ _ (HS.out _ ((HX1.out.s1_0 (.slice A1 row.length c1)).s1_1 (.int .i64 (f.toNat : Int))).drew.box.up) hn).mono ?_); rw [show ((p1 : Int) + 2) = ((p1 + 2 : Nat) : Int) from by omega, H3.out]; rintro e x3 ⟨rfl, rfl⟩; clear tF1)
    | (go_at_call 197; go_must (refine (rfl_any b (some ⟨bb, oo, none⟩) n c _ _ (HS.out _ (((HX1.out.s1_0 (.slice A1 row.length c1)).s1_1 (.int .i64 (f.toNat : Int))).s1_3 (.int .i64 (t : Int))).drew.box.up) hn).mono ?_); rw [H4.out]; rintro e x4 ⟨rfl, rfl⟩))
  (try simp only [Exit.inBlock, Exit.then])
  have HR := Lib.hid ((((((HX1.out.s1_0 (.slice A1 row.length c1)).s1_1 (.int .i64 (f.toNat : Int))).s1_3 (.int .i64 (t : Int))).s1_4 (.int .i64 (s : Int))).fill7 rfl (.slice A1 row.length c1) (.int .i64 (f.toNat : Int)) (.slice none 0 0) (.int .i64 (t : Int)) (.int .i64 (s : Int)) (.int .i64 0) (.slice none 0 0)).drew)
  refine bodyPost_ret (results_box1 rfl _ _ w.heap.size _ rfl (HR.out.box.cells0 rfl) (by kernel_rfl) (by kernel_rfl)) rfl ?_
  exact ⟨⟨_, _, _, _, _, _, _, _, _, _, rfl⟩, HR.out.box.up⟩
set_option maxRecDepth 100000 in
set_option maxHeartbeats 2000000 in
theorem pa_N_f4b (b : List UInt8) (A : Option Addr) (n c : Nat) (w : World) (row : List UInt8) (p1 : Nat) (f g : UInt8) (t p3 : Nat) (s p4 : Nat) (hs : Sl w A n c b) (hn : n ≤ 140737488355000) (h0 : readO b 0 = (row, p1, 0)) (hlen : p1 + 2 ≤ n) (hf : b[p1]? = some f) (hg : b[p1 + 1]? = some g) (hg0 : g.toNat = 0) (h3 : readFl b (((p1 + 2) : Nat) : Int) = (t, p3, 0)) (h4 : readFl b (p3 : Int) = (s, p4, 0)) (hsh : n ≤ p4) :
    Calls Tryz.prog 155 #[.slice A n c] w (NoPost w) := by
  have HS : Hid (∀ x, Below w.heap.size w x → Sl x A n c b) := Lib.hid fun x h => hs.later h
  have HX0 := Lib.hid (Bt.of (T := 5) (Bxs.two w 60 #[.slice none 0 0, .int .i64 0, .slice none 0 0, .int .i64 0, .int .i64 0, .int .i64 0, .slice none 0 0] #[.slice none 0 0, .int .i64 0, .slice none 0 0, .int .i64 0, .int .i64 0, .int .i64 0, .slice none 0 0]))
  have H0 := Lib.hid h0
  obtain ⟨bb, oo, _, rfl, hbb, _, _⟩ := hs.rb.at_ (k := p1) (by omega)
  have HC : Hid (∀ (j : Nat) (u : UInt8) x, b[j]? = some u → Below w.heap.size w x → x.cell? ⟨bb, oo + j, none⟩ = some (.int .u8 (u.toNat : Int))) := Lib.hid fun j u x hu hx => (hs.rb.later hx).cell hu
  have hbb0 : ¬ bb = w.heap.size := by omega
  have hbb1 : ¬ bb = w.heap.size + 1 := by omega
  have HF := Lib.hid hf
  have HG := Lib.hid hg
  have hgd : ((g.toNat : Int) != 0) = false := by rw [hg0]; rfl
  have H3 := Lib.hid h3
  have H4 := Lib.hid h4
  have q1 : (p1 : Int) < (n : Int) := by omega
  have q2 : (p1 : Int) + 1 < (n : Int) := by omega
  have q3 : decide ((n : Int) < (p1 : Int) + 2) = false := decide_eq_false (by omega)
  have tO1 : True := trivial
  have tF1 : True := trivial
  clear hs h0 hf hg hg0 h3 h4
  go_enter Tryz.func155, Tryz.ntmps155
  go_wp2_with (go_at_call 196; have _t := tO1; go_must (refine (ro_any b (some ⟨bb, oo, none⟩) n c 0 _ (HS.out _ HX0.out.box.up) hn).mono ?_); rw [H0.out]; rintro e x1 hp; obtain ⟨A1, c1, rfl, _, hO1, hb1⟩ := hp.at_ (n := row.length) rfl rfl rfl; have HX1 := Lib.hid (HX0.out.fresh hb1 hO1); clear hb1 hp hO1 tO1; have z0 := HX1.out.box.c0 (i := 0) (v := .slice none 0 0) rfl rfl; have y0 := HX1.out.box.c1 (i := 0) (v := .slice none 0 0) rfl rfl; have z1 := HX1.out.box.c0 (i := 1) (v := .int .i64 0) rfl rfl; have y1 := HX1.out.box.c1 (i := 1) (v := .int .i64 0) rfl rfl; have z2 := HX1.out.box.c0 (i := 2) (v := .slice none 0 0) rfl rfl; have y2 := HX1.out.box.c1 (i := 2) (v := .slice none 0 0) rfl rfl; have z3 := HX1.out.box.c0 (i := 3) (v := .int .i64 0) rfl rfl; have y3 := HX1.out.box.c1 (i := 3) (v := .int .i64 0) rfl rfl; have z4 := HX1.out.box.c0 (i := 4) (v := .int .i64 0) rfl rfl; have y4 := HX1.out.box.c1 (i := 4) (v := .int .i64 0) rfl rfl; have z5 := HX1.out.box.c0 (i := 5) (v := .int .i64 0) rfl rfl; have y5 := HX1.out.box.c1 (i := 5) (v := .int .i64 0) rfl rfl; have z6 := HX1.out.box.c0 (i := 6) (v := .slice none 0 0) rfl rfl; have y6 := HX1.out.box.c1 (i := 6) (v := .slice none 0 0) rfl rfl; have fz := HX1.out.box.f0 rfl; have fy := HX1.out.box.f1 rfl; have g1 := HC.out p1 f _ HF.out HX1.out.box.up; have g2 := HC.out (p1 + 1) g _ HG.out HX1.out.box.up)
  go_region
  rw [show wrap64 ((f.toNat : Nat) : Int) = (f.toNat : Int) from wrap64_id (by omega) (by have := f.toNat_lt; omega)]
  go_wp2_with (first
    | (go_at_call 197; have _t := tF1; go_must (refine (rfl_any b (some ⟨bb, oo, none⟩) n c _ _ (HS.out _ ((HX1.out.s1_0 (.slice A1 row.length c1)).s1_1 (.int .i64 (f.toNat : Int))).drew.box.up) hn).mono ?_); rw [show ((p1 : Int) + 2) = ((p1 + 2 : Nat) : Int) from by omega, H3.out]; rintro e x3 ⟨rfl, rfl⟩; clear tF1)
    | (go_at_call 197; go_must (refine (rfl_any b (some ⟨bb, oo, none⟩) n c _ _ (HS.out _ (((HX1.out.s1_0 (.slice A1 row.length c1)).s1_1 (.int .i64 (f.toNat : Int))).s1_3 (.int .i64 (t : Int))).drew.box.up) hn).mono ?_); rw [H4.out]; rintro e x4 ⟨rfl, rfl⟩))
  (try simp only [Exit.inBlock, Exit.then])
  have HR := Lib.hid ((((((HX1.out.s1_0 (.slice A1 row.length c1)).s1_1 (.int .i64 (f.toNat : Int))).s1_3 (.int .i64 (t : Int))).s1_4 (.int .i64 (s : Int))).fill7 rfl (.slice A1 row.length c1) (.int .i64 (f.toNat : Int)) (.slice none 0 0) (.int .i64 (t : Int)) (.int .i64 (s : Int)) (.int .i64 0) (.slice none 0 0)).drew)
  refine bodyPost_ret (results_box1 rfl _ _ w.heap.size _ rfl (HR.out.box.cells0 rfl) (by kernel_rfl) (by kernel_rfl)) rfl ?_
  exact ⟨⟨_, _, _, _, _, _, _, _, _, _, rfl⟩, HR.out.box.up⟩
set_option maxRecDepth 100000 in
set_option maxHeartbeats 2000000 in
theorem pa_N_ok (b : List UInt8) (A : Option Addr) (n c : Nat) (w : World) (row : List UInt8) (p1 : Nat) (f g : UInt8) (t p3 : Nat) (s p4 : Nat) (k : UInt8) (hs : Sl w A n c b) (hn : n ≤ 140737488355000) (h0 : readO b 0 = (row, p1, 0)) (hlen : p1 + 2 ≤ n) (hf : b[p1]? = some f) (hg : b[p1 + 1]? = some g) (hg0 : g.toNat = 0) (h3 : readFl b (((p1 + 2) : Nat) : Int) = (t, p3, 0)) (h4 : readFl b (p3 : Int) = (s, p4, 0)) (hlen4 : p4 < n) (hk : b[p4]? = some k) :
    Calls Tryz.prog 155 #[.slice A n c] w (EntPost (fun v => .tuple #[v, .bool true]) ⟨row, (f.toNat : Int), [], (t : Int), (s : Int), (k.toNat : Int), []⟩ w) := by
  have HS : Hid (∀ x, Below w.heap.size w x → Sl x A n c b) := Lib.hid fun x h => hs.later h
  have HX0 := Lib.hid (Bt.of (T := 5) (Bxs.two w 60 #[.slice none 0 0, .int .i64 0, .slice none 0 0, .int .i64 0, .int .i64 0, .int .i64 0, .slice none 0 0] #[.slice none 0 0, .int .i64 0, .slice none 0 0, .int .i64 0, .int .i64 0, .int .i64 0, .slice none 0 0]))
  have H0 := Lib.hid h0
  obtain ⟨bb, oo, _, rfl, hbb, _, _⟩ := hs.rb.at_ (k := p1) (by omega)
  have HC : Hid (∀ (j : Nat) (u : UInt8) x, b[j]? = some u → Below w.heap.size w x → x.cell? ⟨bb, oo + j, none⟩ = some (.int .u8 (u.toNat : Int))) := Lib.hid fun j u x hu hx => (hs.rb.later hx).cell hu
  have hbb0 : ¬ bb = w.heap.size := by omega
  have hbb1 : ¬ bb = w.heap.size + 1 := by omega
  have HF := Lib.hid hf
  have HG := Lib.hid hg
  have hgd : ((g.toNat : Int) != 0) = false := by rw [hg0]; rfl
  have H3 := Lib.hid h3
  have H4 := Lib.hid h4
  have HK := Lib.hid hk
  have q1 : (p1 : Int) < (n : Int) := by omega
  have q2 : (p1 : Int) + 1 < (n : Int) := by omega
  have q3 : decide ((n : Int) < (p1 : Int) + 2) = false := decide_eq_false (by omega)
  have q5 : (p4 : Int) < (n : Int) := by omega
  have q6 : wrap64 ((k.toNat : Nat) : Int) = (k.toNat : Int) := wrap64_id (by omega) (by have := k.toNat_lt; omega)
  have q7 : IntKind.i64.wrap ((k.toNat : Nat) : Int) = (k.toNat : Int) := i64_sum (by omega) (by have := k.toNat_lt; omega)
  have tO1 : True := trivial
  have tF1 : True := trivial
  clear hs h0 hf hg hg0 h3 h4 hk
  go_enter Tryz.func155, Tryz.ntmps155
  go_wp2_with (go_at_call 196; have _t := tO1; go_must (refine (ro_any b (some ⟨bb, oo, none⟩) n c 0 _ (HS.out _ HX0.out.box.up) hn).mono ?_); rw [H0.out]; rintro e x1 hp; obtain ⟨A1, c1, rfl, _, hO1, hb1⟩ := hp.at_ (n := row.length) rfl rfl rfl; have HX1 := Lib.hid (HX0.out.fresh hb1 hO1); clear hb1 hp hO1 tO1; have z0 := HX1.out.box.c0 (i := 0) (v := .slice none 0 0) rfl rfl; have y0 := HX1.out.box.c1 (i := 0) (v := .slice none 0 0) rfl rfl; have z1 := HX1.out.box.c0 (i := 1) (v := .int .i64 0) rfl rfl; have y1 := HX1.out.box.c1 (i := 1) (v := .int .i64 0) rfl rfl; have z2 := HX1.out.box.c0 (i := 2) (v := .slice none 0 0) rfl rfl; have y2 := HX1.out.box.c1 (i := 2) (v := .slice none 0 0) rfl rfl; have z3 := HX1.out.box.c0 (i := 3) (v := .int .i64 0) rfl rfl; have y3 := HX1.out.box.c1 (i := 3) (v := .int .i64 0) rfl rfl; have z4 := HX1.out.box.c0 (i := 4) (v := .int .i64 0) rfl rfl; have y4 := HX1.out.box.c1 (i := 4) (v := .int .i64 0) rfl rfl; have z5 := HX1.out.box.c0 (i := 5) (v := .int .i64 0) rfl rfl; have y5 := HX1.out.box.c1 (i := 5) (v := .int .i64 0) rfl rfl; have z6 := HX1.out.box.c0 (i := 6) (v := .slice none 0 0) rfl rfl; have y6 := HX1.out.box.c1 (i := 6) (v := .slice none 0 0) rfl rfl; have fz := HX1.out.box.f0 rfl; have fy := HX1.out.box.f1 rfl; have g1 := HC.out p1 f _ HF.out HX1.out.box.up; have g2 := HC.out (p1 + 1) g _ HG.out HX1.out.box.up; have g3 := HC.out p4 k _ HK.out HX1.out.box.up)
  go_region
  rw [show wrap64 ((f.toNat : Nat) : Int) = (f.toNat : Int) from wrap64_id (by omega) (by have := f.toNat_lt; omega)]
  go_wp2_with (first
    | (go_at_call 197; have _t := tF1; go_must (refine (rfl_any b (some ⟨bb, oo, none⟩) n c _ _ (HS.out _ ((HX1.out.s1_0 (.slice A1 row.length c1)).s1_1 (.int .i64 (f.toNat : Int))).drew.box.up) hn).mono ?_); rw [show ((p1 : Int) + 2) = ((p1 + 2 : Nat) : Int) from by omega, H3.out]; rintro e x3 ⟨rfl, rfl⟩; clear tF1)
    | (go_at_call 197; go_must (refine (rfl_any b (some ⟨bb, oo, none⟩) n c _ _ (HS.out _ (((HX1.out.s1_0 (.slice A1 row.length c1)).s1_1 (.int .i64 (f.toNat : Int))).s1_3 (.int .i64 (t : Int))).drew.box.up) hn).mono ?_); rw [H4.out]; rintro e x4 ⟨rfl, rfl⟩))
  (try simp only [Exit.inBlock, Exit.then])
  have HR := Lib.hid (((((((HX1.out.s1_0 (.slice A1 row.length c1)).s1_1 (.int .i64 (f.toNat : Int))).s1_3 (.int .i64 (t : Int))).s1_4 (.int .i64 (s : Int))).s1_5 (.int .i64 (k.toNat : Int))).fill7 rfl (.slice A1 row.length c1) (.int .i64 (f.toNat : Int)) (.slice none 0 0) (.int .i64 (t : Int)) (.int .i64 (s : Int)) (.int .i64 (k.toNat : Int)) (.slice none 0 0)).drew)
  refine bodyPost_ret (results_box1 rfl _ _ w.heap.size _ rfl (HR.out.box.cells0 rfl) (by kernel_rfl) (by kernel_rfl)) rfl ?_
  exact ent_post_n (mk := fun v => .tuple #[v, .bool true]) (rows_low HR.out.rows (Nat.le_add_right _ _)) HR.out.box.up
theorem atB_of {b : List UInt8} {k : Nat} {u : UInt8} (h : b[k]? = some u) : atB b k = u.toNat := by unfold atB; rw [h]; rfl
theorem get_of {b : List UInt8} {k : Nat} (h : k < b.length) : ∃ u, b[k]? = some u := ⟨b[k], List.getElem?_eq_getElem h⟩
theorem parseN_cases (b row : List UInt8) (fam : Nat) (qual : List UInt8) (a : Nat) {C : Option (Ent × Nat) → Prop}
    (f3 : ∀ t p3 er, readFl b (a : Nat) = (t, p3, er) → er ≠ 0 → C none)
    (f4a : ∀ t p3 s p4 er, readFl b (a : Nat) = (t, p3, 0) → readFl b (p3 : Int) = (s, p4, er) → er ≠ 0 → C none)
    (f4b : ∀ t p3 s p4, readFl b (a : Nat) = (t, p3, 0) → readFl b (p3 : Int) = (s, p4, 0) → p4 ≤ b.length → b.length ≤ p4 → C none)
    (ok : ∀ t p3 s p4 k, readFl b (a : Nat) = (t, p3, 0) → readFl b (p3 : Int) = (s, p4, 0) → p4 < b.length → b[p4]? = some k → C (some (⟨row, fam, qual, (t : Int), (s : Int), (k.toNat : Int), []⟩, p4 + 1))) :
    C (parseN b row fam qual a) := by
  unfold parseN
  obtain ⟨t, p3, er, h3⟩ : ∃ t p3 er, readFl b (a : Nat) = (t, p3, er) := ⟨_, _, _, rfl⟩
  rw [h3]
  simp only
  by_cases he : er = 0
  · subst he
    rw [if_neg (by simp)]
    obtain ⟨s, p4, er, h4⟩ : ∃ s p4 er, readFl b (p3 : Int) = (s, p4, er) := ⟨_, _, _, rfl⟩
    rw [h4]
    simp only
    by_cases he : er = 0
    · subst he
      have hend := (readFl_end b p3 (by rw [h4])).2.1
      rw [h4] at hend
      by_cases hl : b.length ≤ p4
      · rw [if_pos (.inr hl)]
        exact f4b t p3 s p4 h3 h4 hend hl
      · rw [if_neg (by rintro (h | h); exact h rfl; exact hl h)]
        obtain ⟨k, hk⟩ := get_of (b := b) (k := p4) (by omega)
        rw [atB_of hk]
        exact ok t p3 s p4 k h3 h4 (by omega) hk
    · rw [if_pos (.inl he)]
      exact f4a t p3 s p4 er h3 h4 he
  · rw [if_pos he]
    exact f3 t p3 er h3 he
theorem parse_cases (b : List UInt8) {C : Option (Ent × Nat) → Prop}
    (f1a : ∀ rw0 p1 er, readO b 0 = (rw0, p1, er) → er ≠ 0 → C none)
    (f1b : ∀ row p1, readO b 0 = (row, p1, 0) → p1 ≤ b.length → b.length < p1 + 2 → C none)
    (f2a : ∀ row p1 (f g : UInt8) ql0 p2 er, readO b 0 = (row, p1, 0) → p1 + 2 ≤ b.length → b[p1]? = some f → b[p1 + 1]? = some g → g.toNat ≠ 0 → readO b ((p1 + 2 : Nat) : Int) = (ql0, p2, er) → er ≠ 0 → C none)
    (f2b : ∀ row p1 (f g : UInt8) qual p2, readO b 0 = (row, p1, 0) → p1 + 2 ≤ b.length → b[p1]? = some f → b[p1 + 1]? = some g → g.toNat ≠ 0 → readO b ((p1 + 2 : Nat) : Int) = (qual, p2, 0) → p2 ≤ b.length → b.length ≤ p2 → C none)
    (fP : ∀ row p1 (f g : UInt8) qual p2, readO b 0 = (row, p1, 0) → p1 + 2 ≤ b.length → b[p1]? = some f → b[p1 + 1]? = some g → g.toNat ≠ 0 → readO b ((p1 + 2 : Nat) : Int) = (qual, p2, 0) → p2 < b.length → C (parseN b row f.toNat qual (p2 + 1)))
    (fN : ∀ row p1 (f g : UInt8), readO b 0 = (row, p1, 0) → p1 + 2 ≤ b.length → b[p1]? = some f → b[p1 + 1]? = some g → g.toNat = 0 → C (parseN b row f.toNat [] (p1 + 2))) :
    C (parseE b) := by
  unfold parseE
  obtain ⟨row, p1, er, h0⟩ : ∃ row p1 er, readO b 0 = (row, p1, er) := ⟨_, _, _, rfl⟩
  rw [h0]
  simp only
  by_cases he : er = 0
  · subst he
    have hend := (readO_end b 0 (by rw [h0])).2.1
    rw [h0] at hend
    by_cases hl : b.length < p1 + 2
    · rw [if_pos (.inr hl)]
      exact f1b row p1 h0 hend hl
    · rw [if_neg (by rintro (h | h); exact h rfl; exact hl h)]
      obtain ⟨f, hf⟩ := get_of (b := b) (k := p1) (by omega)
      obtain ⟨g, hg⟩ := get_of (b := b) (k := p1 + 1) (by omega)
      rw [atB_of hf, atB_of hg]
      by_cases hg0 : g.toNat = 0
      · rw [if_neg (by simpa using hg0)]
        exact fN row p1 f g h0 (by omega) hf hg hg0
      · rw [if_pos hg0]
        unfold parseQ
        obtain ⟨qual, p2, er, h2⟩ : ∃ qual p2 er, readO b ((p1 + 2 : Nat) : Int) = (qual, p2, er) := ⟨_, _, _, rfl⟩
        rw [h2]
        simp only
        by_cases he : er = 0
        · subst he
          have hend2 := (readO_end b ((p1 + 2 : Nat) : Int) (by rw [h2])).2.1
          rw [h2] at hend2
          by_cases hl2 : b.length ≤ p2
          · rw [if_pos (.inr hl2)]
            exact f2b row p1 f g qual p2 h0 (by omega) hf hg hg0 h2 hend2 hl2
          · rw [if_neg (by rintro (h | h); exact h rfl; exact hl2 h)]
            exact fP row p1 f g qual p2 h0 (by omega) hf hg hg0 h2 (by omega)
        · rw [if_pos (.inl he)]
          exact f2a row p1 f g qual p2 er h0 (by omega) hf hg hg0 h2 he
  · rw [if_pos (.inl he)]
    exact f1a row p1 er h0 he
def ParsePost (o : Option (Ent × Nat)) (w : World) (r : Ending) (w' : World) : Prop := match o with
  | none => NoPost w r w'
  | some (e, _) => EntPost (fun v => .tuple #[v, .bool true]) e w r w'
theorem parse_any (b : List UInt8) (A : Option Addr) (n c : Nat) (w : World) (hs : Sl w A n c b) (hn : n ≤ 140737488355000) :
    Calls Tryz.prog 155 #[.slice A n c] w (ParsePost (parseE b) w) := by
  have hl := hs.len
  refine parse_cases b (C := fun o => Calls Tryz.prog 155 #[.slice A n c] w (ParsePost o w)) ?_ ?_ ?_ ?_ ?_ ?_
  · intro rw0 p1 er h0 he; exact pa_N_f1a b A n c w rw0 p1 er hs hn h0 he
  · intro row p1 h0 h1 h2; exact pa_N_f1b b A n c w row p1 hs hn h0 (by omega) (by omega)
  · intro row p1 f g ql0 p2 er h0 h1 hf hg hg0 h2 he; exact pa_P_f2a b A n c w row p1 f g ql0 p2 er hs hn h0 (by omega) hf hg hg0 h2 he
  · intro row p1 f g qual p2 h0 h1 hf hg hg0 h2 h3 h4; exact pa_P_f2b b A n c w row p1 f g qual p2 hs hn h0 (by omega) hf hg hg0 h2 (by omega)
  · intro row p1 f g qual p2 h0 h1 hf hg hg0 h2 h3
    refine parseN_cases b row f.toNat qual (p2 + 1) (C := fun o => Calls Tryz.prog 155 #[.slice A n c] w (ParsePost o w)) ?_ ?_ ?_ ?_
    · intro t p3 er h3' he; exact pa_P_f3 b A n c w row p1 f g qual p2 t p3 er hs hn h0 (by omega) hf hg hg0 h2 (by omega) h3' he
    · intro t p3 s p4 er h3' h4 he; exact pa_P_f4a b A n c w row p1 f g qual p2 t p3 s p4 er hs hn h0 (by omega) hf hg hg0 h2 (by omega) h3' h4 he
    · intro t p3 s p4 h3' h4 h5 h6; exact pa_P_f4b b A n c w row p1 f g qual p2 t p3 s p4 hs hn h0 (by omega) hf hg hg0 h2 (by omega) h3' h4 (by omega)
    · intro t p3 s p4 k h3' h4 h5 hk; exact pa_P_ok b A n c w row p1 f g qual p2 t p3 s p4 k hs hn h0 (by omega) hf hg hg0 h2 (by omega) h3' h4 (by omega) hk
  · intro row p1 f g h0 h1 hf hg hg0
    refine parseN_cases b row f.toNat [] (p1 + 2) (C := fun o => Calls Tryz.prog 155 #[.slice A n c] w (ParsePost o w)) ?_ ?_ ?_ ?_
    · intro t p3 er h3' he; exact pa_N_f3 b A n c w row p1 f g t p3 er hs hn h0 (by omega) hf hg hg0 h3' he
    · intro t p3 s p4 er h3' h4 he; exact pa_N_f4a b A n c w row p1 f g t p3 s p4 er hs hn h0 (by omega) hf hg hg0 h3' h4 he
    · intro t p3 s p4 h3' h4 h5 h6; exact pa_N_f4b b A n c w row p1 f g t p3 s p4 hs hn h0 (by omega) hf hg hg0 h3' h4 (by omega)
    · intro t p3 s p4 k h3' h4 h5 hk; exact pa_N_ok b A n c w row p1 f g t p3 s p4 k hs hn h0 (by omega) hf hg hg0 h3' h4 (by omega) hk
set_option maxRecDepth 100000 in
set_option maxHeartbeats 2000000 in
theorem pk_none (b : List UInt8) (A : Option Addr) (n c : Nat) (w : World) (hs : Sl w A n c b) (hn : n ≤ 140737488355000) (hp : parseE b = none) :
    Calls Tryz.prog 92 #[.slice A n c] w (EntPost (fun v => .tuple #[v, .int .i64 27]) noEnt w) := by
  have HS : Hid (∀ x, Below w.heap.size w x → Sl x A n c b) := Lib.hid fun x h => hs.later h
  have HX0 := Lib.hid (Bt.of (T := 5) (Bxs.one w 60 #[.slice none 0 0, .int .i64 0, .slice none 0 0, .int .i64 0, .int .i64 0, .int .i64 0, .slice none 0 0]))
  have HP := Lib.hid hp
  clear hs hp
  go_enter Tryz.func92, Tryz.ntmps92
  go_upto_region 3 with (go_at_call 155; go_must (refine (parse_any b A n c _ (HS.out _ HX0.out.box.up) hn).mono ?_); rw [HP.out]; rintro e x1 ⟨⟨A1, n1, c1, f, A2, n2, c2, t, s, k, rfl⟩, hb1⟩; have HX1 := Lib.hid (HX0.out.later hb1); clear hb1; have z0 := HX1.out.box.c0 (i := 0) (v := .slice none 0 0) rfl rfl; have z1 := HX1.out.box.c0 (i := 1) (v := .int .i64 0) rfl rfl; have z2 := HX1.out.box.c0 (i := 2) (v := .slice none 0 0) rfl rfl; have z3 := HX1.out.box.c0 (i := 3) (v := .int .i64 0) rfl rfl; have z4 := HX1.out.box.c0 (i := 4) (v := .int .i64 0) rfl rfl; have z5 := HX1.out.box.c0 (i := 5) (v := .int .i64 0) rfl rfl; have z6 := HX1.out.box.c0 (i := 6) (v := .slice none 0 0) rfl rfl; have fz := HX1.out.box.f0 rfl; have hlt : w.heap.size < x1.heap.size := HX1.out.box.size)
  have HX2 := Lib.hid (HX1.out.alloc (.cells #[.slice A1 n1 c1, .int .i64 f, .slice A2 n2 c2, .int .i64 t, .int .i64 s, .int .i64 k, .slice none 0 0] 60))
  clear HX1 z0 z1 z2 z3 z4 z5 z6 fz hlt
  generalize x1.alloc (.cells #[.slice A1 n1 c1, .int .i64 f, .slice A2 n2 c2, .int .i64 t, .int .i64 s, .int .i64 k, .slice none 0 0] 60) = x2 at HX2 ⊢
  have z0 := HX2.out.box.c0 (i := 0) (v := .slice none 0 0) rfl rfl; have z1 := HX2.out.box.c0 (i := 1) (v := .int .i64 0) rfl rfl; have z2 := HX2.out.box.c0 (i := 2) (v := .slice none 0 0) rfl rfl; have z3 := HX2.out.box.c0 (i := 3) (v := .int .i64 0) rfl rfl; have z4 := HX2.out.box.c0 (i := 4) (v := .int .i64 0) rfl rfl; have z5 := HX2.out.box.c0 (i := 5) (v := .int .i64 0) rfl rfl; have z6 := HX2.out.box.c0 (i := 6) (v := .slice none 0 0) rfl rfl; have fz := HX2.out.box.f0 rfl; have hlt : w.heap.size < x2.heap.size := HX2.out.box.size
  go_wp2_with fail
  (try simp only [Exit.inBlock, Exit.then])
  have HR := Lib.hid (HX2.out.fill7 rfl (.slice none 0 0) (.int .i64 0) (.slice none 0 0) (.int .i64 0) (.int .i64 0) (.int .i64 0) (.slice none 0 0))
  refine bodyPost_ret (results_box1 rfl _ _ w.heap.size _ rfl (HR.out.box.cells0 rfl) (by kernel_rfl) (by kernel_rfl)) rfl ?_
  exact ent_none (mk := fun v => .tuple #[v, .int .i64 27]) HR.out.box.up
set_option maxRecDepth 100000 in
set_option maxHeartbeats 2000000 in
theorem pk_A (b : List UInt8) (A : Option Addr) (n c : Nat) (w : World) (hs : Sl w A n c b) (hn : n ≤ 140737488355000) (E : Ent) (p : Nat) (hp : parseE b = some (E, p)) (K : List UInt8) (z : Int) (hz : z ≠ 0) (hk : KeyE E = (K, z)) :
    Calls Tryz.prog 92 #[.slice A n c] w (EntPost (fun v => .tuple #[v, .int .i64 27]) noEnt w) := by
  have HS : Hid (∀ x, Below w.heap.size w x → Sl x A n c b) := Lib.hid fun x h => hs.later h
  have HX0 := Lib.hid (Bt.of (T := 5) (Bxs.one w 60 #[.slice none 0 0, .int .i64 0, .slice none 0 0, .int .i64 0, .int .i64 0, .int .i64 0, .slice none 0 0]))
  have HP := Lib.hid hp
  have HK := Lib.hid hk
  have hd : (z != 0) = true := by rw [bne_iff_ne]; exact hz
  clear hs hp hk hz
  go_enter Tryz.func92, Tryz.ntmps92
  go_wp2_with (first
    | (go_at_call 155; go_must (refine (parse_any b A n c _ (HS.out _ HX0.out.box.up) hn).mono ?_); rw [HP.out]; rintro e x1 ⟨A1, c1, A2, c2, D, q, rfl, hr1, hb1⟩; have HX1 := Lib.hid (HX0.out.freshR hb1 hr1); clear hb1 hr1)
    | (go_at_call 111; go_must (refine (key_any E A1 _ c1 A2 _ c2 D _ q _ ⟨(HX1.out.alloc (.cells #[.slice A1 E.row.length c1, .int .i64 E.fam, .slice A2 E.qual.length c2, .int .i64 E.ts, .int .i64 E.seq, .int .i64 E.kind, .slice D E.val.length q] 60)).rows.sl (i := 0) rfl, (HX1.out.alloc (.cells #[.slice A1 E.row.length c1, .int .i64 E.fam, .slice A2 E.qual.length c2, .int .i64 E.ts, .int .i64 E.seq, .int .i64 E.kind, .slice D E.val.length q] 60)).rows.sl (i := 1) rfl, (HX1.out.alloc (.cells #[.slice A1 E.row.length c1, .int .i64 E.fam, .slice A2 E.qual.length c2, .int .i64 E.ts, .int .i64 E.seq, .int .i64 E.kind, .slice D E.val.length q] 60)).rows.sl (i := 2) rfl⟩).mono ?_); rw [HK.out]; rintro e x2 hp; obtain ⟨A5, c5, rfl, hS5, hO5, hb5⟩ := hp.at_ (n := K.length) rfl rfl; have HX2 := Lib.hid ((HX1.out.alloc (.cells #[.slice A1 E.row.length c1, .int .i64 E.fam, .slice A2 E.qual.length c2, .int .i64 E.ts, .int .i64 E.seq, .int .i64 E.kind, .slice D E.val.length q] 60)).fresh hb5 hO5); have HY2 := Lib.hid ((Bx.new x1 #[.slice A1 E.row.length c1, .int .i64 E.fam, .slice A2 E.qual.length c2, .int .i64 E.ts, .int .i64 E.seq, .int .i64 E.kind, .slice D E.val.length q] 60).later hb5); have HS5 := Lib.hid hS5; clear hb5 hp hO5 hS5; have z0 := HX2.out.box.c0 (i := 0) (v := .slice none 0 0) rfl rfl; have z1 := HX2.out.box.c0 (i := 1) (v := .int .i64 0) rfl rfl; have z2 := HX2.out.box.c0 (i := 2) (v := .slice none 0 0) rfl rfl; have z3 := HX2.out.box.c0 (i := 3) (v := .int .i64 0) rfl rfl; have z4 := HX2.out.box.c0 (i := 4) (v := .int .i64 0) rfl rfl; have z5 := HX2.out.box.c0 (i := 5) (v := .int .i64 0) rfl rfl; have z6 := HX2.out.box.c0 (i := 6) (v := .slice none 0 0) rfl rfl; have fz := HX2.out.box.f0 rfl; have hlt : w.heap.size < x2.heap.size := HX2.out.box.size; have y0 := HY2.out.cell (i := 0) (v := .slice A1 E.row.length c1) rfl; have y1 := HY2.out.cell (i := 1) (v := .int .i64 E.fam) rfl; have y2 := HY2.out.cell (i := 2) (v := .slice A2 E.qual.length c2) rfl; have y3 := HY2.out.cell (i := 3) (v := .int .i64 E.ts) rfl; have y4 := HY2.out.cell (i := 4) (v := .int .i64 E.seq) rfl; have y5 := HY2.out.cell (i := 5) (v := .int .i64 E.kind) rfl; have y6 := HY2.out.cell (i := 6) (v := .slice D E.val.length q) rfl))
  (try simp only [Exit.inBlock, Exit.then])
  have HR := Lib.hid (HX2.out.fill7 rfl (.slice none 0 0) (.int .i64 0) (.slice none 0 0) (.int .i64 0) (.int .i64 0) (.int .i64 0) (.slice none 0 0))
  refine bodyPost_ret (results_box1 rfl _ _ w.heap.size _ rfl (HR.out.box.cells0 rfl) (by kernel_rfl) (by kernel_rfl)) rfl ?_
  exact ent_none (mk := fun v => .tuple #[v, .int .i64 27]) HR.out.box.up
set_option maxRecDepth 100000 in
set_option maxHeartbeats 2000000 in
theorem pk_B (b : List UInt8) (A : Option Addr) (n c : Nat) (w : World) (hs : Sl w A n c b) (hn : n ≤ 140737488355000) (E : Ent) (p : Nat) (hp : parseE b = some (E, p)) (K : List UInt8) (hk : KeyE E = (K, 0)) (hkb : (K == b) = false) :
    Calls Tryz.prog 92 #[.slice A n c] w (EntPost (fun v => .tuple #[v, .int .i64 27]) noEnt w) := by
  have HS : Hid (∀ x, Below w.heap.size w x → Sl x A n c b) := Lib.hid fun x h => hs.later h
  have HX0 := Lib.hid (Bt.of (T := 5) (Bxs.one w 60 #[.slice none 0 0, .int .i64 0, .slice none 0 0, .int .i64 0, .int .i64 0, .int .i64 0, .slice none 0 0]))
  have HP := Lib.hid hp
  have HK := Lib.hid hk
  have HKB := Lib.hid hkb
  clear hs hp hk hkb
  go_enter Tryz.func92, Tryz.ntmps92
  go_wp2_with (first
    | (go_at_call 155; go_must (refine (parse_any b A n c _ (HS.out _ HX0.out.box.up) hn).mono ?_); rw [HP.out]; rintro e x1 ⟨A1, c1, A2, c2, D, q, rfl, hr1, hb1⟩; have HX1 := Lib.hid (HX0.out.freshR hb1 hr1); clear hb1 hr1)
    | (go_at_call 111; go_must (refine (key_any E A1 _ c1 A2 _ c2 D _ q _ ⟨(HX1.out.alloc (.cells #[.slice A1 E.row.length c1, .int .i64 E.fam, .slice A2 E.qual.length c2, .int .i64 E.ts, .int .i64 E.seq, .int .i64 E.kind, .slice D E.val.length q] 60)).rows.sl (i := 0) rfl, (HX1.out.alloc (.cells #[.slice A1 E.row.length c1, .int .i64 E.fam, .slice A2 E.qual.length c2, .int .i64 E.ts, .int .i64 E.seq, .int .i64 E.kind, .slice D E.val.length q] 60)).rows.sl (i := 1) rfl, (HX1.out.alloc (.cells #[.slice A1 E.row.length c1, .int .i64 E.fam, .slice A2 E.qual.length c2, .int .i64 E.ts, .int .i64 E.seq, .int .i64 E.kind, .slice D E.val.length q] 60)).rows.sl (i := 2) rfl⟩).mono ?_); rw [HK.out]; rintro e x2 hp; obtain ⟨A5, c5, rfl, hS5, hO5, hb5⟩ := hp.at_ (n := K.length) rfl rfl; have HX2 := Lib.hid ((HX1.out.alloc (.cells #[.slice A1 E.row.length c1, .int .i64 E.fam, .slice A2 E.qual.length c2, .int .i64 E.ts, .int .i64 E.seq, .int .i64 E.kind, .slice D E.val.length q] 60)).fresh hb5 hO5); have HY2 := Lib.hid ((Bx.new x1 #[.slice A1 E.row.length c1, .int .i64 E.fam, .slice A2 E.qual.length c2, .int .i64 E.ts, .int .i64 E.seq, .int .i64 E.kind, .slice D E.val.length q] 60).later hb5); have HS5 := Lib.hid hS5; clear hb5 hp hO5 hS5; have z0 := HX2.out.box.c0 (i := 0) (v := .slice none 0 0) rfl rfl; have z1 := HX2.out.box.c0 (i := 1) (v := .int .i64 0) rfl rfl; have z2 := HX2.out.box.c0 (i := 2) (v := .slice none 0 0) rfl rfl; have z3 := HX2.out.box.c0 (i := 3) (v := .int .i64 0) rfl rfl; have z4 := HX2.out.box.c0 (i := 4) (v := .int .i64 0) rfl rfl; have z5 := HX2.out.box.c0 (i := 5) (v := .int .i64 0) rfl rfl; have z6 := HX2.out.box.c0 (i := 6) (v := .slice none 0 0) rfl rfl; have fz := HX2.out.box.f0 rfl; have hlt : w.heap.size < x2.heap.size := HX2.out.box.size; have y0 := HY2.out.cell (i := 0) (v := .slice A1 E.row.length c1) rfl; have y1 := HY2.out.cell (i := 1) (v := .int .i64 E.fam) rfl; have y2 := HY2.out.cell (i := 2) (v := .slice A2 E.qual.length c2) rfl; have y3 := HY2.out.cell (i := 3) (v := .int .i64 E.ts) rfl; have y4 := HY2.out.cell (i := 4) (v := .int .i64 E.seq) rfl; have y5 := HY2.out.cell (i := 5) (v := .int .i64 E.kind) rfl; have y6 := HY2.out.cell (i := 6) (v := .slice D E.val.length q) rfl)
    | (go_at_call 87; go_must (refine (equal_any K b A5 A K.length c5 n c _ HS5.out.rb (HS.out _ HX2.out.box.up).rb).mono ?_); rw [HKB.out]; rintro e x3 ⟨rfl, rfl⟩))
  (try simp only [Exit.inBlock, Exit.then])
  have HR := Lib.hid (HX2.out.fill7 rfl (.slice none 0 0) (.int .i64 0) (.slice none 0 0) (.int .i64 0) (.int .i64 0) (.int .i64 0) (.slice none 0 0))
  refine bodyPost_ret (results_box1 rfl _ _ w.heap.size _ rfl (HR.out.box.cells0 rfl) (by kernel_rfl) (by kernel_rfl)) rfl ?_
  exact ent_none (mk := fun v => .tuple #[v, .int .i64 27]) HR.out.box.up
set_option maxRecDepth 100000 in
set_option maxHeartbeats 2000000 in
theorem pk_C (b : List UInt8) (A : Option Addr) (n c : Nat) (w : World) (hs : Sl w A n c b) (hn : n ≤ 140737488355000) (E : Ent) (p : Nat) (hp : parseE b = some (E, p)) (K : List UInt8) (hk : KeyE E = (K, 0)) (hkb : (K == b) = true) :
    Calls Tryz.prog 92 #[.slice A n c] w (EntPost (fun v => .tuple #[v, .int .i64 0]) E w) := by
  have HS : Hid (∀ x, Below w.heap.size w x → Sl x A n c b) := Lib.hid fun x h => hs.later h
  have HX0 := Lib.hid (Bt.of (T := 5) (Bxs.one w 60 #[.slice none 0 0, .int .i64 0, .slice none 0 0, .int .i64 0, .int .i64 0, .int .i64 0, .slice none 0 0]))
  have HP := Lib.hid hp
  have HK := Lib.hid hk
  have HKB := Lib.hid hkb
  clear hs hp hk hkb
  go_enter Tryz.func92, Tryz.ntmps92
  go_wp2_with (first
    | (go_at_call 155; go_must (refine (parse_any b A n c _ (HS.out _ HX0.out.box.up) hn).mono ?_); rw [HP.out]; rintro e x1 ⟨A1, c1, A2, c2, D, q, rfl, hr1, hb1⟩; have HX1 := Lib.hid (HX0.out.freshR hb1 hr1); clear hb1 hr1)
    | (go_at_call 111; go_must (refine (key_any E A1 _ c1 A2 _ c2 D _ q _ ⟨(HX1.out.alloc (.cells #[.slice A1 E.row.length c1, .int .i64 E.fam, .slice A2 E.qual.length c2, .int .i64 E.ts, .int .i64 E.seq, .int .i64 E.kind, .slice D E.val.length q] 60)).rows.sl (i := 0) rfl, (HX1.out.alloc (.cells #[.slice A1 E.row.length c1, .int .i64 E.fam, .slice A2 E.qual.length c2, .int .i64 E.ts, .int .i64 E.seq, .int .i64 E.kind, .slice D E.val.length q] 60)).rows.sl (i := 1) rfl, (HX1.out.alloc (.cells #[.slice A1 E.row.length c1, .int .i64 E.fam, .slice A2 E.qual.length c2, .int .i64 E.ts, .int .i64 E.seq, .int .i64 E.kind, .slice D E.val.length q] 60)).rows.sl (i := 2) rfl⟩).mono ?_); rw [HK.out]; rintro e x2 hp; obtain ⟨A5, c5, rfl, hS5, hO5, hb5⟩ := hp.at_ (n := K.length) rfl rfl; have HX2 := Lib.hid ((HX1.out.alloc (.cells #[.slice A1 E.row.length c1, .int .i64 E.fam, .slice A2 E.qual.length c2, .int .i64 E.ts, .int .i64 E.seq, .int .i64 E.kind, .slice D E.val.length q] 60)).fresh hb5 hO5); have HY2 := Lib.hid ((Bx.new x1 #[.slice A1 E.row.length c1, .int .i64 E.fam, .slice A2 E.qual.length c2, .int .i64 E.ts, .int .i64 E.seq, .int .i64 E.kind, .slice D E.val.length q] 60).later hb5); have HS5 := Lib.hid hS5; clear hb5 hp hO5 hS5; have z0 := HX2.out.box.c0 (i := 0) (v := .slice none 0 0) rfl rfl; have z1 := HX2.out.box.c0 (i := 1) (v := .int .i64 0) rfl rfl; have z2 := HX2.out.box.c0 (i := 2) (v := .slice none 0 0) rfl rfl; have z3 := HX2.out.box.c0 (i := 3) (v := .int .i64 0) rfl rfl; have z4 := HX2.out.box.c0 (i := 4) (v := .int .i64 0) rfl rfl; have z5 := HX2.out.box.c0 (i := 5) (v := .int .i64 0) rfl rfl; have z6 := HX2.out.box.c0 (i := 6) (v := .slice none 0 0) rfl rfl; have fz := HX2.out.box.f0 rfl; have hlt : w.heap.size < x2.heap.size := HX2.out.box.size; have y0 := HY2.out.cell (i := 0) (v := .slice A1 E.row.length c1) rfl; have y1 := HY2.out.cell (i := 1) (v := .int .i64 E.fam) rfl; have y2 := HY2.out.cell (i := 2) (v := .slice A2 E.qual.length c2) rfl; have y3 := HY2.out.cell (i := 3) (v := .int .i64 E.ts) rfl; have y4 := HY2.out.cell (i := 4) (v := .int .i64 E.seq) rfl; have y5 := HY2.out.cell (i := 5) (v := .int .i64 E.kind) rfl; have y6 := HY2.out.cell (i := 6) (v := .slice D E.val.length q) rfl)
    | (go_at_call 87; go_must (refine (equal_any K b A5 A K.length c5 n c _ HS5.out.rb (HS.out _ HX2.out.box.up).rb).mono ?_); rw [HKB.out]; rintro e x3 ⟨rfl, rfl⟩))
  (try simp only [Exit.inBlock, Exit.then])
  have HR := Lib.hid (HX2.out.fill7 rfl (.slice A1 E.row.length c1) (.int .i64 E.fam) (.slice A2 E.qual.length c2) (.int .i64 E.ts) (.int .i64 E.seq) (.int .i64 E.kind) (.slice D E.val.length q))
  refine bodyPost_ret (results_box1 rfl _ _ w.heap.size _ rfl (HR.out.box.cells0 rfl) (by kernel_rfl) (by kernel_rfl)) rfl ?_
  exact ⟨A1, c1, A2, c2, D, q, rfl, rows_low (rows_pre HR.out.rows) (Nat.le_add_right _ _), HR.out.box.up⟩
theorem parsekey_any (b : List UInt8) (A : Option Addr) (n c : Nat) (w : World) (hs : Sl w A n c b) (hn : n ≤ 140737488355000) :
    Calls Tryz.prog 92 #[.slice A n c] w (EntPost (fun v => .tuple #[v, .int .i64 (ParseKeyE b).2]) (ParseKeyE b).1 w) := by
  unfold ParseKeyE
  cases hp : parseE b with
  | none => exact pk_none b A n c w hs hn hp
  | some x =>
    obtain ⟨E, p⟩ := x
    simp only [ParseKeyO]
    by_cases hc : checkE E = 0
    · have hk : KeyE E = (keyE E, 0) := by unfold KeyE; rw [if_pos hc]
      by_cases hb : keyE E = b
      · rw [if_pos ⟨hc, hb⟩]
        exact pk_C b A n c w hs hn E p hp _ hk (by rw [hb]; simp)
      · rw [if_neg (fun h => hb h.2)]
        exact pk_B b A n c w hs hn E p hp _ hk (by simpa using hb)
    · have hk : KeyE E = ([], checkE E) := by unfold KeyE; rw [if_neg hc]
      rw [if_neg (fun h => hc h.1)]
      exact pk_A b A n c w hs hn E p hp _ _ hc hk
set_option maxRecDepth 100000 in
set_option maxHeartbeats 2000000 in
theorem frame_any (l : List UInt8) (A : Option Addr) (n c : Nat) (w : World) (hn : n ≤ 9223372036854775807) (hnc : n ≤ c) (hc : c ≤ 9223372036854775807) (hA : A = none → c = 0) (hr : RB w w.heap.size A n l) (ht : TabAt 0 w) :
    Calls Tryz.prog 118 #[.slice A n c] w (BytesPost2 5 (frameR l) (frameE l) w) := by
  have hl := hr.len
  by_cases hbig : 1048576 < n
  · have H : Hid (BytesPost2 5 (frameR l) (frameE l) w (.returned (.tuple #[.slice none 0 0, .int .i64 2])) w) := Lib.hid (by
      unfold frameR frameE
      rw [if_neg (by omega), if_neg (by omega)]
      exact bytes_none2 (Below.refl _ _))
    clear hr ht hl
    go_enter Tryz.func118, Tryz.ntmps118
    go_wp2
    go_ret2
    exact H.out
  have hR : Hid (frameR l = frameB l ∧ frameE l = 0) := Lib.hid (by unfold frameR frameE; rw [if_pos (by omega), if_pos (by omega)]; exact ⟨rfl, rfl⟩)
  have HR : Hid (∀ w', Below w.heap.size w w' → RB w' w'.heap.size A n l) := Lib.hid fun w' h => hr.later h
  have HT : Hid (∀ w', Below w.heap.size w w' → TabAt 0 w') := Lib.hid fun w' h => ht.later h
  have hL : Hid (u8s (be4 n) = [.int .u8 ((n : Int) / 16777216), .int .u8 ((n : Int) / 65536), .int .u8 ((n : Int) / 256 % 256), .int .u8 ((n : Int) % 256)]) := Lib.hid (by
    show [u8v _, u8v _, u8v _, u8v _] = _
    rw [u8v_mod, u8v_mod, u8v_mod, u8v_mod]; simp only [Int.natCast_ediv]
    rw [show ((n : Int) / ((16777216 : Nat) : Int) % 256) = (n : Int) / 16777216 from by omega, show ((n : Int) / ((65536 : Nat) : Int) % 256) = (n : Int) / 65536 from by omega]; rfl)
  have HL := Lib.hid hl
  have f1 : Hid (∀ x : List UInt8, [x].flatten = x) := Lib.hid fun x => by simp
  have tok1 : True := trivial
  have tok2 : True := trivial
  have tok3 : True := trivial
  have hc' := hc
  have HA' := Lib.hid hA
  have hn' : n ≤ 1048576 := by omega
  clear hr ht hl hA hbig
  go_enter Tryz.func118, Tryz.ntmps118
  go_wp2_with (first
    | (at_make; refine wpList_make_own _ rfl (.const (.int .i64 0)) (.tmp 11) 34 rfl w.heap.size 5 Tryz.t5 (.int .u8 0) 1 Tryz.underlying34 (by kernel_rfl) rfl rfl .i64 .i64 _ (n + 12) rfl rfl (by omega) (by show 1 * _ ≤ _; omega) (by unfold maxLen; omega) (Nat.le_refl _) ?_; intro w1 hown1 hg1)
    | (at_builtin; have _t := tok1; refine wpList_append_reads _ rfl (.tmp 12) (.tmp 24) rfl Tryz.u8s' w.heap.size (.slice (some ⟨w.heap.size, 0, none⟩) 0 (n + 12)) 0 [] rfl (hown1.alloc _) (w1.heap.size + 1) (some ⟨w1.heap.size, 0, none⟩) 4 4 (u8s (be4 n)) rfl (by exact reads_lit w1 _ (be4 n) _ _ (by rw [hL.out])) (u8s_one _) (by decide) (by decide) (by have := hg1.size; simp; omega) ?_; intro v2 w2 hown2 hg2 hat2; clear tok1; rw [List.nil_append] at hown2; have HB2 := Lib.hid (below_app ((below_grown_none hg1).alloc hg1.size _) (hown1.alloc _) hg2 (by have := hg1.size; simp; omega) (Nat.le_refl _)); obtain ⟨A2, c2, rfl, hO2⟩ := own_bytes hown2; have HO2 := Lib.hid hO2; clear hown2 hg2 hat2 hO2 hown1 hg1)
    | (go_at_call 135; have _t := tok2; go_must (refine (sum_any [be4 n] _ 1 1 _ (by omega) (by exact (HO2.out.one _ _).more (by simp)) (HT.out _ (HB2.out.alloc HB2.out.size _))).mono ?_); rintro e w3 ⟨rfl, rfl⟩; rw [f1.out]; clear tok2)
    | (go_at_call 170; have _t := tok3; go_must (refine (low_any w.heap.size (be4 n).length (sumL (be4 n)) (.slice A2 (be4 n).length c2) (u8s (be4 n)) _ (by show 4 ≤ _; omega) (HO2.out.alloc _) (by have := HB2.out.size; simp; omega) (sumL_lt _)).mono ?_); rintro e w3 ⟨v3, rfl, hown3, hg3⟩; clear tok3; have HB3 := Lib.hid (below_app (HB2.out.alloc HB2.out.size _) (HO2.out.alloc _) hg3 (by have := HB2.out.size; simp; omega) (Nat.le_refl _)); rw [← u8s_append] at hown3; obtain ⟨L3, A3, c3, E3, N3, rfl, hO3⟩ := own_named hown3; have HO3 := Lib.hid hO3; clear hown3 hg3 hO3)
    | (at_builtin; go_must (refine wpList_append_reads _ rfl (.tmp 30) (.tmp 31) rfl Tryz.u8s' w.heap.size (.slice A3 L3.length c3) L3.length (u8s L3) rfl HO3.out _ A n c (u8s l) rfl (HR.out _ HB3.out) (u8s_one _) (by rw [N3.out]; show 4 + 4 + n ≤ _; unfold maxLen; omega) (by rw [N3.out]; show (4 + 4 + n) * 1 ≤ _; omega) HB3.out.size ?_); intro v4 w4 hown4 hg4 hat4; have HB4 := Lib.hid (below_app HB3.out HO3.out hg4 HB3.out.size (Nat.le_refl _)); rw [← u8s_append] at hown4; obtain ⟨L4, A4, c4, E4, N4, rfl, hO4⟩ := own_named hown4; have HO4 := Lib.hid hO4; clear hown4 hg4 hat4 hO4)
    | (go_at_call 135; go_must (refine (sum_any [l] _ 1 1 _ (by omega) (by exact (rbs_one _ A n c l _ _ hnc hc' HA'.out (HR.out _ HB4.out)).more (by simp)) (HT.out _ (HB4.out.alloc HB4.out.size _))).mono ?_); rintro e w5 ⟨rfl, rfl⟩; rw [f1.out])
    | (go_at_call 170; have HB5 := Lib.hid (HB4.out.alloc HB4.out.size (.cells #[.slice A n c] 34)); go_must (refine (low_any w.heap.size L4.length (sumL l) (.slice A4 L4.length c4) (u8s L4) _ (by rw [N4.out, N3.out]; show 4 + 4 + n ≤ _; omega) (HO4.out.alloc _) HB5.out.size (sumL_lt _)).mono ?_); rintro e w6 ⟨v6, rfl, hown6, hg6⟩; rw [← u8s_append] at hown6; have HO6 := Lib.hid hown6; have HB6 := Lib.hid (below_app HB5.out (HO4.out.alloc _) hg6 HB5.out.size (Nat.le_refl _)); clear hown6 hg6))
  go_ret2
  rw [hR.out.1, hR.out.2]
  have hE : L4 ++ lowB (sumL l) = frameB l := by unfold frameB headF; rw [HL.out, E4.out, E3.out]
  exact bytes_post2 (hE ▸ HO6.out) HB6.out
section
variable (l : List UInt8) (A : Option Addr) (n c k : Nat) (w : World)
set_option maxRecDepth 100000 in
set_option maxHeartbeats 1000000 in
theorem rframe_out (a : Int) (h : a < 0 ∨ (n : Int) < a) :
    Calls Tryz.prog 132 #[.slice A n c, .int .i64 a] w (BytesPost3 5 [] 0 1 w) := by
  have HO : Hid (outB n a = true) := Lib.hid (by rcases h with h | h <;> simp [outB, h])
  have H : Hid (BytesPost3 5 [] 0 1 w (.returned (.tuple #[.slice none 0 0, .int .i64 0, .int .i64 1])) w) := Lib.hid (bytes_none3 (Below.refl _ _))
  clear h
  go_enter Tryz.func132, Tryz.ntmps132
  go_wp2_with (go_at_call 184; go_must (refine (outside_any A n c a _).mono ?_); rintro e w0 ⟨rfl, rfl⟩; rw [HO.out])
  go_ret3
  exact H.out
variable (hn : n ≤ 9223372036854775807) (hnc : n ≤ c) (hc : c ≤ 9223372036854775807) (hA : A = none → c = 0) (hr : RB w w.heap.size A n l) (ht : TabAt 0 w) (hk : k ≤ n)
include hk in
set_option maxRecDepth 100000 in
set_option maxHeartbeats 1000000 in
theorem rframe_short (h8 : n < k + 8) : Calls Tryz.prog 132 #[.slice A n c, .int .i64 k] w (BytesPost3 5 [] 0 10 w) := by
  have HO : Hid (outB n (k : Int) = false) := Lib.hid (outB_no (by omega) (by omega))
  have H : Hid (BytesPost3 5 [] 0 10 w (.returned (.tuple #[.slice none 0 0, .int .i64 0, .int .i64 10])) w) := Lib.hid (bytes_none3 (Below.refl _ _))
  go_enter Tryz.func132, Tryz.ntmps132
  go_wp2_with (go_at_call 184; go_must (refine (outside_any A n c (k : Int) _).mono ?_); rintro e w0 ⟨rfl, rfl⟩; rw [HO.out])
  go_ret3
  exact H.out
include hn hnc hc hA hr ht in
set_option maxRecDepth 100000 in
set_option maxHeartbeats 1000000 in
theorem rframe_sum (h8 : k + 8 ≤ n) (hi : isB l (k + 4) (sumL (cutF l k 4)) = false) : Calls Tryz.prog 132 #[.slice A n c, .int .i64 k] w (BytesPost3 5 [] 0 12 w) := by
  have HR : Hid (∀ w', Below w.heap.size w w' → RB w' w'.heap.size A n l) := Lib.hid fun w' h => hr.later h
  have HT : Hid (∀ w', Below w.heap.size w w' → TabAt 0 w') := Lib.hid fun w' h => ht.later h
  have HO : Hid (outB n (k : Int) = false) := Lib.hid (outB_no (by omega) (by omega))
  have f1 : Hid (∀ x : List UInt8, [x].flatten = x) := Lib.hid fun x => by simp
  have HN := Lib.hid hn
  have HC1 : Hid (∀ w', Below w.heap.size w w' → RB w' w'.heap.size (A.map (·.add k)) 4 (cutF l k 4)) := Lib.hid fun w' h => by
    have := ((HR.out w' h).drop (k := k) (cap := c) (by omega) hnc).take (m := 4) (by omega)
    rwa [if_neg (by omega)] at this
  have HA1 : Hid (A.map (·.add k) = none → c - k = 0) := Lib.hid fun h => by cases A with
    | none => have := hA rfl; omega
    | some _ => cases h
  have k6 : c ≠ k := by omega
  have k7 : k + 4 - k = 4 := by omega
  have tok1 : True := trivial
  have tok2 : True := trivial
  have HI1 := Lib.hid hi
  clear hr ht hA hi hn
  go_enter Tryz.func132, Tryz.ntmps132
  go_wp2_with (first
    | (go_at_call 184; go_must (refine (outside_any A n c (k : Int) _).mono ?_); rintro e w0 ⟨rfl, rfl⟩; rw [HO.out])
    | (go_at_call 135; have _t := tok1; go_must (refine (sum_any [cutF l k 4] _ 1 1 _ (by omega) (by exact (rbs_one _ _ 4 (c - k) (cutF l k 4) _ _ (by omega) (by omega) HA1.out (HC1.out _ (Below.refl _ _))).more (by simp)) (HT.out _ ((Below.refl _ _).alloc (Nat.le_refl _) _))).mono ?_); rintro e w1 ⟨rfl, rfl⟩; rw [f1.out]; clear tok1)
    | (go_at_call 185; have _t := tok2; go_must (refine (is_at l A n c (k + 4) (sumL (cutF l k 4)) _ _ (by omega) HN.out hnc (HR.out _ ((Below.refl _ _).alloc (Nat.le_refl _) _)) (by omega) (sumL_lt _)).mono ?_); rintro e w2 ⟨rfl, hb2⟩; rw [HI1.out]; clear tok2; have HB2 := Lib.hid (((Below.refl w.heap.size w).alloc (Nat.le_refl _) (.cells #[.slice (A.map (·.add k)) 4 (c - k)] 34)).trans (hb2.mono (by simp))); clear hb2))
  go_ret3
  exact bytes_none3 HB2.out
include hn hnc hc hA hr ht in
set_option maxRecDepth 100000 in
set_option maxHeartbeats 1000000 in
theorem rframe_big (h8 : k + 8 ≤ n) (hi : isB l (k + 4) (sumL (cutF l k 4)) = true) (hb : 1048576 < numF l k) : Calls Tryz.prog 132 #[.slice A n c, .int .i64 k] w (BytesPost3 5 [] 0 13 w) := by
  have HR : Hid (∀ w', Below w.heap.size w w' → RB w' w'.heap.size A n l) := Lib.hid fun w' h => hr.later h
  have HT : Hid (∀ w', Below w.heap.size w w' → TabAt 0 w') := Lib.hid fun w' h => ht.later h
  have HO : Hid (outB n (k : Int) = false) := Lib.hid (outB_no (by omega) (by omega))
  have f1 : Hid (∀ x : List UInt8, [x].flatten = x) := Lib.hid fun x => by simp
  have HN := Lib.hid hn
  have HC1 : Hid (∀ w', Below w.heap.size w w' → RB w' w'.heap.size (A.map (·.add k)) 4 (cutF l k 4)) := Lib.hid fun w' h => by
    have := ((HR.out w' h).drop (k := k) (cap := c) (by omega) hnc).take (m := 4) (by omega)
    rwa [if_neg (by omega)] at this
  have HA1 : Hid (A.map (·.add k) = none → c - k = 0) := Lib.hid fun h => by cases A with
    | none => have := hA rfl; omega
    | some _ => cases h
  have k6 : c ≠ k := by omega
  have k7 : k + 4 - k = 4 := by omega
  have tok1 : True := trivial
  have tok2 : True := trivial
  have HI1 := Lib.hid hi
  obtain ⟨b, o, _, eA, hbb, _, _⟩ := hr.at_ (k := 0) (by omega)
  have HAE := Lib.hid eA
  have hl := hr.len
  obtain ⟨m, hm⟩ : ∃ m, m = numF l k := ⟨_, rfl⟩
  have HC2 : Hid (∀ i, i < 4 → ∀ w', Below w.heap.size w w' → w'.cell? ⟨b, o + (k + i), none⟩ = some (.int .u8 ((l[k + i]?.getD 0).toNat : Int))) := Lib.hid fun i hi w' h =>
    (HAE.out ▸ HR.out w' h).cell (k := k + i) (by rw [List.getElem?_eq_getElem (by omega)]; rfl)
  have HM : Hid (bits .or .i64 (bits .or .i64 (bits .or .i64 (wrap64 (wrap64 ((l[k]?.getD 0).toNat : Int) * 16777216)) (wrap64 (wrap64 ((l[k + 1]?.getD 0).toNat : Int) * 65536))) (wrap64 (wrap64 ((l[k + 2]?.getD 0).toNat : Int) * 256))) (wrap64 ((l[k + 3]?.getD 0).toNat : Int)) = (m : Int)) := Lib.hid (by rw [numB_walk, hm]; rfl)
  have hmb : 1048576 < m := by omega
  clear hr ht hA hi hb hm hl hbb eA
  go_enter Tryz.func132, Tryz.ntmps132
  go_wp2_with (first
    | (go_at_call 184; go_must (refine (outside_any A n c (k : Int) _).mono ?_); rintro e w0 ⟨rfl, rfl⟩; rw [HO.out])
    | (go_at_call 135; have _t := tok1; go_must (refine (sum_any [cutF l k 4] _ 1 1 _ (by omega) (by exact (rbs_one _ _ 4 (c - k) (cutF l k 4) _ _ (by omega) (by omega) HA1.out (HC1.out _ (Below.refl _ _))).more (by simp)) (HT.out _ ((Below.refl _ _).alloc (Nat.le_refl _) _))).mono ?_); rintro e w1 ⟨rfl, rfl⟩; rw [f1.out]; clear tok1)
    | (go_at_call 185; have _t := tok2; go_must (refine (is_at l A n c (k + 4) (sumL (cutF l k 4)) _ _ (by omega) HN.out hnc (HR.out _ ((Below.refl _ _).alloc (Nat.le_refl _) _)) (by omega) (sumL_lt _)).mono ?_); rintro e w2 ⟨rfl, hb2⟩; rw [HI1.out]; clear tok2; have HB2 := Lib.hid (((Below.refl w.heap.size w).alloc (Nat.le_refl _) (.cells #[.slice (A.map (·.add k)) 4 (c - k)] 34)).trans (hb2.mono (by simp))); clear hb2))
  have c0 := HC2.out 0 (by omega) _ HB2.out
  have c1 := HC2.out 1 (by omega) _ HB2.out
  have c2 := HC2.out 2 (by omega) _ HB2.out
  have c3 := HC2.out 3 (by omega) _ HB2.out
  rw [Nat.add_zero] at c0
  have q1 : IntKind.i64.wrap ((k : Int) + 1) = (k : Int) + 1 := i64_sum (by omega) (by omega)
  have q2 : IntKind.i64.wrap ((k : Int) + 2) = (k : Int) + 2 := i64_sum (by omega) (by omega)
  have q3 : IntKind.i64.wrap ((k : Int) + 3) = (k : Int) + 3 := i64_sum (by omega) (by omega)
  have r1 : ((k : Int) + 1).toNat = k + 1 := by omega
  have r2 : ((k : Int) + 2).toNat = k + 2 := by omega
  have r3 : ((k : Int) + 3).toNat = k + 3 := by omega
  have s1 : (0 : Int) ≤ (k : Int) + 1 := by omega
  have s2 : (0 : Int) ≤ (k : Int) + 2 := by omega
  have s3 : (0 : Int) ≤ (k : Int) + 3 := by omega
  have s4 : (k : Int) + 1 < (n : Int) := by omega
  have s5 : (k : Int) + 2 < (n : Int) := by omega
  have s6 : (k : Int) + 3 < (n : Int) := by omega
  have s7 : (k : Int) < (n : Int) := by omega
  have eA := HAE.out
  clear HAE
  subst eA
  go_quiet (fail)
  rw [HM.out]
  clear c0 c1 c2 c3 q1 q2 q3 r1 r2 r3 s1 s2 s3 s4 s5 s6 s7 HC2 HM
  have HB3 := Lib.hid (below_drewN (n := nq) HB2.out)
  generalize w2.drewN nq = w3 at *
  go_wp2
  go_ret3
  exact bytes_none3 HB3.out
include hn hnc hc hA hr ht in
set_option maxRecDepth 100000 in
set_option maxHeartbeats 1000000 in
theorem rframe_torn (h8 : k + 8 ≤ n) (hi : isB l (k + 4) (sumL (cutF l k 4)) = true) (hb : numF l k ≤ 1048576) (hs : n < k + 8 + numF l k + 4) : Calls Tryz.prog 132 #[.slice A n c, .int .i64 k] w (BytesPost3 5 [] 0 10 w) := by
  have HR : Hid (∀ w', Below w.heap.size w w' → RB w' w'.heap.size A n l) := Lib.hid fun w' h => hr.later h
  have HT : Hid (∀ w', Below w.heap.size w w' → TabAt 0 w') := Lib.hid fun w' h => ht.later h
  have HO : Hid (outB n (k : Int) = false) := Lib.hid (outB_no (by omega) (by omega))
  have f1 : Hid (∀ x : List UInt8, [x].flatten = x) := Lib.hid fun x => by simp
  have HN := Lib.hid hn
  have HC1 : Hid (∀ w', Below w.heap.size w w' → RB w' w'.heap.size (A.map (·.add k)) 4 (cutF l k 4)) := Lib.hid fun w' h => by
    have := ((HR.out w' h).drop (k := k) (cap := c) (by omega) hnc).take (m := 4) (by omega)
    rwa [if_neg (by omega)] at this
  have HA1 : Hid (A.map (·.add k) = none → c - k = 0) := Lib.hid fun h => by cases A with
    | none => have := hA rfl; omega
    | some _ => cases h
  have k6 : c ≠ k := by omega
  have k7 : k + 4 - k = 4 := by omega
  have tok1 : True := trivial
  have tok2 : True := trivial
  have HI1 := Lib.hid hi
  obtain ⟨b, o, _, eA, hbb, _, _⟩ := hr.at_ (k := 0) (by omega)
  have HAE := Lib.hid eA
  have hl := hr.len
  obtain ⟨m, hm⟩ : ∃ m, m = numF l k := ⟨_, rfl⟩
  have HC2 : Hid (∀ i, i < 4 → ∀ w', Below w.heap.size w w' → w'.cell? ⟨b, o + (k + i), none⟩ = some (.int .u8 ((l[k + i]?.getD 0).toNat : Int))) := Lib.hid fun i hi w' h =>
    (HAE.out ▸ HR.out w' h).cell (k := k + i) (by rw [List.getElem?_eq_getElem (by omega)]; rfl)
  have HM : Hid (bits .or .i64 (bits .or .i64 (bits .or .i64 (wrap64 (wrap64 ((l[k]?.getD 0).toNat : Int) * 16777216)) (wrap64 (wrap64 ((l[k + 1]?.getD 0).toNat : Int) * 65536))) (wrap64 (wrap64 ((l[k + 2]?.getD 0).toNat : Int) * 256))) (wrap64 ((l[k + 3]?.getD 0).toNat : Int)) = (m : Int)) := Lib.hid (by rw [numB_walk, hm]; rfl)
  have hmb : m ≤ 1048576 := by omega
  have hms : n < k + 8 + m + 4 := by omega
  clear hr ht hA hi hbb eA hb hm hl hs
  go_enter Tryz.func132, Tryz.ntmps132
  go_wp2_with (first
    | (go_at_call 184; go_must (refine (outside_any A n c (k : Int) _).mono ?_); rintro e w0 ⟨rfl, rfl⟩; rw [HO.out])
    | (go_at_call 135; have _t := tok1; go_must (refine (sum_any [cutF l k 4] _ 1 1 _ (by omega) (by exact (rbs_one _ _ 4 (c - k) (cutF l k 4) _ _ (by omega) (by omega) HA1.out (HC1.out _ (Below.refl _ _))).more (by simp)) (HT.out _ ((Below.refl _ _).alloc (Nat.le_refl _) _))).mono ?_); rintro e w1 ⟨rfl, rfl⟩; rw [f1.out]; clear tok1)
    | (go_at_call 185; have _t := tok2; go_must (refine (is_at l A n c (k + 4) (sumL (cutF l k 4)) _ _ (by omega) HN.out hnc (HR.out _ ((Below.refl _ _).alloc (Nat.le_refl _) _)) (by omega) (sumL_lt _)).mono ?_); rintro e w2 ⟨rfl, hb2⟩; rw [HI1.out]; clear tok2; have HB2 := Lib.hid (((Below.refl w.heap.size w).alloc (Nat.le_refl _) (.cells #[.slice (A.map (·.add k)) 4 (c - k)] 34)).trans (hb2.mono (by simp))); clear hb2))
  have c0 := HC2.out 0 (by omega) _ HB2.out
  have c1 := HC2.out 1 (by omega) _ HB2.out
  have c2 := HC2.out 2 (by omega) _ HB2.out
  have c3 := HC2.out 3 (by omega) _ HB2.out
  rw [Nat.add_zero] at c0
  have q1 : IntKind.i64.wrap ((k : Int) + 1) = (k : Int) + 1 := i64_sum (by omega) (by omega)
  have q2 : IntKind.i64.wrap ((k : Int) + 2) = (k : Int) + 2 := i64_sum (by omega) (by omega)
  have q3 : IntKind.i64.wrap ((k : Int) + 3) = (k : Int) + 3 := i64_sum (by omega) (by omega)
  have r1 : ((k : Int) + 1).toNat = k + 1 := by omega
  have r2 : ((k : Int) + 2).toNat = k + 2 := by omega
  have r3 : ((k : Int) + 3).toNat = k + 3 := by omega
  have s1 : (0 : Int) ≤ (k : Int) + 1 := by omega
  have s2 : (0 : Int) ≤ (k : Int) + 2 := by omega
  have s3 : (0 : Int) ≤ (k : Int) + 3 := by omega
  have s4 : (k : Int) + 1 < (n : Int) := by omega
  have s5 : (k : Int) + 2 < (n : Int) := by omega
  have s6 : (k : Int) + 3 < (n : Int) := by omega
  have s7 : (k : Int) < (n : Int) := by omega
  have eA := HAE.out
  clear HAE
  subst eA
  go_quiet (fail)
  rw [HM.out]
  clear c0 c1 c2 c3 q1 q2 q3 r1 r2 r3 s1 s2 s3 s4 s5 s6 s7 HC2 HM
  have HB3 := Lib.hid (below_drewN (n := nq) HB2.out)
  generalize w2.drewN nq = w3 at *
  go_wp2
  go_ret3
  exact bytes_none3 HB3.out
include hn hnc hc hA hr ht in
set_option maxRecDepth 100000 in
set_option maxHeartbeats 1000000 in
theorem rframe_sum2 (h8 : k + 8 ≤ n) (hi : isB l (k + 4) (sumL (cutF l k 4)) = true) (hb : numF l k ≤ 1048576) (hs : k + 8 + numF l k + 4 ≤ n) (hj : isB l (k + 8 + numF l k) (sumL (cutF l (k + 8) (numF l k))) = false) : Calls Tryz.prog 132 #[.slice A n c, .int .i64 k] w (BytesPost3 5 [] 0 12 w) := by
  have HR : Hid (∀ w', Below w.heap.size w w' → RB w' w'.heap.size A n l) := Lib.hid fun w' h => hr.later h
  have HT : Hid (∀ w', Below w.heap.size w w' → TabAt 0 w') := Lib.hid fun w' h => ht.later h
  have HO : Hid (outB n (k : Int) = false) := Lib.hid (outB_no (by omega) (by omega))
  have f1 : Hid (∀ x : List UInt8, [x].flatten = x) := Lib.hid fun x => by simp
  have HN := Lib.hid hn
  have HC1 : Hid (∀ w', Below w.heap.size w w' → RB w' w'.heap.size (A.map (·.add k)) 4 (cutF l k 4)) := Lib.hid fun w' h => by
    have := ((HR.out w' h).drop (k := k) (cap := c) (by omega) hnc).take (m := 4) (by omega)
    rwa [if_neg (by omega)] at this
  have HA1 : Hid (A.map (·.add k) = none → c - k = 0) := Lib.hid fun h => by cases A with
    | none => have := hA rfl; omega
    | some _ => cases h
  have k6 : c ≠ k := by omega
  have k7 : k + 4 - k = 4 := by omega
  have tok1 : True := trivial
  have tok2 : True := trivial
  have HI1 := Lib.hid hi
  obtain ⟨b, o, _, eA, hbb, _, _⟩ := hr.at_ (k := 0) (by omega)
  have HAE := Lib.hid eA
  have hl := hr.len
  obtain ⟨m, hm⟩ : ∃ m, m = numF l k := ⟨_, rfl⟩
  have HC2 : Hid (∀ i, i < 4 → ∀ w', Below w.heap.size w w' → w'.cell? ⟨b, o + (k + i), none⟩ = some (.int .u8 ((l[k + i]?.getD 0).toNat : Int))) := Lib.hid fun i hi w' h =>
    (HAE.out ▸ HR.out w' h).cell (k := k + i) (by rw [List.getElem?_eq_getElem (by omega)]; rfl)
  have HM : Hid (bits .or .i64 (bits .or .i64 (bits .or .i64 (wrap64 (wrap64 ((l[k]?.getD 0).toNat : Int) * 16777216)) (wrap64 (wrap64 ((l[k + 1]?.getD 0).toNat : Int) * 65536))) (wrap64 (wrap64 ((l[k + 2]?.getD 0).toNat : Int) * 256))) (wrap64 ((l[k + 3]?.getD 0).toNat : Int)) = (m : Int)) := Lib.hid (by rw [numB_walk, hm]; rfl)
  have hmb : m ≤ 1048576 := by omega
  have hms : k + 8 + m + 4 ≤ n := by omega
  have HI2 : Hid (isB l (k + 8 + m) (sumL (cutF l (k + 8) m)) = false) := Lib.hid (by rw [hm]; exact hj)
  have HC8 : Hid (∀ w', Below w.heap.size w w' → RB w' w'.heap.size (A.map (·.add (k + 8))) m (cutF l (k + 8) m)) := Lib.hid fun w' h => by
    have := ((HR.out w' h).drop (k := k + 8) (cap := c) (by omega) hnc).take (m := m) (by omega)
    rwa [if_neg (by omega)] at this
  have HA8 : Hid (A.map (·.add (k + 8)) = none → c - (k + 8) = 0) := Lib.hid fun h => by cases A with
    | none => have := hA rfl; omega
    | some _ => cases h
  have k8 : c ≠ k + 8 := by omega
  have k9 : k + 8 + m - (k + 8) = m := by omega
  have HK8 : Hid (m ≤ c - (k + 8) ∧ c - (k + 8) ≤ 9223372036854775807 ∧ k + 8 + m + 4 ≤ n) := Lib.hid (by omega)
  have tok3 : True := trivial
  clear hr ht hA hi hbb eA hb hm hl hs hj
  go_enter Tryz.func132, Tryz.ntmps132
  go_wp2_with (first
    | (go_at_call 184; go_must (refine (outside_any A n c (k : Int) _).mono ?_); rintro e w0 ⟨rfl, rfl⟩; rw [HO.out])
    | (go_at_call 135; have _t := tok1; go_must (refine (sum_any [cutF l k 4] _ 1 1 _ (by omega) (by exact (rbs_one _ _ 4 (c - k) (cutF l k 4) _ _ (by omega) (by omega) HA1.out (HC1.out _ (Below.refl _ _))).more (by simp)) (HT.out _ ((Below.refl _ _).alloc (Nat.le_refl _) _))).mono ?_); rintro e w1 ⟨rfl, rfl⟩; rw [f1.out]; clear tok1)
    | (go_at_call 185; have _t := tok2; go_must (refine (is_at l A n c (k + 4) (sumL (cutF l k 4)) _ _ (by omega) HN.out hnc (HR.out _ ((Below.refl _ _).alloc (Nat.le_refl _) _)) (by omega) (sumL_lt _)).mono ?_); rintro e w2 ⟨rfl, hb2⟩; rw [HI1.out]; clear tok2; have HB2 := Lib.hid (((Below.refl w.heap.size w).alloc (Nat.le_refl _) (.cells #[.slice (A.map (·.add k)) 4 (c - k)] 34)).trans (hb2.mono (by simp))); clear hb2))
  have c0 := HC2.out 0 (by omega) _ HB2.out
  have c1 := HC2.out 1 (by omega) _ HB2.out
  have c2 := HC2.out 2 (by omega) _ HB2.out
  have c3 := HC2.out 3 (by omega) _ HB2.out
  rw [Nat.add_zero] at c0
  have q1 : IntKind.i64.wrap ((k : Int) + 1) = (k : Int) + 1 := i64_sum (by omega) (by omega)
  have q2 : IntKind.i64.wrap ((k : Int) + 2) = (k : Int) + 2 := i64_sum (by omega) (by omega)
  have q3 : IntKind.i64.wrap ((k : Int) + 3) = (k : Int) + 3 := i64_sum (by omega) (by omega)
  have r1 : ((k : Int) + 1).toNat = k + 1 := by omega
  have r2 : ((k : Int) + 2).toNat = k + 2 := by omega
  have r3 : ((k : Int) + 3).toNat = k + 3 := by omega
  have s1 : (0 : Int) ≤ (k : Int) + 1 := by omega
  have s2 : (0 : Int) ≤ (k : Int) + 2 := by omega
  have s3 : (0 : Int) ≤ (k : Int) + 3 := by omega
  have s4 : (k : Int) + 1 < (n : Int) := by omega
  have s5 : (k : Int) + 2 < (n : Int) := by omega
  have s6 : (k : Int) + 3 < (n : Int) := by omega
  have s7 : (k : Int) < (n : Int) := by omega
  have eA := HAE.out
  clear HAE
  subst eA
  go_quiet (fail)
  rw [HM.out]
  clear c0 c1 c2 c3 q1 q2 q3 r1 r2 r3 s1 s2 s3 s4 s5 s6 s7 HC2 HM
  have HB3 := Lib.hid (below_drewN (n := nq) HB2.out)
  generalize w2.drewN nq = w3 at *
  go_wp2_with (first
    | (go_at_call 135; go_must (refine (sum_any [cutF l (k + 8) m] _ 1 1 _ (by omega) (by exact (rbs_one _ _ m (c - (k + 8)) (cutF l (k + 8) m) _ _ HK8.out.1 HK8.out.2.1 HA8.out (HC8.out _ HB3.out)).more (by simp)) (HT.out _ (HB3.out.alloc HB3.out.size _))).mono ?_); rintro e w4 ⟨rfl, rfl⟩; rw [f1.out])
    | (go_at_call 185; have HB4 := Lib.hid (HB3.out.alloc HB3.out.size (.cells #[.slice (some (Addr.add ⟨b, o, none⟩ (k + 8))) m (c - (k + 8))] 34)); go_must (refine (is_at l _ n c (k + 8 + m) (sumL (cutF l (k + 8) m)) _ _ (by omega) HN.out hnc (HR.out _ HB4.out) HK8.out.2.2 (sumL_lt _)).mono ?_); rintro e w5 ⟨rfl, hb5⟩; rw [HI2.out]; have HB5 := Lib.hid (HB4.out.trans (hb5.mono HB4.out.size)); clear hb5))
  go_ret3
  exact bytes_none3 HB5.out
include hn hnc hc hA hr ht in
set_option maxRecDepth 100000 in
set_option maxHeartbeats 1000000 in
theorem rframe_ok (h8 : k + 8 ≤ n) (hi : isB l (k + 4) (sumL (cutF l k 4)) = true) (hb : numF l k ≤ 1048576) (hs : k + 8 + numF l k + 4 ≤ n) (hj : isB l (k + 8 + numF l k) (sumL (cutF l (k + 8) (numF l k))) = true) : Calls Tryz.prog 132 #[.slice A n c, .int .i64 k] w (BytesPost3 5 (cutF l (k + 8) (numF l k)) ((k + 8 + numF l k + 4 : Nat) : Int) 0 w) := by
  have HR : Hid (∀ w', Below w.heap.size w w' → RB w' w'.heap.size A n l) := Lib.hid fun w' h => hr.later h
  have HT : Hid (∀ w', Below w.heap.size w w' → TabAt 0 w') := Lib.hid fun w' h => ht.later h
  have HO : Hid (outB n (k : Int) = false) := Lib.hid (outB_no (by omega) (by omega))
  have f1 : Hid (∀ x : List UInt8, [x].flatten = x) := Lib.hid fun x => by simp
  have HN := Lib.hid hn
  have HC1 : Hid (∀ w', Below w.heap.size w w' → RB w' w'.heap.size (A.map (·.add k)) 4 (cutF l k 4)) := Lib.hid fun w' h => by
    have := ((HR.out w' h).drop (k := k) (cap := c) (by omega) hnc).take (m := 4) (by omega)
    rwa [if_neg (by omega)] at this
  have HA1 : Hid (A.map (·.add k) = none → c - k = 0) := Lib.hid fun h => by cases A with
    | none => have := hA rfl; omega
    | some _ => cases h
  have k6 : c ≠ k := by omega
  have k7 : k + 4 - k = 4 := by omega
  have tok1 : True := trivial
  have tok2 : True := trivial
  have HI1 := Lib.hid hi
  obtain ⟨b, o, _, eA, hbb, _, _⟩ := hr.at_ (k := 0) (by omega)
  have HAE := Lib.hid eA
  have hl := hr.len
  obtain ⟨m, hm⟩ : ∃ m, m = numF l k := ⟨_, rfl⟩
  have HC2 : Hid (∀ i, i < 4 → ∀ w', Below w.heap.size w w' → w'.cell? ⟨b, o + (k + i), none⟩ = some (.int .u8 ((l[k + i]?.getD 0).toNat : Int))) := Lib.hid fun i hi w' h =>
    (HAE.out ▸ HR.out w' h).cell (k := k + i) (by rw [List.getElem?_eq_getElem (by omega)]; rfl)
  have HM : Hid (bits .or .i64 (bits .or .i64 (bits .or .i64 (wrap64 (wrap64 ((l[k]?.getD 0).toNat : Int) * 16777216)) (wrap64 (wrap64 ((l[k + 1]?.getD 0).toNat : Int) * 65536))) (wrap64 (wrap64 ((l[k + 2]?.getD 0).toNat : Int) * 256))) (wrap64 ((l[k + 3]?.getD 0).toNat : Int)) = (m : Int)) := Lib.hid (by rw [numB_walk, hm]; rfl)
  have hmb : m ≤ 1048576 := by omega
  have HMM := Lib.hid hm
  have hms : k + 8 + m + 4 ≤ n := by omega
  have HI2 : Hid (isB l (k + 8 + m) (sumL (cutF l (k + 8) m)) = true) := Lib.hid (by rw [hm]; exact hj)
  have HC8 : Hid (∀ w', Below w.heap.size w w' → RB w' w'.heap.size (A.map (·.add (k + 8))) m (cutF l (k + 8) m)) := Lib.hid fun w' h => by
    have := ((HR.out w' h).drop (k := k + 8) (cap := c) (by omega) hnc).take (m := m) (by omega)
    rwa [if_neg (by omega)] at this
  have HA8 : Hid (A.map (·.add (k + 8)) = none → c - (k + 8) = 0) := Lib.hid fun h => by cases A with
    | none => have := hA rfl; omega
    | some _ => cases h
  have k8 : c ≠ k + 8 := by omega
  have k9 : k + 8 + m - (k + 8) = m := by omega
  have HK8 : Hid (m ≤ c - (k + 8) ∧ c - (k + 8) ≤ 9223372036854775807 ∧ k + 8 + m + 4 ≤ n) := Lib.hid (by omega)
  have tok3 : True := trivial
  clear hr ht hA hi hbb eA hb hm hl hs hj
  go_enter Tryz.func132, Tryz.ntmps132
  go_wp2_with (first
    | (go_at_call 184; go_must (refine (outside_any A n c (k : Int) _).mono ?_); rintro e w0 ⟨rfl, rfl⟩; rw [HO.out])
    | (go_at_call 135; have _t := tok1; go_must (refine (sum_any [cutF l k 4] _ 1 1 _ (by omega) (by exact (rbs_one _ _ 4 (c - k) (cutF l k 4) _ _ (by omega) (by omega) HA1.out (HC1.out _ (Below.refl _ _))).more (by simp)) (HT.out _ ((Below.refl _ _).alloc (Nat.le_refl _) _))).mono ?_); rintro e w1 ⟨rfl, rfl⟩; rw [f1.out]; clear tok1)
    | (go_at_call 185; have _t := tok2; go_must (refine (is_at l A n c (k + 4) (sumL (cutF l k 4)) _ _ (by omega) HN.out hnc (HR.out _ ((Below.refl _ _).alloc (Nat.le_refl _) _)) (by omega) (sumL_lt _)).mono ?_); rintro e w2 ⟨rfl, hb2⟩; rw [HI1.out]; clear tok2; have HB2 := Lib.hid (((Below.refl w.heap.size w).alloc (Nat.le_refl _) (.cells #[.slice (A.map (·.add k)) 4 (c - k)] 34)).trans (hb2.mono (by simp))); clear hb2))
  have c0 := HC2.out 0 (by omega) _ HB2.out
  have c1 := HC2.out 1 (by omega) _ HB2.out
  have c2 := HC2.out 2 (by omega) _ HB2.out
  have c3 := HC2.out 3 (by omega) _ HB2.out
  rw [Nat.add_zero] at c0
  have q1 : IntKind.i64.wrap ((k : Int) + 1) = (k : Int) + 1 := i64_sum (by omega) (by omega)
  have q2 : IntKind.i64.wrap ((k : Int) + 2) = (k : Int) + 2 := i64_sum (by omega) (by omega)
  have q3 : IntKind.i64.wrap ((k : Int) + 3) = (k : Int) + 3 := i64_sum (by omega) (by omega)
  have r1 : ((k : Int) + 1).toNat = k + 1 := by omega
  have r2 : ((k : Int) + 2).toNat = k + 2 := by omega
  have r3 : ((k : Int) + 3).toNat = k + 3 := by omega
  have s1 : (0 : Int) ≤ (k : Int) + 1 := by omega
  have s2 : (0 : Int) ≤ (k : Int) + 2 := by omega
  have s3 : (0 : Int) ≤ (k : Int) + 3 := by omega
  have s4 : (k : Int) + 1 < (n : Int) := by omega
  have s5 : (k : Int) + 2 < (n : Int) := by omega
  have s6 : (k : Int) + 3 < (n : Int) := by omega
  have s7 : (k : Int) < (n : Int) := by omega
  have eA := HAE.out
  clear HAE
  subst eA
  go_quiet (fail)
  rw [HM.out]
  clear c0 c1 c2 c3 q1 q2 q3 r1 r2 r3 s1 s2 s3 s4 s5 s6 s7 HC2 HM
  have HB3 := Lib.hid (below_drewN (n := nq) HB2.out)
  generalize w2.drewN nq = w3 at *
  go_wp2_with (first
    | (go_at_call 135; go_must (refine (sum_any [cutF l (k + 8) m] _ 1 1 _ (by omega) (by exact (rbs_one _ _ m (c - (k + 8)) (cutF l (k + 8) m) _ _ HK8.out.1 HK8.out.2.1 HA8.out (HC8.out _ HB3.out)).more (by simp)) (HT.out _ (HB3.out.alloc HB3.out.size _))).mono ?_); rintro e w4 ⟨rfl, rfl⟩; rw [f1.out])
    | (go_at_call 185; have HB4 := Lib.hid (HB3.out.alloc HB3.out.size (.cells #[.slice (some (Addr.add ⟨b, o, none⟩ (k + 8))) m (c - (k + 8))] 34)); go_must (refine (is_at l _ n c (k + 8 + m) (sumL (cutF l (k + 8) m)) _ _ (by omega) HN.out hnc (HR.out _ HB4.out) HK8.out.2.2 (sumL_lt _)).mono ?_); rintro e w5 ⟨rfl, hb5⟩; rw [HI2.out]; have HB5 := Lib.hid (HB4.out.trans (hb5.mono HB4.out.size)); clear hb5)
    | (go_at_call 69; go_must (refine (clone_any (cutF l (k + 8) m) _ m (c - (k + 8)) _ (by omega) HA8.out (HC8.out _ HB5.out)).mono ?_); rintro e w6 ⟨A6, c6, rfl, hO6, hb6⟩))
  go_ret3
  rw [← HMM.out]
  refine ⟨A6, c6, ?_, ?_, HB5.out.trans (hb6.mono HB5.out.size)⟩
  · rw [show ((k + 8 + m + 4 : Nat) : Int) = (k : Int) + 8 + m + 4 from by omega]; rfl
  · exact hO6.rebase HB5.out.size
end
theorem rframe_any (l : List UInt8) (A : Option Addr) (n c : Nat) (a : Int) (w : World) (hn : n ≤ 9223372036854775807) (hnc : n ≤ c) (hc : c ≤ 9223372036854775807) (hA : A = none → c = 0) (hr : RB w w.heap.size A n l) (ht : TabAt 0 w) :
    Calls Tryz.prog 132 #[.slice A n c, .int .i64 a] w (BytesPost3 5 (readFA l a).1 ((readFA l a).2.1 : Nat) ((readFA l a).2.2 : Nat) w) := by
  have hl := hr.len
  unfold readFA
  split
  · rename_i h
    exact rframe_out A n c w a (by omega)
  · rename_i h
    obtain ⟨k, rfl⟩ : ∃ k : Nat, a = (k : Int) := ⟨a.toNat, by omega⟩
    rw [Int.toNat_natCast]
    unfold readF
    rw [hl]
    split
    · exact rframe_short A n c k w (by omega) (by omega)
    · split
      · rename_i h8 hi
        exact rframe_sum l A n c k w hn hnc hc hA hr ht (by omega) hi
      · rename_i h8 hi
        have hi : isB l (k + 4) (sumL (cutF l k 4)) = true := by simpa using hi
        split
        · rename_i hb
          exact rframe_big l A n c k w hn hnc hc hA hr ht (by omega) hi hb
        · rename_i hb
          split
          · rename_i hs
            exact rframe_torn l A n c k w hn hnc hc hA hr ht (by omega) hi (by omega) hs
          · rename_i hs
            split
            · rename_i hj
              exact rframe_sum2 l A n c k w hn hnc hc hA hr ht (by omega) hi (by omega) (by omega) hj
            · rename_i hj
              have hj : isB l (k + 8 + numF l k) (sumL (cutF l (k + 8) (numF l k))) = true := by simpa using hj
              exact rframe_ok l A n c k w hn hnc hc hA hr ht (by omega) hi (by omega) (by omega) hj
def RUPost (r : Nat × Nat × Nat) (w : World) (e : Ending) (w' : World) : Prop := e = .returned (.tuple #[.int .u64 r.1, .int .i64 r.2.1, .int .i64 r.2.2]) ∧ w = w'
set_option maxRecDepth 100000 in
set_option maxHeartbeats 400000 in
theorem ru_out (l : List UInt8) (A : Option Addr) (n c : Nat) (w : World) (a : Int) (hl : l.length = n) (h : a < 0 ∨ (n : Int) < a) :
    Calls Tryz.prog 137 #[.slice A n c, .int .i64 a] w (RUPost (readU l a) w) := by
  have HO : Hid (outB n a = true) := Lib.hid (by rcases h with h | h <;> simp [outB, h])
  have H : Hid (readU l a = (0, 0, 1)) := Lib.hid (by unfold readU; rw [if_pos (by omega)])
  clear h hl
  go_enter Tryz.func137, Tryz.ntmps137
  go_wp2_with (go_at_call 184; go_must (refine (outside_any A n c a _).mono ?_); rintro e w0 ⟨rfl, rfl⟩; rw [HO.out])
  go_ret3
  rw [H.out]
  exact ⟨rfl, rfl⟩
set_option maxRecDepth 100000 in
set_option maxHeartbeats 1000000 in
theorem ru_in (l : List UInt8) (A : Option Addr) (n c k : Nat) (w : World) (hn : n ≤ 9223372036854775797) (hr : RB w w.heap.size A n l) (hk : k ≤ n) :
    Calls Tryz.prog 137 #[.slice A n c, .int .i64 k] w (RUPost (readU l k) w) := by
  have HO : Hid (outB n (k : Int) = false) := Lib.hid (outB_no (by omega) (by omega))
  have hl := hr.len
  have HR := Lib.hid hr
  have HL := Lib.hid hl
  clear hr hl
  go_enter Tryz.func137, Tryz.ntmps137
  go_wp2_with (go_at_call 184; go_must (refine (outside_any A n c k _).mono ?_); rintro e w0 ⟨rfl, rfl⟩; rw [HO.out])
  go_loop [7, 8] (fun x i => ∃ (V j : Nat), Hid (V < 2 ^ (7 * j)) ∧ x = .int .u64 V ∧ i = .int .i64 j ∧ j ≤ 9 ∧ k + j ≤ n ∧ Hid (rdU (l.drop (k + j)) j V = rdU (l.drop k) 0 0)) (fun _ i => n + 1 - (intOf i).toNat)
  case atStart => exact ⟨0, 0, Lib.hid (by decide), rfl, rfl, by omega, by omega, Lib.hid rfl⟩
  case round =>
    obtain ⟨V, j, HV, rfl, rfl, hj9, hjn, HI⟩ := hrel
    by_cases hkj : k + j < n
    case neg =>
      have H : Hid (readU l k = (0, 0, 10)) := Lib.hid (readU_at (r := (0, 0, 10)) (by rw [HL.out]; exact hk) HI.out (by rw [List.drop_eq_nil_of_le (by rw [HL.out]; omega)]; rfl))
      go_wp2
      go_ret3
      rw [H.out]
      exact ⟨rfl, rfl⟩
    obtain ⟨b, o, x, eA, hb, hx, hcx⟩ := HR.out.at_ hkj
    subst eA
    have HC : Hid (l.drop (k + j) = x :: l.drop (k + (j + 1))) := Lib.hid (by
      obtain ⟨h1, h2⟩ := List.getElem?_eq_some_iff.1 hx
      rw [List.drop_eq_getElem_cons h1, h2]; rfl)
    have hx8 := x.toNat_lt
    clear hx
    have HK : Hid (k ≤ l.length) := Lib.hid (by rw [HL.out]; exact hk)
    have tail : Hid (∀ r, rdU (l.drop (k + j)) j V = r → readU l (k : Int) = if r.2.2 = 0 then (r.1, k + r.2.1, 0) else (0, 0, r.2.2)) := Lib.hid fun r h => readU_at HK.out HI.out h
    have HU : Hid (rdU (l.drop (k + j)) j V = if j = 9 ∧ 1 < x.toNat then (0, 0, 13) else if x.toNat < 128 then (if x.toNat = 0 ∧ 0 < j then (0, 0, 11) else (V + x.toNat % 128 * 2 ^ (7 * j), j + 1, 0)) else rdU (l.drop (k + (j + 1))) (j + 1) (V + x.toNat % 128 * 2 ^ (7 * j))) := Lib.hid (by rw [HC.out]; rfl)
    by_cases h9 : j = 9
    · subst h9
      have HV63 : Hid (V < 2 ^ 63) := Lib.hid HV.out
      by_cases h1 : 1 < x.toNat
      · have H : Hid (readU l k = (0, 0, 13)) := Lib.hid ((tail.out (0, 0, 13) (by rw [HU.out, if_pos ⟨rfl, h1⟩])).trans rfl)
        go_wp2
        go_ret3
        rw [H.out]
        exact ⟨rfl, rfl⟩
      by_cases h0 : x.toNat = 0
      · have H : Hid (readU l k = (0, 0, 11)) := Lib.hid ((tail.out (0, 0, 11) (by rw [HU.out, if_neg (by omega), if_pos (by omega), if_pos (by omega)])).trans rfl)
        go_wp2
        go_ret3
        rw [H.out]
        exact ⟨rfl, rfl⟩
      · have H : Hid (readU l k = (V + x.toNat % 128 * 2 ^ (7 * 9), k + 10, 0)) := Lib.hid ((tail.out (V + x.toNat % 128 * 2 ^ (7 * 9), 10, 0) (by rw [HU.out, if_neg (by omega), if_pos (by omega), if_neg (by omega)])).trans (by rw [if_pos rfl]))
        have HE := Lib.hid (rd_last V x (by omega) HV63.out)
        have hd0 : ((x.toNat : Int) == 0) = false := by rw [beq_eq_false_iff_ne]; omega
        go_wp2
        go_ret3
        rw [H.out]
        refine ⟨?_, rfl⟩
        rw [← HE.out]
        rw [show ((k + 10 : Nat) : Int) = (k : Int) + 9 + 1 from by omega]; rfl
    · have hj8 : j ≤ 8 := by omega
      have hd9 : ((j : Int) == 9) = false := by rw [beq_eq_false_iff_ne]; omega
      have HE := Lib.hid (rd_step V j x hj8 HV.out)
      by_cases hx7 : x.toNat < 128
      · by_cases h0 : x.toNat = 0
        · by_cases hj0 : j = 0
          · have H : Hid (readU l k = (V + x.toNat % 128 * 2 ^ (7 * j), k + (j + 1), 0)) := Lib.hid ((tail.out (V + x.toNat % 128 * 2 ^ (7 * j), j + 1, 0) (by rw [HU.out, if_neg (by omega), if_pos (by omega), if_neg (by omega)])).trans (by rw [if_pos rfl]))
            have hd0 : ((x.toNat : Int) == 0) = true := by rw [beq_iff_eq]; omega
            have hd1 : decide (0 < j) = false := decide_eq_false (by omega)
            clear h0 hj0
            go_wp2
            go_ret3
            rw [H.out]
            refine ⟨?_, rfl⟩
            rw [← HE.out]
            rw [show ((k + (j + 1) : Nat) : Int) = (k : Int) + j + 1 from by omega]; rfl
          · have H : Hid (readU l k = (0, 0, 11)) := Lib.hid ((tail.out (0, 0, 11) (by rw [HU.out, if_neg (by omega), if_pos (by omega), if_pos (by omega)])).trans rfl)
            have hj1 : 0 < j := by omega
            go_wp2
            go_ret3
            rw [H.out]
            exact ⟨rfl, rfl⟩
        · have H : Hid (readU l k = (V + x.toNat % 128 * 2 ^ (7 * j), k + (j + 1), 0)) := Lib.hid ((tail.out (V + x.toNat % 128 * 2 ^ (7 * j), j + 1, 0) (by rw [HU.out, if_neg (by omega), if_pos (by omega), if_neg (by omega)])).trans (by rw [if_pos rfl]))
          have hd0 : ((x.toNat : Int) == 0) = false := by rw [beq_eq_false_iff_ne]; omega
          go_wp2
          go_ret3
          rw [H.out]
          refine ⟨?_, rfl⟩
          rw [← HE.out]
          rw [show ((k + (j + 1) : Nat) : Int) = (k : Int) + j + 1 from by omega]; rfl
      · have HN : Hid (rdU (l.drop (k + (j + 1))) (j + 1) (V + x.toNat % 128 * 2 ^ (7 * j)) = rdU (l.drop k) 0 0) := Lib.hid (by
          rw [← HI.out, HU.out, if_neg (by omega), if_neg (by omega)])
        go_wp2
        go_round
        case rel => exact ⟨_, j + 1, Lib.hid (rd_next V j x.toNat HV.out), by rw [HE.out], by go_num, by omega, by omega, HN⟩
        case measure => simp [intOf]; omega
theorem ru_any (l : List UInt8) (A : Option Addr) (n c : Nat) (a : Int) (w : World) (hn : n ≤ 9223372036854775797) (hr : RB w w.heap.size A n l) :
    Calls Tryz.prog 137 #[.slice A n c, .int .i64 a] w (RUPost (readU l a) w) := by
  by_cases h : a < 0 ∨ (n : Int) < a
  · exact ru_out l A n c w a hr.len h
  · obtain ⟨k, rfl⟩ : ∃ k : Nat, a = (k : Int) := ⟨a.toNat, by omega⟩
    exact ru_in l A n c k w hn hr (by omega)
set_option maxRecDepth 100000 in
set_option maxHeartbeats 2000000 in
theorem rby_any (l : List UInt8) (A : Option Addr) (n c : Nat) (a most : Int) (w : World) (hs : Sl w A n c l) (hn : n ≤ 140737488355328) (hm : -9223372036854775808 ≤ most ∧ most < 9223372036854775808) :
    Calls Tryz.prog 138 #[.slice A n c, .int .i64 a, .int .i64 most] w (BytesPost3 5 (readBy l a most).1 ((readBy l a most).2.1 : Nat) ((readBy l a most).2.2 : Nat) w) := by
  have hl := hs.len
  have HR := Lib.hid hs.rb
  have HS := Lib.hid hs
  have HN : Hid (n ≤ 9223372036854775797) := Lib.hid (by omega)
  have hcap := hs.cap
  have hlim := hs.lim
  by_cases ho : outB n a = true
  · have HO := Lib.hid ho
    have H : Hid (BytesPost3 5 (readBy l a most).1 ((readBy l a most).2.1 : Nat) ((readBy l a most).2.2 : Nat) w (.returned (.tuple #[.slice none 0 0, .int .i64 0, .int .i64 1])) w) := Lib.hid (by
      unfold outB at ho
      simp at ho
      unfold readBy
      rw [if_pos (by omega)]
      exact bytes_none3 (Below.refl _ _))
    clear hs ho hl hcap hlim
    go_enter Tryz.func138, Tryz.ntmps138
    go_wp2_with (go_at_call 184; go_must (refine (outside_any A n c a _).mono ?_); rintro e w0 ⟨rfl, rfl⟩; rw [HO.out])
    go_ret3
    exact H.out
  have ho : outB n a = false := by simpa using ho
  have HO := Lib.hid ho
  have ha : 0 ≤ a ∧ a ≤ n := by unfold outB at ho; simp at ho; omega
  by_cases hmn : most < 0
  · have H : Hid (BytesPost3 5 (readBy l a most).1 ((readBy l a most).2.1 : Nat) ((readBy l a most).2.2 : Nat) w (.returned (.tuple #[.slice none 0 0, .int .i64 0, .int .i64 1])) w) := Lib.hid (by
      unfold readBy
      rw [if_pos (by omega)]
      exact bytes_none3 (Below.refl _ _))
    have hd : decide (most < 0) = true := decide_eq_true hmn
    clear hs ho hl hcap hlim ha hm hmn
    go_enter Tryz.func138, Tryz.ntmps138
    go_wp2_with (go_at_call 184; go_must (refine (outside_any A n c a _).mono ?_); rintro e w0 ⟨rfl, rfl⟩; rw [HO.out])
    go_ret3
    exact H.out
  have hd : decide (most < 0) = false := decide_eq_false hmn
  obtain ⟨M, rfl⟩ : ∃ M : Nat, most = (M : Int) := ⟨most.toNat, by omega⟩
  have hbase : readBy l a M = if (readU l a).2.2 ≠ 0 then ([], 0, (readU l a).2.2) else if (M : Int) < ((readU l a).1 : Int) then ([], 0, 13) else if l.length - (readU l a).2.1 < (readU l a).1 then ([], 0, 10) else (cutS l (readU l a).2.1 (readU l a).1, (readU l a).2.1 + (readU l a).1, 0) := by
    unfold readBy; rw [if_neg (by omega)]
  have hend := readU_end l a
  have hval := readU_val l a
  obtain ⟨v, hv⟩ : ∃ v, v = (readU l a).1 := ⟨_, rfl⟩
  obtain ⟨p, hp⟩ : ∃ p, p = (readU l a).2.1 := ⟨_, rfl⟩
  obtain ⟨k, hk⟩ : ∃ k, k = (readU l a).2.2 := ⟨_, rfl⟩
  rw [← hv, ← hp, ← hk] at hbase
  rw [← hp, ← hk] at hend
  rw [← hv] at hval
  have HU : Hid (RUPost (readU l a) w = RUPost (v, p, k) w) := Lib.hid (by rw [hv, hp, hk])
  clear hv hp hk hs ho ha
  by_cases hk0 : k = 0
  case neg =>
    have H : Hid (BytesPost3 5 (readBy l a M).1 ((readBy l a M).2.1 : Nat) ((readBy l a M).2.2 : Nat) w (.returned (.tuple #[.slice none 0 0, .int .i64 0, .int .i64 k])) w) := Lib.hid (by
      rw [hbase, if_pos hk0]
      exact bytes_none3 (Below.refl _ _))
    have hd2 : ((k : Int) != 0) = true := by rw [bne_iff_ne]; omega
    clear hbase hend hval hk0 hl hcap hlim hm hmn
    go_enter Tryz.func138, Tryz.ntmps138
    go_wp2_with (first
      | (go_at_call 184; go_must (refine (outside_any A n c a _).mono ?_); rintro e w0 ⟨rfl, rfl⟩; rw [HO.out])
      | (go_at_call 137; go_must (refine (ru_any l A n c a _ HN.out HR.out).mono ?_); rw [HU.out]; rintro e w1 ⟨rfl, rfl⟩))
    go_ret3
    exact H.out
  subst hk0
  obtain ⟨hpn, ha0, hap⟩ := hend rfl
  rw [if_neg (by simp)] at hbase
  have XV := Lib.hid hval
  by_cases hbig : M < v
  · have H : Hid (BytesPost3 5 (readBy l a M).1 ((readBy l a M).2.1 : Nat) ((readBy l a M).2.2 : Nat) w (.returned (.tuple #[.slice none 0 0, .int .i64 0, .int .i64 13])) w) := Lib.hid (by
      rw [hbase, if_pos (by omega)]
      exact bytes_none3 (Below.refl _ _))
    have hd3 : decide ((M : Int) < (v : Int)) = true := decide_eq_true (by omega)
    have hd4 : decide (M < v) = true := decide_eq_true hbig
    have hM0 : (0 : Int) ≤ (M : Int) := by omega
    clear hbase hval hl hcap hlim hmn hbig hpn hap hend
    go_enter Tryz.func138, Tryz.ntmps138
    go_wp2_with (first
      | (go_at_call 184; go_must (refine (outside_any A n c a _).mono ?_); rintro e w0 ⟨rfl, rfl⟩; rw [HO.out])
      | (go_at_call 137; go_must (refine (ru_any l A n c a _ HN.out HR.out).mono ?_); rw [HU.out]; rintro e w1 ⟨rfl, rfl⟩))
    go_ret3
    exact H.out
  rw [if_neg (by omega)] at hbase
  have hd3 : decide ((M : Int) < (v : Int)) = false := decide_eq_false (by omega)
  have hd4 : decide (M < v) = false := decide_eq_false hbig
  have hM0 : (0 : Int) ≤ (M : Int) := by omega
  by_cases htorn : n - p < v
  · have H : Hid (BytesPost3 5 (readBy l a M).1 ((readBy l a M).2.1 : Nat) ((readBy l a M).2.2 : Nat) w (.returned (.tuple #[.slice none 0 0, .int .i64 0, .int .i64 10])) w) := Lib.hid (by
      rw [hbase, if_pos (by omega)]
      exact bytes_none3 (Below.refl _ _))
    have hd5 : decide ((n : Int) - (p : Int) < (v : Int)) = true := decide_eq_true (by omega)
    have hpn2 : p ≤ n := by omega
    clear hbase hval hl hcap hlim hmn hbig hpn hap htorn hend
    go_enter Tryz.func138, Tryz.ntmps138
    go_wp2_with (first
      | (go_at_call 184; go_must (refine (outside_any A n c a _).mono ?_); rintro e w0 ⟨rfl, rfl⟩; rw [HO.out])
      | (go_at_call 137; go_must (refine (ru_any l A n c a _ HN.out HR.out).mono ?_); rw [HU.out]; rintro e w1 ⟨rfl, rfl⟩))
    go_ret3
    exact H.out
  rw [if_neg (by omega)] at hbase
  have hd5 : decide ((n : Int) - (p : Int) < (v : Int)) = false := decide_eq_false (by omega)
  have hpv : p + v ≤ n := by omega
  have HB := Lib.hid hbase
  have XS : Hid ((cutS l p v).length = v) := Lib.hid (by unfold cutS; rw [List.length_take, List.length_drop]; omega)
  by_cases hcp : c = p
  · have hv0 : v = 0 := by omega
    subst hv0
    subst hcp
    have HE : Hid (RB w w.heap.size A 0 (cutS l c 0)) := Lib.hid (by unfold cutS; rw [List.take_zero]; exact RB.nil)
    have k1 : c + 0 - c = 0 := by omega
    have k2 : c - c = 0 := by omega
    clear hbase hval hl hlim hmn hbig hpn hap htorn hend
    go_enter Tryz.func138, Tryz.ntmps138
    go_wp2_with (first
      | (go_at_call 184; go_must (refine (outside_any A n c a _).mono ?_); rintro e w0 ⟨rfl, rfl⟩; rw [HO.out])
      | (go_at_call 137; go_must (refine (ru_any l A n c a _ HN.out HR.out).mono ?_); rw [HU.out]; rintro e w1 ⟨rfl, rfl⟩)
      | (go_at_call 69; go_must (refine (clone_any (cutS l c 0) A 0 0 _ (by omega) (fun _ => rfl) HE.out).mono ?_); rintro e w2 ⟨A2, c2, rfl, hO2, hb2⟩))
    go_ret3
    rw [HB.out]
    exact ⟨A2, c2, rfl, hO2, hb2⟩
  · have HE : Hid (RB w w.heap.size (A.map (·.add p)) v (cutS l p v)) := Lib.hid (by
      have := (HS.out.rb.drop (k := p) (cap := c) (by omega) hcap).take (m := v) (by omega)
      rwa [if_neg hcp] at this)
    have HA1 : Hid (A.map (·.add p) = none → c - p = 0) := Lib.hid fun h => by cases A with
      | none => have := HS.out.nil rfl; omega
      | some _ => cases h
    have k1 : p + v - p = v := by omega
    have hvb : v ≤ 140737488355328 := by omega
    clear hbase hval hl hlim hmn hbig hpn hap htorn hend
    go_enter Tryz.func138, Tryz.ntmps138
    go_wp2_with (first
      | (go_at_call 184; go_must (refine (outside_any A n c a _).mono ?_); rintro e w0 ⟨rfl, rfl⟩; rw [HO.out])
      | (go_at_call 137; go_must (refine (ru_any l A n c a _ HN.out HR.out).mono ?_); rw [HU.out]; rintro e w1 ⟨rfl, rfl⟩)
      | (go_at_call 69; go_must (refine (clone_any (cutS l p v) _ v (c - p) _ hvb HA1.out HE.out).mono ?_); rintro e w2 ⟨A2, c2, rfl, hO2, hb2⟩))
    go_ret3
    rw [HB.out]
    refine ⟨A2, c2, ?_, hO2, hb2⟩
    rw [show ((p + v : Nat) : Int) = (p : Int) + v from by omega]; rfl
set_option maxRecDepth 100000 in
set_option maxHeartbeats 1000000 in
theorem rOut_any (n lo hi : Int) (w : World) : Calls Tryz.prog 160 #[.int .i64 n, .int .i64 lo, .int .i64 hi] w fun e w' => e = .returned (.bool (outI n lo hi)) ∧ w = w' := by
  unfold outI
  by_cases h : n < lo
  · have hd : decide (n < lo) = true := decide_eq_true h
    go_enter Tryz.func160, Tryz.ntmps160
    go_wp2
    go_ret
    exact ⟨by simp [hd], rfl⟩
  · have hd : decide (n < lo) = false := decide_eq_false h
    go_enter Tryz.func160, Tryz.ntmps160
    go_wp2
    go_ret
    exact ⟨by simp, rfl⟩
set_option maxRecDepth 100000 in
set_option maxHeartbeats 4000000 in
theorem rCheck_any (A : Option Addr) (n c : Nat) (f : Int) (B : Option Addr) (m d : Nat) (t s k : Int) (D : Option Addr) (v q : Nat) (w : World) :
    Calls Tryz.prog 96 #[.agg #[.slice A n c, .int .i64 f, .slice B m d, .int .i64 t, .int .i64 s, .int .i64 k, .slice D v q]] w fun e w' => e = .returned (.int .i64 (checkN n f m t s k v)) ∧ Below w.heap.size w w' := by
  have HB : Hid (∀ o, Below w.heap.size w (w.alloc o)) := Lib.hid fun o => (Below.refl _ w).alloc (Nat.le_refl _) o
  go_enter Tryz.func96, Tryz.ntmps96
  by_cases h0 : outI n 1 256 = true
  · have o0 := Lib.hid (outI_pos h0)
    go_wp2_with (go_at_call 160; refine (rOut_any _ _ _ _).mono ?_; rintro e w' ⟨rfl, rfl⟩)
    go_ret
    refine ⟨?_, HB.out _⟩
    clear HB
    have HZ : checkN n f m t s k v = 20 := by
      simp only [hid_iff] at *
      unfold checkN
      (repeat' split) <;> first | rfl | omega
    rw [HZ]; rfl
  have p0 := Lib.hid (outI_no (outI_neg h0))
  replace h0 := outI_neg h0
  by_cases h1 : outI f 0 7 = true
  · have o1 := Lib.hid (outI_pos h1)
    go_wp2_with (go_at_call 160; refine (rOut_any _ _ _ _).mono ?_; rintro e w' ⟨rfl, rfl⟩)
    go_ret
    refine ⟨?_, HB.out _⟩
    clear HB
    have HZ : checkN n f m t s k v = 21 := by
      simp only [hid_iff] at *
      unfold checkN
      (repeat' split) <;> first | rfl | omega
    rw [HZ]; rfl
  have p1 := Lib.hid (outI_no (outI_neg h1))
  replace h1 := outI_neg h1
  by_cases h2 : 256 < m
  · have d1 : decide ((256 : Int) < (m : Int)) = true := decide_eq_true (by omega)
    have d1n : decide (256 < m) = true := decide_eq_true h2
    go_wp2_with (go_at_call 160; refine (rOut_any _ _ _ _).mono ?_; rintro e w' ⟨rfl, rfl⟩)
    go_ret
    refine ⟨?_, HB.out _⟩
    clear HB
    have HZ : checkN n f m t s k v = 22 := by
      simp only [hid_iff] at *
      unfold checkN
      (repeat' split) <;> first | rfl | omega
    rw [HZ]; rfl
  have da2 : decide ((256 : Int) < (m : Int)) = false := decide_eq_false (by omega)
  have db2 : decide (256 < m) = false := decide_eq_false h2
  by_cases k2 : k = 5
  · have e2 : (k == 5) = true := by simpa using k2
    replace k2 := Lib.hid k2
    by_cases l2 : 0 < m
    · have d1 : decide ((0 : Int) < (m : Int)) = true := decide_eq_true (by omega)
      have d1n : decide (0 < m) = true := decide_eq_true l2
      go_wp2_with (go_at_call 160; refine (rOut_any _ _ _ _).mono ?_; rintro e w' ⟨rfl, rfl⟩)
      go_ret
      refine ⟨?_, HB.out _⟩
      clear HB
      have HZ : checkN n f m t s k v = 22 := by
        simp only [hid_iff] at *
        unfold checkN
        (repeat' split) <;> first | rfl | omega
      rw [HZ]; rfl
    have dc2 : decide ((0 : Int) < (m : Int)) = false := decide_eq_false (by omega)
    have dd2 : decide (0 < m) = false := decide_eq_false l2
    by_cases h3 : outI t 1 1099511627776 = true
    · have o3 := Lib.hid (outI_pos h3)
      go_wp2_with (go_at_call 160; refine (rOut_any _ _ _ _).mono ?_; rintro e w' ⟨rfl, rfl⟩)
      go_ret
      refine ⟨?_, HB.out _⟩
      clear HB
      have HZ : checkN n f m t s k v = 23 := by
        simp only [hid_iff] at *
        unfold checkN
        (repeat' split) <;> first | rfl | omega
      rw [HZ]; rfl
    have p3 := Lib.hid (outI_no (outI_neg h3))
    replace h3 := outI_neg h3
    by_cases h4 : outI s 0 17592186044431 = true
    · have o4 := Lib.hid (outI_pos h4)
      go_wp2_with (go_at_call 160; refine (rOut_any _ _ _ _).mono ?_; rintro e w' ⟨rfl, rfl⟩)
      go_ret
      refine ⟨?_, HB.out _⟩
      clear HB
      have HZ : checkN n f m t s k v = 24 := by
        simp only [hid_iff] at *
        unfold checkN
        (repeat' split) <;> first | rfl | omega
      rw [HZ]; rfl
    have p4 := Lib.hid (outI_no (outI_neg h4))
    replace h4 := outI_neg h4
    by_cases h5 : outI k 1 5 = true
    · have o5 := Lib.hid (outI_pos h5)
      go_wp2_with (go_at_call 160; refine (rOut_any _ _ _ _).mono ?_; rintro e w' ⟨rfl, rfl⟩)
      go_ret
      refine ⟨?_, HB.out _⟩
      clear HB
      have HZ : checkN n f m t s k v = 25 := by
        simp only [hid_iff] at *
        unfold checkN
        (repeat' split) <;> first | rfl | omega
      rw [HZ]; rfl
    have p5 := Lib.hid (outI_no (outI_neg h5))
    replace h5 := outI_neg h5
    by_cases h6 : 4096 < v
    · have d1 : decide ((4096 : Int) < (v : Int)) = true := decide_eq_true (by omega)
      have d1n : decide (4096 < v) = true := decide_eq_true h6
      go_wp2_with (go_at_call 160; refine (rOut_any _ _ _ _).mono ?_; rintro e w' ⟨rfl, rfl⟩)
      go_ret
      refine ⟨?_, HB.out _⟩
      clear HB
      have HZ : checkN n f m t s k v = 26 := by
        simp only [hid_iff] at *
        unfold checkN
        (repeat' split) <;> first | rfl | omega
      rw [HZ]; rfl
    have da6 : decide ((4096 : Int) < (v : Int)) = false := decide_eq_false (by omega)
    have db6 : decide (4096 < v) = false := decide_eq_false h6
    by_cases k6 : ¬ k = 1
    · have e6 : (k != 1) = true := by simpa using k6
      replace k6 := Lib.hid k6
      by_cases l6 : 0 < v
      · have d1 : decide ((0 : Int) < (v : Int)) = true := decide_eq_true (by omega)
        have d1n : decide (0 < v) = true := decide_eq_true l6
        go_wp2_with (go_at_call 160; refine (rOut_any _ _ _ _).mono ?_; rintro e w' ⟨rfl, rfl⟩)
        go_ret
        refine ⟨?_, HB.out _⟩
        clear HB
        have HZ : checkN n f m t s k v = 26 := by
          simp only [hid_iff] at *
          unfold checkN
          (repeat' split) <;> first | rfl | omega
        rw [HZ]; rfl
      have dc6 : decide ((0 : Int) < (v : Int)) = false := decide_eq_false (by omega)
      have dd6 : decide (0 < v) = false := decide_eq_false l6
      go_wp2_with (go_at_call 160; refine (rOut_any _ _ _ _).mono ?_; rintro e w' ⟨rfl, rfl⟩)
      go_ret
      refine ⟨?_, HB.out _⟩
      clear HB
      have HZ : checkN n f m t s k v = 0 := by
        simp only [hid_iff] at *
        unfold checkN
        (repeat' split) <;> first | rfl | omega
      rw [HZ]; rfl
    have e6 : (k != 1) = false := by simpa using k6
    replace k6 := Lib.hid k6
    go_wp2_with (go_at_call 160; refine (rOut_any _ _ _ _).mono ?_; rintro e w' ⟨rfl, rfl⟩)
    go_ret
    refine ⟨?_, HB.out _⟩
    clear HB
    have HZ : checkN n f m t s k v = 0 := by
      simp only [hid_iff] at *
      unfold checkN
      (repeat' split) <;> first | rfl | omega
    rw [HZ]; rfl
  have e2 : (k == 5) = false := by simpa using k2
  replace k2 := Lib.hid k2
  by_cases h3 : outI t 1 1099511627776 = true
  · have o3 := Lib.hid (outI_pos h3)
    go_wp2_with (go_at_call 160; refine (rOut_any _ _ _ _).mono ?_; rintro e w' ⟨rfl, rfl⟩)
    go_ret
    refine ⟨?_, HB.out _⟩
    clear HB
    have HZ : checkN n f m t s k v = 23 := by
      simp only [hid_iff] at *
      unfold checkN
      (repeat' split) <;> first | rfl | omega
    rw [HZ]; rfl
  have p3 := Lib.hid (outI_no (outI_neg h3))
  replace h3 := outI_neg h3
  by_cases h4 : outI s 0 17592186044431 = true
  · have o4 := Lib.hid (outI_pos h4)
    go_wp2_with (go_at_call 160; refine (rOut_any _ _ _ _).mono ?_; rintro e w' ⟨rfl, rfl⟩)
    go_ret
    refine ⟨?_, HB.out _⟩
    clear HB
    have HZ : checkN n f m t s k v = 24 := by
      simp only [hid_iff] at *
      unfold checkN
      (repeat' split) <;> first | rfl | omega
    rw [HZ]; rfl
  have p4 := Lib.hid (outI_no (outI_neg h4))
  replace h4 := outI_neg h4
  by_cases h5 : outI k 1 5 = true
  · have o5 := Lib.hid (outI_pos h5)
    go_wp2_with (go_at_call 160; refine (rOut_any _ _ _ _).mono ?_; rintro e w' ⟨rfl, rfl⟩)
    go_ret
    refine ⟨?_, HB.out _⟩
    clear HB
    have HZ : checkN n f m t s k v = 25 := by
      simp only [hid_iff] at *
      unfold checkN
      (repeat' split) <;> first | rfl | omega
    rw [HZ]; rfl
  have p5 := Lib.hid (outI_no (outI_neg h5))
  replace h5 := outI_neg h5
  by_cases h6 : 4096 < v
  · have d1 : decide ((4096 : Int) < (v : Int)) = true := decide_eq_true (by omega)
    have d1n : decide (4096 < v) = true := decide_eq_true h6
    go_wp2_with (go_at_call 160; refine (rOut_any _ _ _ _).mono ?_; rintro e w' ⟨rfl, rfl⟩)
    go_ret
    refine ⟨?_, HB.out _⟩
    clear HB
    have HZ : checkN n f m t s k v = 26 := by
      simp only [hid_iff] at *
      unfold checkN
      (repeat' split) <;> first | rfl | omega
    rw [HZ]; rfl
  have da6 : decide ((4096 : Int) < (v : Int)) = false := decide_eq_false (by omega)
  have db6 : decide (4096 < v) = false := decide_eq_false h6
  by_cases k6 : ¬ k = 1
  · have e6 : (k != 1) = true := by simpa using k6
    replace k6 := Lib.hid k6
    by_cases l6 : 0 < v
    · have d1 : decide ((0 : Int) < (v : Int)) = true := decide_eq_true (by omega)
      have d1n : decide (0 < v) = true := decide_eq_true l6
      go_wp2_with (go_at_call 160; refine (rOut_any _ _ _ _).mono ?_; rintro e w' ⟨rfl, rfl⟩)
      go_ret
      refine ⟨?_, HB.out _⟩
      clear HB
      have HZ : checkN n f m t s k v = 26 := by
        simp only [hid_iff] at *
        unfold checkN
        (repeat' split) <;> first | rfl | omega
      rw [HZ]; rfl
    have dc6 : decide ((0 : Int) < (v : Int)) = false := decide_eq_false (by omega)
    have dd6 : decide (0 < v) = false := decide_eq_false l6
    go_wp2_with (go_at_call 160; refine (rOut_any _ _ _ _).mono ?_; rintro e w' ⟨rfl, rfl⟩)
    go_ret
    refine ⟨?_, HB.out _⟩
    clear HB
    have HZ : checkN n f m t s k v = 0 := by
      simp only [hid_iff] at *
      unfold checkN
      (repeat' split) <;> first | rfl | omega
    rw [HZ]; rfl
  have e6 : (k != 1) = false := by simpa using k6
  replace k6 := Lib.hid k6
  go_wp2_with (go_at_call 160; refine (rOut_any _ _ _ _).mono ?_; rintro e w' ⟨rfl, rfl⟩)
  go_ret
  refine ⟨?_, HB.out _⟩
  clear HB
  have HZ : checkN n f m t s k v = 0 := by
    simp only [hid_iff] at *
    unfold checkN
    (repeat' split) <;> first | rfl | omega
  rw [HZ]; rfl
set_option maxRecDepth 100000 in
theorem rSame_any (a b : List UInt8) (A B : Option Addr) (n c m d : Nat) (w : World) (ha : RB w w.heap.size A n a) (hb : RB w w.heap.size B m b) :
    Calls Tryz.prog 43 #[.slice A n c, .slice B m d] w fun e w' => e = .returned (.bool (a == b)) ∧ w = w' := by
  have tok1 : True := trivial
  go_enter Tryz.func43, Tryz.ntmps43
  go_wp2_with (first
    | (have _t := tok1; refine wpList_string_reads rfl _ 34 9 5 rfl Tryz.underlying34 Tryz.underlying5 Tryz.underlying9 rfl ha ?_; clear tok1)
    | (refine wpList_string_reads rfl _ 34 9 5 rfl Tryz.underlying34 Tryz.underlying5 Tryz.underlying9 rfl hb ?_))
  go_ret
  exact ⟨rfl, rfl⟩
theorem Sl.cut {w : World} {A : Option Addr} {n c lo hi : Nat} {l : List UInt8} (h : Sl w A n c l) (h1 : lo ≤ hi) (h2 : hi ≤ n) (hc : lo < c) : Sl w (A.map (·.add lo)) (hi - lo) (c - lo) (cutS l lo (hi - lo)) := by
  have h3 := (h.drop (k := lo) (by omega) hc).take (m := hi - lo) (by omega)
  exact h3
set_option maxRecDepth 100000 in
set_option maxHeartbeats 400000 in
theorem part_any (l : List UInt8) (A : Option Addr) (n c lo hi : Nat) (a z : Int) (ha : a = (lo : Int)) (hz : z = (hi : Int)) (w : World) (hs : Sl w A n c l) (h1 : lo ≤ hi) (h2 : hi ≤ n) (hn : n ≤ 140737488355328) :
    Calls Tryz.prog 51 #[.slice A n c, .int .i64 a, .int .i64 z] w (BytesPost 5 (cutS l lo (hi - lo)) w) := by
  subst ha; subst hz
  have hcap := hs.cap
  have hlim := hs.lim
  by_cases hc : c = lo
  · obtain rfl : hi = lo := by omega
    have HE : Hid (RB w w.heap.size A 0 []) := Lib.hid RB.nil
    have H : Hid (BytesPost 5 (cutS l hi (hi - hi)) w = BytesPost 5 [] w) := Lib.hid (by rw [Nat.sub_self]; unfold cutS; rw [List.take_zero])
    have k2 : hi - hi = 0 := by omega
    have k3 : (hi : Int) ≤ (c : Int) := by omega
    have HC := Lib.hid hc
    have k4 : c = hi := hc
    have HO := Lib.hid (own_nil w w.heap.size 5 1)
    rw [H.out]
    subst k4
    clear hs hc hlim h1
    go_enter Tryz.func51, Tryz.ntmps51
    go_wp2_with (at_builtin; go_must (refine wpList_append_reads _ rfl (.tmp 8) (.tmp 12) rfl Tryz.u8s' w.heap.size (.slice none 0 0) 0 [] rfl (own_nil _ _ _ _) _ A 0 0 (u8s []) rfl HE.out (u8s_one _) (by decide) (by decide) (Nat.le_refl _) ?_); intro v1 w1 hown1 hg1 hat1)
    go_ret
    exact bytes_post hown1 (below_app (Below.refl _ _) HO.out hg1 (Nat.le_refl _) (Nat.le_refl _))
  · have HE := Lib.hid (hs.cut h1 h2 (by omega))
    have HL : Hid ((cutS l lo (hi - lo)).length = hi - lo) := Lib.hid HE.out.len
    have k3 : (hi : Int) ≤ (c : Int) := by omega
    have k4 : (lo : Int) ≤ (hi : Int) := by omega
    have k5 : c ≠ lo := hc
    have HO := Lib.hid (own_nil w w.heap.size 5 1)
    obtain ⟨C, hC⟩ : ∃ C, C = cutS l lo (hi - lo) := ⟨_, rfl⟩
    rw [← hC] at HE HL ⊢
    clear hs hlim hC hc
    go_enter Tryz.func51, Tryz.ntmps51
    go_wp2_with (at_builtin; go_must (refine wpList_append_reads _ rfl (.tmp 8) (.tmp 12) rfl Tryz.u8s' w.heap.size (.slice none 0 0) 0 [] rfl (own_nil _ _ _ _) _ (A.map (·.add lo)) (hi - lo) (c - lo) (u8s C) rfl HE.out.rb (u8s_one _) (by unfold maxLen; omega) (by omega) (Nat.le_refl _) ?_); intro v1 w1 hown1 hg1 hat1)
    go_ret
    rw [List.nil_append] at hown1
    exact bytes_post hown1 (below_app (Below.refl _ _) HO.out hg1 (Nat.le_refl _) (Nat.le_refl _))
theorem own_lit (w : World) (C : Array Value) (e : TypeId) (base n size : Nat) (hb : base ≤ w.heap.size) (hm : n ≤ maxLen) (hs : C.size = n * size) : (w.alloc (.cells C e)).ownsRow base e size (.slice (some ⟨w.heap.size, 0, none⟩) n n) n C.toList :=
  ⟨by rw [Array.length_toList]; exact hs, .inr ⟨w.heap.size, n, C, rfl, hb, heap_alloc_new w _, Nat.le_refl _, hm, hs, by rw [← hs, ← Array.length_toList, List.take_length]⟩⟩
end Go.Proofs.YtfdbcfaeiglbeaaGreatDoor
