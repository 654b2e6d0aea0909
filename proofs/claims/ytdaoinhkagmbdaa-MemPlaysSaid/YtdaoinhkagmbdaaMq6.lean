/-
  Laid together by merge.py: MemR2, MemE, MemQ1, MemQ2.
-/
import Derived.Test.YtdaoinhkagmbdaaMq5
import Derived.Test.YtdaoinhkagmbdaaMq4
namespace Go.Proofs.Ytdaoinhkagmbdaa
open Go.RowKit
theorem fromE_all {L : List Ent} {e : Ent} (h : L.length ≤ insN L e) : fromE L e = [] := List.drop_of_length_le h
theorem RT.drop {os : List Ob} {g n c : Nat} {rs : List ER} {L : List Ent} (h : RT os (some ⟨g, 0, none⟩) n c rs L) {a : Nat} (ha : a < n) : LIn os (some ⟨g, a * 7, none⟩) (n - a) (L.drop a) :=
  ⟨rs.drop a, by rw [List.map_drop, h.e], ⟨_, h.row, fun _ _ k => by rw [← flat7_dropR]; exact reads_dropR (Reads.own (k.rowm (.head _))) ha⟩, fun r hr => h.en r (List.mem_of_mem_drop hr)⟩
theorem RT.lnil {os : List Ob} {A : Option Addr} {n c : Nat} {rs : List ER} {L : List Ent} (h : RT os A n c rs L) : LIn os none 0 [] := ⟨[], rfl, ⟨_, h.row, fun _ _ _ => Reads.nil⟩, fun r hr => by cases hr⟩
theorem rpackQ (r : ER) (w : World) (h : r.En w) (hc : checkE r.e = 0) {n : Nat} (hn : (packB r.e).length = n) : Calls Try.prog 57 #[.agg #[.slice r.A r.e.row.length r.c, .int .i64 r.e.fam, .slice r.B r.e.qual.length r.d, .int .i64 r.e.ts, .int .i64 r.e.seq, .int .i64 r.e.kind, .slice r.D r.e.val.length r.q]] w fun e y => ∃ A c, e = .returned (.tuple #[.slice A n c, .int .i64 0]) ∧ Below w.heap.size w y :=
  (rpack_any r.e r.A _ r.c r.B _ r.d r.D _ r.q w h).mono fun e y hp => by
    have h1 : PackE r.e = (packB r.e, 0) := by unfold PackE; rw [if_pos hc]
    rw [h1] at hp
    obtain ⟨A, c, h2, _, h3⟩ := hp
    exact ⟨A, c, by rw [h2, hn], h3⟩
theorem sumP_take {L : List Ent} {i : Nat} {e : Ent} (h : L[i]? = some e) : sumP (L.take (i + 1)) = sumP (L.take i) + (packB e).length := by
  unfold sumP
  rw [List.take_add_one, h]
  simp
theorem sumP_takele {L : List Ent} (h : ∀ e, e ∈ L → checkE e = 0) (i : Nat) : sumP (L.take i) ≤ 5200 * L.length :=
  Nat.le_trans (sumP_le fun e he => h e (List.mem_of_mem_take he)) (Nat.mul_le_mul_left _ (by rw [List.length_take]; omega))
set_option maxRecDepth 100000 in
set_option maxHeartbeats 4000000 in
theorem rbytes8_any {w x : World} {os : List Ob} {A : Option Addr} {n c : Nat} {rs : List ER} {L : List Ent} {fr : Bool} (h : OW w os x) (hT : RT os A n c rs L) (hn : n ≤ 90000) (hC : ∀ e, e ∈ L → checkE e = 0) {s : Nat} (hs : sumP L = s) :
    Calls Try.prog 30 #[.agg #[.slice A n c, .bool fr]] x fun e z => e = .returned (.int .i64 (s : Nat)) ∧ OW w os z := by
  have HX := Lib.hid h
  have HT := Lib.hid hT
  have HC := Lib.hid hC
  have HS0 := Lib.hid hs
  have HRL : Hid (rs.length = n) := Lib.hid (hT.lens h).1
  have HLL : Hid (L.length = n) := Lib.hid (hT.lens h).2
  have HRE : Hid (∀ q, q ∈ rs → ∀ z, OW w os z → q.En z) := Lib.hid fun q hq z hz => (hT.en q hq).en hz
  clear h hT hC hs
  go_enter Try.func30, Try.ntmps30
  go_wp2_with (refine wl_box rfl (.tmp 0) rfl [.slice A n c, .bool fr] rfl HX.out ?_; intro bt x1 hz hb; have HX1 : Hid (OW w (boxO bt [.slice A n c, .bool fr] :: os) x1) := Lib.hid (hz.perm List.perm_append_comm); clear hz hb HX)
  go_loopw [3, 4, 5, 6, 14] (fun nv iv _ _ _ wr => ∃ (a sv : Nat), a ≤ n ∧ iv = .int .i64 a ∧ nv = .int .i64 (sv : Nat) ∧ Hid (sumP (L.take a) = sv) ∧ Hid (OW w (boxO bt [.slice A n c, .bool fr] :: os) wr)) (fun _ iv _ _ _ _ => n - (intOf iv).toNat)
  case atStart => exact ⟨0, 0, Nat.zero_le _, rfl, rfl, Lib.hid rfl, HX1⟩
  case round =>
    clear HX1
    obtain ⟨a, sv, han, rfl, rfl, HSV, HX⟩ := hrel
    by_cases hak : a < n
    case neg =>
      have hak2 : a = n := by omega
      have hda : decide ((a : Int) < (n : Int)) = false := decide_eq_false (by omega)
      have HE : Hid (sv = s) := Lib.hid (by
        have h := HSV.out
        rw [List.take_of_length_le (by rw [HLL.out]; omega)] at h
        rw [← h]; exact HS0.out)
      clear hak2
      go_wp2_with (refine wpList_load_cell rfl 22 (.tmp 8) rfl rfl (HX.out.cell (i := 0) (j := 0) rfl rfl) (fun w => Try.isAgg22 w) ?_)
      go_ret
      exact ⟨by rw [HE.out]; rfl, HX.out.erase 0⟩
    have hda : decide ((a : Int) < (n : Int)) = true := decide_eq_true (by omega)
    obtain ⟨mg, mcap, hv, _⟩ := own_form (HX.out.rowm (.tail _ HT.out.row)) (show 0 < n by omega)
    injection hv with hv _ hcp
    subst hv
    subst hcp
    obtain ⟨q, hq⟩ : ∃ q, rs[a]? = some q := ⟨_, List.getElem?_eq_getElem (by have := HRL.out; omega)⟩
    have HQ := Lib.hid hq
    have HQE : Hid (∀ z, OW w os z → q.En z) := Lib.hid (HRE.out q (List.mem_of_getElem? hq))
    have hma : L[a]? = some q.e := by rw [← HT.out.e, List.getElem?_map, hq]; rfl
    have hck := HC.out _ (List.mem_of_getElem? hma)
    have HCK := Lib.hid hck
    obtain ⟨pl, hpl⟩ : ∃ z, z = (packB q.e).length := ⟨_, rfl⟩
    have hpl2 := pack_le hck
    rw [← hpl] at hpl2
    have HPL := Lib.hid hpl.symm
    have HSV2 : Hid (sumP (L.take (a + 1)) = sv + pl) := Lib.hid (by rw [sumP_take hma, HSV.out, hpl])
    have hsv : sv ≤ 5200 * 90000 := by
      have h1 := sumP_takele HC.out a
      rw [HSV.out, HLL.out] at h1; omega
    have j1 : (0 : Int) ≤ (a : Int) := by omega
    have j2 : (a : Int) < (n : Int) := by omega
    clear hq hma hck hpl
    go_wp2_with (first
      | (refine wpList_load_cell rfl 22 (.tmp 8) rfl rfl (HX.out.cell (i := 0) (j := 0) rfl rfl) (fun w => Try.isAgg22 w) ?_)
      | (refine wpList_load_cell rfl 22 (.tmp 15) rfl rfl (HX.out.cell (i := 0) (j := 0) rfl rfl) (fun w => Try.isAgg22 w) ?_)
      | (refine wpList_load_at rfl 30 (.tmp 18) rfl rfl (rowRangeM HX.out (.tail _ HT.out.row) HQ.out) ent_row8 ?_)
      | (go_at_call 57; go_must (refine (rpackQ q _ (HQE.out _ (HX.out.erase 0)) HCK.out HPL.out).mono ?_); rintro e y1 ⟨A9, c9, rfl, hb⟩; have HX2 := Lib.hid (HX.out.later hb); clear hb HX))
    go_roundw
    case rel => exact ⟨a + 1, sv + pl, by omega, by go_num, by go_num, HSV2, HX2⟩
    case measure => simp [intOf]; omega
end Go.Proofs.Ytdaoinhkagmbdaa
namespace Go.Proofs.Ytdaoinhkagmbdaa
open Go.RowKit
theorem wpList_toB (N : Nat) {Q : Exit → Act → World → Prop} {ops : Array Oper} {rest : List Oper} {o : Oper} {a : Act} {w : World} (hgd : Region.wanted o (yielded ops a.tmps) = true) (x : Operand) (ho : o.op = .slice 28 x none (some (.const (.int .i64 (N : Nat)))) none) {A : Option Addr} {n c : Nat} (hx : a.eval x = .slice A n c) (hc : N ≤ c)
    (hK : wpList Try.prog ops Q rest (a.put o.dst (.slice A N c)) w) : wpList Try.prog ops Q (o :: rest) a w :=
  BigFrame.wpList_want hgd fun _ hk => by
    have hrun : (execOp a.eval o).run Try.prog w = .ok (.value (.slice A N c)) w := by
      obtain ⟨dst, op, type, pos, after, guard⟩ := o
      simp only at ho
      subst ho
      have hcI : (N : Int) ≤ (c : Int) := by omega
      have hel : Try.prog.underlying 28 = some (.slice (Try.prog.elem 28)) := by kernel_rfl
      have h1 := run_slice_h (P := Try.prog) (w := w) 28 A n c hel .i64 (N : Nat) (by omega) hcI
      have hz : ((sizeOf (Try.prog.elem 28)).run Try.prog w) = .ok 1 w := by kernel_rfl
      rw [hz] at h1
      have h2 := run_sliceAt_slice (P := Try.prog) (w := w) 28 (.slice A n c) none (some (.int .i64 (N : Nat))) none hel
      rw [h1] at h2
      have h3 : sliced A 0 (Int.toNat (N : Int)) c 1 = .slice A N c := by
        unfold sliced
        simp [Addr.add]
      simp only [Result.andThen, h3] at h2
      show ((Instr.sliceAt 28 (a.eval x) none (some (.int .i64 (N : Nat))) none) >>= fun v => pure (Next.value v)).run Try.prog w = _
      rw [hx]
      simp only [Sem.run_bind, h2, Result.andThen]
      rfl
    unfold Oper.wp
    rw [hrun, Oper.upon_value]
    exact hk _ _ hK
set_option maxRecDepth 100000 in
set_option maxHeartbeats 2000000 in
theorem laid8_any (l : List UInt8) (A : Option Addr) (n0 c0 n : Nat) (w : World) (hs0 : Sl w A n0 c0 l) (hn0 : min n0 5000 = n) :
    Calls Try.prog 45 #[.slice A n0 c0] w fun r z => ∃ A' c', r = .returned (.slice A' n c') ∧ OW w [bytO 5 (A', c', l.take 5000 ++ mkL 70)] z := by
  have hs := sl_cut hs0
  rw [hn0] at hs
  have hcap := hs0.cap
  obtain ⟨l5, hl5⟩ : ∃ z, z = l.take 5000 := ⟨_, rfl⟩
  rw [← hl5] at hs ⊢
  have hn : n ≤ 5000 := by omega
  have HS := Lib.hid hs
  have HL := Lib.hid hs.len
  have HN := Lib.hid ((OW.nil w).nilB 5)
  clear hs0 hs hl5
  go_enter Try.func45, Try.ntmps45
  go_upto_if 7 with fail
  obtain ⟨w4, rfl⟩ : ∃ z : World, z = w := ⟨_, rfl⟩
  go_cut [0] (fun av wx => w4 = wx ∧ av = .slice A n c0)
  case first =>
    by_cases hbig : 5000 < n0
    · have hd : decide ((n0 : Int) > 5000) = true := decide_eq_true (by omega)
      obtain rfl : n = 5000 := by omega
      go_wp2_with (refine wpList_toB 5000 rfl (.tmp 8) rfl rfl (by omega) ?_; simp only [Act.put, List.setIfInBounds_toArray, List.set_cons_zero, List.set_cons_succ])
      go_meet
      exact ⟨rfl, rfl⟩
    · have hd : decide ((n0 : Int) > 5000) = false := decide_eq_false (by omega)
      obtain rfl : n = n0 := by omega
      go_wp2_with fail
      go_meet
      exact ⟨rfl, rfl⟩
  obtain ⟨rfl, rfl⟩ := hcut
  clear hn0
  have tk1 : True := trivial
  go_wp2_with (first
    | (at_builtin; (have _t := tk1); go_must (refine wl_appB rfl (.tmp 10) (.tmp 11) rfl Try.u8s' HN.out 0 (n := 0) rfl rfl rfl _ _ n _ l5 rfl HS.out.rb (by omega) ?_); intro A1 c1 x1 hz; rw [Nat.zero_add]; have HX1 : Hid (OW w4 [bytO 5 (A1, c1, l5)] x1) := Lib.hid hz; clear hz HN tk1 _t)
    | (refine wl_build rfl #[(0, .const (.int .u8 201)), (1, .const (.int .u8 202)), (2, .const (.int .u8 203)), (3, .const (.int .u8 204)), (4, .const (.int .u8 205))] rfl #[.int .u8 201, .int .u8 202, .int .u8 203, .int .u8 204, .int .u8 205] Try.u8s' (.int .u8 0) (by kernel_rfl) (by decide) (by decide) (by decide) rfl (by kernel_rfl) HX1.out ?_; intro g2 x2 hz _; have HX2 := Lib.hid hz.left; have HRB : Hid (RB x2 x2.heap.size (some ⟨g2, 0, none⟩) 5 [201, 202, 203, 204, 205]) := Lib.hid (Reads.own (hz.right.row (i := 0) rfl)); clear hz HX1)
    | (at_builtin; go_must (refine wl_appB rfl (.tmp 13) (.tmp 14) rfl Try.u8s' HX2.out 0 rfl HL.out rfl _ _ 5 _ [201, 202, 203, 204, 205] rfl HRB.out (by omega) ?_); intro A3 c3 x3 hz; have HX3 : Hid (OW w4 [bytO 5 (A3, c3, l5 ++ mkL 0)] x3) := Lib.hid hz; clear hz HX2 HRB))
  go_loopw [3, 4] (fun v i wr => ∃ (j : Nat) (A' : Option Addr) (c' : Nat), j ≤ 70 ∧ i = .int .i64 j ∧ v = .slice A' (n + 5 + j) c' ∧ Hid (OW w4 [bytO 5 (A', c', l5 ++ mkL j)] wr)) (fun _ i _ => 70 - (intOf i).toNat)
  case atStart => exact ⟨0, A3, c3, by omega, rfl, rfl, HX3⟩
  case round =>
    clear HX3
    obtain ⟨j, A4, c4, hj, rfl, rfl, HX⟩ := hrel
    have HLJ : Hid ((l5 ++ mkL j).length = n + 5 + j) := Lib.hid (by rw [List.length_append, HL.out, mkL_len]; omega)
    by_cases hlt : j < 70
    · have hd3 : decide ((j : Int) < 70) = true := decide_eq_true (by omega)
      have HE : Hid (l5 ++ mkL j ++ [206] = l5 ++ mkL (j + 1)) := Lib.hid (by unfold mkL; rw [List.replicate_succ']; simp)
      go_wp2_with (first
        | (refine wl_build rfl #[(0, .const (.int .u8 206))] rfl #[.int .u8 206] Try.u8s' (.int .u8 0) (by kernel_rfl) (by decide) (by decide) (by decide) rfl (by kernel_rfl) HX.out ?_; intro g5 x5 hz _; have HX5 := Lib.hid hz.left; have HRB : Hid (RB x5 x5.heap.size (some ⟨g5, 0, none⟩) 1 [206]) := Lib.hid (Reads.own (hz.right.row (i := 0) rfl)); clear hz HX)
        | (at_builtin; go_must (refine wl_appB rfl (.tmp 20) (.tmp 21) rfl Try.u8s' HX5.out 0 rfl HLJ.out rfl _ _ 1 _ [206] rfl HRB.out (by omega) ?_); intro A6 c6 x6 hz; rw [HE.out] at hz; have HX6 : Hid (OW w4 [bytO 5 (A6, c6, l5 ++ mkL (j + 1))] x6) := Lib.hid hz; clear hz HX5 HRB))
      go_roundw
      case rel => exact ⟨j + 1, A6, c6, by omega, by go_num, rfl, HX6⟩
      case measure => simp [intOf]; omega
    · have hd3 : decide ((j : Int) < 70) = false := decide_eq_false (by omega)
      obtain rfl : j = 70 := by omega
      have h5 : (l5 ++ mkL 70).length ≤ c4 := (HX.out.byt (i := 0) rfl).cap.1
      have h7 : (l5 ++ mkL 70).length = n + 5 + 70 := HLJ.out
      have h5I : (n : Int) ≤ (c4 : Int) := by omega
      have h5N : n ≤ c4 := by omega
      clear hlt h7 h5
      go_wp2_with fail
      go_ret
      exact ⟨A4, c4, rfl, HX.out⟩
set_option maxRecDepth 100000 in
set_option maxHeartbeats 4000000 in
theorem entry5_any (e : Ent) (A : Option Addr) (n c : Nat) (B : Option Addr) (m d : Nat) (D : Option Addr) (v q : Nat) (w : World) (h : En w A n c B m d D v q e) :
    Calls Try.prog 16 #[entV A n c B m d D v q e] w fun r z => ∃ A' B' D' c' d' q', r = .returned (entV A' (cut5 e).row.length c' B' (cut5 e).qual.length d' D' (cut5 e).val.length q' (cut5 e)) ∧ OW w (entO A' B' D' c' d' q' (cut5 e)) z := by
  obtain ⟨e', he'⟩ : ∃ z, z = cut5 e := ⟨_, rfl⟩
  have h1 := cut5_le e
  have HE : Hid (∀ z, Below w.heap.size w z → En z A n c B m d D v q e) := Lib.hid fun z hz => h.later hz
  have HRL : Hid ((min n 5000) = e'.row.length ∧ (min m 5000) = e'.qual.length ∧ (min v 5000) = e'.val.length) := Lib.hid (by
    have e1 := h.row.len
    have e2 := h.qual.len
    have e3 := h.val.len
    subst he'
    unfold cut5
    simp only [List.length_take]
    omega)
  have HF : Hid (e'.fam = e.fam ∧ e'.ts = e.ts ∧ e'.seq = e.seq ∧ e'.kind = e.kind) := Lib.hid (by subst he'; exact ⟨rfl, rfl, rfl, rfl⟩)
  have HC : Hid (e'.row = e.row.take 5000 ∧ e'.qual = e.qual.take 5000 ∧ e'.val = e.val.take 5000) := Lib.hid (by subst he'; exact ⟨rfl, rfl, rfl⟩)
  rw [← he'] at h1 ⊢
  obtain ⟨r1, r2, r3⟩ := h1
  obtain ⟨n1, hn1⟩ : ∃ z, z = min n 5000 := ⟨_, rfl⟩
  obtain ⟨m1, hm1⟩ : ∃ z, z = min m 5000 := ⟨_, rfl⟩
  obtain ⟨v1, hv1⟩ : ∃ z, z = min v 5000 := ⟨_, rfl⟩
  have HN := Lib.hid hn1.symm
  have HM := Lib.hid hm1.symm
  have HV := Lib.hid hv1.symm
  have hn5 : n1 ≤ 5000 := by omega
  have hm5 : m1 ≤ 5000 := by omega
  have hv5 : v1 ≤ 5000 := by omega
  have HX := Lib.hid (OW.nil w)
  clear h he' hn1 hm1 hv1 r1 r2 r3
  unfold entV
  go_enter Try.func16, Try.ntmps16
  go_wp2_with (first
    | (refine wl_box rfl (.tmp 0) rfl [.slice A n c, .int .i64 e.fam, .slice B m d, .int .i64 e.ts, .int .i64 e.seq, .int .i64 e.kind, .slice D v q] rfl HX.out ?_; intro gb x1 hz _; have HX1 := Lib.hid hz; clear hz HX)
    | (refine wl_alloc rfl rfl [.slice none 0 0, .int .i64 0, .slice none 0 0, .int .i64 0, .int .i64 0, .int .i64 0, .slice none 0 0] (.inl (by kernel_rfl)) HX1.out ?_; intro gr x2 hz _; have HX2 : Hid (OW w [boxO gb [.slice A n c, .int .i64 e.fam, .slice B m d, .int .i64 e.ts, .int .i64 e.seq, .int .i64 e.kind, .slice D v q], boxO gr [.slice none 0 0, .int .i64 0, .slice none 0 0, .int .i64 0, .int .i64 0, .int .i64 0, .slice none 0 0]] x2) := Lib.hid hz; have tk1 : True := trivial; clear hz HX1)
    | (refine wpList_load_cell rfl 28 (.tmp 3) rfl rfl (HX2.out.cell (i := 0) (j := 0) rfl rfl) (fun w => Try.isAgg28 w) ?_)
    | (go_at_call 45; (have _t := tk1); go_must (refine (laid8_any e.row A n c _ _ (HE.out _ HX2.out.up).row HN.out).mono ?_); rw [← HC.out.1]; rintro r x3 ⟨A3, c3, rfl, ho⟩; have HX3 := Lib.hid (HX2.out.app ho); clear ho HX2 tk1 _t)
    | (refine wl_put1 rfl (.tmp 6) (.tmp 5) rfl HX3.out 0 rfl 0 rfl (by simp) _ rfl (by kernel_rfl) rfl ?_; intro x4 hz _; have HX4 : Hid (OW w [boxO gb [.slice A3 n1 c3, .int .i64 e.fam, .slice B m d, .int .i64 e.ts, .int .i64 e.seq, .int .i64 e.kind, .slice D v q], boxO gr [.slice none 0 0, .int .i64 0, .slice none 0 0, .int .i64 0, .int .i64 0, .int .i64 0, .slice none 0 0], bytO 5 (A3, c3, e'.row ++ mkL 70)] x4) := Lib.hid hz; have tk2 : True := trivial; clear hz HX3)
    | (refine wpList_load_cell rfl 28 (.tmp 7) rfl rfl (HX4.out.cell (i := 0) (j := 2) rfl rfl) (fun w => Try.isAgg28 w) ?_)
    | (go_at_call 45; (have _t := tk2); go_must (refine (laid8_any e.qual B m d _ _ (HE.out _ HX4.out.up).qual HM.out).mono ?_); rw [← HC.out.2.1]; rintro r x5 ⟨B3, d3, rfl, ho⟩; have HX5 := Lib.hid (HX4.out.app ho); clear ho HX4 tk2 _t)
    | (refine wl_put1 rfl (.tmp 10) (.tmp 9) rfl HX5.out 0 rfl 2 rfl (by simp) _ rfl (by kernel_rfl) rfl ?_; intro x6 hz _; have HX6 : Hid (OW w [boxO gb [.slice A3 n1 c3, .int .i64 e.fam, .slice B3 m1 d3, .int .i64 e.ts, .int .i64 e.seq, .int .i64 e.kind, .slice D v q], boxO gr [.slice none 0 0, .int .i64 0, .slice none 0 0, .int .i64 0, .int .i64 0, .int .i64 0, .slice none 0 0], bytO 5 (A3, c3, e'.row ++ mkL 70), bytO 5 (B3, d3, e'.qual ++ mkL 70)] x6) := Lib.hid hz; have tk3 : True := trivial; clear hz HX5)
    | (refine wpList_load_cell rfl 28 (.tmp 11) rfl rfl (HX6.out.cell (i := 0) (j := 6) rfl rfl) (fun w => Try.isAgg28 w) ?_)
    | (go_at_call 45; (have _t := tk3); go_must (refine (laid8_any e.val D v q _ _ (HE.out _ HX6.out.up).val HV.out).mono ?_); rw [← HC.out.2.2]; rintro r x7 ⟨D3, q3, rfl, ho⟩; have HX7 := Lib.hid (HX6.out.app ho); clear ho HX6 tk3 _t)
    | (refine wl_put1 rfl (.tmp 14) (.tmp 13) rfl HX7.out 0 rfl 6 rfl (by simp) _ rfl (by kernel_rfl) rfl ?_; intro x8 hz _; have HX8 : Hid (OW w [boxO gb [.slice A3 n1 c3, .int .i64 e.fam, .slice B3 m1 d3, .int .i64 e.ts, .int .i64 e.seq, .int .i64 e.kind, .slice D3 v1 q3], boxO gr [.slice none 0 0, .int .i64 0, .slice none 0 0, .int .i64 0, .int .i64 0, .int .i64 0, .slice none 0 0], bytO 5 (A3, c3, e'.row ++ mkL 70), bytO 5 (B3, d3, e'.qual ++ mkL 70), bytO 5 (D3, q3, e'.val ++ mkL 70)] x8) := Lib.hid hz; clear hz HX7)
    | (refine wpList_load_row7 rfl 30 (.tmp 1) rfl rfl (HX8.out.range (i := 0) rfl) ent_rowM ?_)
    | (refine wl_put rfl (.tmp 2) (.tmp 15) rfl HX8.out 1 rfl rfl [.slice A3 n1 c3, .int .i64 e.fam, .slice B3 m1 d3, .int .i64 e.ts, .int .i64 e.seq, .int .i64 e.kind, .slice D3 v1 q3] rfl rfl (by kernel_rfl) (by simp [Value.oneCell']) ?_; intro x9 hz _; have HX9 : Hid (OW w [boxO gb [.slice A3 n1 c3, .int .i64 e.fam, .slice B3 m1 d3, .int .i64 e.ts, .int .i64 e.seq, .int .i64 e.kind, .slice D3 v1 q3], boxO gr [.slice A3 n1 c3, .int .i64 e.fam, .slice B3 m1 d3, .int .i64 e.ts, .int .i64 e.seq, .int .i64 e.kind, .slice D3 v1 q3], bytO 5 (A3, c3, e'.row ++ mkL 70), bytO 5 (B3, d3, e'.qual ++ mkL 70), bytO 5 (D3, q3, e'.val ++ mkL 70)] x9) := Lib.hid hz; clear hz HX8))
  refine bodyPost_ret (results_rowL rfl _ _ gr _ rfl (HX9.out.range (i := 1) rfl) (by kernel_rfl) (by kernel_rfl)) rfl ?_
  refine ⟨A3, B3, D3, c3, d3, q3, ?_, (HX9.out.erase 0).erase 0⟩
  rw [← HRL.out.1, ← HRL.out.2.1, ← HRL.out.2.2, HN.out, HM.out, HV.out, HF.out.1, HF.out.2.1, HF.out.2.2.1, HF.out.2.2.2]
def EntP (x : World) (e : Ent) (en : Ending) (z : World) : Prop := ∃ A B D c d q, en = .returned (.agg #[.slice A e.row.length c, .int .i64 e.fam, .slice B e.qual.length d, .int .i64 e.ts, .int .i64 e.seq, .int .i64 e.kind, .slice D e.val.length q]) ∧ OW x (entO A B D c d q e) z
theorem entry8_cut (r : ER) (x : World) (h : r.En x) : Calls Try.prog 16 #[.agg #[.slice r.A r.e.row.length r.c, .int .i64 r.e.fam, .slice r.B r.e.qual.length r.d, .int .i64 r.e.ts, .int .i64 r.e.seq, .int .i64 r.e.kind, .slice r.D r.e.val.length r.q]] x (EntP x (cut5 r.e)) :=
  (entry5_any r.e r.A _ r.c r.B _ r.d r.D _ r.q x h).mono fun _ _ ⟨A, B, D, c, d, q, h1, h2⟩ => ⟨A, B, D, c, d, q, h1, h2⟩
theorem stands8 {w x : World} {os : List Ob} {A B D A' B' D' : Option Addr} {c d q c' d' q' : Nat} {e : Ent} (h : OW w os x) (h1 : ∀ o, o ∈ entO A B D c d q e → o ∈ os) (h2 : ∀ o, o ∈ entO A' B' D' c' d' q' e → o ∈ os) (hl : e.row.length ≤ 5000 ∧ e.qual.length ≤ 5000 ∧ e.val.length ≤ 5000) :
    Calls Try.prog 29 #[.agg #[.slice A e.row.length c, .int .i64 e.fam, .slice B e.qual.length d, .int .i64 e.ts, .int .i64 e.seq, .int .i64 e.kind, .slice D e.val.length q], .agg #[.slice A' e.row.length c', .int .i64 e.fam, .slice B' e.qual.length d', .int .i64 e.ts, .int .i64 e.seq, .int .i64 e.kind, .slice D' e.val.length q']] x fun e z => e = .returned (.bool true) ∧ Below x.heap.size x z :=
  stands_any e A _ c B _ d D _ q A' c' B' d' D' q' x (entO_enM h h1 hl.1 hl.2.1 hl.2.2) (entO_en h h2)
end Go.Proofs.Ytdaoinhkagmbdaa
namespace Go.Proofs.Ytdaoinhkagmbdaa
open Go.RowKit
structure PS where
  pg : Nat
  tg : Nat
  t : Tr
  fr : Bool
  A : Option Addr
  n : Nat
  c : Nat
  rs : List ER
def PS.box (p : PS) : Ob := boxO p.pg [.pointer (some ⟨p.tg, 0, none⟩), .slice p.A p.n p.c, .bool p.fr]
def PS.tab (p : PS) : Ob := boxO p.tg (tabC p.t p.fr)
structure PSok (ms : List Ob) (p : PS) : Prop where
  tb : Tb ms p.t
  rt : RT ms p.A p.n p.c p.rs p.t.ents
theorem PSok.more {ms ms' : List Ob} {p : PS} (h : PSok ms p) (hs : ∀ o, o ∈ ms → o ∈ ms') : PSok ms' p := ⟨h.tb.more hs, h.rt.more hs⟩
def PAddP (w : World) (fg : Nat) (RR ms : List Ob) (p : PS) (e : Ending) (z : World) : Prop :=
  e = .returned (.bool true) ∧ ∃ p' ns osF', p'.pg = p.pg ∧ p'.tg = p.tg ∧ p'.fr = p.fr ∧ p'.t.list.length ≤ p.t.list.length + 1 ∧ Fl fg osF' ∧ PSok (ms ++ ns) p' ∧ OW w (osF' ++ (p'.box :: p'.tab :: (RR ++ ns))) z
theorem SlB.leP {o : Ob} {A : Option Addr} {n m cap : Nat} (h : SlB o A n cap) (hm : m ≤ n) : SlB o A m cap := fun w x os i hX hi mk => by
  obtain ⟨o', h1, h2⟩ := h w x os i hX hi mk
  refine ⟨o', h1, ?_⟩
  rcases h2 with ⟨h3, h4, h5⟩ | ⟨g, c, h3, h4⟩
  · exact .inl ⟨h3, by omega, h5⟩
  · exact .inr ⟨g, c, h3, by first | exact h4 | (obtain ⟨k1, k2⟩ := h4; exact ⟨by omega, k2⟩)⟩
theorem entO_slB {A B D : Option Addr} {c d q : Nat} {e : Ent} : SlB (bytO 5 (A, c, e.row ++ mkL 70)) A e.row.length c ∧ SlB (bytO 5 (B, d, e.qual ++ mkL 70)) B e.qual.length d ∧ SlB (bytO 5 (D, q, e.val ++ mkL 70)) D e.val.length q := by
  refine ⟨?_, ?_, ?_⟩ <;> exact SlB.leP (slB_byt _ _ _ _) (by rw [List.length_append]; omega)
theorem pa_perm1 (g9 g7 g8 g4 p t : Ob) (F R X Y N : List Ob) : (g9 :: g7 :: g8 :: (((((g4 :: (F ++ (p :: t :: R))) ++ X) ++ Y)) ++ N)).Perm (t :: g9 :: g7 :: g8 :: g4 :: p :: ((((F ++ R) ++ X) ++ Y) ++ N)) := by (refine perm_of_cnt fun a => ?_; (first | ((repeat (first | rw [cntO_app] | rw [cntO_cons] | rw [cntO_nil])) <;> omega) | ((simp only [cntO_app, cntO_cons, cntO_nil]) <;> omega)))
theorem pa_perm2 (t g9 g7 g8 g4 p a b c : Ob) (F R Y N M : List Ob) : (t :: g9 :: g7 :: g8 :: g4 :: p :: (((((F ++ R) ++ [a, b, c]) ++ Y) ++ N) ++ M)).Perm (F ++ (a :: b :: c :: p :: t :: g9 :: g7 :: g8 :: g4 :: (((R ++ Y) ++ N) ++ M))) := by (refine perm_of_cnt fun a => ?_; (first | ((repeat (first | rw [cntO_app] | rw [cntO_cons] | rw [cntO_nil])) <;> omega) | ((simp only [cntO_app, cntO_cons, cntO_nil]) <;> omega)))
theorem pa_perm3 (p t g9 g7 g8 g4 : Ob) (R Y N M : List Ob) : (p :: t :: g9 :: g7 :: g8 :: g4 :: (((R ++ Y) ++ N) ++ M)).Perm (p :: t :: (R ++ (((g9 :: g7 :: g8 :: g4 :: Y) ++ N) ++ M))) := by (refine perm_of_cnt fun a => ?_; (first | ((repeat (first | rw [cntO_app] | rw [cntO_cons] | rw [cntO_nil])) <;> omega) | ((simp only [cntO_app, cntO_cons, cntO_nil]) <;> omega)))
theorem pb_range {w x : World} {os : List Ob} {g : Nat} {a b c : Value} (h : OW w os x) (hm : boxO g [a, b, c] ∈ os) : x.rangeAt g 1 [b, c] := by
  have h1 := h.rangem hm
  exact fun j v hj => by
    have := h1 (1 + j) v (by rw [Nat.add_comm]; exact hj)
    rwa [Nat.zero_add] at this
set_option maxRecDepth 10000000 in
set_option maxHeartbeats 16000000 in
theorem padd_any {w x : World} {fg : Nat} {osF RR ms : List Ob} {p : PS} (r : ER) (hF : Fl fg osF) (hP : PSok ms p) (hs : ∀ o, o ∈ ms → o ∈ RR) (h : OW w (osF ++ (p.box :: p.tab :: RR)) x) (hr : ∀ z, Below w.heap.size w z → r.En z) (hlen : p.t.list.length ≤ 80000) :
    Calls Try.prog 63 #[.pointer (some ⟨p.pg, 0, none⟩), .agg #[.slice r.A r.e.row.length r.c, .int .i64 r.e.fam, .slice r.B r.e.qual.length r.d, .int .i64 r.e.ts, .int .i64 r.e.seq, .int .i64 r.e.kind, .slice r.D r.e.val.length r.q], .pointer (some ⟨fg, 0, none⟩)] x (PAddP w fg RR ms p) := by
  obtain ⟨pg, tg, t, fr, A, n, c, rs⟩ := p
  have HF := Lib.hid hF
  have HTB : Hid (Tb ms t) := Lib.hid hP.tb
  have HRT : Hid (RT ms A n c rs t.ents) := Lib.hid hP.rt
  have HMS := Lib.hid hs
  have HEN := Lib.hid hr
  have hlen : t.list.length ≤ 80000 := hlen
  have hn : n ≤ 80000 := by
    have h1 := (hP.rt.more (os' := osF ++ (PS.box ⟨pg, tg, t, fr, A, n, c, rs⟩ :: PS.tab ⟨pg, tg, t, fr, A, n, c, rs⟩ :: RR)) fun o ho => List.mem_append_right _ (.tail _ (.tail _ (hs o ho)))).lens h
    have h2 : t.ents.length = n := h1.2
    rw [Tr.ents_len] at h2; omega
  have HX0 : Hid (OW w (osF ++ (boxO pg [.pointer (some ⟨tg, 0, none⟩), .slice A n c, .bool fr] :: boxO tg (tabC t fr) :: RR)) x) := Lib.hid h
  obtain ⟨ec, hec⟩ : ∃ z, z = cut5 r.e := ⟨_, rfl⟩
  have HEC := Lib.hid hec.symm
  have HL5 : Hid (ec.row.length ≤ 5000 ∧ ec.qual.length ≤ 5000 ∧ ec.val.length ≤ 5000) := Lib.hid (by rw [hec]; exact cut5_le _)
  obtain ⟨L2, k2, hadd⟩ : ∃ L k, addE t.ents fr ec = (L, k) := ⟨_, _, rfl⟩
  have HADD := Lib.hid hadd
  have HLN : Hid (L2.length ≤ t.list.length + 1) := Lib.hid (by have h := (addE_sub t.ents fr ec).2; rw [hadd, Tr.ents_len] at h; exact h)
  clear hF hP hs h hr hec hadd
  go_enter Try.func63, Try.ntmps63
  go_upto_region 1 with (refine wl_box rfl (.tmp 1) rfl [.slice r.A r.e.row.length r.c, .int .i64 r.e.fam, .slice r.B r.e.qual.length r.d, .int .i64 r.e.ts, .int .i64 r.e.seq, .int .i64 r.e.kind, .slice r.D r.e.val.length r.q] rfl HX0.out ?_; intro g4 x1 hz hb; have HX : Hid (OW w (boxO g4 [.slice r.A r.e.row.length r.c, .int .i64 r.e.fam, .slice r.B r.e.qual.length r.d, .int .i64 r.e.ts, .int .i64 r.e.seq, .int .i64 r.e.kind, .slice r.D r.e.val.length r.q] :: (osF ++ (boxO pg [.pointer (some ⟨tg, 0, none⟩), .slice A n c, .bool fr] :: boxO tg (tabC t fr) :: RR))) x1) := Lib.hid (hz.perm List.perm_append_comm); clear hz hb HX0)
  go_cut [7, 8] (fun p7 p8 wx => ∃ (g7 g8 : Nat) (A1 B1 D1 A2 B2 D2 : Option Addr) (c1 d1 q1 c2 d2 q2 : Nat), p7 = .pointer (some ⟨g7, 0, none⟩) ∧ p8 = .pointer (some ⟨g8, 0, none⟩) ∧ Hid (OW w (boxO g7 [.slice A1 ec.row.length c1, .int .i64 ec.fam, .slice B1 ec.qual.length d1, .int .i64 ec.ts, .int .i64 ec.seq, .int .i64 ec.kind, .slice D1 ec.val.length q1] :: boxO g8 [.slice A2 ec.row.length c2, .int .i64 ec.fam, .slice B2 ec.qual.length d2, .int .i64 ec.ts, .int .i64 ec.seq, .int .i64 ec.kind, .slice D2 ec.val.length q2] :: (((boxO g4 [.slice r.A r.e.row.length r.c, .int .i64 r.e.fam, .slice r.B r.e.qual.length r.d, .int .i64 r.e.ts, .int .i64 r.e.seq, .int .i64 r.e.kind, .slice r.D r.e.val.length r.q] :: (osF ++ (boxO pg [.pointer (some ⟨tg, 0, none⟩), .slice A n c, .bool fr] :: boxO tg (tabC t fr) :: RR))) ++ entO A1 B1 D1 c1 d1 q1 ec) ++ entO A2 B2 D2 c2 d2 q2 ec)) wx))
  case first =>
    refine lt_start [6, 7] (by kernel_rfl) ?_
    intro xd hd
    refine ⟨fun z => OW w (boxO g4 [.slice r.A r.e.row.length r.c, .int .i64 r.e.fam, .slice r.B r.e.qual.length r.d, .int .i64 r.e.ts, .int .i64 r.e.seq, .int .i64 r.e.kind, .slice r.D r.e.val.length r.q] :: (osF ++ (boxO pg [.pointer (some ⟨tg, 0, none⟩), .slice A n c, .bool fr] :: boxO tg (tabC t fr) :: RR))) z, ?_⟩
    have HS := Lib.hid (HX.out.later hd)
    have HY := HS
    refine lt_take 0 [1, 3, 6, 7] rfl (by kernel_rfl) (by kernel_rfl) (by kernel_rfl) (by kernel_rfl) (by kernel_rfl) (fun _ _ _ h => h) (yi_row rfl rfl rfl (fun w hS => OW.range hS (i := 0) rfl) ent_row8) HS.out ?_
    simp only [Act.put, List.setIfInBounds_toArray, List.set_cons_zero, List.set_cons_succ]
    refine lt_take 2 [3, 6, 7] rfl (by kernel_rfl) (by kernel_rfl) (by kernel_rfl) (by kernel_rfl) (by kernel_rfl) (fun _ _ _ h => h) (yi_row rfl rfl rfl (fun w hS => OW.range hS (i := 0) rfl) ent_row8) HS.out ?_
    simp only [Act.put, List.setIfInBounds_toArray, List.set_cons_zero, List.set_cons_succ]
    refine lt_three 1 4 5 rfl rfl rfl (by kernel_rfl) rfl rfl rfl ?_ ?_ ?_
    · refine wp_callL rfl ⟨_, Try.func16, by decide, by kernel_rfl⟩ [.agg #[.slice r.A r.e.row.length r.c, .int .i64 r.e.fam, .slice r.B r.e.qual.length r.d, .int .i64 r.e.ts, .int .i64 r.e.seq, .int .i64 r.e.kind, .slice r.D r.e.val.length r.q]] rfl ?_
      refine (entry8_cut r _ (HEN.out _ HS.out.up)).mono ?_
      rw [HEC.out]
      rintro e y1 ⟨A1, B1, D1, c1, d1, q1, rfl, hz⟩
      replace HY : Hid (OW w (((boxO g4 [.slice r.A r.e.row.length r.c, .int .i64 r.e.fam, .slice r.B r.e.qual.length r.d, .int .i64 r.e.ts, .int .i64 r.e.seq, .int .i64 r.e.kind, .slice r.D r.e.val.length r.q] :: (osF ++ (boxO pg [.pointer (some ⟨tg, 0, none⟩), .slice A n c, .bool fr] :: boxO tg (tabC t fr) :: RR))) ++ entO A1 B1 D1 c1 d1 q1 ec)) y1) := Lib.hid (HY.out.app hz)
      replace HS := Lib.hid (HS.out.later hz.up)
      clear hz
      refine ⟨_, rfl, ?_⟩
      refine ⟨fun _ => HS.out, ?_⟩
      simp only [Act.put, List.setIfInBounds_toArray, List.set_cons_zero, List.set_cons_succ]
      refine lt_three 3 4 5 rfl rfl rfl (by kernel_rfl) rfl rfl rfl ?_ ?_ ?_
      · refine wp_callL rfl ⟨_, Try.func16, by decide, by kernel_rfl⟩ [.agg #[.slice r.A r.e.row.length r.c, .int .i64 r.e.fam, .slice r.B r.e.qual.length r.d, .int .i64 r.e.ts, .int .i64 r.e.seq, .int .i64 r.e.kind, .slice r.D r.e.val.length r.q]] rfl ?_
        refine (entry8_cut r _ (HEN.out _ HS.out.up)).mono ?_
        rw [HEC.out]
        rintro e y2 ⟨A2, B2, D2, c2, d2, q2, rfl, hz⟩
        replace HY : Hid (OW w ((((boxO g4 [.slice r.A r.e.row.length r.c, .int .i64 r.e.fam, .slice r.B r.e.qual.length r.d, .int .i64 r.e.ts, .int .i64 r.e.seq, .int .i64 r.e.kind, .slice r.D r.e.val.length r.q] :: (osF ++ (boxO pg [.pointer (some ⟨tg, 0, none⟩), .slice A n c, .bool fr] :: boxO tg (tabC t fr) :: RR))) ++ entO A1 B1 D1 c1 d1 q1 ec) ++ entO A2 B2 D2 c2 d2 q2 ec)) y2) := Lib.hid (HY.out.app hz)
        replace HS := Lib.hid (HS.out.later hz.up)
        clear hz
        refine ⟨_, rfl, ?_⟩
        refine ⟨fun _ => HS.out, ?_⟩
        simp only [Act.put, List.setIfInBounds_toArray, List.set_cons_zero, List.set_cons_succ]
        refine lt_two 4 5 rfl rfl (by kernel_rfl) rfl rfl ?_ ?_
        · refine wpo_alloc rfl [.slice none 0 0, .int .i64 0, .slice none 0 0, .int .i64 0, .int .i64 0, .int .i64 0, .slice none 0 0] (.inl (by kernel_rfl)) HY.out ?_
          intro g7 ug7 hz hb
          replace HY : Hid (OW w (boxO g7 [.slice none 0 0, .int .i64 0, .slice none 0 0, .int .i64 0, .int .i64 0, .int .i64 0, .slice none 0 0] :: (((boxO g4 [.slice r.A r.e.row.length r.c, .int .i64 r.e.fam, .slice r.B r.e.qual.length r.d, .int .i64 r.e.ts, .int .i64 r.e.seq, .int .i64 r.e.kind, .slice r.D r.e.val.length r.q] :: (osF ++ (boxO pg [.pointer (some ⟨tg, 0, none⟩), .slice A n c, .bool fr] :: boxO tg (tabC t fr) :: RR))) ++ entO A1 B1 D1 c1 d1 q1 ec) ++ entO A2 B2 D2 c2 d2 q2 ec)) ug7) := Lib.hid (hz.perm (List.perm_append_comm))
          replace HS := Lib.hid (HS.out.later hb)
          clear hz hb
          refine ⟨fun _ => HS.out, ?_⟩
          simp only [Act.put, List.setIfInBounds_toArray, List.set_cons_zero, List.set_cons_succ]
          refine lt_op 5 rfl (by kernel_rfl) rfl ?_
          refine wpo_alloc rfl [.slice none 0 0, .int .i64 0, .slice none 0 0, .int .i64 0, .int .i64 0, .int .i64 0, .slice none 0 0] (.inl (by kernel_rfl)) HY.out ?_
          intro g8 ug8 hz hb
          replace HY : Hid (OW w (boxO g7 [.slice none 0 0, .int .i64 0, .slice none 0 0, .int .i64 0, .int .i64 0, .int .i64 0, .slice none 0 0] :: boxO g8 [.slice none 0 0, .int .i64 0, .slice none 0 0, .int .i64 0, .int .i64 0, .int .i64 0, .slice none 0 0] :: (((boxO g4 [.slice r.A r.e.row.length r.c, .int .i64 r.e.fam, .slice r.B r.e.qual.length r.d, .int .i64 r.e.ts, .int .i64 r.e.seq, .int .i64 r.e.kind, .slice r.D r.e.val.length r.q] :: (osF ++ (boxO pg [.pointer (some ⟨tg, 0, none⟩), .slice A n c, .bool fr] :: boxO tg (tabC t fr) :: RR))) ++ entO A1 B1 D1 c1 d1 q1 ec) ++ entO A2 B2 D2 c2 d2 q2 ec)) ug8) := Lib.hid (hz.perm (List.perm_append_comm.trans (List.Perm.swap _ _ _)))
          replace HS := Lib.hid (HS.out.later hb)
          clear hz hb
          refine ⟨fun _ => HS.out, ?_⟩
          simp only [Act.put, List.setIfInBounds_toArray, List.set_cons_zero, List.set_cons_succ]
          refine lt_end 6 rfl (by kernel_rfl) rfl (by kernel_rfl) ?_
          refine wpo_put rfl HY.out 0 rfl rfl [.slice A1 ec.row.length c1, .int .i64 ec.fam, .slice B1 ec.qual.length d1, .int .i64 ec.ts, .int .i64 ec.seq, .int .i64 ec.kind, .slice D1 ec.val.length q1] rfl rfl (by kernel_rfl) (by simp [Value.oneCell']) ?_
          intro v1 hz _
          replace HY : Hid (OW w (boxO g7 [.slice A1 ec.row.length c1, .int .i64 ec.fam, .slice B1 ec.qual.length d1, .int .i64 ec.ts, .int .i64 ec.seq, .int .i64 ec.kind, .slice D1 ec.val.length q1] :: boxO g8 [.slice none 0 0, .int .i64 0, .slice none 0 0, .int .i64 0, .int .i64 0, .int .i64 0, .slice none 0 0] :: (((boxO g4 [.slice r.A r.e.row.length r.c, .int .i64 r.e.fam, .slice r.B r.e.qual.length r.d, .int .i64 r.e.ts, .int .i64 r.e.seq, .int .i64 r.e.kind, .slice r.D r.e.val.length r.q] :: (osF ++ (boxO pg [.pointer (some ⟨tg, 0, none⟩), .slice A n c, .bool fr] :: boxO tg (tabC t fr) :: RR))) ++ entO A1 B1 D1 c1 d1 q1 ec) ++ entO A2 B2 D2 c2 d2 q2 ec)) v1) := Lib.hid hz
          clear hz
          simp only [Act.put]
          refine lt_end 7 rfl (by kernel_rfl) rfl (by kernel_rfl) ?_
          refine wpo_put rfl HY.out 1 rfl rfl [.slice A2 ec.row.length c2, .int .i64 ec.fam, .slice B2 ec.qual.length d2, .int .i64 ec.ts, .int .i64 ec.seq, .int .i64 ec.kind, .slice D2 ec.val.length q2] rfl rfl (by kernel_rfl) (by simp [Value.oneCell']) ?_
          intro v2 hz _
          replace HY : Hid (OW w (boxO g7 [.slice A1 ec.row.length c1, .int .i64 ec.fam, .slice B1 ec.qual.length d1, .int .i64 ec.ts, .int .i64 ec.seq, .int .i64 ec.kind, .slice D1 ec.val.length q1] :: boxO g8 [.slice A2 ec.row.length c2, .int .i64 ec.fam, .slice B2 ec.qual.length d2, .int .i64 ec.ts, .int .i64 ec.seq, .int .i64 ec.kind, .slice D2 ec.val.length q2] :: (((boxO g4 [.slice r.A r.e.row.length r.c, .int .i64 r.e.fam, .slice r.B r.e.qual.length r.d, .int .i64 r.e.ts, .int .i64 r.e.seq, .int .i64 r.e.kind, .slice r.D r.e.val.length r.q] :: (osF ++ (boxO pg [.pointer (some ⟨tg, 0, none⟩), .slice A n c, .bool fr] :: boxO tg (tabC t fr) :: RR))) ++ entO A1 B1 D1 c1 d1 q1 ec) ++ entO A2 B2 D2 c2 d2 q2 ec)) v2) := Lib.hid hz
          clear hz
          simp only [Act.put]
          refine lt_done (by kernel_rfl) ?_
          go_wp2_with fail
          go_meet
          exact ⟨g7, g8, A1, B1, D1, A2, B2, D2, c1, d1, q1, c2, d2, q2, rfl, rfl, HY⟩
        · refine wpo_alloc rfl [.slice none 0 0, .int .i64 0, .slice none 0 0, .int .i64 0, .int .i64 0, .int .i64 0, .slice none 0 0] (.inl (by kernel_rfl)) HY.out ?_
          intro g8 ug8 hz hb
          replace HY : Hid (OW w (boxO g8 [.slice none 0 0, .int .i64 0, .slice none 0 0, .int .i64 0, .int .i64 0, .int .i64 0, .slice none 0 0] :: (((boxO g4 [.slice r.A r.e.row.length r.c, .int .i64 r.e.fam, .slice r.B r.e.qual.length r.d, .int .i64 r.e.ts, .int .i64 r.e.seq, .int .i64 r.e.kind, .slice r.D r.e.val.length r.q] :: (osF ++ (boxO pg [.pointer (some ⟨tg, 0, none⟩), .slice A n c, .bool fr] :: boxO tg (tabC t fr) :: RR))) ++ entO A1 B1 D1 c1 d1 q1 ec) ++ entO A2 B2 D2 c2 d2 q2 ec)) ug8) := Lib.hid (hz.perm (List.perm_append_comm))
          replace HS := Lib.hid (HS.out.later hb)
          clear hz hb
          refine ⟨fun _ => HS.out, ?_⟩
          simp only [Act.put, List.setIfInBounds_toArray, List.set_cons_zero, List.set_cons_succ]
          refine lt_op 4 rfl (by kernel_rfl) rfl ?_
          refine wpo_alloc rfl [.slice none 0 0, .int .i64 0, .slice none 0 0, .int .i64 0, .int .i64 0, .int .i64 0, .slice none 0 0] (.inl (by kernel_rfl)) HY.out ?_
          intro g7 ug7 hz hb
          replace HY : Hid (OW w (boxO g7 [.slice none 0 0, .int .i64 0, .slice none 0 0, .int .i64 0, .int .i64 0, .int .i64 0, .slice none 0 0] :: boxO g8 [.slice none 0 0, .int .i64 0, .slice none 0 0, .int .i64 0, .int .i64 0, .int .i64 0, .slice none 0 0] :: (((boxO g4 [.slice r.A r.e.row.length r.c, .int .i64 r.e.fam, .slice r.B r.e.qual.length r.d, .int .i64 r.e.ts, .int .i64 r.e.seq, .int .i64 r.e.kind, .slice r.D r.e.val.length r.q] :: (osF ++ (boxO pg [.pointer (some ⟨tg, 0, none⟩), .slice A n c, .bool fr] :: boxO tg (tabC t fr) :: RR))) ++ entO A1 B1 D1 c1 d1 q1 ec) ++ entO A2 B2 D2 c2 d2 q2 ec)) ug7) := Lib.hid (hz.perm (List.perm_append_comm))
          replace HS := Lib.hid (HS.out.later hb)
          clear hz hb
          refine ⟨fun _ => HS.out, ?_⟩
          simp only [Act.put, List.setIfInBounds_toArray, List.set_cons_zero, List.set_cons_succ]
          refine lt_end 6 rfl (by kernel_rfl) rfl (by kernel_rfl) ?_
          refine wpo_put rfl HY.out 0 rfl rfl [.slice A1 ec.row.length c1, .int .i64 ec.fam, .slice B1 ec.qual.length d1, .int .i64 ec.ts, .int .i64 ec.seq, .int .i64 ec.kind, .slice D1 ec.val.length q1] rfl rfl (by kernel_rfl) (by simp [Value.oneCell']) ?_
          intro v1 hz _
          replace HY : Hid (OW w (boxO g7 [.slice A1 ec.row.length c1, .int .i64 ec.fam, .slice B1 ec.qual.length d1, .int .i64 ec.ts, .int .i64 ec.seq, .int .i64 ec.kind, .slice D1 ec.val.length q1] :: boxO g8 [.slice none 0 0, .int .i64 0, .slice none 0 0, .int .i64 0, .int .i64 0, .int .i64 0, .slice none 0 0] :: (((boxO g4 [.slice r.A r.e.row.length r.c, .int .i64 r.e.fam, .slice r.B r.e.qual.length r.d, .int .i64 r.e.ts, .int .i64 r.e.seq, .int .i64 r.e.kind, .slice r.D r.e.val.length r.q] :: (osF ++ (boxO pg [.pointer (some ⟨tg, 0, none⟩), .slice A n c, .bool fr] :: boxO tg (tabC t fr) :: RR))) ++ entO A1 B1 D1 c1 d1 q1 ec) ++ entO A2 B2 D2 c2 d2 q2 ec)) v1) := Lib.hid hz
          clear hz
          simp only [Act.put]
          refine lt_end 7 rfl (by kernel_rfl) rfl (by kernel_rfl) ?_
          refine wpo_put rfl HY.out 1 rfl rfl [.slice A2 ec.row.length c2, .int .i64 ec.fam, .slice B2 ec.qual.length d2, .int .i64 ec.ts, .int .i64 ec.seq, .int .i64 ec.kind, .slice D2 ec.val.length q2] rfl rfl (by kernel_rfl) (by simp [Value.oneCell']) ?_
          intro v2 hz _
          replace HY : Hid (OW w (boxO g7 [.slice A1 ec.row.length c1, .int .i64 ec.fam, .slice B1 ec.qual.length d1, .int .i64 ec.ts, .int .i64 ec.seq, .int .i64 ec.kind, .slice D1 ec.val.length q1] :: boxO g8 [.slice A2 ec.row.length c2, .int .i64 ec.fam, .slice B2 ec.qual.length d2, .int .i64 ec.ts, .int .i64 ec.seq, .int .i64 ec.kind, .slice D2 ec.val.length q2] :: (((boxO g4 [.slice r.A r.e.row.length r.c, .int .i64 r.e.fam, .slice r.B r.e.qual.length r.d, .int .i64 r.e.ts, .int .i64 r.e.seq, .int .i64 r.e.kind, .slice r.D r.e.val.length r.q] :: (osF ++ (boxO pg [.pointer (some ⟨tg, 0, none⟩), .slice A n c, .bool fr] :: boxO tg (tabC t fr) :: RR))) ++ entO A1 B1 D1 c1 d1 q1 ec) ++ entO A2 B2 D2 c2 d2 q2 ec)) v2) := Lib.hid hz
          clear hz
          simp only [Act.put]
          refine lt_done (by kernel_rfl) ?_
          go_wp2_with fail
          go_meet
          exact ⟨g7, g8, A1, B1, D1, A2, B2, D2, c1, d1, q1, c2, d2, q2, rfl, rfl, HY⟩
      · refine wpo_alloc rfl [.slice none 0 0, .int .i64 0, .slice none 0 0, .int .i64 0, .int .i64 0, .int .i64 0, .slice none 0 0] (.inl (by kernel_rfl)) HY.out ?_
        intro g7 ug7 hz hb
        replace HY : Hid (OW w (boxO g7 [.slice none 0 0, .int .i64 0, .slice none 0 0, .int .i64 0, .int .i64 0, .int .i64 0, .slice none 0 0] :: ((boxO g4 [.slice r.A r.e.row.length r.c, .int .i64 r.e.fam, .slice r.B r.e.qual.length r.d, .int .i64 r.e.ts, .int .i64 r.e.seq, .int .i64 r.e.kind, .slice r.D r.e.val.length r.q] :: (osF ++ (boxO pg [.pointer (some ⟨tg, 0, none⟩), .slice A n c, .bool fr] :: boxO tg (tabC t fr) :: RR))) ++ entO A1 B1 D1 c1 d1 q1 ec)) ug7) := Lib.hid (hz.perm (List.perm_append_comm))
        replace HS := Lib.hid (HS.out.later hb)
        clear hz hb
        refine ⟨fun _ => HS.out, ?_⟩
        simp only [Act.put, List.setIfInBounds_toArray, List.set_cons_zero, List.set_cons_succ]
        refine lt_two 3 5 rfl rfl (by kernel_rfl) rfl rfl ?_ ?_
        · refine wp_callL rfl ⟨_, Try.func16, by decide, by kernel_rfl⟩ [.agg #[.slice r.A r.e.row.length r.c, .int .i64 r.e.fam, .slice r.B r.e.qual.length r.d, .int .i64 r.e.ts, .int .i64 r.e.seq, .int .i64 r.e.kind, .slice r.D r.e.val.length r.q]] rfl ?_
          refine (entry8_cut r _ (HEN.out _ HS.out.up)).mono ?_
          rw [HEC.out]
          rintro e y2 ⟨A2, B2, D2, c2, d2, q2, rfl, hz⟩
          replace HY : Hid (OW w (boxO g7 [.slice none 0 0, .int .i64 0, .slice none 0 0, .int .i64 0, .int .i64 0, .int .i64 0, .slice none 0 0] :: (((boxO g4 [.slice r.A r.e.row.length r.c, .int .i64 r.e.fam, .slice r.B r.e.qual.length r.d, .int .i64 r.e.ts, .int .i64 r.e.seq, .int .i64 r.e.kind, .slice r.D r.e.val.length r.q] :: (osF ++ (boxO pg [.pointer (some ⟨tg, 0, none⟩), .slice A n c, .bool fr] :: boxO tg (tabC t fr) :: RR))) ++ entO A1 B1 D1 c1 d1 q1 ec) ++ entO A2 B2 D2 c2 d2 q2 ec)) y2) := Lib.hid (HY.out.app hz)
          replace HS := Lib.hid (HS.out.later hz.up)
          clear hz
          refine ⟨_, rfl, ?_⟩
          refine ⟨fun _ => HS.out, ?_⟩
          simp only [Act.put, List.setIfInBounds_toArray, List.set_cons_zero, List.set_cons_succ]
          refine lt_op 5 rfl (by kernel_rfl) rfl ?_
          refine wpo_alloc rfl [.slice none 0 0, .int .i64 0, .slice none 0 0, .int .i64 0, .int .i64 0, .int .i64 0, .slice none 0 0] (.inl (by kernel_rfl)) HY.out ?_
          intro g8 ug8 hz hb
          replace HY : Hid (OW w (boxO g7 [.slice none 0 0, .int .i64 0, .slice none 0 0, .int .i64 0, .int .i64 0, .int .i64 0, .slice none 0 0] :: boxO g8 [.slice none 0 0, .int .i64 0, .slice none 0 0, .int .i64 0, .int .i64 0, .int .i64 0, .slice none 0 0] :: (((boxO g4 [.slice r.A r.e.row.length r.c, .int .i64 r.e.fam, .slice r.B r.e.qual.length r.d, .int .i64 r.e.ts, .int .i64 r.e.seq, .int .i64 r.e.kind, .slice r.D r.e.val.length r.q] :: (osF ++ (boxO pg [.pointer (some ⟨tg, 0, none⟩), .slice A n c, .bool fr] :: boxO tg (tabC t fr) :: RR))) ++ entO A1 B1 D1 c1 d1 q1 ec) ++ entO A2 B2 D2 c2 d2 q2 ec)) ug8) := Lib.hid (hz.perm (List.perm_append_comm.trans (List.Perm.swap _ _ _)))
          replace HS := Lib.hid (HS.out.later hb)
          clear hz hb
          refine ⟨fun _ => HS.out, ?_⟩
          simp only [Act.put, List.setIfInBounds_toArray, List.set_cons_zero, List.set_cons_succ]
          refine lt_end 6 rfl (by kernel_rfl) rfl (by kernel_rfl) ?_
          refine wpo_put rfl HY.out 0 rfl rfl [.slice A1 ec.row.length c1, .int .i64 ec.fam, .slice B1 ec.qual.length d1, .int .i64 ec.ts, .int .i64 ec.seq, .int .i64 ec.kind, .slice D1 ec.val.length q1] rfl rfl (by kernel_rfl) (by simp [Value.oneCell']) ?_
          intro v1 hz _
          replace HY : Hid (OW w (boxO g7 [.slice A1 ec.row.length c1, .int .i64 ec.fam, .slice B1 ec.qual.length d1, .int .i64 ec.ts, .int .i64 ec.seq, .int .i64 ec.kind, .slice D1 ec.val.length q1] :: boxO g8 [.slice none 0 0, .int .i64 0, .slice none 0 0, .int .i64 0, .int .i64 0, .int .i64 0, .slice none 0 0] :: (((boxO g4 [.slice r.A r.e.row.length r.c, .int .i64 r.e.fam, .slice r.B r.e.qual.length r.d, .int .i64 r.e.ts, .int .i64 r.e.seq, .int .i64 r.e.kind, .slice r.D r.e.val.length r.q] :: (osF ++ (boxO pg [.pointer (some ⟨tg, 0, none⟩), .slice A n c, .bool fr] :: boxO tg (tabC t fr) :: RR))) ++ entO A1 B1 D1 c1 d1 q1 ec) ++ entO A2 B2 D2 c2 d2 q2 ec)) v1) := Lib.hid hz
          clear hz
          simp only [Act.put]
          refine lt_end 7 rfl (by kernel_rfl) rfl (by kernel_rfl) ?_
          refine wpo_put rfl HY.out 1 rfl rfl [.slice A2 ec.row.length c2, .int .i64 ec.fam, .slice B2 ec.qual.length d2, .int .i64 ec.ts, .int .i64 ec.seq, .int .i64 ec.kind, .slice D2 ec.val.length q2] rfl rfl (by kernel_rfl) (by simp [Value.oneCell']) ?_
          intro v2 hz _
          replace HY : Hid (OW w (boxO g7 [.slice A1 ec.row.length c1, .int .i64 ec.fam, .slice B1 ec.qual.length d1, .int .i64 ec.ts, .int .i64 ec.seq, .int .i64 ec.kind, .slice D1 ec.val.length q1] :: boxO g8 [.slice A2 ec.row.length c2, .int .i64 ec.fam, .slice B2 ec.qual.length d2, .int .i64 ec.ts, .int .i64 ec.seq, .int .i64 ec.kind, .slice D2 ec.val.length q2] :: (((boxO g4 [.slice r.A r.e.row.length r.c, .int .i64 r.e.fam, .slice r.B r.e.qual.length r.d, .int .i64 r.e.ts, .int .i64 r.e.seq, .int .i64 r.e.kind, .slice r.D r.e.val.length r.q] :: (osF ++ (boxO pg [.pointer (some ⟨tg, 0, none⟩), .slice A n c, .bool fr] :: boxO tg (tabC t fr) :: RR))) ++ entO A1 B1 D1 c1 d1 q1 ec) ++ entO A2 B2 D2 c2 d2 q2 ec)) v2) := Lib.hid hz
          clear hz
          simp only [Act.put]
          refine lt_done (by kernel_rfl) ?_
          go_wp2_with fail
          go_meet
          exact ⟨g7, g8, A1, B1, D1, A2, B2, D2, c1, d1, q1, c2, d2, q2, rfl, rfl, HY⟩
        · refine wpo_alloc rfl [.slice none 0 0, .int .i64 0, .slice none 0 0, .int .i64 0, .int .i64 0, .int .i64 0, .slice none 0 0] (.inl (by kernel_rfl)) HY.out ?_
          intro g8 ug8 hz hb
          replace HY : Hid (OW w (boxO g7 [.slice none 0 0, .int .i64 0, .slice none 0 0, .int .i64 0, .int .i64 0, .int .i64 0, .slice none 0 0] :: boxO g8 [.slice none 0 0, .int .i64 0, .slice none 0 0, .int .i64 0, .int .i64 0, .int .i64 0, .slice none 0 0] :: ((boxO g4 [.slice r.A r.e.row.length r.c, .int .i64 r.e.fam, .slice r.B r.e.qual.length r.d, .int .i64 r.e.ts, .int .i64 r.e.seq, .int .i64 r.e.kind, .slice r.D r.e.val.length r.q] :: (osF ++ (boxO pg [.pointer (some ⟨tg, 0, none⟩), .slice A n c, .bool fr] :: boxO tg (tabC t fr) :: RR))) ++ entO A1 B1 D1 c1 d1 q1 ec)) ug8) := Lib.hid (hz.perm (List.perm_append_comm.trans (List.Perm.swap _ _ _)))
          replace HS := Lib.hid (HS.out.later hb)
          clear hz hb
          refine ⟨fun _ => HS.out, ?_⟩
          simp only [Act.put, List.setIfInBounds_toArray, List.set_cons_zero, List.set_cons_succ]
          refine lt_op 3 rfl (by kernel_rfl) rfl ?_
          refine wp_callL rfl ⟨_, Try.func16, by decide, by kernel_rfl⟩ [.agg #[.slice r.A r.e.row.length r.c, .int .i64 r.e.fam, .slice r.B r.e.qual.length r.d, .int .i64 r.e.ts, .int .i64 r.e.seq, .int .i64 r.e.kind, .slice r.D r.e.val.length r.q]] rfl ?_
          refine (entry8_cut r _ (HEN.out _ HS.out.up)).mono ?_
          rw [HEC.out]
          rintro e y2 ⟨A2, B2, D2, c2, d2, q2, rfl, hz⟩
          replace HY : Hid (OW w (boxO g7 [.slice none 0 0, .int .i64 0, .slice none 0 0, .int .i64 0, .int .i64 0, .int .i64 0, .slice none 0 0] :: boxO g8 [.slice none 0 0, .int .i64 0, .slice none 0 0, .int .i64 0, .int .i64 0, .int .i64 0, .slice none 0 0] :: (((boxO g4 [.slice r.A r.e.row.length r.c, .int .i64 r.e.fam, .slice r.B r.e.qual.length r.d, .int .i64 r.e.ts, .int .i64 r.e.seq, .int .i64 r.e.kind, .slice r.D r.e.val.length r.q] :: (osF ++ (boxO pg [.pointer (some ⟨tg, 0, none⟩), .slice A n c, .bool fr] :: boxO tg (tabC t fr) :: RR))) ++ entO A1 B1 D1 c1 d1 q1 ec) ++ entO A2 B2 D2 c2 d2 q2 ec)) y2) := Lib.hid (HY.out.app hz)
          replace HS := Lib.hid (HS.out.later hz.up)
          clear hz
          refine ⟨_, rfl, ?_⟩
          refine ⟨fun _ => HS.out, ?_⟩
          simp only [Act.put, List.setIfInBounds_toArray, List.set_cons_zero, List.set_cons_succ]
          refine lt_end 6 rfl (by kernel_rfl) rfl (by kernel_rfl) ?_
          refine wpo_put rfl HY.out 0 rfl rfl [.slice A1 ec.row.length c1, .int .i64 ec.fam, .slice B1 ec.qual.length d1, .int .i64 ec.ts, .int .i64 ec.seq, .int .i64 ec.kind, .slice D1 ec.val.length q1] rfl rfl (by kernel_rfl) (by simp [Value.oneCell']) ?_
          intro v1 hz _
          replace HY : Hid (OW w (boxO g7 [.slice A1 ec.row.length c1, .int .i64 ec.fam, .slice B1 ec.qual.length d1, .int .i64 ec.ts, .int .i64 ec.seq, .int .i64 ec.kind, .slice D1 ec.val.length q1] :: boxO g8 [.slice none 0 0, .int .i64 0, .slice none 0 0, .int .i64 0, .int .i64 0, .int .i64 0, .slice none 0 0] :: (((boxO g4 [.slice r.A r.e.row.length r.c, .int .i64 r.e.fam, .slice r.B r.e.qual.length r.d, .int .i64 r.e.ts, .int .i64 r.e.seq, .int .i64 r.e.kind, .slice r.D r.e.val.length r.q] :: (osF ++ (boxO pg [.pointer (some ⟨tg, 0, none⟩), .slice A n c, .bool fr] :: boxO tg (tabC t fr) :: RR))) ++ entO A1 B1 D1 c1 d1 q1 ec) ++ entO A2 B2 D2 c2 d2 q2 ec)) v1) := Lib.hid hz
          clear hz
          simp only [Act.put]
          refine lt_end 7 rfl (by kernel_rfl) rfl (by kernel_rfl) ?_
          refine wpo_put rfl HY.out 1 rfl rfl [.slice A2 ec.row.length c2, .int .i64 ec.fam, .slice B2 ec.qual.length d2, .int .i64 ec.ts, .int .i64 ec.seq, .int .i64 ec.kind, .slice D2 ec.val.length q2] rfl rfl (by kernel_rfl) (by simp [Value.oneCell']) ?_
          intro v2 hz _
          replace HY : Hid (OW w (boxO g7 [.slice A1 ec.row.length c1, .int .i64 ec.fam, .slice B1 ec.qual.length d1, .int .i64 ec.ts, .int .i64 ec.seq, .int .i64 ec.kind, .slice D1 ec.val.length q1] :: boxO g8 [.slice A2 ec.row.length c2, .int .i64 ec.fam, .slice B2 ec.qual.length d2, .int .i64 ec.ts, .int .i64 ec.seq, .int .i64 ec.kind, .slice D2 ec.val.length q2] :: (((boxO g4 [.slice r.A r.e.row.length r.c, .int .i64 r.e.fam, .slice r.B r.e.qual.length r.d, .int .i64 r.e.ts, .int .i64 r.e.seq, .int .i64 r.e.kind, .slice r.D r.e.val.length r.q] :: (osF ++ (boxO pg [.pointer (some ⟨tg, 0, none⟩), .slice A n c, .bool fr] :: boxO tg (tabC t fr) :: RR))) ++ entO A1 B1 D1 c1 d1 q1 ec) ++ entO A2 B2 D2 c2 d2 q2 ec)) v2) := Lib.hid hz
          clear hz
          simp only [Act.put]
          refine lt_done (by kernel_rfl) ?_
          go_wp2_with fail
          go_meet
          exact ⟨g7, g8, A1, B1, D1, A2, B2, D2, c1, d1, q1, c2, d2, q2, rfl, rfl, HY⟩
      · refine wpo_alloc rfl [.slice none 0 0, .int .i64 0, .slice none 0 0, .int .i64 0, .int .i64 0, .int .i64 0, .slice none 0 0] (.inl (by kernel_rfl)) HY.out ?_
        intro g8 ug8 hz hb
        replace HY : Hid (OW w (boxO g8 [.slice none 0 0, .int .i64 0, .slice none 0 0, .int .i64 0, .int .i64 0, .int .i64 0, .slice none 0 0] :: ((boxO g4 [.slice r.A r.e.row.length r.c, .int .i64 r.e.fam, .slice r.B r.e.qual.length r.d, .int .i64 r.e.ts, .int .i64 r.e.seq, .int .i64 r.e.kind, .slice r.D r.e.val.length r.q] :: (osF ++ (boxO pg [.pointer (some ⟨tg, 0, none⟩), .slice A n c, .bool fr] :: boxO tg (tabC t fr) :: RR))) ++ entO A1 B1 D1 c1 d1 q1 ec)) ug8) := Lib.hid (hz.perm (List.perm_append_comm))
        replace HS := Lib.hid (HS.out.later hb)
        clear hz hb
        refine ⟨fun _ => HS.out, ?_⟩
        simp only [Act.put, List.setIfInBounds_toArray, List.set_cons_zero, List.set_cons_succ]
        refine lt_two 3 4 rfl rfl (by kernel_rfl) rfl rfl ?_ ?_
        · refine wp_callL rfl ⟨_, Try.func16, by decide, by kernel_rfl⟩ [.agg #[.slice r.A r.e.row.length r.c, .int .i64 r.e.fam, .slice r.B r.e.qual.length r.d, .int .i64 r.e.ts, .int .i64 r.e.seq, .int .i64 r.e.kind, .slice r.D r.e.val.length r.q]] rfl ?_
          refine (entry8_cut r _ (HEN.out _ HS.out.up)).mono ?_
          rw [HEC.out]
          rintro e y2 ⟨A2, B2, D2, c2, d2, q2, rfl, hz⟩
          replace HY : Hid (OW w (boxO g8 [.slice none 0 0, .int .i64 0, .slice none 0 0, .int .i64 0, .int .i64 0, .int .i64 0, .slice none 0 0] :: (((boxO g4 [.slice r.A r.e.row.length r.c, .int .i64 r.e.fam, .slice r.B r.e.qual.length r.d, .int .i64 r.e.ts, .int .i64 r.e.seq, .int .i64 r.e.kind, .slice r.D r.e.val.length r.q] :: (osF ++ (boxO pg [.pointer (some ⟨tg, 0, none⟩), .slice A n c, .bool fr] :: boxO tg (tabC t fr) :: RR))) ++ entO A1 B1 D1 c1 d1 q1 ec) ++ entO A2 B2 D2 c2 d2 q2 ec)) y2) := Lib.hid (HY.out.app hz)
          replace HS := Lib.hid (HS.out.later hz.up)
          clear hz
          refine ⟨_, rfl, ?_⟩
          refine ⟨fun _ => HS.out, ?_⟩
          simp only [Act.put, List.setIfInBounds_toArray, List.set_cons_zero, List.set_cons_succ]
          refine lt_op 4 rfl (by kernel_rfl) rfl ?_
          refine wpo_alloc rfl [.slice none 0 0, .int .i64 0, .slice none 0 0, .int .i64 0, .int .i64 0, .int .i64 0, .slice none 0 0] (.inl (by kernel_rfl)) HY.out ?_
          intro g7 ug7 hz hb
          replace HY : Hid (OW w (boxO g7 [.slice none 0 0, .int .i64 0, .slice none 0 0, .int .i64 0, .int .i64 0, .int .i64 0, .slice none 0 0] :: boxO g8 [.slice none 0 0, .int .i64 0, .slice none 0 0, .int .i64 0, .int .i64 0, .int .i64 0, .slice none 0 0] :: (((boxO g4 [.slice r.A r.e.row.length r.c, .int .i64 r.e.fam, .slice r.B r.e.qual.length r.d, .int .i64 r.e.ts, .int .i64 r.e.seq, .int .i64 r.e.kind, .slice r.D r.e.val.length r.q] :: (osF ++ (boxO pg [.pointer (some ⟨tg, 0, none⟩), .slice A n c, .bool fr] :: boxO tg (tabC t fr) :: RR))) ++ entO A1 B1 D1 c1 d1 q1 ec) ++ entO A2 B2 D2 c2 d2 q2 ec)) ug7) := Lib.hid (hz.perm (List.perm_append_comm))
          replace HS := Lib.hid (HS.out.later hb)
          clear hz hb
          refine ⟨fun _ => HS.out, ?_⟩
          simp only [Act.put, List.setIfInBounds_toArray, List.set_cons_zero, List.set_cons_succ]
          refine lt_end 6 rfl (by kernel_rfl) rfl (by kernel_rfl) ?_
          refine wpo_put rfl HY.out 0 rfl rfl [.slice A1 ec.row.length c1, .int .i64 ec.fam, .slice B1 ec.qual.length d1, .int .i64 ec.ts, .int .i64 ec.seq, .int .i64 ec.kind, .slice D1 ec.val.length q1] rfl rfl (by kernel_rfl) (by simp [Value.oneCell']) ?_
          intro v1 hz _
          replace HY : Hid (OW w (boxO g7 [.slice A1 ec.row.length c1, .int .i64 ec.fam, .slice B1 ec.qual.length d1, .int .i64 ec.ts, .int .i64 ec.seq, .int .i64 ec.kind, .slice D1 ec.val.length q1] :: boxO g8 [.slice none 0 0, .int .i64 0, .slice none 0 0, .int .i64 0, .int .i64 0, .int .i64 0, .slice none 0 0] :: (((boxO g4 [.slice r.A r.e.row.length r.c, .int .i64 r.e.fam, .slice r.B r.e.qual.length r.d, .int .i64 r.e.ts, .int .i64 r.e.seq, .int .i64 r.e.kind, .slice r.D r.e.val.length r.q] :: (osF ++ (boxO pg [.pointer (some ⟨tg, 0, none⟩), .slice A n c, .bool fr] :: boxO tg (tabC t fr) :: RR))) ++ entO A1 B1 D1 c1 d1 q1 ec) ++ entO A2 B2 D2 c2 d2 q2 ec)) v1) := Lib.hid hz
          clear hz
          simp only [Act.put]
          refine lt_end 7 rfl (by kernel_rfl) rfl (by kernel_rfl) ?_
          refine wpo_put rfl HY.out 1 rfl rfl [.slice A2 ec.row.length c2, .int .i64 ec.fam, .slice B2 ec.qual.length d2, .int .i64 ec.ts, .int .i64 ec.seq, .int .i64 ec.kind, .slice D2 ec.val.length q2] rfl rfl (by kernel_rfl) (by simp [Value.oneCell']) ?_
          intro v2 hz _
          replace HY : Hid (OW w (boxO g7 [.slice A1 ec.row.length c1, .int .i64 ec.fam, .slice B1 ec.qual.length d1, .int .i64 ec.ts, .int .i64 ec.seq, .int .i64 ec.kind, .slice D1 ec.val.length q1] :: boxO g8 [.slice A2 ec.row.length c2, .int .i64 ec.fam, .slice B2 ec.qual.length d2, .int .i64 ec.ts, .int .i64 ec.seq, .int .i64 ec.kind, .slice D2 ec.val.length q2] :: (((boxO g4 [.slice r.A r.e.row.length r.c, .int .i64 r.e.fam, .slice r.B r.e.qual.length r.d, .int .i64 r.e.ts, .int .i64 r.e.seq, .int .i64 r.e.kind, .slice r.D r.e.val.length r.q] :: (osF ++ (boxO pg [.pointer (some ⟨tg, 0, none⟩), .slice A n c, .bool fr] :: boxO tg (tabC t fr) :: RR))) ++ entO A1 B1 D1 c1 d1 q1 ec) ++ entO A2 B2 D2 c2 d2 q2 ec)) v2) := Lib.hid hz
          clear hz
          simp only [Act.put]
          refine lt_done (by kernel_rfl) ?_
          go_wp2_with fail
          go_meet
          exact ⟨g7, g8, A1, B1, D1, A2, B2, D2, c1, d1, q1, c2, d2, q2, rfl, rfl, HY⟩
        · refine wpo_alloc rfl [.slice none 0 0, .int .i64 0, .slice none 0 0, .int .i64 0, .int .i64 0, .int .i64 0, .slice none 0 0] (.inl (by kernel_rfl)) HY.out ?_
          intro g7 ug7 hz hb
          replace HY : Hid (OW w (boxO g7 [.slice none 0 0, .int .i64 0, .slice none 0 0, .int .i64 0, .int .i64 0, .int .i64 0, .slice none 0 0] :: boxO g8 [.slice none 0 0, .int .i64 0, .slice none 0 0, .int .i64 0, .int .i64 0, .int .i64 0, .slice none 0 0] :: ((boxO g4 [.slice r.A r.e.row.length r.c, .int .i64 r.e.fam, .slice r.B r.e.qual.length r.d, .int .i64 r.e.ts, .int .i64 r.e.seq, .int .i64 r.e.kind, .slice r.D r.e.val.length r.q] :: (osF ++ (boxO pg [.pointer (some ⟨tg, 0, none⟩), .slice A n c, .bool fr] :: boxO tg (tabC t fr) :: RR))) ++ entO A1 B1 D1 c1 d1 q1 ec)) ug7) := Lib.hid (hz.perm (List.perm_append_comm))
          replace HS := Lib.hid (HS.out.later hb)
          clear hz hb
          refine ⟨fun _ => HS.out, ?_⟩
          simp only [Act.put, List.setIfInBounds_toArray, List.set_cons_zero, List.set_cons_succ]
          refine lt_op 3 rfl (by kernel_rfl) rfl ?_
          refine wp_callL rfl ⟨_, Try.func16, by decide, by kernel_rfl⟩ [.agg #[.slice r.A r.e.row.length r.c, .int .i64 r.e.fam, .slice r.B r.e.qual.length r.d, .int .i64 r.e.ts, .int .i64 r.e.seq, .int .i64 r.e.kind, .slice r.D r.e.val.length r.q]] rfl ?_
          refine (entry8_cut r _ (HEN.out _ HS.out.up)).mono ?_
          rw [HEC.out]
          rintro e y2 ⟨A2, B2, D2, c2, d2, q2, rfl, hz⟩
          replace HY : Hid (OW w (boxO g7 [.slice none 0 0, .int .i64 0, .slice none 0 0, .int .i64 0, .int .i64 0, .int .i64 0, .slice none 0 0] :: boxO g8 [.slice none 0 0, .int .i64 0, .slice none 0 0, .int .i64 0, .int .i64 0, .int .i64 0, .slice none 0 0] :: (((boxO g4 [.slice r.A r.e.row.length r.c, .int .i64 r.e.fam, .slice r.B r.e.qual.length r.d, .int .i64 r.e.ts, .int .i64 r.e.seq, .int .i64 r.e.kind, .slice r.D r.e.val.length r.q] :: (osF ++ (boxO pg [.pointer (some ⟨tg, 0, none⟩), .slice A n c, .bool fr] :: boxO tg (tabC t fr) :: RR))) ++ entO A1 B1 D1 c1 d1 q1 ec) ++ entO A2 B2 D2 c2 d2 q2 ec)) y2) := Lib.hid (HY.out.app hz)
          replace HS := Lib.hid (HS.out.later hz.up)
          clear hz
          refine ⟨_, rfl, ?_⟩
          refine ⟨fun _ => HS.out, ?_⟩
          simp only [Act.put, List.setIfInBounds_toArray, List.set_cons_zero, List.set_cons_succ]
          refine lt_end 6 rfl (by kernel_rfl) rfl (by kernel_rfl) ?_
          refine wpo_put rfl HY.out 0 rfl rfl [.slice A1 ec.row.length c1, .int .i64 ec.fam, .slice B1 ec.qual.length d1, .int .i64 ec.ts, .int .i64 ec.seq, .int .i64 ec.kind, .slice D1 ec.val.length q1] rfl rfl (by kernel_rfl) (by simp [Value.oneCell']) ?_
          intro v1 hz _
          replace HY : Hid (OW w (boxO g7 [.slice A1 ec.row.length c1, .int .i64 ec.fam, .slice B1 ec.qual.length d1, .int .i64 ec.ts, .int .i64 ec.seq, .int .i64 ec.kind, .slice D1 ec.val.length q1] :: boxO g8 [.slice none 0 0, .int .i64 0, .slice none 0 0, .int .i64 0, .int .i64 0, .int .i64 0, .slice none 0 0] :: (((boxO g4 [.slice r.A r.e.row.length r.c, .int .i64 r.e.fam, .slice r.B r.e.qual.length r.d, .int .i64 r.e.ts, .int .i64 r.e.seq, .int .i64 r.e.kind, .slice r.D r.e.val.length r.q] :: (osF ++ (boxO pg [.pointer (some ⟨tg, 0, none⟩), .slice A n c, .bool fr] :: boxO tg (tabC t fr) :: RR))) ++ entO A1 B1 D1 c1 d1 q1 ec) ++ entO A2 B2 D2 c2 d2 q2 ec)) v1) := Lib.hid hz
          clear hz
          simp only [Act.put]
          refine lt_end 7 rfl (by kernel_rfl) rfl (by kernel_rfl) ?_
          refine wpo_put rfl HY.out 1 rfl rfl [.slice A2 ec.row.length c2, .int .i64 ec.fam, .slice B2 ec.qual.length d2, .int .i64 ec.ts, .int .i64 ec.seq, .int .i64 ec.kind, .slice D2 ec.val.length q2] rfl rfl (by kernel_rfl) (by simp [Value.oneCell']) ?_
          intro v2 hz _
          replace HY : Hid (OW w (boxO g7 [.slice A1 ec.row.length c1, .int .i64 ec.fam, .slice B1 ec.qual.length d1, .int .i64 ec.ts, .int .i64 ec.seq, .int .i64 ec.kind, .slice D1 ec.val.length q1] :: boxO g8 [.slice A2 ec.row.length c2, .int .i64 ec.fam, .slice B2 ec.qual.length d2, .int .i64 ec.ts, .int .i64 ec.seq, .int .i64 ec.kind, .slice D2 ec.val.length q2] :: (((boxO g4 [.slice r.A r.e.row.length r.c, .int .i64 r.e.fam, .slice r.B r.e.qual.length r.d, .int .i64 r.e.ts, .int .i64 r.e.seq, .int .i64 r.e.kind, .slice r.D r.e.val.length r.q] :: (osF ++ (boxO pg [.pointer (some ⟨tg, 0, none⟩), .slice A n c, .bool fr] :: boxO tg (tabC t fr) :: RR))) ++ entO A1 B1 D1 c1 d1 q1 ec) ++ entO A2 B2 D2 c2 d2 q2 ec)) v2) := Lib.hid hz
          clear hz
          simp only [Act.put]
          refine lt_done (by kernel_rfl) ?_
          go_wp2_with fail
          go_meet
          exact ⟨g7, g8, A1, B1, D1, A2, B2, D2, c1, d1, q1, c2, d2, q2, rfl, rfl, HY⟩
    · refine wpo_alloc rfl [.slice none 0 0, .int .i64 0, .slice none 0 0, .int .i64 0, .int .i64 0, .int .i64 0, .slice none 0 0] (.inl (by kernel_rfl)) HY.out ?_
      intro g7 ug7 hz hb
      replace HY : Hid (OW w (boxO g7 [.slice none 0 0, .int .i64 0, .slice none 0 0, .int .i64 0, .int .i64 0, .int .i64 0, .slice none 0 0] :: (boxO g4 [.slice r.A r.e.row.length r.c, .int .i64 r.e.fam, .slice r.B r.e.qual.length r.d, .int .i64 r.e.ts, .int .i64 r.e.seq, .int .i64 r.e.kind, .slice r.D r.e.val.length r.q] :: (osF ++ (boxO pg [.pointer (some ⟨tg, 0, none⟩), .slice A n c, .bool fr] :: boxO tg (tabC t fr) :: RR)))) ug7) := Lib.hid (hz.perm (List.perm_append_comm))
      replace HS := Lib.hid (HS.out.later hb)
      clear hz hb
      refine ⟨fun _ => HS.out, ?_⟩
      simp only [Act.put, List.setIfInBounds_toArray, List.set_cons_zero, List.set_cons_succ]
      refine lt_two 1 5 rfl rfl (by kernel_rfl) rfl rfl ?_ ?_
      · refine wp_callL rfl ⟨_, Try.func16, by decide, by kernel_rfl⟩ [.agg #[.slice r.A r.e.row.length r.c, .int .i64 r.e.fam, .slice r.B r.e.qual.length r.d, .int .i64 r.e.ts, .int .i64 r.e.seq, .int .i64 r.e.kind, .slice r.D r.e.val.length r.q]] rfl ?_
        refine (entry8_cut r _ (HEN.out _ HS.out.up)).mono ?_
        rw [HEC.out]
        rintro e y1 ⟨A1, B1, D1, c1, d1, q1, rfl, hz⟩
        replace HY : Hid (OW w (boxO g7 [.slice none 0 0, .int .i64 0, .slice none 0 0, .int .i64 0, .int .i64 0, .int .i64 0, .slice none 0 0] :: ((boxO g4 [.slice r.A r.e.row.length r.c, .int .i64 r.e.fam, .slice r.B r.e.qual.length r.d, .int .i64 r.e.ts, .int .i64 r.e.seq, .int .i64 r.e.kind, .slice r.D r.e.val.length r.q] :: (osF ++ (boxO pg [.pointer (some ⟨tg, 0, none⟩), .slice A n c, .bool fr] :: boxO tg (tabC t fr) :: RR))) ++ entO A1 B1 D1 c1 d1 q1 ec)) y1) := Lib.hid (HY.out.app hz)
        replace HS := Lib.hid (HS.out.later hz.up)
        clear hz
        refine ⟨_, rfl, ?_⟩
        refine ⟨fun _ => HS.out, ?_⟩
        simp only [Act.put, List.setIfInBounds_toArray, List.set_cons_zero, List.set_cons_succ]
        refine lt_two 3 5 rfl rfl (by kernel_rfl) rfl rfl ?_ ?_
        · refine wp_callL rfl ⟨_, Try.func16, by decide, by kernel_rfl⟩ [.agg #[.slice r.A r.e.row.length r.c, .int .i64 r.e.fam, .slice r.B r.e.qual.length r.d, .int .i64 r.e.ts, .int .i64 r.e.seq, .int .i64 r.e.kind, .slice r.D r.e.val.length r.q]] rfl ?_
          refine (entry8_cut r _ (HEN.out _ HS.out.up)).mono ?_
          rw [HEC.out]
          rintro e y2 ⟨A2, B2, D2, c2, d2, q2, rfl, hz⟩
          replace HY : Hid (OW w (boxO g7 [.slice none 0 0, .int .i64 0, .slice none 0 0, .int .i64 0, .int .i64 0, .int .i64 0, .slice none 0 0] :: (((boxO g4 [.slice r.A r.e.row.length r.c, .int .i64 r.e.fam, .slice r.B r.e.qual.length r.d, .int .i64 r.e.ts, .int .i64 r.e.seq, .int .i64 r.e.kind, .slice r.D r.e.val.length r.q] :: (osF ++ (boxO pg [.pointer (some ⟨tg, 0, none⟩), .slice A n c, .bool fr] :: boxO tg (tabC t fr) :: RR))) ++ entO A1 B1 D1 c1 d1 q1 ec) ++ entO A2 B2 D2 c2 d2 q2 ec)) y2) := Lib.hid (HY.out.app hz)
          replace HS := Lib.hid (HS.out.later hz.up)
          clear hz
          refine ⟨_, rfl, ?_⟩
          refine ⟨fun _ => HS.out, ?_⟩
          simp only [Act.put, List.setIfInBounds_toArray, List.set_cons_zero, List.set_cons_succ]
          refine lt_op 5 rfl (by kernel_rfl) rfl ?_
          refine wpo_alloc rfl [.slice none 0 0, .int .i64 0, .slice none 0 0, .int .i64 0, .int .i64 0, .int .i64 0, .slice none 0 0] (.inl (by kernel_rfl)) HY.out ?_
          intro g8 ug8 hz hb
          replace HY : Hid (OW w (boxO g7 [.slice none 0 0, .int .i64 0, .slice none 0 0, .int .i64 0, .int .i64 0, .int .i64 0, .slice none 0 0] :: boxO g8 [.slice none 0 0, .int .i64 0, .slice none 0 0, .int .i64 0, .int .i64 0, .int .i64 0, .slice none 0 0] :: (((boxO g4 [.slice r.A r.e.row.length r.c, .int .i64 r.e.fam, .slice r.B r.e.qual.length r.d, .int .i64 r.e.ts, .int .i64 r.e.seq, .int .i64 r.e.kind, .slice r.D r.e.val.length r.q] :: (osF ++ (boxO pg [.pointer (some ⟨tg, 0, none⟩), .slice A n c, .bool fr] :: boxO tg (tabC t fr) :: RR))) ++ entO A1 B1 D1 c1 d1 q1 ec) ++ entO A2 B2 D2 c2 d2 q2 ec)) ug8) := Lib.hid (hz.perm (List.perm_append_comm.trans (List.Perm.swap _ _ _)))
          replace HS := Lib.hid (HS.out.later hb)
          clear hz hb
          refine ⟨fun _ => HS.out, ?_⟩
          simp only [Act.put, List.setIfInBounds_toArray, List.set_cons_zero, List.set_cons_succ]
          refine lt_end 6 rfl (by kernel_rfl) rfl (by kernel_rfl) ?_
          refine wpo_put rfl HY.out 0 rfl rfl [.slice A1 ec.row.length c1, .int .i64 ec.fam, .slice B1 ec.qual.length d1, .int .i64 ec.ts, .int .i64 ec.seq, .int .i64 ec.kind, .slice D1 ec.val.length q1] rfl rfl (by kernel_rfl) (by simp [Value.oneCell']) ?_
          intro v1 hz _
          replace HY : Hid (OW w (boxO g7 [.slice A1 ec.row.length c1, .int .i64 ec.fam, .slice B1 ec.qual.length d1, .int .i64 ec.ts, .int .i64 ec.seq, .int .i64 ec.kind, .slice D1 ec.val.length q1] :: boxO g8 [.slice none 0 0, .int .i64 0, .slice none 0 0, .int .i64 0, .int .i64 0, .int .i64 0, .slice none 0 0] :: (((boxO g4 [.slice r.A r.e.row.length r.c, .int .i64 r.e.fam, .slice r.B r.e.qual.length r.d, .int .i64 r.e.ts, .int .i64 r.e.seq, .int .i64 r.e.kind, .slice r.D r.e.val.length r.q] :: (osF ++ (boxO pg [.pointer (some ⟨tg, 0, none⟩), .slice A n c, .bool fr] :: boxO tg (tabC t fr) :: RR))) ++ entO A1 B1 D1 c1 d1 q1 ec) ++ entO A2 B2 D2 c2 d2 q2 ec)) v1) := Lib.hid hz
          clear hz
          simp only [Act.put]
          refine lt_end 7 rfl (by kernel_rfl) rfl (by kernel_rfl) ?_
          refine wpo_put rfl HY.out 1 rfl rfl [.slice A2 ec.row.length c2, .int .i64 ec.fam, .slice B2 ec.qual.length d2, .int .i64 ec.ts, .int .i64 ec.seq, .int .i64 ec.kind, .slice D2 ec.val.length q2] rfl rfl (by kernel_rfl) (by simp [Value.oneCell']) ?_
          intro v2 hz _
          replace HY : Hid (OW w (boxO g7 [.slice A1 ec.row.length c1, .int .i64 ec.fam, .slice B1 ec.qual.length d1, .int .i64 ec.ts, .int .i64 ec.seq, .int .i64 ec.kind, .slice D1 ec.val.length q1] :: boxO g8 [.slice A2 ec.row.length c2, .int .i64 ec.fam, .slice B2 ec.qual.length d2, .int .i64 ec.ts, .int .i64 ec.seq, .int .i64 ec.kind, .slice D2 ec.val.length q2] :: (((boxO g4 [.slice r.A r.e.row.length r.c, .int .i64 r.e.fam, .slice r.B r.e.qual.length r.d, .int .i64 r.e.ts, .int .i64 r.e.seq, .int .i64 r.e.kind, .slice r.D r.e.val.length r.q] :: (osF ++ (boxO pg [.pointer (some ⟨tg, 0, none⟩), .slice A n c, .bool fr] :: boxO tg (tabC t fr) :: RR))) ++ entO A1 B1 D1 c1 d1 q1 ec) ++ entO A2 B2 D2 c2 d2 q2 ec)) v2) := Lib.hid hz
          clear hz
          simp only [Act.put]
          refine lt_done (by kernel_rfl) ?_
          go_wp2_with fail
          go_meet
          exact ⟨g7, g8, A1, B1, D1, A2, B2, D2, c1, d1, q1, c2, d2, q2, rfl, rfl, HY⟩
        · refine wpo_alloc rfl [.slice none 0 0, .int .i64 0, .slice none 0 0, .int .i64 0, .int .i64 0, .int .i64 0, .slice none 0 0] (.inl (by kernel_rfl)) HY.out ?_
          intro g8 ug8 hz hb
          replace HY : Hid (OW w (boxO g7 [.slice none 0 0, .int .i64 0, .slice none 0 0, .int .i64 0, .int .i64 0, .int .i64 0, .slice none 0 0] :: boxO g8 [.slice none 0 0, .int .i64 0, .slice none 0 0, .int .i64 0, .int .i64 0, .int .i64 0, .slice none 0 0] :: ((boxO g4 [.slice r.A r.e.row.length r.c, .int .i64 r.e.fam, .slice r.B r.e.qual.length r.d, .int .i64 r.e.ts, .int .i64 r.e.seq, .int .i64 r.e.kind, .slice r.D r.e.val.length r.q] :: (osF ++ (boxO pg [.pointer (some ⟨tg, 0, none⟩), .slice A n c, .bool fr] :: boxO tg (tabC t fr) :: RR))) ++ entO A1 B1 D1 c1 d1 q1 ec)) ug8) := Lib.hid (hz.perm (List.perm_append_comm.trans (List.Perm.swap _ _ _)))
          replace HS := Lib.hid (HS.out.later hb)
          clear hz hb
          refine ⟨fun _ => HS.out, ?_⟩
          simp only [Act.put, List.setIfInBounds_toArray, List.set_cons_zero, List.set_cons_succ]
          refine lt_op 3 rfl (by kernel_rfl) rfl ?_
          refine wp_callL rfl ⟨_, Try.func16, by decide, by kernel_rfl⟩ [.agg #[.slice r.A r.e.row.length r.c, .int .i64 r.e.fam, .slice r.B r.e.qual.length r.d, .int .i64 r.e.ts, .int .i64 r.e.seq, .int .i64 r.e.kind, .slice r.D r.e.val.length r.q]] rfl ?_
          refine (entry8_cut r _ (HEN.out _ HS.out.up)).mono ?_
          rw [HEC.out]
          rintro e y2 ⟨A2, B2, D2, c2, d2, q2, rfl, hz⟩
          replace HY : Hid (OW w (boxO g7 [.slice none 0 0, .int .i64 0, .slice none 0 0, .int .i64 0, .int .i64 0, .int .i64 0, .slice none 0 0] :: boxO g8 [.slice none 0 0, .int .i64 0, .slice none 0 0, .int .i64 0, .int .i64 0, .int .i64 0, .slice none 0 0] :: (((boxO g4 [.slice r.A r.e.row.length r.c, .int .i64 r.e.fam, .slice r.B r.e.qual.length r.d, .int .i64 r.e.ts, .int .i64 r.e.seq, .int .i64 r.e.kind, .slice r.D r.e.val.length r.q] :: (osF ++ (boxO pg [.pointer (some ⟨tg, 0, none⟩), .slice A n c, .bool fr] :: boxO tg (tabC t fr) :: RR))) ++ entO A1 B1 D1 c1 d1 q1 ec) ++ entO A2 B2 D2 c2 d2 q2 ec)) y2) := Lib.hid (HY.out.app hz)
          replace HS := Lib.hid (HS.out.later hz.up)
          clear hz
          refine ⟨_, rfl, ?_⟩
          refine ⟨fun _ => HS.out, ?_⟩
          simp only [Act.put, List.setIfInBounds_toArray, List.set_cons_zero, List.set_cons_succ]
          refine lt_end 6 rfl (by kernel_rfl) rfl (by kernel_rfl) ?_
          refine wpo_put rfl HY.out 0 rfl rfl [.slice A1 ec.row.length c1, .int .i64 ec.fam, .slice B1 ec.qual.length d1, .int .i64 ec.ts, .int .i64 ec.seq, .int .i64 ec.kind, .slice D1 ec.val.length q1] rfl rfl (by kernel_rfl) (by simp [Value.oneCell']) ?_
          intro v1 hz _
          replace HY : Hid (OW w (boxO g7 [.slice A1 ec.row.length c1, .int .i64 ec.fam, .slice B1 ec.qual.length d1, .int .i64 ec.ts, .int .i64 ec.seq, .int .i64 ec.kind, .slice D1 ec.val.length q1] :: boxO g8 [.slice none 0 0, .int .i64 0, .slice none 0 0, .int .i64 0, .int .i64 0, .int .i64 0, .slice none 0 0] :: (((boxO g4 [.slice r.A r.e.row.length r.c, .int .i64 r.e.fam, .slice r.B r.e.qual.length r.d, .int .i64 r.e.ts, .int .i64 r.e.seq, .int .i64 r.e.kind, .slice r.D r.e.val.length r.q] :: (osF ++ (boxO pg [.pointer (some ⟨tg, 0, none⟩), .slice A n c, .bool fr] :: boxO tg (tabC t fr) :: RR))) ++ entO A1 B1 D1 c1 d1 q1 ec) ++ entO A2 B2 D2 c2 d2 q2 ec)) v1) := Lib.hid hz
          clear hz
          simp only [Act.put]
          refine lt_end 7 rfl (by kernel_rfl) rfl (by kernel_rfl) ?_
          refine wpo_put rfl HY.out 1 rfl rfl [.slice A2 ec.row.length c2, .int .i64 ec.fam, .slice B2 ec.qual.length d2, .int .i64 ec.ts, .int .i64 ec.seq, .int .i64 ec.kind, .slice D2 ec.val.length q2] rfl rfl (by kernel_rfl) (by simp [Value.oneCell']) ?_
          intro v2 hz _
          replace HY : Hid (OW w (boxO g7 [.slice A1 ec.row.length c1, .int .i64 ec.fam, .slice B1 ec.qual.length d1, .int .i64 ec.ts, .int .i64 ec.seq, .int .i64 ec.kind, .slice D1 ec.val.length q1] :: boxO g8 [.slice A2 ec.row.length c2, .int .i64 ec.fam, .slice B2 ec.qual.length d2, .int .i64 ec.ts, .int .i64 ec.seq, .int .i64 ec.kind, .slice D2 ec.val.length q2] :: (((boxO g4 [.slice r.A r.e.row.length r.c, .int .i64 r.e.fam, .slice r.B r.e.qual.length r.d, .int .i64 r.e.ts, .int .i64 r.e.seq, .int .i64 r.e.kind, .slice r.D r.e.val.length r.q] :: (osF ++ (boxO pg [.pointer (some ⟨tg, 0, none⟩), .slice A n c, .bool fr] :: boxO tg (tabC t fr) :: RR))) ++ entO A1 B1 D1 c1 d1 q1 ec) ++ entO A2 B2 D2 c2 d2 q2 ec)) v2) := Lib.hid hz
          clear hz
          simp only [Act.put]
          refine lt_done (by kernel_rfl) ?_
          go_wp2_with fail
          go_meet
          exact ⟨g7, g8, A1, B1, D1, A2, B2, D2, c1, d1, q1, c2, d2, q2, rfl, rfl, HY⟩
      · refine wpo_alloc rfl [.slice none 0 0, .int .i64 0, .slice none 0 0, .int .i64 0, .int .i64 0, .int .i64 0, .slice none 0 0] (.inl (by kernel_rfl)) HY.out ?_
        intro g8 ug8 hz hb
        replace HY : Hid (OW w (boxO g7 [.slice none 0 0, .int .i64 0, .slice none 0 0, .int .i64 0, .int .i64 0, .int .i64 0, .slice none 0 0] :: boxO g8 [.slice none 0 0, .int .i64 0, .slice none 0 0, .int .i64 0, .int .i64 0, .int .i64 0, .slice none 0 0] :: (boxO g4 [.slice r.A r.e.row.length r.c, .int .i64 r.e.fam, .slice r.B r.e.qual.length r.d, .int .i64 r.e.ts, .int .i64 r.e.seq, .int .i64 r.e.kind, .slice r.D r.e.val.length r.q] :: (osF ++ (boxO pg [.pointer (some ⟨tg, 0, none⟩), .slice A n c, .bool fr] :: boxO tg (tabC t fr) :: RR)))) ug8) := Lib.hid (hz.perm (List.perm_append_comm.trans (List.Perm.swap _ _ _)))
        replace HS := Lib.hid (HS.out.later hb)
        clear hz hb
        refine ⟨fun _ => HS.out, ?_⟩
        simp only [Act.put, List.setIfInBounds_toArray, List.set_cons_zero, List.set_cons_succ]
        refine lt_op 1 rfl (by kernel_rfl) rfl ?_
        refine wp_callL rfl ⟨_, Try.func16, by decide, by kernel_rfl⟩ [.agg #[.slice r.A r.e.row.length r.c, .int .i64 r.e.fam, .slice r.B r.e.qual.length r.d, .int .i64 r.e.ts, .int .i64 r.e.seq, .int .i64 r.e.kind, .slice r.D r.e.val.length r.q]] rfl ?_
        refine (entry8_cut r _ (HEN.out _ HS.out.up)).mono ?_
        rw [HEC.out]
        rintro e y1 ⟨A1, B1, D1, c1, d1, q1, rfl, hz⟩
        replace HY : Hid (OW w (boxO g7 [.slice none 0 0, .int .i64 0, .slice none 0 0, .int .i64 0, .int .i64 0, .int .i64 0, .slice none 0 0] :: boxO g8 [.slice none 0 0, .int .i64 0, .slice none 0 0, .int .i64 0, .int .i64 0, .int .i64 0, .slice none 0 0] :: ((boxO g4 [.slice r.A r.e.row.length r.c, .int .i64 r.e.fam, .slice r.B r.e.qual.length r.d, .int .i64 r.e.ts, .int .i64 r.e.seq, .int .i64 r.e.kind, .slice r.D r.e.val.length r.q] :: (osF ++ (boxO pg [.pointer (some ⟨tg, 0, none⟩), .slice A n c, .bool fr] :: boxO tg (tabC t fr) :: RR))) ++ entO A1 B1 D1 c1 d1 q1 ec)) y1) := Lib.hid (HY.out.app hz)
        replace HS := Lib.hid (HS.out.later hz.up)
        clear hz
        refine ⟨_, rfl, ?_⟩
        refine ⟨fun _ => HS.out, ?_⟩
        simp only [Act.put, List.setIfInBounds_toArray, List.set_cons_zero, List.set_cons_succ]
        refine lt_op 3 rfl (by kernel_rfl) rfl ?_
        refine wp_callL rfl ⟨_, Try.func16, by decide, by kernel_rfl⟩ [.agg #[.slice r.A r.e.row.length r.c, .int .i64 r.e.fam, .slice r.B r.e.qual.length r.d, .int .i64 r.e.ts, .int .i64 r.e.seq, .int .i64 r.e.kind, .slice r.D r.e.val.length r.q]] rfl ?_
        refine (entry8_cut r _ (HEN.out _ HS.out.up)).mono ?_
        rw [HEC.out]
        rintro e y2 ⟨A2, B2, D2, c2, d2, q2, rfl, hz⟩
        replace HY : Hid (OW w (boxO g7 [.slice none 0 0, .int .i64 0, .slice none 0 0, .int .i64 0, .int .i64 0, .int .i64 0, .slice none 0 0] :: boxO g8 [.slice none 0 0, .int .i64 0, .slice none 0 0, .int .i64 0, .int .i64 0, .int .i64 0, .slice none 0 0] :: (((boxO g4 [.slice r.A r.e.row.length r.c, .int .i64 r.e.fam, .slice r.B r.e.qual.length r.d, .int .i64 r.e.ts, .int .i64 r.e.seq, .int .i64 r.e.kind, .slice r.D r.e.val.length r.q] :: (osF ++ (boxO pg [.pointer (some ⟨tg, 0, none⟩), .slice A n c, .bool fr] :: boxO tg (tabC t fr) :: RR))) ++ entO A1 B1 D1 c1 d1 q1 ec) ++ entO A2 B2 D2 c2 d2 q2 ec)) y2) := Lib.hid (HY.out.app hz)
        replace HS := Lib.hid (HS.out.later hz.up)
        clear hz
        refine ⟨_, rfl, ?_⟩
        refine ⟨fun _ => HS.out, ?_⟩
        simp only [Act.put, List.setIfInBounds_toArray, List.set_cons_zero, List.set_cons_succ]
        refine lt_end 6 rfl (by kernel_rfl) rfl (by kernel_rfl) ?_
        refine wpo_put rfl HY.out 0 rfl rfl [.slice A1 ec.row.length c1, .int .i64 ec.fam, .slice B1 ec.qual.length d1, .int .i64 ec.ts, .int .i64 ec.seq, .int .i64 ec.kind, .slice D1 ec.val.length q1] rfl rfl (by kernel_rfl) (by simp [Value.oneCell']) ?_
        intro v1 hz _
        replace HY : Hid (OW w (boxO g7 [.slice A1 ec.row.length c1, .int .i64 ec.fam, .slice B1 ec.qual.length d1, .int .i64 ec.ts, .int .i64 ec.seq, .int .i64 ec.kind, .slice D1 ec.val.length q1] :: boxO g8 [.slice none 0 0, .int .i64 0, .slice none 0 0, .int .i64 0, .int .i64 0, .int .i64 0, .slice none 0 0] :: (((boxO g4 [.slice r.A r.e.row.length r.c, .int .i64 r.e.fam, .slice r.B r.e.qual.length r.d, .int .i64 r.e.ts, .int .i64 r.e.seq, .int .i64 r.e.kind, .slice r.D r.e.val.length r.q] :: (osF ++ (boxO pg [.pointer (some ⟨tg, 0, none⟩), .slice A n c, .bool fr] :: boxO tg (tabC t fr) :: RR))) ++ entO A1 B1 D1 c1 d1 q1 ec) ++ entO A2 B2 D2 c2 d2 q2 ec)) v1) := Lib.hid hz
        clear hz
        simp only [Act.put]
        refine lt_end 7 rfl (by kernel_rfl) rfl (by kernel_rfl) ?_
        refine wpo_put rfl HY.out 1 rfl rfl [.slice A2 ec.row.length c2, .int .i64 ec.fam, .slice B2 ec.qual.length d2, .int .i64 ec.ts, .int .i64 ec.seq, .int .i64 ec.kind, .slice D2 ec.val.length q2] rfl rfl (by kernel_rfl) (by simp [Value.oneCell']) ?_
        intro v2 hz _
        replace HY : Hid (OW w (boxO g7 [.slice A1 ec.row.length c1, .int .i64 ec.fam, .slice B1 ec.qual.length d1, .int .i64 ec.ts, .int .i64 ec.seq, .int .i64 ec.kind, .slice D1 ec.val.length q1] :: boxO g8 [.slice A2 ec.row.length c2, .int .i64 ec.fam, .slice B2 ec.qual.length d2, .int .i64 ec.ts, .int .i64 ec.seq, .int .i64 ec.kind, .slice D2 ec.val.length q2] :: (((boxO g4 [.slice r.A r.e.row.length r.c, .int .i64 r.e.fam, .slice r.B r.e.qual.length r.d, .int .i64 r.e.ts, .int .i64 r.e.seq, .int .i64 r.e.kind, .slice r.D r.e.val.length r.q] :: (osF ++ (boxO pg [.pointer (some ⟨tg, 0, none⟩), .slice A n c, .bool fr] :: boxO tg (tabC t fr) :: RR))) ++ entO A1 B1 D1 c1 d1 q1 ec) ++ entO A2 B2 D2 c2 d2 q2 ec)) v2) := Lib.hid hz
        clear hz
        simp only [Act.put]
        refine lt_done (by kernel_rfl) ?_
        go_wp2_with fail
        go_meet
        exact ⟨g7, g8, A1, B1, D1, A2, B2, D2, c1, d1, q1, c2, d2, q2, rfl, rfl, HY⟩
    · refine wpo_alloc rfl [.slice none 0 0, .int .i64 0, .slice none 0 0, .int .i64 0, .int .i64 0, .int .i64 0, .slice none 0 0] (.inl (by kernel_rfl)) HY.out ?_
      intro g8 ug8 hz hb
      replace HY : Hid (OW w (boxO g8 [.slice none 0 0, .int .i64 0, .slice none 0 0, .int .i64 0, .int .i64 0, .int .i64 0, .slice none 0 0] :: (boxO g4 [.slice r.A r.e.row.length r.c, .int .i64 r.e.fam, .slice r.B r.e.qual.length r.d, .int .i64 r.e.ts, .int .i64 r.e.seq, .int .i64 r.e.kind, .slice r.D r.e.val.length r.q] :: (osF ++ (boxO pg [.pointer (some ⟨tg, 0, none⟩), .slice A n c, .bool fr] :: boxO tg (tabC t fr) :: RR)))) ug8) := Lib.hid (hz.perm (List.perm_append_comm))
      replace HS := Lib.hid (HS.out.later hb)
      clear hz hb
      refine ⟨fun _ => HS.out, ?_⟩
      simp only [Act.put, List.setIfInBounds_toArray, List.set_cons_zero, List.set_cons_succ]
      refine lt_two 1 4 rfl rfl (by kernel_rfl) rfl rfl ?_ ?_
      · refine wp_callL rfl ⟨_, Try.func16, by decide, by kernel_rfl⟩ [.agg #[.slice r.A r.e.row.length r.c, .int .i64 r.e.fam, .slice r.B r.e.qual.length r.d, .int .i64 r.e.ts, .int .i64 r.e.seq, .int .i64 r.e.kind, .slice r.D r.e.val.length r.q]] rfl ?_
        refine (entry8_cut r _ (HEN.out _ HS.out.up)).mono ?_
        rw [HEC.out]
        rintro e y1 ⟨A1, B1, D1, c1, d1, q1, rfl, hz⟩
        replace HY : Hid (OW w (boxO g8 [.slice none 0 0, .int .i64 0, .slice none 0 0, .int .i64 0, .int .i64 0, .int .i64 0, .slice none 0 0] :: ((boxO g4 [.slice r.A r.e.row.length r.c, .int .i64 r.e.fam, .slice r.B r.e.qual.length r.d, .int .i64 r.e.ts, .int .i64 r.e.seq, .int .i64 r.e.kind, .slice r.D r.e.val.length r.q] :: (osF ++ (boxO pg [.pointer (some ⟨tg, 0, none⟩), .slice A n c, .bool fr] :: boxO tg (tabC t fr) :: RR))) ++ entO A1 B1 D1 c1 d1 q1 ec)) y1) := Lib.hid (HY.out.app hz)
        replace HS := Lib.hid (HS.out.later hz.up)
        clear hz
        refine ⟨_, rfl, ?_⟩
        refine ⟨fun _ => HS.out, ?_⟩
        simp only [Act.put, List.setIfInBounds_toArray, List.set_cons_zero, List.set_cons_succ]
        refine lt_two 3 4 rfl rfl (by kernel_rfl) rfl rfl ?_ ?_
        · refine wp_callL rfl ⟨_, Try.func16, by decide, by kernel_rfl⟩ [.agg #[.slice r.A r.e.row.length r.c, .int .i64 r.e.fam, .slice r.B r.e.qual.length r.d, .int .i64 r.e.ts, .int .i64 r.e.seq, .int .i64 r.e.kind, .slice r.D r.e.val.length r.q]] rfl ?_
          refine (entry8_cut r _ (HEN.out _ HS.out.up)).mono ?_
          rw [HEC.out]
          rintro e y2 ⟨A2, B2, D2, c2, d2, q2, rfl, hz⟩
          replace HY : Hid (OW w (boxO g8 [.slice none 0 0, .int .i64 0, .slice none 0 0, .int .i64 0, .int .i64 0, .int .i64 0, .slice none 0 0] :: (((boxO g4 [.slice r.A r.e.row.length r.c, .int .i64 r.e.fam, .slice r.B r.e.qual.length r.d, .int .i64 r.e.ts, .int .i64 r.e.seq, .int .i64 r.e.kind, .slice r.D r.e.val.length r.q] :: (osF ++ (boxO pg [.pointer (some ⟨tg, 0, none⟩), .slice A n c, .bool fr] :: boxO tg (tabC t fr) :: RR))) ++ entO A1 B1 D1 c1 d1 q1 ec) ++ entO A2 B2 D2 c2 d2 q2 ec)) y2) := Lib.hid (HY.out.app hz)
          replace HS := Lib.hid (HS.out.later hz.up)
          clear hz
          refine ⟨_, rfl, ?_⟩
          refine ⟨fun _ => HS.out, ?_⟩
          simp only [Act.put, List.setIfInBounds_toArray, List.set_cons_zero, List.set_cons_succ]
          refine lt_op 4 rfl (by kernel_rfl) rfl ?_
          refine wpo_alloc rfl [.slice none 0 0, .int .i64 0, .slice none 0 0, .int .i64 0, .int .i64 0, .int .i64 0, .slice none 0 0] (.inl (by kernel_rfl)) HY.out ?_
          intro g7 ug7 hz hb
          replace HY : Hid (OW w (boxO g7 [.slice none 0 0, .int .i64 0, .slice none 0 0, .int .i64 0, .int .i64 0, .int .i64 0, .slice none 0 0] :: boxO g8 [.slice none 0 0, .int .i64 0, .slice none 0 0, .int .i64 0, .int .i64 0, .int .i64 0, .slice none 0 0] :: (((boxO g4 [.slice r.A r.e.row.length r.c, .int .i64 r.e.fam, .slice r.B r.e.qual.length r.d, .int .i64 r.e.ts, .int .i64 r.e.seq, .int .i64 r.e.kind, .slice r.D r.e.val.length r.q] :: (osF ++ (boxO pg [.pointer (some ⟨tg, 0, none⟩), .slice A n c, .bool fr] :: boxO tg (tabC t fr) :: RR))) ++ entO A1 B1 D1 c1 d1 q1 ec) ++ entO A2 B2 D2 c2 d2 q2 ec)) ug7) := Lib.hid (hz.perm (List.perm_append_comm))
          replace HS := Lib.hid (HS.out.later hb)
          clear hz hb
          refine ⟨fun _ => HS.out, ?_⟩
          simp only [Act.put, List.setIfInBounds_toArray, List.set_cons_zero, List.set_cons_succ]
          refine lt_end 6 rfl (by kernel_rfl) rfl (by kernel_rfl) ?_
          refine wpo_put rfl HY.out 0 rfl rfl [.slice A1 ec.row.length c1, .int .i64 ec.fam, .slice B1 ec.qual.length d1, .int .i64 ec.ts, .int .i64 ec.seq, .int .i64 ec.kind, .slice D1 ec.val.length q1] rfl rfl (by kernel_rfl) (by simp [Value.oneCell']) ?_
          intro v1 hz _
          replace HY : Hid (OW w (boxO g7 [.slice A1 ec.row.length c1, .int .i64 ec.fam, .slice B1 ec.qual.length d1, .int .i64 ec.ts, .int .i64 ec.seq, .int .i64 ec.kind, .slice D1 ec.val.length q1] :: boxO g8 [.slice none 0 0, .int .i64 0, .slice none 0 0, .int .i64 0, .int .i64 0, .int .i64 0, .slice none 0 0] :: (((boxO g4 [.slice r.A r.e.row.length r.c, .int .i64 r.e.fam, .slice r.B r.e.qual.length r.d, .int .i64 r.e.ts, .int .i64 r.e.seq, .int .i64 r.e.kind, .slice r.D r.e.val.length r.q] :: (osF ++ (boxO pg [.pointer (some ⟨tg, 0, none⟩), .slice A n c, .bool fr] :: boxO tg (tabC t fr) :: RR))) ++ entO A1 B1 D1 c1 d1 q1 ec) ++ entO A2 B2 D2 c2 d2 q2 ec)) v1) := Lib.hid hz
          clear hz
          simp only [Act.put]
          refine lt_end 7 rfl (by kernel_rfl) rfl (by kernel_rfl) ?_
          refine wpo_put rfl HY.out 1 rfl rfl [.slice A2 ec.row.length c2, .int .i64 ec.fam, .slice B2 ec.qual.length d2, .int .i64 ec.ts, .int .i64 ec.seq, .int .i64 ec.kind, .slice D2 ec.val.length q2] rfl rfl (by kernel_rfl) (by simp [Value.oneCell']) ?_
          intro v2 hz _
          replace HY : Hid (OW w (boxO g7 [.slice A1 ec.row.length c1, .int .i64 ec.fam, .slice B1 ec.qual.length d1, .int .i64 ec.ts, .int .i64 ec.seq, .int .i64 ec.kind, .slice D1 ec.val.length q1] :: boxO g8 [.slice A2 ec.row.length c2, .int .i64 ec.fam, .slice B2 ec.qual.length d2, .int .i64 ec.ts, .int .i64 ec.seq, .int .i64 ec.kind, .slice D2 ec.val.length q2] :: (((boxO g4 [.slice r.A r.e.row.length r.c, .int .i64 r.e.fam, .slice r.B r.e.qual.length r.d, .int .i64 r.e.ts, .int .i64 r.e.seq, .int .i64 r.e.kind, .slice r.D r.e.val.length r.q] :: (osF ++ (boxO pg [.pointer (some ⟨tg, 0, none⟩), .slice A n c, .bool fr] :: boxO tg (tabC t fr) :: RR))) ++ entO A1 B1 D1 c1 d1 q1 ec) ++ entO A2 B2 D2 c2 d2 q2 ec)) v2) := Lib.hid hz
          clear hz
          simp only [Act.put]
          refine lt_done (by kernel_rfl) ?_
          go_wp2_with fail
          go_meet
          exact ⟨g7, g8, A1, B1, D1, A2, B2, D2, c1, d1, q1, c2, d2, q2, rfl, rfl, HY⟩
        · refine wpo_alloc rfl [.slice none 0 0, .int .i64 0, .slice none 0 0, .int .i64 0, .int .i64 0, .int .i64 0, .slice none 0 0] (.inl (by kernel_rfl)) HY.out ?_
          intro g7 ug7 hz hb
          replace HY : Hid (OW w (boxO g7 [.slice none 0 0, .int .i64 0, .slice none 0 0, .int .i64 0, .int .i64 0, .int .i64 0, .slice none 0 0] :: boxO g8 [.slice none 0 0, .int .i64 0, .slice none 0 0, .int .i64 0, .int .i64 0, .int .i64 0, .slice none 0 0] :: ((boxO g4 [.slice r.A r.e.row.length r.c, .int .i64 r.e.fam, .slice r.B r.e.qual.length r.d, .int .i64 r.e.ts, .int .i64 r.e.seq, .int .i64 r.e.kind, .slice r.D r.e.val.length r.q] :: (osF ++ (boxO pg [.pointer (some ⟨tg, 0, none⟩), .slice A n c, .bool fr] :: boxO tg (tabC t fr) :: RR))) ++ entO A1 B1 D1 c1 d1 q1 ec)) ug7) := Lib.hid (hz.perm (List.perm_append_comm))
          replace HS := Lib.hid (HS.out.later hb)
          clear hz hb
          refine ⟨fun _ => HS.out, ?_⟩
          simp only [Act.put, List.setIfInBounds_toArray, List.set_cons_zero, List.set_cons_succ]
          refine lt_op 3 rfl (by kernel_rfl) rfl ?_
          refine wp_callL rfl ⟨_, Try.func16, by decide, by kernel_rfl⟩ [.agg #[.slice r.A r.e.row.length r.c, .int .i64 r.e.fam, .slice r.B r.e.qual.length r.d, .int .i64 r.e.ts, .int .i64 r.e.seq, .int .i64 r.e.kind, .slice r.D r.e.val.length r.q]] rfl ?_
          refine (entry8_cut r _ (HEN.out _ HS.out.up)).mono ?_
          rw [HEC.out]
          rintro e y2 ⟨A2, B2, D2, c2, d2, q2, rfl, hz⟩
          replace HY : Hid (OW w (boxO g7 [.slice none 0 0, .int .i64 0, .slice none 0 0, .int .i64 0, .int .i64 0, .int .i64 0, .slice none 0 0] :: boxO g8 [.slice none 0 0, .int .i64 0, .slice none 0 0, .int .i64 0, .int .i64 0, .int .i64 0, .slice none 0 0] :: (((boxO g4 [.slice r.A r.e.row.length r.c, .int .i64 r.e.fam, .slice r.B r.e.qual.length r.d, .int .i64 r.e.ts, .int .i64 r.e.seq, .int .i64 r.e.kind, .slice r.D r.e.val.length r.q] :: (osF ++ (boxO pg [.pointer (some ⟨tg, 0, none⟩), .slice A n c, .bool fr] :: boxO tg (tabC t fr) :: RR))) ++ entO A1 B1 D1 c1 d1 q1 ec) ++ entO A2 B2 D2 c2 d2 q2 ec)) y2) := Lib.hid (HY.out.app hz)
          replace HS := Lib.hid (HS.out.later hz.up)
          clear hz
          refine ⟨_, rfl, ?_⟩
          refine ⟨fun _ => HS.out, ?_⟩
          simp only [Act.put, List.setIfInBounds_toArray, List.set_cons_zero, List.set_cons_succ]
          refine lt_end 6 rfl (by kernel_rfl) rfl (by kernel_rfl) ?_
          refine wpo_put rfl HY.out 0 rfl rfl [.slice A1 ec.row.length c1, .int .i64 ec.fam, .slice B1 ec.qual.length d1, .int .i64 ec.ts, .int .i64 ec.seq, .int .i64 ec.kind, .slice D1 ec.val.length q1] rfl rfl (by kernel_rfl) (by simp [Value.oneCell']) ?_
          intro v1 hz _
          replace HY : Hid (OW w (boxO g7 [.slice A1 ec.row.length c1, .int .i64 ec.fam, .slice B1 ec.qual.length d1, .int .i64 ec.ts, .int .i64 ec.seq, .int .i64 ec.kind, .slice D1 ec.val.length q1] :: boxO g8 [.slice none 0 0, .int .i64 0, .slice none 0 0, .int .i64 0, .int .i64 0, .int .i64 0, .slice none 0 0] :: (((boxO g4 [.slice r.A r.e.row.length r.c, .int .i64 r.e.fam, .slice r.B r.e.qual.length r.d, .int .i64 r.e.ts, .int .i64 r.e.seq, .int .i64 r.e.kind, .slice r.D r.e.val.length r.q] :: (osF ++ (boxO pg [.pointer (some ⟨tg, 0, none⟩), .slice A n c, .bool fr] :: boxO tg (tabC t fr) :: RR))) ++ entO A1 B1 D1 c1 d1 q1 ec) ++ entO A2 B2 D2 c2 d2 q2 ec)) v1) := Lib.hid hz
          clear hz
          simp only [Act.put]
          refine lt_end 7 rfl (by kernel_rfl) rfl (by kernel_rfl) ?_
          refine wpo_put rfl HY.out 1 rfl rfl [.slice A2 ec.row.length c2, .int .i64 ec.fam, .slice B2 ec.qual.length d2, .int .i64 ec.ts, .int .i64 ec.seq, .int .i64 ec.kind, .slice D2 ec.val.length q2] rfl rfl (by kernel_rfl) (by simp [Value.oneCell']) ?_
          intro v2 hz _
          replace HY : Hid (OW w (boxO g7 [.slice A1 ec.row.length c1, .int .i64 ec.fam, .slice B1 ec.qual.length d1, .int .i64 ec.ts, .int .i64 ec.seq, .int .i64 ec.kind, .slice D1 ec.val.length q1] :: boxO g8 [.slice A2 ec.row.length c2, .int .i64 ec.fam, .slice B2 ec.qual.length d2, .int .i64 ec.ts, .int .i64 ec.seq, .int .i64 ec.kind, .slice D2 ec.val.length q2] :: (((boxO g4 [.slice r.A r.e.row.length r.c, .int .i64 r.e.fam, .slice r.B r.e.qual.length r.d, .int .i64 r.e.ts, .int .i64 r.e.seq, .int .i64 r.e.kind, .slice r.D r.e.val.length r.q] :: (osF ++ (boxO pg [.pointer (some ⟨tg, 0, none⟩), .slice A n c, .bool fr] :: boxO tg (tabC t fr) :: RR))) ++ entO A1 B1 D1 c1 d1 q1 ec) ++ entO A2 B2 D2 c2 d2 q2 ec)) v2) := Lib.hid hz
          clear hz
          simp only [Act.put]
          refine lt_done (by kernel_rfl) ?_
          go_wp2_with fail
          go_meet
          exact ⟨g7, g8, A1, B1, D1, A2, B2, D2, c1, d1, q1, c2, d2, q2, rfl, rfl, HY⟩
      · refine wpo_alloc rfl [.slice none 0 0, .int .i64 0, .slice none 0 0, .int .i64 0, .int .i64 0, .int .i64 0, .slice none 0 0] (.inl (by kernel_rfl)) HY.out ?_
        intro g7 ug7 hz hb
        replace HY : Hid (OW w (boxO g7 [.slice none 0 0, .int .i64 0, .slice none 0 0, .int .i64 0, .int .i64 0, .int .i64 0, .slice none 0 0] :: boxO g8 [.slice none 0 0, .int .i64 0, .slice none 0 0, .int .i64 0, .int .i64 0, .int .i64 0, .slice none 0 0] :: (boxO g4 [.slice r.A r.e.row.length r.c, .int .i64 r.e.fam, .slice r.B r.e.qual.length r.d, .int .i64 r.e.ts, .int .i64 r.e.seq, .int .i64 r.e.kind, .slice r.D r.e.val.length r.q] :: (osF ++ (boxO pg [.pointer (some ⟨tg, 0, none⟩), .slice A n c, .bool fr] :: boxO tg (tabC t fr) :: RR)))) ug7) := Lib.hid (hz.perm (List.perm_append_comm))
        replace HS := Lib.hid (HS.out.later hb)
        clear hz hb
        refine ⟨fun _ => HS.out, ?_⟩
        simp only [Act.put, List.setIfInBounds_toArray, List.set_cons_zero, List.set_cons_succ]
        refine lt_op 1 rfl (by kernel_rfl) rfl ?_
        refine wp_callL rfl ⟨_, Try.func16, by decide, by kernel_rfl⟩ [.agg #[.slice r.A r.e.row.length r.c, .int .i64 r.e.fam, .slice r.B r.e.qual.length r.d, .int .i64 r.e.ts, .int .i64 r.e.seq, .int .i64 r.e.kind, .slice r.D r.e.val.length r.q]] rfl ?_
        refine (entry8_cut r _ (HEN.out _ HS.out.up)).mono ?_
        rw [HEC.out]
        rintro e y1 ⟨A1, B1, D1, c1, d1, q1, rfl, hz⟩
        replace HY : Hid (OW w (boxO g7 [.slice none 0 0, .int .i64 0, .slice none 0 0, .int .i64 0, .int .i64 0, .int .i64 0, .slice none 0 0] :: boxO g8 [.slice none 0 0, .int .i64 0, .slice none 0 0, .int .i64 0, .int .i64 0, .int .i64 0, .slice none 0 0] :: ((boxO g4 [.slice r.A r.e.row.length r.c, .int .i64 r.e.fam, .slice r.B r.e.qual.length r.d, .int .i64 r.e.ts, .int .i64 r.e.seq, .int .i64 r.e.kind, .slice r.D r.e.val.length r.q] :: (osF ++ (boxO pg [.pointer (some ⟨tg, 0, none⟩), .slice A n c, .bool fr] :: boxO tg (tabC t fr) :: RR))) ++ entO A1 B1 D1 c1 d1 q1 ec)) y1) := Lib.hid (HY.out.app hz)
        replace HS := Lib.hid (HS.out.later hz.up)
        clear hz
        refine ⟨_, rfl, ?_⟩
        refine ⟨fun _ => HS.out, ?_⟩
        simp only [Act.put, List.setIfInBounds_toArray, List.set_cons_zero, List.set_cons_succ]
        refine lt_op 3 rfl (by kernel_rfl) rfl ?_
        refine wp_callL rfl ⟨_, Try.func16, by decide, by kernel_rfl⟩ [.agg #[.slice r.A r.e.row.length r.c, .int .i64 r.e.fam, .slice r.B r.e.qual.length r.d, .int .i64 r.e.ts, .int .i64 r.e.seq, .int .i64 r.e.kind, .slice r.D r.e.val.length r.q]] rfl ?_
        refine (entry8_cut r _ (HEN.out _ HS.out.up)).mono ?_
        rw [HEC.out]
        rintro e y2 ⟨A2, B2, D2, c2, d2, q2, rfl, hz⟩
        replace HY : Hid (OW w (boxO g7 [.slice none 0 0, .int .i64 0, .slice none 0 0, .int .i64 0, .int .i64 0, .int .i64 0, .slice none 0 0] :: boxO g8 [.slice none 0 0, .int .i64 0, .slice none 0 0, .int .i64 0, .int .i64 0, .int .i64 0, .slice none 0 0] :: (((boxO g4 [.slice r.A r.e.row.length r.c, .int .i64 r.e.fam, .slice r.B r.e.qual.length r.d, .int .i64 r.e.ts, .int .i64 r.e.seq, .int .i64 r.e.kind, .slice r.D r.e.val.length r.q] :: (osF ++ (boxO pg [.pointer (some ⟨tg, 0, none⟩), .slice A n c, .bool fr] :: boxO tg (tabC t fr) :: RR))) ++ entO A1 B1 D1 c1 d1 q1 ec) ++ entO A2 B2 D2 c2 d2 q2 ec)) y2) := Lib.hid (HY.out.app hz)
        replace HS := Lib.hid (HS.out.later hz.up)
        clear hz
        refine ⟨_, rfl, ?_⟩
        refine ⟨fun _ => HS.out, ?_⟩
        simp only [Act.put, List.setIfInBounds_toArray, List.set_cons_zero, List.set_cons_succ]
        refine lt_end 6 rfl (by kernel_rfl) rfl (by kernel_rfl) ?_
        refine wpo_put rfl HY.out 0 rfl rfl [.slice A1 ec.row.length c1, .int .i64 ec.fam, .slice B1 ec.qual.length d1, .int .i64 ec.ts, .int .i64 ec.seq, .int .i64 ec.kind, .slice D1 ec.val.length q1] rfl rfl (by kernel_rfl) (by simp [Value.oneCell']) ?_
        intro v1 hz _
        replace HY : Hid (OW w (boxO g7 [.slice A1 ec.row.length c1, .int .i64 ec.fam, .slice B1 ec.qual.length d1, .int .i64 ec.ts, .int .i64 ec.seq, .int .i64 ec.kind, .slice D1 ec.val.length q1] :: boxO g8 [.slice none 0 0, .int .i64 0, .slice none 0 0, .int .i64 0, .int .i64 0, .int .i64 0, .slice none 0 0] :: (((boxO g4 [.slice r.A r.e.row.length r.c, .int .i64 r.e.fam, .slice r.B r.e.qual.length r.d, .int .i64 r.e.ts, .int .i64 r.e.seq, .int .i64 r.e.kind, .slice r.D r.e.val.length r.q] :: (osF ++ (boxO pg [.pointer (some ⟨tg, 0, none⟩), .slice A n c, .bool fr] :: boxO tg (tabC t fr) :: RR))) ++ entO A1 B1 D1 c1 d1 q1 ec) ++ entO A2 B2 D2 c2 d2 q2 ec)) v1) := Lib.hid hz
        clear hz
        simp only [Act.put]
        refine lt_end 7 rfl (by kernel_rfl) rfl (by kernel_rfl) ?_
        refine wpo_put rfl HY.out 1 rfl rfl [.slice A2 ec.row.length c2, .int .i64 ec.fam, .slice B2 ec.qual.length d2, .int .i64 ec.ts, .int .i64 ec.seq, .int .i64 ec.kind, .slice D2 ec.val.length q2] rfl rfl (by kernel_rfl) (by simp [Value.oneCell']) ?_
        intro v2 hz _
        replace HY : Hid (OW w (boxO g7 [.slice A1 ec.row.length c1, .int .i64 ec.fam, .slice B1 ec.qual.length d1, .int .i64 ec.ts, .int .i64 ec.seq, .int .i64 ec.kind, .slice D1 ec.val.length q1] :: boxO g8 [.slice A2 ec.row.length c2, .int .i64 ec.fam, .slice B2 ec.qual.length d2, .int .i64 ec.ts, .int .i64 ec.seq, .int .i64 ec.kind, .slice D2 ec.val.length q2] :: (((boxO g4 [.slice r.A r.e.row.length r.c, .int .i64 r.e.fam, .slice r.B r.e.qual.length r.d, .int .i64 r.e.ts, .int .i64 r.e.seq, .int .i64 r.e.kind, .slice r.D r.e.val.length r.q] :: (osF ++ (boxO pg [.pointer (some ⟨tg, 0, none⟩), .slice A n c, .bool fr] :: boxO tg (tabC t fr) :: RR))) ++ entO A1 B1 D1 c1 d1 q1 ec) ++ entO A2 B2 D2 c2 d2 q2 ec)) v2) := Lib.hid hz
        clear hz
        simp only [Act.put]
        refine lt_done (by kernel_rfl) ?_
        go_wp2_with fail
        go_meet
        exact ⟨g7, g8, A1, B1, D1, A2, B2, D2, c1, d1, q1, c2, d2, q2, rfl, rfl, HY⟩
  clear HX
  obtain ⟨g7, g8, A1, B1, D1, A2, B2, D2, c1, d1, q1, c2, d2, q2, rfl, rfl, HX⟩ := hcut
  go_upto_region 2 with fail
  go_cut [9, 10] (fun pv kv wx => ∃ (g9 : Nat) (A3 : Option Addr) (n3 c3 : Nat) (rs3 : List ER) (ns1 : List Ob), pv = .pointer (some ⟨g9, 0, none⟩) ∧ kv = .int .i64 k2 ∧ Hid (RT (ms ++ ns1) A3 n3 c3 rs3 L2) ∧ Hid (OW w (boxO g9 [.slice A3 n3 c3, .bool fr] :: boxO g7 [.slice A1 ec.row.length c1, .int .i64 ec.fam, .slice B1 ec.qual.length d1, .int .i64 ec.ts, .int .i64 ec.seq, .int .i64 ec.kind, .slice D1 ec.val.length q1] :: boxO g8 [.slice A2 ec.row.length c2, .int .i64 ec.fam, .slice B2 ec.qual.length d2, .int .i64 ec.ts, .int .i64 ec.seq, .int .i64 ec.kind, .slice D2 ec.val.length q2] :: ((((boxO g4 [.slice r.A r.e.row.length r.c, .int .i64 r.e.fam, .slice r.B r.e.qual.length r.d, .int .i64 r.e.ts, .int .i64 r.e.seq, .int .i64 r.e.kind, .slice r.D r.e.val.length r.q] :: (osF ++ (boxO pg [.pointer (some ⟨tg, 0, none⟩), .slice A n c, .bool fr] :: boxO tg (tabC t fr) :: RR))) ++ entO A1 B1 D1 c1 d1 q1 ec) ++ entO A2 B2 D2 c2 d2 q2 ec) ++ ns1)) wx))
  case first =>
    refine lt_start [10] (by kernel_rfl) ?_
    intro xd hd
    refine ⟨fun z => OW w (boxO g7 [.slice A1 ec.row.length c1, .int .i64 ec.fam, .slice B1 ec.qual.length d1, .int .i64 ec.ts, .int .i64 ec.seq, .int .i64 ec.kind, .slice D1 ec.val.length q1] :: boxO g8 [.slice A2 ec.row.length c2, .int .i64 ec.fam, .slice B2 ec.qual.length d2, .int .i64 ec.ts, .int .i64 ec.seq, .int .i64 ec.kind, .slice D2 ec.val.length q2] :: (((boxO g4 [.slice r.A r.e.row.length r.c, .int .i64 r.e.fam, .slice r.B r.e.qual.length r.d, .int .i64 r.e.ts, .int .i64 r.e.seq, .int .i64 r.e.kind, .slice r.D r.e.val.length r.q] :: (osF ++ (boxO pg [.pointer (some ⟨tg, 0, none⟩), .slice A n c, .bool fr] :: boxO tg (tabC t fr) :: RR))) ++ entO A1 B1 D1 c1 d1 q1 ec) ++ entO A2 B2 D2 c2 d2 q2 ec)) z, ?_⟩
    have HS := Lib.hid (HX.out.later hd)
    have HY := HS
    refine lt_pure 0 rfl (by kernel_rfl) (by kernel_rfl) (by kernel_rfl) (by kernel_rfl) (fun _ _ _ h => h) (v := ?_) (yi_run rfl (fun w => ?_)) (fun _ => HS.out) ?_
    rotate_left
    · first | (go_simp; done) | (go_simp; with_reducible rfl)
    simp only [Act.put, List.setIfInBounds_toArray, List.set_cons_zero, List.set_cons_succ]
    refine lt_pure 1 rfl (by kernel_rfl) (by kernel_rfl) (by kernel_rfl) (by kernel_rfl) (fun _ _ _ h => h) (v := ?_) (yi_run rfl (fun w => ?_)) (fun _ => HS.out) ?_
    rotate_left
    · first | (go_simp; done) | (go_simp; with_reducible rfl)
    simp only [Act.put, List.setIfInBounds_toArray, List.set_cons_zero, List.set_cons_succ]
    refine lt_pure 2 rfl (by kernel_rfl) (by kernel_rfl) (by kernel_rfl) (by kernel_rfl) (fun _ _ _ h => h) (v := ?_) (yi_run rfl (fun w => ?_)) (fun _ => HS.out) ?_
    rotate_left
    · first | (go_simp; done) | (go_simp; with_reducible rfl)
    simp only [Act.put, List.setIfInBounds_toArray, List.set_cons_zero, List.set_cons_succ]
    refine lt_take 3 [5, 6, 7, 8, 10, 11] rfl (by kernel_rfl) (by kernel_rfl) (by kernel_rfl) (by kernel_rfl) (by kernel_rfl) (fun _ _ _ h => h) (yi_rowO rfl rfl rfl (fun w hS => pb_range hS (.tail _ (.tail _ (List.mem_append_left _ (List.mem_append_left _ (.tail _ (List.mem_append_right _ (.head _)))))))) tabR_row) HS.out ?_
    simp only [Act.put, List.setIfInBounds_toArray, List.set_cons_zero, List.set_cons_succ]
    refine lt_take 4 [5, 6, 7, 8, 10, 11] rfl (by kernel_rfl) (by kernel_rfl) (by kernel_rfl) (by kernel_rfl) (by kernel_rfl) (fun _ _ _ h => h) (yi_row rfl rfl rfl (fun w hS => OW.range hS (i := 1) rfl) ent_row8) HS.out ?_
    simp only [Act.put, List.setIfInBounds_toArray, List.set_cons_zero, List.set_cons_succ]
    refine lt_two 5 9 rfl rfl (by kernel_rfl) rfl rfl ?_ ?_
    · refine wp_callL rfl ⟨_, Try.func15, by decide, by kernel_rfl⟩ [.agg #[.slice A n c, .bool fr], .agg #[.slice A2 ec.row.length c2, .int .i64 ec.fam, .slice B2 ec.qual.length d2, .int .i64 ec.ts, .int .i64 ec.seq, .int .i64 ec.kind, .slice D2 ec.val.length q2]] rfl ?_
      refine (radd8_is (ms := ms) HY.out (fun o ho => .tail _ (.tail _ (List.mem_append_left _ (List.mem_append_left _ (.tail _ (List.mem_append_right _ (.tail _ (.tail _ (HMS.out o ho))))))))) HRT.out (by omega) (⟨A2, c2, B2, d2, D2, q2, ec⟩ : ER) (fun z hz => (entO_ein fun o ho => .tail _ (.tail _ (List.mem_append_right _ ho))).en hz) HADD.out).mono ?_
      rintro e y3 ⟨A3, n3, c3, rs3, ns1, rfl, hz, hT⟩
      have HRT2 := Lib.hid hT
      replace HY : Hid (OW w (boxO g7 [.slice A1 ec.row.length c1, .int .i64 ec.fam, .slice B1 ec.qual.length d1, .int .i64 ec.ts, .int .i64 ec.seq, .int .i64 ec.kind, .slice D1 ec.val.length q1] :: boxO g8 [.slice A2 ec.row.length c2, .int .i64 ec.fam, .slice B2 ec.qual.length d2, .int .i64 ec.ts, .int .i64 ec.seq, .int .i64 ec.kind, .slice D2 ec.val.length q2] :: ((((boxO g4 [.slice r.A r.e.row.length r.c, .int .i64 r.e.fam, .slice r.B r.e.qual.length r.d, .int .i64 r.e.ts, .int .i64 r.e.seq, .int .i64 r.e.kind, .slice r.D r.e.val.length r.q] :: (osF ++ (boxO pg [.pointer (some ⟨tg, 0, none⟩), .slice A n c, .bool fr] :: boxO tg (tabC t fr) :: RR))) ++ entO A1 B1 D1 c1 d1 q1 ec) ++ entO A2 B2 D2 c2 d2 q2 ec) ++ ns1)) y3) := Lib.hid hz
      replace HS : Hid (OW w (boxO g7 [.slice A1 ec.row.length c1, .int .i64 ec.fam, .slice B1 ec.qual.length d1, .int .i64 ec.ts, .int .i64 ec.seq, .int .i64 ec.kind, .slice D1 ec.val.length q1] :: boxO g8 [.slice A2 ec.row.length c2, .int .i64 ec.fam, .slice B2 ec.qual.length d2, .int .i64 ec.ts, .int .i64 ec.seq, .int .i64 ec.kind, .slice D2 ec.val.length q2] :: (((boxO g4 [.slice r.A r.e.row.length r.c, .int .i64 r.e.fam, .slice r.B r.e.qual.length r.d, .int .i64 r.e.ts, .int .i64 r.e.seq, .int .i64 r.e.kind, .slice r.D r.e.val.length r.q] :: (osF ++ (boxO pg [.pointer (some ⟨tg, 0, none⟩), .slice A n c, .bool fr] :: boxO tg (tabC t fr) :: RR))) ++ entO A1 B1 D1 c1 d1 q1 ec) ++ entO A2 B2 D2 c2 d2 q2 ec)) y3) := Lib.hid (hz.sub (List.Sublist.cons_cons _ (List.Sublist.cons_cons _ (List.sublist_append_left _ _))))
      clear hz hT
      refine ⟨_, rfl, ?_⟩
      refine ⟨fun _ => HS.out, ?_⟩
      simp only [Act.put, List.setIfInBounds_toArray, List.set_cons_zero, List.set_cons_succ]
      refine lt_pure 6 rfl (by kernel_rfl) (by kernel_rfl) (by kernel_rfl) (by kernel_rfl) (fun _ _ _ h => h) (v := ?_) (yi_run rfl (fun w => ?_)) (fun _ => HS.out) ?_
      rotate_left
      · first | (go_simp; done) | (go_simp; with_reducible rfl)
      simp only [Act.put, List.setIfInBounds_toArray, List.set_cons_zero, List.set_cons_succ]
      refine lt_pure 7 rfl (by kernel_rfl) (by kernel_rfl) (by kernel_rfl) (by kernel_rfl) (fun _ _ _ h => h) (v := ?_) (yi_run rfl (fun w => ?_)) (fun _ => HS.out) ?_
      rotate_left
      · first | (go_simp; done) | (go_simp; with_reducible rfl)
      simp only [Act.put, List.setIfInBounds_toArray, List.set_cons_zero, List.set_cons_succ]
      refine lt_pure 8 rfl (by kernel_rfl) (by kernel_rfl) (by kernel_rfl) (by kernel_rfl) (fun _ _ _ h => h) (v := ?_) (yi_run rfl (fun w => ?_)) (fun _ => HS.out) ?_
      rotate_left
      · first | (go_simp; done) | (go_simp; with_reducible rfl)
      simp only [Act.put, List.setIfInBounds_toArray, List.set_cons_zero, List.set_cons_succ]
      refine lt_op 9 rfl (by kernel_rfl) rfl ?_
      refine wpo_alloc rfl [.slice none 0 0, .bool false] (.inl (by kernel_rfl)) HY.out ?_
      intro g9 u9 hz hb
      replace HY : Hid (OW w (boxO g9 [.slice none 0 0, .bool false] :: boxO g7 [.slice A1 ec.row.length c1, .int .i64 ec.fam, .slice B1 ec.qual.length d1, .int .i64 ec.ts, .int .i64 ec.seq, .int .i64 ec.kind, .slice D1 ec.val.length q1] :: boxO g8 [.slice A2 ec.row.length c2, .int .i64 ec.fam, .slice B2 ec.qual.length d2, .int .i64 ec.ts, .int .i64 ec.seq, .int .i64 ec.kind, .slice D2 ec.val.length q2] :: ((((boxO g4 [.slice r.A r.e.row.length r.c, .int .i64 r.e.fam, .slice r.B r.e.qual.length r.d, .int .i64 r.e.ts, .int .i64 r.e.seq, .int .i64 r.e.kind, .slice r.D r.e.val.length r.q] :: (osF ++ (boxO pg [.pointer (some ⟨tg, 0, none⟩), .slice A n c, .bool fr] :: boxO tg (tabC t fr) :: RR))) ++ entO A1 B1 D1 c1 d1 q1 ec) ++ entO A2 B2 D2 c2 d2 q2 ec) ++ ns1)) u9) := Lib.hid (hz.perm List.perm_append_comm)
      replace HS := Lib.hid (HS.out.later hb)
      clear hz hb
      refine ⟨fun _ => HS.out, ?_⟩
      simp only [Act.put, List.setIfInBounds_toArray, List.set_cons_zero, List.set_cons_succ]
      refine lt_end 10 rfl (by kernel_rfl) rfl (by kernel_rfl) ?_
      refine wpo_put rfl HY.out 0 rfl rfl [.slice A3 n3 c3, .bool fr] rfl rfl (by kernel_rfl) (by simp [Value.oneCell']) ?_
      intro u10 hz _
      replace HY : Hid (OW w (boxO g9 [.slice A3 n3 c3, .bool fr] :: boxO g7 [.slice A1 ec.row.length c1, .int .i64 ec.fam, .slice B1 ec.qual.length d1, .int .i64 ec.ts, .int .i64 ec.seq, .int .i64 ec.kind, .slice D1 ec.val.length q1] :: boxO g8 [.slice A2 ec.row.length c2, .int .i64 ec.fam, .slice B2 ec.qual.length d2, .int .i64 ec.ts, .int .i64 ec.seq, .int .i64 ec.kind, .slice D2 ec.val.length q2] :: ((((boxO g4 [.slice r.A r.e.row.length r.c, .int .i64 r.e.fam, .slice r.B r.e.qual.length r.d, .int .i64 r.e.ts, .int .i64 r.e.seq, .int .i64 r.e.kind, .slice r.D r.e.val.length r.q] :: (osF ++ (boxO pg [.pointer (some ⟨tg, 0, none⟩), .slice A n c, .bool fr] :: boxO tg (tabC t fr) :: RR))) ++ entO A1 B1 D1 c1 d1 q1 ec) ++ entO A2 B2 D2 c2 d2 q2 ec) ++ ns1)) u10) := Lib.hid hz
      clear hz
      simp only [Act.put]
      refine lt_pureF 11 rfl (by kernel_rfl) (by kernel_rfl) (by kernel_rfl) (by kernel_rfl) (by kernel_rfl) (fun _ _ _ h => h) (v := ?_) (yi_run rfl (fun w => ?_)) ?_
      rotate_left
      · first | (go_simp; done) | (go_simp; with_reducible rfl)
      simp only [Act.put, List.setIfInBounds_toArray, List.set_cons_zero, List.set_cons_succ]
      refine lt_done (by kernel_rfl) ?_
      go_wp2_with fail
      go_meet
      exact ⟨g9, A3, n3, c3, rs3, ns1, rfl, rfl, HRT2, HY⟩
    · refine wpo_alloc rfl [.slice none 0 0, .bool false] (.inl (by kernel_rfl)) HY.out ?_
      intro g9 u9 hz hb
      replace HY : Hid (OW w (boxO g9 [.slice none 0 0, .bool false] :: boxO g7 [.slice A1 ec.row.length c1, .int .i64 ec.fam, .slice B1 ec.qual.length d1, .int .i64 ec.ts, .int .i64 ec.seq, .int .i64 ec.kind, .slice D1 ec.val.length q1] :: boxO g8 [.slice A2 ec.row.length c2, .int .i64 ec.fam, .slice B2 ec.qual.length d2, .int .i64 ec.ts, .int .i64 ec.seq, .int .i64 ec.kind, .slice D2 ec.val.length q2] :: (((boxO g4 [.slice r.A r.e.row.length r.c, .int .i64 r.e.fam, .slice r.B r.e.qual.length r.d, .int .i64 r.e.ts, .int .i64 r.e.seq, .int .i64 r.e.kind, .slice r.D r.e.val.length r.q] :: (osF ++ (boxO pg [.pointer (some ⟨tg, 0, none⟩), .slice A n c, .bool fr] :: boxO tg (tabC t fr) :: RR))) ++ entO A1 B1 D1 c1 d1 q1 ec) ++ entO A2 B2 D2 c2 d2 q2 ec)) u9) := Lib.hid (hz.perm List.perm_append_comm)
      replace HS := Lib.hid (HS.out.later hb)
      clear hz hb
      refine ⟨fun _ => HS.out, ?_⟩
      simp only [Act.put, List.setIfInBounds_toArray, List.set_cons_zero, List.set_cons_succ]
      refine lt_op 5 rfl (by kernel_rfl) rfl ?_
      refine wp_callL rfl ⟨_, Try.func15, by decide, by kernel_rfl⟩ [.agg #[.slice A n c, .bool fr], .agg #[.slice A2 ec.row.length c2, .int .i64 ec.fam, .slice B2 ec.qual.length d2, .int .i64 ec.ts, .int .i64 ec.seq, .int .i64 ec.kind, .slice D2 ec.val.length q2]] rfl ?_
      refine (radd8_is (ms := ms) HY.out (fun o ho => .tail _ (.tail _ (.tail _ (List.mem_append_left _ (List.mem_append_left _ (.tail _ (List.mem_append_right _ (.tail _ (.tail _ (HMS.out o ho)))))))))) HRT.out (by omega) (⟨A2, c2, B2, d2, D2, q2, ec⟩ : ER) (fun z hz => (entO_ein fun o ho => .tail _ (.tail _ (.tail _ (List.mem_append_right _ ho)))).en hz) HADD.out).mono ?_
      rintro e y3 ⟨A3, n3, c3, rs3, ns1, rfl, hz, hT⟩
      have HRT2 := Lib.hid hT
      replace HY : Hid (OW w (boxO g9 [.slice none 0 0, .bool false] :: boxO g7 [.slice A1 ec.row.length c1, .int .i64 ec.fam, .slice B1 ec.qual.length d1, .int .i64 ec.ts, .int .i64 ec.seq, .int .i64 ec.kind, .slice D1 ec.val.length q1] :: boxO g8 [.slice A2 ec.row.length c2, .int .i64 ec.fam, .slice B2 ec.qual.length d2, .int .i64 ec.ts, .int .i64 ec.seq, .int .i64 ec.kind, .slice D2 ec.val.length q2] :: ((((boxO g4 [.slice r.A r.e.row.length r.c, .int .i64 r.e.fam, .slice r.B r.e.qual.length r.d, .int .i64 r.e.ts, .int .i64 r.e.seq, .int .i64 r.e.kind, .slice r.D r.e.val.length r.q] :: (osF ++ (boxO pg [.pointer (some ⟨tg, 0, none⟩), .slice A n c, .bool fr] :: boxO tg (tabC t fr) :: RR))) ++ entO A1 B1 D1 c1 d1 q1 ec) ++ entO A2 B2 D2 c2 d2 q2 ec) ++ ns1)) y3) := Lib.hid hz
      replace HS : Hid (OW w (boxO g7 [.slice A1 ec.row.length c1, .int .i64 ec.fam, .slice B1 ec.qual.length d1, .int .i64 ec.ts, .int .i64 ec.seq, .int .i64 ec.kind, .slice D1 ec.val.length q1] :: boxO g8 [.slice A2 ec.row.length c2, .int .i64 ec.fam, .slice B2 ec.qual.length d2, .int .i64 ec.ts, .int .i64 ec.seq, .int .i64 ec.kind, .slice D2 ec.val.length q2] :: (((boxO g4 [.slice r.A r.e.row.length r.c, .int .i64 r.e.fam, .slice r.B r.e.qual.length r.d, .int .i64 r.e.ts, .int .i64 r.e.seq, .int .i64 r.e.kind, .slice r.D r.e.val.length r.q] :: (osF ++ (boxO pg [.pointer (some ⟨tg, 0, none⟩), .slice A n c, .bool fr] :: boxO tg (tabC t fr) :: RR))) ++ entO A1 B1 D1 c1 d1 q1 ec) ++ entO A2 B2 D2 c2 d2 q2 ec)) y3) := Lib.hid (hz.sub (List.Sublist.cons _ (List.Sublist.cons_cons _ (List.Sublist.cons_cons _ (List.sublist_append_left _ _)))))
      clear hz hT
      refine ⟨_, rfl, ?_⟩
      refine ⟨fun _ => HS.out, ?_⟩
      simp only [Act.put, List.setIfInBounds_toArray, List.set_cons_zero, List.set_cons_succ]
      refine lt_pure 6 rfl (by kernel_rfl) (by kernel_rfl) (by kernel_rfl) (by kernel_rfl) (fun _ _ _ h => h) (v := ?_) (yi_run rfl (fun w => ?_)) (fun _ => HS.out) ?_
      rotate_left
      · first | (go_simp; done) | (go_simp; with_reducible rfl)
      simp only [Act.put, List.setIfInBounds_toArray, List.set_cons_zero, List.set_cons_succ]
      refine lt_pure 7 rfl (by kernel_rfl) (by kernel_rfl) (by kernel_rfl) (by kernel_rfl) (fun _ _ _ h => h) (v := ?_) (yi_run rfl (fun w => ?_)) (fun _ => HS.out) ?_
      rotate_left
      · first | (go_simp; done) | (go_simp; with_reducible rfl)
      simp only [Act.put, List.setIfInBounds_toArray, List.set_cons_zero, List.set_cons_succ]
      refine lt_pure 8 rfl (by kernel_rfl) (by kernel_rfl) (by kernel_rfl) (by kernel_rfl) (fun _ _ _ h => h) (v := ?_) (yi_run rfl (fun w => ?_)) (fun _ => HS.out) ?_
      rotate_left
      · first | (go_simp; done) | (go_simp; with_reducible rfl)
      simp only [Act.put, List.setIfInBounds_toArray, List.set_cons_zero, List.set_cons_succ]
      refine lt_end 10 rfl (by kernel_rfl) rfl (by kernel_rfl) ?_
      refine wpo_put rfl HY.out 0 rfl rfl [.slice A3 n3 c3, .bool fr] rfl rfl (by kernel_rfl) (by simp [Value.oneCell']) ?_
      intro u10 hz _
      replace HY : Hid (OW w (boxO g9 [.slice A3 n3 c3, .bool fr] :: boxO g7 [.slice A1 ec.row.length c1, .int .i64 ec.fam, .slice B1 ec.qual.length d1, .int .i64 ec.ts, .int .i64 ec.seq, .int .i64 ec.kind, .slice D1 ec.val.length q1] :: boxO g8 [.slice A2 ec.row.length c2, .int .i64 ec.fam, .slice B2 ec.qual.length d2, .int .i64 ec.ts, .int .i64 ec.seq, .int .i64 ec.kind, .slice D2 ec.val.length q2] :: ((((boxO g4 [.slice r.A r.e.row.length r.c, .int .i64 r.e.fam, .slice r.B r.e.qual.length r.d, .int .i64 r.e.ts, .int .i64 r.e.seq, .int .i64 r.e.kind, .slice r.D r.e.val.length r.q] :: (osF ++ (boxO pg [.pointer (some ⟨tg, 0, none⟩), .slice A n c, .bool fr] :: boxO tg (tabC t fr) :: RR))) ++ entO A1 B1 D1 c1 d1 q1 ec) ++ entO A2 B2 D2 c2 d2 q2 ec) ++ ns1)) u10) := Lib.hid hz
      clear hz
      simp only [Act.put]
      refine lt_pureF 11 rfl (by kernel_rfl) (by kernel_rfl) (by kernel_rfl) (by kernel_rfl) (by kernel_rfl) (fun _ _ _ h => h) (v := ?_) (yi_run rfl (fun w => ?_)) ?_
      rotate_left
      · first | (go_simp; done) | (go_simp; with_reducible rfl)
      simp only [Act.put, List.setIfInBounds_toArray, List.set_cons_zero, List.set_cons_succ]
      refine lt_done (by kernel_rfl) ?_
      go_wp2_with fail
      go_meet
      exact ⟨g9, A3, n3, c3, rs3, ns1, rfl, rfl, HRT2, HY⟩
  clear HX
  obtain ⟨g9, A3, n3, c3, rs3, ns1, rfl, rfl, HRT2, HX⟩ := hcut
  have HX3 : Hid (OW w (boxO tg (tabC t fr) :: boxO g9 [.slice A3 n3 c3, .bool fr] :: boxO g7 [.slice A1 ec.row.length c1, .int .i64 ec.fam, .slice B1 ec.qual.length d1, .int .i64 ec.ts, .int .i64 ec.seq, .int .i64 ec.kind, .slice D1 ec.val.length q1] :: boxO g8 [.slice A2 ec.row.length c2, .int .i64 ec.fam, .slice B2 ec.qual.length d2, .int .i64 ec.ts, .int .i64 ec.seq, .int .i64 ec.kind, .slice D2 ec.val.length q2] :: boxO g4 [.slice r.A r.e.row.length r.c, .int .i64 r.e.fam, .slice r.B r.e.qual.length r.d, .int .i64 r.e.ts, .int .i64 r.e.seq, .int .i64 r.e.kind, .slice r.D r.e.val.length r.q] :: boxO pg [.pointer (some ⟨tg, 0, none⟩), .slice A n c, .bool fr] :: ((((osF ++ RR) ++ entO A1 B1 D1 c1 d1 q1 ec) ++ entO A2 B2 D2 c2 d2 q2 ec) ++ ns1)) _) := Lib.hid (HX.out.perm (pa_perm1 _ _ _ _ _ _ _ _ _ _ _))
  clear HX
  go_wp2_with fail
  refine lt_start [5] (by kernel_rfl) ?_
  intro xd hd
  refine ⟨fun z => OW w (boxO tg (tabC t fr) :: boxO g9 [.slice A3 n3 c3, .bool fr] :: boxO g7 [.slice A1 ec.row.length c1, .int .i64 ec.fam, .slice B1 ec.qual.length d1, .int .i64 ec.ts, .int .i64 ec.seq, .int .i64 ec.kind, .slice D1 ec.val.length q1] :: boxO g8 [.slice A2 ec.row.length c2, .int .i64 ec.fam, .slice B2 ec.qual.length d2, .int .i64 ec.ts, .int .i64 ec.seq, .int .i64 ec.kind, .slice D2 ec.val.length q2] :: boxO g4 [.slice r.A r.e.row.length r.c, .int .i64 r.e.fam, .slice r.B r.e.qual.length r.d, .int .i64 r.e.ts, .int .i64 r.e.seq, .int .i64 r.e.kind, .slice r.D r.e.val.length r.q] :: boxO pg [.pointer (some ⟨tg, 0, none⟩), .slice A n c, .bool fr] :: ((((osF ++ RR) ++ entO A1 B1 D1 c1 d1 q1 ec) ++ entO A2 B2 D2 c2 d2 q2 ec) ++ ns1)) z, ?_⟩
  have HS := Lib.hid (HX3.out.later hd)
  refine lt_pure 0 rfl (by kernel_rfl) (by kernel_rfl) (by kernel_rfl) (by kernel_rfl) (fun _ _ _ h => h) (v := ?_) (yi_run rfl (fun w => ?_)) (fun _ => HS.out) ?_
  rotate_left
  · first | (go_simp; done) | (go_simp; with_reducible rfl)
  simp only [Act.put, List.setIfInBounds_toArray, List.set_cons_zero, List.set_cons_succ]
  refine lt_pure 1 rfl (by kernel_rfl) (by kernel_rfl) (by kernel_rfl) (by kernel_rfl) (fun _ _ _ h => h) (v := ?_) (yi_run rfl (fun w => ?_)) (fun _ => HS.out) ?_
  rotate_left
  · first | (go_simp; done) | (go_simp; with_reducible rfl)
  simp only [Act.put, List.setIfInBounds_toArray, List.set_cons_zero, List.set_cons_succ]
  refine lt_pure 2 rfl (by kernel_rfl) (by kernel_rfl) (by kernel_rfl) (by kernel_rfl) (fun _ _ _ h => h) (v := ?_) (yi_run rfl (fun w => ?_)) (fun _ => HS.out) ?_
  rotate_left
  · first | (go_simp; done) | (go_simp; with_reducible rfl)
  simp only [Act.put, List.setIfInBounds_toArray, List.set_cons_zero, List.set_cons_succ]
  refine lt_take 3 [5, 6] rfl (by kernel_rfl) (by kernel_rfl) (by kernel_rfl) (by kernel_rfl) (by kernel_rfl) (fun _ _ _ h => h) (yi_cell rfl rfl rfl (fun w hS => OW.cell hS (i := 5) (j := 0) rfl rfl) (fun w => Try.isAgg24 w)) HS.out ?_
  simp only [Act.put, List.setIfInBounds_toArray, List.set_cons_zero, List.set_cons_succ]
  refine lt_take 4 [5, 6] rfl (by kernel_rfl) (by kernel_rfl) (by kernel_rfl) (by kernel_rfl) (by kernel_rfl) (fun _ _ _ h => h) (yi_row rfl rfl rfl (fun w hS => OW.range hS (i := 2) rfl) ent_row8) HS.out ?_
  simp only [Act.put, List.setIfInBounds_toArray, List.set_cons_zero, List.set_cons_succ]
  refine lt_call 5 rfl (by kernel_rfl) rfl rfl ⟨_, Try.func10, by decide, by kernel_rfl⟩ [.pointer (some ⟨tg, 0, none⟩), .agg #[.slice A1 ec.row.length c1, .int .i64 ec.fam, .slice B1 ec.qual.length d1, .int .i64 ec.ts, .int .i64 ec.seq, .int .i64 ec.kind, .slice D1 ec.val.length q1]] rfl ?_
  refine (tadd_is (os := boxO g9 [.slice A3 n3 c3, .bool fr] :: boxO g7 [.slice A1 ec.row.length c1, .int .i64 ec.fam, .slice B1 ec.qual.length d1, .int .i64 ec.ts, .int .i64 ec.seq, .int .i64 ec.kind, .slice D1 ec.val.length q1] :: boxO g8 [.slice A2 ec.row.length c2, .int .i64 ec.fam, .slice B2 ec.qual.length d2, .int .i64 ec.ts, .int .i64 ec.seq, .int .i64 ec.kind, .slice D2 ec.val.length q2] :: boxO g4 [.slice r.A r.e.row.length r.c, .int .i64 r.e.fam, .slice r.B r.e.qual.length r.d, .int .i64 r.e.ts, .int .i64 r.e.seq, .int .i64 r.e.kind, .slice r.D r.e.val.length r.q] :: boxO pg [.pointer (some ⟨tg, 0, none⟩), .slice A n c, .bool fr] :: ((((osF ++ RR) ++ entO A1 B1 D1 c1 d1 q1 ec) ++ entO A2 B2 D2 c2 d2 q2 ec) ++ ns1)) (ms := ms) (⟨A1, c1, B1, d1, D1, q1, ec⟩ : ER) HS.out (fun o ho => .tail _ (.tail _ (.tail _ (.tail _ (.tail _ (List.mem_append_left _ (List.mem_append_left _ (List.mem_append_left _ (List.mem_append_right _ (HMS.out o ho)))))))))) HTB.out (entO_en HS.out fun o ho => .tail _ (.tail _ (.tail _ (.tail _ (.tail _ (.tail _ (List.mem_append_left _ (List.mem_append_left _ (List.mem_append_right _ ho))))))))) (by omega) HADD.out).mono ?_
  rintro e y5 ⟨t2, ns2, rfl, hz, hT, he⟩
  have HTB2 := Lib.hid hT
  have HE2 := Lib.hid he
  have HX4 : Hid (OW w (boxO tg (tabC t2 fr) :: boxO g9 [.slice A3 n3 c3, .bool fr] :: boxO g7 [.slice A1 ec.row.length c1, .int .i64 ec.fam, .slice B1 ec.qual.length d1, .int .i64 ec.ts, .int .i64 ec.seq, .int .i64 ec.kind, .slice D1 ec.val.length q1] :: boxO g8 [.slice A2 ec.row.length c2, .int .i64 ec.fam, .slice B2 ec.qual.length d2, .int .i64 ec.ts, .int .i64 ec.seq, .int .i64 ec.kind, .slice D2 ec.val.length q2] :: boxO g4 [.slice r.A r.e.row.length r.c, .int .i64 r.e.fam, .slice r.B r.e.qual.length r.d, .int .i64 r.e.ts, .int .i64 r.e.seq, .int .i64 r.e.kind, .slice r.D r.e.val.length r.q] :: boxO pg [.pointer (some ⟨tg, 0, none⟩), .slice A n c, .bool fr] :: (((((osF ++ RR) ++ entO A1 B1 D1 c1 d1 q1 ec) ++ entO A2 B2 D2 c2 d2 q2 ec) ++ ns1) ++ ns2)) y5) := Lib.hid hz
  clear hz hT he HX3
  refine ⟨_, rfl, (fun e => nomatch e), ?_⟩
  simp only [Act.put, List.setIfInBounds_toArray, List.set_cons_zero, List.set_cons_succ]
  refine lt_pureF 6 rfl (by kernel_rfl) (by kernel_rfl) (by kernel_rfl) (by kernel_rfl) (by kernel_rfl) (fun _ _ _ h => h) (v := ?_) (yi_run rfl (fun w => ?_)) ?_
  rotate_left
  · first | (go_simp; done) | (go_simp; with_reducible rfl)
  simp only [Act.put, List.setIfInBounds_toArray, List.set_cons_zero, List.set_cons_succ]
  refine lt_done (by kernel_rfl) ?_
  clear HS
  have e1 : (k2 != k2) = false := by simp
  have HSB := Lib.hid (entO_slB (A := A1) (B := B1) (D := D1) (c := c1) (d := d1) (q := q1) (e := ec))
  go_wp2_with (first
    | (refine wpList_load_row7 rfl 30 (.tmp 7) rfl rfl (HX4.out.range (i := 2) rfl) ent_row8 ?_)
    | (refine wpList_load_row7 rfl 30 (.tmp 8) rfl rfl (HX4.out.range (i := 3) rfl) ent_row8 ?_)
    | (go_at_call 29; go_must (refine (stands8 HX4.out (fun o ho => .tail _ (.tail _ (.tail _ (.tail _ (.tail _ (.tail _ (List.mem_append_left _ (List.mem_append_left _ (List.mem_append_left _ (List.mem_append_right _ ho)))))))))) (fun o ho => .tail _ (.tail _ (.tail _ (.tail _ (.tail _ (.tail _ (List.mem_append_left _ (List.mem_append_left _ (List.mem_append_right _ ho))))))))) HL5.out).mono ?_); rintro e y6 ⟨rfl, hb⟩; have HX5 := Lib.hid (HX4.out.later hb); clear hb HX4)
    | (refine wpList_load_row7 rfl 39 (.tmp 9) rfl rfl (HX5.out.range (i := 1) rfl) tabR_row ?_)
    | (refine wl_putAt rfl (.tmp 43) (.tmp 41) rfl HX5.out 5 rfl (k := 1) rfl [.slice A3 n3 c3, .bool fr] rfl (by show 1 + 2 ≤ 3; decide) (by kernel_rfl) (by simp [Value.oneCell']) ?_; intro y7 hz _; have HX6 : Hid (OW w (osF ++ (bytO 5 (A1, c1, ec.row ++ mkL 70) :: bytO 5 (B1, d1, ec.qual ++ mkL 70) :: bytO 5 (D1, q1, ec.val ++ mkL 70) :: boxO pg [.pointer (some ⟨tg, 0, none⟩), .slice A3 n3 c3, .bool fr] :: boxO tg (tabC t2 fr) :: boxO g9 [.slice A3 n3 c3, .bool fr] :: boxO g7 [.slice A1 ec.row.length c1, .int .i64 ec.fam, .slice B1 ec.qual.length d1, .int .i64 ec.ts, .int .i64 ec.seq, .int .i64 ec.kind, .slice D1 ec.val.length q1] :: boxO g8 [.slice A2 ec.row.length c2, .int .i64 ec.fam, .slice B2 ec.qual.length d2, .int .i64 ec.ts, .int .i64 ec.seq, .int .i64 ec.kind, .slice D2 ec.val.length q2] :: boxO g4 [.slice r.A r.e.row.length r.c, .int .i64 r.e.fam, .slice r.B r.e.qual.length r.d, .int .i64 r.e.ts, .int .i64 r.e.seq, .int .i64 r.e.kind, .slice r.D r.e.val.length r.q] :: (((RR ++ entO A2 B2 D2 c2 d2 q2 ec) ++ ns1) ++ ns2))) y7) := Lib.hid (OW.perm (os := boxO tg (tabC t2 fr) :: boxO g9 [.slice A3 n3 c3, .bool fr] :: boxO g7 [.slice A1 ec.row.length c1, .int .i64 ec.fam, .slice B1 ec.qual.length d1, .int .i64 ec.ts, .int .i64 ec.seq, .int .i64 ec.kind, .slice D1 ec.val.length q1] :: boxO g8 [.slice A2 ec.row.length c2, .int .i64 ec.fam, .slice B2 ec.qual.length d2, .int .i64 ec.ts, .int .i64 ec.seq, .int .i64 ec.kind, .slice D2 ec.val.length q2] :: boxO g4 [.slice r.A r.e.row.length r.c, .int .i64 r.e.fam, .slice r.B r.e.qual.length r.d, .int .i64 r.e.ts, .int .i64 r.e.seq, .int .i64 r.e.kind, .slice r.D r.e.val.length r.q] :: boxO pg [.pointer (some ⟨tg, 0, none⟩), .slice A3 n3 c3, .bool fr] :: (((((osF ++ RR) ++ entO A1 B1 D1 c1 d1 q1 ec) ++ entO A2 B2 D2 c2 d2 q2 ec) ++ ns1) ++ ns2)) hz (pa_perm2 _ _ _ _ _ _ _ _ _ _ _ _ _ _)); clear hz HX5)
    | (refine wpList_load_row7 rfl 30 (.tmp 7) rfl rfl (HX6.out.rangem (List.mem_append_right _ (.tail _ (.tail _ (.tail _ (.tail _ (.tail _ (.tail _ (.head _))))))))) ent_row8 ?_)
    | (go_at_call 32; go_must (refine (fentry_any ec HF.out HSB.out.1 HSB.out.2.1 HSB.out.2.2 HX6.out (by have := HL5.out; omega) (by have := HL5.out; omega) (by have := HL5.out; omega)).mono ?_); rintro e y8 ⟨rfl, osF', hf, hz⟩; have HF2 := Lib.hid hf; have HX7 := Lib.hid hz; clear hf hz HX6))
  go_ret
  refine ⟨rfl, ⟨pg, tg, t2, fr, A3, n3, c3, rs3⟩, ((boxO g9 [.slice A3 n3 c3, .bool fr] :: boxO g7 [.slice A1 ec.row.length c1, .int .i64 ec.fam, .slice B1 ec.qual.length d1, .int .i64 ec.ts, .int .i64 ec.seq, .int .i64 ec.kind, .slice D1 ec.val.length q1] :: boxO g8 [.slice A2 ec.row.length c2, .int .i64 ec.fam, .slice B2 ec.qual.length d2, .int .i64 ec.ts, .int .i64 ec.seq, .int .i64 ec.kind, .slice D2 ec.val.length q2] :: boxO g4 [.slice r.A r.e.row.length r.c, .int .i64 r.e.fam, .slice r.B r.e.qual.length r.d, .int .i64 r.e.ts, .int .i64 r.e.seq, .int .i64 r.e.kind, .slice r.D r.e.val.length r.q] :: entO A2 B2 D2 c2 d2 q2 ec) ++ ns1) ++ ns2, osF', rfl, rfl, rfl, ?_, HF2.out, ⟨HTB2.out.more fun o ho => ?_, ?_⟩, ?_⟩
  · show t2.list.length ≤ t.list.length + 1
    rw [← Tr.ents_len, HE2.out]; exact HLN.out
  · rcases List.mem_append.1 ho with ho | ho
    · exact List.mem_append_left _ ho
    · exact List.mem_append_right _ (List.mem_append_right _ ho)
  · show RT _ A3 n3 c3 rs3 t2.ents
    rw [HE2.out]
    exact HRT2.out.more fun o ho => (List.mem_append.1 ho).elim (fun ho => List.mem_append_left _ ho) (fun ho => List.mem_append_right _ (List.mem_append_left _ (List.mem_append_right _ ho)))
  · exact HX7.out.perm (List.Perm.append_left _ (pa_perm3 _ _ _ _ _ _ _ _ _ _))
end Go.Proofs.Ytdaoinhkagmbdaa
namespace Go.Proofs.Ytdaoinhkagmbdaa
open Go.RowKit
structure QS (w : World) (fg : Nat) (p : PS) (osF RR ms : List Ob) (z : World) : Prop where
  f : Fl fg osF
  ok : PSok ms p
  sub : ∀ o, o ∈ ms → o ∈ RR
  ow : OW w (osF ++ (p.box :: p.tab :: RR)) z
def QP (w : World) (fg : Nat) (p : PS) (RR ms : List Ob) (b : Nat) (e : Ending) (z : World) : Prop :=
  e = .returned (.bool true) ∧ ∃ p' osF' ns, p'.pg = p.pg ∧ p'.tg = p.tg ∧ p'.fr = p.fr ∧ p'.t.list.length ≤ b ∧ QS w fg p' osF' (RR ++ ns) (ms ++ ns) z
def DoOK (w : World) (fg pg tg : Nat) (fd : FuncId) (lb : List Value) (D : List Ob → Prop) (B : Nat → Nat) : Prop :=
  ∀ (i : Nat) (p : PS) (osF RR ms : List Ob) (z : World), i ≤ 80000 → p.pg = pg → p.tg = tg → QS w fg p osF RR ms z → D RR → p.t.list.length ≤ B i → Calls Try.prog fd ([Value.int .i64 (i : Nat)] ++ lb).toArray z (QP w fg p RR ms (B (i + 1)))
set_option maxRecDepth 100000 in
theorem nothing_any (w : World) (fg pg tg b : Nat) : DoOK w fg pg tg 36 [] (fun _ => True) (fun _ => b) := by
  intro i p osF RR ms z hi _ _ h _ hb
  have H := Lib.hid h
  have HB := Lib.hid hb
  clear h hb
  show Calls Try.prog 36 #[.int .i64 (i : Nat)] z _
  go_enter Try.func36, Try.ntmps36
  go_wp2_with fail
  go_ret
  exact ⟨rfl, p, osF, [], rfl, rfl, rfl, HB.out, by rw [List.append_nil, List.append_nil]; exact H.out⟩
def LoopI (fg pg tg : Nat) (fr : Bool) (b : Nat) (ms : List Ob) (mk : PS → List Ob → List Ob → List Ob) (os' : List Ob) : Prop :=
  ∃ (p' : PS) (osF' ns : List Ob), p'.pg = pg ∧ p'.tg = tg ∧ p'.fr = fr ∧ p'.t.list.length ≤ b ∧ Fl fg osF' ∧ PSok (ms ++ ns) p' ∧ os' = mk p' osF' ns
theorem LoopI.mk {fg pg tg : Nat} {fr : Bool} {b : Nat} {ms : List Ob} {mk : PS → List Ob → List Ob → List Ob} {os' : List Ob} (p' : PS) (osF' ns : List Ob) (h1 : p'.pg = pg) (h2 : p'.tg = tg) (h3 : p'.fr = fr) (h4 : p'.t.list.length ≤ b) (h5 : Fl fg osF') (h6 : PSok (ms ++ ns) p') (h7 : os' = mk p' osF' ns) : LoopI fg pg tg fr b ms mk os' := ⟨p', osF', ns, h1, h2, h3, h4, h5, h6, h7⟩
theorem clip_slB {os : List Ob} {s : ER} (h : EClip os s) (hc : checkE s.e = 0) : SlB (clipO s.A s.e.row) s.A s.e.row.length s.c ∧ SlB (clipO s.B s.e.qual) s.B s.e.qual.length s.d ∧ SlB (clipO s.D s.e.val) s.D s.e.val.length s.q := by
  have h1 := ok_of hc
  rw [h.c, h.d, h.q]
  exact ⟨slB_clip h.a (by have := h1.row; omega), slB_clip h.b (by have := h1.qual; omega), slB_clip h.v (by have := h1.val; omega)⟩
theorem clip3_in {a b c : Ob} {X : List Ob} (o : Ob) (h : o ∈ [a, b, c]) : o ∈ a :: b :: c :: X := List.mem_append_left X h
theorem al_perm0 (g8 g7 g6 g5 g4 p t b c : Ob) (F R : List Ob) : ((g8 :: g7 :: g6 :: g5 :: g4 :: (F ++ (p :: t :: R))) ++ [b, c]).Perm (F ++ (p :: t :: g8 :: g6 :: (([g7, g5, g4, b, c] ++ R) ++ []))) := by (refine perm_of_cnt fun a => ?_; (first | ((repeat (first | rw [cntO_app] | rw [cntO_cons] | rw [cntO_nil])) <;> omega) | ((simp only [cntO_app, cntO_cons, cntO_nil]) <;> omega)))
theorem al_perm1 (a b c p t g8 g6 : Ob) (F X P : List Ob) : (((F ++ (p :: t :: g8 :: g6 :: X)) ++ P) ++ [a, b, c]).Perm (F ++ (a :: b :: c :: (g8 :: g6 :: p :: t :: (X ++ P)))) := by (refine perm_of_cnt fun a => ?_; (first | ((repeat (first | rw [cntO_app] | rw [cntO_cons] | rw [cntO_nil])) <;> omega) | ((simp only [cntO_app, cntO_cons, cntO_nil]) <;> omega)))
theorem al_perm2 (a b c p t g8 g6 gy : Ob) (F X P : List Ob) : ((F ++ (a :: b :: c :: (g8 :: g6 :: p :: t :: (X ++ P)))) ++ [gy]).Perm ((gy :: F ++ (a :: b :: c :: (g8 :: g6 :: p :: t :: X))) ++ P) := by (refine perm_of_cnt fun a => ?_; (first | ((repeat (first | rw [cntO_app] | rw [cntO_cons] | rw [cntO_nil])) <;> omega) | ((simp only [cntO_app, cntO_cons, cntO_nil]) <;> omega)))
theorem al_perm3 (gy a b c p t g8 g6 : Ob) (F X P : List Ob) : ((gy :: F ++ (a :: b :: c :: (g8 :: g6 :: p :: t :: X))) ++ P).Perm (F ++ (a :: b :: c :: (p :: t :: (g8 :: g6 :: gy :: (X ++ P))))) := by (refine perm_of_cnt fun a => ?_; (first | ((repeat (first | rw [cntO_app] | rw [cntO_cons] | rw [cntO_nil])) <;> omega) | ((simp only [cntO_app, cntO_cons, cntO_nil]) <;> omega)))
theorem al_perm4 (p t g8 g6 gy : Ob) (F X P N : List Ob) : (F ++ (p :: t :: ((g8 :: g6 :: gy :: (X ++ P)) ++ N))).Perm (g8 :: (F ++ (p :: t :: (g6 :: gy :: ((X ++ P) ++ N))))) := by (refine perm_of_cnt fun a => ?_; (first | ((repeat (first | rw [cntO_app] | rw [cntO_cons] | rw [cntO_nil])) <;> omega) | ((simp only [cntO_app, cntO_cons, cntO_nil]) <;> omega)))
theorem al_perm5 (p t g8 g6 gy : Ob) (F X P N : List Ob) : (g8 :: (F ++ (p :: t :: (g6 :: gy :: ((X ++ P) ++ N))))).Perm ((gy :: (F ++ (p :: t :: g8 :: g6 :: (X ++ N)))) ++ P) := by (refine perm_of_cnt fun a => ?_; (first | ((repeat (first | rw [cntO_app] | rw [cntO_cons] | rw [cntO_nil])) <;> omega) | ((simp only [cntO_app, cntO_cons, cntO_nil]) <;> omega)))
theorem al_perm6 (p t g8 g6 D : Ob) (F X : List Ob) : ((F ++ (p :: t :: g8 :: g6 :: X)) ++ [D]).Perm ((g8 :: g6 :: (F ++ (p :: t :: X))) ++ [D]) := by (refine perm_of_cnt fun a => ?_; (first | ((repeat (first | rw [cntO_app] | rw [cntO_cons] | rw [cntO_nil])) <;> omega) | ((simp only [cntO_app, cntO_cons, cntO_nil]) <;> omega)))
theorem al_perm7 (p t g8 g6 : Ob) (F Y R N : List Ob) : (g8 :: g6 :: (F ++ (p :: t :: ((Y ++ R) ++ N)))).Perm (F ++ (p :: t :: (R ++ (g8 :: g6 :: (Y ++ N))))) := by (refine perm_of_cnt fun a => ?_; (first | ((repeat (first | rw [cntO_app] | rw [cntO_cons] | rw [cntO_nil])) <;> omega) | ((simp only [cntO_app, cntO_cons, cntO_nil]) <;> omega)))
set_option maxRecDepth 10000000 in
set_option maxHeartbeats 16000000 in
theorem pall_any {w x : World} {fg fd : Nat} {lb : List Value} {D : List Ob → Prop} {B : Nat → Nat} {p : PS} {osF RR ms : List Ob} (h : QS w fg p osF RR ms x) (hf : GoFn Try.prog fd) (hD : DoOK w fg p.pg p.tg fd lb D B) (hDR : D RR) (hDm : ∀ os os', D os → (∀ o, o ∈ os → o ∈ os') → D os') (hB0 : p.t.list.length ≤ B 0) (hB : ∀ i, i ≤ p.t.list.length → B i ≤ 80000) :
    Calls Try.prog 35 #[.pointer (some ⟨p.pg, 0, none⟩), .pointer (some ⟨fg, 0, none⟩), .func (.func fd) #[] lb.toArray] x (QP w fg p RR ms (B p.t.list.length)) := by
  obtain ⟨pg, tg, t, fr, A, n, c, rs⟩ := p
  have HQ := Lib.hid h
  have HF : Hid (Fl fg osF) := Lib.hid h.f
  have HTB : Hid (Tb ms t) := Lib.hid h.ok.tb
  have HRT : Hid (RT ms A n c rs t.ents) := Lib.hid h.ok.rt
  have HMS : Hid (∀ o, o ∈ ms → o ∈ RR) := Lib.hid h.sub
  have HGF := Lib.hid hf
  have HDO : Hid (DoOK w fg pg tg fd lb D B) := Lib.hid hD
  have HDR := Lib.hid hDR
  have HDM := Lib.hid hDm
  have HB0 : Hid (t.list.length ≤ B 0) := Lib.hid hB0
  have HBB : Hid (∀ i, i ≤ t.list.length → B i ≤ 80000) := Lib.hid hB
  have HLN : Hid (rs.length = n ∧ t.ents.length = n) := Lib.hid ((h.ok.rt.more (os' := osF ++ (PS.box ⟨pg, tg, t, fr, A, n, c, rs⟩ :: PS.tab ⟨pg, tg, t, fr, A, n, c, rs⟩ :: RR)) fun o ho => List.mem_append_right _ (.tail _ (.tail _ (h.sub o ho)))).lens h.ow)
  have hn8 : n ≤ 80000 := by have h1 := HLN.out.2; rw [Tr.ents_len] at h1; have h2 := hB 0 (Nat.zero_le _); have h3 : t.list.length ≤ B 0 := hB0; omega
  have HX0 : Hid (OW w (osF ++ (boxO pg [.pointer (some ⟨tg, 0, none⟩), .slice A n c, .bool fr] :: boxO tg (tabC t fr) :: RR)) x) := Lib.hid h.ow
  clear h hf hD hDR hDm hB0 hB
  show Calls Try.prog 35 #[.pointer (some ⟨pg, 0, none⟩), .pointer (some ⟨fg, 0, none⟩), .func (.func fd) #[] lb.toArray] x _
  refine calls_marks Try.func35 rfl ?_
  simp only [Try.ntmps35, List.size_toArray, List.length_cons, List.length_nil, Nat.reduceAdd, Nat.reduceSub, Array.replicate_succ, Array.replicate_zero, List.push_toArray, List.append_toArray, List.nil_append, List.cons_append]
  go_wp2_with (first
    | (refine wl_box rfl (.tmp 1) rfl [.pointer (some ⟨fg, 0, none⟩)] rfl HX0.out ?_; intro g4 x1 hz hb; have HX1 : Hid (OW w (boxO g4 [.pointer (some ⟨fg, 0, none⟩)] :: (osF ++ (boxO pg [.pointer (some ⟨tg, 0, none⟩), .slice A n c, .bool fr] :: boxO tg (tabC t fr) :: RR))) x1) := Lib.hid (hz.perm List.perm_append_comm); clear hz hb HX0)
    | (refine wl_box rfl (.tmp 2) rfl [.func (.func fd) #[] lb.toArray] rfl HX1.out ?_; intro g5 x2 hz hb; have HX2 : Hid (OW w (boxO g5 [.func (.func fd) #[] lb.toArray] :: boxO g4 [.pointer (some ⟨fg, 0, none⟩)] :: (osF ++ (boxO pg [.pointer (some ⟨tg, 0, none⟩), .slice A n c, .bool fr] :: boxO tg (tabC t fr) :: RR))) x2) := Lib.hid (hz.perm List.perm_append_comm); clear hz hb HX1)
    | (refine wl_alloc rfl rfl [.bool false] (.inr ⟨.bool false, by kernel_rfl, rfl⟩) HX2.out ?_; intro g6 x3 hz hb; have HX3 : Hid (OW w (boxO g6 [.bool false] :: boxO g5 [.func (.func fd) #[] lb.toArray] :: boxO g4 [.pointer (some ⟨fg, 0, none⟩)] :: (osF ++ (boxO pg [.pointer (some ⟨tg, 0, none⟩), .slice A n c, .bool fr] :: boxO tg (tabC t fr) :: RR))) x3) := Lib.hid (hz.perm List.perm_append_comm); clear hz hb HX2)
    | (refine wpList_load_cell rfl 22 (.tmp 13) rfl rfl (HX3.out.cellm (g := pg) (cs := [.pointer (some ⟨tg, 0, none⟩), .slice A n c, .bool fr]) (j := 1) (.tail _ (.tail _ (.tail _ (List.mem_append_right _ (.head _))))) rfl) (fun w => Try.isAgg22 w) ?_)
    | (refine wl_alloc rfl rfl [.slice none 0 0] (.inr ⟨.slice none 0 0, by kernel_rfl, rfl⟩) HX3.out ?_; intro g7 x4 hz hb; have HX4 : Hid (OW w (boxO g7 [.slice none 0 0] :: boxO g6 [.bool false] :: boxO g5 [.func (.func fd) #[] lb.toArray] :: boxO g4 [.pointer (some ⟨fg, 0, none⟩)] :: (osF ++ (boxO pg [.pointer (some ⟨tg, 0, none⟩), .slice A n c, .bool fr] :: boxO tg (tabC t fr) :: RR))) x4) := Lib.hid (hz.perm List.perm_append_comm); clear hz hb HX3)
    | (refine wl_put1 rfl (.tmp 7) (.tmp 14) rfl HX4.out 0 rfl 0 rfl (by simp) (.slice A n c) rfl (by kernel_rfl) rfl ?_; intro x5 hz _; have HX5 : Hid (OW w (boxO g7 [.slice A n c] :: boxO g6 [.bool false] :: boxO g5 [.func (.func fd) #[] lb.toArray] :: boxO g4 [.pointer (some ⟨fg, 0, none⟩)] :: (osF ++ (boxO pg [.pointer (some ⟨tg, 0, none⟩), .slice A n c, .bool fr] :: boxO tg (tabC t fr) :: RR))) x5) := Lib.hid hz; clear hz HX4)
    | (refine wl_alloc rfl rfl [.int .i64 0] (.inr ⟨.int .i64 0, by kernel_rfl, rfl⟩) HX5.out ?_; intro g8 x6 hz hb; have HX6 : Hid (OW w (boxO g8 [.int .i64 0] :: boxO g7 [.slice A n c] :: boxO g6 [.bool false] :: boxO g5 [.func (.func fd) #[] lb.toArray] :: boxO g4 [.pointer (some ⟨fg, 0, none⟩)] :: (osF ++ (boxO pg [.pointer (some ⟨tg, 0, none⟩), .slice A n c, .bool fr] :: boxO tg (tabC t fr) :: RR))) x6) := Lib.hid (hz.perm List.perm_append_comm); clear hz hb HX5)
    | (refine wl_put1 rfl (.tmp 8) (.const (.int .i64 0)) rfl HX6.out 0 rfl 0 rfl (by simp) (.int .i64 0) rfl (by kernel_rfl) rfl ?_; intro x7 hz _; have HX7 : Hid (OW w (boxO g8 [.int .i64 0] :: boxO g7 [.slice A n c] :: boxO g6 [.bool false] :: boxO g5 [.func (.func fd) #[] lb.toArray] :: boxO g4 [.pointer (some ⟨fg, 0, none⟩)] :: (osF ++ (boxO pg [.pointer (some ⟨tg, 0, none⟩), .slice A n c, .bool fr] :: boxO tg (tabC t fr) :: RR))) x7) := Lib.hid hz; clear hz HX6)
    | (refine wpList_load_cell rfl 24 (.tmp 17) rfl rfl (HX7.out.cellm (g := pg) (cs := [.pointer (some ⟨tg, 0, none⟩), .slice A n c, .bool fr]) (j := 0) (.tail _ (.tail _ (.tail _ (.tail _ (.tail _ (List.mem_append_right _ (.head _))))))) rfl) (fun w => Try.isAgg24 w) ?_)
    | (go_at_call 12; go_must (refine (all_any8 tg _).mono ?_); rintro e x8 ⟨b24, b83, rfl, hz⟩; have HY : Hid (OW w (osF ++ (boxO pg [.pointer (some ⟨tg, 0, none⟩), .slice A n c, .bool fr] :: boxO tg (tabC t fr) :: boxO g8 [.int .i64 0] :: boxO g6 [.bool false] :: (([boxO g7 [.slice A n c], boxO g5 [.func (.func fd) #[] lb.toArray], boxO g4 [.pointer (some ⟨fg, 0, none⟩)], boxO b24 [.pointer (some ⟨tg, 0, none⟩)], boxO b83 [.func (.func 42) #[] #[]]] ++ RR) ++ []))) x8) := Lib.hid ((HX7.out.app hz).perm (al_perm0 _ _ _ _ _ _ _ _ _ _ _)); clear hz HX7))
  have HIT : Hid (ItT t (fun _ => True) RR) := Lib.hid (HTB.out.it HMS.out)
  have HCK := Lib.hid HTB.out.chk
  obtain ⟨m7, hm7⟩ : ∃ z, z = t.list.length := ⟨_, rfl⟩
  have HM7 : Hid (t.ents.length = m7) := Lib.hid (by rw [Tr.ents_len]; exact hm7.symm)
  rw [← hm7] at HBB
  have HBF := Lib.hid hm7
  clear hm7
  refine wp_rangeQ (w := w) (L := t.ents) (Hand := HandM) rfl (enters_of Try.func67 (by kernel_rfl) rfl) (allIter tg b24 b83 t fr) (fun _ _ _ _ h => h.ok)
    (fun pre os' => LoopI fg pg tg fr (B pre.length) ms (fun p' osF' ns => osF' ++ (p'.box :: p'.tab :: boxO g8 [.int .i64 (pre.length : Nat)] :: boxO g6 [.bool false] :: (([boxO g7 [.slice A n c], boxO g5 [.func (.func fd) #[] lb.toArray], boxO g4 [.pointer (some ⟨fg, 0, none⟩)], boxO b24 [.pointer (some ⟨tg, 0, none⟩)], boxO b83 [.func (.func 42) #[] #[]]] ++ RR) ++ ns))) os') (fun _ _ _ => False) ?itr (os0 := osF ++ (boxO pg [.pointer (some ⟨tg, 0, none⟩), .slice A n c, .bool fr] :: boxO tg (tabC t fr) :: boxO g8 [.int .i64 0] :: boxO g6 [.bool false] :: (([boxO g7 [.slice A n c], boxO g5 [.func (.func fd) #[] lb.toArray], boxO g4 [.pointer (some ⟨fg, 0, none⟩)], boxO b24 [.pointer (some ⟨tg, 0, none⟩)], boxO b83 [.func (.func 42) #[] #[]]] ++ RR) ++ []))) (LoopI.mk ⟨pg, tg, t, fr, A, n, c, rs⟩ osF [] rfl rfl rfl HB0.out HF.out ⟨by rw [List.append_nil]; exact HTB.out, by rw [List.append_nil]; exact HRT.out⟩ rfl) ⟨List.mem_append_right _ (.tail _ (.tail _ (.tail _ (.tail _ (List.mem_append_left _ (List.mem_append_left _ (.tail _ (.tail _ (.tail _ (.head _)))))))))), List.mem_append_right _ (.tail _ (.tail _ (.tail _ (.tail _ (List.mem_append_left _ (List.mem_append_left _ (.tail _ (.tail _ (.tail _ (.tail _ (.head _))))))))))), List.mem_append_right _ (.tail _ (.head _))⟩ (HIT.out.more1 fun o ho => List.mem_append_right _ (.tail _ (.tail _ (.tail _ (.tail _ (List.mem_append_left _ (List.mem_append_right _ ho))))))) HY.out ?round ?done ?stop
  case itr =>
    rintro pre os' es ⟨p', osF', ns, _, _, _, _, _, _, rfl⟩
    exact HIT.out.more1 fun o ho => List.mem_append_left _ (List.mem_append_right _ (.tail _ (.tail _ (.tail _ (.tail _ (List.mem_append_left _ (List.mem_append_right _ ho)))))))
  case stop => exact fun D c' pre os' z _ h => h.elim
  case round =>
    rintro l p1 p2 pre e vs W0 W1 os' _ hpre ⟨⟨pg', tg', t', fr', A', n', c', rs'⟩, osF', ns, e1, e2, e3, hbl, hF', hP', rfl⟩ h0 ⟨s, rfl, rfl, hec, hh⟩
    have hlt := pre_at8 hpre
    obtain rfl : pg' = pg := e1
    obtain rfl : tg' = tg := e2
    obtain rfl : fr' = fr := e3
    obtain ⟨m, hm⟩ : ∃ z, z = pre.length := ⟨_, rfl⟩
    rw [← hm] at hlt h0 hbl
    have hm7 : m < m7 := by have h := (List.getElem?_eq_some_iff.1 hlt).1; rw [HM7.out] at h; exact h
    have hmn : m < n := by have h1 := HLN.out.2; have h2 := HM7.out; omega
    have HM := Lib.hid hm
    have HEC := Lib.hid hec
    have HF' := Lib.hid hF'
    have HP' := Lib.hid hP'
    have HBL : Hid (t'.list.length ≤ B m) := Lib.hid hbl
    have hck : checkE s.e = 0 := HCK.out s.e (List.mem_of_getElem? hlt)
    have HSB := Lib.hid (clip_slB hec hck)
    have HOK := Lib.hid (ok_of hck)
    obtain ⟨q, hq⟩ : ∃ q, rs[m]? = some q := ⟨_, List.getElem?_eq_getElem (by have := HLN.out.1; omega)⟩
    have HQI := Lib.hid hq
    have HQE : Hid (s.e = q.e) := Lib.hid (by
      have h1 : t.ents[m]? = some q.e := by rw [← HRT.out.e, List.getElem?_map, hq]; rfl
      rw [hlt] at h1; injection h1)
    have HQN : Hid (EIn ms q) := Lib.hid (HRT.out.en q (List.mem_of_getElem? hq))
    have HV : Hid (OW w (osF' ++ (clipO s.A s.e.row :: clipO s.B s.e.qual :: clipO s.D s.e.val :: (boxO g8 [.int .i64 (m : Nat)] :: boxO g6 [.bool false] :: boxO pg' [.pointer (some ⟨tg', 0, none⟩), .slice A' n' c', .bool fr'] :: boxO tg' (tabC t' fr') :: ((([boxO g7 [.slice A n c], boxO g5 [.func (.func fd) #[] lb.toArray], boxO g4 [.pointer (some ⟨fg, 0, none⟩)], boxO b24 [.pointer (some ⟨tg', 0, none⟩)], boxO b83 [.func (.func 42) #[] #[]]] ++ RR) ++ ns) ++ p1)))) W1) := Lib.hid ((h0.app hh).perm (al_perm1 _ _ _ _ _ _ _ _ _ _))
    have i0 : (0 : Int) ≤ (m : Int) := by omega
    have i1 : (m : Int) < (n : Int) := by omega
    have i2 : decide ((m : Int) ≥ (n : Int)) = false := decide_eq_false (by omega)
    have i3 : ¬ n ≤ m := by omega
    have s2 : IntKind.i64.wrap ((m : Int) + 1) = (m : Int) + 1 := i64_sum (by omega) (by omega)
    obtain ⟨mg, rfl⟩ : ∃ mg, A = some ⟨mg, 0, none⟩ := by
      obtain ⟨mg, mcap, hv, _⟩ := own_form (HV.out.rowm (List.mem_append_right _ (.tail _ (.tail _ (.tail _ (.tail _ (.tail _ (.tail _ (.tail _ (List.mem_append_left _ (List.mem_append_left _ (List.mem_append_right _ (HMS.out _ HRT.out.row))))))))))))) (show 0 < n by omega)
      injection hv with hv _ _
      exact ⟨mg, hv⟩
    clear hlt hpre h0 hh hec hm hF' hP' hck hq HY hbl
    have hsem : ∀ (ρ : Operand → Value) (o : Oper), (∀ c, o.op ≠ .defer c) → Oper.semAt (some l) ρ o = execOp ρ o := fun ρ o h => Oper.semAt_some l ρ o h
    unfold RoundOK
    rw [setP1]
    simp only [List.setIfInBounds_toArray, List.set_cons_zero, List.set_cons_succ]
    gi_wp2_with (first
      | (refine wlIn_one rfl ?_; refine wl_alloc rfl rfl [.slice none 0 0, .int .i64 0, .slice none 0 0, .int .i64 0, .int .i64 0, .int .i64 0, .slice none 0 0] (.inl (by kernel_rfl)) HV.out ?_; intro gy z1 hz _; have HV1 : Hid (OW w ((boxO gy [.slice none 0 0, .int .i64 0, .slice none 0 0, .int .i64 0, .int .i64 0, .int .i64 0, .slice none 0 0] :: osF' ++ (clipO s.A s.e.row :: clipO s.B s.e.qual :: clipO s.D s.e.val :: (boxO g8 [.int .i64 (m : Nat)] :: boxO g6 [.bool false] :: boxO pg' [.pointer (some ⟨tg', 0, none⟩), .slice A' n' c', .bool fr'] :: boxO tg' (tabC t' fr') :: (([boxO g7 [.slice (some ⟨mg, 0, none⟩) n c], boxO g5 [.func (.func fd) #[] lb.toArray], boxO g4 [.pointer (some ⟨fg, 0, none⟩)], boxO b24 [.pointer (some ⟨tg', 0, none⟩)], boxO b83 [.func (.func 42) #[] #[]]] ++ RR) ++ ns)))) ++ p1) z1) := Lib.hid (hz.perm (al_perm2 _ _ _ _ _ _ _ _ _ _ _)); clear hz HV; refine wlIn_back ?_)
      | (refine wlIn_one rfl ?_; refine wl_put rfl (.tmp 9) (.tmp 20) rfl HV1.out 0 rfl rfl [.slice s.A s.e.row.length s.c, .int .i64 s.e.fam, .slice s.B s.e.qual.length s.d, .int .i64 s.e.ts, .int .i64 s.e.seq, .int .i64 s.e.kind, .slice s.D s.e.val.length s.q] rfl rfl (by kernel_rfl) (by simp [Value.oneCell']) ?_; intro z2 hz _; have HV2 : Hid (OW w ((boxO gy [.slice s.A s.e.row.length s.c, .int .i64 s.e.fam, .slice s.B s.e.qual.length s.d, .int .i64 s.e.ts, .int .i64 s.e.seq, .int .i64 s.e.kind, .slice s.D s.e.val.length s.q] :: osF' ++ (clipO s.A s.e.row :: clipO s.B s.e.qual :: clipO s.D s.e.val :: (boxO g8 [.int .i64 (m : Nat)] :: boxO g6 [.bool false] :: boxO pg' [.pointer (some ⟨tg', 0, none⟩), .slice A' n' c', .bool fr'] :: boxO tg' (tabC t' fr') :: (([boxO g7 [.slice (some ⟨mg, 0, none⟩) n c], boxO g5 [.func (.func fd) #[] lb.toArray], boxO g4 [.pointer (some ⟨fg, 0, none⟩)], boxO b24 [.pointer (some ⟨tg', 0, none⟩)], boxO b83 [.func (.func 42) #[] #[]]] ++ RR) ++ ns)))) ++ p1) z2) := Lib.hid hz; clear hz HV1; refine wlIn_back ?_))
    refine ⟨_, HV2.out, fun z3 hz3 => ?_⟩
    have HW3 : Hid (OW w (osF' ++ (clipO s.A s.e.row :: clipO s.B s.e.qual :: clipO s.D s.e.val :: (boxO pg' [.pointer (some ⟨tg', 0, none⟩), .slice A' n' c', .bool fr'] :: boxO tg' (tabC t' fr') :: (boxO g8 [.int .i64 (m : Nat)] :: boxO g6 [.bool false] :: boxO gy [.slice s.A s.e.row.length s.c, .int .i64 s.e.fam, .slice s.B s.e.qual.length s.d, .int .i64 s.e.ts, .int .i64 s.e.seq, .int .i64 s.e.kind, .slice s.D s.e.val.length s.q] :: ((([boxO g7 [.slice (some ⟨mg, 0, none⟩) n c], boxO g5 [.func (.func fd) #[] lb.toArray], boxO g4 [.pointer (some ⟨fg, 0, none⟩)], boxO b24 [.pointer (some ⟨tg', 0, none⟩)], boxO b83 [.func (.func 42) #[] #[]]] ++ RR) ++ ns) ++ p2))))) z3) := Lib.hid (OW.perm (os := (boxO gy [.slice s.A s.e.row.length s.c, .int .i64 s.e.fam, .slice s.B s.e.qual.length s.d, .int .i64 s.e.ts, .int .i64 s.e.seq, .int .i64 s.e.kind, .slice s.D s.e.val.length s.q] :: osF' ++ (clipO s.A s.e.row :: clipO s.B s.e.qual :: clipO s.D s.e.val :: (boxO g8 [.int .i64 (m : Nat)] :: boxO g6 [.bool false] :: boxO pg' [.pointer (some ⟨tg', 0, none⟩), .slice A' n' c', .bool fr'] :: boxO tg' (tabC t' fr') :: (([boxO g7 [.slice (some ⟨mg, 0, none⟩) n c], boxO g5 [.func (.func fd) #[] lb.toArray], boxO g4 [.pointer (some ⟨fg, 0, none⟩)], boxO b24 [.pointer (some ⟨tg', 0, none⟩)], boxO b83 [.func (.func 42) #[] #[]]] ++ RR) ++ ns)))) ++ p2) hz3 (al_perm3 _ _ _ _ _ _ _ _ _ _ _))
    clear hz3 HV2
    gi_wp2
    refine lt_startIn [] (by kernel_rfl) (by kernel_rfl) (fun _ _ h => h) ?_
    intro xd hd
    refine ⟨fun z => Below z3.heap.size z3 z, ?_⟩
    have HS := Lib.hid (hd)
    refine lt_take 0 [3, 4, 5, 6, 7, 8, 9, 10, 11, 12] rfl (by kernel_rfl) (by kernel_rfl) (by kernel_rfl) (by kernel_rfl) (by kernel_rfl) (fun _ _ _ h => h) (yi_cell rfl rfl rfl (fun w hS => (HW3.out.later hS).cellm (g := g8) (cs := [.int .i64 (m : Nat)]) (j := 0) (List.mem_append_right _ (.tail _ (.tail _ (.tail _ (.tail _ (.tail _ (.head _))))))) rfl) (fun w => Try.isAgg3 w)) HS.out ?_
    simp only [Act.put, List.setIfInBounds_toArray, List.set_cons_zero, List.set_cons_succ]
    refine lt_take 1 [2, 3, 4, 5, 6, 7, 8, 9, 10, 11, 12] rfl (by kernel_rfl) (by kernel_rfl) (by kernel_rfl) (by kernel_rfl) (by kernel_rfl) (fun _ _ _ h => h) (yi_cell rfl rfl rfl (fun w hS => (HW3.out.later hS).cellm (g := g7) (cs := [.slice (some ⟨mg, 0, none⟩) n c]) (j := 0) (List.mem_append_right _ (.tail _ (.tail _ (.tail _ (.tail _ (.tail _ (.tail _ (.tail _ (.tail _ (List.mem_append_left _ (List.mem_append_left _ (List.mem_append_left _ (.head _))))))))))))) rfl) (fun w => Try.isAgg22 w)) HS.out ?_
    simp only [Act.put, List.setIfInBounds_toArray, List.set_cons_zero, List.set_cons_succ]
    refine lt_pure 2 rfl (by kernel_rfl) (by kernel_rfl) (by kernel_rfl) (by kernel_rfl) (fun _ _ _ h => h) (v := ?_) (yi_run rfl (fun w => ?_)) (fun _ => HS.out) ?_
    rotate_left
    · first | (go_simp; done) | (go_simp; with_reducible rfl)
    simp only [Act.put, List.setIfInBounds_toArray, List.set_cons_zero, List.set_cons_succ]
    refine lt_pure 3 rfl (by kernel_rfl) (by kernel_rfl) (by kernel_rfl) (by kernel_rfl) (fun _ _ _ h => h) (v := ?_) (yi_run rfl (fun w => ?_)) (fun _ => HS.out) ?_
    rotate_left
    · first | (go_simp; done) | (go_simp; with_reducible rfl)
    simp only [Act.put, List.setIfInBounds_toArray, List.set_cons_zero, List.set_cons_succ]
    refine lt_pure 4 rfl (by kernel_rfl) (by kernel_rfl) (by kernel_rfl) (by kernel_rfl) (fun _ _ _ h => h) (v := ?_) (yi_run rfl (fun w => ?_)) (fun _ => HS.out) ?_
    rotate_left
    · first | (go_simp; done) | (go_simp; with_reducible rfl)
    simp only [Act.put, List.setIfInBounds_toArray, List.set_cons_zero, List.set_cons_succ]
    refine lt_take 5 [10, 11, 12] rfl (by kernel_rfl) (by kernel_rfl) (by kernel_rfl) (by kernel_rfl) (by kernel_rfl) (fun _ _ _ h => h) (yi_row rfl rfl rfl (fun w hS => (HW3.out.later hS).rangem (List.mem_append_right _ (.tail _ (.tail _ (.tail _ (.tail _ (.tail _ (.tail _ (.tail _ (.head _)))))))))) ent_row8) HS.out ?_
    simp only [Act.put, List.setIfInBounds_toArray, List.set_cons_zero, List.set_cons_succ]
    refine lt_take 6 [8, 9, 10, 11, 12] rfl (by kernel_rfl) (by kernel_rfl) (by kernel_rfl) (by kernel_rfl) (by kernel_rfl) (fun _ _ _ h => h) (yi_cell rfl rfl rfl (fun w hS => (HW3.out.later hS).cellm (g := g7) (cs := [.slice (some ⟨mg, 0, none⟩) n c]) (j := 0) (List.mem_append_right _ (.tail _ (.tail _ (.tail _ (.tail _ (.tail _ (.tail _ (.tail _ (.tail _ (List.mem_append_left _ (List.mem_append_left _ (List.mem_append_left _ (.head _))))))))))))) rfl) (fun w => Try.isAgg22 w)) HS.out ?_
    simp only [Act.put, List.setIfInBounds_toArray, List.set_cons_zero, List.set_cons_succ]
    refine lt_take 7 [8, 9, 10, 11, 12] rfl (by kernel_rfl) (by kernel_rfl) (by kernel_rfl) (by kernel_rfl) (by kernel_rfl) (fun _ _ _ h => h) (yi_cell rfl rfl rfl (fun w hS => (HW3.out.later hS).cellm (g := g8) (cs := [.int .i64 (m : Nat)]) (j := 0) (List.mem_append_right _ (.tail _ (.tail _ (.tail _ (.tail _ (.tail _ (.head _))))))) rfl) (fun w => Try.isAgg3 w)) HS.out ?_
    simp only [Act.put, List.setIfInBounds_toArray, List.set_cons_zero, List.set_cons_succ]
    refine lt_pure 8 rfl (by kernel_rfl) (by kernel_rfl) (by kernel_rfl) (by kernel_rfl) (fun _ _ _ h => h) (v := ?_) (yi_run rfl (fun w => ?_)) (fun _ => HS.out) ?_
    rotate_left
    · first | (go_simp; done) | (go_simp; with_reducible rfl)
    simp only [Act.put, List.setIfInBounds_toArray, List.set_cons_zero, List.set_cons_succ]
    refine lt_take 9 [10, 11, 12] rfl (by kernel_rfl) (by kernel_rfl) (by kernel_rfl) (by kernel_rfl) (by kernel_rfl) (fun _ _ _ h => h) (yi_rowO rfl rfl rfl (fun w hS => rowRangeM (HW3.out.later hS) (List.mem_append_right _ (.tail _ (.tail _ (.tail _ (.tail _ (.tail _ (.tail _ (.tail _ (.tail _ (List.mem_append_left _ (List.mem_append_left _ (List.mem_append_right _ (HMS.out _ HRT.out.row))))))))))))) HQI.out) ent_row8) HS.out ?_
    simp only [Act.put, List.setIfInBounds_toArray, List.set_cons_zero, List.set_cons_succ]
    refine lt_call 10 rfl (by kernel_rfl) rfl rfl ⟨_, Try.func13, by decide, by kernel_rfl⟩ [.agg #[.slice s.A s.e.row.length s.c, .int .i64 s.e.fam, .slice s.B s.e.qual.length s.d, .int .i64 s.e.ts, .int .i64 s.e.seq, .int .i64 s.e.kind, .slice s.D s.e.val.length s.q], .agg #[.slice q.A q.e.row.length q.c, .int .i64 q.e.fam, .slice q.B q.e.qual.length q.d, .int .i64 q.e.ts, .int .i64 q.e.seq, .int .i64 q.e.kind, .slice q.D q.e.val.length q.q]] rfl ?_
    refine (sameEntry_yes s q _ HQE.out ((HEC.out.more (fun o ho => List.mem_append_right _ (clip3_in o ho))).en (HW3.out.later HS.out)) ((HQN.out.more fun o ho => List.mem_append_right _ (.tail _ (.tail _ (.tail _ (.tail _ (.tail _ (.tail _ (.tail _ (.tail _ (List.mem_append_left _ (List.mem_append_left _ (List.mem_append_right _ (HMS.out o ho))))))))))))).en (HW3.out.later HS.out))).mono ?_
    rintro e z4 ⟨rfl, hb⟩
    replace HS := Lib.hid (HS.out.trans (hb.mono HS.out.size))
    clear hb
    refine ⟨_, rfl, fun _ => HS.out, ?_⟩
    simp only [Act.put, List.setIfInBounds_toArray, List.set_cons_zero, List.set_cons_succ]
    refine lt_pure 11 rfl (by kernel_rfl) (by kernel_rfl) (by kernel_rfl) (by kernel_rfl) (fun _ _ _ h => h) (v := ?_) (yi_run rfl (fun w => ?_)) (fun _ => HS.out) ?_
    rotate_left
    · first | (go_simp; done) | (go_simp; with_reducible rfl)
    simp only [Act.put, List.setIfInBounds_toArray, List.set_cons_zero, List.set_cons_succ]
    refine lt_pure 12 rfl (by kernel_rfl) (by kernel_rfl) (by kernel_rfl) (by kernel_rfl) (fun _ _ _ h => h) (v := ?_) (yi_run rfl (fun w => ?_)) (fun _ => HS.out) ?_
    rotate_left
    · first | (go_simp; done) | (go_simp; with_reducible rfl)
    simp only [Act.put, List.setIfInBounds_toArray, List.set_cons_zero, List.set_cons_succ]
    refine lt_done (by kernel_rfl) ?_
    replace HW3 := Lib.hid (HW3.out.later HS.out)
    clear HS
    gi_wp2_with (first
      | (refine wlIn_one rfl ?_; refine wpList_load_cell rfl 68 (.tmp 4) rfl rfl (HW3.out.cellm (g := g4) (cs := [.pointer (some ⟨fg, 0, none⟩)]) (j := 0) (List.mem_append_right _ (.tail _ (.tail _ (.tail _ (.tail _ (.tail _ (.tail _ (.tail _ (.tail _ (List.mem_append_left _ (List.mem_append_left _ (List.mem_append_left _ (.tail _ (.tail _ (.head _))))))))))))))) rfl) (fun w => Try.isAgg68 w) ?_; refine wlIn_back ?_)
      | (refine wlIn_one rfl ?_; refine wpList_load_row7 rfl 30 (.tmp 9) rfl rfl (HW3.out.rangem (List.mem_append_right _ (.tail _ (.tail _ (.tail _ (.tail _ (.tail _ (.tail _ (.tail _ (.head _)))))))))) ent_row8 ?_; refine wlIn_back ?_)
      | (refine ⟨trivial, ?_⟩; gi_at_call 32; go_must (refine CallsIn.mono (callsIn_fw (ro := some l) (fentry_any s.e HF'.out HSB.out.1 HSB.out.2.1 HSB.out.2.2 HW3.out (by have := HOK.out.row; omega) (by have := HOK.out.qual; omega) (by have := HOK.out.val; omega))) ?_); rintro e z5 ⟨rfl, osF5, hf5, hz⟩; have HF5 := Lib.hid hf5; have HW5 : Hid (OW w (osF5 ++ (boxO pg' [.pointer (some ⟨tg', 0, none⟩), .slice A' n' c', .bool fr'] :: boxO tg' (tabC t' fr') :: (boxO g8 [.int .i64 (m : Nat)] :: boxO g6 [.bool false] :: boxO gy [.slice s.A s.e.row.length s.c, .int .i64 s.e.fam, .slice s.B s.e.qual.length s.d, .int .i64 s.e.ts, .int .i64 s.e.seq, .int .i64 s.e.kind, .slice s.D s.e.val.length s.q] :: ((([boxO g7 [.slice (some ⟨mg, 0, none⟩) n c], boxO g5 [.func (.func fd) #[] lb.toArray], boxO g4 [.pointer (some ⟨fg, 0, none⟩)], boxO b24 [.pointer (some ⟨tg', 0, none⟩)], boxO b83 [.func (.func 42) #[] #[]]] ++ RR) ++ ns) ++ p2)))) z5) := Lib.hid hz; clear hf5 hz HW3)
      | (refine wlIn_one rfl ?_; refine wpList_load_cell rfl 75 (.tmp 5) rfl rfl (HW5.out.cellm (g := g5) (cs := [.func (.func fd) #[] lb.toArray]) (j := 0) (List.mem_append_right _ (.tail _ (.tail _ (.tail _ (.tail _ (.tail _ (List.mem_append_left _ (List.mem_append_left _ (List.mem_append_left _ (.tail _ (.head _))))))))))) rfl) (fun w => Try.isAgg75 w) ?_; refine wlIn_back ?_)
      | (refine wlIn_one rfl ?_; refine wpList_load_cell rfl 3 (.tmp 8) rfl rfl (HW5.out.cellm (g := g8) (cs := [.int .i64 (m : Nat)]) (j := 0) (List.mem_append_right _ (.tail _ (.tail _ (.head _)))) rfl) (fun w => Try.isAgg3 w) ?_; refine wlIn_back ?_)
      | (refine wlIn_one rfl ?_; refine wl_call_dyn rfl (xs := [.tmp 38]) (lb := lb) rfl rfl HGF.out [.int .i64 (m : Nat)] rfl ?_; refine (HDO.out m ⟨pg', tg', t', fr', A', n', c', rs'⟩ osF5 (boxO g8 [.int .i64 (m : Nat)] :: boxO g6 [.bool false] :: boxO gy [.slice s.A s.e.row.length s.c, .int .i64 s.e.fam, .slice s.B s.e.qual.length s.d, .int .i64 s.e.ts, .int .i64 s.e.seq, .int .i64 s.e.kind, .slice s.D s.e.val.length s.q] :: ((([boxO g7 [.slice (some ⟨mg, 0, none⟩) n c], boxO g5 [.func (.func fd) #[] lb.toArray], boxO g4 [.pointer (some ⟨fg, 0, none⟩)], boxO b24 [.pointer (some ⟨tg', 0, none⟩)], boxO b83 [.func (.func 42) #[] #[]]] ++ RR) ++ ns) ++ p2)) (ms ++ ns) _ (by omega) rfl rfl ⟨HF5.out, HP'.out, fun o ho => .tail _ (.tail _ (.tail _ (List.mem_append_left _ ((List.mem_append.1 ho).elim (fun ho => List.mem_append_left _ (List.mem_append_right _ (HMS.out o ho))) (fun ho => List.mem_append_right _ ho))))), HW5.out⟩ (HDM.out _ _ HDR.out fun o ho => .tail _ (.tail _ (.tail _ (List.mem_append_left _ (List.mem_append_left _ (List.mem_append_right _ ho)))))) HBL.out).mono ?_; rintro e z6 ⟨rfl, ⟨pg6, tg6, t6, fr6, A6, n6, c6, rs6⟩, osF6, ns6, e1, e2, e3, hb6, hq6⟩; (obtain rfl : pg' = pg6 := e1.symm); (obtain rfl : tg' = tg6 := e2.symm); (obtain rfl : fr' = fr6 := e3.symm); have HB6 : Hid (t6.list.length ≤ B (m + 1)) := Lib.hid hb6; have HQ6f := Lib.hid hq6.f; have HQ6k := Lib.hid hq6.ok; have HW6 : Hid (OW w (boxO g8 [.int .i64 (m : Nat)] :: (osF6 ++ (boxO pg' [.pointer (some ⟨tg', 0, none⟩), .slice A6 n6 c6, .bool fr'] :: boxO tg' (tabC t6 fr') :: (boxO g6 [.bool false] :: boxO gy [.slice s.A s.e.row.length s.c, .int .i64 s.e.fam, .slice s.B s.e.qual.length s.d, .int .i64 s.e.ts, .int .i64 s.e.seq, .int .i64 s.e.kind, .slice s.D s.e.val.length s.q] :: (((([boxO g7 [.slice (some ⟨mg, 0, none⟩) n c], boxO g5 [.func (.func fd) #[] lb.toArray], boxO g4 [.pointer (some ⟨fg, 0, none⟩)], boxO b24 [.pointer (some ⟨tg', 0, none⟩)], boxO b83 [.func (.func 42) #[] #[]]] ++ RR) ++ ns) ++ p2) ++ ns6))))) z6) := Lib.hid (hq6.ow.perm (al_perm4 _ _ _ _ _ _ _ _ _)); clear hb6 hq6 HW5; refine ⟨_, rfl, ?_⟩; refine wlIn_back ?_)
      | (refine wlIn_one rfl ?_; refine wpList_load_cell rfl 3 (.tmp 8) rfl rfl (HW6.out.cell (i := 0) (j := 0) rfl rfl) (fun w => Try.isAgg3 w) ?_; refine wlIn_back ?_)
      | (refine wlIn_one rfl ?_; refine wl_put1 rfl (.tmp 8) (.tmp 42) rfl HW6.out 0 rfl 0 rfl (by simp) (.int .i64 ((m : Int) + 1)) rfl (by kernel_rfl) rfl ?_; intro z7 hz _; have HW7 : Hid (OW w ((boxO gy [.slice s.A s.e.row.length s.c, .int .i64 s.e.fam, .slice s.B s.e.qual.length s.d, .int .i64 s.e.ts, .int .i64 s.e.seq, .int .i64 s.e.kind, .slice s.D s.e.val.length s.q] :: (osF6 ++ (boxO pg' [.pointer (some ⟨tg', 0, none⟩), .slice A6 n6 c6, .bool fr'] :: boxO tg' (tabC t6 fr') :: boxO g8 [.int .i64 ((m : Int) + 1)] :: boxO g6 [.bool false] :: ((([boxO g7 [.slice (some ⟨mg, 0, none⟩) n c], boxO g5 [.func (.func fd) #[] lb.toArray], boxO g4 [.pointer (some ⟨fg, 0, none⟩)], boxO b24 [.pointer (some ⟨tg', 0, none⟩)], boxO b83 [.func (.func 42) #[] #[]]] ++ RR) ++ ns) ++ ns6)))) ++ p2) z7) := Lib.hid (OW.perm (os := boxO g8 [.int .i64 ((m : Int) + 1)] :: (osF6 ++ (boxO pg' [.pointer (some ⟨tg', 0, none⟩), .slice A6 n6 c6, .bool fr'] :: boxO tg' (tabC t6 fr') :: (boxO g6 [.bool false] :: boxO gy [.slice s.A s.e.row.length s.c, .int .i64 s.e.fam, .slice s.B s.e.qual.length s.d, .int .i64 s.e.ts, .int .i64 s.e.seq, .int .i64 s.e.kind, .slice s.D s.e.val.length s.q] :: (((([boxO g7 [.slice (some ⟨mg, 0, none⟩) n c], boxO g5 [.func (.func fd) #[] lb.toArray], boxO g4 [.pointer (some ⟨fg, 0, none⟩)], boxO b24 [.pointer (some ⟨tg', 0, none⟩)], boxO b83 [.func (.func 42) #[] #[]]] ++ RR) ++ ns) ++ p2) ++ ns6))))) hz (al_perm5 _ _ _ _ _ _ _ _ _)); clear hz HW6; refine wlIn_back ?_))
    refine ⟨_, LoopI.mk ⟨pg', tg', t6, fr', A6, n6, c6, rs6⟩ osF6 (ns ++ ns6) rfl rfl rfl ?_ HQ6f.out ?_ rfl, ?_⟩
    · rw [List.length_append, ← HM.out]; exact HB6.out
    · rw [← List.append_assoc]; exact HQ6k.out
    · rw [List.length_append, ← HM.out, ← List.append_assoc]
      exact HW7.out.erase 0
  case done =>
    rintro D os' z ⟨⟨pg', tg', t', fr', A', n', c', rs'⟩, osF', ns, e1, e2, e3, hbl, hF', hP', rfl⟩ h
    obtain rfl : pg' = pg := e1
    obtain rfl : tg' = tg := e2
    obtain rfl : fr' = fr := e3
    rw [HM7.out] at h hbl
    have hmn : m7 = n := by have h1 := HLN.out.2; have h2 := HM7.out; omega
    have HMN := Lib.hid hmn
    have e8 : (m7 == n) = true := by rw [hmn]; simp
    have e9 : ((m7 : Int) == (n : Int)) = true := by rw [hmn]; simp
    have HF' := Lib.hid hF'
    have HP' := Lib.hid hP'
    have HBL : Hid (t'.list.length ≤ B m7) := Lib.hid hbl
    have HZ : Hid (OW w ((boxO g8 [.int .i64 (m7 : Nat)] :: boxO g6 [.bool false] :: (osF' ++ (boxO pg' [.pointer (some ⟨tg', 0, none⟩), .slice A' n' c', .bool fr'] :: boxO tg' (tabC t' fr') :: (([boxO g7 [.slice A n c], boxO g5 [.func (.func fd) #[] lb.toArray], boxO g4 [.pointer (some ⟨fg, 0, none⟩)], boxO b24 [.pointer (some ⟨tg', 0, none⟩)], boxO b83 [.func (.func 42) #[] #[]]] ++ RR) ++ ns)))) ++ [dfrO D]) z) := Lib.hid (h.perm (al_perm6 _ _ _ _ _ _ _))
    clear h hF' hP' hbl HY hmn
    go_wp2_with (first
      | (refine wpList_load_cell rfl 3 (.tmp 8) rfl rfl (HZ.out.cell (i := 0) (j := 0) rfl rfl) (fun w => Try.isAgg3 w) ?_)
      | (refine wpList_load_cell rfl 22 (.tmp 7) rfl rfl (HZ.out.cellm (g := g7) (cs := [.slice A n c]) (j := 0) (List.mem_append_left _ (.tail _ (.tail _ (List.mem_append_right _ (.tail _ (.tail _ (List.mem_append_left _ (List.mem_append_left _ (.head _))))))))) rfl) (fun w => Try.isAgg22 w) ?_)
      | (refine wl_put1 rfl (.tmp 6) (.tmp 46) rfl HZ.out 1 rfl 0 rfl (by simp) (.bool true) rfl (by kernel_rfl) rfl ?_; intro z8 hz _; have HZ2 : Hid (OW w ((boxO g8 [.int .i64 (m7 : Nat)] :: boxO g6 [.bool true] :: (osF' ++ (boxO pg' [.pointer (some ⟨tg', 0, none⟩), .slice A' n' c', .bool fr'] :: boxO tg' (tabC t' fr') :: (([boxO g7 [.slice A n c], boxO g5 [.func (.func fd) #[] lb.toArray], boxO g4 [.pointer (some ⟨fg, 0, none⟩)], boxO b24 [.pointer (some ⟨tg', 0, none⟩)], boxO b83 [.func (.func 42) #[] #[]]] ++ RR) ++ ns)))) ++ dfrO D :: []) z8) := Lib.hid hz; clear hz HZ))
    refine leaves_mark HZ2.out fun z' hz' => leaves0 (results_cell1 rfl _ _ g6 (.bool true) rfl (hz'.cell (i := 1) (j := 0) rfl rfl) (fun w => Try.isAgg4 w)) ?_
    rw [List.append_nil] at hz'
    refine ⟨rfl, ⟨pg', tg', t', fr', A', n', c', rs'⟩, osF', boxO g8 [.int .i64 (m7 : Nat)] :: boxO g6 [.bool true] :: ([boxO g7 [.slice A n c], boxO g5 [.func (.func fd) #[] lb.toArray], boxO g4 [.pointer (some ⟨fg, 0, none⟩)], boxO b24 [.pointer (some ⟨tg', 0, none⟩)], boxO b83 [.func (.func 42) #[] #[]]] ++ ns), rfl, rfl, rfl, ?_, HF'.out, HP'.out.more fun o ho => ?_, fun o ho => ?_, ?_⟩
    · show t'.list.length ≤ B t.list.length
      rw [← HBF.out]; exact HBL.out
    · rcases List.mem_append.1 ho with ho | ho
      · exact List.mem_append_left _ ho
      · exact List.mem_append_right _ (.tail _ (.tail _ (List.mem_append_right _ ho)))
    · rcases List.mem_append.1 ho with ho | ho
      · exact List.mem_append_left _ (HMS.out o ho)
      · exact List.mem_append_right _ ho
    · exact hz'.perm (al_perm7 _ _ _ _ _ _ _ _)
end Go.Proofs.Ytdaoinhkagmbdaa
