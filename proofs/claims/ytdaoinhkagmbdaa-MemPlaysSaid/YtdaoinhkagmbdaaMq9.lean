/-
  Laid together by merge.py: MemQ6.
-/
import Derived.Test.YtdaoinhkagmbdaaMq8
import Derived.Deep.CutBlock
namespace Go.Proofs.Ytdaoinhkagmbdaa
open Go.RowKit
theorem wpList_to17 (N : Nat) {Q : Exit → Act → World → Prop} {ops : Array Oper} {rest : List Oper} {o : Oper} {a : Act} {w : World} (hgd : Region.wanted o (yielded ops a.tmps) = true) (x : Operand) (ho : o.op = .slice 64 x none (some (.const (.int .i64 (N : Nat)))) none) {A : Option Addr} {n c : Nat} (hx : a.eval x = .slice A n c) (hc : N ≤ c)
    (hK : wpList Try.prog ops Q rest (a.put o.dst (.slice A N c)) w) : wpList Try.prog ops Q (o :: rest) a w :=
  BigFrame.wpList_want hgd fun _ hk => by
    have hrun : (execOp a.eval o).run Try.prog w = .ok (.value (.slice A N c)) w := by
      obtain ⟨dst, op, type, pos, after, guard⟩ := o
      simp only at ho
      subst ho
      have hcI : (N : Int) ≤ (c : Int) := by omega
      have hel : Try.prog.underlying 64 = some (.slice (Try.prog.elem 64)) := by kernel_rfl
      have h1 := run_slice_h (P := Try.prog) (w := w) 64 A n c hel .i64 (N : Nat) (by omega) hcI
      have hz : ((sizeOf (Try.prog.elem 64)).run Try.prog w) = .ok 17 w := by kernel_rfl
      rw [hz] at h1
      have h2 := run_sliceAt_slice (P := Try.prog) (w := w) 64 (.slice A n c) none (some (.int .i64 (N : Nat))) none hel
      rw [h1] at h2
      have h3 : sliced A 0 (Int.toNat (N : Int)) c 17 = .slice A N c := by
        unfold sliced
        simp [Addr.add]
      simp only [Result.andThen, h3] at h2
      show ((Instr.sliceAt 64 (a.eval x) none (some (.int .i64 (N : Nat))) none) >>= fun v => pure (Next.value v)).run Try.prog w = _
      rw [hx]
      simp only [Sem.run_bind, h2, Result.andThen]
      rfl
    unfold Oper.wp
    rw [hrun, Oper.upon_value]
    exact hk _ _ hK
def N0Q : Ob := rowO 30 7 (.slice none 0 0) 0 (([] : List ER).flatMap ER.cells)
def nilPS (g t : Nat) : PS := ⟨g, t, .nil, false, none, 0, 0, []⟩
theorem nilPS.ok (g t : Nat) (ms : List Ob) (h : N0Q ∈ ms) : PSok ms (nilPS g t) := ⟨Tb.nil ms, ⟨h, rfl, fun r hr => by cases hr⟩⟩
def JoinQ (w : World) (fg : Nat) (p q : PS) (i n : Nat) (R0 : List Ob) (i2 : Nat) (Ds2 : List Nat) (z : World) : Prop :=
  i ≤ i2 ∧ i2 < n ∧ ∃ p2 osF2 ms2 ns2, p2.pg = p.pg ∧ p2.tg = p.tg ∧ p2.t.list.length ≤ i2 + 1 ∧ Q2 w fg p2 q osF2 (R0 ++ (ns2 ++ Ds2.map dfrO)) ms2 z
theorem stp_row : RowTy Try.prog 72 17 := ⟨⟨_, Try.underlying72, rfl⟩, by kernel_rfl⟩
theorem stp_e {z : World} {g : Nat} {s : SR} (h : z.rangeAt g 0 [.int .i64 s.K, .bool s.O, .slice s.E.A s.E.e.row.length s.E.c, .int .i64 s.E.e.fam, .slice s.E.B s.E.e.qual.length s.E.d, .int .i64 s.E.e.ts, .int .i64 s.E.e.seq, .int .i64 s.E.e.kind, .slice s.E.D s.E.e.val.length s.E.q, .slice s.G.A s.G.e.row.length s.G.c, .int .i64 s.G.e.fam, .slice s.G.B s.G.e.qual.length s.G.d, .int .i64 s.G.e.ts, .int .i64 s.G.e.seq, .int .i64 s.G.e.kind, .slice s.G.D s.G.e.val.length s.G.q, .int .i64 s.N]) : z.rangeAt g 2 [.slice s.E.A s.E.e.row.length s.E.c, .int .i64 s.E.e.fam, .slice s.E.B s.E.e.qual.length s.E.d, .int .i64 s.E.e.ts, .int .i64 s.E.e.seq, .int .i64 s.E.e.kind, .slice s.E.D s.E.e.val.length s.E.q] := rangeAt_part h 2 7
def KeepJ (w : World) (fg : Nat) (p q : PS) (i n : Nat) (R0 K : List Ob) (Ds : List Nat) (k : Nat) (z : World) : Prop :=
  i + 1 ≤ k ∧ k ≤ n ∧ ∃ p2 osF ms ns, p2.pg = p.pg ∧ p2.tg = p.tg ∧ p2.t.list.length + 1 ≤ k ∧ Q2 w fg p2 q osF (R0 ++ ((K ++ ns) ++ Ds.map dfrO)) ms z
theorem pstep3_q {w x : World} {fg b g : Nat} {p q : PS} {osF RR ms : List Ob} (s : SR) (hg : p.pg = g) (h : Q2 w fg p q osF RR ms x) (hE : ∀ z, Below w.heap.size w z → s.E.En z) (hG : ∀ z, Below w.heap.size w z → s.G.En z) (hl : p.t.list.length ≤ b) (hb : b ≤ 79000) :
    Calls Try.prog 33 #[.pointer (some ⟨g, 0, none⟩), .agg #[.int .i64 s.K, .bool s.O, .slice s.E.A s.E.e.row.length s.E.c, .int .i64 s.E.e.fam, .slice s.E.B s.E.e.qual.length s.E.d, .int .i64 s.E.e.ts, .int .i64 s.E.e.seq, .int .i64 s.E.e.kind, .slice s.E.D s.E.e.val.length s.E.q, .slice s.G.A s.G.e.row.length s.G.c, .int .i64 s.G.e.fam, .slice s.G.B s.G.e.qual.length s.G.d, .int .i64 s.G.e.ts, .int .i64 s.G.e.seq, .int .i64 s.G.e.kind, .slice s.G.D s.G.e.val.length s.G.q, .int .i64 s.N], .pointer (some ⟨fg, 0, none⟩)] x (Q2F w fg p q RR ms (b + 1)) := by
  subst hg; exact pstep2_q s h hE hG hl hb
theorem vq_perm (X P Z : List Ob) : ((X ++ P) ++ Z).Perm ((Z ++ X) ++ P) := by (refine perm_of_cnt fun a => ?_; (first | ((repeat (first | rw [cntO_app] | rw [cntO_cons] | rw [cntO_nil])) <;> omega) | ((simp only [cntO_app, cntO_cons, cntO_nil]) <;> omega)))
theorem fr_perm (a : Ob) (X : List Ob) : (X ++ [a]).Perm (a :: X) := by (refine perm_of_cnt fun a => ?_; (first | ((repeat (first | rw [cntO_app] | rw [cntO_cons] | rw [cntO_nil])) <;> omega) | ((simp only [cntO_app, cntO_cons, cntO_nil]) <;> omega)))
theorem kin_perm (g11 g9 g8 b1 b2 b3 a d e p t q u : Ob) (F R0 ns DS C E2 : List Ob) : (g11 :: (((g9 :: ((g8 :: (F ++ (p :: t :: q :: u :: (R0 ++ (ns ++ DS))))) ++ [a, d, e])) ++ ([b1, b2, b3] ++ C)) ++ E2)).Perm (F ++ (a :: d :: e :: (p :: t :: q :: u :: (R0 ++ ((([g8, g9, g11, b1, b2, b3] ++ (C ++ E2)) ++ ns) ++ DS))))) := by (refine perm_of_cnt fun a => ?_; (first | ((repeat (first | rw [cntO_app] | rw [cntO_cons] | rw [cntO_nil])) <;> omega) | ((simp only [cntO_app, cntO_cons, cntO_nil]) <;> omega)))
theorem keep_perm (R0 K ns ns' D : List Ob) : ((R0 ++ ((K ++ ns) ++ D)) ++ ns').Perm (R0 ++ ((K ++ (ns ++ ns')) ++ D)) := by (refine perm_of_cnt fun a => ?_; (first | ((repeat (first | rw [cntO_app] | rw [cntO_cons] | rw [cntO_nil])) <;> omega) | ((simp only [cntO_app, cntO_cons, cntO_nil]) <;> omega)))
theorem fin_perm (a b p t q u d : Ob) (F R0 K ns DS : List Ob) : ((a :: b :: (F ++ (p :: t :: q :: u :: (R0 ++ ((K ++ ns) ++ DS))))) ++ [d]).Perm (F ++ (p :: t :: q :: u :: (R0 ++ ((a :: b :: (K ++ ns)) ++ (d :: DS))))) := by (refine perm_of_cnt fun a => ?_; (first | ((repeat (first | rw [cntO_app] | rw [cntO_cons] | rw [cntO_nil])) <;> omega) | ((simp only [cntO_app, cntO_cons, cntO_nil]) <;> omega)))
theorem pl_perm (a b c d e f : Ob) (F : List Ob) : ([f, a, b, c, d, e] ++ F).Perm (F ++ (c :: b :: e :: d :: ([f, a] ++ []))) := by (refine perm_of_cnt fun a => ?_; (first | ((repeat (first | rw [cntO_app] | rw [cntO_cons] | rw [cntO_nil])) <;> omega) | ((simp only [cntO_app, cntO_cons, cntO_nil]) <;> omega)))
theorem pl_end (a b c d e f : Ob) (F N N1 N2 D : List Ob) : (F ++ (a :: b :: c :: d :: ((([e, f] ++ (N ++ D)) ++ N1) ++ N2))).Perm ((f :: (F ++ (a :: b :: c :: d :: e :: (N ++ (N1 ++ N2))))) ++ D) := by (refine perm_of_cnt fun a => ?_; (first | ((repeat (first | rw [cntO_app] | rw [cntO_cons] | rw [cntO_nil])) <;> omega) | ((simp only [cntO_app, cntO_cons, cntO_nil]) <;> omega)))
set_option maxRecDepth 10000000 in
set_option maxHeartbeats 16000000 in
theorem plays_any (SA : Option Addr) (n0 c : Nat) (w : World) (hS : Stps w SA n0) (hnc : n0 ≤ c ∧ c ≤ 9223372036854775807) :
    Calls Try.prog 7 #[.slice SA n0 c] w fun e z => e = .returned (.bool true) ∧ Below w.heap.size w z := by
  have HST : Hid (∀ z, Below w.heap.size w z → Stps z SA n0) := Lib.hid fun z hz => hS.later hz
  obtain ⟨hnc1, hnc2⟩ := hnc
  obtain ⟨n, hn⟩ : ∃ z, z = min n0 200 := ⟨_, rfl⟩
  have hnn : n ≤ n0 := by omega
  have hn200 : n ≤ 200 := by omega
  have HX0 : Hid (OW w [N0Q] w) := Lib.hid ((OW.nil w).nilRow 30 7)
  clear hS
  refine calls_marks Try.func7 rfl ?_
  simp only [Try.ntmps7, List.size_toArray, List.length_cons, List.length_nil, Nat.reduceAdd, Nat.reduceSub, Array.replicate_succ, Array.replicate_zero, List.push_toArray, List.append_toArray, List.nil_append, List.cons_append]
  go_upto_if 20 with (first
    | (refine wl_alloc rfl rfl [.bool false] (.inr ⟨.bool false, by kernel_rfl, rfl⟩) HX0.out ?_; intro g2 x1 hz _; have HX1 : Hid (OW w [N0Q, boxO g2 [.bool false]] x1) := Lib.hid hz; clear hz HX0)
    | (go_at_call 8; go_must (refine (told_any8 _).mono ?_); rintro e x2 ⟨rfl, hb⟩; have HX2 := Lib.hid (HX1.out.later hb); clear hb HX1))
  obtain ⟨w4, rfl⟩ : ∃ z : World, z = x2 := ⟨_, rfl⟩
  go_cut [0] from 16 to 197 (fun av wx => w4 = wx ∧ av = .slice SA n c)
  case first =>
    as_aux_lemma =>
      by_cases hbig : 200 < n0
      · have hd : decide ((n0 : Int) > 200) = true := decide_eq_true (by omega)
        obtain rfl : n = 200 := by omega
        go_wp2_with (refine wpList_to17 200 rfl (.tmp 21) rfl rfl (by omega) ?_; simp only [Act.put, List.setIfInBounds_toArray, List.set_cons_zero, List.set_cons_succ])
        go_meet
        exact ⟨rfl, rfl⟩
      · have hd : decide ((n0 : Int) > 200) = false := decide_eq_false (by omega)
        obtain rfl : n = n0 := by omega
        go_wp2_with fail
        go_meet
        exact ⟨rfl, rfl⟩
  obtain ⟨rfl, rfl⟩ := hcut
  clear hn
  have tk1 : True := trivial
  go_upto_region 9 with (first
    | (clear tk1; go_at_call 9; go_must (refine (tnew_any _).mono ?_); rintro e x3 ⟨ta, rfl, hz⟩; have HX3 : Hid (OW w [N0Q, boxO g2 [.bool false], boxO ta (tabC .nil false)] x3) := Lib.hid (HX2.out.app hz); clear hz HX2)
    | (refine wl_box rfl (.tmp 24) rfl [.pointer (some ⟨ta, 0, none⟩), .slice none 0 0, .bool false] rfl HX3.out ?_; intro ga x4 hz _; have HX4 : Hid (OW w [N0Q, boxO g2 [.bool false], boxO ta (tabC .nil false), boxO ga [.pointer (some ⟨ta, 0, none⟩), .slice none 0 0, .bool false]] x4) := Lib.hid hz; clear hz HX3)
    | (go_at_call 9; go_must (refine (tnew_any _).mono ?_); rintro e x5 ⟨tb, rfl, hz⟩; have HX5 : Hid (OW w [N0Q, boxO g2 [.bool false], boxO ta (tabC .nil false), boxO ga [.pointer (some ⟨ta, 0, none⟩), .slice none 0 0, .bool false], boxO tb (tabC .nil false)] x5) := Lib.hid (HX4.out.app hz); clear hz HX4)
    | (refine wl_box rfl (.tmp 27) rfl [.pointer (some ⟨tb, 0, none⟩), .slice none 0 0, .bool false] rfl HX5.out ?_; intro gb x6 hz _; have HX6 : Hid (OW w [N0Q, boxO g2 [.bool false], boxO ta (tabC .nil false), boxO ga [.pointer (some ⟨ta, 0, none⟩), .slice none 0 0, .bool false], boxO tb (tabC .nil false), boxO gb [.pointer (some ⟨tb, 0, none⟩), .slice none 0 0, .bool false]] x6) := Lib.hid hz; clear hz HX5)
    | (refine wpList_load_cell rfl 24 (.tmp 31) rfl rfl (HX6.out.cell (i := 3) (j := 0) rfl rfl) (fun w => Try.isAgg24 w) ?_)
    | (refine wpList_load_cell rfl 24 (.tmp 37) rfl rfl (HX6.out.cell (i := 5) (j := 0) rfl rfl) (fun w => Try.isAgg24 w) ?_)
    | (refine wl_box rfl (.tmp 41) rfl [.slice none 0 0, .slice none 0 0, .int .i64 0] rfl HX6.out ?_; intro gf x7 hz _; obtain ⟨osF, hf, hz2⟩ := Fl.new hz; have HF := Lib.hid hf; have HX7 : Hid (OW w (osF ++ ((nilPS ga ta).box :: (nilPS ga ta).tab :: (nilPS gb tb).box :: (nilPS gb tb).tab :: ([N0Q, boxO g2 [.bool false]] ++ []))) x7) := Lib.hid (hz2.perm (pl_perm _ _ _ _ _ _ _)); clear hz hz2 hf HX6))
  have HB : Hid (BothI w gf ga ta gb tb 0 [N0Q, boxO g2 [.bool false]] [] x7) := Lib.hid ⟨nilPS ga ta, nilPS gb tb, osF, [N0Q], [], rfl, rfl, rfl, rfl, Nat.le_refl _, Nat.le_refl _, HF.out, nilPS.ok _ _ _ (.head _), nilPS.ok _ _ _ (.head _), fun o ho => List.mem_append_left _ (by cases ho with | head => exact .head _ | tail _ h => cases h), HX7.out⟩
  clear HF HX7
  as_aux_lemma =>
    go_wp2_with fail
    refine wp_loop (fun a' w' => ∃ (u6 u7 u8 u9 u10 u11 u12 u13 u14 u15 u16 u17 u18 u19 u20 u21 u22 u23 u24 u25 u26 u27 u28 u29 u30 u31 u32 u33 u34 u35 u36 u37 u38 u39 u40 u41 u42 u43 u44 u45 u46 u47 u48 u49 u50 u51 u52 u53 u54 u55 u56 u57 u58 u59 u60 u61 u62 u63 u64 u65 u66 u67 u68 u69 u70 u71 u72 u73 u74 u75 u76 u77 u78 u79 u80 u81 u82 u83 u84 u85 u86 u87 u88 u89 u90 u91 u92 u93 u94 u95 u96 u97 u98 u99 u100 u101 u102 u103 u104 u105 u106 u107 u108 u109 u110 u111 u112 u113 u114 u115 u116 u117 u118 u119 u120 u121 u122 u123 u124 u125 u126 u127 u128 u129 u130 u131 u132 u133 u134 u135 u136 u137 u138 u139 u140 u141 u142 u143 u144 u145 u146 u147 u148 u149 u150 u151 u152 u153 u154 u155 u156 u157 u158 u159 u160 u161 u162 u163 u164 u165 u166 u167 u168 u169 u170 u171 u172 u173 u174 u175 u176 u177 u178 u179 u180 u181 u182 u183 u184 u185 u186 u187 u188 u189 u190 u191 u192 u193 u194 u195 u196 u197 : Value) (ds : List Deferred), (∃ (i : Nat) (Ds : List Nat), i ≤ n ∧ u6 = .int .i64 i ∧ ds = Ds.map markD ∧ Hid (BothI w gf ga ta gb tb i [N0Q, boxO g2 [.bool false]] Ds w')) ∧ a' = ⟨([.slice SA n c, undef, .pointer (some ⟨g2, 0, none⟩), .pointer (some ⟨ga, 0, none⟩), .pointer (some ⟨gb, 0, none⟩), .pointer (some ⟨gf, 0, none⟩), u6, u7, u8, u9, u10, u11, u12, u13, u14, u15, u16, u17, u18, u19, u20, u21, u22, u23, u24, u25, u26, u27, u28, u29, u30, u31, u32, u33, u34, u35, u36, u37, u38, u39, u40, u41, u42, u43, u44, u45, u46, u47, u48, u49, u50, u51, u52, u53, u54, u55, u56, u57, u58, u59, u60, u61, u62, u63, u64, u65, u66, u67, u68, u69, u70, u71, u72, u73, u74, u75, u76, u77, u78, u79, u80, u81, u82, u83, u84, u85, u86, u87, u88, u89, u90, u91, u92, u93, u94, u95, u96, u97, u98, u99, u100, u101, u102, u103, u104, u105, u106, u107, u108, u109, u110, u111, u112, u113, u114, u115, u116, u117, u118, u119, u120, u121, u122, u123, u124, u125, u126, u127, u128, u129, u130, u131, u132, u133, u134, u135, u136, u137, u138, u139, u140, u141, u142, u143, u144, u145, u146, u147, u148, u149, u150, u151, u152, u153, u154, u155, u156, u157, u158, u159, u160, u161, u162, u163, u164, u165, u166, u167, u168, u169, u170, u171, u172, u173, u174, u175, u176, u177, u178, u179, u180, u181, u182, u183, u184, u185, u186, u187, u188, u189, u190, u191, u192, u193, u194, u195, u196, u197] : List Value).toArray, ds⟩) (fun a' _ => n - (intOf (a'.tmps.getD 6 undef)).toNat) ?_ ?_
    · repeat apply Exists.intro
      refine ⟨?_, rfl⟩
      exact ⟨0, [], Nat.zero_le _, rfl, rfl, HB⟩
    clear HB
    intro _ wr hinv
    obtain ⟨u6, hinv⟩ := hinv
    obtain ⟨u7, hinv⟩ := hinv
    obtain ⟨u8, hinv⟩ := hinv
    obtain ⟨u9, hinv⟩ := hinv
    obtain ⟨u10, hinv⟩ := hinv
    obtain ⟨u11, hinv⟩ := hinv
    obtain ⟨u12, hinv⟩ := hinv
    obtain ⟨u13, hinv⟩ := hinv
    obtain ⟨u14, hinv⟩ := hinv
    obtain ⟨u15, hinv⟩ := hinv
    obtain ⟨u16, hinv⟩ := hinv
    obtain ⟨u17, hinv⟩ := hinv
    obtain ⟨u18, hinv⟩ := hinv
    obtain ⟨u19, hinv⟩ := hinv
    obtain ⟨u20, hinv⟩ := hinv
    obtain ⟨u21, hinv⟩ := hinv
    obtain ⟨u22, hinv⟩ := hinv
    obtain ⟨u23, hinv⟩ := hinv
    obtain ⟨u24, hinv⟩ := hinv
    obtain ⟨u25, hinv⟩ := hinv
    obtain ⟨u26, hinv⟩ := hinv
    obtain ⟨u27, hinv⟩ := hinv
    obtain ⟨u28, hinv⟩ := hinv
    obtain ⟨u29, hinv⟩ := hinv
    obtain ⟨u30, hinv⟩ := hinv
    obtain ⟨u31, hinv⟩ := hinv
    obtain ⟨u32, hinv⟩ := hinv
    obtain ⟨u33, hinv⟩ := hinv
    obtain ⟨u34, hinv⟩ := hinv
    obtain ⟨u35, hinv⟩ := hinv
    obtain ⟨u36, hinv⟩ := hinv
    obtain ⟨u37, hinv⟩ := hinv
    obtain ⟨u38, hinv⟩ := hinv
    obtain ⟨u39, hinv⟩ := hinv
    obtain ⟨u40, hinv⟩ := hinv
    obtain ⟨u41, hinv⟩ := hinv
    obtain ⟨u42, hinv⟩ := hinv
    obtain ⟨u43, hinv⟩ := hinv
    obtain ⟨u44, hinv⟩ := hinv
    obtain ⟨u45, hinv⟩ := hinv
    obtain ⟨u46, hinv⟩ := hinv
    obtain ⟨u47, hinv⟩ := hinv
    obtain ⟨u48, hinv⟩ := hinv
    obtain ⟨u49, hinv⟩ := hinv
    obtain ⟨u50, hinv⟩ := hinv
    obtain ⟨u51, hinv⟩ := hinv
    obtain ⟨u52, hinv⟩ := hinv
    obtain ⟨u53, hinv⟩ := hinv
    obtain ⟨u54, hinv⟩ := hinv
    obtain ⟨u55, hinv⟩ := hinv
    obtain ⟨u56, hinv⟩ := hinv
    obtain ⟨u57, hinv⟩ := hinv
    obtain ⟨u58, hinv⟩ := hinv
    obtain ⟨u59, hinv⟩ := hinv
    obtain ⟨u60, hinv⟩ := hinv
    obtain ⟨u61, hinv⟩ := hinv
    obtain ⟨u62, hinv⟩ := hinv
    obtain ⟨u63, hinv⟩ := hinv
    obtain ⟨u64, hinv⟩ := hinv
    obtain ⟨u65, hinv⟩ := hinv
    obtain ⟨u66, hinv⟩ := hinv
    obtain ⟨u67, hinv⟩ := hinv
    obtain ⟨u68, hinv⟩ := hinv
    obtain ⟨u69, hinv⟩ := hinv
    obtain ⟨u70, hinv⟩ := hinv
    obtain ⟨u71, hinv⟩ := hinv
    obtain ⟨u72, hinv⟩ := hinv
    obtain ⟨u73, hinv⟩ := hinv
    obtain ⟨u74, hinv⟩ := hinv
    obtain ⟨u75, hinv⟩ := hinv
    obtain ⟨u76, hinv⟩ := hinv
    obtain ⟨u77, hinv⟩ := hinv
    obtain ⟨u78, hinv⟩ := hinv
    obtain ⟨u79, hinv⟩ := hinv
    obtain ⟨u80, hinv⟩ := hinv
    obtain ⟨u81, hinv⟩ := hinv
    obtain ⟨u82, hinv⟩ := hinv
    obtain ⟨u83, hinv⟩ := hinv
    obtain ⟨u84, hinv⟩ := hinv
    obtain ⟨u85, hinv⟩ := hinv
    obtain ⟨u86, hinv⟩ := hinv
    obtain ⟨u87, hinv⟩ := hinv
    obtain ⟨u88, hinv⟩ := hinv
    obtain ⟨u89, hinv⟩ := hinv
    obtain ⟨u90, hinv⟩ := hinv
    obtain ⟨u91, hinv⟩ := hinv
    obtain ⟨u92, hinv⟩ := hinv
    obtain ⟨u93, hinv⟩ := hinv
    obtain ⟨u94, hinv⟩ := hinv
    obtain ⟨u95, hinv⟩ := hinv
    obtain ⟨u96, hinv⟩ := hinv
    obtain ⟨u97, hinv⟩ := hinv
    obtain ⟨u98, hinv⟩ := hinv
    obtain ⟨u99, hinv⟩ := hinv
    obtain ⟨u100, hinv⟩ := hinv
    obtain ⟨u101, hinv⟩ := hinv
    obtain ⟨u102, hinv⟩ := hinv
    obtain ⟨u103, hinv⟩ := hinv
    obtain ⟨u104, hinv⟩ := hinv
    obtain ⟨u105, hinv⟩ := hinv
    obtain ⟨u106, hinv⟩ := hinv
    obtain ⟨u107, hinv⟩ := hinv
    obtain ⟨u108, hinv⟩ := hinv
    obtain ⟨u109, hinv⟩ := hinv
    obtain ⟨u110, hinv⟩ := hinv
    obtain ⟨u111, hinv⟩ := hinv
    obtain ⟨u112, hinv⟩ := hinv
    obtain ⟨u113, hinv⟩ := hinv
    obtain ⟨u114, hinv⟩ := hinv
    obtain ⟨u115, hinv⟩ := hinv
    obtain ⟨u116, hinv⟩ := hinv
    obtain ⟨u117, hinv⟩ := hinv
    obtain ⟨u118, hinv⟩ := hinv
    obtain ⟨u119, hinv⟩ := hinv
    obtain ⟨u120, hinv⟩ := hinv
    obtain ⟨u121, hinv⟩ := hinv
    obtain ⟨u122, hinv⟩ := hinv
    obtain ⟨u123, hinv⟩ := hinv
    obtain ⟨u124, hinv⟩ := hinv
    obtain ⟨u125, hinv⟩ := hinv
    obtain ⟨u126, hinv⟩ := hinv
    obtain ⟨u127, hinv⟩ := hinv
    obtain ⟨u128, hinv⟩ := hinv
    obtain ⟨u129, hinv⟩ := hinv
    obtain ⟨u130, hinv⟩ := hinv
    obtain ⟨u131, hinv⟩ := hinv
    obtain ⟨u132, hinv⟩ := hinv
    obtain ⟨u133, hinv⟩ := hinv
    obtain ⟨u134, hinv⟩ := hinv
    obtain ⟨u135, hinv⟩ := hinv
    obtain ⟨u136, hinv⟩ := hinv
    obtain ⟨u137, hinv⟩ := hinv
    obtain ⟨u138, hinv⟩ := hinv
    obtain ⟨u139, hinv⟩ := hinv
    obtain ⟨u140, hinv⟩ := hinv
    obtain ⟨u141, hinv⟩ := hinv
    obtain ⟨u142, hinv⟩ := hinv
    obtain ⟨u143, hinv⟩ := hinv
    obtain ⟨u144, hinv⟩ := hinv
    obtain ⟨u145, hinv⟩ := hinv
    obtain ⟨u146, hinv⟩ := hinv
    obtain ⟨u147, hinv⟩ := hinv
    obtain ⟨u148, hinv⟩ := hinv
    obtain ⟨u149, hinv⟩ := hinv
    obtain ⟨u150, hinv⟩ := hinv
    obtain ⟨u151, hinv⟩ := hinv
    obtain ⟨u152, hinv⟩ := hinv
    obtain ⟨u153, hinv⟩ := hinv
    obtain ⟨u154, hinv⟩ := hinv
    obtain ⟨u155, hinv⟩ := hinv
    obtain ⟨u156, hinv⟩ := hinv
    obtain ⟨u157, hinv⟩ := hinv
    obtain ⟨u158, hinv⟩ := hinv
    obtain ⟨u159, hinv⟩ := hinv
    obtain ⟨u160, hinv⟩ := hinv
    obtain ⟨u161, hinv⟩ := hinv
    obtain ⟨u162, hinv⟩ := hinv
    obtain ⟨u163, hinv⟩ := hinv
    obtain ⟨u164, hinv⟩ := hinv
    obtain ⟨u165, hinv⟩ := hinv
    obtain ⟨u166, hinv⟩ := hinv
    obtain ⟨u167, hinv⟩ := hinv
    obtain ⟨u168, hinv⟩ := hinv
    obtain ⟨u169, hinv⟩ := hinv
    obtain ⟨u170, hinv⟩ := hinv
    obtain ⟨u171, hinv⟩ := hinv
    obtain ⟨u172, hinv⟩ := hinv
    obtain ⟨u173, hinv⟩ := hinv
    obtain ⟨u174, hinv⟩ := hinv
    obtain ⟨u175, hinv⟩ := hinv
    obtain ⟨u176, hinv⟩ := hinv
    obtain ⟨u177, hinv⟩ := hinv
    obtain ⟨u178, hinv⟩ := hinv
    obtain ⟨u179, hinv⟩ := hinv
    obtain ⟨u180, hinv⟩ := hinv
    obtain ⟨u181, hinv⟩ := hinv
    obtain ⟨u182, hinv⟩ := hinv
    obtain ⟨u183, hinv⟩ := hinv
    obtain ⟨u184, hinv⟩ := hinv
    obtain ⟨u185, hinv⟩ := hinv
    obtain ⟨u186, hinv⟩ := hinv
    obtain ⟨u187, hinv⟩ := hinv
    obtain ⟨u188, hinv⟩ := hinv
    obtain ⟨u189, hinv⟩ := hinv
    obtain ⟨u190, hinv⟩ := hinv
    obtain ⟨u191, hinv⟩ := hinv
    obtain ⟨u192, hinv⟩ := hinv
    obtain ⟨u193, hinv⟩ := hinv
    obtain ⟨u194, hinv⟩ := hinv
    obtain ⟨u195, hinv⟩ := hinv
    obtain ⟨u196, hinv⟩ := hinv
    obtain ⟨u197, hinv⟩ := hinv
    obtain ⟨ds, hinv⟩ := hinv
    obtain ⟨⟨i, Ds, hin, rfl, rfl, HB⟩, rfl⟩ := hinv
    by_cases hlt : i < n
    case pos =>
      as_aux_lemma =>
        have d1 : decide ((i : Int) < (n : Int)) = true := decide_eq_true (by omega)
        have i0 : (0 : Int) ≤ (i : Int) := by omega
        have i1 : (i : Int) < (n : Int) := by omega
        obtain ⟨b, o, rfl, hbl, hst⟩ := (HST.out w (Below.refl _ _)) (by omega : 0 < n0)
        obtain ⟨s, hrg, hsE, hsG⟩ := hst i (by omega)
        have HRG : Hid (∀ z, Below w.heap.size w z → z.rangeAt b (o + i * 17) [.int .i64 s.K, .bool s.O, .slice s.E.A s.E.e.row.length s.E.c, .int .i64 s.E.e.fam, .slice s.E.B s.E.e.qual.length s.E.d, .int .i64 s.E.e.ts, .int .i64 s.E.e.seq, .int .i64 s.E.e.kind, .slice s.E.D s.E.e.val.length s.E.q, .slice s.G.A s.G.e.row.length s.G.c, .int .i64 s.G.e.fam, .slice s.G.B s.G.e.qual.length s.G.d, .int .i64 s.G.e.ts, .int .i64 s.G.e.seq, .int .i64 s.G.e.kind, .slice s.G.D s.G.e.val.length s.G.q, .int .i64 s.N]) := Lib.hid fun z hz j v hj => (hz.cell (p := ⟨b, _, none⟩) hbl).trans (hrg j v hj)
        have HSE : Hid (∀ z, Below w.heap.size w z → s.E.En z) := Lib.hid fun z hz => hsE.later hz
        have HSG : Hid (∀ z, Below w.heap.size w z → s.G.En z) := Lib.hid fun z hz => hsG.later hz
        obtain ⟨p, q, osF, ms, ns, hwho, hl1, hl2, hq⟩ := HB.out.who s.O
        have HWHO := Lib.hid hwho
        have HL1 := Lib.hid hl1
        have HL2 := Lib.hid hl2
        have HQ := Lib.hid hq
        have HO : Hid (∀ z, Below w.heap.size w z → z.cell? ⟨b, o + i * 17 + 1, none⟩ = some (.bool s.O)) := Lib.hid fun z hz => HRG.out z hz 1 _ rfl
        clear HB hwho hl1 hl2 hq hrg hsE hsG hbl hst
        obtain ⟨w5, rfl⟩ : ∃ z : World, z = wr := ⟨_, rfl⟩
        go_upto_region 12 with fail
        go_upto_if 54 with (refine wpList_load_cell rfl 4 (.tmp 53) rfl rfl (HO.out _ HQ.out.ow.up) (fun w => Try.isAgg4 w) ?_)
        simp only [Act.put, List.setIfInBounds_toArray, List.set_cons_zero, List.set_cons_succ]
        go_cut [7] from 16 to 197 (fun pv wx => w5 = wx ∧ pv = .pointer (some ⟨p.pg, 0, none⟩))
        case first =>
          as_aux_lemma =>
            rcases HWHO.out with ⟨hO, hp, _⟩ | ⟨hO, hp, _⟩
            · have HP := Lib.hid hp
              rw [hO]
              clear hO hp
              go_wp2_with fail
              go_meet
              exact ⟨rfl, by rw [HP.out]⟩
            · have HP := Lib.hid hp
              rw [hO]
              clear hO hp
              go_wp2_with fail
              go_meet
              exact ⟨rfl, by rw [HP.out]⟩
        obtain ⟨rfl, rfl⟩ := hcut
        have HK : Hid (∀ z, Below w.heap.size w z → z.cell? ⟨b, o + i * 17, none⟩ = some (.int .i64 s.K)) := Lib.hid fun z hz => HRG.out z hz 0 _ rfl
        go_upto_if 61 with (refine wpList_load_cell rfl 3 (.tmp 59) rfl rfl (HK.out _ HQ.out.ow.up) (fun w => Try.isAgg3 w) ?_)
        try simp only [Act.put, List.setIfInBounds_toArray, List.set_cons_zero, List.set_cons_succ]
        refine wp_cut (fun a' w' => ∃ (u6 u8 u9 u10 u11 u12 u13 u14 u15 u16 u17 u18 u19 u20 u21 u22 u23 u24 u25 u26 u27 u28 u29 u30 u31 u32 u33 u34 u35 u36 u37 u38 u39 u40 u41 u42 u43 u44 u45 u46 u47 u48 u49 u50 u51 u52 u53 u54 u55 u56 u57 u58 u59 u60 u61 u62 u63 u64 u65 u66 u67 u68 u69 u70 u71 u72 u73 u74 u75 u76 u77 u78 u79 u80 u81 u82 u83 u84 u85 u86 u87 u88 u89 u90 u91 u92 u93 u94 u95 u96 u97 u98 u99 u100 u101 u102 u103 u104 u105 u106 u107 u108 u109 u110 u111 u112 u113 u114 u115 u116 u117 u118 u119 u120 u121 u122 u123 u124 u125 u126 u127 u128 u129 u130 u131 u132 u133 u134 u135 u136 u137 u138 u139 u140 u141 u142 u143 u144 u145 u146 u147 u148 u149 u150 u151 u152 u153 u154 u155 u156 u157 u158 u159 u160 u161 u162 u163 u164 u165 u166 u167 u168 u169 u170 u171 u172 u173 u174 u175 u176 u177 u178 u179 u180 u181 u182 u183 u184 u185 u186 u187 u188 u189 u190 u191 u192 u193 u194 u195 u196 u197 : Value) (ds : List Deferred), (∃ (i2 : Nat) (Ds2 : List Nat), u6 = .int .i64 i2 ∧ ds = Ds2.map markD ∧ Hid (JoinQ w gf p q i n [N0Q, boxO g2 [.bool false]] i2 Ds2 w')) ∧ a' = ⟨([.slice (some ⟨b, o, none⟩) n c, undef, .pointer (some ⟨g2, 0, none⟩), .pointer (some ⟨ga, 0, none⟩), .pointer (some ⟨gb, 0, none⟩), .pointer (some ⟨gf, 0, none⟩), u6, .pointer (some ⟨p.pg, 0, none⟩), u8, u9, u10, u11, u12, u13, u14, u15, u16, u17, u18, u19, u20, u21, u22, u23, u24, u25, u26, u27, u28, u29, u30, u31, u32, u33, u34, u35, u36, u37, u38, u39, u40, u41, u42, u43, u44, u45, u46, u47, u48, u49, u50, u51, u52, u53, u54, u55, u56, u57, u58, u59, u60, u61, u62, u63, u64, u65, u66, u67, u68, u69, u70, u71, u72, u73, u74, u75, u76, u77, u78, u79, u80, u81, u82, u83, u84, u85, u86, u87, u88, u89, u90, u91, u92, u93, u94, u95, u96, u97, u98, u99, u100, u101, u102, u103, u104, u105, u106, u107, u108, u109, u110, u111, u112, u113, u114, u115, u116, u117, u118, u119, u120, u121, u122, u123, u124, u125, u126, u127, u128, u129, u130, u131, u132, u133, u134, u135, u136, u137, u138, u139, u140, u141, u142, u143, u144, u145, u146, u147, u148, u149, u150, u151, u152, u153, u154, u155, u156, u157, u158, u159, u160, u161, u162, u163, u164, u165, u166, u167, u168, u169, u170, u171, u172, u173, u174, u175, u176, u177, u178, u179, u180, u181, u182, u183, u184, u185, u186, u187, u188, u189, u190, u191, u192, u193, u194, u195, u196, u197] : List Value).toArray, ds⟩) ?_ ?_
        rotate_left
        · intro _ _ _ _
          by_cases hk : s.K = 7
          case pos =>
            as_aux_lemma =>
              have t7 : (s.K == 7) = true := beq_iff_eq.2 hk
              clear hk
              obtain ⟨ec, hec⟩ : ∃ z, z = cut5 s.E.e := ⟨_, rfl⟩
              have HEC := Lib.hid hec.symm
              have HL5 : Hid (ec.row.length ≤ 5000 ∧ ec.qual.length ≤ 5000 ∧ ec.val.length ≤ 5000) := Lib.hid (by rw [hec]; exact cut5_le _)
              clear hec
              as_aux_lemma =>
                go_upto_region 18 with (first
                  | (refine wpList_load_row7o rfl 72 (.tmp 64) rfl rfl (HRG.out _ HQ.out.ow.up) stp_row ?_)
                  | (refine wl_alloc rfl rfl [.int .i64 0, .bool false, .slice none 0 0, .int .i64 0, .slice none 0 0, .int .i64 0, .int .i64 0, .int .i64 0, .slice none 0 0, .slice none 0 0, .int .i64 0, .slice none 0 0, .int .i64 0, .int .i64 0, .int .i64 0, .slice none 0 0, .int .i64 0] (.inl (by kernel_rfl)) HQ.out.ow ?_; intro g8 k1 hz _; have HK1 : Hid (OW w (boxO g8 [.int .i64 0, .bool false, .slice none 0 0, .int .i64 0, .slice none 0 0, .int .i64 0, .int .i64 0, .int .i64 0, .slice none 0 0, .slice none 0 0, .int .i64 0, .slice none 0 0, .int .i64 0, .int .i64 0, .int .i64 0, .slice none 0 0, .int .i64 0] :: (osF ++ (p.box :: p.tab :: q.box :: q.tab :: ([N0Q, boxO g2 [.bool false]] ++ (ns ++ Ds.map dfrO))))) k1) := Lib.hid (hz.perm (fr_perm _ _)); clear hz)
                  | (refine wl_put rfl (.tmp 8) (.tmp 65) rfl HK1.out 0 rfl rfl [.int .i64 s.K, .bool s.O, .slice s.E.A s.E.e.row.length s.E.c, .int .i64 s.E.e.fam, .slice s.E.B s.E.e.qual.length s.E.d, .int .i64 s.E.e.ts, .int .i64 s.E.e.seq, .int .i64 s.E.e.kind, .slice s.E.D s.E.e.val.length s.E.q, .slice s.G.A s.G.e.row.length s.G.c, .int .i64 s.G.e.fam, .slice s.G.B s.G.e.qual.length s.G.d, .int .i64 s.G.e.ts, .int .i64 s.G.e.seq, .int .i64 s.G.e.kind, .slice s.G.D s.G.e.val.length s.G.q, .int .i64 s.N] rfl rfl (by kernel_rfl) (by simp [Value.oneCell']) ?_; intro k2 hz _; have HK2 : Hid (OW w (boxO g8 [.int .i64 s.K, .bool s.O, .slice s.E.A s.E.e.row.length s.E.c, .int .i64 s.E.e.fam, .slice s.E.B s.E.e.qual.length s.E.d, .int .i64 s.E.e.ts, .int .i64 s.E.e.seq, .int .i64 s.E.e.kind, .slice s.E.D s.E.e.val.length s.E.q, .slice s.G.A s.G.e.row.length s.G.c, .int .i64 s.G.e.fam, .slice s.G.B s.G.e.qual.length s.G.d, .int .i64 s.G.e.ts, .int .i64 s.G.e.seq, .int .i64 s.G.e.kind, .slice s.G.D s.G.e.val.length s.G.q, .int .i64 s.N] :: (osF ++ (p.box :: p.tab :: q.box :: q.tab :: ([N0Q, boxO g2 [.bool false]] ++ (ns ++ Ds.map dfrO))))) k2) := Lib.hid hz; clear hz HK1)
                  | (refine wpList_load_row7o rfl 30 (.tmp 66) rfl rfl (stp_e (HK2.out.range (i := 0) rfl)) ent_row8 ?_)
                  | (go_at_call 16; go_must (refine (entry8_cut s.E _ (HSE.out _ HK2.out.up)).mono ?_); rw [HEC.out]; rintro e k3 ⟨A1, B1, D1, c1, d1, q1, rfl, hz⟩; have HK3 : Hid (OW w ((boxO g8 [.int .i64 s.K, .bool s.O, .slice s.E.A s.E.e.row.length s.E.c, .int .i64 s.E.e.fam, .slice s.E.B s.E.e.qual.length s.E.d, .int .i64 s.E.e.ts, .int .i64 s.E.e.seq, .int .i64 s.E.e.kind, .slice s.E.D s.E.e.val.length s.E.q, .slice s.G.A s.G.e.row.length s.G.c, .int .i64 s.G.e.fam, .slice s.G.B s.G.e.qual.length s.G.d, .int .i64 s.G.e.ts, .int .i64 s.G.e.seq, .int .i64 s.G.e.kind, .slice s.G.D s.G.e.val.length s.G.q, .int .i64 s.N] :: (osF ++ (p.box :: p.tab :: q.box :: q.tab :: ([N0Q, boxO g2 [.bool false]] ++ (ns ++ Ds.map dfrO))))) ++ entO A1 B1 D1 c1 d1 q1 ec) k3) := Lib.hid (HK2.out.app hz); clear hz HK2)
                  | (refine wl_alloc rfl rfl [.slice none 0 0, .int .i64 0, .slice none 0 0, .int .i64 0, .int .i64 0, .int .i64 0, .slice none 0 0] (.inl (by kernel_rfl)) HK3.out ?_; intro g9 k4 hz _; have HK4 : Hid (OW w (boxO g9 [.slice none 0 0, .int .i64 0, .slice none 0 0, .int .i64 0, .int .i64 0, .int .i64 0, .slice none 0 0] :: ((boxO g8 [.int .i64 s.K, .bool s.O, .slice s.E.A s.E.e.row.length s.E.c, .int .i64 s.E.e.fam, .slice s.E.B s.E.e.qual.length s.E.d, .int .i64 s.E.e.ts, .int .i64 s.E.e.seq, .int .i64 s.E.e.kind, .slice s.E.D s.E.e.val.length s.E.q, .slice s.G.A s.G.e.row.length s.G.c, .int .i64 s.G.e.fam, .slice s.G.B s.G.e.qual.length s.G.d, .int .i64 s.G.e.ts, .int .i64 s.G.e.seq, .int .i64 s.G.e.kind, .slice s.G.D s.G.e.val.length s.G.q, .int .i64 s.N] :: (osF ++ (p.box :: p.tab :: q.box :: q.tab :: ([N0Q, boxO g2 [.bool false]] ++ (ns ++ Ds.map dfrO))))) ++ entO A1 B1 D1 c1 d1 q1 ec)) k4) := Lib.hid (hz.perm (fr_perm _ _)); clear hz HK3)
                  | (refine wl_put rfl (.tmp 9) (.tmp 68) rfl HK4.out 0 rfl rfl [.slice A1 ec.row.length c1, .int .i64 ec.fam, .slice B1 ec.qual.length d1, .int .i64 ec.ts, .int .i64 ec.seq, .int .i64 ec.kind, .slice D1 ec.val.length q1] rfl rfl (by kernel_rfl) (by simp [Value.oneCell']) ?_; intro k5 hz _; have HK5 : Hid (OW w (boxO g9 [.slice A1 ec.row.length c1, .int .i64 ec.fam, .slice B1 ec.qual.length d1, .int .i64 ec.ts, .int .i64 ec.seq, .int .i64 ec.kind, .slice D1 ec.val.length q1] :: ((boxO g8 [.int .i64 s.K, .bool s.O, .slice s.E.A s.E.e.row.length s.E.c, .int .i64 s.E.e.fam, .slice s.E.B s.E.e.qual.length s.E.d, .int .i64 s.E.e.ts, .int .i64 s.E.e.seq, .int .i64 s.E.e.kind, .slice s.E.D s.E.e.val.length s.E.q, .slice s.G.A s.G.e.row.length s.G.c, .int .i64 s.G.e.fam, .slice s.G.B s.G.e.qual.length s.G.d, .int .i64 s.G.e.ts, .int .i64 s.G.e.seq, .int .i64 s.G.e.kind, .slice s.G.D s.G.e.val.length s.G.q, .int .i64 s.N] :: (osF ++ (p.box :: p.tab :: q.box :: q.tab :: ([N0Q, boxO g2 [.bool false]] ++ (ns ++ Ds.map dfrO))))) ++ entO A1 B1 D1 c1 d1 q1 ec)) k5) := Lib.hid hz; clear hz HK4))
                as_aux_lemma =>
                  refine lt_start [] (by kernel_rfl) ?_
                  intro xd hd
                  refine ⟨fun z => OW w (boxO g9 [.slice A1 ec.row.length c1, .int .i64 ec.fam, .slice B1 ec.qual.length d1, .int .i64 ec.ts, .int .i64 ec.seq, .int .i64 ec.kind, .slice D1 ec.val.length q1] :: ((boxO g8 [.int .i64 s.K, .bool s.O, .slice s.E.A s.E.e.row.length s.E.c, .int .i64 s.E.e.fam, .slice s.E.B s.E.e.qual.length s.E.d, .int .i64 s.E.e.ts, .int .i64 s.E.e.seq, .int .i64 s.E.e.kind, .slice s.E.D s.E.e.val.length s.E.q, .slice s.G.A s.G.e.row.length s.G.c, .int .i64 s.G.e.fam, .slice s.G.B s.G.e.qual.length s.G.d, .int .i64 s.G.e.ts, .int .i64 s.G.e.seq, .int .i64 s.G.e.kind, .slice s.G.D s.G.e.val.length s.G.q, .int .i64 s.N] :: (osF ++ (p.box :: p.tab :: q.box :: q.tab :: ([N0Q, boxO g2 [.bool false]] ++ (ns ++ Ds.map dfrO))))) ++ entO A1 B1 D1 c1 d1 q1 ec)) z, ?_⟩
                  have HS := Lib.hid (HK5.out.later hd)
                  refine lt_pure 0 rfl (by kernel_rfl) (by kernel_rfl) (by kernel_rfl) (by kernel_rfl) (fun _ _ _ h => h) (v := ?_) (yi_run rfl (fun w => ?_)) (fun _ => HS.out) ?_
                  rotate_left
                  · first | (go_simp; done) | (go_simp; with_reducible rfl)
                  simp only [Act.put, List.setIfInBounds_toArray, List.set_cons_zero, List.set_cons_succ]
                  refine lt_pure 1 rfl (by kernel_rfl) (by kernel_rfl) (by kernel_rfl) (by kernel_rfl) (fun _ _ _ h => h) (v := ?_) (yi_run rfl (fun w => ?_)) (fun _ => HS.out) ?_
                  rotate_left
                  · first | (go_simp; done) | (go_simp; with_reducible rfl)
                  simp only [Act.put, List.setIfInBounds_toArray, List.set_cons_zero, List.set_cons_succ]
                  refine lt_pure 2 rfl (by kernel_rfl) (by kernel_rfl) (by kernel_rfl) (by kernel_rfl) (fun _ _ _ h => h) (v := ?_) (yi_run rfl (fun w => ?_)) (fun _ => HS.out) ?_
                  rotate_left
                  · first | (go_simp; done) | (go_simp; with_reducible rfl)
                  simp only [Act.put, List.setIfInBounds_toArray, List.set_cons_zero, List.set_cons_succ]
                  refine lt_take 3 [5, 6] rfl (by kernel_rfl) (by kernel_rfl) (by kernel_rfl) (by kernel_rfl) (by kernel_rfl) (fun _ _ _ h => h) (yi_cell rfl rfl rfl (fun w hS => OW.cellm hS (g := p.pg) (cs := [.pointer (some ⟨p.tg, 0, none⟩), .slice p.A p.n p.c, .bool p.fr]) (j := 0) (.tail _ (List.mem_append_left _ (.tail _ (List.mem_append_right _ (.head _))))) rfl) (fun w => Try.isAgg24 w)) HS.out ?_
                  simp only [Act.put, List.setIfInBounds_toArray, List.set_cons_zero, List.set_cons_succ]
                  refine lt_take 4 [5, 6] rfl (by kernel_rfl) (by kernel_rfl) (by kernel_rfl) (by kernel_rfl) (by kernel_rfl) (fun _ _ _ h => h) (yi_row rfl rfl rfl (fun w hS => OW.range hS (i := 0) rfl) ent_row8) HS.out ?_
                  simp only [Act.put, List.setIfInBounds_toArray, List.set_cons_zero, List.set_cons_succ]
                  refine lt_call 5 rfl (by kernel_rfl) rfl rfl ⟨_, Try.func28, by decide, by kernel_rfl⟩ [.pointer (some ⟨p.tg, 0, none⟩), .agg #[.slice A1 ec.row.length c1, .int .i64 ec.fam, .slice B1 ec.qual.length d1, .int .i64 ec.ts, .int .i64 ec.seq, .int .i64 ec.kind, .slice D1 ec.val.length q1]] rfl ?_
                  refine (from_any p.tg (⟨A1, c1, B1, d1, D1, q1, ec⟩ : ER) _ (entO_en HS.out fun o ho => .tail _ (List.mem_append_right _ ho)) (by have := HL5.out; exact ⟨by show ec.row.length ≤ _; omega, by show ec.qual.length ≤ _; omega, by show ec.val.length ≤ _; omega⟩)).mono ?_
                  rintro e y8 ⟨b24, b83, b5, s0, rfl, hse, hcle, hz⟩
                  have HS0 : Hid (s0.e = ec) := Lib.hid hse
                  have HCLE := Lib.hid hcle
                  have HK6 : Hid (OW w ((boxO g9 [.slice A1 ec.row.length c1, .int .i64 ec.fam, .slice B1 ec.qual.length d1, .int .i64 ec.ts, .int .i64 ec.seq, .int .i64 ec.kind, .slice D1 ec.val.length q1] :: ((boxO g8 [.int .i64 s.K, .bool s.O, .slice s.E.A s.E.e.row.length s.E.c, .int .i64 s.E.e.fam, .slice s.E.B s.E.e.qual.length s.E.d, .int .i64 s.E.e.ts, .int .i64 s.E.e.seq, .int .i64 s.E.e.kind, .slice s.E.D s.E.e.val.length s.E.q, .slice s.G.A s.G.e.row.length s.G.c, .int .i64 s.G.e.fam, .slice s.G.B s.G.e.qual.length s.G.d, .int .i64 s.G.e.ts, .int .i64 s.G.e.seq, .int .i64 s.G.e.kind, .slice s.G.D s.G.e.val.length s.G.q, .int .i64 s.N] :: (osF ++ (p.box :: p.tab :: q.box :: q.tab :: ([N0Q, boxO g2 [.bool false]] ++ (ns ++ Ds.map dfrO))))) ++ entO A1 B1 D1 c1 d1 q1 ec)) ++ ([boxO b24 [.pointer (some ⟨p.tg, 0, none⟩)], boxO b83 [.func (.func 55) #[] #[.pointer (some ⟨b5, 0, none⟩)]], boxO b5 [.slice s0.A s0.e.row.length s0.c, .int .i64 s0.e.fam, .slice s0.B s0.e.qual.length s0.d, .int .i64 s0.e.ts, .int .i64 s0.e.seq, .int .i64 s0.e.kind, .slice s0.D s0.e.val.length s0.q]] ++ [clipO s0.A s0.e.row, clipO s0.B s0.e.qual, clipO s0.D s0.e.val])) y8) := Lib.hid (HS.out.app hz)
                  replace HS : Hid (OW w (boxO g9 [.slice A1 ec.row.length c1, .int .i64 ec.fam, .slice B1 ec.qual.length d1, .int .i64 ec.ts, .int .i64 ec.seq, .int .i64 ec.kind, .slice D1 ec.val.length q1] :: ((boxO g8 [.int .i64 s.K, .bool s.O, .slice s.E.A s.E.e.row.length s.E.c, .int .i64 s.E.e.fam, .slice s.E.B s.E.e.qual.length s.E.d, .int .i64 s.E.e.ts, .int .i64 s.E.e.seq, .int .i64 s.E.e.kind, .slice s.E.D s.E.e.val.length s.E.q, .slice s.G.A s.G.e.row.length s.G.c, .int .i64 s.G.e.fam, .slice s.G.B s.G.e.qual.length s.G.d, .int .i64 s.G.e.ts, .int .i64 s.G.e.seq, .int .i64 s.G.e.kind, .slice s.G.D s.G.e.val.length s.G.q, .int .i64 s.N] :: (osF ++ (p.box :: p.tab :: q.box :: q.tab :: ([N0Q, boxO g2 [.bool false]] ++ (ns ++ Ds.map dfrO))))) ++ entO A1 B1 D1 c1 d1 q1 ec)) y8) := Lib.hid HK6.out.left
                  clear hse hcle hz HK5
                  refine ⟨_, rfl, fun _ => HS.out, ?_⟩
                  simp only [Act.put, List.setIfInBounds_toArray, List.set_cons_zero, List.set_cons_succ]
                  refine lt_pure 6 rfl (by kernel_rfl) (by kernel_rfl) (by kernel_rfl) (by kernel_rfl) (fun _ _ _ h => h) (v := ?_) (yi_run rfl (fun w => ?_)) (fun _ => HS.out) ?_
                  rotate_left
                  · first | (go_simp; done) | (go_simp; with_reducible rfl)
                  simp only [Act.put, List.setIfInBounds_toArray, List.set_cons_zero, List.set_cons_succ]
                  refine lt_done (by kernel_rfl) ?_
                  clear HS
                  as_aux_lemma =>
                    go_upto_region 20 with (first
                      | (refine wpList_load_row7o rfl 30 (.tmp 75) rfl rfl (stp_e (HK6.out.rangem (List.mem_append_left _ (.tail _ (List.mem_append_left _ (.head _)))))) ent_row8 ?_)
                      | (go_at_call 16; go_must (refine (entry8_cut s.E _ (HSE.out _ HK6.out.up)).mono ?_); rw [HEC.out]; rintro e k7 ⟨A2, B2, D2, c2, d2, q2, rfl, hz⟩; have HK7 : Hid (OW w (((boxO g9 [.slice A1 ec.row.length c1, .int .i64 ec.fam, .slice B1 ec.qual.length d1, .int .i64 ec.ts, .int .i64 ec.seq, .int .i64 ec.kind, .slice D1 ec.val.length q1] :: ((boxO g8 [.int .i64 s.K, .bool s.O, .slice s.E.A s.E.e.row.length s.E.c, .int .i64 s.E.e.fam, .slice s.E.B s.E.e.qual.length s.E.d, .int .i64 s.E.e.ts, .int .i64 s.E.e.seq, .int .i64 s.E.e.kind, .slice s.E.D s.E.e.val.length s.E.q, .slice s.G.A s.G.e.row.length s.G.c, .int .i64 s.G.e.fam, .slice s.G.B s.G.e.qual.length s.G.d, .int .i64 s.G.e.ts, .int .i64 s.G.e.seq, .int .i64 s.G.e.kind, .slice s.G.D s.G.e.val.length s.G.q, .int .i64 s.N] :: (osF ++ (p.box :: p.tab :: q.box :: q.tab :: ([N0Q, boxO g2 [.bool false]] ++ (ns ++ Ds.map dfrO))))) ++ entO A1 B1 D1 c1 d1 q1 ec)) ++ ([boxO b24 [.pointer (some ⟨p.tg, 0, none⟩)], boxO b83 [.func (.func 55) #[] #[.pointer (some ⟨b5, 0, none⟩)]], boxO b5 [.slice s0.A s0.e.row.length s0.c, .int .i64 s0.e.fam, .slice s0.B s0.e.qual.length s0.d, .int .i64 s0.e.ts, .int .i64 s0.e.seq, .int .i64 s0.e.kind, .slice s0.D s0.e.val.length s0.q]] ++ [clipO s0.A s0.e.row, clipO s0.B s0.e.qual, clipO s0.D s0.e.val])) ++ entO A2 B2 D2 c2 d2 q2 ec) k7) := Lib.hid (HK6.out.app hz); clear hz HK6)
                      | (refine wl_alloc rfl rfl [.slice none 0 0, .int .i64 0, .slice none 0 0, .int .i64 0, .int .i64 0, .int .i64 0, .slice none 0 0] (.inl (by kernel_rfl)) HK7.out ?_; intro g11 k8 hz _; have HK8 : Hid (OW w (boxO g11 [.slice none 0 0, .int .i64 0, .slice none 0 0, .int .i64 0, .int .i64 0, .int .i64 0, .slice none 0 0] :: (((boxO g9 [.slice A1 ec.row.length c1, .int .i64 ec.fam, .slice B1 ec.qual.length d1, .int .i64 ec.ts, .int .i64 ec.seq, .int .i64 ec.kind, .slice D1 ec.val.length q1] :: ((boxO g8 [.int .i64 s.K, .bool s.O, .slice s.E.A s.E.e.row.length s.E.c, .int .i64 s.E.e.fam, .slice s.E.B s.E.e.qual.length s.E.d, .int .i64 s.E.e.ts, .int .i64 s.E.e.seq, .int .i64 s.E.e.kind, .slice s.E.D s.E.e.val.length s.E.q, .slice s.G.A s.G.e.row.length s.G.c, .int .i64 s.G.e.fam, .slice s.G.B s.G.e.qual.length s.G.d, .int .i64 s.G.e.ts, .int .i64 s.G.e.seq, .int .i64 s.G.e.kind, .slice s.G.D s.G.e.val.length s.G.q, .int .i64 s.N] :: (osF ++ (p.box :: p.tab :: q.box :: q.tab :: ([N0Q, boxO g2 [.bool false]] ++ (ns ++ Ds.map dfrO))))) ++ entO A1 B1 D1 c1 d1 q1 ec)) ++ ([boxO b24 [.pointer (some ⟨p.tg, 0, none⟩)], boxO b83 [.func (.func 55) #[] #[.pointer (some ⟨b5, 0, none⟩)]], boxO b5 [.slice s0.A s0.e.row.length s0.c, .int .i64 s0.e.fam, .slice s0.B s0.e.qual.length s0.d, .int .i64 s0.e.ts, .int .i64 s0.e.seq, .int .i64 s0.e.kind, .slice s0.D s0.e.val.length s0.q]] ++ [clipO s0.A s0.e.row, clipO s0.B s0.e.qual, clipO s0.D s0.e.val])) ++ entO A2 B2 D2 c2 d2 q2 ec)) k8) := Lib.hid (hz.perm (fr_perm _ _)); clear hz HK7)
                      | (refine wl_put rfl (.tmp 11) (.tmp 77) rfl HK8.out 0 rfl rfl [.slice A2 ec.row.length c2, .int .i64 ec.fam, .slice B2 ec.qual.length d2, .int .i64 ec.ts, .int .i64 ec.seq, .int .i64 ec.kind, .slice D2 ec.val.length q2] rfl rfl (by kernel_rfl) (by simp [Value.oneCell']) ?_; intro k9 hz _; have HK9 : Hid (OW w (boxO g11 [.slice A2 ec.row.length c2, .int .i64 ec.fam, .slice B2 ec.qual.length d2, .int .i64 ec.ts, .int .i64 ec.seq, .int .i64 ec.kind, .slice D2 ec.val.length q2] :: (((boxO g9 [.slice A1 ec.row.length c1, .int .i64 ec.fam, .slice B1 ec.qual.length d1, .int .i64 ec.ts, .int .i64 ec.seq, .int .i64 ec.kind, .slice D1 ec.val.length q1] :: ((boxO g8 [.int .i64 s.K, .bool s.O, .slice s.E.A s.E.e.row.length s.E.c, .int .i64 s.E.e.fam, .slice s.E.B s.E.e.qual.length s.E.d, .int .i64 s.E.e.ts, .int .i64 s.E.e.seq, .int .i64 s.E.e.kind, .slice s.E.D s.E.e.val.length s.E.q, .slice s.G.A s.G.e.row.length s.G.c, .int .i64 s.G.e.fam, .slice s.G.B s.G.e.qual.length s.G.d, .int .i64 s.G.e.ts, .int .i64 s.G.e.seq, .int .i64 s.G.e.kind, .slice s.G.D s.G.e.val.length s.G.q, .int .i64 s.N] :: (osF ++ (p.box :: p.tab :: q.box :: q.tab :: ([N0Q, boxO g2 [.bool false]] ++ (ns ++ Ds.map dfrO))))) ++ entO A1 B1 D1 c1 d1 q1 ec)) ++ ([boxO b24 [.pointer (some ⟨p.tg, 0, none⟩)], boxO b83 [.func (.func 55) #[] #[.pointer (some ⟨b5, 0, none⟩)]], boxO b5 [.slice s0.A s0.e.row.length s0.c, .int .i64 s0.e.fam, .slice s0.B s0.e.qual.length s0.d, .int .i64 s0.e.ts, .int .i64 s0.e.seq, .int .i64 s0.e.kind, .slice s0.D s0.e.val.length s0.q]] ++ [clipO s0.A s0.e.row, clipO s0.B s0.e.qual, clipO s0.D s0.e.val])) ++ entO A2 B2 D2 c2 d2 q2 ec)) k9) := Lib.hid hz; clear hz HK8))
                    have HSB := Lib.hid (entO_slB (A := A1) (B := B1) (D := D1) (c := c1) (d := d1) (q := q1) (e := ec))
                    have HKA := Lib.hid (HK9.out.perm (kin_perm _ _ _ _ _ _ _ _ _ _ _ _ _ _ _ _ _ _ _))
                    have HCL : Hid (∀ (ns3 : List Ob) o, o ∈ [clipO s0.A s0.e.row, clipO s0.B s0.e.qual, clipO s0.D s0.e.val] → o ∈ [N0Q, boxO g2 [.bool false]] ++ ((([boxO g8 [.int .i64 s.K, .bool s.O, .slice s.E.A s.E.e.row.length s.E.c, .int .i64 s.E.e.fam, .slice s.E.B s.E.e.qual.length s.E.d, .int .i64 s.E.e.ts, .int .i64 s.E.e.seq, .int .i64 s.E.e.kind, .slice s.E.D s.E.e.val.length s.E.q, .slice s.G.A s.G.e.row.length s.G.c, .int .i64 s.G.e.fam, .slice s.G.B s.G.e.qual.length s.G.d, .int .i64 s.G.e.ts, .int .i64 s.G.e.seq, .int .i64 s.G.e.kind, .slice s.G.D s.G.e.val.length s.G.q, .int .i64 s.N], boxO g9 [.slice A1 ec.row.length c1, .int .i64 ec.fam, .slice B1 ec.qual.length d1, .int .i64 ec.ts, .int .i64 ec.seq, .int .i64 ec.kind, .slice D1 ec.val.length q1], boxO g11 [.slice A2 ec.row.length c2, .int .i64 ec.fam, .slice B2 ec.qual.length d2, .int .i64 ec.ts, .int .i64 ec.seq, .int .i64 ec.kind, .slice D2 ec.val.length q2], boxO b24 [.pointer (some ⟨p.tg, 0, none⟩)], boxO b83 [.func (.func 55) #[] #[.pointer (some ⟨b5, 0, none⟩)]], boxO b5 [.slice s0.A s0.e.row.length s0.c, .int .i64 s0.e.fam, .slice s0.B s0.e.qual.length s0.d, .int .i64 s0.e.ts, .int .i64 s0.e.seq, .int .i64 s0.e.kind, .slice s0.D s0.e.val.length s0.q]] ++ ([clipO s0.A s0.e.row, clipO s0.B s0.e.qual, clipO s0.D s0.e.val] ++ entO A2 B2 D2 c2 d2 q2 ec)) ++ ns3) ++ Ds.map dfrO)) := Lib.hid fun ns3 o ho => List.mem_append_right _ (List.mem_append_left _ (List.mem_append_left _ (List.mem_append_right _ (List.mem_append_left _ ho))))
                    as_aux_lemma =>
                      go_upto_block 2 with (first
                        | (refine wpList_load_row7o rfl 30 (.tmp 9) rfl rfl (HK9.out.rangem (.tail _ (List.mem_append_left _ (List.mem_append_left _ (.head _))))) ent_row8 ?_)
                        | (go_at_call 32; go_must (refine (fentry_any ec HQ.out.f HSB.out.1 HSB.out.2.1 HSB.out.2.2 HKA.out (by have := HL5.out; omega) (by have := HL5.out; omega) (by have := HL5.out; omega)).mono ?_); rintro e y9 ⟨rfl, osF3, hf, hz⟩; have HQ3 : Hid (Q2 w gf p q osF3 ([N0Q, boxO g2 [.bool false]] ++ ((([boxO g8 [.int .i64 s.K, .bool s.O, .slice s.E.A s.E.e.row.length s.E.c, .int .i64 s.E.e.fam, .slice s.E.B s.E.e.qual.length s.E.d, .int .i64 s.E.e.ts, .int .i64 s.E.e.seq, .int .i64 s.E.e.kind, .slice s.E.D s.E.e.val.length s.E.q, .slice s.G.A s.G.e.row.length s.G.c, .int .i64 s.G.e.fam, .slice s.G.B s.G.e.qual.length s.G.d, .int .i64 s.G.e.ts, .int .i64 s.G.e.seq, .int .i64 s.G.e.kind, .slice s.G.D s.G.e.val.length s.G.q, .int .i64 s.N], boxO g9 [.slice A1 ec.row.length c1, .int .i64 ec.fam, .slice B1 ec.qual.length d1, .int .i64 ec.ts, .int .i64 ec.seq, .int .i64 ec.kind, .slice D1 ec.val.length q1], boxO g11 [.slice A2 ec.row.length c2, .int .i64 ec.fam, .slice B2 ec.qual.length d2, .int .i64 ec.ts, .int .i64 ec.seq, .int .i64 ec.kind, .slice D2 ec.val.length q2], boxO b24 [.pointer (some ⟨p.tg, 0, none⟩)], boxO b83 [.func (.func 55) #[] #[.pointer (some ⟨b5, 0, none⟩)]], boxO b5 [.slice s0.A s0.e.row.length s0.c, .int .i64 s0.e.fam, .slice s0.B s0.e.qual.length s0.d, .int .i64 s0.e.ts, .int .i64 s0.e.seq, .int .i64 s0.e.kind, .slice s0.D s0.e.val.length s0.q]] ++ ([clipO s0.A s0.e.row, clipO s0.B s0.e.qual, clipO s0.D s0.e.val] ++ entO A2 B2 D2 c2 d2 q2 ec)) ++ ns) ++ Ds.map dfrO)) ms y9) := Lib.hid ⟨hf, HQ.out.okp, HQ.out.okq, fun o ho => by
                            rcases List.mem_append.1 (HQ.out.sub o ho) with ho | ho
                            · exact List.mem_append_left _ ho
                            · rcases List.mem_append.1 ho with ho | ho
                              · exact List.mem_append_right _ (List.mem_append_left _ (List.mem_append_right _ ho))
                              · exact List.mem_append_right _ (List.mem_append_right _ ho), hz⟩; clear hf hz HK9 HKA))
                      have s2 : IntKind.i64.wrap ((i : Int) + 1) = (i : Int) + 1 := i64_sum (by omega) (by omega)
                      have s4 : IntKind.i64.wrap ((i : Int) + 4) = (i : Int) + 4 := i64_sum (by omega) (by omega)
                      have HKJ0 : Hid (KeepJ w gf p q i n [N0Q, boxO g2 [.bool false]] ([boxO g8 [.int .i64 s.K, .bool s.O, .slice s.E.A s.E.e.row.length s.E.c, .int .i64 s.E.e.fam, .slice s.E.B s.E.e.qual.length s.E.d, .int .i64 s.E.e.ts, .int .i64 s.E.e.seq, .int .i64 s.E.e.kind, .slice s.E.D s.E.e.val.length s.E.q, .slice s.G.A s.G.e.row.length s.G.c, .int .i64 s.G.e.fam, .slice s.G.B s.G.e.qual.length s.G.d, .int .i64 s.G.e.ts, .int .i64 s.G.e.seq, .int .i64 s.G.e.kind, .slice s.G.D s.G.e.val.length s.G.q, .int .i64 s.N], boxO g9 [.slice A1 ec.row.length c1, .int .i64 ec.fam, .slice B1 ec.qual.length d1, .int .i64 ec.ts, .int .i64 ec.seq, .int .i64 ec.kind, .slice D1 ec.val.length q1], boxO g11 [.slice A2 ec.row.length c2, .int .i64 ec.fam, .slice B2 ec.qual.length d2, .int .i64 ec.ts, .int .i64 ec.seq, .int .i64 ec.kind, .slice D2 ec.val.length q2], boxO b24 [.pointer (some ⟨p.tg, 0, none⟩)], boxO b83 [.func (.func 55) #[] #[.pointer (some ⟨b5, 0, none⟩)]], boxO b5 [.slice s0.A s0.e.row.length s0.c, .int .i64 s0.e.fam, .slice s0.B s0.e.qual.length s0.d, .int .i64 s0.e.ts, .int .i64 s0.e.seq, .int .i64 s0.e.kind, .slice s0.D s0.e.val.length s0.q]] ++ ([clipO s0.A s0.e.row, clipO s0.B s0.e.qual, clipO s0.D s0.e.val] ++ entO A2 B2 D2 c2 d2 q2 ec)) Ds (i + 1) y9) := Lib.hid ⟨Nat.le_refl _, hlt, p, osF3, ms, ns, rfl, rfl, Nat.add_le_add_right HL1.out 1, HQ3.out⟩
                      clear HQ3 HQ
                      as_aux_lemma =>
                        go_cut [12] from 61 to 197 (fun kv wx => ∃ k : Nat, kv = .int .i64 k ∧ Hid (KeepJ w gf p q i n [N0Q, boxO g2 [.bool false]] ([boxO g8 [.int .i64 s.K, .bool s.O, .slice s.E.A s.E.e.row.length s.E.c, .int .i64 s.E.e.fam, .slice s.E.B s.E.e.qual.length s.E.d, .int .i64 s.E.e.ts, .int .i64 s.E.e.seq, .int .i64 s.E.e.kind, .slice s.E.D s.E.e.val.length s.E.q, .slice s.G.A s.G.e.row.length s.G.c, .int .i64 s.G.e.fam, .slice s.G.B s.G.e.qual.length s.G.d, .int .i64 s.G.e.ts, .int .i64 s.G.e.seq, .int .i64 s.G.e.kind, .slice s.G.D s.G.e.val.length s.G.q, .int .i64 s.N], boxO g9 [.slice A1 ec.row.length c1, .int .i64 ec.fam, .slice B1 ec.qual.length d1, .int .i64 ec.ts, .int .i64 ec.seq, .int .i64 ec.kind, .slice D1 ec.val.length q1], boxO g11 [.slice A2 ec.row.length c2, .int .i64 ec.fam, .slice B2 ec.qual.length d2, .int .i64 ec.ts, .int .i64 ec.seq, .int .i64 ec.kind, .slice D2 ec.val.length q2], boxO b24 [.pointer (some ⟨p.tg, 0, none⟩)], boxO b83 [.func (.func 55) #[] #[.pointer (some ⟨b5, 0, none⟩)]], boxO b5 [.slice s0.A s0.e.row.length s0.c, .int .i64 s0.e.fam, .slice s0.B s0.e.qual.length s0.d, .int .i64 s0.e.ts, .int .i64 s0.e.seq, .int .i64 s0.e.kind, .slice s0.D s0.e.val.length s0.q]] ++ ([clipO s0.A s0.e.row, clipO s0.B s0.e.qual, clipO s0.D s0.e.val] ++ entO A2 B2 D2 c2 d2 q2 ec)) Ds k wx))
                        case first =>
                          as_aux_lemma =>
                            go_wp2_with fail
                            go_loopw [12] (fun kv wr => ∃ k : Nat, kv = .int .i64 k ∧ Hid (KeepJ w gf p q i n [N0Q, boxO g2 [.bool false]] ([boxO g8 [.int .i64 s.K, .bool s.O, .slice s.E.A s.E.e.row.length s.E.c, .int .i64 s.E.e.fam, .slice s.E.B s.E.e.qual.length s.E.d, .int .i64 s.E.e.ts, .int .i64 s.E.e.seq, .int .i64 s.E.e.kind, .slice s.E.D s.E.e.val.length s.E.q, .slice s.G.A s.G.e.row.length s.G.c, .int .i64 s.G.e.fam, .slice s.G.B s.G.e.qual.length s.G.d, .int .i64 s.G.e.ts, .int .i64 s.G.e.seq, .int .i64 s.G.e.kind, .slice s.G.D s.G.e.val.length s.G.q, .int .i64 s.N], boxO g9 [.slice A1 ec.row.length c1, .int .i64 ec.fam, .slice B1 ec.qual.length d1, .int .i64 ec.ts, .int .i64 ec.seq, .int .i64 ec.kind, .slice D1 ec.val.length q1], boxO g11 [.slice A2 ec.row.length c2, .int .i64 ec.fam, .slice B2 ec.qual.length d2, .int .i64 ec.ts, .int .i64 ec.seq, .int .i64 ec.kind, .slice D2 ec.val.length q2], boxO b24 [.pointer (some ⟨p.tg, 0, none⟩)], boxO b83 [.func (.func 55) #[] #[.pointer (some ⟨b5, 0, none⟩)]], boxO b5 [.slice s0.A s0.e.row.length s0.c, .int .i64 s0.e.fam, .slice s0.B s0.e.qual.length s0.d, .int .i64 s0.e.ts, .int .i64 s0.e.seq, .int .i64 s0.e.kind, .slice s0.D s0.e.val.length s0.q]] ++ ([clipO s0.A s0.e.row, clipO s0.B s0.e.qual, clipO s0.D s0.e.val] ++ entO A2 B2 D2 c2 d2 q2 ec)) Ds k wr)) (fun kv _ => n - (intOf kv).toNat)
                            case atStart => exact ⟨i + 1, by go_num, HKJ0⟩
                            case round =>
                              as_aux_lemma =>
                                clear HKJ0
                                obtain ⟨k, rfl, HKJ⟩ := hrel
                                obtain ⟨hk1, hk2, p2, osF4, ms4, ns4, f1, f2, hl, hq⟩ := HKJ.out
                                have HF1 := Lib.hid f1
                                have HF2 := Lib.hid f2
                                have HQ4 := Lib.hid hq
                                have HL4 : Hid (p2.t.list.length + 1 ≤ k) := Lib.hid hl
                                have k0 : (0 : Int) ≤ (k : Int) := by omega
                                have s5 : IntKind.i64.wrap ((k : Int) + 1) = (k : Int) + 1 := i64_sum (by omega) (by omega)
                                clear f1 f2 hl hq
                                by_cases hkn : k < n
                                case neg =>
                                  have dk : decide ((k : Int) < (n : Int)) = false := decide_eq_false (by omega)
                                  go_wp2_with ((guard_target =~ wpList _ _ _ ({ dst := _, op := _, type := _, pos := _, after := _, guard := some _ } :: _) _ _); (with_reducible refine wl_skipQ ?hw ?_); (case hw => kernel_rfl))
                                  go_meet
                                  exact ⟨k, rfl, HKJ⟩
                                have dk : decide ((k : Int) < (n : Int)) = true := decide_eq_true (by omega)
                                by_cases hk4 : k < i + 4
                                case neg =>
                                  have dk4 : decide ((k : Int) < (i : Int) + 4) = false := decide_eq_false (by omega)
                                  go_wp2_with fail
                                  go_meet
                                  exact ⟨k, rfl, HKJ⟩
                                have dk4 : decide ((k : Int) < (i : Int) + 4) = true := decide_eq_true (by omega)
                                have k1 : (k : Int) < (n : Int) := by omega
                                clear HKJ
                                obtain ⟨b9, o9, heq, hbl, hst⟩ := (HST.out w (Below.refl _ _)) (by omega : 0 < n0)
                                injection heq with heq
                                injection heq with hb9 ho9
                                subst hb9 ho9
                                obtain ⟨s9, hrg, hsE, hsG⟩ := hst k (by omega)
                                have HRG9 : Hid (∀ z, Below w.heap.size w z → z.rangeAt b (o + k * 17) [.int .i64 s9.K, .bool s9.O, .slice s9.E.A s9.E.e.row.length s9.E.c, .int .i64 s9.E.e.fam, .slice s9.E.B s9.E.e.qual.length s9.E.d, .int .i64 s9.E.e.ts, .int .i64 s9.E.e.seq, .int .i64 s9.E.e.kind, .slice s9.E.D s9.E.e.val.length s9.E.q, .slice s9.G.A s9.G.e.row.length s9.G.c, .int .i64 s9.G.e.fam, .slice s9.G.B s9.G.e.qual.length s9.G.d, .int .i64 s9.G.e.ts, .int .i64 s9.G.e.seq, .int .i64 s9.G.e.kind, .slice s9.G.D s9.G.e.val.length s9.G.q, .int .i64 s9.N]) := Lib.hid fun z hz j v hj => (hz.cell (p := ⟨b, _, none⟩) hbl).trans (hrg j v hj)
                                have HSE9 : Hid (∀ z, Below w.heap.size w z → s9.E.En z) := Lib.hid fun z hz => hsE.later hz
                                have HSG9 : Hid (∀ z, Below w.heap.size w z → s9.G.En z) := Lib.hid fun z hz => hsG.later hz
                                have HK9 : Hid (∀ z, Below w.heap.size w z → z.cell? ⟨b, o + k * 17, none⟩ = some (.int .i64 s9.K)) := Lib.hid fun z hz => HRG9.out z hz 0 _ rfl
                                clear hbl hst hrg hsE hsG
                                go_upto_region 24 with fail
                                by_cases hk9 : s9.K = 7
                                case pos =>
                                  as_aux_lemma =>
                                    have t9 : (s9.K != 7) = false := by rw [hk9]; rfl
                                    clear hk9
                                    go_wp2_with (first
                                      | ((guard_target =~ wpList _ _ _ ({ dst := _, op := _, type := _, pos := _, after := _, guard := some _ } :: _) _ _); (with_reducible refine wl_skipQ ?hw ?_); (case hw => kernel_rfl))
                                      | (refine wpList_load_cell rfl 3 (.tmp 98) rfl rfl (HK9.out _ HQ4.out.ow.up) (fun w => Try.isAgg3 w) ?_))
                                    go_roundw
                                    case rel => exact ⟨k + 1, by go_num, Lib.hid ⟨by omega, by omega, p2, osF4, ms4, ns4, HF1.out, HF2.out, by have := HL4.out; omega, HQ4.out⟩⟩
                                    case measure => simp [intOf]; omega
                                have t9 : (s9.K != 7) = true := by simp [hk9]
                                clear hk9
                                go_wp2_with (first
                                  | (refine wpList_load_cell rfl 3 (.tmp 98) rfl rfl (HK9.out _ HQ4.out.ow.up) (fun w => Try.isAgg3 w) ?_)
                                  | (refine wpList_load_row7o rfl 72 (.tmp 105) rfl rfl (HRG9.out _ HQ4.out.ow.up) stp_row ?_)
                                  | (go_at_call 33; go_must (refine (pstep3_q (b := p2.t.list.length) s9 HF1.out HQ4.out (fun z hz => HSE9.out z hz) (fun z hz => HSG9.out z hz) (Nat.le_refl _) (by have := HL4.out; omega)).mono ?_); rintro e y ⟨rfl, p5, osF5, ns5, g1', g2', hle, hq5⟩; have HKJ5 : Hid (KeepJ w gf p q i n [N0Q, boxO g2 [.bool false]] ([boxO g8 [.int .i64 s.K, .bool s.O, .slice s.E.A s.E.e.row.length s.E.c, .int .i64 s.E.e.fam, .slice s.E.B s.E.e.qual.length s.E.d, .int .i64 s.E.e.ts, .int .i64 s.E.e.seq, .int .i64 s.E.e.kind, .slice s.E.D s.E.e.val.length s.E.q, .slice s.G.A s.G.e.row.length s.G.c, .int .i64 s.G.e.fam, .slice s.G.B s.G.e.qual.length s.G.d, .int .i64 s.G.e.ts, .int .i64 s.G.e.seq, .int .i64 s.G.e.kind, .slice s.G.D s.G.e.val.length s.G.q, .int .i64 s.N], boxO g9 [.slice A1 ec.row.length c1, .int .i64 ec.fam, .slice B1 ec.qual.length d1, .int .i64 ec.ts, .int .i64 ec.seq, .int .i64 ec.kind, .slice D1 ec.val.length q1], boxO g11 [.slice A2 ec.row.length c2, .int .i64 ec.fam, .slice B2 ec.qual.length d2, .int .i64 ec.ts, .int .i64 ec.seq, .int .i64 ec.kind, .slice D2 ec.val.length q2], boxO b24 [.pointer (some ⟨p.tg, 0, none⟩)], boxO b83 [.func (.func 55) #[] #[.pointer (some ⟨b5, 0, none⟩)]], boxO b5 [.slice s0.A s0.e.row.length s0.c, .int .i64 s0.e.fam, .slice s0.B s0.e.qual.length s0.d, .int .i64 s0.e.ts, .int .i64 s0.e.seq, .int .i64 s0.e.kind, .slice s0.D s0.e.val.length s0.q]] ++ ([clipO s0.A s0.e.row, clipO s0.B s0.e.qual, clipO s0.D s0.e.val] ++ entO A2 B2 D2 c2 d2 q2 ec)) Ds (k + 1) y) := Lib.hid ⟨by omega, by omega, p5, osF5, ms4 ++ ns5, ns4 ++ ns5, g1'.trans HF1.out, g2'.trans HF2.out, by have := HL4.out; omega, hq5.permR (keep_perm _ _ _ _ _)⟩; clear g1' g2' hle hq5 HQ4))
                                go_roundw
                                case rel => exact ⟨k + 1, by go_num, HKJ5⟩
                                case measure => simp [intOf]; omega
                        obtain ⟨k, rfl, HKJ⟩ := hcut
                        as_aux_lemma =>
                          obtain ⟨hk1, hk2, ⟨pg', tg', t', fr', A', n', c', rs'⟩, osF3, ms3, ns3, e1, e2, hl, hq⟩ := HKJ.out
                          obtain rfl : pg' = p.pg := e1
                          obtain rfl : tg' = p.tg := e2
                          have HQ3 := Lib.hid hq
                          have HL3 : Hid (t'.list.length + 1 ≤ k) := Lib.hid hl
                          have HX : Hid (OW w (osF3 ++ (boxO p.pg [.pointer (some ⟨p.tg, 0, none⟩), .slice A' n' c', .bool fr'] :: boxO p.tg (tabC t' fr') :: q.box :: q.tab :: ([N0Q, boxO g2 [.bool false]] ++ ((([boxO g8 [.int .i64 s.K, .bool s.O, .slice s.E.A s.E.e.row.length s.E.c, .int .i64 s.E.e.fam, .slice s.E.B s.E.e.qual.length s.E.d, .int .i64 s.E.e.ts, .int .i64 s.E.e.seq, .int .i64 s.E.e.kind, .slice s.E.D s.E.e.val.length s.E.q, .slice s.G.A s.G.e.row.length s.G.c, .int .i64 s.G.e.fam, .slice s.G.B s.G.e.qual.length s.G.d, .int .i64 s.G.e.ts, .int .i64 s.G.e.seq, .int .i64 s.G.e.kind, .slice s.G.D s.G.e.val.length s.G.q, .int .i64 s.N], boxO g9 [.slice A1 ec.row.length c1, .int .i64 ec.fam, .slice B1 ec.qual.length d1, .int .i64 ec.ts, .int .i64 ec.seq, .int .i64 ec.kind, .slice D1 ec.val.length q1], boxO g11 [.slice A2 ec.row.length c2, .int .i64 ec.fam, .slice B2 ec.qual.length d2, .int .i64 ec.ts, .int .i64 ec.seq, .int .i64 ec.kind, .slice D2 ec.val.length q2], boxO b24 [.pointer (some ⟨p.tg, 0, none⟩)], boxO b83 [.func (.func 55) #[] #[.pointer (some ⟨b5, 0, none⟩)]], boxO b5 [.slice s0.A s0.e.row.length s0.c, .int .i64 s0.e.fam, .slice s0.B s0.e.qual.length s0.d, .int .i64 s0.e.ts, .int .i64 s0.e.seq, .int .i64 s0.e.kind, .slice s0.D s0.e.val.length s0.q]] ++ ([clipO s0.A s0.e.row, clipO s0.B s0.e.qual, clipO s0.D s0.e.val] ++ entO A2 B2 D2 c2 d2 q2 ec)) ++ ns3) ++ Ds.map dfrO)))) wc) := Lib.hid hq.ow
                          have HRT : Hid (RT ms3 A' n' c' rs' t'.ents) := Lib.hid hq.okp.rt
                          have HMS : Hid (∀ o, o ∈ ms3 → o ∈ [N0Q, boxO g2 [.bool false]] ++ ((([boxO g8 [.int .i64 s.K, .bool s.O, .slice s.E.A s.E.e.row.length s.E.c, .int .i64 s.E.e.fam, .slice s.E.B s.E.e.qual.length s.E.d, .int .i64 s.E.e.ts, .int .i64 s.E.e.seq, .int .i64 s.E.e.kind, .slice s.E.D s.E.e.val.length s.E.q, .slice s.G.A s.G.e.row.length s.G.c, .int .i64 s.G.e.fam, .slice s.G.B s.G.e.qual.length s.G.d, .int .i64 s.G.e.ts, .int .i64 s.G.e.seq, .int .i64 s.G.e.kind, .slice s.G.D s.G.e.val.length s.G.q, .int .i64 s.N], boxO g9 [.slice A1 ec.row.length c1, .int .i64 ec.fam, .slice B1 ec.qual.length d1, .int .i64 ec.ts, .int .i64 ec.seq, .int .i64 ec.kind, .slice D1 ec.val.length q1], boxO g11 [.slice A2 ec.row.length c2, .int .i64 ec.fam, .slice B2 ec.qual.length d2, .int .i64 ec.ts, .int .i64 ec.seq, .int .i64 ec.kind, .slice D2 ec.val.length q2], boxO b24 [.pointer (some ⟨p.tg, 0, none⟩)], boxO b83 [.func (.func 55) #[] #[.pointer (some ⟨b5, 0, none⟩)]], boxO b5 [.slice s0.A s0.e.row.length s0.c, .int .i64 s0.e.fam, .slice s0.B s0.e.qual.length s0.d, .int .i64 s0.e.ts, .int .i64 s0.e.seq, .int .i64 s0.e.kind, .slice s0.D s0.e.val.length s0.q]] ++ ([clipO s0.A s0.e.row, clipO s0.B s0.e.qual, clipO s0.D s0.e.val] ++ entO A2 B2 D2 c2 d2 q2 ec)) ++ ns3) ++ Ds.map dfrO)) := Lib.hid hq.sub
                          have HNN : Hid (n' = t'.list.length) := Lib.hid (by have h := ((hq.okp.rt.more (os' := osF3 ++ (boxO p.pg [.pointer (some ⟨p.tg, 0, none⟩), .slice A' n' c', .bool fr'] :: boxO p.tg (tabC t' fr') :: q.box :: q.tab :: ([N0Q, boxO g2 [.bool false]] ++ ((([boxO g8 [.int .i64 s.K, .bool s.O, .slice s.E.A s.E.e.row.length s.E.c, .int .i64 s.E.e.fam, .slice s.E.B s.E.e.qual.length s.E.d, .int .i64 s.E.e.ts, .int .i64 s.E.e.seq, .int .i64 s.E.e.kind, .slice s.E.D s.E.e.val.length s.E.q, .slice s.G.A s.G.e.row.length s.G.c, .int .i64 s.G.e.fam, .slice s.G.B s.G.e.qual.length s.G.d, .int .i64 s.G.e.ts, .int .i64 s.G.e.seq, .int .i64 s.G.e.kind, .slice s.G.D s.G.e.val.length s.G.q, .int .i64 s.N], boxO g9 [.slice A1 ec.row.length c1, .int .i64 ec.fam, .slice B1 ec.qual.length d1, .int .i64 ec.ts, .int .i64 ec.seq, .int .i64 ec.kind, .slice D1 ec.val.length q1], boxO g11 [.slice A2 ec.row.length c2, .int .i64 ec.fam, .slice B2 ec.qual.length d2, .int .i64 ec.ts, .int .i64 ec.seq, .int .i64 ec.kind, .slice D2 ec.val.length q2], boxO b24 [.pointer (some ⟨p.tg, 0, none⟩)], boxO b83 [.func (.func 55) #[] #[.pointer (some ⟨b5, 0, none⟩)]], boxO b5 [.slice s0.A s0.e.row.length s0.c, .int .i64 s0.e.fam, .slice s0.B s0.e.qual.length s0.d, .int .i64 s0.e.ts, .int .i64 s0.e.seq, .int .i64 s0.e.kind, .slice s0.D s0.e.val.length s0.q]] ++ ([clipO s0.A s0.e.row, clipO s0.B s0.e.qual, clipO s0.D s0.e.val] ++ entO A2 B2 D2 c2 d2 q2 ec)) ++ ns3) ++ Ds.map dfrO)))) fun o ho => List.mem_append_right _ (.tail _ (.tail _ (.tail _ (.tail _ (hq.sub o ho)))))).lens hq.ow).2; rw [Tr.ents_len] at h; exact h.symm)
                          have hn9 : n' ≤ 90000 := by have := HL3.out; rw [HNN.out]; have : t'.list.length + 1 ≤ k := HL3.out; omega
                          clear hl hq HKJ HKJ0
                          go_upto_region 26 with fail
                          go_cut [13] from 61 to 197 (fun pv wx => ∃ (g13 : Nat) (Aw : Option Addr) (nw cw : Nat), pv = .pointer (some ⟨g13, 0, none⟩) ∧ Hid (LIn ms3 Aw nw (fromE t'.ents ec)) ∧ Hid (OW w (boxO g13 [.slice Aw nw cw] :: (osF3 ++ (boxO p.pg [.pointer (some ⟨p.tg, 0, none⟩), .slice A' n' c', .bool fr'] :: boxO p.tg (tabC t' fr') :: q.box :: q.tab :: ([N0Q, boxO g2 [.bool false]] ++ ((([boxO g8 [.int .i64 s.K, .bool s.O, .slice s.E.A s.E.e.row.length s.E.c, .int .i64 s.E.e.fam, .slice s.E.B s.E.e.qual.length s.E.d, .int .i64 s.E.e.ts, .int .i64 s.E.e.seq, .int .i64 s.E.e.kind, .slice s.E.D s.E.e.val.length s.E.q, .slice s.G.A s.G.e.row.length s.G.c, .int .i64 s.G.e.fam, .slice s.G.B s.G.e.qual.length s.G.d, .int .i64 s.G.e.ts, .int .i64 s.G.e.seq, .int .i64 s.G.e.kind, .slice s.G.D s.G.e.val.length s.G.q, .int .i64 s.N], boxO g9 [.slice A1 ec.row.length c1, .int .i64 ec.fam, .slice B1 ec.qual.length d1, .int .i64 ec.ts, .int .i64 ec.seq, .int .i64 ec.kind, .slice D1 ec.val.length q1], boxO g11 [.slice A2 ec.row.length c2, .int .i64 ec.fam, .slice B2 ec.qual.length d2, .int .i64 ec.ts, .int .i64 ec.seq, .int .i64 ec.kind, .slice D2 ec.val.length q2], boxO b24 [.pointer (some ⟨p.tg, 0, none⟩)], boxO b83 [.func (.func 55) #[] #[.pointer (some ⟨b5, 0, none⟩)]], boxO b5 [.slice s0.A s0.e.row.length s0.c, .int .i64 s0.e.fam, .slice s0.B s0.e.qual.length s0.d, .int .i64 s0.e.ts, .int .i64 s0.e.seq, .int .i64 s0.e.kind, .slice s0.D s0.e.val.length s0.q]] ++ ([clipO s0.A s0.e.row, clipO s0.B s0.e.qual, clipO s0.D s0.e.val] ++ entO A2 B2 D2 c2 d2 q2 ec)) ++ ns3) ++ Ds.map dfrO))))) wx))
                          case first =>
                            as_aux_lemma =>
                              refine lt_start [7] (by kernel_rfl) ?_
                              intro xd hd
                              refine ⟨fun z => OW w (osF3 ++ (boxO p.pg [.pointer (some ⟨p.tg, 0, none⟩), .slice A' n' c', .bool fr'] :: boxO p.tg (tabC t' fr') :: q.box :: q.tab :: ([N0Q, boxO g2 [.bool false]] ++ ((([boxO g8 [.int .i64 s.K, .bool s.O, .slice s.E.A s.E.e.row.length s.E.c, .int .i64 s.E.e.fam, .slice s.E.B s.E.e.qual.length s.E.d, .int .i64 s.E.e.ts, .int .i64 s.E.e.seq, .int .i64 s.E.e.kind, .slice s.E.D s.E.e.val.length s.E.q, .slice s.G.A s.G.e.row.length s.G.c, .int .i64 s.G.e.fam, .slice s.G.B s.G.e.qual.length s.G.d, .int .i64 s.G.e.ts, .int .i64 s.G.e.seq, .int .i64 s.G.e.kind, .slice s.G.D s.G.e.val.length s.G.q, .int .i64 s.N], boxO g9 [.slice A1 ec.row.length c1, .int .i64 ec.fam, .slice B1 ec.qual.length d1, .int .i64 ec.ts, .int .i64 ec.seq, .int .i64 ec.kind, .slice D1 ec.val.length q1], boxO g11 [.slice A2 ec.row.length c2, .int .i64 ec.fam, .slice B2 ec.qual.length d2, .int .i64 ec.ts, .int .i64 ec.seq, .int .i64 ec.kind, .slice D2 ec.val.length q2], boxO b24 [.pointer (some ⟨p.tg, 0, none⟩)], boxO b83 [.func (.func 55) #[] #[.pointer (some ⟨b5, 0, none⟩)]], boxO b5 [.slice s0.A s0.e.row.length s0.c, .int .i64 s0.e.fam, .slice s0.B s0.e.qual.length s0.d, .int .i64 s0.e.ts, .int .i64 s0.e.seq, .int .i64 s0.e.kind, .slice s0.D s0.e.val.length s0.q]] ++ ([clipO s0.A s0.e.row, clipO s0.B s0.e.qual, clipO s0.D s0.e.val] ++ entO A2 B2 D2 c2 d2 q2 ec)) ++ ns3) ++ Ds.map dfrO)))) z, ?_⟩
                              have HS := Lib.hid (HX.out.later hd)
                              have HY := HS
                              refine lt_pure 0 rfl (by kernel_rfl) (by kernel_rfl) (by kernel_rfl) (by kernel_rfl) (fun _ _ _ h => h) (v := ?_) (yi_run rfl (fun w => ?_)) (fun _ => HS.out) ?_
                              rotate_left
                              · first | (go_simp; done) | (go_simp; with_reducible rfl)
                              simp only [Act.put, List.setIfInBounds_toArray, List.set_cons_zero, List.set_cons_succ]
                              refine lt_pure 1 rfl (by kernel_rfl) (by kernel_rfl) (by kernel_rfl) (by kernel_rfl) (fun _ _ _ h => h) (v := ?_) (yi_run rfl (fun w => ?_)) (fun _ => HS.out) ?_
                              rotate_left
                              · first | (go_simp; done) | (go_simp; with_reducible rfl)
                              simp only [Act.put, List.setIfInBounds_toArray, List.set_cons_zero, List.set_cons_succ]
                              refine lt_pure 2 rfl (by kernel_rfl) (by kernel_rfl) (by kernel_rfl) (by kernel_rfl) (fun _ _ _ h => h) (v := ?_) (yi_run rfl (fun w => ?_)) (fun _ => HS.out) ?_
                              rotate_left
                              · first | (go_simp; done) | (go_simp; with_reducible rfl)
                              simp only [Act.put, List.setIfInBounds_toArray, List.set_cons_zero, List.set_cons_succ]
                              refine lt_take 3 [5, 7] rfl (by kernel_rfl) (by kernel_rfl) (by kernel_rfl) (by kernel_rfl) (by kernel_rfl) (fun _ _ _ h => h) (yi_rowO rfl rfl rfl (fun w hS => pb_range hS (List.mem_append_right _ (.head _))) tabR_row) HS.out ?_
                              simp only [Act.put, List.setIfInBounds_toArray, List.set_cons_zero, List.set_cons_succ]
                              refine lt_take 4 [5, 7] rfl (by kernel_rfl) (by kernel_rfl) (by kernel_rfl) (by kernel_rfl) (by kernel_rfl) (fun _ _ _ h => h) (yi_row rfl rfl rfl (fun w hS => OW.rangem hS (List.mem_append_right _ (.tail _ (.tail _ (.tail _ (.tail _ (List.mem_append_right _ (List.mem_append_left _ (List.mem_append_left _ (List.mem_append_left _ (.tail _ (.tail _ (.head _))))))))))))) ent_row8) HS.out ?_
                              simp only [Act.put, List.setIfInBounds_toArray, List.set_cons_zero, List.set_cons_succ]
                              refine lt_two 5 6 rfl rfl (by kernel_rfl) rfl rfl ?_ ?_
                              · refine wp_callL rfl ⟨_, Try.func18, by decide, by kernel_rfl⟩ [.agg #[.slice A' n' c', .bool fr'], .agg #[.slice A2 ec.row.length c2, .int .i64 ec.fam, .slice B2 ec.qual.length d2, .int .i64 ec.ts, .int .i64 ec.seq, .int .i64 ec.kind, .slice D2 ec.val.length q2]] rfl ?_
                                refine (rfrom8_ms (ms := ms3) HY.out (fun o ho => List.mem_append_right _ (.tail _ (.tail _ (.tail _ (.tail _ (HMS.out o ho)))))) HRT.out (by omega) (⟨A2, c2, B2, d2, D2, q2, ec⟩ : ER) (fun z hz => (entO_ein fun o ho => List.mem_append_right _ (.tail _ (.tail _ (.tail _ (.tail _ (List.mem_append_right _ (List.mem_append_left _ (List.mem_append_left _ (List.mem_append_right _ (List.mem_append_right _ ho)))))))))).en hz)).mono ?_
                                rintro e y3 ⟨Aw, nw, cw, rfl, hz, hlin⟩
                                have HLW0 : Hid (LIn ms3 Aw nw (fromE t'.ents ec)) := Lib.hid hlin
                                replace HY : Hid (OW w ((osF3 ++ (boxO p.pg [.pointer (some ⟨p.tg, 0, none⟩), .slice A' n' c', .bool fr'] :: boxO p.tg (tabC t' fr') :: q.box :: q.tab :: ([N0Q, boxO g2 [.bool false]] ++ ((([boxO g8 [.int .i64 s.K, .bool s.O, .slice s.E.A s.E.e.row.length s.E.c, .int .i64 s.E.e.fam, .slice s.E.B s.E.e.qual.length s.E.d, .int .i64 s.E.e.ts, .int .i64 s.E.e.seq, .int .i64 s.E.e.kind, .slice s.E.D s.E.e.val.length s.E.q, .slice s.G.A s.G.e.row.length s.G.c, .int .i64 s.G.e.fam, .slice s.G.B s.G.e.qual.length s.G.d, .int .i64 s.G.e.ts, .int .i64 s.G.e.seq, .int .i64 s.G.e.kind, .slice s.G.D s.G.e.val.length s.G.q, .int .i64 s.N], boxO g9 [.slice A1 ec.row.length c1, .int .i64 ec.fam, .slice B1 ec.qual.length d1, .int .i64 ec.ts, .int .i64 ec.seq, .int .i64 ec.kind, .slice D1 ec.val.length q1], boxO g11 [.slice A2 ec.row.length c2, .int .i64 ec.fam, .slice B2 ec.qual.length d2, .int .i64 ec.ts, .int .i64 ec.seq, .int .i64 ec.kind, .slice D2 ec.val.length q2], boxO b24 [.pointer (some ⟨p.tg, 0, none⟩)], boxO b83 [.func (.func 55) #[] #[.pointer (some ⟨b5, 0, none⟩)]], boxO b5 [.slice s0.A s0.e.row.length s0.c, .int .i64 s0.e.fam, .slice s0.B s0.e.qual.length s0.d, .int .i64 s0.e.ts, .int .i64 s0.e.seq, .int .i64 s0.e.kind, .slice s0.D s0.e.val.length s0.q]] ++ ([clipO s0.A s0.e.row, clipO s0.B s0.e.qual, clipO s0.D s0.e.val] ++ entO A2 B2 D2 c2 d2 q2 ec)) ++ ns3) ++ Ds.map dfrO))))) y3) := Lib.hid hz
                                replace HS : Hid (OW w (osF3 ++ (boxO p.pg [.pointer (some ⟨p.tg, 0, none⟩), .slice A' n' c', .bool fr'] :: boxO p.tg (tabC t' fr') :: q.box :: q.tab :: ([N0Q, boxO g2 [.bool false]] ++ ((([boxO g8 [.int .i64 s.K, .bool s.O, .slice s.E.A s.E.e.row.length s.E.c, .int .i64 s.E.e.fam, .slice s.E.B s.E.e.qual.length s.E.d, .int .i64 s.E.e.ts, .int .i64 s.E.e.seq, .int .i64 s.E.e.kind, .slice s.E.D s.E.e.val.length s.E.q, .slice s.G.A s.G.e.row.length s.G.c, .int .i64 s.G.e.fam, .slice s.G.B s.G.e.qual.length s.G.d, .int .i64 s.G.e.ts, .int .i64 s.G.e.seq, .int .i64 s.G.e.kind, .slice s.G.D s.G.e.val.length s.G.q, .int .i64 s.N], boxO g9 [.slice A1 ec.row.length c1, .int .i64 ec.fam, .slice B1 ec.qual.length d1, .int .i64 ec.ts, .int .i64 ec.seq, .int .i64 ec.kind, .slice D1 ec.val.length q1], boxO g11 [.slice A2 ec.row.length c2, .int .i64 ec.fam, .slice B2 ec.qual.length d2, .int .i64 ec.ts, .int .i64 ec.seq, .int .i64 ec.kind, .slice D2 ec.val.length q2], boxO b24 [.pointer (some ⟨p.tg, 0, none⟩)], boxO b83 [.func (.func 55) #[] #[.pointer (some ⟨b5, 0, none⟩)]], boxO b5 [.slice s0.A s0.e.row.length s0.c, .int .i64 s0.e.fam, .slice s0.B s0.e.qual.length s0.d, .int .i64 s0.e.ts, .int .i64 s0.e.seq, .int .i64 s0.e.kind, .slice s0.D s0.e.val.length s0.q]] ++ ([clipO s0.A s0.e.row, clipO s0.B s0.e.qual, clipO s0.D s0.e.val] ++ entO A2 B2 D2 c2 d2 q2 ec)) ++ ns3) ++ Ds.map dfrO)))) y3) := Lib.hid (hz)
                                clear hz hlin
                                refine ⟨_, rfl, ?_⟩
                                refine ⟨fun _ => HS.out, ?_⟩
                                simp only [Act.put, List.setIfInBounds_toArray, List.set_cons_zero, List.set_cons_succ]
                                refine lt_op 6 rfl (by kernel_rfl) rfl ?_
                                refine wpo_alloc rfl [.slice none 0 0] (.inr ⟨.slice none 0 0, by kernel_rfl, rfl⟩) HY.out ?_
                                intro g13 u13 hz hb
                                replace HY : Hid (OW w (boxO g13 [.slice none 0 0] :: (osF3 ++ (boxO p.pg [.pointer (some ⟨p.tg, 0, none⟩), .slice A' n' c', .bool fr'] :: boxO p.tg (tabC t' fr') :: q.box :: q.tab :: ([N0Q, boxO g2 [.bool false]] ++ ((([boxO g8 [.int .i64 s.K, .bool s.O, .slice s.E.A s.E.e.row.length s.E.c, .int .i64 s.E.e.fam, .slice s.E.B s.E.e.qual.length s.E.d, .int .i64 s.E.e.ts, .int .i64 s.E.e.seq, .int .i64 s.E.e.kind, .slice s.E.D s.E.e.val.length s.E.q, .slice s.G.A s.G.e.row.length s.G.c, .int .i64 s.G.e.fam, .slice s.G.B s.G.e.qual.length s.G.d, .int .i64 s.G.e.ts, .int .i64 s.G.e.seq, .int .i64 s.G.e.kind, .slice s.G.D s.G.e.val.length s.G.q, .int .i64 s.N], boxO g9 [.slice A1 ec.row.length c1, .int .i64 ec.fam, .slice B1 ec.qual.length d1, .int .i64 ec.ts, .int .i64 ec.seq, .int .i64 ec.kind, .slice D1 ec.val.length q1], boxO g11 [.slice A2 ec.row.length c2, .int .i64 ec.fam, .slice B2 ec.qual.length d2, .int .i64 ec.ts, .int .i64 ec.seq, .int .i64 ec.kind, .slice D2 ec.val.length q2], boxO b24 [.pointer (some ⟨p.tg, 0, none⟩)], boxO b83 [.func (.func 55) #[] #[.pointer (some ⟨b5, 0, none⟩)]], boxO b5 [.slice s0.A s0.e.row.length s0.c, .int .i64 s0.e.fam, .slice s0.B s0.e.qual.length s0.d, .int .i64 s0.e.ts, .int .i64 s0.e.seq, .int .i64 s0.e.kind, .slice s0.D s0.e.val.length s0.q]] ++ ([clipO s0.A s0.e.row, clipO s0.B s0.e.qual, clipO s0.D s0.e.val] ++ entO A2 B2 D2 c2 d2 q2 ec)) ++ ns3) ++ Ds.map dfrO))))) u13) := Lib.hid (hz.perm (fr_perm _ _))
                                replace HS := Lib.hid (HS.out.later hb)
                                clear hz hb
                                refine ⟨fun _ => HS.out, ?_⟩
                                simp only [Act.put, List.setIfInBounds_toArray, List.set_cons_zero, List.set_cons_succ]
                                refine lt_end 7 rfl (by kernel_rfl) rfl (by kernel_rfl) ?_
                                refine wpo_put1 rfl HY.out 0 rfl 0 rfl (by show 0 < 1; decide) (.slice Aw nw cw) rfl (by kernel_rfl) rfl ?_
                                intro u14 hz _
                                replace HY : Hid (OW w (boxO g13 [.slice Aw nw cw] :: (osF3 ++ (boxO p.pg [.pointer (some ⟨p.tg, 0, none⟩), .slice A' n' c', .bool fr'] :: boxO p.tg (tabC t' fr') :: q.box :: q.tab :: ([N0Q, boxO g2 [.bool false]] ++ ((([boxO g8 [.int .i64 s.K, .bool s.O, .slice s.E.A s.E.e.row.length s.E.c, .int .i64 s.E.e.fam, .slice s.E.B s.E.e.qual.length s.E.d, .int .i64 s.E.e.ts, .int .i64 s.E.e.seq, .int .i64 s.E.e.kind, .slice s.E.D s.E.e.val.length s.E.q, .slice s.G.A s.G.e.row.length s.G.c, .int .i64 s.G.e.fam, .slice s.G.B s.G.e.qual.length s.G.d, .int .i64 s.G.e.ts, .int .i64 s.G.e.seq, .int .i64 s.G.e.kind, .slice s.G.D s.G.e.val.length s.G.q, .int .i64 s.N], boxO g9 [.slice A1 ec.row.length c1, .int .i64 ec.fam, .slice B1 ec.qual.length d1, .int .i64 ec.ts, .int .i64 ec.seq, .int .i64 ec.kind, .slice D1 ec.val.length q1], boxO g11 [.slice A2 ec.row.length c2, .int .i64 ec.fam, .slice B2 ec.qual.length d2, .int .i64 ec.ts, .int .i64 ec.seq, .int .i64 ec.kind, .slice D2 ec.val.length q2], boxO b24 [.pointer (some ⟨p.tg, 0, none⟩)], boxO b83 [.func (.func 55) #[] #[.pointer (some ⟨b5, 0, none⟩)]], boxO b5 [.slice s0.A s0.e.row.length s0.c, .int .i64 s0.e.fam, .slice s0.B s0.e.qual.length s0.d, .int .i64 s0.e.ts, .int .i64 s0.e.seq, .int .i64 s0.e.kind, .slice s0.D s0.e.val.length s0.q]] ++ ([clipO s0.A s0.e.row, clipO s0.B s0.e.qual, clipO s0.D s0.e.val] ++ entO A2 B2 D2 c2 d2 q2 ec)) ++ ns3) ++ Ds.map dfrO))))) u14) := Lib.hid hz
                                clear hz
                                simp only [Act.put]
                                refine lt_done (by kernel_rfl) ?_
                                go_wp2_with fail
                                go_meet
                                exact ⟨g13, Aw, nw, cw, rfl, HLW0, HY⟩
                              · refine wpo_alloc rfl [.slice none 0 0] (.inr ⟨.slice none 0 0, by kernel_rfl, rfl⟩) HY.out ?_
                                intro g13 u13 hz hb
                                replace HY : Hid (OW w (boxO g13 [.slice none 0 0] :: (osF3 ++ (boxO p.pg [.pointer (some ⟨p.tg, 0, none⟩), .slice A' n' c', .bool fr'] :: boxO p.tg (tabC t' fr') :: q.box :: q.tab :: ([N0Q, boxO g2 [.bool false]] ++ ((([boxO g8 [.int .i64 s.K, .bool s.O, .slice s.E.A s.E.e.row.length s.E.c, .int .i64 s.E.e.fam, .slice s.E.B s.E.e.qual.length s.E.d, .int .i64 s.E.e.ts, .int .i64 s.E.e.seq, .int .i64 s.E.e.kind, .slice s.E.D s.E.e.val.length s.E.q, .slice s.G.A s.G.e.row.length s.G.c, .int .i64 s.G.e.fam, .slice s.G.B s.G.e.qual.length s.G.d, .int .i64 s.G.e.ts, .int .i64 s.G.e.seq, .int .i64 s.G.e.kind, .slice s.G.D s.G.e.val.length s.G.q, .int .i64 s.N], boxO g9 [.slice A1 ec.row.length c1, .int .i64 ec.fam, .slice B1 ec.qual.length d1, .int .i64 ec.ts, .int .i64 ec.seq, .int .i64 ec.kind, .slice D1 ec.val.length q1], boxO g11 [.slice A2 ec.row.length c2, .int .i64 ec.fam, .slice B2 ec.qual.length d2, .int .i64 ec.ts, .int .i64 ec.seq, .int .i64 ec.kind, .slice D2 ec.val.length q2], boxO b24 [.pointer (some ⟨p.tg, 0, none⟩)], boxO b83 [.func (.func 55) #[] #[.pointer (some ⟨b5, 0, none⟩)]], boxO b5 [.slice s0.A s0.e.row.length s0.c, .int .i64 s0.e.fam, .slice s0.B s0.e.qual.length s0.d, .int .i64 s0.e.ts, .int .i64 s0.e.seq, .int .i64 s0.e.kind, .slice s0.D s0.e.val.length s0.q]] ++ ([clipO s0.A s0.e.row, clipO s0.B s0.e.qual, clipO s0.D s0.e.val] ++ entO A2 B2 D2 c2 d2 q2 ec)) ++ ns3) ++ Ds.map dfrO))))) u13) := Lib.hid (hz.perm (fr_perm _ _))
                                replace HS := Lib.hid (HS.out.later hb)
                                clear hz hb
                                refine ⟨fun _ => HS.out, ?_⟩
                                simp only [Act.put, List.setIfInBounds_toArray, List.set_cons_zero, List.set_cons_succ]
                                refine lt_op 5 rfl (by kernel_rfl) rfl ?_
                                refine wp_callL rfl ⟨_, Try.func18, by decide, by kernel_rfl⟩ [.agg #[.slice A' n' c', .bool fr'], .agg #[.slice A2 ec.row.length c2, .int .i64 ec.fam, .slice B2 ec.qual.length d2, .int .i64 ec.ts, .int .i64 ec.seq, .int .i64 ec.kind, .slice D2 ec.val.length q2]] rfl ?_
                                refine (rfrom8_ms (ms := ms3) HY.out (fun o ho => .tail _ (List.mem_append_right _ (.tail _ (.tail _ (.tail _ (.tail _ (HMS.out o ho))))))) HRT.out (by omega) (⟨A2, c2, B2, d2, D2, q2, ec⟩ : ER) (fun z hz => (entO_ein fun o ho => .tail _ (List.mem_append_right _ (.tail _ (.tail _ (.tail _ (.tail _ (List.mem_append_right _ (List.mem_append_left _ (List.mem_append_left _ (List.mem_append_right _ (List.mem_append_right _ ho))))))))))).en hz)).mono ?_
                                rintro e y3 ⟨Aw, nw, cw, rfl, hz, hlin⟩
                                have HLW0 : Hid (LIn ms3 Aw nw (fromE t'.ents ec)) := Lib.hid hlin
                                replace HY : Hid (OW w (boxO g13 [.slice none 0 0] :: (osF3 ++ (boxO p.pg [.pointer (some ⟨p.tg, 0, none⟩), .slice A' n' c', .bool fr'] :: boxO p.tg (tabC t' fr') :: q.box :: q.tab :: ([N0Q, boxO g2 [.bool false]] ++ ((([boxO g8 [.int .i64 s.K, .bool s.O, .slice s.E.A s.E.e.row.length s.E.c, .int .i64 s.E.e.fam, .slice s.E.B s.E.e.qual.length s.E.d, .int .i64 s.E.e.ts, .int .i64 s.E.e.seq, .int .i64 s.E.e.kind, .slice s.E.D s.E.e.val.length s.E.q, .slice s.G.A s.G.e.row.length s.G.c, .int .i64 s.G.e.fam, .slice s.G.B s.G.e.qual.length s.G.d, .int .i64 s.G.e.ts, .int .i64 s.G.e.seq, .int .i64 s.G.e.kind, .slice s.G.D s.G.e.val.length s.G.q, .int .i64 s.N], boxO g9 [.slice A1 ec.row.length c1, .int .i64 ec.fam, .slice B1 ec.qual.length d1, .int .i64 ec.ts, .int .i64 ec.seq, .int .i64 ec.kind, .slice D1 ec.val.length q1], boxO g11 [.slice A2 ec.row.length c2, .int .i64 ec.fam, .slice B2 ec.qual.length d2, .int .i64 ec.ts, .int .i64 ec.seq, .int .i64 ec.kind, .slice D2 ec.val.length q2], boxO b24 [.pointer (some ⟨p.tg, 0, none⟩)], boxO b83 [.func (.func 55) #[] #[.pointer (some ⟨b5, 0, none⟩)]], boxO b5 [.slice s0.A s0.e.row.length s0.c, .int .i64 s0.e.fam, .slice s0.B s0.e.qual.length s0.d, .int .i64 s0.e.ts, .int .i64 s0.e.seq, .int .i64 s0.e.kind, .slice s0.D s0.e.val.length s0.q]] ++ ([clipO s0.A s0.e.row, clipO s0.B s0.e.qual, clipO s0.D s0.e.val] ++ entO A2 B2 D2 c2 d2 q2 ec)) ++ ns3) ++ Ds.map dfrO))))) y3) := Lib.hid hz
                                replace HS : Hid (OW w (osF3 ++ (boxO p.pg [.pointer (some ⟨p.tg, 0, none⟩), .slice A' n' c', .bool fr'] :: boxO p.tg (tabC t' fr') :: q.box :: q.tab :: ([N0Q, boxO g2 [.bool false]] ++ ((([boxO g8 [.int .i64 s.K, .bool s.O, .slice s.E.A s.E.e.row.length s.E.c, .int .i64 s.E.e.fam, .slice s.E.B s.E.e.qual.length s.E.d, .int .i64 s.E.e.ts, .int .i64 s.E.e.seq, .int .i64 s.E.e.kind, .slice s.E.D s.E.e.val.length s.E.q, .slice s.G.A s.G.e.row.length s.G.c, .int .i64 s.G.e.fam, .slice s.G.B s.G.e.qual.length s.G.d, .int .i64 s.G.e.ts, .int .i64 s.G.e.seq, .int .i64 s.G.e.kind, .slice s.G.D s.G.e.val.length s.G.q, .int .i64 s.N], boxO g9 [.slice A1 ec.row.length c1, .int .i64 ec.fam, .slice B1 ec.qual.length d1, .int .i64 ec.ts, .int .i64 ec.seq, .int .i64 ec.kind, .slice D1 ec.val.length q1], boxO g11 [.slice A2 ec.row.length c2, .int .i64 ec.fam, .slice B2 ec.qual.length d2, .int .i64 ec.ts, .int .i64 ec.seq, .int .i64 ec.kind, .slice D2 ec.val.length q2], boxO b24 [.pointer (some ⟨p.tg, 0, none⟩)], boxO b83 [.func (.func 55) #[] #[.pointer (some ⟨b5, 0, none⟩)]], boxO b5 [.slice s0.A s0.e.row.length s0.c, .int .i64 s0.e.fam, .slice s0.B s0.e.qual.length s0.d, .int .i64 s0.e.ts, .int .i64 s0.e.seq, .int .i64 s0.e.kind, .slice s0.D s0.e.val.length s0.q]] ++ ([clipO s0.A s0.e.row, clipO s0.B s0.e.qual, clipO s0.D s0.e.val] ++ entO A2 B2 D2 c2 d2 q2 ec)) ++ ns3) ++ Ds.map dfrO)))) y3) := Lib.hid (hz.erase 0)
                                clear hz hlin
                                refine ⟨_, rfl, ?_⟩
                                refine ⟨fun _ => HS.out, ?_⟩
                                simp only [Act.put, List.setIfInBounds_toArray, List.set_cons_zero, List.set_cons_succ]
                                refine lt_end 7 rfl (by kernel_rfl) rfl (by kernel_rfl) ?_
                                refine wpo_put1 rfl HY.out 0 rfl 0 rfl (by show 0 < 1; decide) (.slice Aw nw cw) rfl (by kernel_rfl) rfl ?_
                                intro u14 hz _
                                replace HY : Hid (OW w (boxO g13 [.slice Aw nw cw] :: (osF3 ++ (boxO p.pg [.pointer (some ⟨p.tg, 0, none⟩), .slice A' n' c', .bool fr'] :: boxO p.tg (tabC t' fr') :: q.box :: q.tab :: ([N0Q, boxO g2 [.bool false]] ++ ((([boxO g8 [.int .i64 s.K, .bool s.O, .slice s.E.A s.E.e.row.length s.E.c, .int .i64 s.E.e.fam, .slice s.E.B s.E.e.qual.length s.E.d, .int .i64 s.E.e.ts, .int .i64 s.E.e.seq, .int .i64 s.E.e.kind, .slice s.E.D s.E.e.val.length s.E.q, .slice s.G.A s.G.e.row.length s.G.c, .int .i64 s.G.e.fam, .slice s.G.B s.G.e.qual.length s.G.d, .int .i64 s.G.e.ts, .int .i64 s.G.e.seq, .int .i64 s.G.e.kind, .slice s.G.D s.G.e.val.length s.G.q, .int .i64 s.N], boxO g9 [.slice A1 ec.row.length c1, .int .i64 ec.fam, .slice B1 ec.qual.length d1, .int .i64 ec.ts, .int .i64 ec.seq, .int .i64 ec.kind, .slice D1 ec.val.length q1], boxO g11 [.slice A2 ec.row.length c2, .int .i64 ec.fam, .slice B2 ec.qual.length d2, .int .i64 ec.ts, .int .i64 ec.seq, .int .i64 ec.kind, .slice D2 ec.val.length q2], boxO b24 [.pointer (some ⟨p.tg, 0, none⟩)], boxO b83 [.func (.func 55) #[] #[.pointer (some ⟨b5, 0, none⟩)]], boxO b5 [.slice s0.A s0.e.row.length s0.c, .int .i64 s0.e.fam, .slice s0.B s0.e.qual.length s0.d, .int .i64 s0.e.ts, .int .i64 s0.e.seq, .int .i64 s0.e.kind, .slice s0.D s0.e.val.length s0.q]] ++ ([clipO s0.A s0.e.row, clipO s0.B s0.e.qual, clipO s0.D s0.e.val] ++ entO A2 B2 D2 c2 d2 q2 ec)) ++ ns3) ++ Ds.map dfrO))))) u14) := Lib.hid hz
                                clear hz
                                simp only [Act.put]
                                refine lt_done (by kernel_rfl) ?_
                                go_wp2_with fail
                                go_meet
                                exact ⟨g13, Aw, nw, cw, rfl, HLW0, HY⟩
                          clear HX
                          obtain ⟨g13, Aw, nw, cw, rfl, HLW0, HX⟩ := hcut
                          as_aux_lemma =>
                            obtain ⟨LW, hlw⟩ : ∃ z, z = fromE t'.ents ec := ⟨_, rfl⟩
                            have HLWE := Lib.hid hlw
                            have HLW : Hid (LIn ms3 Aw nw LW) := Lib.hid (by rw [hlw]; exact HLW0.out)
                            have HNW : Hid (LW.length = nw) := Lib.hid ((HLW.out.more (os' := boxO g13 [.slice Aw nw cw] :: (osF3 ++ (boxO p.pg [.pointer (some ⟨p.tg, 0, none⟩), .slice A' n' c', .bool fr'] :: boxO p.tg (tabC t' fr') :: q.box :: q.tab :: ([N0Q, boxO g2 [.bool false]] ++ ((([boxO g8 [.int .i64 s.K, .bool s.O, .slice s.E.A s.E.e.row.length s.E.c, .int .i64 s.E.e.fam, .slice s.E.B s.E.e.qual.length s.E.d, .int .i64 s.E.e.ts, .int .i64 s.E.e.seq, .int .i64 s.E.e.kind, .slice s.E.D s.E.e.val.length s.E.q, .slice s.G.A s.G.e.row.length s.G.c, .int .i64 s.G.e.fam, .slice s.G.B s.G.e.qual.length s.G.d, .int .i64 s.G.e.ts, .int .i64 s.G.e.seq, .int .i64 s.G.e.kind, .slice s.G.D s.G.e.val.length s.G.q, .int .i64 s.N], boxO g9 [.slice A1 ec.row.length c1, .int .i64 ec.fam, .slice B1 ec.qual.length d1, .int .i64 ec.ts, .int .i64 ec.seq, .int .i64 ec.kind, .slice D1 ec.val.length q1], boxO g11 [.slice A2 ec.row.length c2, .int .i64 ec.fam, .slice B2 ec.qual.length d2, .int .i64 ec.ts, .int .i64 ec.seq, .int .i64 ec.kind, .slice D2 ec.val.length q2], boxO b24 [.pointer (some ⟨p.tg, 0, none⟩)], boxO b83 [.func (.func 55) #[] #[.pointer (some ⟨b5, 0, none⟩)]], boxO b5 [.slice s0.A s0.e.row.length s0.c, .int .i64 s0.e.fam, .slice s0.B s0.e.qual.length s0.d, .int .i64 s0.e.ts, .int .i64 s0.e.seq, .int .i64 s0.e.kind, .slice s0.D s0.e.val.length s0.q]] ++ ([clipO s0.A s0.e.row, clipO s0.B s0.e.qual, clipO s0.D s0.e.val] ++ entO A2 B2 D2 c2 d2 q2 ec)) ++ ns3) ++ Ds.map dfrO))))) fun o ho => .tail _ (List.mem_append_right _ (.tail _ (.tail _ (.tail _ (.tail _ (HMS.out o ho))))))).ens HX.out).len
                            clear hlw HLW0
                            go_wp2_with (first
                              | (refine wl_alloc rfl rfl [.int .i64 0] (.inr ⟨.int .i64 0, by kernel_rfl, rfl⟩) HX.out ?_; intro g14 v6 hz hb; have HY6 : Hid (OW w (boxO g14 [.int .i64 0] :: boxO g13 [.slice Aw nw cw] :: (osF3 ++ (boxO p.pg [.pointer (some ⟨p.tg, 0, none⟩), .slice A' n' c', .bool fr'] :: boxO p.tg (tabC t' fr') :: q.box :: q.tab :: ([N0Q, boxO g2 [.bool false]] ++ ((([boxO g8 [.int .i64 s.K, .bool s.O, .slice s.E.A s.E.e.row.length s.E.c, .int .i64 s.E.e.fam, .slice s.E.B s.E.e.qual.length s.E.d, .int .i64 s.E.e.ts, .int .i64 s.E.e.seq, .int .i64 s.E.e.kind, .slice s.E.D s.E.e.val.length s.E.q, .slice s.G.A s.G.e.row.length s.G.c, .int .i64 s.G.e.fam, .slice s.G.B s.G.e.qual.length s.G.d, .int .i64 s.G.e.ts, .int .i64 s.G.e.seq, .int .i64 s.G.e.kind, .slice s.G.D s.G.e.val.length s.G.q, .int .i64 s.N], boxO g9 [.slice A1 ec.row.length c1, .int .i64 ec.fam, .slice B1 ec.qual.length d1, .int .i64 ec.ts, .int .i64 ec.seq, .int .i64 ec.kind, .slice D1 ec.val.length q1], boxO g11 [.slice A2 ec.row.length c2, .int .i64 ec.fam, .slice B2 ec.qual.length d2, .int .i64 ec.ts, .int .i64 ec.seq, .int .i64 ec.kind, .slice D2 ec.val.length q2], boxO b24 [.pointer (some ⟨p.tg, 0, none⟩)], boxO b83 [.func (.func 55) #[] #[.pointer (some ⟨b5, 0, none⟩)]], boxO b5 [.slice s0.A s0.e.row.length s0.c, .int .i64 s0.e.fam, .slice s0.B s0.e.qual.length s0.d, .int .i64 s0.e.ts, .int .i64 s0.e.seq, .int .i64 s0.e.kind, .slice s0.D s0.e.val.length s0.q]] ++ ([clipO s0.A s0.e.row, clipO s0.B s0.e.qual, clipO s0.D s0.e.val] ++ entO A2 B2 D2 c2 d2 q2 ec)) ++ ns3) ++ Ds.map dfrO))))) v6) := Lib.hid (hz.perm (fr_perm _ _)); clear hz hb HX)
                              | (refine wl_put1 rfl (.tmp 14) (.const (.int .i64 0)) rfl HY6.out 0 rfl 0 rfl (by simp) (.int .i64 0) rfl (by kernel_rfl) rfl ?_; intro v7 hz _; have HY : Hid (OW w (boxO g14 [.int .i64 ((0 : Nat) : Int)] :: boxO g13 [.slice Aw nw cw] :: (osF3 ++ (boxO p.pg [.pointer (some ⟨p.tg, 0, none⟩), .slice A' n' c', .bool fr'] :: boxO p.tg (tabC t' fr') :: q.box :: q.tab :: ([N0Q, boxO g2 [.bool false]] ++ ((([boxO g8 [.int .i64 s.K, .bool s.O, .slice s.E.A s.E.e.row.length s.E.c, .int .i64 s.E.e.fam, .slice s.E.B s.E.e.qual.length s.E.d, .int .i64 s.E.e.ts, .int .i64 s.E.e.seq, .int .i64 s.E.e.kind, .slice s.E.D s.E.e.val.length s.E.q, .slice s.G.A s.G.e.row.length s.G.c, .int .i64 s.G.e.fam, .slice s.G.B s.G.e.qual.length s.G.d, .int .i64 s.G.e.ts, .int .i64 s.G.e.seq, .int .i64 s.G.e.kind, .slice s.G.D s.G.e.val.length s.G.q, .int .i64 s.N], boxO g9 [.slice A1 ec.row.length c1, .int .i64 ec.fam, .slice B1 ec.qual.length d1, .int .i64 ec.ts, .int .i64 ec.seq, .int .i64 ec.kind, .slice D1 ec.val.length q1], boxO g11 [.slice A2 ec.row.length c2, .int .i64 ec.fam, .slice B2 ec.qual.length d2, .int .i64 ec.ts, .int .i64 ec.seq, .int .i64 ec.kind, .slice D2 ec.val.length q2], boxO b24 [.pointer (some ⟨p.tg, 0, none⟩)], boxO b83 [.func (.func 55) #[] #[.pointer (some ⟨b5, 0, none⟩)]], boxO b5 [.slice s0.A s0.e.row.length s0.c, .int .i64 s0.e.fam, .slice s0.B s0.e.qual.length s0.d, .int .i64 s0.e.ts, .int .i64 s0.e.seq, .int .i64 s0.e.kind, .slice s0.D s0.e.val.length s0.q]] ++ ([clipO s0.A s0.e.row, clipO s0.B s0.e.qual, clipO s0.D s0.e.val] ++ entO A2 B2 D2 c2 d2 q2 ec)) ++ ns3) ++ Ds.map dfrO))))) v7) := Lib.hid hz; clear hz HY6))
                            have HIT : Hid (∀ os, (∀ o, o ∈ ms3 → o ∈ os) → AoF b5 s0 os → ItT t' (AoF b5 s0) os) := Lib.hid fun os hs hq => ⟨HQ3.out.okp.tb.m.more hs, fun r hr => (HQ3.out.okp.tb.en r hr).more hs, hq⟩
                            obtain ⟨LF, hLF⟩ : ∃ z, z = fromL t'.ents s0.e := ⟨_, rfl⟩
                            have HLF : Hid (LF = LW) := Lib.hid (by rw [hLF, fromQ_same HQ3.out.okp.tb.asc, HS0.out, HLWE.out])
                            have hIter : IterQ Try.prog 67 #[.pointer (some ⟨b24, 0, none⟩), .pointer (some ⟨b83, 0, none⟩)] LF (StT p.tg b24 b83 (.func (.func 55) #[] #[.pointer (some ⟨b5, 0, none⟩)]) t' fr') (ItT t' (AoF b5 s0)) HandM := by rw [hLF]; exact fromIter p.tg b24 b83 b5 s0 t' fr' HQ3.out.okp.tb.asc
                            have HLFN : Hid (LF.length = nw) := Lib.hid (by rw [HLF.out]; exact HNW.out)
                            have hnw8 : nw ≤ n' := by have h1 := HNW.out; rw [HLWE.out] at h1; unfold fromE at h1; rw [List.length_drop, Tr.ents_len, ← HNN.out] at h1; omega
                            have HAO : Hid (∀ os, (∀ o, o ∈ osF3 ++ (boxO p.pg [.pointer (some ⟨p.tg, 0, none⟩), .slice A' n' c', .bool fr'] :: boxO p.tg (tabC t' fr') :: q.box :: q.tab :: ([N0Q, boxO g2 [.bool false]] ++ ((([boxO g8 [.int .i64 s.K, .bool s.O, .slice s.E.A s.E.e.row.length s.E.c, .int .i64 s.E.e.fam, .slice s.E.B s.E.e.qual.length s.E.d, .int .i64 s.E.e.ts, .int .i64 s.E.e.seq, .int .i64 s.E.e.kind, .slice s.E.D s.E.e.val.length s.E.q, .slice s.G.A s.G.e.row.length s.G.c, .int .i64 s.G.e.fam, .slice s.G.B s.G.e.qual.length s.G.d, .int .i64 s.G.e.ts, .int .i64 s.G.e.seq, .int .i64 s.G.e.kind, .slice s.G.D s.G.e.val.length s.G.q, .int .i64 s.N], boxO g9 [.slice A1 ec.row.length c1, .int .i64 ec.fam, .slice B1 ec.qual.length d1, .int .i64 ec.ts, .int .i64 ec.seq, .int .i64 ec.kind, .slice D1 ec.val.length q1], boxO g11 [.slice A2 ec.row.length c2, .int .i64 ec.fam, .slice B2 ec.qual.length d2, .int .i64 ec.ts, .int .i64 ec.seq, .int .i64 ec.kind, .slice D2 ec.val.length q2], boxO b24 [.pointer (some ⟨p.tg, 0, none⟩)], boxO b83 [.func (.func 55) #[] #[.pointer (some ⟨b5, 0, none⟩)]], boxO b5 [.slice s0.A s0.e.row.length s0.c, .int .i64 s0.e.fam, .slice s0.B s0.e.qual.length s0.d, .int .i64 s0.e.ts, .int .i64 s0.e.seq, .int .i64 s0.e.kind, .slice s0.D s0.e.val.length s0.q]] ++ ([clipO s0.A s0.e.row, clipO s0.B s0.e.qual, clipO s0.D s0.e.val] ++ entO A2 B2 D2 c2 d2 q2 ec)) ++ ns3) ++ Ds.map dfrO))) → o ∈ os) → AoF b5 s0 os) := Lib.hid fun os h => ⟨h _ (List.mem_append_right _ (.tail _ (.tail _ (.tail _ (.tail _ (List.mem_append_right _ (List.mem_append_left _ (List.mem_append_left _ (List.mem_append_left _ (.tail _ (.tail _ (.tail _ (.tail _ (.tail _ (.head _))))))))))))))), HCLE.out.more fun o ho => h _ (List.mem_append_right _ (.tail _ (.tail _ (.tail _ (.tail _ (HCL.out ns3 o ho))))))⟩
                            clear hLF
                            as_aux_lemma =>
                              refine wp_rangeQ (w := w) (L := LF) (Hand := HandM) rfl (enters_of Try.func67 (by kernel_rfl) rfl) hIter (fun _ _ _ _ h => h.ok)
                                (fun pre os' => os' = boxO g14 [.int .i64 (pre.length : Nat)] :: boxO g13 [.slice Aw nw cw] :: (osF3 ++ (boxO p.pg [.pointer (some ⟨p.tg, 0, none⟩), .slice A' n' c', .bool fr'] :: boxO p.tg (tabC t' fr') :: q.box :: q.tab :: ([N0Q, boxO g2 [.bool false]] ++ ((([boxO g8 [.int .i64 s.K, .bool s.O, .slice s.E.A s.E.e.row.length s.E.c, .int .i64 s.E.e.fam, .slice s.E.B s.E.e.qual.length s.E.d, .int .i64 s.E.e.ts, .int .i64 s.E.e.seq, .int .i64 s.E.e.kind, .slice s.E.D s.E.e.val.length s.E.q, .slice s.G.A s.G.e.row.length s.G.c, .int .i64 s.G.e.fam, .slice s.G.B s.G.e.qual.length s.G.d, .int .i64 s.G.e.ts, .int .i64 s.G.e.seq, .int .i64 s.G.e.kind, .slice s.G.D s.G.e.val.length s.G.q, .int .i64 s.N], boxO g9 [.slice A1 ec.row.length c1, .int .i64 ec.fam, .slice B1 ec.qual.length d1, .int .i64 ec.ts, .int .i64 ec.seq, .int .i64 ec.kind, .slice D1 ec.val.length q1], boxO g11 [.slice A2 ec.row.length c2, .int .i64 ec.fam, .slice B2 ec.qual.length d2, .int .i64 ec.ts, .int .i64 ec.seq, .int .i64 ec.kind, .slice D2 ec.val.length q2], boxO b24 [.pointer (some ⟨p.tg, 0, none⟩)], boxO b83 [.func (.func 55) #[] #[.pointer (some ⟨b5, 0, none⟩)]], boxO b5 [.slice s0.A s0.e.row.length s0.c, .int .i64 s0.e.fam, .slice s0.B s0.e.qual.length s0.d, .int .i64 s0.e.ts, .int .i64 s0.e.seq, .int .i64 s0.e.kind, .slice s0.D s0.e.val.length s0.q]] ++ ([clipO s0.A s0.e.row, clipO s0.B s0.e.qual, clipO s0.D s0.e.val] ++ entO A2 B2 D2 c2 d2 q2 ec)) ++ ns3) ++ Ds.map dfrO))))) (fun _ _ _ => False) ?itr (os0 := boxO g14 [.int .i64 (([] : List Ent).length : Nat)] :: boxO g13 [.slice Aw nw cw] :: (osF3 ++ (boxO p.pg [.pointer (some ⟨p.tg, 0, none⟩), .slice A' n' c', .bool fr'] :: boxO p.tg (tabC t' fr') :: q.box :: q.tab :: ([N0Q, boxO g2 [.bool false]] ++ ((([boxO g8 [.int .i64 s.K, .bool s.O, .slice s.E.A s.E.e.row.length s.E.c, .int .i64 s.E.e.fam, .slice s.E.B s.E.e.qual.length s.E.d, .int .i64 s.E.e.ts, .int .i64 s.E.e.seq, .int .i64 s.E.e.kind, .slice s.E.D s.E.e.val.length s.E.q, .slice s.G.A s.G.e.row.length s.G.c, .int .i64 s.G.e.fam, .slice s.G.B s.G.e.qual.length s.G.d, .int .i64 s.G.e.ts, .int .i64 s.G.e.seq, .int .i64 s.G.e.kind, .slice s.G.D s.G.e.val.length s.G.q, .int .i64 s.N], boxO g9 [.slice A1 ec.row.length c1, .int .i64 ec.fam, .slice B1 ec.qual.length d1, .int .i64 ec.ts, .int .i64 ec.seq, .int .i64 ec.kind, .slice D1 ec.val.length q1], boxO g11 [.slice A2 ec.row.length c2, .int .i64 ec.fam, .slice B2 ec.qual.length d2, .int .i64 ec.ts, .int .i64 ec.seq, .int .i64 ec.kind, .slice D2 ec.val.length q2], boxO b24 [.pointer (some ⟨p.tg, 0, none⟩)], boxO b83 [.func (.func 55) #[] #[.pointer (some ⟨b5, 0, none⟩)]], boxO b5 [.slice s0.A s0.e.row.length s0.c, .int .i64 s0.e.fam, .slice s0.B s0.e.qual.length s0.d, .int .i64 s0.e.ts, .int .i64 s0.e.seq, .int .i64 s0.e.kind, .slice s0.D s0.e.val.length s0.q]] ++ ([clipO s0.A s0.e.row, clipO s0.B s0.e.qual, clipO s0.D s0.e.val] ++ entO A2 B2 D2 c2 d2 q2 ec)) ++ ns3) ++ Ds.map dfrO))))) rfl ⟨.tail _ (.tail _ (List.mem_append_right _ (.tail _ (.tail _ (.tail _ (.tail _ (List.mem_append_right _ (List.mem_append_left _ (List.mem_append_left _ (List.mem_append_left _ (.tail _ (.tail _ (.tail _ (.head _)))))))))))))), .tail _ (.tail _ (List.mem_append_right _ (.tail _ (.tail _ (.tail _ (.tail _ (List.mem_append_right _ (List.mem_append_left _ (List.mem_append_left _ (List.mem_append_left _ (.tail _ (.tail _ (.tail _ (.tail _ (.head _))))))))))))))), .tail _ (.tail _ (List.mem_append_right _ (.tail _ (.head _))))⟩ (HIT.out _ (fun o ho => .tail _ (.tail _ (List.mem_append_right _ (.tail _ (.tail _ (.tail _ (.tail _ (HMS.out o ho)))))))) (HAO.out _ fun o ho => .tail _ (.tail _ ho))) HY.out ?round ?done ?stop
                              case itr =>
                                rintro pre os' es rfl
                                exact HIT.out _ (fun o ho => List.mem_append_left _ (.tail _ (.tail _ (List.mem_append_right _ (.tail _ (.tail _ (.tail _ (.tail _ (HMS.out o ho))))))))) (HAO.out _ fun o ho => List.mem_append_left _ (.tail _ (.tail _ ho)))
                              case stop => exact fun D c' pre os' z _ h => h.elim
                              case round =>
                                as_aux_lemma =>
                                  rintro l pa pb pre e vs W0 W1 os' _ hpre rfl h0 ⟨s3, rfl, rfl, hec3, hh⟩
                                  have hlt3 := pre_at8 hpre
                                  obtain ⟨m, hm⟩ : ∃ z, z = pre.length := ⟨_, rfl⟩
                                  rw [← hm] at hlt3 h0
                                  have hmn : m < nw := by have h := (List.getElem?_eq_some_iff.1 hlt3).1; rw [HLFN.out] at h; exact h
                                  have HM := Lib.hid hm
                                  have HECS := Lib.hid hec3
                                  have HLT3 := Lib.hid hlt3
                                  have HV : Hid (OW w (([clipO s3.A s3.e.row, clipO s3.B s3.e.qual, clipO s3.D s3.e.val] ++ (boxO g14 [.int .i64 (m : Nat)] :: boxO g13 [.slice Aw nw cw] :: (osF3 ++ (boxO p.pg [.pointer (some ⟨p.tg, 0, none⟩), .slice A' n' c', .bool fr'] :: boxO p.tg (tabC t' fr') :: q.box :: q.tab :: ([N0Q, boxO g2 [.bool false]] ++ ((([boxO g8 [.int .i64 s.K, .bool s.O, .slice s.E.A s.E.e.row.length s.E.c, .int .i64 s.E.e.fam, .slice s.E.B s.E.e.qual.length s.E.d, .int .i64 s.E.e.ts, .int .i64 s.E.e.seq, .int .i64 s.E.e.kind, .slice s.E.D s.E.e.val.length s.E.q, .slice s.G.A s.G.e.row.length s.G.c, .int .i64 s.G.e.fam, .slice s.G.B s.G.e.qual.length s.G.d, .int .i64 s.G.e.ts, .int .i64 s.G.e.seq, .int .i64 s.G.e.kind, .slice s.G.D s.G.e.val.length s.G.q, .int .i64 s.N], boxO g9 [.slice A1 ec.row.length c1, .int .i64 ec.fam, .slice B1 ec.qual.length d1, .int .i64 ec.ts, .int .i64 ec.seq, .int .i64 ec.kind, .slice D1 ec.val.length q1], boxO g11 [.slice A2 ec.row.length c2, .int .i64 ec.fam, .slice B2 ec.qual.length d2, .int .i64 ec.ts, .int .i64 ec.seq, .int .i64 ec.kind, .slice D2 ec.val.length q2], boxO b24 [.pointer (some ⟨p.tg, 0, none⟩)], boxO b83 [.func (.func 55) #[] #[.pointer (some ⟨b5, 0, none⟩)]], boxO b5 [.slice s0.A s0.e.row.length s0.c, .int .i64 s0.e.fam, .slice s0.B s0.e.qual.length s0.d, .int .i64 s0.e.ts, .int .i64 s0.e.seq, .int .i64 s0.e.kind, .slice s0.D s0.e.val.length s0.q]] ++ ([clipO s0.A s0.e.row, clipO s0.B s0.e.qual, clipO s0.D s0.e.val] ++ entO A2 B2 D2 c2 d2 q2 ec)) ++ ns3) ++ Ds.map dfrO)))))) ++ pa) W1) := Lib.hid ((h0.app hh).perm (vq_perm _ _ _))
                                  have i3 : (0 : Int) ≤ (m : Int) := by omega
                                  have i4 : (m : Int) < (nw : Int) := by omega
                                  have i5 : decide ((m : Int) ≥ (nw : Int)) = false := decide_eq_false (by omega)
                                  have i6 : ¬ nw ≤ m := by omega
                                  have s6 : IntKind.i64.wrap ((m : Int) + 1) = (m : Int) + 1 := i64_sum (by omega) (by omega)
                                  clear hlt3 hpre h0 hh hec3 hm HY
                                  have hsem : ∀ (ρ : Operand → Value) (o : Oper), (∀ c, o.op ≠ .defer c) → Oper.semAt (some l) ρ o = execOp ρ o := fun ρ o h => Oper.semAt_some l ρ o h
                                  unfold RoundOK
                                  rw [setP1]
                                  simp only [List.setIfInBounds_toArray, List.set_cons_zero, List.set_cons_succ]
                                  gi_wp2_with (first
                                    | (refine wlIn_one rfl ?_; refine wl_alloc rfl rfl [.slice none 0 0, .int .i64 0, .slice none 0 0, .int .i64 0, .int .i64 0, .int .i64 0, .slice none 0 0] (.inl (by kernel_rfl)) HV.out ?_; intro gy z1 hz _; have HV1 : Hid (OW w ((boxO gy [.slice none 0 0, .int .i64 0, .slice none 0 0, .int .i64 0, .int .i64 0, .int .i64 0, .slice none 0 0] :: clipO s3.A s3.e.row :: clipO s3.B s3.e.qual :: clipO s3.D s3.e.val :: boxO g14 [.int .i64 (m : Nat)] :: boxO g13 [.slice Aw nw cw] :: (osF3 ++ (boxO p.pg [.pointer (some ⟨p.tg, 0, none⟩), .slice A' n' c', .bool fr'] :: boxO p.tg (tabC t' fr') :: q.box :: q.tab :: ([N0Q, boxO g2 [.bool false]] ++ ((([boxO g8 [.int .i64 s.K, .bool s.O, .slice s.E.A s.E.e.row.length s.E.c, .int .i64 s.E.e.fam, .slice s.E.B s.E.e.qual.length s.E.d, .int .i64 s.E.e.ts, .int .i64 s.E.e.seq, .int .i64 s.E.e.kind, .slice s.E.D s.E.e.val.length s.E.q, .slice s.G.A s.G.e.row.length s.G.c, .int .i64 s.G.e.fam, .slice s.G.B s.G.e.qual.length s.G.d, .int .i64 s.G.e.ts, .int .i64 s.G.e.seq, .int .i64 s.G.e.kind, .slice s.G.D s.G.e.val.length s.G.q, .int .i64 s.N], boxO g9 [.slice A1 ec.row.length c1, .int .i64 ec.fam, .slice B1 ec.qual.length d1, .int .i64 ec.ts, .int .i64 ec.seq, .int .i64 ec.kind, .slice D1 ec.val.length q1], boxO g11 [.slice A2 ec.row.length c2, .int .i64 ec.fam, .slice B2 ec.qual.length d2, .int .i64 ec.ts, .int .i64 ec.seq, .int .i64 ec.kind, .slice D2 ec.val.length q2], boxO b24 [.pointer (some ⟨p.tg, 0, none⟩)], boxO b83 [.func (.func 55) #[] #[.pointer (some ⟨b5, 0, none⟩)]], boxO b5 [.slice s0.A s0.e.row.length s0.c, .int .i64 s0.e.fam, .slice s0.B s0.e.qual.length s0.d, .int .i64 s0.e.ts, .int .i64 s0.e.seq, .int .i64 s0.e.kind, .slice s0.D s0.e.val.length s0.q]] ++ ([clipO s0.A s0.e.row, clipO s0.B s0.e.qual, clipO s0.D s0.e.val] ++ entO A2 B2 D2 c2 d2 q2 ec)) ++ ns3) ++ Ds.map dfrO))))) ++ pa) z1) := Lib.hid (hz.perm (vq_perm _ _ _)); clear hz HV; refine wlIn_back ?_)
                                    | (refine wlIn_one rfl ?_; refine wl_put rfl (.tmp 15) (.tmp 118) rfl HV1.out 0 rfl rfl [.slice s3.A s3.e.row.length s3.c, .int .i64 s3.e.fam, .slice s3.B s3.e.qual.length s3.d, .int .i64 s3.e.ts, .int .i64 s3.e.seq, .int .i64 s3.e.kind, .slice s3.D s3.e.val.length s3.q] rfl rfl (by kernel_rfl) (by simp [Value.oneCell']) ?_; intro z2 hz _; have HV2 : Hid (OW w ((boxO gy [.slice s3.A s3.e.row.length s3.c, .int .i64 s3.e.fam, .slice s3.B s3.e.qual.length s3.d, .int .i64 s3.e.ts, .int .i64 s3.e.seq, .int .i64 s3.e.kind, .slice s3.D s3.e.val.length s3.q] :: clipO s3.A s3.e.row :: clipO s3.B s3.e.qual :: clipO s3.D s3.e.val :: boxO g14 [.int .i64 (m : Nat)] :: boxO g13 [.slice Aw nw cw] :: (osF3 ++ (boxO p.pg [.pointer (some ⟨p.tg, 0, none⟩), .slice A' n' c', .bool fr'] :: boxO p.tg (tabC t' fr') :: q.box :: q.tab :: ([N0Q, boxO g2 [.bool false]] ++ ((([boxO g8 [.int .i64 s.K, .bool s.O, .slice s.E.A s.E.e.row.length s.E.c, .int .i64 s.E.e.fam, .slice s.E.B s.E.e.qual.length s.E.d, .int .i64 s.E.e.ts, .int .i64 s.E.e.seq, .int .i64 s.E.e.kind, .slice s.E.D s.E.e.val.length s.E.q, .slice s.G.A s.G.e.row.length s.G.c, .int .i64 s.G.e.fam, .slice s.G.B s.G.e.qual.length s.G.d, .int .i64 s.G.e.ts, .int .i64 s.G.e.seq, .int .i64 s.G.e.kind, .slice s.G.D s.G.e.val.length s.G.q, .int .i64 s.N], boxO g9 [.slice A1 ec.row.length c1, .int .i64 ec.fam, .slice B1 ec.qual.length d1, .int .i64 ec.ts, .int .i64 ec.seq, .int .i64 ec.kind, .slice D1 ec.val.length q1], boxO g11 [.slice A2 ec.row.length c2, .int .i64 ec.fam, .slice B2 ec.qual.length d2, .int .i64 ec.ts, .int .i64 ec.seq, .int .i64 ec.kind, .slice D2 ec.val.length q2], boxO b24 [.pointer (some ⟨p.tg, 0, none⟩)], boxO b83 [.func (.func 55) #[] #[.pointer (some ⟨b5, 0, none⟩)]], boxO b5 [.slice s0.A s0.e.row.length s0.c, .int .i64 s0.e.fam, .slice s0.B s0.e.qual.length s0.d, .int .i64 s0.e.ts, .int .i64 s0.e.seq, .int .i64 s0.e.kind, .slice s0.D s0.e.val.length s0.q]] ++ ([clipO s0.A s0.e.row, clipO s0.B s0.e.qual, clipO s0.D s0.e.val] ++ entO A2 B2 D2 c2 d2 q2 ec)) ++ ns3) ++ Ds.map dfrO))))) ++ pa) z2) := Lib.hid hz; clear hz HV1; refine wlIn_back ?_))
                                  refine ⟨_, HV2.out, fun z3 hz3 => ?_⟩
                                  have HW3 : Hid (OW w ((boxO gy [.slice s3.A s3.e.row.length s3.c, .int .i64 s3.e.fam, .slice s3.B s3.e.qual.length s3.d, .int .i64 s3.e.ts, .int .i64 s3.e.seq, .int .i64 s3.e.kind, .slice s3.D s3.e.val.length s3.q] :: clipO s3.A s3.e.row :: clipO s3.B s3.e.qual :: clipO s3.D s3.e.val :: boxO g14 [.int .i64 (m : Nat)] :: boxO g13 [.slice Aw nw cw] :: (osF3 ++ (boxO p.pg [.pointer (some ⟨p.tg, 0, none⟩), .slice A' n' c', .bool fr'] :: boxO p.tg (tabC t' fr') :: q.box :: q.tab :: ([N0Q, boxO g2 [.bool false]] ++ ((([boxO g8 [.int .i64 s.K, .bool s.O, .slice s.E.A s.E.e.row.length s.E.c, .int .i64 s.E.e.fam, .slice s.E.B s.E.e.qual.length s.E.d, .int .i64 s.E.e.ts, .int .i64 s.E.e.seq, .int .i64 s.E.e.kind, .slice s.E.D s.E.e.val.length s.E.q, .slice s.G.A s.G.e.row.length s.G.c, .int .i64 s.G.e.fam, .slice s.G.B s.G.e.qual.length s.G.d, .int .i64 s.G.e.ts, .int .i64 s.G.e.seq, .int .i64 s.G.e.kind, .slice s.G.D s.G.e.val.length s.G.q, .int .i64 s.N], boxO g9 [.slice A1 ec.row.length c1, .int .i64 ec.fam, .slice B1 ec.qual.length d1, .int .i64 ec.ts, .int .i64 ec.seq, .int .i64 ec.kind, .slice D1 ec.val.length q1], boxO g11 [.slice A2 ec.row.length c2, .int .i64 ec.fam, .slice B2 ec.qual.length d2, .int .i64 ec.ts, .int .i64 ec.seq, .int .i64 ec.kind, .slice D2 ec.val.length q2], boxO b24 [.pointer (some ⟨p.tg, 0, none⟩)], boxO b83 [.func (.func 55) #[] #[.pointer (some ⟨b5, 0, none⟩)]], boxO b5 [.slice s0.A s0.e.row.length s0.c, .int .i64 s0.e.fam, .slice s0.B s0.e.qual.length s0.d, .int .i64 s0.e.ts, .int .i64 s0.e.seq, .int .i64 s0.e.kind, .slice s0.D s0.e.val.length s0.q]] ++ ([clipO s0.A s0.e.row, clipO s0.B s0.e.qual, clipO s0.D s0.e.val] ++ entO A2 B2 D2 c2 d2 q2 ec)) ++ ns3) ++ Ds.map dfrO))))) ++ pb) z3) := Lib.hid hz3
                                  clear hz3 HV2
                                  obtain ⟨bw, ow_, q3, hAw, hbw, hqk, hrq, hqn⟩ := ((HLW.out.more fun o ho => List.mem_append_left _ (.tail _ (.tail _ (.tail _ (.tail _ (.tail _ (.tail _ (List.mem_append_right _ (.tail _ (.tail _ (.tail _ (.tail _ (HMS.out o ho)))))))))))) ).ens HW3.out).er hmn
                                  subst hAw
                                  have HRQ : Hid (∀ z, Below z3.heap.size z3 z → z.rangeAt bw (ow_ + m * 7) [.slice q3.A q3.e.row.length q3.c, .int .i64 q3.e.fam, .slice q3.B q3.e.qual.length q3.d, .int .i64 q3.e.ts, .int .i64 q3.e.seq, .int .i64 q3.e.kind, .slice q3.D q3.e.val.length q3.q]) := Lib.hid fun z hz j v hj => (hz.cell (p := ⟨bw, _, none⟩) hbw).trans (hrq j v hj)
                                  have HQN : Hid (∀ z, Below z3.heap.size z3 z → q3.En z) := Lib.hid fun z hz => hqn.later hz
                                  have HQE : Hid (s3.e = q3.e) := Lib.hid (by have h := HLT3.out; rw [HLF.out, hqk] at h; injection h with h; exact h.symm)
                                  clear hbw hqk hrq hqn
                                  gi_wp2
                                  refine lt_startIn [] (by kernel_rfl) (by kernel_rfl) (fun _ _ h => h) ?_
                                  intro xd hd
                                  refine ⟨fun z => Below z3.heap.size z3 z, ?_⟩
                                  have HS := Lib.hid (hd)
                                  refine lt_take 0 [3, 4, 5, 6, 7, 8, 9, 10, 11, 12] rfl (by kernel_rfl) (by kernel_rfl) (by kernel_rfl) (by kernel_rfl) (by kernel_rfl) (fun _ _ _ h => h) (yi_cell rfl rfl rfl (fun w hS => (HW3.out.later hS).cell (i := 4) (j := 0) rfl rfl) (fun w => Try.isAgg3 w)) HS.out ?_
                                  simp only [Act.put, List.setIfInBounds_toArray, List.set_cons_zero, List.set_cons_succ]
                                  refine lt_take 1 [2, 3, 4, 5, 6, 7, 8, 9, 10, 11, 12] rfl (by kernel_rfl) (by kernel_rfl) (by kernel_rfl) (by kernel_rfl) (by kernel_rfl) (fun _ _ _ h => h) (yi_cell rfl rfl rfl (fun w hS => (HW3.out.later hS).cell (i := 5) (j := 0) rfl rfl) (fun w => Try.isAgg22 w)) HS.out ?_
                                  simp only [Act.put, List.setIfInBounds_toArray, List.set_cons_zero, List.set_cons_succ]
                                  refine lt_pure 2 rfl (by kernel_rfl) (by kernel_rfl) (by kernel_rfl) (by kernel_rfl) (fun _ _ _ h => h) (v := ?_) (yi_run rfl (fun w => ?_)) (fun _ => HS.out) ?_
                                  rotate_left
                                  · first | (go_simp; done) | (go_simp; with_reducible rfl)
                                  simp only [Act.put, List.setIfInBounds_toArray, List.set_cons_zero, List.set_cons_succ]
                                  refine lt_pure 3 rfl (by kernel_rfl) (by kernel_rfl) (by kernel_rfl) (by kernel_rfl) (fun _ _ _ h => h) (v := ?_) (yi_run rfl (fun w => ?_)) (fun _ => HS.out) ?_
                                  rotate_left
                                  · first | (go_simp; done) | (go_simp; with_reducible rfl)
                                  simp only [Act.put, List.setIfInBounds_toArray, List.set_cons_zero, List.set_cons_succ]
                                  refine lt_pure 4 rfl (by kernel_rfl) (by kernel_rfl) (by kernel_rfl) (by kernel_rfl) (fun _ _ _ h => h) (v := ?_) (yi_run rfl (fun w => ?_)) (fun _ => HS.out) ?_
                                  rotate_left
                                  · first | (go_simp; done) | (go_simp; with_reducible rfl)
                                  simp only [Act.put, List.setIfInBounds_toArray, List.set_cons_zero, List.set_cons_succ]
                                  refine lt_take 5 [10, 11, 12] rfl (by kernel_rfl) (by kernel_rfl) (by kernel_rfl) (by kernel_rfl) (by kernel_rfl) (fun _ _ _ h => h) (yi_row rfl rfl rfl (fun w hS => (HW3.out.later hS).range (i := 0) rfl) ent_row8) HS.out ?_
                                  simp only [Act.put, List.setIfInBounds_toArray, List.set_cons_zero, List.set_cons_succ]
                                  refine lt_take 6 [8, 9, 10, 11, 12] rfl (by kernel_rfl) (by kernel_rfl) (by kernel_rfl) (by kernel_rfl) (by kernel_rfl) (fun _ _ _ h => h) (yi_cell rfl rfl rfl (fun w hS => (HW3.out.later hS).cell (i := 5) (j := 0) rfl rfl) (fun w => Try.isAgg22 w)) HS.out ?_
                                  simp only [Act.put, List.setIfInBounds_toArray, List.set_cons_zero, List.set_cons_succ]
                                  refine lt_take 7 [8, 9, 10, 11, 12] rfl (by kernel_rfl) (by kernel_rfl) (by kernel_rfl) (by kernel_rfl) (by kernel_rfl) (fun _ _ _ h => h) (yi_cell rfl rfl rfl (fun w hS => (HW3.out.later hS).cell (i := 4) (j := 0) rfl rfl) (fun w => Try.isAgg3 w)) HS.out ?_
                                  simp only [Act.put, List.setIfInBounds_toArray, List.set_cons_zero, List.set_cons_succ]
                                  refine lt_pure 8 rfl (by kernel_rfl) (by kernel_rfl) (by kernel_rfl) (by kernel_rfl) (fun _ _ _ h => h) (v := ?_) (yi_run rfl (fun w => ?_)) (fun _ => HS.out) ?_
                                  rotate_left
                                  · first | (go_simp; done) | (go_simp; with_reducible rfl)
                                  simp only [Act.put, List.setIfInBounds_toArray, List.set_cons_zero, List.set_cons_succ]
                                  refine lt_take 9 [10, 11, 12] rfl (by kernel_rfl) (by kernel_rfl) (by kernel_rfl) (by kernel_rfl) (by kernel_rfl) (fun _ _ _ h => h) (yi_rowO rfl rfl rfl (fun w hS => HRQ.out w hS) ent_row8) HS.out ?_
                                  simp only [Act.put, List.setIfInBounds_toArray, List.set_cons_zero, List.set_cons_succ]
                                  refine lt_call 10 rfl (by kernel_rfl) rfl rfl ⟨_, Try.func13, by decide, by kernel_rfl⟩ [.agg #[.slice s3.A s3.e.row.length s3.c, .int .i64 s3.e.fam, .slice s3.B s3.e.qual.length s3.d, .int .i64 s3.e.ts, .int .i64 s3.e.seq, .int .i64 s3.e.kind, .slice s3.D s3.e.val.length s3.q], .agg #[.slice q3.A q3.e.row.length q3.c, .int .i64 q3.e.fam, .slice q3.B q3.e.qual.length q3.d, .int .i64 q3.e.ts, .int .i64 q3.e.seq, .int .i64 q3.e.kind, .slice q3.D q3.e.val.length q3.q]] rfl ?_
                                  refine (sameEntry_yes s3 q3 _ HQE.out ((HECS.out.more (fun o ho => List.mem_append_left _ (.tail _ (clip3_in o ho)))).en (HW3.out.later HS.out)) (HQN.out _ HS.out)).mono ?_
                                  rintro e z4 ⟨rfl, hb⟩
                                  replace HS := Lib.hid (HS.out.trans (hb.mono HS.out.size))
                                  clear hb
                                  refine ⟨_, rfl, fun _ => HS.out, ?_⟩
                                  simp only [Act.put, List.setIfInBounds_toArray, List.set_cons_zero, List.set_cons_succ]
                                  refine lt_pure 11 rfl (by kernel_rfl) (by kernel_rfl) (by kernel_rfl) (by kernel_rfl) (fun _ _ _ h => h) (v := ?_) (yi_run rfl (fun w => ?_)) (fun _ => HS.out) ?_
                                  rotate_left
                                  · first | (go_simp; done) | (go_simp; with_reducible rfl)
                                  simp only [Act.put, List.setIfInBounds_toArray, List.set_cons_zero, List.set_cons_succ]
                                  refine lt_pure 12 rfl (by kernel_rfl) (by kernel_rfl) (by kernel_rfl) (by kernel_rfl) (fun _ _ _ h => h) (v := ?_) (yi_run rfl (fun w => ?_)) (fun _ => HS.out) ?_
                                  rotate_left
                                  · first | (go_simp; done) | (go_simp; with_reducible rfl)
                                  simp only [Act.put, List.setIfInBounds_toArray, List.set_cons_zero, List.set_cons_succ]
                                  refine lt_done (by kernel_rfl) ?_
                                  replace HW3 := Lib.hid (HW3.out.later HS.out)
                                  clear HS
                                  gi_wp2_with (first
                                    | (refine wlIn_one rfl ?_; refine wpList_load_cell rfl 3 (.tmp 14) rfl rfl (HW3.out.cell (i := 4) (j := 0) rfl rfl) (fun w => Try.isAgg3 w) ?_; refine wlIn_back ?_)
                                    | (refine wlIn_one rfl ?_; refine wl_put1 rfl (.tmp 14) (.tmp 133) rfl HW3.out 4 rfl 0 rfl (by simp) (.int .i64 ((m : Int) + 1)) rfl (by kernel_rfl) rfl ?_; intro z7 hz _; have HW7 := Lib.hid hz; clear hz HW3; refine wlIn_back ?_))
                                  refine ⟨_, rfl, ?_⟩
                                  rw [List.length_append, ← HM.out]
                                  exact (((HW7.out.erase 0).erase 0).erase 0).erase 0
                              case done =>
                                rintro D os' z rfl h
                                rw [HLFN.out] at h
                                have HZ := Lib.hid h
                                have e8 : ((nw : Int) != (nw : Int)) = false := by simp
                                have e9 : (nw != nw) = false := by simp
                                have s7 : IntKind.i64.wrap ((k : Int) - 1) = (k : Int) - 1 := i64_sum (by omega) (by omega)
                                clear h HY hIter
                                go_wp2_with (first
                                  | (refine wpList_load_cell rfl 3 (.tmp 14) rfl rfl (HZ.out.cell (i := 0) (j := 0) rfl rfl) (fun w => Try.isAgg3 w) ?_)
                                  | (refine wpList_load_cell rfl 22 (.tmp 13) rfl rfl (HZ.out.cell (i := 1) (j := 0) rfl rfl) (fun w => Try.isAgg22 w) ?_))
                                go_meet
                                have HJ : Hid (JoinQ w gf p q i n [N0Q, boxO g2 [.bool false]] (k - 1) (D :: Ds) z) := Lib.hid ⟨by omega, by omega, ⟨p.pg, p.tg, t', fr', A', n', c', rs'⟩, osF3, ms3, boxO g14 [.int .i64 (nw : Nat)] :: boxO g13 [.slice Aw nw cw] :: (([boxO g8 [.int .i64 s.K, .bool s.O, .slice s.E.A s.E.e.row.length s.E.c, .int .i64 s.E.e.fam, .slice s.E.B s.E.e.qual.length s.E.d, .int .i64 s.E.e.ts, .int .i64 s.E.e.seq, .int .i64 s.E.e.kind, .slice s.E.D s.E.e.val.length s.E.q, .slice s.G.A s.G.e.row.length s.G.c, .int .i64 s.G.e.fam, .slice s.G.B s.G.e.qual.length s.G.d, .int .i64 s.G.e.ts, .int .i64 s.G.e.seq, .int .i64 s.G.e.kind, .slice s.G.D s.G.e.val.length s.G.q, .int .i64 s.N], boxO g9 [.slice A1 ec.row.length c1, .int .i64 ec.fam, .slice B1 ec.qual.length d1, .int .i64 ec.ts, .int .i64 ec.seq, .int .i64 ec.kind, .slice D1 ec.val.length q1], boxO g11 [.slice A2 ec.row.length c2, .int .i64 ec.fam, .slice B2 ec.qual.length d2, .int .i64 ec.ts, .int .i64 ec.seq, .int .i64 ec.kind, .slice D2 ec.val.length q2], boxO b24 [.pointer (some ⟨p.tg, 0, none⟩)], boxO b83 [.func (.func 55) #[] #[.pointer (some ⟨b5, 0, none⟩)]], boxO b5 [.slice s0.A s0.e.row.length s0.c, .int .i64 s0.e.fam, .slice s0.B s0.e.qual.length s0.d, .int .i64 s0.e.ts, .int .i64 s0.e.seq, .int .i64 s0.e.kind, .slice s0.D s0.e.val.length s0.q]] ++ ([clipO s0.A s0.e.row, clipO s0.B s0.e.qual, clipO s0.D s0.e.val] ++ entO A2 B2 D2 c2 d2 q2 ec)) ++ ns3), rfl, rfl, by have : t'.list.length + 1 ≤ k := HL3.out; show t'.list.length ≤ _; omega, HQ3.out.f, HQ3.out.okp, HQ3.out.okq, fun o ho => by
                                  rcases List.mem_append.1 (HMS.out o ho) with ho | ho
                                  · exact List.mem_append_left _ ho
                                  · rcases List.mem_append.1 ho with ho | ho
                                    · exact List.mem_append_right _ (List.mem_append_left _ (.tail _ (.tail _ ho)))
                                    · exact List.mem_append_right _ (List.mem_append_right _ (.tail _ ho)), HZ.out.perm (fin_perm _ _ _ _ _ _ _ _ _ _ _ _)⟩
                                exact ⟨k - 1, D :: Ds, by go_num, rfl, HJ⟩
          case neg =>
            as_aux_lemma =>
              have t7 : (s.K == 7) = false := beq_eq_false_iff_ne.2 hk
              clear hk
              go_wp2_with (first
                | (refine wpList_load_row7o rfl 72 (.tmp 143) rfl rfl (HRG.out _ HQ.out.ow.up) stp_row ?_)
                | (go_at_call 33; go_must (refine (pstep2_q s HQ.out (fun z hz => HSE.out z hz) (fun z hz => HSG.out z hz) HL1.out (by omega)).mono ?_); rintro e y ⟨rfl, p2, osF2, ns2, e1, e2, hle, hq⟩; have HJ : Hid (JoinQ w gf p q i n [N0Q, boxO g2 [.bool false]] i Ds y) := Lib.hid ⟨Nat.le_refl _, hlt, p2, osF2, ms ++ ns2, ns ++ ns2, e1, e2, hle, hq.permR (q2_marks _ _ _ _)⟩; clear e1 e2 hle hq HQ))
              go_meet
              exact ⟨i, Ds, rfl, rfl, HJ⟩
        intro _ wj hinv
        obtain ⟨u6, hinv⟩ := hinv
        obtain ⟨u8, hinv⟩ := hinv
        obtain ⟨u9, hinv⟩ := hinv
        obtain ⟨u10, hinv⟩ := hinv
        obtain ⟨u11, hinv⟩ := hinv
        obtain ⟨u12, hinv⟩ := hinv
        obtain ⟨u13, hinv⟩ := hinv
        obtain ⟨u14, hinv⟩ := hinv
        obtain ⟨u15, hinv⟩ := hinv
        obtain ⟨u16, hinv⟩ := hinv
        obtain ⟨u17, hinv⟩ := hinv
        obtain ⟨u18, hinv⟩ := hinv
        obtain ⟨u19, hinv⟩ := hinv
        obtain ⟨u20, hinv⟩ := hinv
        obtain ⟨u21, hinv⟩ := hinv
        obtain ⟨u22, hinv⟩ := hinv
        obtain ⟨u23, hinv⟩ := hinv
        obtain ⟨u24, hinv⟩ := hinv
        obtain ⟨u25, hinv⟩ := hinv
        obtain ⟨u26, hinv⟩ := hinv
        obtain ⟨u27, hinv⟩ := hinv
        obtain ⟨u28, hinv⟩ := hinv
        obtain ⟨u29, hinv⟩ := hinv
        obtain ⟨u30, hinv⟩ := hinv
        obtain ⟨u31, hinv⟩ := hinv
        obtain ⟨u32, hinv⟩ := hinv
        obtain ⟨u33, hinv⟩ := hinv
        obtain ⟨u34, hinv⟩ := hinv
        obtain ⟨u35, hinv⟩ := hinv
        obtain ⟨u36, hinv⟩ := hinv
        obtain ⟨u37, hinv⟩ := hinv
        obtain ⟨u38, hinv⟩ := hinv
        obtain ⟨u39, hinv⟩ := hinv
        obtain ⟨u40, hinv⟩ := hinv
        obtain ⟨u41, hinv⟩ := hinv
        obtain ⟨u42, hinv⟩ := hinv
        obtain ⟨u43, hinv⟩ := hinv
        obtain ⟨u44, hinv⟩ := hinv
        obtain ⟨u45, hinv⟩ := hinv
        obtain ⟨u46, hinv⟩ := hinv
        obtain ⟨u47, hinv⟩ := hinv
        obtain ⟨u48, hinv⟩ := hinv
        obtain ⟨u49, hinv⟩ := hinv
        obtain ⟨u50, hinv⟩ := hinv
        obtain ⟨u51, hinv⟩ := hinv
        obtain ⟨u52, hinv⟩ := hinv
        obtain ⟨u53, hinv⟩ := hinv
        obtain ⟨u54, hinv⟩ := hinv
        obtain ⟨u55, hinv⟩ := hinv
        obtain ⟨u56, hinv⟩ := hinv
        obtain ⟨u57, hinv⟩ := hinv
        obtain ⟨u58, hinv⟩ := hinv
        obtain ⟨u59, hinv⟩ := hinv
        obtain ⟨u60, hinv⟩ := hinv
        obtain ⟨u61, hinv⟩ := hinv
        obtain ⟨u62, hinv⟩ := hinv
        obtain ⟨u63, hinv⟩ := hinv
        obtain ⟨u64, hinv⟩ := hinv
        obtain ⟨u65, hinv⟩ := hinv
        obtain ⟨u66, hinv⟩ := hinv
        obtain ⟨u67, hinv⟩ := hinv
        obtain ⟨u68, hinv⟩ := hinv
        obtain ⟨u69, hinv⟩ := hinv
        obtain ⟨u70, hinv⟩ := hinv
        obtain ⟨u71, hinv⟩ := hinv
        obtain ⟨u72, hinv⟩ := hinv
        obtain ⟨u73, hinv⟩ := hinv
        obtain ⟨u74, hinv⟩ := hinv
        obtain ⟨u75, hinv⟩ := hinv
        obtain ⟨u76, hinv⟩ := hinv
        obtain ⟨u77, hinv⟩ := hinv
        obtain ⟨u78, hinv⟩ := hinv
        obtain ⟨u79, hinv⟩ := hinv
        obtain ⟨u80, hinv⟩ := hinv
        obtain ⟨u81, hinv⟩ := hinv
        obtain ⟨u82, hinv⟩ := hinv
        obtain ⟨u83, hinv⟩ := hinv
        obtain ⟨u84, hinv⟩ := hinv
        obtain ⟨u85, hinv⟩ := hinv
        obtain ⟨u86, hinv⟩ := hinv
        obtain ⟨u87, hinv⟩ := hinv
        obtain ⟨u88, hinv⟩ := hinv
        obtain ⟨u89, hinv⟩ := hinv
        obtain ⟨u90, hinv⟩ := hinv
        obtain ⟨u91, hinv⟩ := hinv
        obtain ⟨u92, hinv⟩ := hinv
        obtain ⟨u93, hinv⟩ := hinv
        obtain ⟨u94, hinv⟩ := hinv
        obtain ⟨u95, hinv⟩ := hinv
        obtain ⟨u96, hinv⟩ := hinv
        obtain ⟨u97, hinv⟩ := hinv
        obtain ⟨u98, hinv⟩ := hinv
        obtain ⟨u99, hinv⟩ := hinv
        obtain ⟨u100, hinv⟩ := hinv
        obtain ⟨u101, hinv⟩ := hinv
        obtain ⟨u102, hinv⟩ := hinv
        obtain ⟨u103, hinv⟩ := hinv
        obtain ⟨u104, hinv⟩ := hinv
        obtain ⟨u105, hinv⟩ := hinv
        obtain ⟨u106, hinv⟩ := hinv
        obtain ⟨u107, hinv⟩ := hinv
        obtain ⟨u108, hinv⟩ := hinv
        obtain ⟨u109, hinv⟩ := hinv
        obtain ⟨u110, hinv⟩ := hinv
        obtain ⟨u111, hinv⟩ := hinv
        obtain ⟨u112, hinv⟩ := hinv
        obtain ⟨u113, hinv⟩ := hinv
        obtain ⟨u114, hinv⟩ := hinv
        obtain ⟨u115, hinv⟩ := hinv
        obtain ⟨u116, hinv⟩ := hinv
        obtain ⟨u117, hinv⟩ := hinv
        obtain ⟨u118, hinv⟩ := hinv
        obtain ⟨u119, hinv⟩ := hinv
        obtain ⟨u120, hinv⟩ := hinv
        obtain ⟨u121, hinv⟩ := hinv
        obtain ⟨u122, hinv⟩ := hinv
        obtain ⟨u123, hinv⟩ := hinv
        obtain ⟨u124, hinv⟩ := hinv
        obtain ⟨u125, hinv⟩ := hinv
        obtain ⟨u126, hinv⟩ := hinv
        obtain ⟨u127, hinv⟩ := hinv
        obtain ⟨u128, hinv⟩ := hinv
        obtain ⟨u129, hinv⟩ := hinv
        obtain ⟨u130, hinv⟩ := hinv
        obtain ⟨u131, hinv⟩ := hinv
        obtain ⟨u132, hinv⟩ := hinv
        obtain ⟨u133, hinv⟩ := hinv
        obtain ⟨u134, hinv⟩ := hinv
        obtain ⟨u135, hinv⟩ := hinv
        obtain ⟨u136, hinv⟩ := hinv
        obtain ⟨u137, hinv⟩ := hinv
        obtain ⟨u138, hinv⟩ := hinv
        obtain ⟨u139, hinv⟩ := hinv
        obtain ⟨u140, hinv⟩ := hinv
        obtain ⟨u141, hinv⟩ := hinv
        obtain ⟨u142, hinv⟩ := hinv
        obtain ⟨u143, hinv⟩ := hinv
        obtain ⟨u144, hinv⟩ := hinv
        obtain ⟨u145, hinv⟩ := hinv
        obtain ⟨u146, hinv⟩ := hinv
        obtain ⟨u147, hinv⟩ := hinv
        obtain ⟨u148, hinv⟩ := hinv
        obtain ⟨u149, hinv⟩ := hinv
        obtain ⟨u150, hinv⟩ := hinv
        obtain ⟨u151, hinv⟩ := hinv
        obtain ⟨u152, hinv⟩ := hinv
        obtain ⟨u153, hinv⟩ := hinv
        obtain ⟨u154, hinv⟩ := hinv
        obtain ⟨u155, hinv⟩ := hinv
        obtain ⟨u156, hinv⟩ := hinv
        obtain ⟨u157, hinv⟩ := hinv
        obtain ⟨u158, hinv⟩ := hinv
        obtain ⟨u159, hinv⟩ := hinv
        obtain ⟨u160, hinv⟩ := hinv
        obtain ⟨u161, hinv⟩ := hinv
        obtain ⟨u162, hinv⟩ := hinv
        obtain ⟨u163, hinv⟩ := hinv
        obtain ⟨u164, hinv⟩ := hinv
        obtain ⟨u165, hinv⟩ := hinv
        obtain ⟨u166, hinv⟩ := hinv
        obtain ⟨u167, hinv⟩ := hinv
        obtain ⟨u168, hinv⟩ := hinv
        obtain ⟨u169, hinv⟩ := hinv
        obtain ⟨u170, hinv⟩ := hinv
        obtain ⟨u171, hinv⟩ := hinv
        obtain ⟨u172, hinv⟩ := hinv
        obtain ⟨u173, hinv⟩ := hinv
        obtain ⟨u174, hinv⟩ := hinv
        obtain ⟨u175, hinv⟩ := hinv
        obtain ⟨u176, hinv⟩ := hinv
        obtain ⟨u177, hinv⟩ := hinv
        obtain ⟨u178, hinv⟩ := hinv
        obtain ⟨u179, hinv⟩ := hinv
        obtain ⟨u180, hinv⟩ := hinv
        obtain ⟨u181, hinv⟩ := hinv
        obtain ⟨u182, hinv⟩ := hinv
        obtain ⟨u183, hinv⟩ := hinv
        obtain ⟨u184, hinv⟩ := hinv
        obtain ⟨u185, hinv⟩ := hinv
        obtain ⟨u186, hinv⟩ := hinv
        obtain ⟨u187, hinv⟩ := hinv
        obtain ⟨u188, hinv⟩ := hinv
        obtain ⟨u189, hinv⟩ := hinv
        obtain ⟨u190, hinv⟩ := hinv
        obtain ⟨u191, hinv⟩ := hinv
        obtain ⟨u192, hinv⟩ := hinv
        obtain ⟨u193, hinv⟩ := hinv
        obtain ⟨u194, hinv⟩ := hinv
        obtain ⟨u195, hinv⟩ := hinv
        obtain ⟨u196, hinv⟩ := hinv
        obtain ⟨u197, hinv⟩ := hinv
        obtain ⟨ds, hinv⟩ := hinv
        obtain ⟨⟨i2, Ds2, rfl, rfl, HJ⟩, rfl⟩ := hinv
        as_aux_lemma =>
          obtain ⟨hi2, hin2, ⟨pg', tg', t', fr', A', n', c', rs'⟩, osF2, ms2, ns2, e1, e2, hle, hq⟩ := HJ.out
          obtain rfl : pg' = p.pg := e1
          have HE2 : Hid (tg' = p.tg) := Lib.hid e2
          have HL3 : Hid (t'.list.length ≤ i2 + 1) := Lib.hid hle
          have HQ2 := Lib.hid hq
          have HX : Hid (OW w (osF2 ++ (boxO p.pg [.pointer (some ⟨tg', 0, none⟩), .slice A' n' c', .bool fr'] :: boxO tg' (tabC t' fr') :: q.box :: q.tab :: ([N0Q, boxO g2 [.bool false]] ++ (ns2 ++ Ds2.map dfrO)))) wj) := Lib.hid hq.ow
          obtain ⟨nt, hnt⟩ : ∃ z, z = t'.list.length := ⟨_, rfl⟩
          have HNT := Lib.hid hnt.symm
          have HRT : Hid (RT (osF2 ++ (boxO p.pg [.pointer (some ⟨tg', 0, none⟩), .slice A' n' c', .bool fr'] :: boxO tg' (tabC t' fr') :: q.box :: q.tab :: ([N0Q, boxO g2 [.bool false]] ++ (ns2 ++ Ds2.map dfrO)))) A' n' c' rs' t'.ents) := Lib.hid (hq.okp.rt.more fun o ho => List.mem_append_right _ (.tail _ (.tail _ (.tail _ (.tail _ (hq.sub o ho))))))
          have HNN : Hid (n' = nt) := Lib.hid (by have h := (HRT.out.lens hq.ow).2; rw [Tr.ents_len] at h; rw [hnt, h])
          obtain rfl : n' = nt := HNN.out
          obtain ⟨sp, hsp⟩ : ∃ z, z = sumP t'.ents := ⟨_, rfl⟩
          have HSP := Lib.hid hsp.symm
          have hn9 : n' ≤ 90000 := by have := HL3.out; rw [HNT.out] at this; omega
          clear e2 hle hq HJ hnt hsp HQ
          go_upto_region 38 with fail
          refine lt_start [] (by kernel_rfl) ?_
          intro xd hd
          refine ⟨fun z => OW w (osF2 ++ (boxO p.pg [.pointer (some ⟨tg', 0, none⟩), .slice A' n' c', .bool fr'] :: boxO tg' (tabC t' fr') :: q.box :: q.tab :: ([N0Q, boxO g2 [.bool false]] ++ (ns2 ++ Ds2.map dfrO)))) z, ?_⟩
          have HS := Lib.hid (HX.out.later hd)
          refine lt_pure 0 rfl (by kernel_rfl) (by kernel_rfl) (by kernel_rfl) (by kernel_rfl) (fun _ _ _ h => h) (v := ?_) (yi_run rfl (fun w => ?_)) (fun _ => HS.out) ?_
          rotate_left
          · first | (go_simp; done) | (go_simp; with_reducible rfl)
          simp only [Act.put, List.setIfInBounds_toArray, List.set_cons_zero, List.set_cons_succ]
          refine lt_pure 1 rfl (by kernel_rfl) (by kernel_rfl) (by kernel_rfl) (by kernel_rfl) (fun _ _ _ h => h) (v := ?_) (yi_run rfl (fun w => ?_)) (fun _ => HS.out) ?_
          rotate_left
          · first | (go_simp; done) | (go_simp; with_reducible rfl)
          simp only [Act.put, List.setIfInBounds_toArray, List.set_cons_zero, List.set_cons_succ]
          refine lt_pure 2 rfl (by kernel_rfl) (by kernel_rfl) (by kernel_rfl) (by kernel_rfl) (fun _ _ _ h => h) (v := ?_) (yi_run rfl (fun w => ?_)) (fun _ => HS.out) ?_
          rotate_left
          · first | (go_simp; done) | (go_simp; with_reducible rfl)
          simp only [Act.put, List.setIfInBounds_toArray, List.set_cons_zero, List.set_cons_succ]
          refine lt_take 3 [4, 11, 12, 13, 14, 15, 16, 17, 18, 19, 20, 21, 22, 23, 24, 25, 26, 27, 28, 29, 30, 31, 32, 33, 34, 35, 36, 37] rfl (by kernel_rfl) (by kernel_rfl) (by kernel_rfl) (by kernel_rfl) (by kernel_rfl) (fun _ _ _ h => h) (yi_cell rfl rfl rfl (fun w hS => OW.cellm hS (g := p.pg) (cs := [.pointer (some ⟨tg', 0, none⟩), .slice A' n' c', .bool fr']) (j := 0) (List.mem_append_right _ (.head _)) rfl) (fun w => Try.isAgg24 w)) HS.out ?_
          simp only [Act.put, List.setIfInBounds_toArray, List.set_cons_zero, List.set_cons_succ]
          refine lt_pure 5 rfl (by kernel_rfl) (by kernel_rfl) (by kernel_rfl) (by kernel_rfl) (fun _ _ _ h => h) (v := ?_) (yi_run rfl (fun w => ?_)) (fun _ => HS.out) ?_
          rotate_left
          · first | (go_simp; done) | (go_simp; with_reducible rfl)
          simp only [Act.put, List.setIfInBounds_toArray, List.set_cons_zero, List.set_cons_succ]
          refine lt_pure 6 rfl (by kernel_rfl) (by kernel_rfl) (by kernel_rfl) (by kernel_rfl) (fun _ _ _ h => h) (v := ?_) (yi_run rfl (fun w => ?_)) (fun _ => HS.out) ?_
          rotate_left
          · first | (go_simp; done) | (go_simp; with_reducible rfl)
          simp only [Act.put, List.setIfInBounds_toArray, List.set_cons_zero, List.set_cons_succ]
          refine lt_pure 7 rfl (by kernel_rfl) (by kernel_rfl) (by kernel_rfl) (by kernel_rfl) (fun _ _ _ h => h) (v := ?_) (yi_run rfl (fun w => ?_)) (fun _ => HS.out) ?_
          rotate_left
          · first | (go_simp; done) | (go_simp; with_reducible rfl)
          simp only [Act.put, List.setIfInBounds_toArray, List.set_cons_zero, List.set_cons_succ]
          refine lt_pure 8 rfl (by kernel_rfl) (by kernel_rfl) (by kernel_rfl) (by kernel_rfl) (fun _ _ _ h => h) (v := ?_) (yi_run rfl (fun w => ?_)) (fun _ => HS.out) ?_
          rotate_left
          · first | (go_simp; done) | (go_simp; with_reducible rfl)
          simp only [Act.put, List.setIfInBounds_toArray, List.set_cons_zero, List.set_cons_succ]
          refine lt_take 9 [10, 11, 12, 13, 14, 15, 16, 17, 18, 19, 20, 21, 22, 23, 24, 25, 26, 27, 28, 29, 30, 31, 32, 33, 34, 35, 36, 37] rfl (by kernel_rfl) (by kernel_rfl) (by kernel_rfl) (by kernel_rfl) (by kernel_rfl) (fun _ _ _ h => h) (yi_cell rfl rfl rfl (fun w hS => OW.cellm hS (g := p.pg) (cs := [.pointer (some ⟨tg', 0, none⟩), .slice A' n' c', .bool fr']) (j := 1) (List.mem_append_right _ (.head _)) rfl) (fun w => Try.isAgg22 w)) HS.out ?_
          simp only [Act.put, List.setIfInBounds_toArray, List.set_cons_zero, List.set_cons_succ]
          refine lt_pure 10 rfl (by kernel_rfl) (by kernel_rfl) (by kernel_rfl) (by kernel_rfl) (fun _ _ _ h => h) (v := ?_) (yi_run rfl (fun w => ?_)) (fun _ => HS.out) ?_
          rotate_left
          · first | (go_simp; done) | (go_simp; with_reducible rfl)
          simp only [Act.put, List.setIfInBounds_toArray, List.set_cons_zero, List.set_cons_succ]
          refine lt_call 4 rfl (by kernel_rfl) rfl rfl ⟨_, Try.func14, by decide, by kernel_rfl⟩ [.pointer (some ⟨tg', 0, none⟩)] rfl ?_
          refine (tlen_is HS.out (List.mem_append_right _ (.tail _ (.head _))) HNT.out).mono ?_
          rintro e zz ⟨rfl, rfl⟩
          refine ⟨_, rfl, fun _ => HS.out, ?_⟩
          simp only [Act.put, List.setIfInBounds_toArray, List.set_cons_zero, List.set_cons_succ]
          refine lt_pure 11 rfl (by kernel_rfl) (by kernel_rfl) (by kernel_rfl) (by kernel_rfl) (fun _ _ _ h => h) (v := ?_) (yi_run rfl (fun w => ?_)) (fun _ => HS.out) ?_
          rotate_left
          · first | (go_simp; done) | (go_simp; with_reducible rfl)
          simp only [Act.put, List.setIfInBounds_toArray, List.set_cons_zero, List.set_cons_succ]
          refine lt_pure 12 rfl (by kernel_rfl) (by kernel_rfl) (by kernel_rfl) (by kernel_rfl) (fun _ _ _ h => h) (v := ?_) (yi_run rfl (fun w => ?_)) (fun _ => HS.out) ?_
          rotate_left
          · first | (go_simp; done) | (go_simp; with_reducible rfl)
          simp only [Act.put, List.setIfInBounds_toArray, List.set_cons_zero, List.set_cons_succ]
          refine lt_pure 13 rfl (by kernel_rfl) (by kernel_rfl) (by kernel_rfl) (by kernel_rfl) (fun _ _ _ h => h) (v := ?_) (yi_run rfl (fun w => ?_)) (fun _ => HS.out) ?_
          rotate_left
          · first | (go_simp; done) | (go_simp; with_reducible rfl)
          simp only [Act.put, List.setIfInBounds_toArray, List.set_cons_zero, List.set_cons_succ]
          refine lt_pure 14 rfl (by kernel_rfl) (by kernel_rfl) (by kernel_rfl) (by kernel_rfl) (fun _ _ _ h => h) (v := ?_) (yi_run rfl (fun w => ?_)) (fun _ => HS.out) ?_
          rotate_left
          · first | (go_simp; done) | (go_simp; with_reducible rfl)
          simp only [Act.put, List.setIfInBounds_toArray, List.set_cons_zero, List.set_cons_succ]
          refine lt_pure 15 rfl (by kernel_rfl) (by kernel_rfl) (by kernel_rfl) (by kernel_rfl) (fun _ _ _ h => h) (v := ?_) (yi_run rfl (fun w => ?_)) (fun _ => HS.out) ?_
          rotate_left
          · first | (go_simp; done) | (go_simp; with_reducible rfl)
          simp only [Act.put, List.setIfInBounds_toArray, List.set_cons_zero, List.set_cons_succ]
          refine lt_take 16 [17, 22, 23, 24, 25, 26, 27, 28, 29, 30, 31, 32, 33, 34, 35, 36, 37] rfl (by kernel_rfl) (by kernel_rfl) (by kernel_rfl) (by kernel_rfl) (by kernel_rfl) (fun _ _ _ h => h) (yi_cell rfl rfl rfl (fun w hS => OW.cellm hS (g := p.pg) (cs := [.pointer (some ⟨tg', 0, none⟩), .slice A' n' c', .bool fr']) (j := 0) (List.mem_append_right _ (.head _)) rfl) (fun w => Try.isAgg24 w)) HS.out ?_
          simp only [Act.put, List.setIfInBounds_toArray, List.set_cons_zero, List.set_cons_succ]
          refine lt_pure 18 rfl (by kernel_rfl) (by kernel_rfl) (by kernel_rfl) (by kernel_rfl) (fun _ _ _ h => h) (v := ?_) (yi_run rfl (fun w => ?_)) (fun _ => HS.out) ?_
          rotate_left
          · first | (go_simp; done) | (go_simp; with_reducible rfl)
          simp only [Act.put, List.setIfInBounds_toArray, List.set_cons_zero, List.set_cons_succ]
          refine lt_pure 19 rfl (by kernel_rfl) (by kernel_rfl) (by kernel_rfl) (by kernel_rfl) (fun _ _ _ h => h) (v := ?_) (yi_run rfl (fun w => ?_)) (fun _ => HS.out) ?_
          rotate_left
          · first | (go_simp; done) | (go_simp; with_reducible rfl)
          simp only [Act.put, List.setIfInBounds_toArray, List.set_cons_zero, List.set_cons_succ]
          refine lt_pure 20 rfl (by kernel_rfl) (by kernel_rfl) (by kernel_rfl) (by kernel_rfl) (fun _ _ _ h => h) (v := ?_) (yi_run rfl (fun w => ?_)) (fun _ => HS.out) ?_
          rotate_left
          · first | (go_simp; done) | (go_simp; with_reducible rfl)
          simp only [Act.put, List.setIfInBounds_toArray, List.set_cons_zero, List.set_cons_succ]
          refine lt_take 21 [22, 23, 24, 25, 26, 27, 28, 29, 30, 31, 32, 33, 34, 35, 36, 37] rfl (by kernel_rfl) (by kernel_rfl) (by kernel_rfl) (by kernel_rfl) (by kernel_rfl) (fun _ _ _ h => h) (yi_rowO rfl rfl rfl (fun w hS => pb_range hS (List.mem_append_right _ (.head _))) tabR_row) HS.out ?_
          simp only [Act.put, List.setIfInBounds_toArray, List.set_cons_zero, List.set_cons_succ]
          refine lt_call 17 rfl (by kernel_rfl) rfl rfl ⟨_, Try.func25, by decide, by kernel_rfl⟩ [.pointer (some ⟨tg', 0, none⟩)] rfl ?_
          refine (tbytes_is5 HS.out (List.mem_append_right _ (.tail _ (.head _))) HSP.out).mono ?_
          rintro e zz ⟨rfl, rfl⟩
          refine ⟨_, rfl, fun _ => HS.out, ?_⟩
          simp only [Act.put, List.setIfInBounds_toArray, List.set_cons_zero, List.set_cons_succ]
          refine lt_call 22 rfl (by kernel_rfl) rfl rfl ⟨_, Try.func30, by decide, by kernel_rfl⟩ [.agg #[.slice A' n' c', .bool fr']] rfl ?_
          refine (rbytes8_any HS.out HRT.out hn9 HQ2.out.okp.tb.chk HSP.out).mono ?_
          rintro e zz ⟨rfl, hz⟩
          replace HS := Lib.hid hz
          clear hz
          refine ⟨_, rfl, fun _ => HS.out, ?_⟩
          simp only [Act.put, List.setIfInBounds_toArray, List.set_cons_zero, List.set_cons_succ]
          refine lt_pure 23 rfl (by kernel_rfl) (by kernel_rfl) (by kernel_rfl) (by kernel_rfl) (fun _ _ _ h => h) (v := ?_) (yi_run rfl (fun w => ?_)) (fun _ => HS.out) ?_
          rotate_left
          · first | (go_simp; done) | (go_simp; with_reducible rfl)
          simp only [Act.put, List.setIfInBounds_toArray, List.set_cons_zero, List.set_cons_succ]
          refine lt_pure 24 rfl (by kernel_rfl) (by kernel_rfl) (by kernel_rfl) (by kernel_rfl) (fun _ _ _ h => h) (v := ?_) (yi_run rfl (fun w => ?_)) (fun _ => HS.out) ?_
          rotate_left
          · first | (go_simp; done) | (go_simp; with_reducible rfl)
          simp only [Act.put, List.setIfInBounds_toArray, List.set_cons_zero, List.set_cons_succ]
          refine lt_pure 25 rfl (by kernel_rfl) (by kernel_rfl) (by kernel_rfl) (by kernel_rfl) (fun _ _ _ h => h) (v := ?_) (yi_run rfl (fun w => ?_)) (fun _ => HS.out) ?_
          rotate_left
          · first | (go_simp; done) | (go_simp; with_reducible rfl)
          simp only [Act.put, List.setIfInBounds_toArray, List.set_cons_zero, List.set_cons_succ]
          refine lt_pure 26 rfl (by kernel_rfl) (by kernel_rfl) (by kernel_rfl) (by kernel_rfl) (fun _ _ _ h => h) (v := ?_) (yi_run rfl (fun w => ?_)) (fun _ => HS.out) ?_
          rotate_left
          · first | (go_simp; done) | (go_simp; with_reducible rfl)
          simp only [Act.put, List.setIfInBounds_toArray, List.set_cons_zero, List.set_cons_succ]
          refine lt_pure 27 rfl (by kernel_rfl) (by kernel_rfl) (by kernel_rfl) (by kernel_rfl) (fun _ _ _ h => h) (v := ?_) (yi_run rfl (fun w => ?_)) (fun _ => HS.out) ?_
          rotate_left
          · first | (go_simp; done) | (go_simp; with_reducible rfl)
          simp only [Act.put, List.setIfInBounds_toArray, List.set_cons_zero, List.set_cons_succ]
          refine lt_pure 28 rfl (by kernel_rfl) (by kernel_rfl) (by kernel_rfl) (by kernel_rfl) (fun _ _ _ h => h) (v := ?_) (yi_run rfl (fun w => ?_)) (fun _ => HS.out) ?_
          rotate_left
          · first | (go_simp; done) | (go_simp; with_reducible rfl)
          simp only [Act.put, List.setIfInBounds_toArray, List.set_cons_zero, List.set_cons_succ]
          refine lt_take 29 [30, 36, 37] rfl (by kernel_rfl) (by kernel_rfl) (by kernel_rfl) (by kernel_rfl) (by kernel_rfl) (fun _ _ _ h => h) (yi_cell rfl rfl rfl (fun w hS => OW.cellm hS (g := p.pg) (cs := [.pointer (some ⟨tg', 0, none⟩), .slice A' n' c', .bool fr']) (j := 0) (List.mem_append_right _ (.head _)) rfl) (fun w => Try.isAgg24 w)) HS.out ?_
          simp only [Act.put, List.setIfInBounds_toArray, List.set_cons_zero, List.set_cons_succ]
          refine lt_pure 31 rfl (by kernel_rfl) (by kernel_rfl) (by kernel_rfl) (by kernel_rfl) (fun _ _ _ h => h) (v := ?_) (yi_run rfl (fun w => ?_)) (fun _ => HS.out) ?_
          rotate_left
          · first | (go_simp; done) | (go_simp; with_reducible rfl)
          simp only [Act.put, List.setIfInBounds_toArray, List.set_cons_zero, List.set_cons_succ]
          refine lt_pure 32 rfl (by kernel_rfl) (by kernel_rfl) (by kernel_rfl) (by kernel_rfl) (fun _ _ _ h => h) (v := ?_) (yi_run rfl (fun w => ?_)) (fun _ => HS.out) ?_
          rotate_left
          · first | (go_simp; done) | (go_simp; with_reducible rfl)
          simp only [Act.put, List.setIfInBounds_toArray, List.set_cons_zero, List.set_cons_succ]
          refine lt_pure 33 rfl (by kernel_rfl) (by kernel_rfl) (by kernel_rfl) (by kernel_rfl) (fun _ _ _ h => h) (v := ?_) (yi_run rfl (fun w => ?_)) (fun _ => HS.out) ?_
          rotate_left
          · first | (go_simp; done) | (go_simp; with_reducible rfl)
          simp only [Act.put, List.setIfInBounds_toArray, List.set_cons_zero, List.set_cons_succ]
          refine lt_pure 34 rfl (by kernel_rfl) (by kernel_rfl) (by kernel_rfl) (by kernel_rfl) (fun _ _ _ h => h) (v := ?_) (yi_run rfl (fun w => ?_)) (fun _ => HS.out) ?_
          rotate_left
          · first | (go_simp; done) | (go_simp; with_reducible rfl)
          simp only [Act.put, List.setIfInBounds_toArray, List.set_cons_zero, List.set_cons_succ]
          refine lt_take 35 [36, 37] rfl (by kernel_rfl) (by kernel_rfl) (by kernel_rfl) (by kernel_rfl) (by kernel_rfl) (fun _ _ _ h => h) (yi_cell rfl rfl rfl (fun w hS => OW.cellm hS (g := p.pg) (cs := [.pointer (some ⟨tg', 0, none⟩), .slice A' n' c', .bool fr']) (j := 2) (List.mem_append_right _ (.head _)) rfl) (fun w => Try.isAgg4 w)) HS.out ?_
          simp only [Act.put, List.setIfInBounds_toArray, List.set_cons_zero, List.set_cons_succ]
          refine lt_call 30 rfl (by kernel_rfl) rfl rfl ⟨_, Try.func34, by decide, by kernel_rfl⟩ [.pointer (some ⟨tg', 0, none⟩)] rfl ?_
          refine (tfrozen_any HS.out (List.mem_append_right _ (.tail _ (.head _)))).mono ?_
          rintro e zz ⟨rfl, rfl⟩
          refine ⟨_, rfl, fun _ => HS.out, ?_⟩
          simp only [Act.put, List.setIfInBounds_toArray, List.set_cons_zero, List.set_cons_succ]
          refine lt_pure 36 rfl (by kernel_rfl) (by kernel_rfl) (by kernel_rfl) (by kernel_rfl) (fun _ _ _ h => h) (v := ?_) (yi_run rfl (fun w => ?_)) (fun _ => HS.out) ?_
          rotate_left
          · first | (go_simp; done) | (go_simp; with_reducible rfl)
          simp only [Act.put, List.setIfInBounds_toArray, List.set_cons_zero, List.set_cons_succ]
          refine lt_pure 37 rfl (by kernel_rfl) (by kernel_rfl) (by kernel_rfl) (by kernel_rfl) (fun _ _ _ h => h) (v := ?_) (yi_run rfl (fun w => ?_)) (fun _ => HS.out) ?_
          rotate_left
          · first | (go_simp; done) | (go_simp; with_reducible rfl)
          simp only [Act.put, List.setIfInBounds_toArray, List.set_cons_zero, List.set_cons_succ]
          refine lt_done (by kernel_rfl) ?_
          have HX2 := Lib.hid HS.out
          clear HS
          go_wp2_with fail
          refine ⟨?rel, ?measure⟩
          case rel =>
            try dsimp only
            repeat apply Exists.intro
            refine ⟨?_, rfl⟩
            exact ⟨i2 + 1, Ds2, by omega, by go_num, rfl, Lib.hid ((HWHO.out.step (p' := ⟨p.pg, tg', t', fr', A', n', c', rs'⟩) rfl HE2.out).both ns2 HL3.out (by have := HL2.out; omega) ⟨HQ2.out.f, HQ2.out.okp, HQ2.out.okq, HQ2.out.sub, HX2.out⟩ (List.Perm.refl _))⟩
          case measure => simp [intOf]; omega
    case neg =>
      as_aux_lemma =>
        have d1 : decide ((i : Int) < (n : Int)) = false := decide_eq_false (by omega)
        obtain ⟨p, q, osF, ms, ns, e1, _, e3, _, hl1, hl2, hq⟩ := HB.out
        obtain rfl : ga = p.pg := e1.symm
        obtain rfl : gb = q.pg := e3.symm
        have HQ := Lib.hid hq
        have HL1 : Hid (p.t.list.length ≤ 200) := Lib.hid (by omega)
        have HL2 : Hid (q.t.list.length ≤ 200) := Lib.hid (by omega)
        clear HB hq hl1 hl2
        have tk1 : True := trivial
        go_wp2_with (first
          | (go_at_call 35; clear tk1; go_must (refine (pall2_q HQ.out HL1.out (by omega)).mono ?_); rintro e y ⟨rfl, p1, osF1, ns1, f1, f2, _, hq1⟩; have HQ1 := Lib.hid hq1.swap; clear hq1 HQ f1 f2)
          | (go_at_call 35; go_must (refine (pall2_q HQ1.out HL2.out (by omega)).mono ?_); rintro e y2 ⟨rfl, q1, osF2, ns2, f3, f4, _, hq2⟩; have HQ2 := Lib.hid hq2; clear hq2 HQ1 f3 f4)
          | (go_at_call 37; go_must (refine (whole_any HQ2.out.f HQ2.out.ow).mono ?_); rintro r z7 ⟨rfl, hb⟩; have HE : Hid (OW w ((boxO g2 [.bool false] :: (osF2 ++ (q1.box :: q1.tab :: p1.box :: p1.tab :: N0Q :: (ns ++ (ns1 ++ ns2))))) ++ Ds.map dfrO) z7) := Lib.hid ((HQ2.out.later hb).ow.perm (pl_end _ _ _ _ _ _ _ _ _ _ _)); clear hb HQ2)
          | (refine wl_put1 rfl (.tmp 2) (.tmp 197) rfl HE.out 0 rfl 0 rfl (by simp) (.bool true) rfl (by kernel_rfl) rfl ?_; intro z8 hz _; have HE2 : Hid (OW w ((boxO g2 [.bool true] :: (osF2 ++ (q1.box :: q1.tab :: p1.box :: p1.tab :: N0Q :: (ns ++ (ns1 ++ ns2))))) ++ Ds.map dfrO) z8) := Lib.hid hz; clear hz HE))
        exact leaves_marks HE2.out fun z' hz' => leaves0 (results_cell1 rfl _ _ g2 (.bool true) rfl (hz'.cell (i := 0) (j := 0) rfl rfl) (fun w => Try.isAgg4 w)) ⟨rfl, hz'.up⟩
end Go.Proofs.Ytdaoinhkagmbdaa
