/-
  Laid together by merge.py: MemQ3, MemQ4, MemQ5, Law, Law2, Law3, CellLaw, Law4.
-/
import Derived.Test.YtdaoinhkagmbdaaMq6
import Derived.Test.YtdaoinhkagmbdaaMq1
import Derived.ProofKit
import Derived.SizedLaws
import Derived.Lib.SmallJoins
import Derived.Deep.Slices
import Derived.Deep.Fields
import Derived.Test.YtdaoinhkagmbdaaRows
namespace Go.Proofs.Ytdaoinhkagmbdaa
open Go.RowKit
theorem flQ_drop {A : Ent → Bool} : ∀ {L : List Ent}, L.Pairwise (fun a b => A b = true → A a = true) → fl A L = L.drop (twN A L)
  | [], _ => rfl
  | a :: L, h => by
    obtain ⟨h1, h2⟩ := List.pairwise_cons.1 h
    cases ha : A a
    · have h3 : ∀ b, b ∈ a :: L → A b = false := fun b hb => by
        rcases List.mem_cons.1 hb with rfl | hb
        · exact ha
        · cases hA : A b
          · rfl
          · have := h1 b hb hA; rw [ha] at this; cases this
      have h4 : twN A (a :: L) = 0 := by unfold twN; rw [List.takeWhile_cons, if_neg (by rw [ha]; exact Bool.noConfusion)]; rfl
      rw [h4]
      exact List.filter_eq_self.2 fun b hb => by rw [h3 b hb]; rfl
    · have h4 : twN A (a :: L) = twN A L + 1 := by unfold twN; rw [List.takeWhile_cons, if_pos ha]; rfl
      rw [h4, List.drop_succ_cons, ← flQ_drop h2]
      unfold fl
      rw [List.filter_cons_of_neg (by rw [ha]; exact Bool.noConfusion)]
theorem fromQ_same {L : List Ent} (h : AscE L) (e : Ent) : fromL L e = fromE L e := flQ_drop (from_pw h e)
theorem wp_rangeQ_one {α : Type} {P : Program} {w x : World} {g : Operand} {gf : Nat} {lb : Array Value} {L : List α} {St Itr : List Ob → Prop} {Hand : α → Array Value → World → World → Prop} {ps : Array Tmp} {assign body : Code} {Q : Exit → Act → World → Prop} {a : Act} {id : Nat}
    (hg : a.eval g = .func (.func gf) #[] lb) (eg : ∀ args w, (callFunc gf args).run P w = .ok (.enter gf args) w)
    (hit : IterQ P gf lb L St Itr Hand) (hps : ∀ x vs y z, Hand x vs y z → vs.size = ps.size ∧ Below y.heap.size y z) (I J : List α → List Ob → Prop)
    (hI : ∀ pre os es, I pre os → Itr (os ++ es)) {os0 : List Ob} (h0 : I [] os0) (hS : St os0) (hS1 : Itr os0) (hx : OW w os0 x)
    (hround : ∀ (l : Nat) (p1 p2 : List Ob) pre xx vs W0 W1 os, (∃ r ds, p2 = rawO l (.loop r) :: ds) → pre ++ [xx] <+: L → I pre os → OW w (os ++ p1) W0 → Hand xx vs W0 W1 → RoundOK P w l assign body I (fun c xs os => c = .exit id ∧ J xs os) a.tmps p1 p2 pre xx W1 vs ps)
    (hQ : ∀ a z, Q .normal a z → Q (.exit id) a z)
    (hk : ∀ D os z, (I L os ∨ ∃ pre, pre <+: L ∧ J pre os) → OW w (os ++ [dfrO D]) z → Q .normal { a with defers := markD D :: a.defers } z) : (Code.rangeFunc g ps assign body).wp P Q a x :=
  wp_rangeQ hg eg hit hps I (fun c xs os => c = .exit id ∧ J xs os) hI h0 hS hS1 hx hround (fun D os z h1 h2 => hk D os z (.inl h1) h2) fun D c pre os z h1 ⟨h2, h3⟩ h4 => by
    subst h2
    exact wp_exit (hQ _ _ (hk D os z (.inr ⟨pre, h1, h3⟩) h4))
set_option maxRecDepth 100000 in
set_option maxHeartbeats 4000000 in
theorem rfrom8_ms {w x : World} {os ms : List Ob} {A : Option Addr} {n c : Nat} {rs : List ER} {L : List Ent} {fr : Bool} (h : OW w os x) (hs : ∀ o, o ∈ ms → o ∈ os) (hT0 : RT ms A n c rs L) (hn : n ≤ 1000000) (r : ER) (hr : ∀ z, OW w os z → r.En z) :
    Calls Try.prog 18 #[.agg #[.slice A n c, .bool fr], .agg #[.slice r.A r.e.row.length r.c, .int .i64 r.e.fam, .slice r.B r.e.qual.length r.d, .int .i64 r.e.ts, .int .i64 r.e.seq, .int .i64 r.e.kind, .slice r.D r.e.val.length r.q]] x fun e z => ∃ A' n' c', e = .returned (.slice A' n' c') ∧ OW w os z ∧ LIn ms A' n' (fromE L r.e) := by
  have HX := Lib.hid h
  have hT := hT0.more hs
  have HTM := Lib.hid hT0
  have HT := Lib.hid hT
  have HR := Lib.hid hr
  have HRL : Hid (rs.length = n) := Lib.hid (hT.lens h).1
  have HLL : Hid (L.length = n) := Lib.hid (hT.lens h).2
  have HRE : Hid (∀ q, q ∈ rs → ∀ z, OW w os z → q.En z) := Lib.hid fun q hq z hz => (hT.en q hq).en hz
  obtain ⟨N, hN⟩ : ∃ z, z = insN L r.e := ⟨_, rfl⟩
  have hNn : N ≤ n := by rw [hN, ← HLL.out]; exact twN_le _ _
  have HN := Lib.hid hN
  have hkmc : n ≤ c := by
    rcases (h.rowm hT.row).2 with ⟨h1, h2⟩ | ⟨g, cap, _, h1, _, _, h2, _⟩
    · omega
    · injection h1 with _ _ h4; omega
  clear h hT hT0 hs hr hN
  go_enter Try.func18, Try.ntmps18
  go_wp2_with (first
    | (refine wl_box rfl (.tmp 0) rfl [.slice A n c, .bool fr] rfl HX.out ?_; intro bt x1 hz hb; have HX1 : Hid (OW w (boxO bt [.slice A n c, .bool fr] :: os) x1) := Lib.hid (hz.perm List.perm_append_comm); clear hz hb HX)
    | (refine wl_box rfl (.tmp 1) rfl [.slice r.A r.e.row.length r.c, .int .i64 r.e.fam, .slice r.B r.e.qual.length r.d, .int .i64 r.e.ts, .int .i64 r.e.seq, .int .i64 r.e.kind, .slice r.D r.e.val.length r.q] rfl HX1.out ?_; intro be x2 hz hb; have HX2 : Hid (OW w (boxO be [.slice r.A r.e.row.length r.c, .int .i64 r.e.fam, .slice r.B r.e.qual.length r.d, .int .i64 r.e.ts, .int .i64 r.e.seq, .int .i64 r.e.kind, .slice r.D r.e.val.length r.q] :: boxO bt [.slice A n c, .bool fr] :: os) x2) := Lib.hid (hz.perm List.perm_append_comm); clear hz hb HX1))
  go_loopw [5] (fun av wr => ∃ a : Nat, a ≤ N ∧ av = .int .i64 a ∧ Hid (OW w (boxO be [.slice r.A r.e.row.length r.c, .int .i64 r.e.fam, .slice r.B r.e.qual.length r.d, .int .i64 r.e.ts, .int .i64 r.e.seq, .int .i64 r.e.kind, .slice r.D r.e.val.length r.q] :: boxO bt [.slice A n c, .bool fr] :: os) wr)) (fun av _ => N + 1 - (intOf av).toNat)
  case atStart => exact ⟨0, Nat.zero_le _, rfl, HX2⟩
  case round =>
    clear HX2
    obtain ⟨a, haN, rfl, HX⟩ := hrel
    by_cases hak : a < n
    case neg =>
      have hak2 : a = n := by omega
      have hda : decide ((a : Int) < (n : Int)) = false := decide_eq_false (by omega)
      have HAN : Hid (n ≤ N) := Lib.hid (by omega)
      clear hak2
      go_wp2_with (refine wpList_load_cell rfl 22 (.tmp 7) rfl rfl (HX.out.cell (i := 1) (j := 0) rfl rfl) (fun w => Try.isAgg22 w) ?_)
      go_ret
      exact ⟨none, 0, 0, rfl, (HX.out.erase 0).erase 0, by rw [fromE_all (by rw [HLL.out, ← HN.out]; exact HAN.out)]; exact HTM.out.lnil⟩
    have hda : decide ((a : Int) < (n : Int)) = true := decide_eq_true (by omega)
    obtain ⟨mg, mcap, hv, _⟩ := own_form (HX.out.rowm (.tail _ (.tail _ HT.out.row))) (show 0 < n by omega)
    injection hv with hv _ hcp
    subst hv
    subst hcp
    obtain ⟨q, hq⟩ : ∃ q, rs[a]? = some q := ⟨_, List.getElem?_eq_getElem (by have := HRL.out; omega)⟩
    have HQ := Lib.hid hq
    have HQE : Hid (∀ z, OW w os z → q.En z) := Lib.hid (HRE.out q (List.mem_of_getElem? hq))
    have HMA : Hid (L[a]? = some q.e) := Lib.hid (by rw [← HT.out.e, List.getElem?_map, hq]; rfl)
    obtain ⟨cv, hcv⟩ : ∃ z, z = cmpE q.e r.e := ⟨_, rfl⟩
    have HCV := Lib.hid hcv.symm
    have HIF : Hid (cv < 0 ↔ a < N) := Lib.hid (by
      have h := tw_iff (p := fun x => decide (cmpE x r.e < 0)) HMA.out (by have := HN.out; unfold insN at this; omega)
      rw [hcv, HN.out]
      simpa [insN] using h)
    have j1 : (0 : Int) ≤ (a : Int) := by omega
    have j2 : (a : Int) < (n : Int) := by omega
    clear hq hcv
    by_cases haN2 : a < N
    case pos =>
      have hcv0 : cv < 0 := HIF.out.2 haN2
      have hdc : decide (cv ≥ 0) = false := decide_eq_false (by omega)
      have hdc2 : decide ((0 : Int) ≤ cv) = false := decide_eq_false (by omega)
      go_wp2_with (refine wpList_load_cell rfl 22 (.tmp 7) rfl rfl (HX.out.cell (i := 1) (j := 0) rfl rfl) (fun w => Try.isAgg22 w) ?_)
      refine lt_start [] (by kernel_rfl) ?_
      intro xd hd
      refine ⟨fun z => OW w (boxO be [.slice r.A r.e.row.length r.c, .int .i64 r.e.fam, .slice r.B r.e.qual.length r.d, .int .i64 r.e.ts, .int .i64 r.e.seq, .int .i64 r.e.kind, .slice r.D r.e.val.length r.q] :: boxO bt [.slice (some ⟨mg, 0, none⟩) n c, .bool fr] :: os) z, ?_⟩
      have HS := Lib.hid (HX.out.later hd)
      refine lt_pure 0 rfl (by kernel_rfl) (by kernel_rfl) (by kernel_rfl) (by kernel_rfl) (fun _ _ _ h => h) (v := ?_) (yi_run rfl (fun w => ?_)) (fun _ => HS.out) ?_
      rotate_left
      · first | (go_simp; done) | (go_simp; with_reducible rfl)
      simp only [Act.put, List.setIfInBounds_toArray, List.set_cons_zero, List.set_cons_succ]
      refine lt_take 1 [3, 4, 6, 7] rfl (by kernel_rfl) (by kernel_rfl) (by kernel_rfl) (by kernel_rfl) (by kernel_rfl) (fun _ _ _ h => h) (yi_cell rfl rfl rfl (fun w hS => OW.cell hS (i := 1) (j := 0) rfl rfl) (fun w => Try.isAgg22 w)) HS.out ?_
      simp only [Act.put, List.setIfInBounds_toArray, List.set_cons_zero, List.set_cons_succ]
      refine lt_pure 2 rfl (by kernel_rfl) (by kernel_rfl) (by kernel_rfl) (by kernel_rfl) (fun _ _ _ h => h) (v := ?_) (yi_run rfl (fun w => ?_)) (fun _ => HS.out) ?_
      rotate_left
      · first | (go_simp; done) | (go_simp; with_reducible rfl)
      simp only [Act.put, List.setIfInBounds_toArray, List.set_cons_zero, List.set_cons_succ]
      refine lt_pure 3 rfl (by kernel_rfl) (by kernel_rfl) (by kernel_rfl) (by kernel_rfl) (fun _ _ _ h => h) (v := ?_) (yi_run rfl (fun w => ?_)) (fun _ => HS.out) ?_
      rotate_left
      · first | (go_simp; done) | (go_simp; with_reducible rfl)
      simp only [Act.put, List.setIfInBounds_toArray, List.set_cons_zero, List.set_cons_succ]
      refine lt_take 4 [6, 7] rfl (by kernel_rfl) (by kernel_rfl) (by kernel_rfl) (by kernel_rfl) (by kernel_rfl) (fun _ _ _ h => h) (yi_rowO rfl rfl rfl (fun w hS => rowRangeM hS (.tail _ (.tail _ HT.out.row)) HQ.out) ent_row8) HS.out ?_
      simp only [Act.put, List.setIfInBounds_toArray, List.set_cons_zero, List.set_cons_succ]
      refine lt_take 5 [6, 7] rfl (by kernel_rfl) (by kernel_rfl) (by kernel_rfl) (by kernel_rfl) (by kernel_rfl) (fun _ _ _ h => h) (yi_row rfl rfl rfl (fun w hS => OW.range hS (i := 0) rfl) ent_row8) HS.out ?_
      simp only [Act.put, List.setIfInBounds_toArray, List.set_cons_zero, List.set_cons_succ]
      refine lt_call 6 rfl (by kernel_rfl) rfl rfl ⟨_, Try.func24, by decide, by kernel_rfl⟩ [.agg #[.slice q.A q.e.row.length q.c, .int .i64 q.e.fam, .slice q.B q.e.qual.length q.d, .int .i64 q.e.ts, .int .i64 q.e.seq, .int .i64 q.e.kind, .slice q.D q.e.val.length q.q], .agg #[.slice r.A r.e.row.length r.c, .int .i64 r.e.fam, .slice r.B r.e.qual.length r.d, .int .i64 r.e.ts, .int .i64 r.e.seq, .int .i64 r.e.kind, .slice r.D r.e.val.length r.q]] rfl ?_
      refine (rCompareQ q r _ (HQE.out _ ((HS.out.erase 0).erase 0)) (HR.out _ ((HS.out.erase 0).erase 0))).mono ?_
      rw [HCV.out]
      rintro rr z9 ⟨rfl, hb⟩
      replace HS := Lib.hid (HS.out.later hb)
      clear hb
      refine ⟨_, rfl, fun _ => HS.out, ?_⟩
      simp only [Act.put, List.setIfInBounds_toArray, List.set_cons_zero, List.set_cons_succ]
      refine lt_pure 7 rfl (by kernel_rfl) (by kernel_rfl) (by kernel_rfl) (by kernel_rfl) (fun _ _ _ h => h) (v := ?_) (yi_run rfl (fun w => ?_)) (fun _ => HS.out) ?_
      rotate_left
      · first | (go_simp; done) | (go_simp; with_reducible rfl)
      simp only [Act.put, List.setIfInBounds_toArray, List.set_cons_zero, List.set_cons_succ]
      refine lt_done (by kernel_rfl) ?_
      replace HX := Lib.hid HS.out
      clear HS
      go_wp2_with fail
      go_roundw
      case rel => exact ⟨a + 1, by omega, by go_num, HX⟩
      case measure => simp [intOf]; omega
    have hcv0 : ¬ cv < 0 := fun h => haN2 (HIF.out.1 h)
    have hdc : decide (cv ≥ 0) = true := decide_eq_true (by omega)
    have hdc2 : decide ((0 : Int) ≤ cv) = true := decide_eq_true (by omega)
    have HAN : Hid (a = N) := Lib.hid (by omega)
    go_wp2_with (refine wpList_load_cell rfl 22 (.tmp 7) rfl rfl (HX.out.cell (i := 1) (j := 0) rfl rfl) (fun w => Try.isAgg22 w) ?_)
    refine lt_start [] (by kernel_rfl) ?_
    intro xd hd
    refine ⟨fun z => OW w (boxO be [.slice r.A r.e.row.length r.c, .int .i64 r.e.fam, .slice r.B r.e.qual.length r.d, .int .i64 r.e.ts, .int .i64 r.e.seq, .int .i64 r.e.kind, .slice r.D r.e.val.length r.q] :: boxO bt [.slice (some ⟨mg, 0, none⟩) n c, .bool fr] :: os) z, ?_⟩
    have HS := Lib.hid (HX.out.later hd)
    refine lt_pure 0 rfl (by kernel_rfl) (by kernel_rfl) (by kernel_rfl) (by kernel_rfl) (fun _ _ _ h => h) (v := ?_) (yi_run rfl (fun w => ?_)) (fun _ => HS.out) ?_
    rotate_left
    · first | (go_simp; done) | (go_simp; with_reducible rfl)
    simp only [Act.put, List.setIfInBounds_toArray, List.set_cons_zero, List.set_cons_succ]
    refine lt_take 1 [3, 4, 6, 7] rfl (by kernel_rfl) (by kernel_rfl) (by kernel_rfl) (by kernel_rfl) (by kernel_rfl) (fun _ _ _ h => h) (yi_cell rfl rfl rfl (fun w hS => OW.cell hS (i := 1) (j := 0) rfl rfl) (fun w => Try.isAgg22 w)) HS.out ?_
    simp only [Act.put, List.setIfInBounds_toArray, List.set_cons_zero, List.set_cons_succ]
    refine lt_pure 2 rfl (by kernel_rfl) (by kernel_rfl) (by kernel_rfl) (by kernel_rfl) (fun _ _ _ h => h) (v := ?_) (yi_run rfl (fun w => ?_)) (fun _ => HS.out) ?_
    rotate_left
    · first | (go_simp; done) | (go_simp; with_reducible rfl)
    simp only [Act.put, List.setIfInBounds_toArray, List.set_cons_zero, List.set_cons_succ]
    refine lt_pure 3 rfl (by kernel_rfl) (by kernel_rfl) (by kernel_rfl) (by kernel_rfl) (fun _ _ _ h => h) (v := ?_) (yi_run rfl (fun w => ?_)) (fun _ => HS.out) ?_
    rotate_left
    · first | (go_simp; done) | (go_simp; with_reducible rfl)
    simp only [Act.put, List.setIfInBounds_toArray, List.set_cons_zero, List.set_cons_succ]
    refine lt_take 4 [6, 7] rfl (by kernel_rfl) (by kernel_rfl) (by kernel_rfl) (by kernel_rfl) (by kernel_rfl) (fun _ _ _ h => h) (yi_rowO rfl rfl rfl (fun w hS => rowRangeM hS (.tail _ (.tail _ HT.out.row)) HQ.out) ent_row8) HS.out ?_
    simp only [Act.put, List.setIfInBounds_toArray, List.set_cons_zero, List.set_cons_succ]
    refine lt_take 5 [6, 7] rfl (by kernel_rfl) (by kernel_rfl) (by kernel_rfl) (by kernel_rfl) (by kernel_rfl) (fun _ _ _ h => h) (yi_row rfl rfl rfl (fun w hS => OW.range hS (i := 0) rfl) ent_row8) HS.out ?_
    simp only [Act.put, List.setIfInBounds_toArray, List.set_cons_zero, List.set_cons_succ]
    refine lt_call 6 rfl (by kernel_rfl) rfl rfl ⟨_, Try.func24, by decide, by kernel_rfl⟩ [.agg #[.slice q.A q.e.row.length q.c, .int .i64 q.e.fam, .slice q.B q.e.qual.length q.d, .int .i64 q.e.ts, .int .i64 q.e.seq, .int .i64 q.e.kind, .slice q.D q.e.val.length q.q], .agg #[.slice r.A r.e.row.length r.c, .int .i64 r.e.fam, .slice r.B r.e.qual.length r.d, .int .i64 r.e.ts, .int .i64 r.e.seq, .int .i64 r.e.kind, .slice r.D r.e.val.length r.q]] rfl ?_
    refine (rCompareQ q r _ (HQE.out _ ((HS.out.erase 0).erase 0)) (HR.out _ ((HS.out.erase 0).erase 0))).mono ?_
    rw [HCV.out]
    rintro rr z9 ⟨rfl, hb⟩
    replace HS := Lib.hid (HS.out.later hb)
    clear hb
    refine ⟨_, rfl, fun _ => HS.out, ?_⟩
    simp only [Act.put, List.setIfInBounds_toArray, List.set_cons_zero, List.set_cons_succ]
    refine lt_pure 7 rfl (by kernel_rfl) (by kernel_rfl) (by kernel_rfl) (by kernel_rfl) (fun _ _ _ h => h) (v := ?_) (yi_run rfl (fun w => ?_)) (fun _ => HS.out) ?_
    rotate_left
    · first | (go_simp; done) | (go_simp; with_reducible rfl)
    simp only [Act.put, List.setIfInBounds_toArray, List.set_cons_zero, List.set_cons_succ]
    refine lt_done (by kernel_rfl) ?_
    replace HX := Lib.hid HS.out
    clear HS
    go_wp2_with (refine wpList_load_cell rfl 22 (.tmp 21) rfl rfl (HX.out.cell (i := 1) (j := 0) rfl rfl) (fun w => Try.isAgg22 w) ?_)
    go_ret
    refine ⟨_, n - a, c - a, rfl, (HX.out.erase 0).erase 0, ?_⟩
    have h := HTM.out.drop hak
    unfold fromE
    rw [← HN.out, ← HAN.out]
    exact h
theorem wl_skipQ {P : Program} {ops : Array Oper} {Q : Exit → Act → World → Prop} {a : Act} {w : World} {rest : List Oper} {o : Oper} (hw : Region.wanted o (yielded ops a.tmps) = false) (h : wpList P ops Q rest (a.put o.dst undef) w) : wpList P ops Q (o :: rest) a w :=
  wpList_step fun K hK => by rw [if_neg (by rw [hw]; exact Bool.noConfusion)]; exact hK _ _ h
def B5Q (b5 : Nat) (s0 : ER) (os : List Ob) : Prop := AoF b5 s0 os
theorem gi_perm (a b c p t g8 g6 gy : Ob) (F X P : List Ob) : (F ++ (a :: b :: c :: (p :: t :: (g8 :: g6 :: gy :: (X ++ P))))).Perm (((F ++ (p :: t :: g8 :: g6 :: X)) ++ P) ++ [a, b, c, gy]) := by (refine perm_of_cnt fun a => ?_; (first | ((repeat (first | rw [cntO_app] | rw [cntO_cons] | rw [cntO_nil])) <;> omega) | ((simp only [cntO_app, cntO_cons, cntO_nil]) <;> omega)))
theorem gi_perm0 (k g13 g11 g12 g10 g9 g8 g7 g6 p t b24 b83 b5 : Ob) (F R X Y C : List Ob) : ((k :: g13 :: g11 :: g12 :: (((g10 :: g9 :: g8 :: g7 :: g6 :: (F ++ (p :: t :: R))) ++ X) ++ Y)) ++ ([b24, b83, b5] ++ C)).Perm (F ++ (p :: t :: k :: g10 :: ((([g13, g11, g12, g9, g8, g7, g6, b24, b83, b5] ++ ((C ++ X) ++ Y)) ++ R) ++ []))) := by (refine perm_of_cnt fun a => ?_; (first | ((repeat (first | rw [cntO_app] | rw [cntO_cons] | rw [cntO_nil])) <;> omega) | ((simp only [cntO_app, cntO_cons, cntO_nil]) <;> omega)))
set_option maxRecDepth 10000000 in
set_option maxHeartbeats 16000000 in
theorem pgives_any {w x : World} {fg fd : Nat} {lb : List Value} {D : List Ob → Prop} {B : Nat → Nat} {b : Nat} {p : PS} {osF RR ms : List Ob} (r : ER) (N : Int) (h : QS w fg p osF RR ms x) (hr : ∀ z, Below w.heap.size w z → r.En z) (hf : GoFn Try.prog fd) (hD : DoOK w fg p.pg p.tg fd lb D B) (hDR : D RR) (hDm : ∀ os os', D os → (∀ o, o ∈ os → o ∈ os') → D os') (hB0 : p.t.list.length ≤ B 0) (hB : ∀ i, i ≤ p.t.list.length → B i ≤ b) (hb : b ≤ 80000) :
    Calls Try.prog 61 #[.pointer (some ⟨p.pg, 0, none⟩), .agg #[.slice r.A r.e.row.length r.c, .int .i64 r.e.fam, .slice r.B r.e.qual.length r.d, .int .i64 r.e.ts, .int .i64 r.e.seq, .int .i64 r.e.kind, .slice r.D r.e.val.length r.q], .int .i64 N, .pointer (some ⟨fg, 0, none⟩), .func (.func fd) #[] lb.toArray] x (QP w fg p RR ms b) := by
  obtain ⟨pg, tg, t, fr, A, n, c, rs⟩ := p
  have HF : Hid (Fl fg osF) := Lib.hid h.f
  have HTB : Hid (Tb ms t) := Lib.hid h.ok.tb
  have HRT : Hid (RT ms A n c rs t.ents) := Lib.hid h.ok.rt
  have HMS : Hid (∀ o, o ∈ ms → o ∈ RR) := Lib.hid h.sub
  have HEN := Lib.hid hr
  have HGF := Lib.hid hf
  have HDO : Hid (DoOK w fg pg tg fd lb D B) := Lib.hid hD
  have HDR := Lib.hid hDR
  have HDM := Lib.hid hDm
  have HB0 : Hid (t.list.length ≤ B 0) := Lib.hid hB0
  have HBB : Hid (∀ i, i ≤ t.list.length → B i ≤ b) := Lib.hid hB
  have HLN : Hid (rs.length = n ∧ t.ents.length = n) := Lib.hid ((h.ok.rt.more (os' := osF ++ (PS.box ⟨pg, tg, t, fr, A, n, c, rs⟩ :: PS.tab ⟨pg, tg, t, fr, A, n, c, rs⟩ :: RR)) fun o ho => List.mem_append_right _ (.tail _ (.tail _ (h.sub o ho)))).lens h.ow)
  have hn8 : n ≤ 80000 := by have h1 := HLN.out.2; rw [Tr.ents_len] at h1; have h2 := hB 0 (Nat.zero_le _); have h3 : t.list.length ≤ B 0 := hB0; omega
  have HX0 : Hid (OW w (osF ++ (boxO pg [.pointer (some ⟨tg, 0, none⟩), .slice A n c, .bool fr] :: boxO tg (tabC t fr) :: RR)) x) := Lib.hid h.ow
  obtain ⟨ec, hec⟩ : ∃ z, z = cut5 r.e := ⟨_, rfl⟩
  have HEC := Lib.hid hec.symm
  have HL5 : Hid (ec.row.length ≤ 5000 ∧ ec.qual.length ≤ 5000 ∧ ec.val.length ≤ 5000) := Lib.hid (by rw [hec]; exact cut5_le _)
  clear h hf hD hDR hDm hB0 hB hr hec
  show Calls Try.prog 61 #[.pointer (some ⟨pg, 0, none⟩), .agg #[.slice r.A r.e.row.length r.c, .int .i64 r.e.fam, .slice r.B r.e.qual.length r.d, .int .i64 r.e.ts, .int .i64 r.e.seq, .int .i64 r.e.kind, .slice r.D r.e.val.length r.q], .int .i64 N, .pointer (some ⟨fg, 0, none⟩), .func (.func fd) #[] lb.toArray] x _
  refine calls_marks Try.func61 rfl ?_
  simp only [Try.ntmps61, List.size_toArray, List.length_cons, List.length_nil, Nat.reduceAdd, Nat.reduceSub, Array.replicate_succ, Array.replicate_zero, List.push_toArray, List.append_toArray, List.nil_append, List.cons_append]
  go_upto_region 1 with (first
    | (refine wl_box rfl (.tmp 1) rfl [.slice r.A r.e.row.length r.c, .int .i64 r.e.fam, .slice r.B r.e.qual.length r.d, .int .i64 r.e.ts, .int .i64 r.e.seq, .int .i64 r.e.kind, .slice r.D r.e.val.length r.q] rfl HX0.out ?_; intro g6 x1 hz hb; have HX1 : Hid (OW w (boxO g6 [.slice r.A r.e.row.length r.c, .int .i64 r.e.fam, .slice r.B r.e.qual.length r.d, .int .i64 r.e.ts, .int .i64 r.e.seq, .int .i64 r.e.kind, .slice r.D r.e.val.length r.q] :: (osF ++ (boxO pg [.pointer (some ⟨tg, 0, none⟩), .slice A n c, .bool fr] :: boxO tg (tabC t fr) :: RR))) x1) := Lib.hid (hz.perm List.perm_append_comm); clear hz hb HX0)
    | (refine wl_box rfl (.tmp 2) rfl [.int .i64 N] rfl HX1.out ?_; intro g7 x2 hz hb; have HX2 : Hid (OW w (boxO g7 [.int .i64 N] :: boxO g6 [.slice r.A r.e.row.length r.c, .int .i64 r.e.fam, .slice r.B r.e.qual.length r.d, .int .i64 r.e.ts, .int .i64 r.e.seq, .int .i64 r.e.kind, .slice r.D r.e.val.length r.q] :: (osF ++ (boxO pg [.pointer (some ⟨tg, 0, none⟩), .slice A n c, .bool fr] :: boxO tg (tabC t fr) :: RR))) x2) := Lib.hid (hz.perm List.perm_append_comm); clear hz hb HX1)
    | (refine wl_box rfl (.tmp 3) rfl [.pointer (some ⟨fg, 0, none⟩)] rfl HX2.out ?_; intro g8 x3 hz hb; have HX3 : Hid (OW w (boxO g8 [.pointer (some ⟨fg, 0, none⟩)] :: boxO g7 [.int .i64 N] :: boxO g6 [.slice r.A r.e.row.length r.c, .int .i64 r.e.fam, .slice r.B r.e.qual.length r.d, .int .i64 r.e.ts, .int .i64 r.e.seq, .int .i64 r.e.kind, .slice r.D r.e.val.length r.q] :: (osF ++ (boxO pg [.pointer (some ⟨tg, 0, none⟩), .slice A n c, .bool fr] :: boxO tg (tabC t fr) :: RR))) x3) := Lib.hid (hz.perm List.perm_append_comm); clear hz hb HX2)
    | (refine wl_box rfl (.tmp 4) rfl [.func (.func fd) #[] lb.toArray] rfl HX3.out ?_; intro g9 x4 hz hb; have HX4 : Hid (OW w (boxO g9 [.func (.func fd) #[] lb.toArray] :: boxO g8 [.pointer (some ⟨fg, 0, none⟩)] :: boxO g7 [.int .i64 N] :: boxO g6 [.slice r.A r.e.row.length r.c, .int .i64 r.e.fam, .slice r.B r.e.qual.length r.d, .int .i64 r.e.ts, .int .i64 r.e.seq, .int .i64 r.e.kind, .slice r.D r.e.val.length r.q] :: (osF ++ (boxO pg [.pointer (some ⟨tg, 0, none⟩), .slice A n c, .bool fr] :: boxO tg (tabC t fr) :: RR))) x4) := Lib.hid (hz.perm List.perm_append_comm); clear hz hb HX3)
    | (refine wl_alloc rfl rfl [.bool false] (.inr ⟨.bool false, by kernel_rfl, rfl⟩) HX4.out ?_; intro g10 x5 hz hb; have HX : Hid (OW w (boxO g10 [.bool false] :: boxO g9 [.func (.func fd) #[] lb.toArray] :: boxO g8 [.pointer (some ⟨fg, 0, none⟩)] :: boxO g7 [.int .i64 N] :: boxO g6 [.slice r.A r.e.row.length r.c, .int .i64 r.e.fam, .slice r.B r.e.qual.length r.d, .int .i64 r.e.ts, .int .i64 r.e.seq, .int .i64 r.e.kind, .slice r.D r.e.val.length r.q] :: (osF ++ (boxO pg [.pointer (some ⟨tg, 0, none⟩), .slice A n c, .bool fr] :: boxO tg (tabC t fr) :: RR))) x5) := Lib.hid (hz.perm List.perm_append_comm); clear hz hb HX4))
  simp only [Act.put, List.setIfInBounds_toArray, List.set_cons_zero, List.set_cons_succ]
  go_cut [11, 12] from 16 to 77 (fun p7 p8 wx => ∃ (g11 g12 : Nat) (A1 B1 D1 A2 B2 D2 : Option Addr) (c1 d1 q1 c2 d2 q2 : Nat), p7 = .pointer (some ⟨g11, 0, none⟩) ∧ p8 = .pointer (some ⟨g12, 0, none⟩) ∧ Hid (OW w (boxO g11 [.slice A1 ec.row.length c1, .int .i64 ec.fam, .slice B1 ec.qual.length d1, .int .i64 ec.ts, .int .i64 ec.seq, .int .i64 ec.kind, .slice D1 ec.val.length q1] :: boxO g12 [.slice A2 ec.row.length c2, .int .i64 ec.fam, .slice B2 ec.qual.length d2, .int .i64 ec.ts, .int .i64 ec.seq, .int .i64 ec.kind, .slice D2 ec.val.length q2] :: (((boxO g10 [.bool false] :: boxO g9 [.func (.func fd) #[] lb.toArray] :: boxO g8 [.pointer (some ⟨fg, 0, none⟩)] :: boxO g7 [.int .i64 N] :: boxO g6 [.slice r.A r.e.row.length r.c, .int .i64 r.e.fam, .slice r.B r.e.qual.length r.d, .int .i64 r.e.ts, .int .i64 r.e.seq, .int .i64 r.e.kind, .slice r.D r.e.val.length r.q] :: (osF ++ (boxO pg [.pointer (some ⟨tg, 0, none⟩), .slice A n c, .bool fr] :: boxO tg (tabC t fr) :: RR))) ++ entO A1 B1 D1 c1 d1 q1 ec) ++ entO A2 B2 D2 c2 d2 q2 ec)) wx))
  case first =>
    refine lt_start [6, 7] (by kernel_rfl) ?_
    intro xd hd
    refine ⟨fun z => OW w (boxO g10 [.bool false] :: boxO g9 [.func (.func fd) #[] lb.toArray] :: boxO g8 [.pointer (some ⟨fg, 0, none⟩)] :: boxO g7 [.int .i64 N] :: boxO g6 [.slice r.A r.e.row.length r.c, .int .i64 r.e.fam, .slice r.B r.e.qual.length r.d, .int .i64 r.e.ts, .int .i64 r.e.seq, .int .i64 r.e.kind, .slice r.D r.e.val.length r.q] :: (osF ++ (boxO pg [.pointer (some ⟨tg, 0, none⟩), .slice A n c, .bool fr] :: boxO tg (tabC t fr) :: RR))) z, ?_⟩
    have HS := Lib.hid (HX.out.later hd)
    have HY := HS
    refine lt_take 0 [1, 3, 6, 7] rfl (by kernel_rfl) (by kernel_rfl) (by kernel_rfl) (by kernel_rfl) (by kernel_rfl) (fun _ _ _ h => h) (yi_row rfl rfl rfl (fun w hS => OW.range hS (i := 4) rfl) ent_row8) HS.out ?_
    simp only [Act.put, List.setIfInBounds_toArray, List.set_cons_zero, List.set_cons_succ]
    refine lt_take 2 [3, 6, 7] rfl (by kernel_rfl) (by kernel_rfl) (by kernel_rfl) (by kernel_rfl) (by kernel_rfl) (fun _ _ _ h => h) (yi_row rfl rfl rfl (fun w hS => OW.range hS (i := 4) rfl) ent_row8) HS.out ?_
    simp only [Act.put, List.setIfInBounds_toArray, List.set_cons_zero, List.set_cons_succ]
    refine lt_three 1 4 5 rfl rfl rfl (by kernel_rfl) rfl rfl rfl ?_ ?_ ?_
    · refine wp_callL rfl ⟨_, Try.func16, by decide, by kernel_rfl⟩ [.agg #[.slice r.A r.e.row.length r.c, .int .i64 r.e.fam, .slice r.B r.e.qual.length r.d, .int .i64 r.e.ts, .int .i64 r.e.seq, .int .i64 r.e.kind, .slice r.D r.e.val.length r.q]] rfl ?_
      refine (entry8_cut r _ (HEN.out _ HS.out.up)).mono ?_
      rw [HEC.out]
      rintro e y1 ⟨A1, B1, D1, c1, d1, q1, rfl, hz⟩
      replace HY : Hid (OW w (((boxO g10 [.bool false] :: boxO g9 [.func (.func fd) #[] lb.toArray] :: boxO g8 [.pointer (some ⟨fg, 0, none⟩)] :: boxO g7 [.int .i64 N] :: boxO g6 [.slice r.A r.e.row.length r.c, .int .i64 r.e.fam, .slice r.B r.e.qual.length r.d, .int .i64 r.e.ts, .int .i64 r.e.seq, .int .i64 r.e.kind, .slice r.D r.e.val.length r.q] :: (osF ++ (boxO pg [.pointer (some ⟨tg, 0, none⟩), .slice A n c, .bool fr] :: boxO tg (tabC t fr) :: RR))) ++ entO A1 B1 D1 c1 d1 q1 ec)) y1) := Lib.hid (HY.out.app hz)
      replace HS := Lib.hid (HS.out.later hz.up)
      clear hz
      refine ⟨_, rfl, ?_⟩
      refine ⟨fun _ => HS.out, ?_⟩
      simp only [Act.put, List.setIfInBounds_toArray, List.set_cons_zero, List.set_cons_succ]
      refine lt_three 3 4 5 rfl rfl rfl (by kernel_rfl) rfl rfl rfl ?_ ?_ ?_
      · refine wp_callL rfl ⟨_, Try.func16, by decide, by kernel_rfl⟩ [.agg #[.slice r.A r.e.row.length r.c, .int .i64 r.e.fam, .slice r.B r.e.qual.length r.d, .int .i64 r.e.ts, .int .i64 r.e.seq, .int .i64 r.e.kind, .slice r.D r.e.val.length r.q]] rfl ?_
        refine (entry8_cut r _ (HEN.out _ HS.out.up)).mono ?_
        rw [HEC.out]
        rintro e y2 ⟨A2, B2, D2, c2, d2, q2, rfl, hz⟩
        replace HY : Hid (OW w ((((boxO g10 [.bool false] :: boxO g9 [.func (.func fd) #[] lb.toArray] :: boxO g8 [.pointer (some ⟨fg, 0, none⟩)] :: boxO g7 [.int .i64 N] :: boxO g6 [.slice r.A r.e.row.length r.c, .int .i64 r.e.fam, .slice r.B r.e.qual.length r.d, .int .i64 r.e.ts, .int .i64 r.e.seq, .int .i64 r.e.kind, .slice r.D r.e.val.length r.q] :: (osF ++ (boxO pg [.pointer (some ⟨tg, 0, none⟩), .slice A n c, .bool fr] :: boxO tg (tabC t fr) :: RR))) ++ entO A1 B1 D1 c1 d1 q1 ec) ++ entO A2 B2 D2 c2 d2 q2 ec)) y2) := Lib.hid (HY.out.app hz)
        replace HS := Lib.hid (HS.out.later hz.up)
        clear hz
        refine ⟨_, rfl, ?_⟩
        refine ⟨fun _ => HS.out, ?_⟩
        simp only [Act.put, List.setIfInBounds_toArray, List.set_cons_zero, List.set_cons_succ]
        refine lt_two 4 5 rfl rfl (by kernel_rfl) rfl rfl ?_ ?_
        · refine wpo_alloc rfl [.slice none 0 0, .int .i64 0, .slice none 0 0, .int .i64 0, .int .i64 0, .int .i64 0, .slice none 0 0] (.inl (by kernel_rfl)) HY.out ?_
          intro g11 ug11 hz hb
          replace HY : Hid (OW w (boxO g11 [.slice none 0 0, .int .i64 0, .slice none 0 0, .int .i64 0, .int .i64 0, .int .i64 0, .slice none 0 0] :: (((boxO g10 [.bool false] :: boxO g9 [.func (.func fd) #[] lb.toArray] :: boxO g8 [.pointer (some ⟨fg, 0, none⟩)] :: boxO g7 [.int .i64 N] :: boxO g6 [.slice r.A r.e.row.length r.c, .int .i64 r.e.fam, .slice r.B r.e.qual.length r.d, .int .i64 r.e.ts, .int .i64 r.e.seq, .int .i64 r.e.kind, .slice r.D r.e.val.length r.q] :: (osF ++ (boxO pg [.pointer (some ⟨tg, 0, none⟩), .slice A n c, .bool fr] :: boxO tg (tabC t fr) :: RR))) ++ entO A1 B1 D1 c1 d1 q1 ec) ++ entO A2 B2 D2 c2 d2 q2 ec)) ug11) := Lib.hid (hz.perm (List.perm_append_comm))
          replace HS := Lib.hid (HS.out.later hb)
          clear hz hb
          refine ⟨fun _ => HS.out, ?_⟩
          simp only [Act.put, List.setIfInBounds_toArray, List.set_cons_zero, List.set_cons_succ]
          refine lt_op 5 rfl (by kernel_rfl) rfl ?_
          refine wpo_alloc rfl [.slice none 0 0, .int .i64 0, .slice none 0 0, .int .i64 0, .int .i64 0, .int .i64 0, .slice none 0 0] (.inl (by kernel_rfl)) HY.out ?_
          intro g12 ug12 hz hb
          replace HY : Hid (OW w (boxO g11 [.slice none 0 0, .int .i64 0, .slice none 0 0, .int .i64 0, .int .i64 0, .int .i64 0, .slice none 0 0] :: boxO g12 [.slice none 0 0, .int .i64 0, .slice none 0 0, .int .i64 0, .int .i64 0, .int .i64 0, .slice none 0 0] :: (((boxO g10 [.bool false] :: boxO g9 [.func (.func fd) #[] lb.toArray] :: boxO g8 [.pointer (some ⟨fg, 0, none⟩)] :: boxO g7 [.int .i64 N] :: boxO g6 [.slice r.A r.e.row.length r.c, .int .i64 r.e.fam, .slice r.B r.e.qual.length r.d, .int .i64 r.e.ts, .int .i64 r.e.seq, .int .i64 r.e.kind, .slice r.D r.e.val.length r.q] :: (osF ++ (boxO pg [.pointer (some ⟨tg, 0, none⟩), .slice A n c, .bool fr] :: boxO tg (tabC t fr) :: RR))) ++ entO A1 B1 D1 c1 d1 q1 ec) ++ entO A2 B2 D2 c2 d2 q2 ec)) ug12) := Lib.hid (hz.perm (List.perm_append_comm.trans (List.Perm.swap _ _ _)))
          replace HS := Lib.hid (HS.out.later hb)
          clear hz hb
          refine ⟨fun _ => HS.out, ?_⟩
          simp only [Act.put, List.setIfInBounds_toArray, List.set_cons_zero, List.set_cons_succ]
          refine lt_end 6 rfl (by kernel_rfl) rfl (by kernel_rfl) ?_
          refine wpo_put rfl HY.out 0 rfl rfl [.slice A1 ec.row.length c1, .int .i64 ec.fam, .slice B1 ec.qual.length d1, .int .i64 ec.ts, .int .i64 ec.seq, .int .i64 ec.kind, .slice D1 ec.val.length q1] rfl rfl (by kernel_rfl) (by simp [Value.oneCell']) ?_
          intro v1 hz _
          replace HY : Hid (OW w (boxO g11 [.slice A1 ec.row.length c1, .int .i64 ec.fam, .slice B1 ec.qual.length d1, .int .i64 ec.ts, .int .i64 ec.seq, .int .i64 ec.kind, .slice D1 ec.val.length q1] :: boxO g12 [.slice none 0 0, .int .i64 0, .slice none 0 0, .int .i64 0, .int .i64 0, .int .i64 0, .slice none 0 0] :: (((boxO g10 [.bool false] :: boxO g9 [.func (.func fd) #[] lb.toArray] :: boxO g8 [.pointer (some ⟨fg, 0, none⟩)] :: boxO g7 [.int .i64 N] :: boxO g6 [.slice r.A r.e.row.length r.c, .int .i64 r.e.fam, .slice r.B r.e.qual.length r.d, .int .i64 r.e.ts, .int .i64 r.e.seq, .int .i64 r.e.kind, .slice r.D r.e.val.length r.q] :: (osF ++ (boxO pg [.pointer (some ⟨tg, 0, none⟩), .slice A n c, .bool fr] :: boxO tg (tabC t fr) :: RR))) ++ entO A1 B1 D1 c1 d1 q1 ec) ++ entO A2 B2 D2 c2 d2 q2 ec)) v1) := Lib.hid hz
          clear hz
          simp only [Act.put]
          refine lt_end 7 rfl (by kernel_rfl) rfl (by kernel_rfl) ?_
          refine wpo_put rfl HY.out 1 rfl rfl [.slice A2 ec.row.length c2, .int .i64 ec.fam, .slice B2 ec.qual.length d2, .int .i64 ec.ts, .int .i64 ec.seq, .int .i64 ec.kind, .slice D2 ec.val.length q2] rfl rfl (by kernel_rfl) (by simp [Value.oneCell']) ?_
          intro v2 hz _
          replace HY : Hid (OW w (boxO g11 [.slice A1 ec.row.length c1, .int .i64 ec.fam, .slice B1 ec.qual.length d1, .int .i64 ec.ts, .int .i64 ec.seq, .int .i64 ec.kind, .slice D1 ec.val.length q1] :: boxO g12 [.slice A2 ec.row.length c2, .int .i64 ec.fam, .slice B2 ec.qual.length d2, .int .i64 ec.ts, .int .i64 ec.seq, .int .i64 ec.kind, .slice D2 ec.val.length q2] :: (((boxO g10 [.bool false] :: boxO g9 [.func (.func fd) #[] lb.toArray] :: boxO g8 [.pointer (some ⟨fg, 0, none⟩)] :: boxO g7 [.int .i64 N] :: boxO g6 [.slice r.A r.e.row.length r.c, .int .i64 r.e.fam, .slice r.B r.e.qual.length r.d, .int .i64 r.e.ts, .int .i64 r.e.seq, .int .i64 r.e.kind, .slice r.D r.e.val.length r.q] :: (osF ++ (boxO pg [.pointer (some ⟨tg, 0, none⟩), .slice A n c, .bool fr] :: boxO tg (tabC t fr) :: RR))) ++ entO A1 B1 D1 c1 d1 q1 ec) ++ entO A2 B2 D2 c2 d2 q2 ec)) v2) := Lib.hid hz
          clear hz
          simp only [Act.put]
          refine lt_done (by kernel_rfl) ?_
          go_wp2_with fail
          go_meet
          exact ⟨g11, g12, A1, B1, D1, A2, B2, D2, c1, d1, q1, c2, d2, q2, rfl, rfl, HY⟩
        · refine wpo_alloc rfl [.slice none 0 0, .int .i64 0, .slice none 0 0, .int .i64 0, .int .i64 0, .int .i64 0, .slice none 0 0] (.inl (by kernel_rfl)) HY.out ?_
          intro g12 ug12 hz hb
          replace HY : Hid (OW w (boxO g12 [.slice none 0 0, .int .i64 0, .slice none 0 0, .int .i64 0, .int .i64 0, .int .i64 0, .slice none 0 0] :: (((boxO g10 [.bool false] :: boxO g9 [.func (.func fd) #[] lb.toArray] :: boxO g8 [.pointer (some ⟨fg, 0, none⟩)] :: boxO g7 [.int .i64 N] :: boxO g6 [.slice r.A r.e.row.length r.c, .int .i64 r.e.fam, .slice r.B r.e.qual.length r.d, .int .i64 r.e.ts, .int .i64 r.e.seq, .int .i64 r.e.kind, .slice r.D r.e.val.length r.q] :: (osF ++ (boxO pg [.pointer (some ⟨tg, 0, none⟩), .slice A n c, .bool fr] :: boxO tg (tabC t fr) :: RR))) ++ entO A1 B1 D1 c1 d1 q1 ec) ++ entO A2 B2 D2 c2 d2 q2 ec)) ug12) := Lib.hid (hz.perm (List.perm_append_comm))
          replace HS := Lib.hid (HS.out.later hb)
          clear hz hb
          refine ⟨fun _ => HS.out, ?_⟩
          simp only [Act.put, List.setIfInBounds_toArray, List.set_cons_zero, List.set_cons_succ]
          refine lt_op 4 rfl (by kernel_rfl) rfl ?_
          refine wpo_alloc rfl [.slice none 0 0, .int .i64 0, .slice none 0 0, .int .i64 0, .int .i64 0, .int .i64 0, .slice none 0 0] (.inl (by kernel_rfl)) HY.out ?_
          intro g11 ug11 hz hb
          replace HY : Hid (OW w (boxO g11 [.slice none 0 0, .int .i64 0, .slice none 0 0, .int .i64 0, .int .i64 0, .int .i64 0, .slice none 0 0] :: boxO g12 [.slice none 0 0, .int .i64 0, .slice none 0 0, .int .i64 0, .int .i64 0, .int .i64 0, .slice none 0 0] :: (((boxO g10 [.bool false] :: boxO g9 [.func (.func fd) #[] lb.toArray] :: boxO g8 [.pointer (some ⟨fg, 0, none⟩)] :: boxO g7 [.int .i64 N] :: boxO g6 [.slice r.A r.e.row.length r.c, .int .i64 r.e.fam, .slice r.B r.e.qual.length r.d, .int .i64 r.e.ts, .int .i64 r.e.seq, .int .i64 r.e.kind, .slice r.D r.e.val.length r.q] :: (osF ++ (boxO pg [.pointer (some ⟨tg, 0, none⟩), .slice A n c, .bool fr] :: boxO tg (tabC t fr) :: RR))) ++ entO A1 B1 D1 c1 d1 q1 ec) ++ entO A2 B2 D2 c2 d2 q2 ec)) ug11) := Lib.hid (hz.perm (List.perm_append_comm))
          replace HS := Lib.hid (HS.out.later hb)
          clear hz hb
          refine ⟨fun _ => HS.out, ?_⟩
          simp only [Act.put, List.setIfInBounds_toArray, List.set_cons_zero, List.set_cons_succ]
          refine lt_end 6 rfl (by kernel_rfl) rfl (by kernel_rfl) ?_
          refine wpo_put rfl HY.out 0 rfl rfl [.slice A1 ec.row.length c1, .int .i64 ec.fam, .slice B1 ec.qual.length d1, .int .i64 ec.ts, .int .i64 ec.seq, .int .i64 ec.kind, .slice D1 ec.val.length q1] rfl rfl (by kernel_rfl) (by simp [Value.oneCell']) ?_
          intro v1 hz _
          replace HY : Hid (OW w (boxO g11 [.slice A1 ec.row.length c1, .int .i64 ec.fam, .slice B1 ec.qual.length d1, .int .i64 ec.ts, .int .i64 ec.seq, .int .i64 ec.kind, .slice D1 ec.val.length q1] :: boxO g12 [.slice none 0 0, .int .i64 0, .slice none 0 0, .int .i64 0, .int .i64 0, .int .i64 0, .slice none 0 0] :: (((boxO g10 [.bool false] :: boxO g9 [.func (.func fd) #[] lb.toArray] :: boxO g8 [.pointer (some ⟨fg, 0, none⟩)] :: boxO g7 [.int .i64 N] :: boxO g6 [.slice r.A r.e.row.length r.c, .int .i64 r.e.fam, .slice r.B r.e.qual.length r.d, .int .i64 r.e.ts, .int .i64 r.e.seq, .int .i64 r.e.kind, .slice r.D r.e.val.length r.q] :: (osF ++ (boxO pg [.pointer (some ⟨tg, 0, none⟩), .slice A n c, .bool fr] :: boxO tg (tabC t fr) :: RR))) ++ entO A1 B1 D1 c1 d1 q1 ec) ++ entO A2 B2 D2 c2 d2 q2 ec)) v1) := Lib.hid hz
          clear hz
          simp only [Act.put]
          refine lt_end 7 rfl (by kernel_rfl) rfl (by kernel_rfl) ?_
          refine wpo_put rfl HY.out 1 rfl rfl [.slice A2 ec.row.length c2, .int .i64 ec.fam, .slice B2 ec.qual.length d2, .int .i64 ec.ts, .int .i64 ec.seq, .int .i64 ec.kind, .slice D2 ec.val.length q2] rfl rfl (by kernel_rfl) (by simp [Value.oneCell']) ?_
          intro v2 hz _
          replace HY : Hid (OW w (boxO g11 [.slice A1 ec.row.length c1, .int .i64 ec.fam, .slice B1 ec.qual.length d1, .int .i64 ec.ts, .int .i64 ec.seq, .int .i64 ec.kind, .slice D1 ec.val.length q1] :: boxO g12 [.slice A2 ec.row.length c2, .int .i64 ec.fam, .slice B2 ec.qual.length d2, .int .i64 ec.ts, .int .i64 ec.seq, .int .i64 ec.kind, .slice D2 ec.val.length q2] :: (((boxO g10 [.bool false] :: boxO g9 [.func (.func fd) #[] lb.toArray] :: boxO g8 [.pointer (some ⟨fg, 0, none⟩)] :: boxO g7 [.int .i64 N] :: boxO g6 [.slice r.A r.e.row.length r.c, .int .i64 r.e.fam, .slice r.B r.e.qual.length r.d, .int .i64 r.e.ts, .int .i64 r.e.seq, .int .i64 r.e.kind, .slice r.D r.e.val.length r.q] :: (osF ++ (boxO pg [.pointer (some ⟨tg, 0, none⟩), .slice A n c, .bool fr] :: boxO tg (tabC t fr) :: RR))) ++ entO A1 B1 D1 c1 d1 q1 ec) ++ entO A2 B2 D2 c2 d2 q2 ec)) v2) := Lib.hid hz
          clear hz
          simp only [Act.put]
          refine lt_done (by kernel_rfl) ?_
          go_wp2_with fail
          go_meet
          exact ⟨g11, g12, A1, B1, D1, A2, B2, D2, c1, d1, q1, c2, d2, q2, rfl, rfl, HY⟩
      · refine wpo_alloc rfl [.slice none 0 0, .int .i64 0, .slice none 0 0, .int .i64 0, .int .i64 0, .int .i64 0, .slice none 0 0] (.inl (by kernel_rfl)) HY.out ?_
        intro g11 ug11 hz hb
        replace HY : Hid (OW w (boxO g11 [.slice none 0 0, .int .i64 0, .slice none 0 0, .int .i64 0, .int .i64 0, .int .i64 0, .slice none 0 0] :: ((boxO g10 [.bool false] :: boxO g9 [.func (.func fd) #[] lb.toArray] :: boxO g8 [.pointer (some ⟨fg, 0, none⟩)] :: boxO g7 [.int .i64 N] :: boxO g6 [.slice r.A r.e.row.length r.c, .int .i64 r.e.fam, .slice r.B r.e.qual.length r.d, .int .i64 r.e.ts, .int .i64 r.e.seq, .int .i64 r.e.kind, .slice r.D r.e.val.length r.q] :: (osF ++ (boxO pg [.pointer (some ⟨tg, 0, none⟩), .slice A n c, .bool fr] :: boxO tg (tabC t fr) :: RR))) ++ entO A1 B1 D1 c1 d1 q1 ec)) ug11) := Lib.hid (hz.perm (List.perm_append_comm))
        replace HS := Lib.hid (HS.out.later hb)
        clear hz hb
        refine ⟨fun _ => HS.out, ?_⟩
        simp only [Act.put, List.setIfInBounds_toArray, List.set_cons_zero, List.set_cons_succ]
        refine lt_two 3 5 rfl rfl (by kernel_rfl) rfl rfl ?_ ?_
        · refine wp_callL rfl ⟨_, Try.func16, by decide, by kernel_rfl⟩ [.agg #[.slice r.A r.e.row.length r.c, .int .i64 r.e.fam, .slice r.B r.e.qual.length r.d, .int .i64 r.e.ts, .int .i64 r.e.seq, .int .i64 r.e.kind, .slice r.D r.e.val.length r.q]] rfl ?_
          refine (entry8_cut r _ (HEN.out _ HS.out.up)).mono ?_
          rw [HEC.out]
          rintro e y2 ⟨A2, B2, D2, c2, d2, q2, rfl, hz⟩
          replace HY : Hid (OW w (boxO g11 [.slice none 0 0, .int .i64 0, .slice none 0 0, .int .i64 0, .int .i64 0, .int .i64 0, .slice none 0 0] :: (((boxO g10 [.bool false] :: boxO g9 [.func (.func fd) #[] lb.toArray] :: boxO g8 [.pointer (some ⟨fg, 0, none⟩)] :: boxO g7 [.int .i64 N] :: boxO g6 [.slice r.A r.e.row.length r.c, .int .i64 r.e.fam, .slice r.B r.e.qual.length r.d, .int .i64 r.e.ts, .int .i64 r.e.seq, .int .i64 r.e.kind, .slice r.D r.e.val.length r.q] :: (osF ++ (boxO pg [.pointer (some ⟨tg, 0, none⟩), .slice A n c, .bool fr] :: boxO tg (tabC t fr) :: RR))) ++ entO A1 B1 D1 c1 d1 q1 ec) ++ entO A2 B2 D2 c2 d2 q2 ec)) y2) := Lib.hid (HY.out.app hz)
          replace HS := Lib.hid (HS.out.later hz.up)
          clear hz
          refine ⟨_, rfl, ?_⟩
          refine ⟨fun _ => HS.out, ?_⟩
          simp only [Act.put, List.setIfInBounds_toArray, List.set_cons_zero, List.set_cons_succ]
          refine lt_op 5 rfl (by kernel_rfl) rfl ?_
          refine wpo_alloc rfl [.slice none 0 0, .int .i64 0, .slice none 0 0, .int .i64 0, .int .i64 0, .int .i64 0, .slice none 0 0] (.inl (by kernel_rfl)) HY.out ?_
          intro g12 ug12 hz hb
          replace HY : Hid (OW w (boxO g11 [.slice none 0 0, .int .i64 0, .slice none 0 0, .int .i64 0, .int .i64 0, .int .i64 0, .slice none 0 0] :: boxO g12 [.slice none 0 0, .int .i64 0, .slice none 0 0, .int .i64 0, .int .i64 0, .int .i64 0, .slice none 0 0] :: (((boxO g10 [.bool false] :: boxO g9 [.func (.func fd) #[] lb.toArray] :: boxO g8 [.pointer (some ⟨fg, 0, none⟩)] :: boxO g7 [.int .i64 N] :: boxO g6 [.slice r.A r.e.row.length r.c, .int .i64 r.e.fam, .slice r.B r.e.qual.length r.d, .int .i64 r.e.ts, .int .i64 r.e.seq, .int .i64 r.e.kind, .slice r.D r.e.val.length r.q] :: (osF ++ (boxO pg [.pointer (some ⟨tg, 0, none⟩), .slice A n c, .bool fr] :: boxO tg (tabC t fr) :: RR))) ++ entO A1 B1 D1 c1 d1 q1 ec) ++ entO A2 B2 D2 c2 d2 q2 ec)) ug12) := Lib.hid (hz.perm (List.perm_append_comm.trans (List.Perm.swap _ _ _)))
          replace HS := Lib.hid (HS.out.later hb)
          clear hz hb
          refine ⟨fun _ => HS.out, ?_⟩
          simp only [Act.put, List.setIfInBounds_toArray, List.set_cons_zero, List.set_cons_succ]
          refine lt_end 6 rfl (by kernel_rfl) rfl (by kernel_rfl) ?_
          refine wpo_put rfl HY.out 0 rfl rfl [.slice A1 ec.row.length c1, .int .i64 ec.fam, .slice B1 ec.qual.length d1, .int .i64 ec.ts, .int .i64 ec.seq, .int .i64 ec.kind, .slice D1 ec.val.length q1] rfl rfl (by kernel_rfl) (by simp [Value.oneCell']) ?_
          intro v1 hz _
          replace HY : Hid (OW w (boxO g11 [.slice A1 ec.row.length c1, .int .i64 ec.fam, .slice B1 ec.qual.length d1, .int .i64 ec.ts, .int .i64 ec.seq, .int .i64 ec.kind, .slice D1 ec.val.length q1] :: boxO g12 [.slice none 0 0, .int .i64 0, .slice none 0 0, .int .i64 0, .int .i64 0, .int .i64 0, .slice none 0 0] :: (((boxO g10 [.bool false] :: boxO g9 [.func (.func fd) #[] lb.toArray] :: boxO g8 [.pointer (some ⟨fg, 0, none⟩)] :: boxO g7 [.int .i64 N] :: boxO g6 [.slice r.A r.e.row.length r.c, .int .i64 r.e.fam, .slice r.B r.e.qual.length r.d, .int .i64 r.e.ts, .int .i64 r.e.seq, .int .i64 r.e.kind, .slice r.D r.e.val.length r.q] :: (osF ++ (boxO pg [.pointer (some ⟨tg, 0, none⟩), .slice A n c, .bool fr] :: boxO tg (tabC t fr) :: RR))) ++ entO A1 B1 D1 c1 d1 q1 ec) ++ entO A2 B2 D2 c2 d2 q2 ec)) v1) := Lib.hid hz
          clear hz
          simp only [Act.put]
          refine lt_end 7 rfl (by kernel_rfl) rfl (by kernel_rfl) ?_
          refine wpo_put rfl HY.out 1 rfl rfl [.slice A2 ec.row.length c2, .int .i64 ec.fam, .slice B2 ec.qual.length d2, .int .i64 ec.ts, .int .i64 ec.seq, .int .i64 ec.kind, .slice D2 ec.val.length q2] rfl rfl (by kernel_rfl) (by simp [Value.oneCell']) ?_
          intro v2 hz _
          replace HY : Hid (OW w (boxO g11 [.slice A1 ec.row.length c1, .int .i64 ec.fam, .slice B1 ec.qual.length d1, .int .i64 ec.ts, .int .i64 ec.seq, .int .i64 ec.kind, .slice D1 ec.val.length q1] :: boxO g12 [.slice A2 ec.row.length c2, .int .i64 ec.fam, .slice B2 ec.qual.length d2, .int .i64 ec.ts, .int .i64 ec.seq, .int .i64 ec.kind, .slice D2 ec.val.length q2] :: (((boxO g10 [.bool false] :: boxO g9 [.func (.func fd) #[] lb.toArray] :: boxO g8 [.pointer (some ⟨fg, 0, none⟩)] :: boxO g7 [.int .i64 N] :: boxO g6 [.slice r.A r.e.row.length r.c, .int .i64 r.e.fam, .slice r.B r.e.qual.length r.d, .int .i64 r.e.ts, .int .i64 r.e.seq, .int .i64 r.e.kind, .slice r.D r.e.val.length r.q] :: (osF ++ (boxO pg [.pointer (some ⟨tg, 0, none⟩), .slice A n c, .bool fr] :: boxO tg (tabC t fr) :: RR))) ++ entO A1 B1 D1 c1 d1 q1 ec) ++ entO A2 B2 D2 c2 d2 q2 ec)) v2) := Lib.hid hz
          clear hz
          simp only [Act.put]
          refine lt_done (by kernel_rfl) ?_
          go_wp2_with fail
          go_meet
          exact ⟨g11, g12, A1, B1, D1, A2, B2, D2, c1, d1, q1, c2, d2, q2, rfl, rfl, HY⟩
        · refine wpo_alloc rfl [.slice none 0 0, .int .i64 0, .slice none 0 0, .int .i64 0, .int .i64 0, .int .i64 0, .slice none 0 0] (.inl (by kernel_rfl)) HY.out ?_
          intro g12 ug12 hz hb
          replace HY : Hid (OW w (boxO g11 [.slice none 0 0, .int .i64 0, .slice none 0 0, .int .i64 0, .int .i64 0, .int .i64 0, .slice none 0 0] :: boxO g12 [.slice none 0 0, .int .i64 0, .slice none 0 0, .int .i64 0, .int .i64 0, .int .i64 0, .slice none 0 0] :: ((boxO g10 [.bool false] :: boxO g9 [.func (.func fd) #[] lb.toArray] :: boxO g8 [.pointer (some ⟨fg, 0, none⟩)] :: boxO g7 [.int .i64 N] :: boxO g6 [.slice r.A r.e.row.length r.c, .int .i64 r.e.fam, .slice r.B r.e.qual.length r.d, .int .i64 r.e.ts, .int .i64 r.e.seq, .int .i64 r.e.kind, .slice r.D r.e.val.length r.q] :: (osF ++ (boxO pg [.pointer (some ⟨tg, 0, none⟩), .slice A n c, .bool fr] :: boxO tg (tabC t fr) :: RR))) ++ entO A1 B1 D1 c1 d1 q1 ec)) ug12) := Lib.hid (hz.perm (List.perm_append_comm.trans (List.Perm.swap _ _ _)))
          replace HS := Lib.hid (HS.out.later hb)
          clear hz hb
          refine ⟨fun _ => HS.out, ?_⟩
          simp only [Act.put, List.setIfInBounds_toArray, List.set_cons_zero, List.set_cons_succ]
          refine lt_op 3 rfl (by kernel_rfl) rfl ?_
          refine wp_callL rfl ⟨_, Try.func16, by decide, by kernel_rfl⟩ [.agg #[.slice r.A r.e.row.length r.c, .int .i64 r.e.fam, .slice r.B r.e.qual.length r.d, .int .i64 r.e.ts, .int .i64 r.e.seq, .int .i64 r.e.kind, .slice r.D r.e.val.length r.q]] rfl ?_
          refine (entry8_cut r _ (HEN.out _ HS.out.up)).mono ?_
          rw [HEC.out]
          rintro e y2 ⟨A2, B2, D2, c2, d2, q2, rfl, hz⟩
          replace HY : Hid (OW w (boxO g11 [.slice none 0 0, .int .i64 0, .slice none 0 0, .int .i64 0, .int .i64 0, .int .i64 0, .slice none 0 0] :: boxO g12 [.slice none 0 0, .int .i64 0, .slice none 0 0, .int .i64 0, .int .i64 0, .int .i64 0, .slice none 0 0] :: (((boxO g10 [.bool false] :: boxO g9 [.func (.func fd) #[] lb.toArray] :: boxO g8 [.pointer (some ⟨fg, 0, none⟩)] :: boxO g7 [.int .i64 N] :: boxO g6 [.slice r.A r.e.row.length r.c, .int .i64 r.e.fam, .slice r.B r.e.qual.length r.d, .int .i64 r.e.ts, .int .i64 r.e.seq, .int .i64 r.e.kind, .slice r.D r.e.val.length r.q] :: (osF ++ (boxO pg [.pointer (some ⟨tg, 0, none⟩), .slice A n c, .bool fr] :: boxO tg (tabC t fr) :: RR))) ++ entO A1 B1 D1 c1 d1 q1 ec) ++ entO A2 B2 D2 c2 d2 q2 ec)) y2) := Lib.hid (HY.out.app hz)
          replace HS := Lib.hid (HS.out.later hz.up)
          clear hz
          refine ⟨_, rfl, ?_⟩
          refine ⟨fun _ => HS.out, ?_⟩
          simp only [Act.put, List.setIfInBounds_toArray, List.set_cons_zero, List.set_cons_succ]
          refine lt_end 6 rfl (by kernel_rfl) rfl (by kernel_rfl) ?_
          refine wpo_put rfl HY.out 0 rfl rfl [.slice A1 ec.row.length c1, .int .i64 ec.fam, .slice B1 ec.qual.length d1, .int .i64 ec.ts, .int .i64 ec.seq, .int .i64 ec.kind, .slice D1 ec.val.length q1] rfl rfl (by kernel_rfl) (by simp [Value.oneCell']) ?_
          intro v1 hz _
          replace HY : Hid (OW w (boxO g11 [.slice A1 ec.row.length c1, .int .i64 ec.fam, .slice B1 ec.qual.length d1, .int .i64 ec.ts, .int .i64 ec.seq, .int .i64 ec.kind, .slice D1 ec.val.length q1] :: boxO g12 [.slice none 0 0, .int .i64 0, .slice none 0 0, .int .i64 0, .int .i64 0, .int .i64 0, .slice none 0 0] :: (((boxO g10 [.bool false] :: boxO g9 [.func (.func fd) #[] lb.toArray] :: boxO g8 [.pointer (some ⟨fg, 0, none⟩)] :: boxO g7 [.int .i64 N] :: boxO g6 [.slice r.A r.e.row.length r.c, .int .i64 r.e.fam, .slice r.B r.e.qual.length r.d, .int .i64 r.e.ts, .int .i64 r.e.seq, .int .i64 r.e.kind, .slice r.D r.e.val.length r.q] :: (osF ++ (boxO pg [.pointer (some ⟨tg, 0, none⟩), .slice A n c, .bool fr] :: boxO tg (tabC t fr) :: RR))) ++ entO A1 B1 D1 c1 d1 q1 ec) ++ entO A2 B2 D2 c2 d2 q2 ec)) v1) := Lib.hid hz
          clear hz
          simp only [Act.put]
          refine lt_end 7 rfl (by kernel_rfl) rfl (by kernel_rfl) ?_
          refine wpo_put rfl HY.out 1 rfl rfl [.slice A2 ec.row.length c2, .int .i64 ec.fam, .slice B2 ec.qual.length d2, .int .i64 ec.ts, .int .i64 ec.seq, .int .i64 ec.kind, .slice D2 ec.val.length q2] rfl rfl (by kernel_rfl) (by simp [Value.oneCell']) ?_
          intro v2 hz _
          replace HY : Hid (OW w (boxO g11 [.slice A1 ec.row.length c1, .int .i64 ec.fam, .slice B1 ec.qual.length d1, .int .i64 ec.ts, .int .i64 ec.seq, .int .i64 ec.kind, .slice D1 ec.val.length q1] :: boxO g12 [.slice A2 ec.row.length c2, .int .i64 ec.fam, .slice B2 ec.qual.length d2, .int .i64 ec.ts, .int .i64 ec.seq, .int .i64 ec.kind, .slice D2 ec.val.length q2] :: (((boxO g10 [.bool false] :: boxO g9 [.func (.func fd) #[] lb.toArray] :: boxO g8 [.pointer (some ⟨fg, 0, none⟩)] :: boxO g7 [.int .i64 N] :: boxO g6 [.slice r.A r.e.row.length r.c, .int .i64 r.e.fam, .slice r.B r.e.qual.length r.d, .int .i64 r.e.ts, .int .i64 r.e.seq, .int .i64 r.e.kind, .slice r.D r.e.val.length r.q] :: (osF ++ (boxO pg [.pointer (some ⟨tg, 0, none⟩), .slice A n c, .bool fr] :: boxO tg (tabC t fr) :: RR))) ++ entO A1 B1 D1 c1 d1 q1 ec) ++ entO A2 B2 D2 c2 d2 q2 ec)) v2) := Lib.hid hz
          clear hz
          simp only [Act.put]
          refine lt_done (by kernel_rfl) ?_
          go_wp2_with fail
          go_meet
          exact ⟨g11, g12, A1, B1, D1, A2, B2, D2, c1, d1, q1, c2, d2, q2, rfl, rfl, HY⟩
      · refine wpo_alloc rfl [.slice none 0 0, .int .i64 0, .slice none 0 0, .int .i64 0, .int .i64 0, .int .i64 0, .slice none 0 0] (.inl (by kernel_rfl)) HY.out ?_
        intro g12 ug12 hz hb
        replace HY : Hid (OW w (boxO g12 [.slice none 0 0, .int .i64 0, .slice none 0 0, .int .i64 0, .int .i64 0, .int .i64 0, .slice none 0 0] :: ((boxO g10 [.bool false] :: boxO g9 [.func (.func fd) #[] lb.toArray] :: boxO g8 [.pointer (some ⟨fg, 0, none⟩)] :: boxO g7 [.int .i64 N] :: boxO g6 [.slice r.A r.e.row.length r.c, .int .i64 r.e.fam, .slice r.B r.e.qual.length r.d, .int .i64 r.e.ts, .int .i64 r.e.seq, .int .i64 r.e.kind, .slice r.D r.e.val.length r.q] :: (osF ++ (boxO pg [.pointer (some ⟨tg, 0, none⟩), .slice A n c, .bool fr] :: boxO tg (tabC t fr) :: RR))) ++ entO A1 B1 D1 c1 d1 q1 ec)) ug12) := Lib.hid (hz.perm (List.perm_append_comm))
        replace HS := Lib.hid (HS.out.later hb)
        clear hz hb
        refine ⟨fun _ => HS.out, ?_⟩
        simp only [Act.put, List.setIfInBounds_toArray, List.set_cons_zero, List.set_cons_succ]
        refine lt_two 3 4 rfl rfl (by kernel_rfl) rfl rfl ?_ ?_
        · refine wp_callL rfl ⟨_, Try.func16, by decide, by kernel_rfl⟩ [.agg #[.slice r.A r.e.row.length r.c, .int .i64 r.e.fam, .slice r.B r.e.qual.length r.d, .int .i64 r.e.ts, .int .i64 r.e.seq, .int .i64 r.e.kind, .slice r.D r.e.val.length r.q]] rfl ?_
          refine (entry8_cut r _ (HEN.out _ HS.out.up)).mono ?_
          rw [HEC.out]
          rintro e y2 ⟨A2, B2, D2, c2, d2, q2, rfl, hz⟩
          replace HY : Hid (OW w (boxO g12 [.slice none 0 0, .int .i64 0, .slice none 0 0, .int .i64 0, .int .i64 0, .int .i64 0, .slice none 0 0] :: (((boxO g10 [.bool false] :: boxO g9 [.func (.func fd) #[] lb.toArray] :: boxO g8 [.pointer (some ⟨fg, 0, none⟩)] :: boxO g7 [.int .i64 N] :: boxO g6 [.slice r.A r.e.row.length r.c, .int .i64 r.e.fam, .slice r.B r.e.qual.length r.d, .int .i64 r.e.ts, .int .i64 r.e.seq, .int .i64 r.e.kind, .slice r.D r.e.val.length r.q] :: (osF ++ (boxO pg [.pointer (some ⟨tg, 0, none⟩), .slice A n c, .bool fr] :: boxO tg (tabC t fr) :: RR))) ++ entO A1 B1 D1 c1 d1 q1 ec) ++ entO A2 B2 D2 c2 d2 q2 ec)) y2) := Lib.hid (HY.out.app hz)
          replace HS := Lib.hid (HS.out.later hz.up)
          clear hz
          refine ⟨_, rfl, ?_⟩
          refine ⟨fun _ => HS.out, ?_⟩
          simp only [Act.put, List.setIfInBounds_toArray, List.set_cons_zero, List.set_cons_succ]
          refine lt_op 4 rfl (by kernel_rfl) rfl ?_
          refine wpo_alloc rfl [.slice none 0 0, .int .i64 0, .slice none 0 0, .int .i64 0, .int .i64 0, .int .i64 0, .slice none 0 0] (.inl (by kernel_rfl)) HY.out ?_
          intro g11 ug11 hz hb
          replace HY : Hid (OW w (boxO g11 [.slice none 0 0, .int .i64 0, .slice none 0 0, .int .i64 0, .int .i64 0, .int .i64 0, .slice none 0 0] :: boxO g12 [.slice none 0 0, .int .i64 0, .slice none 0 0, .int .i64 0, .int .i64 0, .int .i64 0, .slice none 0 0] :: (((boxO g10 [.bool false] :: boxO g9 [.func (.func fd) #[] lb.toArray] :: boxO g8 [.pointer (some ⟨fg, 0, none⟩)] :: boxO g7 [.int .i64 N] :: boxO g6 [.slice r.A r.e.row.length r.c, .int .i64 r.e.fam, .slice r.B r.e.qual.length r.d, .int .i64 r.e.ts, .int .i64 r.e.seq, .int .i64 r.e.kind, .slice r.D r.e.val.length r.q] :: (osF ++ (boxO pg [.pointer (some ⟨tg, 0, none⟩), .slice A n c, .bool fr] :: boxO tg (tabC t fr) :: RR))) ++ entO A1 B1 D1 c1 d1 q1 ec) ++ entO A2 B2 D2 c2 d2 q2 ec)) ug11) := Lib.hid (hz.perm (List.perm_append_comm))
          replace HS := Lib.hid (HS.out.later hb)
          clear hz hb
          refine ⟨fun _ => HS.out, ?_⟩
          simp only [Act.put, List.setIfInBounds_toArray, List.set_cons_zero, List.set_cons_succ]
          refine lt_end 6 rfl (by kernel_rfl) rfl (by kernel_rfl) ?_
          refine wpo_put rfl HY.out 0 rfl rfl [.slice A1 ec.row.length c1, .int .i64 ec.fam, .slice B1 ec.qual.length d1, .int .i64 ec.ts, .int .i64 ec.seq, .int .i64 ec.kind, .slice D1 ec.val.length q1] rfl rfl (by kernel_rfl) (by simp [Value.oneCell']) ?_
          intro v1 hz _
          replace HY : Hid (OW w (boxO g11 [.slice A1 ec.row.length c1, .int .i64 ec.fam, .slice B1 ec.qual.length d1, .int .i64 ec.ts, .int .i64 ec.seq, .int .i64 ec.kind, .slice D1 ec.val.length q1] :: boxO g12 [.slice none 0 0, .int .i64 0, .slice none 0 0, .int .i64 0, .int .i64 0, .int .i64 0, .slice none 0 0] :: (((boxO g10 [.bool false] :: boxO g9 [.func (.func fd) #[] lb.toArray] :: boxO g8 [.pointer (some ⟨fg, 0, none⟩)] :: boxO g7 [.int .i64 N] :: boxO g6 [.slice r.A r.e.row.length r.c, .int .i64 r.e.fam, .slice r.B r.e.qual.length r.d, .int .i64 r.e.ts, .int .i64 r.e.seq, .int .i64 r.e.kind, .slice r.D r.e.val.length r.q] :: (osF ++ (boxO pg [.pointer (some ⟨tg, 0, none⟩), .slice A n c, .bool fr] :: boxO tg (tabC t fr) :: RR))) ++ entO A1 B1 D1 c1 d1 q1 ec) ++ entO A2 B2 D2 c2 d2 q2 ec)) v1) := Lib.hid hz
          clear hz
          simp only [Act.put]
          refine lt_end 7 rfl (by kernel_rfl) rfl (by kernel_rfl) ?_
          refine wpo_put rfl HY.out 1 rfl rfl [.slice A2 ec.row.length c2, .int .i64 ec.fam, .slice B2 ec.qual.length d2, .int .i64 ec.ts, .int .i64 ec.seq, .int .i64 ec.kind, .slice D2 ec.val.length q2] rfl rfl (by kernel_rfl) (by simp [Value.oneCell']) ?_
          intro v2 hz _
          replace HY : Hid (OW w (boxO g11 [.slice A1 ec.row.length c1, .int .i64 ec.fam, .slice B1 ec.qual.length d1, .int .i64 ec.ts, .int .i64 ec.seq, .int .i64 ec.kind, .slice D1 ec.val.length q1] :: boxO g12 [.slice A2 ec.row.length c2, .int .i64 ec.fam, .slice B2 ec.qual.length d2, .int .i64 ec.ts, .int .i64 ec.seq, .int .i64 ec.kind, .slice D2 ec.val.length q2] :: (((boxO g10 [.bool false] :: boxO g9 [.func (.func fd) #[] lb.toArray] :: boxO g8 [.pointer (some ⟨fg, 0, none⟩)] :: boxO g7 [.int .i64 N] :: boxO g6 [.slice r.A r.e.row.length r.c, .int .i64 r.e.fam, .slice r.B r.e.qual.length r.d, .int .i64 r.e.ts, .int .i64 r.e.seq, .int .i64 r.e.kind, .slice r.D r.e.val.length r.q] :: (osF ++ (boxO pg [.pointer (some ⟨tg, 0, none⟩), .slice A n c, .bool fr] :: boxO tg (tabC t fr) :: RR))) ++ entO A1 B1 D1 c1 d1 q1 ec) ++ entO A2 B2 D2 c2 d2 q2 ec)) v2) := Lib.hid hz
          clear hz
          simp only [Act.put]
          refine lt_done (by kernel_rfl) ?_
          go_wp2_with fail
          go_meet
          exact ⟨g11, g12, A1, B1, D1, A2, B2, D2, c1, d1, q1, c2, d2, q2, rfl, rfl, HY⟩
        · refine wpo_alloc rfl [.slice none 0 0, .int .i64 0, .slice none 0 0, .int .i64 0, .int .i64 0, .int .i64 0, .slice none 0 0] (.inl (by kernel_rfl)) HY.out ?_
          intro g11 ug11 hz hb
          replace HY : Hid (OW w (boxO g11 [.slice none 0 0, .int .i64 0, .slice none 0 0, .int .i64 0, .int .i64 0, .int .i64 0, .slice none 0 0] :: boxO g12 [.slice none 0 0, .int .i64 0, .slice none 0 0, .int .i64 0, .int .i64 0, .int .i64 0, .slice none 0 0] :: ((boxO g10 [.bool false] :: boxO g9 [.func (.func fd) #[] lb.toArray] :: boxO g8 [.pointer (some ⟨fg, 0, none⟩)] :: boxO g7 [.int .i64 N] :: boxO g6 [.slice r.A r.e.row.length r.c, .int .i64 r.e.fam, .slice r.B r.e.qual.length r.d, .int .i64 r.e.ts, .int .i64 r.e.seq, .int .i64 r.e.kind, .slice r.D r.e.val.length r.q] :: (osF ++ (boxO pg [.pointer (some ⟨tg, 0, none⟩), .slice A n c, .bool fr] :: boxO tg (tabC t fr) :: RR))) ++ entO A1 B1 D1 c1 d1 q1 ec)) ug11) := Lib.hid (hz.perm (List.perm_append_comm))
          replace HS := Lib.hid (HS.out.later hb)
          clear hz hb
          refine ⟨fun _ => HS.out, ?_⟩
          simp only [Act.put, List.setIfInBounds_toArray, List.set_cons_zero, List.set_cons_succ]
          refine lt_op 3 rfl (by kernel_rfl) rfl ?_
          refine wp_callL rfl ⟨_, Try.func16, by decide, by kernel_rfl⟩ [.agg #[.slice r.A r.e.row.length r.c, .int .i64 r.e.fam, .slice r.B r.e.qual.length r.d, .int .i64 r.e.ts, .int .i64 r.e.seq, .int .i64 r.e.kind, .slice r.D r.e.val.length r.q]] rfl ?_
          refine (entry8_cut r _ (HEN.out _ HS.out.up)).mono ?_
          rw [HEC.out]
          rintro e y2 ⟨A2, B2, D2, c2, d2, q2, rfl, hz⟩
          replace HY : Hid (OW w (boxO g11 [.slice none 0 0, .int .i64 0, .slice none 0 0, .int .i64 0, .int .i64 0, .int .i64 0, .slice none 0 0] :: boxO g12 [.slice none 0 0, .int .i64 0, .slice none 0 0, .int .i64 0, .int .i64 0, .int .i64 0, .slice none 0 0] :: (((boxO g10 [.bool false] :: boxO g9 [.func (.func fd) #[] lb.toArray] :: boxO g8 [.pointer (some ⟨fg, 0, none⟩)] :: boxO g7 [.int .i64 N] :: boxO g6 [.slice r.A r.e.row.length r.c, .int .i64 r.e.fam, .slice r.B r.e.qual.length r.d, .int .i64 r.e.ts, .int .i64 r.e.seq, .int .i64 r.e.kind, .slice r.D r.e.val.length r.q] :: (osF ++ (boxO pg [.pointer (some ⟨tg, 0, none⟩), .slice A n c, .bool fr] :: boxO tg (tabC t fr) :: RR))) ++ entO A1 B1 D1 c1 d1 q1 ec) ++ entO A2 B2 D2 c2 d2 q2 ec)) y2) := Lib.hid (HY.out.app hz)
          replace HS := Lib.hid (HS.out.later hz.up)
          clear hz
          refine ⟨_, rfl, ?_⟩
          refine ⟨fun _ => HS.out, ?_⟩
          simp only [Act.put, List.setIfInBounds_toArray, List.set_cons_zero, List.set_cons_succ]
          refine lt_end 6 rfl (by kernel_rfl) rfl (by kernel_rfl) ?_
          refine wpo_put rfl HY.out 0 rfl rfl [.slice A1 ec.row.length c1, .int .i64 ec.fam, .slice B1 ec.qual.length d1, .int .i64 ec.ts, .int .i64 ec.seq, .int .i64 ec.kind, .slice D1 ec.val.length q1] rfl rfl (by kernel_rfl) (by simp [Value.oneCell']) ?_
          intro v1 hz _
          replace HY : Hid (OW w (boxO g11 [.slice A1 ec.row.length c1, .int .i64 ec.fam, .slice B1 ec.qual.length d1, .int .i64 ec.ts, .int .i64 ec.seq, .int .i64 ec.kind, .slice D1 ec.val.length q1] :: boxO g12 [.slice none 0 0, .int .i64 0, .slice none 0 0, .int .i64 0, .int .i64 0, .int .i64 0, .slice none 0 0] :: (((boxO g10 [.bool false] :: boxO g9 [.func (.func fd) #[] lb.toArray] :: boxO g8 [.pointer (some ⟨fg, 0, none⟩)] :: boxO g7 [.int .i64 N] :: boxO g6 [.slice r.A r.e.row.length r.c, .int .i64 r.e.fam, .slice r.B r.e.qual.length r.d, .int .i64 r.e.ts, .int .i64 r.e.seq, .int .i64 r.e.kind, .slice r.D r.e.val.length r.q] :: (osF ++ (boxO pg [.pointer (some ⟨tg, 0, none⟩), .slice A n c, .bool fr] :: boxO tg (tabC t fr) :: RR))) ++ entO A1 B1 D1 c1 d1 q1 ec) ++ entO A2 B2 D2 c2 d2 q2 ec)) v1) := Lib.hid hz
          clear hz
          simp only [Act.put]
          refine lt_end 7 rfl (by kernel_rfl) rfl (by kernel_rfl) ?_
          refine wpo_put rfl HY.out 1 rfl rfl [.slice A2 ec.row.length c2, .int .i64 ec.fam, .slice B2 ec.qual.length d2, .int .i64 ec.ts, .int .i64 ec.seq, .int .i64 ec.kind, .slice D2 ec.val.length q2] rfl rfl (by kernel_rfl) (by simp [Value.oneCell']) ?_
          intro v2 hz _
          replace HY : Hid (OW w (boxO g11 [.slice A1 ec.row.length c1, .int .i64 ec.fam, .slice B1 ec.qual.length d1, .int .i64 ec.ts, .int .i64 ec.seq, .int .i64 ec.kind, .slice D1 ec.val.length q1] :: boxO g12 [.slice A2 ec.row.length c2, .int .i64 ec.fam, .slice B2 ec.qual.length d2, .int .i64 ec.ts, .int .i64 ec.seq, .int .i64 ec.kind, .slice D2 ec.val.length q2] :: (((boxO g10 [.bool false] :: boxO g9 [.func (.func fd) #[] lb.toArray] :: boxO g8 [.pointer (some ⟨fg, 0, none⟩)] :: boxO g7 [.int .i64 N] :: boxO g6 [.slice r.A r.e.row.length r.c, .int .i64 r.e.fam, .slice r.B r.e.qual.length r.d, .int .i64 r.e.ts, .int .i64 r.e.seq, .int .i64 r.e.kind, .slice r.D r.e.val.length r.q] :: (osF ++ (boxO pg [.pointer (some ⟨tg, 0, none⟩), .slice A n c, .bool fr] :: boxO tg (tabC t fr) :: RR))) ++ entO A1 B1 D1 c1 d1 q1 ec) ++ entO A2 B2 D2 c2 d2 q2 ec)) v2) := Lib.hid hz
          clear hz
          simp only [Act.put]
          refine lt_done (by kernel_rfl) ?_
          go_wp2_with fail
          go_meet
          exact ⟨g11, g12, A1, B1, D1, A2, B2, D2, c1, d1, q1, c2, d2, q2, rfl, rfl, HY⟩
    · refine wpo_alloc rfl [.slice none 0 0, .int .i64 0, .slice none 0 0, .int .i64 0, .int .i64 0, .int .i64 0, .slice none 0 0] (.inl (by kernel_rfl)) HY.out ?_
      intro g11 ug11 hz hb
      replace HY : Hid (OW w (boxO g11 [.slice none 0 0, .int .i64 0, .slice none 0 0, .int .i64 0, .int .i64 0, .int .i64 0, .slice none 0 0] :: (boxO g10 [.bool false] :: boxO g9 [.func (.func fd) #[] lb.toArray] :: boxO g8 [.pointer (some ⟨fg, 0, none⟩)] :: boxO g7 [.int .i64 N] :: boxO g6 [.slice r.A r.e.row.length r.c, .int .i64 r.e.fam, .slice r.B r.e.qual.length r.d, .int .i64 r.e.ts, .int .i64 r.e.seq, .int .i64 r.e.kind, .slice r.D r.e.val.length r.q] :: (osF ++ (boxO pg [.pointer (some ⟨tg, 0, none⟩), .slice A n c, .bool fr] :: boxO tg (tabC t fr) :: RR)))) ug11) := Lib.hid (hz.perm (List.perm_append_comm))
      replace HS := Lib.hid (HS.out.later hb)
      clear hz hb
      refine ⟨fun _ => HS.out, ?_⟩
      simp only [Act.put, List.setIfInBounds_toArray, List.set_cons_zero, List.set_cons_succ]
      refine lt_two 1 5 rfl rfl (by kernel_rfl) rfl rfl ?_ ?_
      · refine wp_callL rfl ⟨_, Try.func16, by decide, by kernel_rfl⟩ [.agg #[.slice r.A r.e.row.length r.c, .int .i64 r.e.fam, .slice r.B r.e.qual.length r.d, .int .i64 r.e.ts, .int .i64 r.e.seq, .int .i64 r.e.kind, .slice r.D r.e.val.length r.q]] rfl ?_
        refine (entry8_cut r _ (HEN.out _ HS.out.up)).mono ?_
        rw [HEC.out]
        rintro e y1 ⟨A1, B1, D1, c1, d1, q1, rfl, hz⟩
        replace HY : Hid (OW w (boxO g11 [.slice none 0 0, .int .i64 0, .slice none 0 0, .int .i64 0, .int .i64 0, .int .i64 0, .slice none 0 0] :: ((boxO g10 [.bool false] :: boxO g9 [.func (.func fd) #[] lb.toArray] :: boxO g8 [.pointer (some ⟨fg, 0, none⟩)] :: boxO g7 [.int .i64 N] :: boxO g6 [.slice r.A r.e.row.length r.c, .int .i64 r.e.fam, .slice r.B r.e.qual.length r.d, .int .i64 r.e.ts, .int .i64 r.e.seq, .int .i64 r.e.kind, .slice r.D r.e.val.length r.q] :: (osF ++ (boxO pg [.pointer (some ⟨tg, 0, none⟩), .slice A n c, .bool fr] :: boxO tg (tabC t fr) :: RR))) ++ entO A1 B1 D1 c1 d1 q1 ec)) y1) := Lib.hid (HY.out.app hz)
        replace HS := Lib.hid (HS.out.later hz.up)
        clear hz
        refine ⟨_, rfl, ?_⟩
        refine ⟨fun _ => HS.out, ?_⟩
        simp only [Act.put, List.setIfInBounds_toArray, List.set_cons_zero, List.set_cons_succ]
        refine lt_two 3 5 rfl rfl (by kernel_rfl) rfl rfl ?_ ?_
        · refine wp_callL rfl ⟨_, Try.func16, by decide, by kernel_rfl⟩ [.agg #[.slice r.A r.e.row.length r.c, .int .i64 r.e.fam, .slice r.B r.e.qual.length r.d, .int .i64 r.e.ts, .int .i64 r.e.seq, .int .i64 r.e.kind, .slice r.D r.e.val.length r.q]] rfl ?_
          refine (entry8_cut r _ (HEN.out _ HS.out.up)).mono ?_
          rw [HEC.out]
          rintro e y2 ⟨A2, B2, D2, c2, d2, q2, rfl, hz⟩
          replace HY : Hid (OW w (boxO g11 [.slice none 0 0, .int .i64 0, .slice none 0 0, .int .i64 0, .int .i64 0, .int .i64 0, .slice none 0 0] :: (((boxO g10 [.bool false] :: boxO g9 [.func (.func fd) #[] lb.toArray] :: boxO g8 [.pointer (some ⟨fg, 0, none⟩)] :: boxO g7 [.int .i64 N] :: boxO g6 [.slice r.A r.e.row.length r.c, .int .i64 r.e.fam, .slice r.B r.e.qual.length r.d, .int .i64 r.e.ts, .int .i64 r.e.seq, .int .i64 r.e.kind, .slice r.D r.e.val.length r.q] :: (osF ++ (boxO pg [.pointer (some ⟨tg, 0, none⟩), .slice A n c, .bool fr] :: boxO tg (tabC t fr) :: RR))) ++ entO A1 B1 D1 c1 d1 q1 ec) ++ entO A2 B2 D2 c2 d2 q2 ec)) y2) := Lib.hid (HY.out.app hz)
          replace HS := Lib.hid (HS.out.later hz.up)
          clear hz
          refine ⟨_, rfl, ?_⟩
          refine ⟨fun _ => HS.out, ?_⟩
          simp only [Act.put, List.setIfInBounds_toArray, List.set_cons_zero, List.set_cons_succ]
          refine lt_op 5 rfl (by kernel_rfl) rfl ?_
          refine wpo_alloc rfl [.slice none 0 0, .int .i64 0, .slice none 0 0, .int .i64 0, .int .i64 0, .int .i64 0, .slice none 0 0] (.inl (by kernel_rfl)) HY.out ?_
          intro g12 ug12 hz hb
          replace HY : Hid (OW w (boxO g11 [.slice none 0 0, .int .i64 0, .slice none 0 0, .int .i64 0, .int .i64 0, .int .i64 0, .slice none 0 0] :: boxO g12 [.slice none 0 0, .int .i64 0, .slice none 0 0, .int .i64 0, .int .i64 0, .int .i64 0, .slice none 0 0] :: (((boxO g10 [.bool false] :: boxO g9 [.func (.func fd) #[] lb.toArray] :: boxO g8 [.pointer (some ⟨fg, 0, none⟩)] :: boxO g7 [.int .i64 N] :: boxO g6 [.slice r.A r.e.row.length r.c, .int .i64 r.e.fam, .slice r.B r.e.qual.length r.d, .int .i64 r.e.ts, .int .i64 r.e.seq, .int .i64 r.e.kind, .slice r.D r.e.val.length r.q] :: (osF ++ (boxO pg [.pointer (some ⟨tg, 0, none⟩), .slice A n c, .bool fr] :: boxO tg (tabC t fr) :: RR))) ++ entO A1 B1 D1 c1 d1 q1 ec) ++ entO A2 B2 D2 c2 d2 q2 ec)) ug12) := Lib.hid (hz.perm (List.perm_append_comm.trans (List.Perm.swap _ _ _)))
          replace HS := Lib.hid (HS.out.later hb)
          clear hz hb
          refine ⟨fun _ => HS.out, ?_⟩
          simp only [Act.put, List.setIfInBounds_toArray, List.set_cons_zero, List.set_cons_succ]
          refine lt_end 6 rfl (by kernel_rfl) rfl (by kernel_rfl) ?_
          refine wpo_put rfl HY.out 0 rfl rfl [.slice A1 ec.row.length c1, .int .i64 ec.fam, .slice B1 ec.qual.length d1, .int .i64 ec.ts, .int .i64 ec.seq, .int .i64 ec.kind, .slice D1 ec.val.length q1] rfl rfl (by kernel_rfl) (by simp [Value.oneCell']) ?_
          intro v1 hz _
          replace HY : Hid (OW w (boxO g11 [.slice A1 ec.row.length c1, .int .i64 ec.fam, .slice B1 ec.qual.length d1, .int .i64 ec.ts, .int .i64 ec.seq, .int .i64 ec.kind, .slice D1 ec.val.length q1] :: boxO g12 [.slice none 0 0, .int .i64 0, .slice none 0 0, .int .i64 0, .int .i64 0, .int .i64 0, .slice none 0 0] :: (((boxO g10 [.bool false] :: boxO g9 [.func (.func fd) #[] lb.toArray] :: boxO g8 [.pointer (some ⟨fg, 0, none⟩)] :: boxO g7 [.int .i64 N] :: boxO g6 [.slice r.A r.e.row.length r.c, .int .i64 r.e.fam, .slice r.B r.e.qual.length r.d, .int .i64 r.e.ts, .int .i64 r.e.seq, .int .i64 r.e.kind, .slice r.D r.e.val.length r.q] :: (osF ++ (boxO pg [.pointer (some ⟨tg, 0, none⟩), .slice A n c, .bool fr] :: boxO tg (tabC t fr) :: RR))) ++ entO A1 B1 D1 c1 d1 q1 ec) ++ entO A2 B2 D2 c2 d2 q2 ec)) v1) := Lib.hid hz
          clear hz
          simp only [Act.put]
          refine lt_end 7 rfl (by kernel_rfl) rfl (by kernel_rfl) ?_
          refine wpo_put rfl HY.out 1 rfl rfl [.slice A2 ec.row.length c2, .int .i64 ec.fam, .slice B2 ec.qual.length d2, .int .i64 ec.ts, .int .i64 ec.seq, .int .i64 ec.kind, .slice D2 ec.val.length q2] rfl rfl (by kernel_rfl) (by simp [Value.oneCell']) ?_
          intro v2 hz _
          replace HY : Hid (OW w (boxO g11 [.slice A1 ec.row.length c1, .int .i64 ec.fam, .slice B1 ec.qual.length d1, .int .i64 ec.ts, .int .i64 ec.seq, .int .i64 ec.kind, .slice D1 ec.val.length q1] :: boxO g12 [.slice A2 ec.row.length c2, .int .i64 ec.fam, .slice B2 ec.qual.length d2, .int .i64 ec.ts, .int .i64 ec.seq, .int .i64 ec.kind, .slice D2 ec.val.length q2] :: (((boxO g10 [.bool false] :: boxO g9 [.func (.func fd) #[] lb.toArray] :: boxO g8 [.pointer (some ⟨fg, 0, none⟩)] :: boxO g7 [.int .i64 N] :: boxO g6 [.slice r.A r.e.row.length r.c, .int .i64 r.e.fam, .slice r.B r.e.qual.length r.d, .int .i64 r.e.ts, .int .i64 r.e.seq, .int .i64 r.e.kind, .slice r.D r.e.val.length r.q] :: (osF ++ (boxO pg [.pointer (some ⟨tg, 0, none⟩), .slice A n c, .bool fr] :: boxO tg (tabC t fr) :: RR))) ++ entO A1 B1 D1 c1 d1 q1 ec) ++ entO A2 B2 D2 c2 d2 q2 ec)) v2) := Lib.hid hz
          clear hz
          simp only [Act.put]
          refine lt_done (by kernel_rfl) ?_
          go_wp2_with fail
          go_meet
          exact ⟨g11, g12, A1, B1, D1, A2, B2, D2, c1, d1, q1, c2, d2, q2, rfl, rfl, HY⟩
        · refine wpo_alloc rfl [.slice none 0 0, .int .i64 0, .slice none 0 0, .int .i64 0, .int .i64 0, .int .i64 0, .slice none 0 0] (.inl (by kernel_rfl)) HY.out ?_
          intro g12 ug12 hz hb
          replace HY : Hid (OW w (boxO g11 [.slice none 0 0, .int .i64 0, .slice none 0 0, .int .i64 0, .int .i64 0, .int .i64 0, .slice none 0 0] :: boxO g12 [.slice none 0 0, .int .i64 0, .slice none 0 0, .int .i64 0, .int .i64 0, .int .i64 0, .slice none 0 0] :: ((boxO g10 [.bool false] :: boxO g9 [.func (.func fd) #[] lb.toArray] :: boxO g8 [.pointer (some ⟨fg, 0, none⟩)] :: boxO g7 [.int .i64 N] :: boxO g6 [.slice r.A r.e.row.length r.c, .int .i64 r.e.fam, .slice r.B r.e.qual.length r.d, .int .i64 r.e.ts, .int .i64 r.e.seq, .int .i64 r.e.kind, .slice r.D r.e.val.length r.q] :: (osF ++ (boxO pg [.pointer (some ⟨tg, 0, none⟩), .slice A n c, .bool fr] :: boxO tg (tabC t fr) :: RR))) ++ entO A1 B1 D1 c1 d1 q1 ec)) ug12) := Lib.hid (hz.perm (List.perm_append_comm.trans (List.Perm.swap _ _ _)))
          replace HS := Lib.hid (HS.out.later hb)
          clear hz hb
          refine ⟨fun _ => HS.out, ?_⟩
          simp only [Act.put, List.setIfInBounds_toArray, List.set_cons_zero, List.set_cons_succ]
          refine lt_op 3 rfl (by kernel_rfl) rfl ?_
          refine wp_callL rfl ⟨_, Try.func16, by decide, by kernel_rfl⟩ [.agg #[.slice r.A r.e.row.length r.c, .int .i64 r.e.fam, .slice r.B r.e.qual.length r.d, .int .i64 r.e.ts, .int .i64 r.e.seq, .int .i64 r.e.kind, .slice r.D r.e.val.length r.q]] rfl ?_
          refine (entry8_cut r _ (HEN.out _ HS.out.up)).mono ?_
          rw [HEC.out]
          rintro e y2 ⟨A2, B2, D2, c2, d2, q2, rfl, hz⟩
          replace HY : Hid (OW w (boxO g11 [.slice none 0 0, .int .i64 0, .slice none 0 0, .int .i64 0, .int .i64 0, .int .i64 0, .slice none 0 0] :: boxO g12 [.slice none 0 0, .int .i64 0, .slice none 0 0, .int .i64 0, .int .i64 0, .int .i64 0, .slice none 0 0] :: (((boxO g10 [.bool false] :: boxO g9 [.func (.func fd) #[] lb.toArray] :: boxO g8 [.pointer (some ⟨fg, 0, none⟩)] :: boxO g7 [.int .i64 N] :: boxO g6 [.slice r.A r.e.row.length r.c, .int .i64 r.e.fam, .slice r.B r.e.qual.length r.d, .int .i64 r.e.ts, .int .i64 r.e.seq, .int .i64 r.e.kind, .slice r.D r.e.val.length r.q] :: (osF ++ (boxO pg [.pointer (some ⟨tg, 0, none⟩), .slice A n c, .bool fr] :: boxO tg (tabC t fr) :: RR))) ++ entO A1 B1 D1 c1 d1 q1 ec) ++ entO A2 B2 D2 c2 d2 q2 ec)) y2) := Lib.hid (HY.out.app hz)
          replace HS := Lib.hid (HS.out.later hz.up)
          clear hz
          refine ⟨_, rfl, ?_⟩
          refine ⟨fun _ => HS.out, ?_⟩
          simp only [Act.put, List.setIfInBounds_toArray, List.set_cons_zero, List.set_cons_succ]
          refine lt_end 6 rfl (by kernel_rfl) rfl (by kernel_rfl) ?_
          refine wpo_put rfl HY.out 0 rfl rfl [.slice A1 ec.row.length c1, .int .i64 ec.fam, .slice B1 ec.qual.length d1, .int .i64 ec.ts, .int .i64 ec.seq, .int .i64 ec.kind, .slice D1 ec.val.length q1] rfl rfl (by kernel_rfl) (by simp [Value.oneCell']) ?_
          intro v1 hz _
          replace HY : Hid (OW w (boxO g11 [.slice A1 ec.row.length c1, .int .i64 ec.fam, .slice B1 ec.qual.length d1, .int .i64 ec.ts, .int .i64 ec.seq, .int .i64 ec.kind, .slice D1 ec.val.length q1] :: boxO g12 [.slice none 0 0, .int .i64 0, .slice none 0 0, .int .i64 0, .int .i64 0, .int .i64 0, .slice none 0 0] :: (((boxO g10 [.bool false] :: boxO g9 [.func (.func fd) #[] lb.toArray] :: boxO g8 [.pointer (some ⟨fg, 0, none⟩)] :: boxO g7 [.int .i64 N] :: boxO g6 [.slice r.A r.e.row.length r.c, .int .i64 r.e.fam, .slice r.B r.e.qual.length r.d, .int .i64 r.e.ts, .int .i64 r.e.seq, .int .i64 r.e.kind, .slice r.D r.e.val.length r.q] :: (osF ++ (boxO pg [.pointer (some ⟨tg, 0, none⟩), .slice A n c, .bool fr] :: boxO tg (tabC t fr) :: RR))) ++ entO A1 B1 D1 c1 d1 q1 ec) ++ entO A2 B2 D2 c2 d2 q2 ec)) v1) := Lib.hid hz
          clear hz
          simp only [Act.put]
          refine lt_end 7 rfl (by kernel_rfl) rfl (by kernel_rfl) ?_
          refine wpo_put rfl HY.out 1 rfl rfl [.slice A2 ec.row.length c2, .int .i64 ec.fam, .slice B2 ec.qual.length d2, .int .i64 ec.ts, .int .i64 ec.seq, .int .i64 ec.kind, .slice D2 ec.val.length q2] rfl rfl (by kernel_rfl) (by simp [Value.oneCell']) ?_
          intro v2 hz _
          replace HY : Hid (OW w (boxO g11 [.slice A1 ec.row.length c1, .int .i64 ec.fam, .slice B1 ec.qual.length d1, .int .i64 ec.ts, .int .i64 ec.seq, .int .i64 ec.kind, .slice D1 ec.val.length q1] :: boxO g12 [.slice A2 ec.row.length c2, .int .i64 ec.fam, .slice B2 ec.qual.length d2, .int .i64 ec.ts, .int .i64 ec.seq, .int .i64 ec.kind, .slice D2 ec.val.length q2] :: (((boxO g10 [.bool false] :: boxO g9 [.func (.func fd) #[] lb.toArray] :: boxO g8 [.pointer (some ⟨fg, 0, none⟩)] :: boxO g7 [.int .i64 N] :: boxO g6 [.slice r.A r.e.row.length r.c, .int .i64 r.e.fam, .slice r.B r.e.qual.length r.d, .int .i64 r.e.ts, .int .i64 r.e.seq, .int .i64 r.e.kind, .slice r.D r.e.val.length r.q] :: (osF ++ (boxO pg [.pointer (some ⟨tg, 0, none⟩), .slice A n c, .bool fr] :: boxO tg (tabC t fr) :: RR))) ++ entO A1 B1 D1 c1 d1 q1 ec) ++ entO A2 B2 D2 c2 d2 q2 ec)) v2) := Lib.hid hz
          clear hz
          simp only [Act.put]
          refine lt_done (by kernel_rfl) ?_
          go_wp2_with fail
          go_meet
          exact ⟨g11, g12, A1, B1, D1, A2, B2, D2, c1, d1, q1, c2, d2, q2, rfl, rfl, HY⟩
      · refine wpo_alloc rfl [.slice none 0 0, .int .i64 0, .slice none 0 0, .int .i64 0, .int .i64 0, .int .i64 0, .slice none 0 0] (.inl (by kernel_rfl)) HY.out ?_
        intro g12 ug12 hz hb
        replace HY : Hid (OW w (boxO g11 [.slice none 0 0, .int .i64 0, .slice none 0 0, .int .i64 0, .int .i64 0, .int .i64 0, .slice none 0 0] :: boxO g12 [.slice none 0 0, .int .i64 0, .slice none 0 0, .int .i64 0, .int .i64 0, .int .i64 0, .slice none 0 0] :: (boxO g10 [.bool false] :: boxO g9 [.func (.func fd) #[] lb.toArray] :: boxO g8 [.pointer (some ⟨fg, 0, none⟩)] :: boxO g7 [.int .i64 N] :: boxO g6 [.slice r.A r.e.row.length r.c, .int .i64 r.e.fam, .slice r.B r.e.qual.length r.d, .int .i64 r.e.ts, .int .i64 r.e.seq, .int .i64 r.e.kind, .slice r.D r.e.val.length r.q] :: (osF ++ (boxO pg [.pointer (some ⟨tg, 0, none⟩), .slice A n c, .bool fr] :: boxO tg (tabC t fr) :: RR)))) ug12) := Lib.hid (hz.perm (List.perm_append_comm.trans (List.Perm.swap _ _ _)))
        replace HS := Lib.hid (HS.out.later hb)
        clear hz hb
        refine ⟨fun _ => HS.out, ?_⟩
        simp only [Act.put, List.setIfInBounds_toArray, List.set_cons_zero, List.set_cons_succ]
        refine lt_op 1 rfl (by kernel_rfl) rfl ?_
        refine wp_callL rfl ⟨_, Try.func16, by decide, by kernel_rfl⟩ [.agg #[.slice r.A r.e.row.length r.c, .int .i64 r.e.fam, .slice r.B r.e.qual.length r.d, .int .i64 r.e.ts, .int .i64 r.e.seq, .int .i64 r.e.kind, .slice r.D r.e.val.length r.q]] rfl ?_
        refine (entry8_cut r _ (HEN.out _ HS.out.up)).mono ?_
        rw [HEC.out]
        rintro e y1 ⟨A1, B1, D1, c1, d1, q1, rfl, hz⟩
        replace HY : Hid (OW w (boxO g11 [.slice none 0 0, .int .i64 0, .slice none 0 0, .int .i64 0, .int .i64 0, .int .i64 0, .slice none 0 0] :: boxO g12 [.slice none 0 0, .int .i64 0, .slice none 0 0, .int .i64 0, .int .i64 0, .int .i64 0, .slice none 0 0] :: ((boxO g10 [.bool false] :: boxO g9 [.func (.func fd) #[] lb.toArray] :: boxO g8 [.pointer (some ⟨fg, 0, none⟩)] :: boxO g7 [.int .i64 N] :: boxO g6 [.slice r.A r.e.row.length r.c, .int .i64 r.e.fam, .slice r.B r.e.qual.length r.d, .int .i64 r.e.ts, .int .i64 r.e.seq, .int .i64 r.e.kind, .slice r.D r.e.val.length r.q] :: (osF ++ (boxO pg [.pointer (some ⟨tg, 0, none⟩), .slice A n c, .bool fr] :: boxO tg (tabC t fr) :: RR))) ++ entO A1 B1 D1 c1 d1 q1 ec)) y1) := Lib.hid (HY.out.app hz)
        replace HS := Lib.hid (HS.out.later hz.up)
        clear hz
        refine ⟨_, rfl, ?_⟩
        refine ⟨fun _ => HS.out, ?_⟩
        simp only [Act.put, List.setIfInBounds_toArray, List.set_cons_zero, List.set_cons_succ]
        refine lt_op 3 rfl (by kernel_rfl) rfl ?_
        refine wp_callL rfl ⟨_, Try.func16, by decide, by kernel_rfl⟩ [.agg #[.slice r.A r.e.row.length r.c, .int .i64 r.e.fam, .slice r.B r.e.qual.length r.d, .int .i64 r.e.ts, .int .i64 r.e.seq, .int .i64 r.e.kind, .slice r.D r.e.val.length r.q]] rfl ?_
        refine (entry8_cut r _ (HEN.out _ HS.out.up)).mono ?_
        rw [HEC.out]
        rintro e y2 ⟨A2, B2, D2, c2, d2, q2, rfl, hz⟩
        replace HY : Hid (OW w (boxO g11 [.slice none 0 0, .int .i64 0, .slice none 0 0, .int .i64 0, .int .i64 0, .int .i64 0, .slice none 0 0] :: boxO g12 [.slice none 0 0, .int .i64 0, .slice none 0 0, .int .i64 0, .int .i64 0, .int .i64 0, .slice none 0 0] :: (((boxO g10 [.bool false] :: boxO g9 [.func (.func fd) #[] lb.toArray] :: boxO g8 [.pointer (some ⟨fg, 0, none⟩)] :: boxO g7 [.int .i64 N] :: boxO g6 [.slice r.A r.e.row.length r.c, .int .i64 r.e.fam, .slice r.B r.e.qual.length r.d, .int .i64 r.e.ts, .int .i64 r.e.seq, .int .i64 r.e.kind, .slice r.D r.e.val.length r.q] :: (osF ++ (boxO pg [.pointer (some ⟨tg, 0, none⟩), .slice A n c, .bool fr] :: boxO tg (tabC t fr) :: RR))) ++ entO A1 B1 D1 c1 d1 q1 ec) ++ entO A2 B2 D2 c2 d2 q2 ec)) y2) := Lib.hid (HY.out.app hz)
        replace HS := Lib.hid (HS.out.later hz.up)
        clear hz
        refine ⟨_, rfl, ?_⟩
        refine ⟨fun _ => HS.out, ?_⟩
        simp only [Act.put, List.setIfInBounds_toArray, List.set_cons_zero, List.set_cons_succ]
        refine lt_end 6 rfl (by kernel_rfl) rfl (by kernel_rfl) ?_
        refine wpo_put rfl HY.out 0 rfl rfl [.slice A1 ec.row.length c1, .int .i64 ec.fam, .slice B1 ec.qual.length d1, .int .i64 ec.ts, .int .i64 ec.seq, .int .i64 ec.kind, .slice D1 ec.val.length q1] rfl rfl (by kernel_rfl) (by simp [Value.oneCell']) ?_
        intro v1 hz _
        replace HY : Hid (OW w (boxO g11 [.slice A1 ec.row.length c1, .int .i64 ec.fam, .slice B1 ec.qual.length d1, .int .i64 ec.ts, .int .i64 ec.seq, .int .i64 ec.kind, .slice D1 ec.val.length q1] :: boxO g12 [.slice none 0 0, .int .i64 0, .slice none 0 0, .int .i64 0, .int .i64 0, .int .i64 0, .slice none 0 0] :: (((boxO g10 [.bool false] :: boxO g9 [.func (.func fd) #[] lb.toArray] :: boxO g8 [.pointer (some ⟨fg, 0, none⟩)] :: boxO g7 [.int .i64 N] :: boxO g6 [.slice r.A r.e.row.length r.c, .int .i64 r.e.fam, .slice r.B r.e.qual.length r.d, .int .i64 r.e.ts, .int .i64 r.e.seq, .int .i64 r.e.kind, .slice r.D r.e.val.length r.q] :: (osF ++ (boxO pg [.pointer (some ⟨tg, 0, none⟩), .slice A n c, .bool fr] :: boxO tg (tabC t fr) :: RR))) ++ entO A1 B1 D1 c1 d1 q1 ec) ++ entO A2 B2 D2 c2 d2 q2 ec)) v1) := Lib.hid hz
        clear hz
        simp only [Act.put]
        refine lt_end 7 rfl (by kernel_rfl) rfl (by kernel_rfl) ?_
        refine wpo_put rfl HY.out 1 rfl rfl [.slice A2 ec.row.length c2, .int .i64 ec.fam, .slice B2 ec.qual.length d2, .int .i64 ec.ts, .int .i64 ec.seq, .int .i64 ec.kind, .slice D2 ec.val.length q2] rfl rfl (by kernel_rfl) (by simp [Value.oneCell']) ?_
        intro v2 hz _
        replace HY : Hid (OW w (boxO g11 [.slice A1 ec.row.length c1, .int .i64 ec.fam, .slice B1 ec.qual.length d1, .int .i64 ec.ts, .int .i64 ec.seq, .int .i64 ec.kind, .slice D1 ec.val.length q1] :: boxO g12 [.slice A2 ec.row.length c2, .int .i64 ec.fam, .slice B2 ec.qual.length d2, .int .i64 ec.ts, .int .i64 ec.seq, .int .i64 ec.kind, .slice D2 ec.val.length q2] :: (((boxO g10 [.bool false] :: boxO g9 [.func (.func fd) #[] lb.toArray] :: boxO g8 [.pointer (some ⟨fg, 0, none⟩)] :: boxO g7 [.int .i64 N] :: boxO g6 [.slice r.A r.e.row.length r.c, .int .i64 r.e.fam, .slice r.B r.e.qual.length r.d, .int .i64 r.e.ts, .int .i64 r.e.seq, .int .i64 r.e.kind, .slice r.D r.e.val.length r.q] :: (osF ++ (boxO pg [.pointer (some ⟨tg, 0, none⟩), .slice A n c, .bool fr] :: boxO tg (tabC t fr) :: RR))) ++ entO A1 B1 D1 c1 d1 q1 ec) ++ entO A2 B2 D2 c2 d2 q2 ec)) v2) := Lib.hid hz
        clear hz
        simp only [Act.put]
        refine lt_done (by kernel_rfl) ?_
        go_wp2_with fail
        go_meet
        exact ⟨g11, g12, A1, B1, D1, A2, B2, D2, c1, d1, q1, c2, d2, q2, rfl, rfl, HY⟩
    · refine wpo_alloc rfl [.slice none 0 0, .int .i64 0, .slice none 0 0, .int .i64 0, .int .i64 0, .int .i64 0, .slice none 0 0] (.inl (by kernel_rfl)) HY.out ?_
      intro g12 ug12 hz hb
      replace HY : Hid (OW w (boxO g12 [.slice none 0 0, .int .i64 0, .slice none 0 0, .int .i64 0, .int .i64 0, .int .i64 0, .slice none 0 0] :: (boxO g10 [.bool false] :: boxO g9 [.func (.func fd) #[] lb.toArray] :: boxO g8 [.pointer (some ⟨fg, 0, none⟩)] :: boxO g7 [.int .i64 N] :: boxO g6 [.slice r.A r.e.row.length r.c, .int .i64 r.e.fam, .slice r.B r.e.qual.length r.d, .int .i64 r.e.ts, .int .i64 r.e.seq, .int .i64 r.e.kind, .slice r.D r.e.val.length r.q] :: (osF ++ (boxO pg [.pointer (some ⟨tg, 0, none⟩), .slice A n c, .bool fr] :: boxO tg (tabC t fr) :: RR)))) ug12) := Lib.hid (hz.perm (List.perm_append_comm))
      replace HS := Lib.hid (HS.out.later hb)
      clear hz hb
      refine ⟨fun _ => HS.out, ?_⟩
      simp only [Act.put, List.setIfInBounds_toArray, List.set_cons_zero, List.set_cons_succ]
      refine lt_two 1 4 rfl rfl (by kernel_rfl) rfl rfl ?_ ?_
      · refine wp_callL rfl ⟨_, Try.func16, by decide, by kernel_rfl⟩ [.agg #[.slice r.A r.e.row.length r.c, .int .i64 r.e.fam, .slice r.B r.e.qual.length r.d, .int .i64 r.e.ts, .int .i64 r.e.seq, .int .i64 r.e.kind, .slice r.D r.e.val.length r.q]] rfl ?_
        refine (entry8_cut r _ (HEN.out _ HS.out.up)).mono ?_
        rw [HEC.out]
        rintro e y1 ⟨A1, B1, D1, c1, d1, q1, rfl, hz⟩
        replace HY : Hid (OW w (boxO g12 [.slice none 0 0, .int .i64 0, .slice none 0 0, .int .i64 0, .int .i64 0, .int .i64 0, .slice none 0 0] :: ((boxO g10 [.bool false] :: boxO g9 [.func (.func fd) #[] lb.toArray] :: boxO g8 [.pointer (some ⟨fg, 0, none⟩)] :: boxO g7 [.int .i64 N] :: boxO g6 [.slice r.A r.e.row.length r.c, .int .i64 r.e.fam, .slice r.B r.e.qual.length r.d, .int .i64 r.e.ts, .int .i64 r.e.seq, .int .i64 r.e.kind, .slice r.D r.e.val.length r.q] :: (osF ++ (boxO pg [.pointer (some ⟨tg, 0, none⟩), .slice A n c, .bool fr] :: boxO tg (tabC t fr) :: RR))) ++ entO A1 B1 D1 c1 d1 q1 ec)) y1) := Lib.hid (HY.out.app hz)
        replace HS := Lib.hid (HS.out.later hz.up)
        clear hz
        refine ⟨_, rfl, ?_⟩
        refine ⟨fun _ => HS.out, ?_⟩
        simp only [Act.put, List.setIfInBounds_toArray, List.set_cons_zero, List.set_cons_succ]
        refine lt_two 3 4 rfl rfl (by kernel_rfl) rfl rfl ?_ ?_
        · refine wp_callL rfl ⟨_, Try.func16, by decide, by kernel_rfl⟩ [.agg #[.slice r.A r.e.row.length r.c, .int .i64 r.e.fam, .slice r.B r.e.qual.length r.d, .int .i64 r.e.ts, .int .i64 r.e.seq, .int .i64 r.e.kind, .slice r.D r.e.val.length r.q]] rfl ?_
          refine (entry8_cut r _ (HEN.out _ HS.out.up)).mono ?_
          rw [HEC.out]
          rintro e y2 ⟨A2, B2, D2, c2, d2, q2, rfl, hz⟩
          replace HY : Hid (OW w (boxO g12 [.slice none 0 0, .int .i64 0, .slice none 0 0, .int .i64 0, .int .i64 0, .int .i64 0, .slice none 0 0] :: (((boxO g10 [.bool false] :: boxO g9 [.func (.func fd) #[] lb.toArray] :: boxO g8 [.pointer (some ⟨fg, 0, none⟩)] :: boxO g7 [.int .i64 N] :: boxO g6 [.slice r.A r.e.row.length r.c, .int .i64 r.e.fam, .slice r.B r.e.qual.length r.d, .int .i64 r.e.ts, .int .i64 r.e.seq, .int .i64 r.e.kind, .slice r.D r.e.val.length r.q] :: (osF ++ (boxO pg [.pointer (some ⟨tg, 0, none⟩), .slice A n c, .bool fr] :: boxO tg (tabC t fr) :: RR))) ++ entO A1 B1 D1 c1 d1 q1 ec) ++ entO A2 B2 D2 c2 d2 q2 ec)) y2) := Lib.hid (HY.out.app hz)
          replace HS := Lib.hid (HS.out.later hz.up)
          clear hz
          refine ⟨_, rfl, ?_⟩
          refine ⟨fun _ => HS.out, ?_⟩
          simp only [Act.put, List.setIfInBounds_toArray, List.set_cons_zero, List.set_cons_succ]
          refine lt_op 4 rfl (by kernel_rfl) rfl ?_
          refine wpo_alloc rfl [.slice none 0 0, .int .i64 0, .slice none 0 0, .int .i64 0, .int .i64 0, .int .i64 0, .slice none 0 0] (.inl (by kernel_rfl)) HY.out ?_
          intro g11 ug11 hz hb
          replace HY : Hid (OW w (boxO g11 [.slice none 0 0, .int .i64 0, .slice none 0 0, .int .i64 0, .int .i64 0, .int .i64 0, .slice none 0 0] :: boxO g12 [.slice none 0 0, .int .i64 0, .slice none 0 0, .int .i64 0, .int .i64 0, .int .i64 0, .slice none 0 0] :: (((boxO g10 [.bool false] :: boxO g9 [.func (.func fd) #[] lb.toArray] :: boxO g8 [.pointer (some ⟨fg, 0, none⟩)] :: boxO g7 [.int .i64 N] :: boxO g6 [.slice r.A r.e.row.length r.c, .int .i64 r.e.fam, .slice r.B r.e.qual.length r.d, .int .i64 r.e.ts, .int .i64 r.e.seq, .int .i64 r.e.kind, .slice r.D r.e.val.length r.q] :: (osF ++ (boxO pg [.pointer (some ⟨tg, 0, none⟩), .slice A n c, .bool fr] :: boxO tg (tabC t fr) :: RR))) ++ entO A1 B1 D1 c1 d1 q1 ec) ++ entO A2 B2 D2 c2 d2 q2 ec)) ug11) := Lib.hid (hz.perm (List.perm_append_comm))
          replace HS := Lib.hid (HS.out.later hb)
          clear hz hb
          refine ⟨fun _ => HS.out, ?_⟩
          simp only [Act.put, List.setIfInBounds_toArray, List.set_cons_zero, List.set_cons_succ]
          refine lt_end 6 rfl (by kernel_rfl) rfl (by kernel_rfl) ?_
          refine wpo_put rfl HY.out 0 rfl rfl [.slice A1 ec.row.length c1, .int .i64 ec.fam, .slice B1 ec.qual.length d1, .int .i64 ec.ts, .int .i64 ec.seq, .int .i64 ec.kind, .slice D1 ec.val.length q1] rfl rfl (by kernel_rfl) (by simp [Value.oneCell']) ?_
          intro v1 hz _
          replace HY : Hid (OW w (boxO g11 [.slice A1 ec.row.length c1, .int .i64 ec.fam, .slice B1 ec.qual.length d1, .int .i64 ec.ts, .int .i64 ec.seq, .int .i64 ec.kind, .slice D1 ec.val.length q1] :: boxO g12 [.slice none 0 0, .int .i64 0, .slice none 0 0, .int .i64 0, .int .i64 0, .int .i64 0, .slice none 0 0] :: (((boxO g10 [.bool false] :: boxO g9 [.func (.func fd) #[] lb.toArray] :: boxO g8 [.pointer (some ⟨fg, 0, none⟩)] :: boxO g7 [.int .i64 N] :: boxO g6 [.slice r.A r.e.row.length r.c, .int .i64 r.e.fam, .slice r.B r.e.qual.length r.d, .int .i64 r.e.ts, .int .i64 r.e.seq, .int .i64 r.e.kind, .slice r.D r.e.val.length r.q] :: (osF ++ (boxO pg [.pointer (some ⟨tg, 0, none⟩), .slice A n c, .bool fr] :: boxO tg (tabC t fr) :: RR))) ++ entO A1 B1 D1 c1 d1 q1 ec) ++ entO A2 B2 D2 c2 d2 q2 ec)) v1) := Lib.hid hz
          clear hz
          simp only [Act.put]
          refine lt_end 7 rfl (by kernel_rfl) rfl (by kernel_rfl) ?_
          refine wpo_put rfl HY.out 1 rfl rfl [.slice A2 ec.row.length c2, .int .i64 ec.fam, .slice B2 ec.qual.length d2, .int .i64 ec.ts, .int .i64 ec.seq, .int .i64 ec.kind, .slice D2 ec.val.length q2] rfl rfl (by kernel_rfl) (by simp [Value.oneCell']) ?_
          intro v2 hz _
          replace HY : Hid (OW w (boxO g11 [.slice A1 ec.row.length c1, .int .i64 ec.fam, .slice B1 ec.qual.length d1, .int .i64 ec.ts, .int .i64 ec.seq, .int .i64 ec.kind, .slice D1 ec.val.length q1] :: boxO g12 [.slice A2 ec.row.length c2, .int .i64 ec.fam, .slice B2 ec.qual.length d2, .int .i64 ec.ts, .int .i64 ec.seq, .int .i64 ec.kind, .slice D2 ec.val.length q2] :: (((boxO g10 [.bool false] :: boxO g9 [.func (.func fd) #[] lb.toArray] :: boxO g8 [.pointer (some ⟨fg, 0, none⟩)] :: boxO g7 [.int .i64 N] :: boxO g6 [.slice r.A r.e.row.length r.c, .int .i64 r.e.fam, .slice r.B r.e.qual.length r.d, .int .i64 r.e.ts, .int .i64 r.e.seq, .int .i64 r.e.kind, .slice r.D r.e.val.length r.q] :: (osF ++ (boxO pg [.pointer (some ⟨tg, 0, none⟩), .slice A n c, .bool fr] :: boxO tg (tabC t fr) :: RR))) ++ entO A1 B1 D1 c1 d1 q1 ec) ++ entO A2 B2 D2 c2 d2 q2 ec)) v2) := Lib.hid hz
          clear hz
          simp only [Act.put]
          refine lt_done (by kernel_rfl) ?_
          go_wp2_with fail
          go_meet
          exact ⟨g11, g12, A1, B1, D1, A2, B2, D2, c1, d1, q1, c2, d2, q2, rfl, rfl, HY⟩
        · refine wpo_alloc rfl [.slice none 0 0, .int .i64 0, .slice none 0 0, .int .i64 0, .int .i64 0, .int .i64 0, .slice none 0 0] (.inl (by kernel_rfl)) HY.out ?_
          intro g11 ug11 hz hb
          replace HY : Hid (OW w (boxO g11 [.slice none 0 0, .int .i64 0, .slice none 0 0, .int .i64 0, .int .i64 0, .int .i64 0, .slice none 0 0] :: boxO g12 [.slice none 0 0, .int .i64 0, .slice none 0 0, .int .i64 0, .int .i64 0, .int .i64 0, .slice none 0 0] :: ((boxO g10 [.bool false] :: boxO g9 [.func (.func fd) #[] lb.toArray] :: boxO g8 [.pointer (some ⟨fg, 0, none⟩)] :: boxO g7 [.int .i64 N] :: boxO g6 [.slice r.A r.e.row.length r.c, .int .i64 r.e.fam, .slice r.B r.e.qual.length r.d, .int .i64 r.e.ts, .int .i64 r.e.seq, .int .i64 r.e.kind, .slice r.D r.e.val.length r.q] :: (osF ++ (boxO pg [.pointer (some ⟨tg, 0, none⟩), .slice A n c, .bool fr] :: boxO tg (tabC t fr) :: RR))) ++ entO A1 B1 D1 c1 d1 q1 ec)) ug11) := Lib.hid (hz.perm (List.perm_append_comm))
          replace HS := Lib.hid (HS.out.later hb)
          clear hz hb
          refine ⟨fun _ => HS.out, ?_⟩
          simp only [Act.put, List.setIfInBounds_toArray, List.set_cons_zero, List.set_cons_succ]
          refine lt_op 3 rfl (by kernel_rfl) rfl ?_
          refine wp_callL rfl ⟨_, Try.func16, by decide, by kernel_rfl⟩ [.agg #[.slice r.A r.e.row.length r.c, .int .i64 r.e.fam, .slice r.B r.e.qual.length r.d, .int .i64 r.e.ts, .int .i64 r.e.seq, .int .i64 r.e.kind, .slice r.D r.e.val.length r.q]] rfl ?_
          refine (entry8_cut r _ (HEN.out _ HS.out.up)).mono ?_
          rw [HEC.out]
          rintro e y2 ⟨A2, B2, D2, c2, d2, q2, rfl, hz⟩
          replace HY : Hid (OW w (boxO g11 [.slice none 0 0, .int .i64 0, .slice none 0 0, .int .i64 0, .int .i64 0, .int .i64 0, .slice none 0 0] :: boxO g12 [.slice none 0 0, .int .i64 0, .slice none 0 0, .int .i64 0, .int .i64 0, .int .i64 0, .slice none 0 0] :: (((boxO g10 [.bool false] :: boxO g9 [.func (.func fd) #[] lb.toArray] :: boxO g8 [.pointer (some ⟨fg, 0, none⟩)] :: boxO g7 [.int .i64 N] :: boxO g6 [.slice r.A r.e.row.length r.c, .int .i64 r.e.fam, .slice r.B r.e.qual.length r.d, .int .i64 r.e.ts, .int .i64 r.e.seq, .int .i64 r.e.kind, .slice r.D r.e.val.length r.q] :: (osF ++ (boxO pg [.pointer (some ⟨tg, 0, none⟩), .slice A n c, .bool fr] :: boxO tg (tabC t fr) :: RR))) ++ entO A1 B1 D1 c1 d1 q1 ec) ++ entO A2 B2 D2 c2 d2 q2 ec)) y2) := Lib.hid (HY.out.app hz)
          replace HS := Lib.hid (HS.out.later hz.up)
          clear hz
          refine ⟨_, rfl, ?_⟩
          refine ⟨fun _ => HS.out, ?_⟩
          simp only [Act.put, List.setIfInBounds_toArray, List.set_cons_zero, List.set_cons_succ]
          refine lt_end 6 rfl (by kernel_rfl) rfl (by kernel_rfl) ?_
          refine wpo_put rfl HY.out 0 rfl rfl [.slice A1 ec.row.length c1, .int .i64 ec.fam, .slice B1 ec.qual.length d1, .int .i64 ec.ts, .int .i64 ec.seq, .int .i64 ec.kind, .slice D1 ec.val.length q1] rfl rfl (by kernel_rfl) (by simp [Value.oneCell']) ?_
          intro v1 hz _
          replace HY : Hid (OW w (boxO g11 [.slice A1 ec.row.length c1, .int .i64 ec.fam, .slice B1 ec.qual.length d1, .int .i64 ec.ts, .int .i64 ec.seq, .int .i64 ec.kind, .slice D1 ec.val.length q1] :: boxO g12 [.slice none 0 0, .int .i64 0, .slice none 0 0, .int .i64 0, .int .i64 0, .int .i64 0, .slice none 0 0] :: (((boxO g10 [.bool false] :: boxO g9 [.func (.func fd) #[] lb.toArray] :: boxO g8 [.pointer (some ⟨fg, 0, none⟩)] :: boxO g7 [.int .i64 N] :: boxO g6 [.slice r.A r.e.row.length r.c, .int .i64 r.e.fam, .slice r.B r.e.qual.length r.d, .int .i64 r.e.ts, .int .i64 r.e.seq, .int .i64 r.e.kind, .slice r.D r.e.val.length r.q] :: (osF ++ (boxO pg [.pointer (some ⟨tg, 0, none⟩), .slice A n c, .bool fr] :: boxO tg (tabC t fr) :: RR))) ++ entO A1 B1 D1 c1 d1 q1 ec) ++ entO A2 B2 D2 c2 d2 q2 ec)) v1) := Lib.hid hz
          clear hz
          simp only [Act.put]
          refine lt_end 7 rfl (by kernel_rfl) rfl (by kernel_rfl) ?_
          refine wpo_put rfl HY.out 1 rfl rfl [.slice A2 ec.row.length c2, .int .i64 ec.fam, .slice B2 ec.qual.length d2, .int .i64 ec.ts, .int .i64 ec.seq, .int .i64 ec.kind, .slice D2 ec.val.length q2] rfl rfl (by kernel_rfl) (by simp [Value.oneCell']) ?_
          intro v2 hz _
          replace HY : Hid (OW w (boxO g11 [.slice A1 ec.row.length c1, .int .i64 ec.fam, .slice B1 ec.qual.length d1, .int .i64 ec.ts, .int .i64 ec.seq, .int .i64 ec.kind, .slice D1 ec.val.length q1] :: boxO g12 [.slice A2 ec.row.length c2, .int .i64 ec.fam, .slice B2 ec.qual.length d2, .int .i64 ec.ts, .int .i64 ec.seq, .int .i64 ec.kind, .slice D2 ec.val.length q2] :: (((boxO g10 [.bool false] :: boxO g9 [.func (.func fd) #[] lb.toArray] :: boxO g8 [.pointer (some ⟨fg, 0, none⟩)] :: boxO g7 [.int .i64 N] :: boxO g6 [.slice r.A r.e.row.length r.c, .int .i64 r.e.fam, .slice r.B r.e.qual.length r.d, .int .i64 r.e.ts, .int .i64 r.e.seq, .int .i64 r.e.kind, .slice r.D r.e.val.length r.q] :: (osF ++ (boxO pg [.pointer (some ⟨tg, 0, none⟩), .slice A n c, .bool fr] :: boxO tg (tabC t fr) :: RR))) ++ entO A1 B1 D1 c1 d1 q1 ec) ++ entO A2 B2 D2 c2 d2 q2 ec)) v2) := Lib.hid hz
          clear hz
          simp only [Act.put]
          refine lt_done (by kernel_rfl) ?_
          go_wp2_with fail
          go_meet
          exact ⟨g11, g12, A1, B1, D1, A2, B2, D2, c1, d1, q1, c2, d2, q2, rfl, rfl, HY⟩
      · refine wpo_alloc rfl [.slice none 0 0, .int .i64 0, .slice none 0 0, .int .i64 0, .int .i64 0, .int .i64 0, .slice none 0 0] (.inl (by kernel_rfl)) HY.out ?_
        intro g11 ug11 hz hb
        replace HY : Hid (OW w (boxO g11 [.slice none 0 0, .int .i64 0, .slice none 0 0, .int .i64 0, .int .i64 0, .int .i64 0, .slice none 0 0] :: boxO g12 [.slice none 0 0, .int .i64 0, .slice none 0 0, .int .i64 0, .int .i64 0, .int .i64 0, .slice none 0 0] :: (boxO g10 [.bool false] :: boxO g9 [.func (.func fd) #[] lb.toArray] :: boxO g8 [.pointer (some ⟨fg, 0, none⟩)] :: boxO g7 [.int .i64 N] :: boxO g6 [.slice r.A r.e.row.length r.c, .int .i64 r.e.fam, .slice r.B r.e.qual.length r.d, .int .i64 r.e.ts, .int .i64 r.e.seq, .int .i64 r.e.kind, .slice r.D r.e.val.length r.q] :: (osF ++ (boxO pg [.pointer (some ⟨tg, 0, none⟩), .slice A n c, .bool fr] :: boxO tg (tabC t fr) :: RR)))) ug11) := Lib.hid (hz.perm (List.perm_append_comm))
        replace HS := Lib.hid (HS.out.later hb)
        clear hz hb
        refine ⟨fun _ => HS.out, ?_⟩
        simp only [Act.put, List.setIfInBounds_toArray, List.set_cons_zero, List.set_cons_succ]
        refine lt_op 1 rfl (by kernel_rfl) rfl ?_
        refine wp_callL rfl ⟨_, Try.func16, by decide, by kernel_rfl⟩ [.agg #[.slice r.A r.e.row.length r.c, .int .i64 r.e.fam, .slice r.B r.e.qual.length r.d, .int .i64 r.e.ts, .int .i64 r.e.seq, .int .i64 r.e.kind, .slice r.D r.e.val.length r.q]] rfl ?_
        refine (entry8_cut r _ (HEN.out _ HS.out.up)).mono ?_
        rw [HEC.out]
        rintro e y1 ⟨A1, B1, D1, c1, d1, q1, rfl, hz⟩
        replace HY : Hid (OW w (boxO g11 [.slice none 0 0, .int .i64 0, .slice none 0 0, .int .i64 0, .int .i64 0, .int .i64 0, .slice none 0 0] :: boxO g12 [.slice none 0 0, .int .i64 0, .slice none 0 0, .int .i64 0, .int .i64 0, .int .i64 0, .slice none 0 0] :: ((boxO g10 [.bool false] :: boxO g9 [.func (.func fd) #[] lb.toArray] :: boxO g8 [.pointer (some ⟨fg, 0, none⟩)] :: boxO g7 [.int .i64 N] :: boxO g6 [.slice r.A r.e.row.length r.c, .int .i64 r.e.fam, .slice r.B r.e.qual.length r.d, .int .i64 r.e.ts, .int .i64 r.e.seq, .int .i64 r.e.kind, .slice r.D r.e.val.length r.q] :: (osF ++ (boxO pg [.pointer (some ⟨tg, 0, none⟩), .slice A n c, .bool fr] :: boxO tg (tabC t fr) :: RR))) ++ entO A1 B1 D1 c1 d1 q1 ec)) y1) := Lib.hid (HY.out.app hz)
        replace HS := Lib.hid (HS.out.later hz.up)
        clear hz
        refine ⟨_, rfl, ?_⟩
        refine ⟨fun _ => HS.out, ?_⟩
        simp only [Act.put, List.setIfInBounds_toArray, List.set_cons_zero, List.set_cons_succ]
        refine lt_op 3 rfl (by kernel_rfl) rfl ?_
        refine wp_callL rfl ⟨_, Try.func16, by decide, by kernel_rfl⟩ [.agg #[.slice r.A r.e.row.length r.c, .int .i64 r.e.fam, .slice r.B r.e.qual.length r.d, .int .i64 r.e.ts, .int .i64 r.e.seq, .int .i64 r.e.kind, .slice r.D r.e.val.length r.q]] rfl ?_
        refine (entry8_cut r _ (HEN.out _ HS.out.up)).mono ?_
        rw [HEC.out]
        rintro e y2 ⟨A2, B2, D2, c2, d2, q2, rfl, hz⟩
        replace HY : Hid (OW w (boxO g11 [.slice none 0 0, .int .i64 0, .slice none 0 0, .int .i64 0, .int .i64 0, .int .i64 0, .slice none 0 0] :: boxO g12 [.slice none 0 0, .int .i64 0, .slice none 0 0, .int .i64 0, .int .i64 0, .int .i64 0, .slice none 0 0] :: (((boxO g10 [.bool false] :: boxO g9 [.func (.func fd) #[] lb.toArray] :: boxO g8 [.pointer (some ⟨fg, 0, none⟩)] :: boxO g7 [.int .i64 N] :: boxO g6 [.slice r.A r.e.row.length r.c, .int .i64 r.e.fam, .slice r.B r.e.qual.length r.d, .int .i64 r.e.ts, .int .i64 r.e.seq, .int .i64 r.e.kind, .slice r.D r.e.val.length r.q] :: (osF ++ (boxO pg [.pointer (some ⟨tg, 0, none⟩), .slice A n c, .bool fr] :: boxO tg (tabC t fr) :: RR))) ++ entO A1 B1 D1 c1 d1 q1 ec) ++ entO A2 B2 D2 c2 d2 q2 ec)) y2) := Lib.hid (HY.out.app hz)
        replace HS := Lib.hid (HS.out.later hz.up)
        clear hz
        refine ⟨_, rfl, ?_⟩
        refine ⟨fun _ => HS.out, ?_⟩
        simp only [Act.put, List.setIfInBounds_toArray, List.set_cons_zero, List.set_cons_succ]
        refine lt_end 6 rfl (by kernel_rfl) rfl (by kernel_rfl) ?_
        refine wpo_put rfl HY.out 0 rfl rfl [.slice A1 ec.row.length c1, .int .i64 ec.fam, .slice B1 ec.qual.length d1, .int .i64 ec.ts, .int .i64 ec.seq, .int .i64 ec.kind, .slice D1 ec.val.length q1] rfl rfl (by kernel_rfl) (by simp [Value.oneCell']) ?_
        intro v1 hz _
        replace HY : Hid (OW w (boxO g11 [.slice A1 ec.row.length c1, .int .i64 ec.fam, .slice B1 ec.qual.length d1, .int .i64 ec.ts, .int .i64 ec.seq, .int .i64 ec.kind, .slice D1 ec.val.length q1] :: boxO g12 [.slice none 0 0, .int .i64 0, .slice none 0 0, .int .i64 0, .int .i64 0, .int .i64 0, .slice none 0 0] :: (((boxO g10 [.bool false] :: boxO g9 [.func (.func fd) #[] lb.toArray] :: boxO g8 [.pointer (some ⟨fg, 0, none⟩)] :: boxO g7 [.int .i64 N] :: boxO g6 [.slice r.A r.e.row.length r.c, .int .i64 r.e.fam, .slice r.B r.e.qual.length r.d, .int .i64 r.e.ts, .int .i64 r.e.seq, .int .i64 r.e.kind, .slice r.D r.e.val.length r.q] :: (osF ++ (boxO pg [.pointer (some ⟨tg, 0, none⟩), .slice A n c, .bool fr] :: boxO tg (tabC t fr) :: RR))) ++ entO A1 B1 D1 c1 d1 q1 ec) ++ entO A2 B2 D2 c2 d2 q2 ec)) v1) := Lib.hid hz
        clear hz
        simp only [Act.put]
        refine lt_end 7 rfl (by kernel_rfl) rfl (by kernel_rfl) ?_
        refine wpo_put rfl HY.out 1 rfl rfl [.slice A2 ec.row.length c2, .int .i64 ec.fam, .slice B2 ec.qual.length d2, .int .i64 ec.ts, .int .i64 ec.seq, .int .i64 ec.kind, .slice D2 ec.val.length q2] rfl rfl (by kernel_rfl) (by simp [Value.oneCell']) ?_
        intro v2 hz _
        replace HY : Hid (OW w (boxO g11 [.slice A1 ec.row.length c1, .int .i64 ec.fam, .slice B1 ec.qual.length d1, .int .i64 ec.ts, .int .i64 ec.seq, .int .i64 ec.kind, .slice D1 ec.val.length q1] :: boxO g12 [.slice A2 ec.row.length c2, .int .i64 ec.fam, .slice B2 ec.qual.length d2, .int .i64 ec.ts, .int .i64 ec.seq, .int .i64 ec.kind, .slice D2 ec.val.length q2] :: (((boxO g10 [.bool false] :: boxO g9 [.func (.func fd) #[] lb.toArray] :: boxO g8 [.pointer (some ⟨fg, 0, none⟩)] :: boxO g7 [.int .i64 N] :: boxO g6 [.slice r.A r.e.row.length r.c, .int .i64 r.e.fam, .slice r.B r.e.qual.length r.d, .int .i64 r.e.ts, .int .i64 r.e.seq, .int .i64 r.e.kind, .slice r.D r.e.val.length r.q] :: (osF ++ (boxO pg [.pointer (some ⟨tg, 0, none⟩), .slice A n c, .bool fr] :: boxO tg (tabC t fr) :: RR))) ++ entO A1 B1 D1 c1 d1 q1 ec) ++ entO A2 B2 D2 c2 d2 q2 ec)) v2) := Lib.hid hz
        clear hz
        simp only [Act.put]
        refine lt_done (by kernel_rfl) ?_
        go_wp2_with fail
        go_meet
        exact ⟨g11, g12, A1, B1, D1, A2, B2, D2, c1, d1, q1, c2, d2, q2, rfl, rfl, HY⟩
  clear HX
  obtain ⟨g11, g12, A1, B1, D1, A2, B2, D2, c1, d1, q1, c2, d2, q2, rfl, rfl, HX⟩ := hcut
  go_upto_region 2 with fail
  go_cut [13] from 16 to 77 (fun pv wx => ∃ (g13 : Nat) (Aw : Option Addr) (nw cw : Nat), pv = .pointer (some ⟨g13, 0, none⟩) ∧ Hid (LIn ms Aw nw (fromE t.ents ec)) ∧ Hid (OW w (boxO g13 [.slice Aw nw cw] :: boxO g11 [.slice A1 ec.row.length c1, .int .i64 ec.fam, .slice B1 ec.qual.length d1, .int .i64 ec.ts, .int .i64 ec.seq, .int .i64 ec.kind, .slice D1 ec.val.length q1] :: boxO g12 [.slice A2 ec.row.length c2, .int .i64 ec.fam, .slice B2 ec.qual.length d2, .int .i64 ec.ts, .int .i64 ec.seq, .int .i64 ec.kind, .slice D2 ec.val.length q2] :: (((boxO g10 [.bool false] :: boxO g9 [.func (.func fd) #[] lb.toArray] :: boxO g8 [.pointer (some ⟨fg, 0, none⟩)] :: boxO g7 [.int .i64 N] :: boxO g6 [.slice r.A r.e.row.length r.c, .int .i64 r.e.fam, .slice r.B r.e.qual.length r.d, .int .i64 r.e.ts, .int .i64 r.e.seq, .int .i64 r.e.kind, .slice r.D r.e.val.length r.q] :: (osF ++ (boxO pg [.pointer (some ⟨tg, 0, none⟩), .slice A n c, .bool fr] :: boxO tg (tabC t fr) :: RR))) ++ entO A1 B1 D1 c1 d1 q1 ec) ++ entO A2 B2 D2 c2 d2 q2 ec)) wx))
  case first =>
    refine lt_start [7] (by kernel_rfl) ?_
    intro xd hd
    refine ⟨fun z => OW w (boxO g11 [.slice A1 ec.row.length c1, .int .i64 ec.fam, .slice B1 ec.qual.length d1, .int .i64 ec.ts, .int .i64 ec.seq, .int .i64 ec.kind, .slice D1 ec.val.length q1] :: boxO g12 [.slice A2 ec.row.length c2, .int .i64 ec.fam, .slice B2 ec.qual.length d2, .int .i64 ec.ts, .int .i64 ec.seq, .int .i64 ec.kind, .slice D2 ec.val.length q2] :: (((boxO g10 [.bool false] :: boxO g9 [.func (.func fd) #[] lb.toArray] :: boxO g8 [.pointer (some ⟨fg, 0, none⟩)] :: boxO g7 [.int .i64 N] :: boxO g6 [.slice r.A r.e.row.length r.c, .int .i64 r.e.fam, .slice r.B r.e.qual.length r.d, .int .i64 r.e.ts, .int .i64 r.e.seq, .int .i64 r.e.kind, .slice r.D r.e.val.length r.q] :: (osF ++ (boxO pg [.pointer (some ⟨tg, 0, none⟩), .slice A n c, .bool fr] :: boxO tg (tabC t fr) :: RR))) ++ entO A1 B1 D1 c1 d1 q1 ec) ++ entO A2 B2 D2 c2 d2 q2 ec)) z, ?_⟩
    have HS := Lib.hid (HX.out.later hd)
    have HY := HS
    refine lt_pure 0 rfl (by kernel_rfl) (by kernel_rfl) (by kernel_rfl) (by kernel_rfl) (fun _ _ _ h => h) (v := ?_) (yi_run rfl (fun w => ?_)) (fun _ => HS.out) ?_
    rotate_left
    · first | (go_simp; done) | (go_simp; with_reducible rfl)
    simp only [Act.put, List.setIfInBounds_toArray, List.set_cons_zero, List.set_cons_succ]
    refine lt_pure 1 rfl (by kernel_rfl) (by kernel_rfl) (by kernel_rfl) (by kernel_rfl) (fun _ _ _ h => h) (v := ?_) (yi_run rfl (fun w => ?_)) (fun _ => HS.out) ?_
    rotate_left
    · first | (go_simp; done) | (go_simp; with_reducible rfl)
    simp only [Act.put, List.setIfInBounds_toArray, List.set_cons_zero, List.set_cons_succ]
    refine lt_pure 2 rfl (by kernel_rfl) (by kernel_rfl) (by kernel_rfl) (by kernel_rfl) (fun _ _ _ h => h) (v := ?_) (yi_run rfl (fun w => ?_)) (fun _ => HS.out) ?_
    rotate_left
    · first | (go_simp; done) | (go_simp; with_reducible rfl)
    simp only [Act.put, List.setIfInBounds_toArray, List.set_cons_zero, List.set_cons_succ]
    refine lt_take 3 [5, 7] rfl (by kernel_rfl) (by kernel_rfl) (by kernel_rfl) (by kernel_rfl) (by kernel_rfl) (fun _ _ _ h => h) (yi_rowO rfl rfl rfl (fun w hS => pb_range hS (.tail _ (.tail _ (List.mem_append_left _ (List.mem_append_left _ (.tail _ (.tail _ (.tail _ (.tail _ (.tail _ (List.mem_append_right _ (.head _)))))))))))) tabR_row) HS.out ?_
    simp only [Act.put, List.setIfInBounds_toArray, List.set_cons_zero, List.set_cons_succ]
    refine lt_take 4 [5, 7] rfl (by kernel_rfl) (by kernel_rfl) (by kernel_rfl) (by kernel_rfl) (by kernel_rfl) (fun _ _ _ h => h) (yi_row rfl rfl rfl (fun w hS => OW.range hS (i := 1) rfl) ent_row8) HS.out ?_
    simp only [Act.put, List.setIfInBounds_toArray, List.set_cons_zero, List.set_cons_succ]
    refine lt_two 5 6 rfl rfl (by kernel_rfl) rfl rfl ?_ ?_
    · refine wp_callL rfl ⟨_, Try.func18, by decide, by kernel_rfl⟩ [.agg #[.slice A n c, .bool fr], .agg #[.slice A2 ec.row.length c2, .int .i64 ec.fam, .slice B2 ec.qual.length d2, .int .i64 ec.ts, .int .i64 ec.seq, .int .i64 ec.kind, .slice D2 ec.val.length q2]] rfl ?_
      refine (rfrom8_ms (ms := ms) HY.out (fun o ho => .tail _ (.tail _ (List.mem_append_left _ (List.mem_append_left _ (.tail _ (.tail _ (.tail _ (.tail _ (.tail _ (List.mem_append_right _ (.tail _ (.tail _ (HMS.out o ho))))))))))))) HRT.out (by omega) (⟨A2, c2, B2, d2, D2, q2, ec⟩ : ER) (fun z hz => (entO_ein fun o ho => .tail _ (.tail _ (List.mem_append_right _ ho))).en hz)).mono ?_
      rintro e y3 ⟨Aw, nw, cw, rfl, hz, hlin⟩
      have HLW0 : Hid (LIn ms Aw nw (fromE t.ents ec)) := Lib.hid hlin
      replace HY : Hid (OW w (boxO g11 [.slice A1 ec.row.length c1, .int .i64 ec.fam, .slice B1 ec.qual.length d1, .int .i64 ec.ts, .int .i64 ec.seq, .int .i64 ec.kind, .slice D1 ec.val.length q1] :: boxO g12 [.slice A2 ec.row.length c2, .int .i64 ec.fam, .slice B2 ec.qual.length d2, .int .i64 ec.ts, .int .i64 ec.seq, .int .i64 ec.kind, .slice D2 ec.val.length q2] :: (((boxO g10 [.bool false] :: boxO g9 [.func (.func fd) #[] lb.toArray] :: boxO g8 [.pointer (some ⟨fg, 0, none⟩)] :: boxO g7 [.int .i64 N] :: boxO g6 [.slice r.A r.e.row.length r.c, .int .i64 r.e.fam, .slice r.B r.e.qual.length r.d, .int .i64 r.e.ts, .int .i64 r.e.seq, .int .i64 r.e.kind, .slice r.D r.e.val.length r.q] :: (osF ++ (boxO pg [.pointer (some ⟨tg, 0, none⟩), .slice A n c, .bool fr] :: boxO tg (tabC t fr) :: RR))) ++ entO A1 B1 D1 c1 d1 q1 ec) ++ entO A2 B2 D2 c2 d2 q2 ec)) y3) := Lib.hid hz
      replace HS : Hid (OW w (boxO g11 [.slice A1 ec.row.length c1, .int .i64 ec.fam, .slice B1 ec.qual.length d1, .int .i64 ec.ts, .int .i64 ec.seq, .int .i64 ec.kind, .slice D1 ec.val.length q1] :: boxO g12 [.slice A2 ec.row.length c2, .int .i64 ec.fam, .slice B2 ec.qual.length d2, .int .i64 ec.ts, .int .i64 ec.seq, .int .i64 ec.kind, .slice D2 ec.val.length q2] :: (((boxO g10 [.bool false] :: boxO g9 [.func (.func fd) #[] lb.toArray] :: boxO g8 [.pointer (some ⟨fg, 0, none⟩)] :: boxO g7 [.int .i64 N] :: boxO g6 [.slice r.A r.e.row.length r.c, .int .i64 r.e.fam, .slice r.B r.e.qual.length r.d, .int .i64 r.e.ts, .int .i64 r.e.seq, .int .i64 r.e.kind, .slice r.D r.e.val.length r.q] :: (osF ++ (boxO pg [.pointer (some ⟨tg, 0, none⟩), .slice A n c, .bool fr] :: boxO tg (tabC t fr) :: RR))) ++ entO A1 B1 D1 c1 d1 q1 ec) ++ entO A2 B2 D2 c2 d2 q2 ec)) y3) := Lib.hid (hz)
      clear hz hlin
      refine ⟨_, rfl, ?_⟩
      refine ⟨fun _ => HS.out, ?_⟩
      simp only [Act.put, List.setIfInBounds_toArray, List.set_cons_zero, List.set_cons_succ]
      refine lt_op 6 rfl (by kernel_rfl) rfl ?_
      refine wpo_alloc rfl [.slice none 0 0] (.inr ⟨.slice none 0 0, by kernel_rfl, rfl⟩) HY.out ?_
      intro g13 u13 hz hb
      replace HY : Hid (OW w (boxO g13 [.slice none 0 0] :: boxO g11 [.slice A1 ec.row.length c1, .int .i64 ec.fam, .slice B1 ec.qual.length d1, .int .i64 ec.ts, .int .i64 ec.seq, .int .i64 ec.kind, .slice D1 ec.val.length q1] :: boxO g12 [.slice A2 ec.row.length c2, .int .i64 ec.fam, .slice B2 ec.qual.length d2, .int .i64 ec.ts, .int .i64 ec.seq, .int .i64 ec.kind, .slice D2 ec.val.length q2] :: (((boxO g10 [.bool false] :: boxO g9 [.func (.func fd) #[] lb.toArray] :: boxO g8 [.pointer (some ⟨fg, 0, none⟩)] :: boxO g7 [.int .i64 N] :: boxO g6 [.slice r.A r.e.row.length r.c, .int .i64 r.e.fam, .slice r.B r.e.qual.length r.d, .int .i64 r.e.ts, .int .i64 r.e.seq, .int .i64 r.e.kind, .slice r.D r.e.val.length r.q] :: (osF ++ (boxO pg [.pointer (some ⟨tg, 0, none⟩), .slice A n c, .bool fr] :: boxO tg (tabC t fr) :: RR))) ++ entO A1 B1 D1 c1 d1 q1 ec) ++ entO A2 B2 D2 c2 d2 q2 ec)) u13) := Lib.hid (hz.perm List.perm_append_comm)
      replace HS := Lib.hid (HS.out.later hb)
      clear hz hb
      refine ⟨fun _ => HS.out, ?_⟩
      simp only [Act.put, List.setIfInBounds_toArray, List.set_cons_zero, List.set_cons_succ]
      refine lt_end 7 rfl (by kernel_rfl) rfl (by kernel_rfl) ?_
      refine wpo_put1 rfl HY.out 0 rfl 0 rfl (by show 0 < 1; decide) (.slice Aw nw cw) rfl (by kernel_rfl) rfl ?_
      intro u14 hz _
      replace HY : Hid (OW w (boxO g13 [.slice Aw nw cw] :: boxO g11 [.slice A1 ec.row.length c1, .int .i64 ec.fam, .slice B1 ec.qual.length d1, .int .i64 ec.ts, .int .i64 ec.seq, .int .i64 ec.kind, .slice D1 ec.val.length q1] :: boxO g12 [.slice A2 ec.row.length c2, .int .i64 ec.fam, .slice B2 ec.qual.length d2, .int .i64 ec.ts, .int .i64 ec.seq, .int .i64 ec.kind, .slice D2 ec.val.length q2] :: (((boxO g10 [.bool false] :: boxO g9 [.func (.func fd) #[] lb.toArray] :: boxO g8 [.pointer (some ⟨fg, 0, none⟩)] :: boxO g7 [.int .i64 N] :: boxO g6 [.slice r.A r.e.row.length r.c, .int .i64 r.e.fam, .slice r.B r.e.qual.length r.d, .int .i64 r.e.ts, .int .i64 r.e.seq, .int .i64 r.e.kind, .slice r.D r.e.val.length r.q] :: (osF ++ (boxO pg [.pointer (some ⟨tg, 0, none⟩), .slice A n c, .bool fr] :: boxO tg (tabC t fr) :: RR))) ++ entO A1 B1 D1 c1 d1 q1 ec) ++ entO A2 B2 D2 c2 d2 q2 ec)) u14) := Lib.hid hz
      clear hz
      simp only [Act.put]
      refine lt_done (by kernel_rfl) ?_
      go_wp2_with fail
      go_meet
      exact ⟨g13, Aw, nw, cw, rfl, HLW0, HY⟩
    · refine wpo_alloc rfl [.slice none 0 0] (.inr ⟨.slice none 0 0, by kernel_rfl, rfl⟩) HY.out ?_
      intro g13 u13 hz hb
      replace HY : Hid (OW w (boxO g13 [.slice none 0 0] :: boxO g11 [.slice A1 ec.row.length c1, .int .i64 ec.fam, .slice B1 ec.qual.length d1, .int .i64 ec.ts, .int .i64 ec.seq, .int .i64 ec.kind, .slice D1 ec.val.length q1] :: boxO g12 [.slice A2 ec.row.length c2, .int .i64 ec.fam, .slice B2 ec.qual.length d2, .int .i64 ec.ts, .int .i64 ec.seq, .int .i64 ec.kind, .slice D2 ec.val.length q2] :: (((boxO g10 [.bool false] :: boxO g9 [.func (.func fd) #[] lb.toArray] :: boxO g8 [.pointer (some ⟨fg, 0, none⟩)] :: boxO g7 [.int .i64 N] :: boxO g6 [.slice r.A r.e.row.length r.c, .int .i64 r.e.fam, .slice r.B r.e.qual.length r.d, .int .i64 r.e.ts, .int .i64 r.e.seq, .int .i64 r.e.kind, .slice r.D r.e.val.length r.q] :: (osF ++ (boxO pg [.pointer (some ⟨tg, 0, none⟩), .slice A n c, .bool fr] :: boxO tg (tabC t fr) :: RR))) ++ entO A1 B1 D1 c1 d1 q1 ec) ++ entO A2 B2 D2 c2 d2 q2 ec)) u13) := Lib.hid (hz.perm List.perm_append_comm)
      replace HS := Lib.hid (HS.out.later hb)
      clear hz hb
      refine ⟨fun _ => HS.out, ?_⟩
      simp only [Act.put, List.setIfInBounds_toArray, List.set_cons_zero, List.set_cons_succ]
      refine lt_op 5 rfl (by kernel_rfl) rfl ?_
      refine wp_callL rfl ⟨_, Try.func18, by decide, by kernel_rfl⟩ [.agg #[.slice A n c, .bool fr], .agg #[.slice A2 ec.row.length c2, .int .i64 ec.fam, .slice B2 ec.qual.length d2, .int .i64 ec.ts, .int .i64 ec.seq, .int .i64 ec.kind, .slice D2 ec.val.length q2]] rfl ?_
      refine (rfrom8_ms (ms := ms) HY.out (fun o ho => .tail _ (.tail _ (.tail _ (List.mem_append_left _ (List.mem_append_left _ (.tail _ (.tail _ (.tail _ (.tail _ (.tail _ (List.mem_append_right _ (.tail _ (.tail _ (HMS.out o ho)))))))))))))) HRT.out (by omega) (⟨A2, c2, B2, d2, D2, q2, ec⟩ : ER) (fun z hz => (entO_ein fun o ho => .tail _ (.tail _ (.tail _ (List.mem_append_right _ ho)))).en hz)).mono ?_
      rintro e y3 ⟨Aw, nw, cw, rfl, hz, hlin⟩
      have HLW0 : Hid (LIn ms Aw nw (fromE t.ents ec)) := Lib.hid hlin
      replace HY : Hid (OW w (boxO g13 [.slice none 0 0] :: boxO g11 [.slice A1 ec.row.length c1, .int .i64 ec.fam, .slice B1 ec.qual.length d1, .int .i64 ec.ts, .int .i64 ec.seq, .int .i64 ec.kind, .slice D1 ec.val.length q1] :: boxO g12 [.slice A2 ec.row.length c2, .int .i64 ec.fam, .slice B2 ec.qual.length d2, .int .i64 ec.ts, .int .i64 ec.seq, .int .i64 ec.kind, .slice D2 ec.val.length q2] :: (((boxO g10 [.bool false] :: boxO g9 [.func (.func fd) #[] lb.toArray] :: boxO g8 [.pointer (some ⟨fg, 0, none⟩)] :: boxO g7 [.int .i64 N] :: boxO g6 [.slice r.A r.e.row.length r.c, .int .i64 r.e.fam, .slice r.B r.e.qual.length r.d, .int .i64 r.e.ts, .int .i64 r.e.seq, .int .i64 r.e.kind, .slice r.D r.e.val.length r.q] :: (osF ++ (boxO pg [.pointer (some ⟨tg, 0, none⟩), .slice A n c, .bool fr] :: boxO tg (tabC t fr) :: RR))) ++ entO A1 B1 D1 c1 d1 q1 ec) ++ entO A2 B2 D2 c2 d2 q2 ec)) y3) := Lib.hid hz
      replace HS : Hid (OW w (boxO g11 [.slice A1 ec.row.length c1, .int .i64 ec.fam, .slice B1 ec.qual.length d1, .int .i64 ec.ts, .int .i64 ec.seq, .int .i64 ec.kind, .slice D1 ec.val.length q1] :: boxO g12 [.slice A2 ec.row.length c2, .int .i64 ec.fam, .slice B2 ec.qual.length d2, .int .i64 ec.ts, .int .i64 ec.seq, .int .i64 ec.kind, .slice D2 ec.val.length q2] :: (((boxO g10 [.bool false] :: boxO g9 [.func (.func fd) #[] lb.toArray] :: boxO g8 [.pointer (some ⟨fg, 0, none⟩)] :: boxO g7 [.int .i64 N] :: boxO g6 [.slice r.A r.e.row.length r.c, .int .i64 r.e.fam, .slice r.B r.e.qual.length r.d, .int .i64 r.e.ts, .int .i64 r.e.seq, .int .i64 r.e.kind, .slice r.D r.e.val.length r.q] :: (osF ++ (boxO pg [.pointer (some ⟨tg, 0, none⟩), .slice A n c, .bool fr] :: boxO tg (tabC t fr) :: RR))) ++ entO A1 B1 D1 c1 d1 q1 ec) ++ entO A2 B2 D2 c2 d2 q2 ec)) y3) := Lib.hid (hz.erase 0)
      clear hz hlin
      refine ⟨_, rfl, ?_⟩
      refine ⟨fun _ => HS.out, ?_⟩
      simp only [Act.put, List.setIfInBounds_toArray, List.set_cons_zero, List.set_cons_succ]
      refine lt_end 7 rfl (by kernel_rfl) rfl (by kernel_rfl) ?_
      refine wpo_put1 rfl HY.out 0 rfl 0 rfl (by show 0 < 1; decide) (.slice Aw nw cw) rfl (by kernel_rfl) rfl ?_
      intro u14 hz _
      replace HY : Hid (OW w (boxO g13 [.slice Aw nw cw] :: boxO g11 [.slice A1 ec.row.length c1, .int .i64 ec.fam, .slice B1 ec.qual.length d1, .int .i64 ec.ts, .int .i64 ec.seq, .int .i64 ec.kind, .slice D1 ec.val.length q1] :: boxO g12 [.slice A2 ec.row.length c2, .int .i64 ec.fam, .slice B2 ec.qual.length d2, .int .i64 ec.ts, .int .i64 ec.seq, .int .i64 ec.kind, .slice D2 ec.val.length q2] :: (((boxO g10 [.bool false] :: boxO g9 [.func (.func fd) #[] lb.toArray] :: boxO g8 [.pointer (some ⟨fg, 0, none⟩)] :: boxO g7 [.int .i64 N] :: boxO g6 [.slice r.A r.e.row.length r.c, .int .i64 r.e.fam, .slice r.B r.e.qual.length r.d, .int .i64 r.e.ts, .int .i64 r.e.seq, .int .i64 r.e.kind, .slice r.D r.e.val.length r.q] :: (osF ++ (boxO pg [.pointer (some ⟨tg, 0, none⟩), .slice A n c, .bool fr] :: boxO tg (tabC t fr) :: RR))) ++ entO A1 B1 D1 c1 d1 q1 ec) ++ entO A2 B2 D2 c2 d2 q2 ec)) u14) := Lib.hid hz
      clear hz
      simp only [Act.put]
      refine lt_done (by kernel_rfl) ?_
      go_wp2_with fail
      go_meet
      exact ⟨g13, Aw, nw, cw, rfl, HLW0, HY⟩
  clear HX
  obtain ⟨g13, Aw, nw, cw, rfl, HLW0, HX⟩ := hcut
  obtain ⟨LW, hlw⟩ : ∃ z, z = fromE t.ents ec := ⟨_, rfl⟩
  have HLWE := Lib.hid hlw
  have HLW : Hid (LIn ms Aw nw LW) := Lib.hid (by rw [hlw]; exact HLW0.out)
  have HNW : Hid (LW.length = nw) := Lib.hid ((HLW.out.more (os' := boxO g13 [.slice Aw nw cw] :: boxO g11 [.slice A1 ec.row.length c1, .int .i64 ec.fam, .slice B1 ec.qual.length d1, .int .i64 ec.ts, .int .i64 ec.seq, .int .i64 ec.kind, .slice D1 ec.val.length q1] :: boxO g12 [.slice A2 ec.row.length c2, .int .i64 ec.fam, .slice B2 ec.qual.length d2, .int .i64 ec.ts, .int .i64 ec.seq, .int .i64 ec.kind, .slice D2 ec.val.length q2] :: (((boxO g10 [.bool false] :: boxO g9 [.func (.func fd) #[] lb.toArray] :: boxO g8 [.pointer (some ⟨fg, 0, none⟩)] :: boxO g7 [.int .i64 N] :: boxO g6 [.slice r.A r.e.row.length r.c, .int .i64 r.e.fam, .slice r.B r.e.qual.length r.d, .int .i64 r.e.ts, .int .i64 r.e.seq, .int .i64 r.e.kind, .slice r.D r.e.val.length r.q] :: (osF ++ (boxO pg [.pointer (some ⟨tg, 0, none⟩), .slice A n c, .bool fr] :: boxO tg (tabC t fr) :: RR))) ++ entO A1 B1 D1 c1 d1 q1 ec) ++ entO A2 B2 D2 c2 d2 q2 ec)) fun o ho => .tail _ (.tail _ (.tail _ (List.mem_append_left _ (List.mem_append_left _ (.tail _ (.tail _ (.tail _ (.tail _ (.tail _ (List.mem_append_right _ (.tail _ (.tail _ (HMS.out o ho)))))))))))))).ens HX.out).len
  clear hlw HLW0
  go_wp2_with (first
    | (refine wl_alloc rfl rfl [.int .i64 0] (.inr ⟨.int .i64 0, by kernel_rfl, rfl⟩) HX.out ?_; intro g14 x6 hz hb; have HY6 : Hid (OW w (boxO g14 [.int .i64 0] :: boxO g13 [.slice Aw nw cw] :: boxO g11 [.slice A1 ec.row.length c1, .int .i64 ec.fam, .slice B1 ec.qual.length d1, .int .i64 ec.ts, .int .i64 ec.seq, .int .i64 ec.kind, .slice D1 ec.val.length q1] :: boxO g12 [.slice A2 ec.row.length c2, .int .i64 ec.fam, .slice B2 ec.qual.length d2, .int .i64 ec.ts, .int .i64 ec.seq, .int .i64 ec.kind, .slice D2 ec.val.length q2] :: (((boxO g10 [.bool false] :: boxO g9 [.func (.func fd) #[] lb.toArray] :: boxO g8 [.pointer (some ⟨fg, 0, none⟩)] :: boxO g7 [.int .i64 N] :: boxO g6 [.slice r.A r.e.row.length r.c, .int .i64 r.e.fam, .slice r.B r.e.qual.length r.d, .int .i64 r.e.ts, .int .i64 r.e.seq, .int .i64 r.e.kind, .slice r.D r.e.val.length r.q] :: (osF ++ (boxO pg [.pointer (some ⟨tg, 0, none⟩), .slice A n c, .bool fr] :: boxO tg (tabC t fr) :: RR))) ++ entO A1 B1 D1 c1 d1 q1 ec) ++ entO A2 B2 D2 c2 d2 q2 ec)) x6) := Lib.hid (hz.perm List.perm_append_comm); clear hz hb HX)
    | (refine wl_put1 rfl (.tmp 14) (.const (.int .i64 0)) rfl HY6.out 0 rfl 0 rfl (by simp) (.int .i64 0) rfl (by kernel_rfl) rfl ?_; intro x7 hz _; have HX7 : Hid (OW w (boxO g14 [.int .i64 0] :: boxO g13 [.slice Aw nw cw] :: boxO g11 [.slice A1 ec.row.length c1, .int .i64 ec.fam, .slice B1 ec.qual.length d1, .int .i64 ec.ts, .int .i64 ec.seq, .int .i64 ec.kind, .slice D1 ec.val.length q1] :: boxO g12 [.slice A2 ec.row.length c2, .int .i64 ec.fam, .slice B2 ec.qual.length d2, .int .i64 ec.ts, .int .i64 ec.seq, .int .i64 ec.kind, .slice D2 ec.val.length q2] :: (((boxO g10 [.bool false] :: boxO g9 [.func (.func fd) #[] lb.toArray] :: boxO g8 [.pointer (some ⟨fg, 0, none⟩)] :: boxO g7 [.int .i64 N] :: boxO g6 [.slice r.A r.e.row.length r.c, .int .i64 r.e.fam, .slice r.B r.e.qual.length r.d, .int .i64 r.e.ts, .int .i64 r.e.seq, .int .i64 r.e.kind, .slice r.D r.e.val.length r.q] :: (osF ++ (boxO pg [.pointer (some ⟨tg, 0, none⟩), .slice A n c, .bool fr] :: boxO tg (tabC t fr) :: RR))) ++ entO A1 B1 D1 c1 d1 q1 ec) ++ entO A2 B2 D2 c2 d2 q2 ec)) x7) := Lib.hid hz; clear hz HY6))
  refine lt_start [5] (by kernel_rfl) ?_
  intro xd hd
  refine ⟨fun z => OW w (boxO g14 [.int .i64 0] :: boxO g13 [.slice Aw nw cw] :: boxO g11 [.slice A1 ec.row.length c1, .int .i64 ec.fam, .slice B1 ec.qual.length d1, .int .i64 ec.ts, .int .i64 ec.seq, .int .i64 ec.kind, .slice D1 ec.val.length q1] :: boxO g12 [.slice A2 ec.row.length c2, .int .i64 ec.fam, .slice B2 ec.qual.length d2, .int .i64 ec.ts, .int .i64 ec.seq, .int .i64 ec.kind, .slice D2 ec.val.length q2] :: (((boxO g10 [.bool false] :: boxO g9 [.func (.func fd) #[] lb.toArray] :: boxO g8 [.pointer (some ⟨fg, 0, none⟩)] :: boxO g7 [.int .i64 N] :: boxO g6 [.slice r.A r.e.row.length r.c, .int .i64 r.e.fam, .slice r.B r.e.qual.length r.d, .int .i64 r.e.ts, .int .i64 r.e.seq, .int .i64 r.e.kind, .slice r.D r.e.val.length r.q] :: (osF ++ (boxO pg [.pointer (some ⟨tg, 0, none⟩), .slice A n c, .bool fr] :: boxO tg (tabC t fr) :: RR))) ++ entO A1 B1 D1 c1 d1 q1 ec) ++ entO A2 B2 D2 c2 d2 q2 ec)) z, ?_⟩
  have HS := Lib.hid (HX7.out.later hd)
  refine lt_pure 0 rfl (by kernel_rfl) (by kernel_rfl) (by kernel_rfl) (by kernel_rfl) (fun _ _ _ h => h) (v := ?_) (yi_run rfl (fun w => ?_)) (fun _ => HS.out) ?_
  rotate_left
  · first | (go_simp; done) | (go_simp; with_reducible rfl)
  simp only [Act.put, List.setIfInBounds_toArray, List.set_cons_zero, List.set_cons_succ]
  refine lt_pure 1 rfl (by kernel_rfl) (by kernel_rfl) (by kernel_rfl) (by kernel_rfl) (fun _ _ _ h => h) (v := ?_) (yi_run rfl (fun w => ?_)) (fun _ => HS.out) ?_
  rotate_left
  · first | (go_simp; done) | (go_simp; with_reducible rfl)
  simp only [Act.put, List.setIfInBounds_toArray, List.set_cons_zero, List.set_cons_succ]
  refine lt_pure 2 rfl (by kernel_rfl) (by kernel_rfl) (by kernel_rfl) (by kernel_rfl) (fun _ _ _ h => h) (v := ?_) (yi_run rfl (fun w => ?_)) (fun _ => HS.out) ?_
  rotate_left
  · first | (go_simp; done) | (go_simp; with_reducible rfl)
  simp only [Act.put, List.setIfInBounds_toArray, List.set_cons_zero, List.set_cons_succ]
  refine lt_take 3 [5] rfl (by kernel_rfl) (by kernel_rfl) (by kernel_rfl) (by kernel_rfl) (by kernel_rfl) (fun _ _ _ h => h) (yi_cell rfl rfl rfl (fun w hS => OW.cellm hS (g := pg) (cs := [.pointer (some ⟨tg, 0, none⟩), .slice A n c, .bool fr]) (j := 0) (.tail _ (.tail _ (.tail _ (.tail _ (List.mem_append_left _ (List.mem_append_left _ (.tail _ (.tail _ (.tail _ (.tail _ (.tail _ (List.mem_append_right _ (.head _))))))))))))) rfl) (fun w => Try.isAgg24 w)) HS.out ?_
  simp only [Act.put, List.setIfInBounds_toArray, List.set_cons_zero, List.set_cons_succ]
  refine lt_take 4 [5] rfl (by kernel_rfl) (by kernel_rfl) (by kernel_rfl) (by kernel_rfl) (by kernel_rfl) (fun _ _ _ h => h) (yi_row rfl rfl rfl (fun w hS => OW.range hS (i := 2) rfl) ent_row8) HS.out ?_
  simp only [Act.put, List.setIfInBounds_toArray, List.set_cons_zero, List.set_cons_succ]
  refine lt_call 5 rfl (by kernel_rfl) rfl rfl ⟨_, Try.func28, by decide, by kernel_rfl⟩ [.pointer (some ⟨tg, 0, none⟩), .agg #[.slice A1 ec.row.length c1, .int .i64 ec.fam, .slice B1 ec.qual.length d1, .int .i64 ec.ts, .int .i64 ec.seq, .int .i64 ec.kind, .slice D1 ec.val.length q1]] rfl ?_
  refine (from_any tg (⟨A1, c1, B1, d1, D1, q1, ec⟩ : ER) _ (entO_en HS.out fun o ho => .tail _ (.tail _ (.tail _ (.tail _ (List.mem_append_left _ (List.mem_append_right _ ho)))))) (by have := HL5.out; exact ⟨by show ec.row.length ≤ _; omega, by show ec.qual.length ≤ _; omega, by show ec.val.length ≤ _; omega⟩)).mono ?_
  rintro e y8 ⟨b24, b83, b5, s0, rfl, hse, hcle, hz⟩
  have HS0 : Hid (s0.e = ec) := Lib.hid hse
  have HCLE := Lib.hid hcle
  have HY : Hid (OW w (osF ++ (boxO pg [.pointer (some ⟨tg, 0, none⟩), .slice A n c, .bool fr] :: boxO tg (tabC t fr) :: boxO g14 [.int .i64 0] :: boxO g10 [.bool false] :: ((([boxO g13 [.slice Aw nw cw], boxO g11 [.slice A1 ec.row.length c1, .int .i64 ec.fam, .slice B1 ec.qual.length d1, .int .i64 ec.ts, .int .i64 ec.seq, .int .i64 ec.kind, .slice D1 ec.val.length q1], boxO g12 [.slice A2 ec.row.length c2, .int .i64 ec.fam, .slice B2 ec.qual.length d2, .int .i64 ec.ts, .int .i64 ec.seq, .int .i64 ec.kind, .slice D2 ec.val.length q2], boxO g9 [.func (.func fd) #[] lb.toArray], boxO g8 [.pointer (some ⟨fg, 0, none⟩)], boxO g7 [.int .i64 N], boxO g6 [.slice r.A r.e.row.length r.c, .int .i64 r.e.fam, .slice r.B r.e.qual.length r.d, .int .i64 r.e.ts, .int .i64 r.e.seq, .int .i64 r.e.kind, .slice r.D r.e.val.length r.q], boxO b24 [.pointer (some ⟨tg, 0, none⟩)], boxO b83 [.func (.func 55) #[] #[.pointer (some ⟨b5, 0, none⟩)]], boxO b5 [.slice s0.A s0.e.row.length s0.c, .int .i64 s0.e.fam, .slice s0.B s0.e.qual.length s0.d, .int .i64 s0.e.ts, .int .i64 s0.e.seq, .int .i64 s0.e.kind, .slice s0.D s0.e.val.length s0.q]] ++ (([clipO s0.A s0.e.row, clipO s0.B s0.e.qual, clipO s0.D s0.e.val] ++ entO A1 B1 D1 c1 d1 q1 ec) ++ entO A2 B2 D2 c2 d2 q2 ec)) ++ RR) ++ []))) y8) := Lib.hid ((HS.out.app hz).perm (gi_perm0 _ _ _ _ _ _ _ _ _ _ _ _ _ _ _ _ _ _ _))
  clear hse hcle hz HX7
  refine ⟨_, rfl, (fun e => nomatch e), ?_⟩
  simp only [Act.put, List.setIfInBounds_toArray, List.set_cons_zero, List.set_cons_succ]
  refine lt_done (by kernel_rfl) ?_
  clear HS
  go_wp2_with fail
  have HIT : Hid (∀ os, (∀ o, o ∈ ms → o ∈ os) → B5Q b5 s0 os → ItT t (AoF b5 s0) os) := Lib.hid fun os hs hq => ⟨HTB.out.m.more hs, fun r hr => (HTB.out.en r hr).more hs, hq⟩
  have HCK := Lib.hid HTB.out.chk
  obtain ⟨LF, hLF⟩ : ∃ z, z = fromL t.ents s0.e := ⟨_, rfl⟩
  have HLF : Hid (LF = LW) := Lib.hid (by rw [hLF, fromQ_same HTB.out.asc, HS0.out, HLWE.out])
  have hIter : IterQ Try.prog 67 #[.pointer (some ⟨b24, 0, none⟩), .pointer (some ⟨b83, 0, none⟩)] LF (StT tg b24 b83 (.func (.func 55) #[] #[.pointer (some ⟨b5, 0, none⟩)]) t fr) (ItT t (AoF b5 s0)) HandM := by rw [hLF]; exact fromIter tg b24 b83 b5 s0 t fr HTB.out.asc
  have HLFN : Hid (LF.length = nw) := Lib.hid (by rw [HLF.out]; exact HNW.out)
  have HLFC : Hid (∀ e, e ∈ LF → checkE e = 0) := Lib.hid fun e he => HCK.out e (by rw [HLF.out, HLWE.out] at he; exact List.mem_of_mem_drop he)
  have hnw8 : nw ≤ n := by have h1 := HNW.out; rw [HLWE.out] at h1; unfold fromE at h1; rw [List.length_drop] at h1; have h2 := HLN.out.2; omega
  have HNT : Hid (n = t.list.length) := Lib.hid (by rw [← Tr.ents_len]; exact HLN.out.2.symm)
  clear hLF
  refine wp_rangeQ_one (id := 0) (w := w) (L := LF) (Hand := HandM) rfl (enters_of Try.func67 (by kernel_rfl) rfl) hIter (fun _ _ _ _ h => h.ok)
    (fun pre os' => LoopI fg pg tg fr (B pre.length) ms (fun p' osF' ns => osF' ++ (p'.box :: p'.tab :: boxO g14 [.int .i64 (pre.length : Nat)] :: boxO g10 [.bool false] :: ((([boxO g13 [.slice Aw nw cw], boxO g11 [.slice A1 ec.row.length c1, .int .i64 ec.fam, .slice B1 ec.qual.length d1, .int .i64 ec.ts, .int .i64 ec.seq, .int .i64 ec.kind, .slice D1 ec.val.length q1], boxO g12 [.slice A2 ec.row.length c2, .int .i64 ec.fam, .slice B2 ec.qual.length d2, .int .i64 ec.ts, .int .i64 ec.seq, .int .i64 ec.kind, .slice D2 ec.val.length q2], boxO g9 [.func (.func fd) #[] lb.toArray], boxO g8 [.pointer (some ⟨fg, 0, none⟩)], boxO g7 [.int .i64 N], boxO g6 [.slice r.A r.e.row.length r.c, .int .i64 r.e.fam, .slice r.B r.e.qual.length r.d, .int .i64 r.e.ts, .int .i64 r.e.seq, .int .i64 r.e.kind, .slice r.D r.e.val.length r.q], boxO b24 [.pointer (some ⟨tg, 0, none⟩)], boxO b83 [.func (.func 55) #[] #[.pointer (some ⟨b5, 0, none⟩)]], boxO b5 [.slice s0.A s0.e.row.length s0.c, .int .i64 s0.e.fam, .slice s0.B s0.e.qual.length s0.d, .int .i64 s0.e.ts, .int .i64 s0.e.seq, .int .i64 s0.e.kind, .slice s0.D s0.e.val.length s0.q]] ++ (([clipO s0.A s0.e.row, clipO s0.B s0.e.qual, clipO s0.D s0.e.val] ++ entO A1 B1 D1 c1 d1 q1 ec) ++ entO A2 B2 D2 c2 d2 q2 ec)) ++ RR) ++ ns))) os')
    (fun _ os' => ∃ k : Nat, (k : Int) = N ∧ k < nw ∧ LoopI fg pg tg fr (B k) ms (fun p' osF' ns => osF' ++ (p'.box :: p'.tab :: boxO g14 [.int .i64 (k : Nat)] :: boxO g10 [.bool false] :: ((([boxO g13 [.slice Aw nw cw], boxO g11 [.slice A1 ec.row.length c1, .int .i64 ec.fam, .slice B1 ec.qual.length d1, .int .i64 ec.ts, .int .i64 ec.seq, .int .i64 ec.kind, .slice D1 ec.val.length q1], boxO g12 [.slice A2 ec.row.length c2, .int .i64 ec.fam, .slice B2 ec.qual.length d2, .int .i64 ec.ts, .int .i64 ec.seq, .int .i64 ec.kind, .slice D2 ec.val.length q2], boxO g9 [.func (.func fd) #[] lb.toArray], boxO g8 [.pointer (some ⟨fg, 0, none⟩)], boxO g7 [.int .i64 N], boxO g6 [.slice r.A r.e.row.length r.c, .int .i64 r.e.fam, .slice r.B r.e.qual.length r.d, .int .i64 r.e.ts, .int .i64 r.e.seq, .int .i64 r.e.kind, .slice r.D r.e.val.length r.q], boxO b24 [.pointer (some ⟨tg, 0, none⟩)], boxO b83 [.func (.func 55) #[] #[.pointer (some ⟨b5, 0, none⟩)]], boxO b5 [.slice s0.A s0.e.row.length s0.c, .int .i64 s0.e.fam, .slice s0.B s0.e.qual.length s0.d, .int .i64 s0.e.ts, .int .i64 s0.e.seq, .int .i64 s0.e.kind, .slice s0.D s0.e.val.length s0.q]] ++ (([clipO s0.A s0.e.row, clipO s0.B s0.e.qual, clipO s0.D s0.e.val] ++ entO A1 B1 D1 c1 d1 q1 ec) ++ entO A2 B2 D2 c2 d2 q2 ec)) ++ RR) ++ ns))) os') ?itr (os0 := osF ++ (boxO pg [.pointer (some ⟨tg, 0, none⟩), .slice A n c, .bool fr] :: boxO tg (tabC t fr) :: boxO g14 [.int .i64 0] :: boxO g10 [.bool false] :: ((([boxO g13 [.slice Aw nw cw], boxO g11 [.slice A1 ec.row.length c1, .int .i64 ec.fam, .slice B1 ec.qual.length d1, .int .i64 ec.ts, .int .i64 ec.seq, .int .i64 ec.kind, .slice D1 ec.val.length q1], boxO g12 [.slice A2 ec.row.length c2, .int .i64 ec.fam, .slice B2 ec.qual.length d2, .int .i64 ec.ts, .int .i64 ec.seq, .int .i64 ec.kind, .slice D2 ec.val.length q2], boxO g9 [.func (.func fd) #[] lb.toArray], boxO g8 [.pointer (some ⟨fg, 0, none⟩)], boxO g7 [.int .i64 N], boxO g6 [.slice r.A r.e.row.length r.c, .int .i64 r.e.fam, .slice r.B r.e.qual.length r.d, .int .i64 r.e.ts, .int .i64 r.e.seq, .int .i64 r.e.kind, .slice r.D r.e.val.length r.q], boxO b24 [.pointer (some ⟨tg, 0, none⟩)], boxO b83 [.func (.func 55) #[] #[.pointer (some ⟨b5, 0, none⟩)]], boxO b5 [.slice s0.A s0.e.row.length s0.c, .int .i64 s0.e.fam, .slice s0.B s0.e.qual.length s0.d, .int .i64 s0.e.ts, .int .i64 s0.e.seq, .int .i64 s0.e.kind, .slice s0.D s0.e.val.length s0.q]] ++ (([clipO s0.A s0.e.row, clipO s0.B s0.e.qual, clipO s0.D s0.e.val] ++ entO A1 B1 D1 c1 d1 q1 ec) ++ entO A2 B2 D2 c2 d2 q2 ec)) ++ RR) ++ []))) (LoopI.mk ⟨pg, tg, t, fr, A, n, c, rs⟩ osF [] rfl rfl rfl HB0.out HF.out ⟨by rw [List.append_nil]; exact HTB.out, by rw [List.append_nil]; exact HRT.out⟩ rfl) ⟨List.mem_append_right _ (.tail _ (.tail _ (.tail _ (.tail _ (List.mem_append_left _ (List.mem_append_left _ (List.mem_append_left _ (.tail _ (.tail _ (.tail _ (.tail _ (.tail _ (.tail _ (.tail _ (.head _))))))))))))))), List.mem_append_right _ (.tail _ (.tail _ (.tail _ (.tail _ (List.mem_append_left _ (List.mem_append_left _ (List.mem_append_left _ (.tail _ (.tail _ (.tail _ (.tail _ (.tail _ (.tail _ (.tail _ (.tail _ (.head _)))))))))))))))), List.mem_append_right _ (.tail _ (.head _))⟩ (HIT.out _ (fun o ho => List.mem_append_right _ (.tail _ (.tail _ (.tail _ (.tail _ (List.mem_append_left _ (List.mem_append_right _ (HMS.out o ho)))))))) ⟨List.mem_append_right _ (.tail _ (.tail _ (.tail _ (.tail _ (List.mem_append_left _ (List.mem_append_left _ (List.mem_append_left _ (.tail _ (.tail _ (.tail _ (.tail _ (.tail _ (.tail _ (.tail _ (.tail _ (.tail _ (.head _))))))))))))))))), HCLE.out.more fun o ho => List.mem_append_right _ (.tail _ (.tail _ (.tail _ (.tail _ (List.mem_append_left _ (List.mem_append_left _ (List.mem_append_right _ (List.mem_append_left _ (List.mem_append_left _ ho)))))))))⟩) HY.out ?round (fun a z h => h) ?done
  case itr =>
    rintro pre os' es ⟨p', osF', ns, _, _, _, _, _, _, rfl⟩
    exact HIT.out _ (fun o ho => List.mem_append_left _ (List.mem_append_right _ (.tail _ (.tail _ (.tail _ (.tail _ (List.mem_append_left _ (List.mem_append_right _ (HMS.out o ho))))))))) ⟨List.mem_append_left _ (List.mem_append_right _ (.tail _ (.tail _ (.tail _ (.tail _ (List.mem_append_left _ (List.mem_append_left _ (List.mem_append_left _ (.tail _ (.tail _ (.tail _ (.tail _ (.tail _ (.tail _ (.tail _ (.tail _ (.tail _ (.head _)))))))))))))))))), HCLE.out.more fun o ho => List.mem_append_left _ (List.mem_append_right _ (.tail _ (.tail _ (.tail _ (.tail _ (List.mem_append_left _ (List.mem_append_left _ (List.mem_append_right _ (List.mem_append_left _ (List.mem_append_left _ ho))))))))))⟩
  case round =>
    rintro l p1 p2 pre e vs W0 W1 os' _ hpre ⟨⟨pg', tg', t', fr', A', n', c', rs'⟩, osF', ns, e1, e2, e3, hbl, hF', hP', rfl⟩ h0 ⟨s, rfl, rfl, hec, hh⟩
    have hlt := pre_at8 hpre
    obtain rfl : pg' = pg := e1
    obtain rfl : tg' = tg := e2
    obtain rfl : fr' = fr := e3
    obtain ⟨m, hm⟩ : ∃ z, z = pre.length := ⟨_, rfl⟩
    rw [← hm] at hlt h0 hbl
    have hmn : m < nw := by have h := (List.getElem?_eq_some_iff.1 hlt).1; rw [HLFN.out] at h; exact h
    have HM := Lib.hid hm
    have HECS := Lib.hid hec
    have HF' := Lib.hid hF'
    have HP' := Lib.hid hP'
    have HBL : Hid (t'.list.length ≤ B m) := Lib.hid hbl
    have hck : checkE s.e = 0 := HLFC.out s.e (List.mem_of_getElem? hlt)
    have HSB := Lib.hid (clip_slB hec hck)
    have HOK := Lib.hid (ok_of hck)
    have HLT := Lib.hid hlt
    have HV : Hid (OW w (osF' ++ (clipO s.A s.e.row :: clipO s.B s.e.qual :: clipO s.D s.e.val :: (boxO g14 [.int .i64 (m : Nat)] :: boxO g10 [.bool false] :: boxO pg' [.pointer (some ⟨tg', 0, none⟩), .slice A' n' c', .bool fr'] :: boxO tg' (tabC t' fr') :: (((([boxO g13 [.slice Aw nw cw], boxO g11 [.slice A1 ec.row.length c1, .int .i64 ec.fam, .slice B1 ec.qual.length d1, .int .i64 ec.ts, .int .i64 ec.seq, .int .i64 ec.kind, .slice D1 ec.val.length q1], boxO g12 [.slice A2 ec.row.length c2, .int .i64 ec.fam, .slice B2 ec.qual.length d2, .int .i64 ec.ts, .int .i64 ec.seq, .int .i64 ec.kind, .slice D2 ec.val.length q2], boxO g9 [.func (.func fd) #[] lb.toArray], boxO g8 [.pointer (some ⟨fg, 0, none⟩)], boxO g7 [.int .i64 N], boxO g6 [.slice r.A r.e.row.length r.c, .int .i64 r.e.fam, .slice r.B r.e.qual.length r.d, .int .i64 r.e.ts, .int .i64 r.e.seq, .int .i64 r.e.kind, .slice r.D r.e.val.length r.q], boxO b24 [.pointer (some ⟨tg', 0, none⟩)], boxO b83 [.func (.func 55) #[] #[.pointer (some ⟨b5, 0, none⟩)]], boxO b5 [.slice s0.A s0.e.row.length s0.c, .int .i64 s0.e.fam, .slice s0.B s0.e.qual.length s0.d, .int .i64 s0.e.ts, .int .i64 s0.e.seq, .int .i64 s0.e.kind, .slice s0.D s0.e.val.length s0.q]] ++ (([clipO s0.A s0.e.row, clipO s0.B s0.e.qual, clipO s0.D s0.e.val] ++ entO A1 B1 D1 c1 d1 q1 ec) ++ entO A2 B2 D2 c2 d2 q2 ec)) ++ RR) ++ ns) ++ p1)))) W1) := Lib.hid ((h0.app hh).perm (al_perm1 _ _ _ _ _ _ _ _ _ _))
    have i0 : (0 : Int) ≤ (m : Int) := by omega
    have i1 : (m : Int) < (nw : Int) := by omega
    have i2 : decide ((m : Int) ≥ (nw : Int)) = false := decide_eq_false (by omega)
    have i3 : ¬ nw ≤ m := by omega
    have s2 : IntKind.i64.wrap ((m : Int) + 1) = (m : Int) + 1 := i64_sum (by omega) (by omega)
    clear hlt hpre h0 hh hec hm hF' hP' hck HY hbl
    have hsem : ∀ (ρ : Operand → Value) (o : Oper), (∀ c, o.op ≠ .defer c) → Oper.semAt (some l) ρ o = execOp ρ o := fun ρ o h => Oper.semAt_some l ρ o h
    unfold RoundOK
    rw [setP1]
    simp only [List.setIfInBounds_toArray, List.set_cons_zero, List.set_cons_succ]
    gi_wp2_with (first
      | (refine wlIn_one rfl ?_; refine wl_alloc rfl rfl [.slice none 0 0, .int .i64 0, .slice none 0 0, .int .i64 0, .int .i64 0, .int .i64 0, .slice none 0 0] (.inl (by kernel_rfl)) HV.out ?_; intro gy z1 hz _; have HV1 : Hid (OW w ((boxO gy [.slice none 0 0, .int .i64 0, .slice none 0 0, .int .i64 0, .int .i64 0, .int .i64 0, .slice none 0 0] :: osF' ++ (clipO s.A s.e.row :: clipO s.B s.e.qual :: clipO s.D s.e.val :: (boxO g14 [.int .i64 (m : Nat)] :: boxO g10 [.bool false] :: boxO pg' [.pointer (some ⟨tg', 0, none⟩), .slice A' n' c', .bool fr'] :: boxO tg' (tabC t' fr') :: ((([boxO g13 [.slice Aw nw cw], boxO g11 [.slice A1 ec.row.length c1, .int .i64 ec.fam, .slice B1 ec.qual.length d1, .int .i64 ec.ts, .int .i64 ec.seq, .int .i64 ec.kind, .slice D1 ec.val.length q1], boxO g12 [.slice A2 ec.row.length c2, .int .i64 ec.fam, .slice B2 ec.qual.length d2, .int .i64 ec.ts, .int .i64 ec.seq, .int .i64 ec.kind, .slice D2 ec.val.length q2], boxO g9 [.func (.func fd) #[] lb.toArray], boxO g8 [.pointer (some ⟨fg, 0, none⟩)], boxO g7 [.int .i64 N], boxO g6 [.slice r.A r.e.row.length r.c, .int .i64 r.e.fam, .slice r.B r.e.qual.length r.d, .int .i64 r.e.ts, .int .i64 r.e.seq, .int .i64 r.e.kind, .slice r.D r.e.val.length r.q], boxO b24 [.pointer (some ⟨tg', 0, none⟩)], boxO b83 [.func (.func 55) #[] #[.pointer (some ⟨b5, 0, none⟩)]], boxO b5 [.slice s0.A s0.e.row.length s0.c, .int .i64 s0.e.fam, .slice s0.B s0.e.qual.length s0.d, .int .i64 s0.e.ts, .int .i64 s0.e.seq, .int .i64 s0.e.kind, .slice s0.D s0.e.val.length s0.q]] ++ (([clipO s0.A s0.e.row, clipO s0.B s0.e.qual, clipO s0.D s0.e.val] ++ entO A1 B1 D1 c1 d1 q1 ec) ++ entO A2 B2 D2 c2 d2 q2 ec)) ++ RR) ++ ns)))) ++ p1) z1) := Lib.hid (hz.perm (al_perm2 _ _ _ _ _ _ _ _ _ _ _)); clear hz HV; refine wlIn_back ?_)
      | (refine wlIn_one rfl ?_; refine wl_put rfl (.tmp 15) (.tmp 32) rfl HV1.out 0 rfl rfl [.slice s.A s.e.row.length s.c, .int .i64 s.e.fam, .slice s.B s.e.qual.length s.d, .int .i64 s.e.ts, .int .i64 s.e.seq, .int .i64 s.e.kind, .slice s.D s.e.val.length s.q] rfl rfl (by kernel_rfl) (by simp [Value.oneCell']) ?_; intro z2 hz _; have HV2 : Hid (OW w ((boxO gy [.slice s.A s.e.row.length s.c, .int .i64 s.e.fam, .slice s.B s.e.qual.length s.d, .int .i64 s.e.ts, .int .i64 s.e.seq, .int .i64 s.e.kind, .slice s.D s.e.val.length s.q] :: osF' ++ (clipO s.A s.e.row :: clipO s.B s.e.qual :: clipO s.D s.e.val :: (boxO g14 [.int .i64 (m : Nat)] :: boxO g10 [.bool false] :: boxO pg' [.pointer (some ⟨tg', 0, none⟩), .slice A' n' c', .bool fr'] :: boxO tg' (tabC t' fr') :: ((([boxO g13 [.slice Aw nw cw], boxO g11 [.slice A1 ec.row.length c1, .int .i64 ec.fam, .slice B1 ec.qual.length d1, .int .i64 ec.ts, .int .i64 ec.seq, .int .i64 ec.kind, .slice D1 ec.val.length q1], boxO g12 [.slice A2 ec.row.length c2, .int .i64 ec.fam, .slice B2 ec.qual.length d2, .int .i64 ec.ts, .int .i64 ec.seq, .int .i64 ec.kind, .slice D2 ec.val.length q2], boxO g9 [.func (.func fd) #[] lb.toArray], boxO g8 [.pointer (some ⟨fg, 0, none⟩)], boxO g7 [.int .i64 N], boxO g6 [.slice r.A r.e.row.length r.c, .int .i64 r.e.fam, .slice r.B r.e.qual.length r.d, .int .i64 r.e.ts, .int .i64 r.e.seq, .int .i64 r.e.kind, .slice r.D r.e.val.length r.q], boxO b24 [.pointer (some ⟨tg', 0, none⟩)], boxO b83 [.func (.func 55) #[] #[.pointer (some ⟨b5, 0, none⟩)]], boxO b5 [.slice s0.A s0.e.row.length s0.c, .int .i64 s0.e.fam, .slice s0.B s0.e.qual.length s0.d, .int .i64 s0.e.ts, .int .i64 s0.e.seq, .int .i64 s0.e.kind, .slice s0.D s0.e.val.length s0.q]] ++ (([clipO s0.A s0.e.row, clipO s0.B s0.e.qual, clipO s0.D s0.e.val] ++ entO A1 B1 D1 c1 d1 q1 ec) ++ entO A2 B2 D2 c2 d2 q2 ec)) ++ RR) ++ ns)))) ++ p1) z2) := Lib.hid hz; clear hz HV1; refine wlIn_back ?_))
    refine ⟨_, HV2.out, fun z3 hz3 => ?_⟩
    have HW3 : Hid (OW w (osF' ++ (clipO s.A s.e.row :: clipO s.B s.e.qual :: clipO s.D s.e.val :: (boxO pg' [.pointer (some ⟨tg', 0, none⟩), .slice A' n' c', .bool fr'] :: boxO tg' (tabC t' fr') :: (boxO g14 [.int .i64 (m : Nat)] :: boxO g10 [.bool false] :: boxO gy [.slice s.A s.e.row.length s.c, .int .i64 s.e.fam, .slice s.B s.e.qual.length s.d, .int .i64 s.e.ts, .int .i64 s.e.seq, .int .i64 s.e.kind, .slice s.D s.e.val.length s.q] :: (((([boxO g13 [.slice Aw nw cw], boxO g11 [.slice A1 ec.row.length c1, .int .i64 ec.fam, .slice B1 ec.qual.length d1, .int .i64 ec.ts, .int .i64 ec.seq, .int .i64 ec.kind, .slice D1 ec.val.length q1], boxO g12 [.slice A2 ec.row.length c2, .int .i64 ec.fam, .slice B2 ec.qual.length d2, .int .i64 ec.ts, .int .i64 ec.seq, .int .i64 ec.kind, .slice D2 ec.val.length q2], boxO g9 [.func (.func fd) #[] lb.toArray], boxO g8 [.pointer (some ⟨fg, 0, none⟩)], boxO g7 [.int .i64 N], boxO g6 [.slice r.A r.e.row.length r.c, .int .i64 r.e.fam, .slice r.B r.e.qual.length r.d, .int .i64 r.e.ts, .int .i64 r.e.seq, .int .i64 r.e.kind, .slice r.D r.e.val.length r.q], boxO b24 [.pointer (some ⟨tg', 0, none⟩)], boxO b83 [.func (.func 55) #[] #[.pointer (some ⟨b5, 0, none⟩)]], boxO b5 [.slice s0.A s0.e.row.length s0.c, .int .i64 s0.e.fam, .slice s0.B s0.e.qual.length s0.d, .int .i64 s0.e.ts, .int .i64 s0.e.seq, .int .i64 s0.e.kind, .slice s0.D s0.e.val.length s0.q]] ++ (([clipO s0.A s0.e.row, clipO s0.B s0.e.qual, clipO s0.D s0.e.val] ++ entO A1 B1 D1 c1 d1 q1 ec) ++ entO A2 B2 D2 c2 d2 q2 ec)) ++ RR) ++ ns) ++ p2))))) z3) := Lib.hid (OW.perm (os := (boxO gy [.slice s.A s.e.row.length s.c, .int .i64 s.e.fam, .slice s.B s.e.qual.length s.d, .int .i64 s.e.ts, .int .i64 s.e.seq, .int .i64 s.e.kind, .slice s.D s.e.val.length s.q] :: osF' ++ (clipO s.A s.e.row :: clipO s.B s.e.qual :: clipO s.D s.e.val :: (boxO g14 [.int .i64 (m : Nat)] :: boxO g10 [.bool false] :: boxO pg' [.pointer (some ⟨tg', 0, none⟩), .slice A' n' c', .bool fr'] :: boxO tg' (tabC t' fr') :: ((([boxO g13 [.slice Aw nw cw], boxO g11 [.slice A1 ec.row.length c1, .int .i64 ec.fam, .slice B1 ec.qual.length d1, .int .i64 ec.ts, .int .i64 ec.seq, .int .i64 ec.kind, .slice D1 ec.val.length q1], boxO g12 [.slice A2 ec.row.length c2, .int .i64 ec.fam, .slice B2 ec.qual.length d2, .int .i64 ec.ts, .int .i64 ec.seq, .int .i64 ec.kind, .slice D2 ec.val.length q2], boxO g9 [.func (.func fd) #[] lb.toArray], boxO g8 [.pointer (some ⟨fg, 0, none⟩)], boxO g7 [.int .i64 N], boxO g6 [.slice r.A r.e.row.length r.c, .int .i64 r.e.fam, .slice r.B r.e.qual.length r.d, .int .i64 r.e.ts, .int .i64 r.e.seq, .int .i64 r.e.kind, .slice r.D r.e.val.length r.q], boxO b24 [.pointer (some ⟨tg', 0, none⟩)], boxO b83 [.func (.func 55) #[] #[.pointer (some ⟨b5, 0, none⟩)]], boxO b5 [.slice s0.A s0.e.row.length s0.c, .int .i64 s0.e.fam, .slice s0.B s0.e.qual.length s0.d, .int .i64 s0.e.ts, .int .i64 s0.e.seq, .int .i64 s0.e.kind, .slice s0.D s0.e.val.length s0.q]] ++ (([clipO s0.A s0.e.row, clipO s0.B s0.e.qual, clipO s0.D s0.e.val] ++ entO A1 B1 D1 c1 d1 q1 ec) ++ entO A2 B2 D2 c2 d2 q2 ec)) ++ RR) ++ ns)))) ++ p2) hz3 (al_perm3 _ _ _ _ _ _ _ _ _ _ _))
    clear hz3 HV2
    by_cases hmN : (m : Int) = N
    case pos =>
      have dN : ((m : Int) == N) = true := beq_iff_eq.2 hmN
      have HMN := Lib.hid hmN
      clear hmN
      gi_wp2_with (first
        | (refine wlIn_one rfl ?_; refine wpList_load_cell rfl 3 (.tmp 14) rfl rfl (HW3.out.cellm (g := g14) (cs := [.int .i64 (m : Nat)]) (j := 0) (List.mem_append_right _ (.tail _ (.tail _ (.tail _ (.tail _ (.tail _ (.head _))))))) rfl) (fun w => Try.isAgg3 w) ?_; refine wlIn_back ?_)
        | (refine wlIn_one rfl ?_; refine wpList_load_cell rfl 3 (.tmp 7) rfl rfl (HW3.out.cellm (g := g7) (cs := [.int .i64 N]) (j := 0) (List.mem_append_right _ (.tail _ (.tail _ (.tail _ (.tail _ (.tail _ (.tail _ (.tail _ (.tail _ (List.mem_append_left _ (List.mem_append_left _ (List.mem_append_left _ (List.mem_append_left _ (.tail _ (.tail _ (.tail _ (.tail _ (.tail _ (.head _))))))))))))))))))) rfl) (fun w => Try.isAgg3 w) ?_; refine wlIn_back ?_))
      exact ⟨_, ⟨rfl, m, HMN.out, hmn, LoopI.mk ⟨pg', tg', t', fr', A', n', c', rs'⟩ osF' ns rfl rfl rfl HBL.out HF'.out HP'.out rfl⟩, (HW3.out.perm (gi_perm _ _ _ _ _ _ _ _ _ _ _)).left⟩
    have dN : ((m : Int) == N) = false := beq_eq_false_iff_ne.2 hmN
    clear hmN
    obtain ⟨bw, ow_, q, rfl, hbw, hqk, hrq, hqn⟩ := ((HLW.out.more fun o ho => (List.mem_append_right _ (.tail _ (.tail _ (.tail _ (.tail _ (.tail _ (.tail _ (.tail _ (.tail _ (List.mem_append_left _ (List.mem_append_left _ (List.mem_append_right _ (HMS.out o ho)))))))))))))).ens HW3.out).er hmn
    have HRQ : Hid (∀ z, Below z3.heap.size z3 z → z.rangeAt bw (ow_ + m * 7) [.slice q.A q.e.row.length q.c, .int .i64 q.e.fam, .slice q.B q.e.qual.length q.d, .int .i64 q.e.ts, .int .i64 q.e.seq, .int .i64 q.e.kind, .slice q.D q.e.val.length q.q]) := Lib.hid fun z hz j v hj => (hz.cell (p := ⟨bw, _, none⟩) hbw).trans (hrq j v hj)
    have HQN : Hid (∀ z, Below z3.heap.size z3 z → q.En z) := Lib.hid fun z hz => hqn.later hz
    have HQE : Hid (s.e = q.e) := Lib.hid (by have h1 := HLT.out; rw [HLF.out, hqk] at h1; injection h1 with h1; exact h1.symm)
    clear hbw hqk hrq hqn
    gi_wp2_with (first
      | (refine wlIn_one rfl ?_; refine wpList_load_cell rfl 3 (.tmp 14) rfl rfl (HW3.out.cellm (g := g14) (cs := [.int .i64 (m : Nat)]) (j := 0) (List.mem_append_right _ (.tail _ (.tail _ (.tail _ (.tail _ (.tail _ (.head _))))))) rfl) (fun w => Try.isAgg3 w) ?_; refine wlIn_back ?_)
      | (refine wlIn_one rfl ?_; refine wpList_load_cell rfl 3 (.tmp 7) rfl rfl (HW3.out.cellm (g := g7) (cs := [.int .i64 N]) (j := 0) (List.mem_append_right _ (.tail _ (.tail _ (.tail _ (.tail _ (.tail _ (.tail _ (.tail _ (.tail _ (List.mem_append_left _ (List.mem_append_left _ (List.mem_append_left _ (List.mem_append_left _ (.tail _ (.tail _ (.tail _ (.tail _ (.tail _ (.head _))))))))))))))))))) rfl) (fun w => Try.isAgg3 w) ?_; refine wlIn_back ?_))
    refine lt_startIn [] (by kernel_rfl) (by kernel_rfl) (fun _ _ h => h) ?_
    intro xd hd
    refine ⟨fun z => Below z3.heap.size z3 z, ?_⟩
    have HS := Lib.hid (hd)
    refine lt_take 0 [3, 4, 5, 6, 7, 8, 9, 10, 11, 12] rfl (by kernel_rfl) (by kernel_rfl) (by kernel_rfl) (by kernel_rfl) (by kernel_rfl) (fun _ _ _ h => h) (yi_cell rfl rfl rfl (fun w hS => (HW3.out.later hS).cellm (g := g14) (cs := [.int .i64 (m : Nat)]) (j := 0) (List.mem_append_right _ (.tail _ (.tail _ (.tail _ (.tail _ (.tail _ (.head _))))))) rfl) (fun w => Try.isAgg3 w)) HS.out ?_
    simp only [Act.put, List.setIfInBounds_toArray, List.set_cons_zero, List.set_cons_succ]
    refine lt_take 1 [2, 3, 4, 5, 6, 7, 8, 9, 10, 11, 12] rfl (by kernel_rfl) (by kernel_rfl) (by kernel_rfl) (by kernel_rfl) (by kernel_rfl) (fun _ _ _ h => h) (yi_cell rfl rfl rfl (fun w hS => (HW3.out.later hS).cellm (g := g13) (cs := [.slice (some ⟨bw, ow_, none⟩) nw cw]) (j := 0) (List.mem_append_right _ (.tail _ (.tail _ (.tail _ (.tail _ (.tail _ (.tail _ (.tail _ (.tail _ (List.mem_append_left _ (List.mem_append_left _ (List.mem_append_left _ (List.mem_append_left _ (.head _)))))))))))))) rfl) (fun w => Try.isAgg22 w)) HS.out ?_
    simp only [Act.put, List.setIfInBounds_toArray, List.set_cons_zero, List.set_cons_succ]
    refine lt_pure 2 rfl (by kernel_rfl) (by kernel_rfl) (by kernel_rfl) (by kernel_rfl) (fun _ _ _ h => h) (v := ?_) (yi_run rfl (fun w => ?_)) (fun _ => HS.out) ?_
    rotate_left
    · first | (go_simp; done) | (go_simp; with_reducible rfl)
    simp only [Act.put, List.setIfInBounds_toArray, List.set_cons_zero, List.set_cons_succ]
    refine lt_pure 3 rfl (by kernel_rfl) (by kernel_rfl) (by kernel_rfl) (by kernel_rfl) (fun _ _ _ h => h) (v := ?_) (yi_run rfl (fun w => ?_)) (fun _ => HS.out) ?_
    rotate_left
    · first | (go_simp; done) | (go_simp; with_reducible rfl)
    simp only [Act.put, List.setIfInBounds_toArray, List.set_cons_zero, List.set_cons_succ]
    refine lt_pure 4 rfl (by kernel_rfl) (by kernel_rfl) (by kernel_rfl) (by kernel_rfl) (fun _ _ _ h => h) (v := ?_) (yi_run rfl (fun w => ?_)) (fun _ => HS.out) ?_
    rotate_left
    · first | (go_simp; done) | (go_simp; with_reducible rfl)
    simp only [Act.put, List.setIfInBounds_toArray, List.set_cons_zero, List.set_cons_succ]
    refine lt_take 5 [10, 11, 12] rfl (by kernel_rfl) (by kernel_rfl) (by kernel_rfl) (by kernel_rfl) (by kernel_rfl) (fun _ _ _ h => h) (yi_row rfl rfl rfl (fun w hS => (HW3.out.later hS).rangem (List.mem_append_right _ (.tail _ (.tail _ (.tail _ (.tail _ (.tail _ (.tail _ (.tail _ (.head _)))))))))) ent_row8) HS.out ?_
    simp only [Act.put, List.setIfInBounds_toArray, List.set_cons_zero, List.set_cons_succ]
    refine lt_take 6 [8, 9, 10, 11, 12] rfl (by kernel_rfl) (by kernel_rfl) (by kernel_rfl) (by kernel_rfl) (by kernel_rfl) (fun _ _ _ h => h) (yi_cell rfl rfl rfl (fun w hS => (HW3.out.later hS).cellm (g := g13) (cs := [.slice (some ⟨bw, ow_, none⟩) nw cw]) (j := 0) (List.mem_append_right _ (.tail _ (.tail _ (.tail _ (.tail _ (.tail _ (.tail _ (.tail _ (.tail _ (List.mem_append_left _ (List.mem_append_left _ (List.mem_append_left _ (List.mem_append_left _ (.head _)))))))))))))) rfl) (fun w => Try.isAgg22 w)) HS.out ?_
    simp only [Act.put, List.setIfInBounds_toArray, List.set_cons_zero, List.set_cons_succ]
    refine lt_take 7 [8, 9, 10, 11, 12] rfl (by kernel_rfl) (by kernel_rfl) (by kernel_rfl) (by kernel_rfl) (by kernel_rfl) (fun _ _ _ h => h) (yi_cell rfl rfl rfl (fun w hS => (HW3.out.later hS).cellm (g := g14) (cs := [.int .i64 (m : Nat)]) (j := 0) (List.mem_append_right _ (.tail _ (.tail _ (.tail _ (.tail _ (.tail _ (.head _))))))) rfl) (fun w => Try.isAgg3 w)) HS.out ?_
    simp only [Act.put, List.setIfInBounds_toArray, List.set_cons_zero, List.set_cons_succ]
    refine lt_pure 8 rfl (by kernel_rfl) (by kernel_rfl) (by kernel_rfl) (by kernel_rfl) (fun _ _ _ h => h) (v := ?_) (yi_run rfl (fun w => ?_)) (fun _ => HS.out) ?_
    rotate_left
    · first | (go_simp; done) | (go_simp; with_reducible rfl)
    simp only [Act.put, List.setIfInBounds_toArray, List.set_cons_zero, List.set_cons_succ]
    refine lt_take 9 [10, 11, 12] rfl (by kernel_rfl) (by kernel_rfl) (by kernel_rfl) (by kernel_rfl) (by kernel_rfl) (fun _ _ _ h => h) (yi_rowO rfl rfl rfl (fun w hS => HRQ.out w hS) ent_row8) HS.out ?_
    simp only [Act.put, List.setIfInBounds_toArray, List.set_cons_zero, List.set_cons_succ]
    refine lt_call 10 rfl (by kernel_rfl) rfl rfl ⟨_, Try.func13, by decide, by kernel_rfl⟩ [.agg #[.slice s.A s.e.row.length s.c, .int .i64 s.e.fam, .slice s.B s.e.qual.length s.d, .int .i64 s.e.ts, .int .i64 s.e.seq, .int .i64 s.e.kind, .slice s.D s.e.val.length s.q], .agg #[.slice q.A q.e.row.length q.c, .int .i64 q.e.fam, .slice q.B q.e.qual.length q.d, .int .i64 q.e.ts, .int .i64 q.e.seq, .int .i64 q.e.kind, .slice q.D q.e.val.length q.q]] rfl ?_
    refine (sameEntry_yes s q _ HQE.out ((HECS.out.more (fun o ho => List.mem_append_right _ (clip3_in o ho))).en (HW3.out.later HS.out)) (HQN.out _ HS.out)).mono ?_
    rintro e z4 ⟨rfl, hb⟩
    replace HS := Lib.hid (HS.out.trans (hb.mono HS.out.size))
    clear hb
    refine ⟨_, rfl, fun _ => HS.out, ?_⟩
    simp only [Act.put, List.setIfInBounds_toArray, List.set_cons_zero, List.set_cons_succ]
    refine lt_pure 11 rfl (by kernel_rfl) (by kernel_rfl) (by kernel_rfl) (by kernel_rfl) (fun _ _ _ h => h) (v := ?_) (yi_run rfl (fun w => ?_)) (fun _ => HS.out) ?_
    rotate_left
    · first | (go_simp; done) | (go_simp; with_reducible rfl)
    simp only [Act.put, List.setIfInBounds_toArray, List.set_cons_zero, List.set_cons_succ]
    refine lt_pure 12 rfl (by kernel_rfl) (by kernel_rfl) (by kernel_rfl) (by kernel_rfl) (fun _ _ _ h => h) (v := ?_) (yi_run rfl (fun w => ?_)) (fun _ => HS.out) ?_
    rotate_left
    · first | (go_simp; done) | (go_simp; with_reducible rfl)
    simp only [Act.put, List.setIfInBounds_toArray, List.set_cons_zero, List.set_cons_succ]
    refine lt_done (by kernel_rfl) ?_
    replace HW3 := Lib.hid (HW3.out.later HS.out)
    clear HS
    gi_wp2_with (first
      | (refine wlIn_one rfl ?_; refine wpList_load_cell rfl 68 (.tmp 8) rfl rfl (HW3.out.cellm (g := g8) (cs := [.pointer (some ⟨fg, 0, none⟩)]) (j := 0) (List.mem_append_right _ (.tail _ (.tail _ (.tail _ (.tail _ (.tail _ (.tail _ (.tail _ (.tail _ (List.mem_append_left _ (List.mem_append_left _ (List.mem_append_left _ (List.mem_append_left _ (.tail _ (.tail _ (.tail _ (.tail _ (.head _)))))))))))))))))) rfl) (fun w => Try.isAgg68 w) ?_; refine wlIn_back ?_)
      | (refine wlIn_one rfl ?_; refine wpList_load_row7 rfl 30 (.tmp 15) rfl rfl (HW3.out.rangem (List.mem_append_right _ (.tail _ (.tail _ (.tail _ (.tail _ (.tail _ (.tail _ (.tail _ (.head _)))))))))) ent_row8 ?_; refine wlIn_back ?_)
      | (refine ⟨trivial, ?_⟩; gi_at_call 32; go_must (refine CallsIn.mono (callsIn_fw (ro := some l) (fentry_any s.e HF'.out HSB.out.1 HSB.out.2.1 HSB.out.2.2 HW3.out (by have := HOK.out.row; omega) (by have := HOK.out.qual; omega) (by have := HOK.out.val; omega))) ?_); rintro e z5 ⟨rfl, osF5, hf5, hz⟩; have HF5 := Lib.hid hf5; have HW5 : Hid (OW w (osF5 ++ (boxO pg' [.pointer (some ⟨tg', 0, none⟩), .slice A' n' c', .bool fr'] :: boxO tg' (tabC t' fr') :: (boxO g14 [.int .i64 (m : Nat)] :: boxO g10 [.bool false] :: boxO gy [.slice s.A s.e.row.length s.c, .int .i64 s.e.fam, .slice s.B s.e.qual.length s.d, .int .i64 s.e.ts, .int .i64 s.e.seq, .int .i64 s.e.kind, .slice s.D s.e.val.length s.q] :: (((([boxO g13 [.slice (some ⟨bw, ow_, none⟩) nw cw], boxO g11 [.slice A1 ec.row.length c1, .int .i64 ec.fam, .slice B1 ec.qual.length d1, .int .i64 ec.ts, .int .i64 ec.seq, .int .i64 ec.kind, .slice D1 ec.val.length q1], boxO g12 [.slice A2 ec.row.length c2, .int .i64 ec.fam, .slice B2 ec.qual.length d2, .int .i64 ec.ts, .int .i64 ec.seq, .int .i64 ec.kind, .slice D2 ec.val.length q2], boxO g9 [.func (.func fd) #[] lb.toArray], boxO g8 [.pointer (some ⟨fg, 0, none⟩)], boxO g7 [.int .i64 N], boxO g6 [.slice r.A r.e.row.length r.c, .int .i64 r.e.fam, .slice r.B r.e.qual.length r.d, .int .i64 r.e.ts, .int .i64 r.e.seq, .int .i64 r.e.kind, .slice r.D r.e.val.length r.q], boxO b24 [.pointer (some ⟨tg', 0, none⟩)], boxO b83 [.func (.func 55) #[] #[.pointer (some ⟨b5, 0, none⟩)]], boxO b5 [.slice s0.A s0.e.row.length s0.c, .int .i64 s0.e.fam, .slice s0.B s0.e.qual.length s0.d, .int .i64 s0.e.ts, .int .i64 s0.e.seq, .int .i64 s0.e.kind, .slice s0.D s0.e.val.length s0.q]] ++ (([clipO s0.A s0.e.row, clipO s0.B s0.e.qual, clipO s0.D s0.e.val] ++ entO A1 B1 D1 c1 d1 q1 ec) ++ entO A2 B2 D2 c2 d2 q2 ec)) ++ RR) ++ ns) ++ p2)))) z5) := Lib.hid hz; clear hf5 hz HW3)
      | (refine wlIn_one rfl ?_; refine wpList_load_cell rfl 75 (.tmp 9) rfl rfl (HW5.out.cellm (g := g9) (cs := [.func (.func fd) #[] lb.toArray]) (j := 0) (List.mem_append_right _ (.tail _ (.tail _ (.tail _ (.tail _ (.tail _ (List.mem_append_left _ (List.mem_append_left _ (List.mem_append_left _ (List.mem_append_left _ (.tail _ (.tail _ (.tail _ (.head _)))))))))))))) rfl) (fun w => Try.isAgg75 w) ?_; refine wlIn_back ?_)
      | (refine wlIn_one rfl ?_; refine wpList_load_cell rfl 3 (.tmp 14) rfl rfl (HW5.out.cellm (g := g14) (cs := [.int .i64 (m : Nat)]) (j := 0) (List.mem_append_right _ (.tail _ (.tail _ (.head _)))) rfl) (fun w => Try.isAgg3 w) ?_; refine wlIn_back ?_)
      | (refine wlIn_one rfl ?_; refine wl_call_dyn rfl (xs := [.tmp 53]) (lb := lb) rfl rfl HGF.out [.int .i64 (m : Nat)] rfl ?_; refine (HDO.out m ⟨pg', tg', t', fr', A', n', c', rs'⟩ osF5 (boxO g14 [.int .i64 (m : Nat)] :: boxO g10 [.bool false] :: boxO gy [.slice s.A s.e.row.length s.c, .int .i64 s.e.fam, .slice s.B s.e.qual.length s.d, .int .i64 s.e.ts, .int .i64 s.e.seq, .int .i64 s.e.kind, .slice s.D s.e.val.length s.q] :: (((([boxO g13 [.slice (some ⟨bw, ow_, none⟩) nw cw], boxO g11 [.slice A1 ec.row.length c1, .int .i64 ec.fam, .slice B1 ec.qual.length d1, .int .i64 ec.ts, .int .i64 ec.seq, .int .i64 ec.kind, .slice D1 ec.val.length q1], boxO g12 [.slice A2 ec.row.length c2, .int .i64 ec.fam, .slice B2 ec.qual.length d2, .int .i64 ec.ts, .int .i64 ec.seq, .int .i64 ec.kind, .slice D2 ec.val.length q2], boxO g9 [.func (.func fd) #[] lb.toArray], boxO g8 [.pointer (some ⟨fg, 0, none⟩)], boxO g7 [.int .i64 N], boxO g6 [.slice r.A r.e.row.length r.c, .int .i64 r.e.fam, .slice r.B r.e.qual.length r.d, .int .i64 r.e.ts, .int .i64 r.e.seq, .int .i64 r.e.kind, .slice r.D r.e.val.length r.q], boxO b24 [.pointer (some ⟨tg', 0, none⟩)], boxO b83 [.func (.func 55) #[] #[.pointer (some ⟨b5, 0, none⟩)]], boxO b5 [.slice s0.A s0.e.row.length s0.c, .int .i64 s0.e.fam, .slice s0.B s0.e.qual.length s0.d, .int .i64 s0.e.ts, .int .i64 s0.e.seq, .int .i64 s0.e.kind, .slice s0.D s0.e.val.length s0.q]] ++ (([clipO s0.A s0.e.row, clipO s0.B s0.e.qual, clipO s0.D s0.e.val] ++ entO A1 B1 D1 c1 d1 q1 ec) ++ entO A2 B2 D2 c2 d2 q2 ec)) ++ RR) ++ ns) ++ p2)) (ms ++ ns) _ (by omega) rfl rfl ⟨HF5.out, HP'.out, fun o ho => .tail _ (.tail _ (.tail _ (List.mem_append_left _ ((List.mem_append.1 ho).elim (fun ho => List.mem_append_left _ (List.mem_append_right _ (HMS.out o ho))) (fun ho => List.mem_append_right _ ho))))), HW5.out⟩ (HDM.out _ _ HDR.out fun o ho => .tail _ (.tail _ (.tail _ (List.mem_append_left _ (List.mem_append_left _ (List.mem_append_right _ ho)))))) HBL.out).mono ?_; rintro e z6 ⟨rfl, ⟨pg6, tg6, t6, fr6, A6, n6, c6, rs6⟩, osF6, ns6, e1, e2, e3, hb6, hq6⟩; (obtain rfl : pg' = pg6 := e1.symm); (obtain rfl : tg' = tg6 := e2.symm); (obtain rfl : fr' = fr6 := e3.symm); have HB6 : Hid (t6.list.length ≤ B (m + 1)) := Lib.hid hb6; have HQ6f := Lib.hid hq6.f; have HQ6k := Lib.hid hq6.ok; have HW6 : Hid (OW w (boxO g14 [.int .i64 (m : Nat)] :: (osF6 ++ (boxO pg' [.pointer (some ⟨tg', 0, none⟩), .slice A6 n6 c6, .bool fr'] :: boxO tg' (tabC t6 fr') :: (boxO g10 [.bool false] :: boxO gy [.slice s.A s.e.row.length s.c, .int .i64 s.e.fam, .slice s.B s.e.qual.length s.d, .int .i64 s.e.ts, .int .i64 s.e.seq, .int .i64 s.e.kind, .slice s.D s.e.val.length s.q] :: ((((([boxO g13 [.slice (some ⟨bw, ow_, none⟩) nw cw], boxO g11 [.slice A1 ec.row.length c1, .int .i64 ec.fam, .slice B1 ec.qual.length d1, .int .i64 ec.ts, .int .i64 ec.seq, .int .i64 ec.kind, .slice D1 ec.val.length q1], boxO g12 [.slice A2 ec.row.length c2, .int .i64 ec.fam, .slice B2 ec.qual.length d2, .int .i64 ec.ts, .int .i64 ec.seq, .int .i64 ec.kind, .slice D2 ec.val.length q2], boxO g9 [.func (.func fd) #[] lb.toArray], boxO g8 [.pointer (some ⟨fg, 0, none⟩)], boxO g7 [.int .i64 N], boxO g6 [.slice r.A r.e.row.length r.c, .int .i64 r.e.fam, .slice r.B r.e.qual.length r.d, .int .i64 r.e.ts, .int .i64 r.e.seq, .int .i64 r.e.kind, .slice r.D r.e.val.length r.q], boxO b24 [.pointer (some ⟨tg', 0, none⟩)], boxO b83 [.func (.func 55) #[] #[.pointer (some ⟨b5, 0, none⟩)]], boxO b5 [.slice s0.A s0.e.row.length s0.c, .int .i64 s0.e.fam, .slice s0.B s0.e.qual.length s0.d, .int .i64 s0.e.ts, .int .i64 s0.e.seq, .int .i64 s0.e.kind, .slice s0.D s0.e.val.length s0.q]] ++ (([clipO s0.A s0.e.row, clipO s0.B s0.e.qual, clipO s0.D s0.e.val] ++ entO A1 B1 D1 c1 d1 q1 ec) ++ entO A2 B2 D2 c2 d2 q2 ec)) ++ RR) ++ ns) ++ p2) ++ ns6))))) z6) := Lib.hid (hq6.ow.perm (al_perm4 _ _ _ _ _ _ _ _ _)); clear hb6 hq6 HW5; refine ⟨_, rfl, ?_⟩; refine wlIn_back ?_)
      | (refine wlIn_one rfl ?_; refine wpList_load_cell rfl 3 (.tmp 14) rfl rfl (HW6.out.cell (i := 0) (j := 0) rfl rfl) (fun w => Try.isAgg3 w) ?_; refine wlIn_back ?_)
      | (refine wlIn_one rfl ?_; refine wl_put1 rfl (.tmp 14) (.tmp 57) rfl HW6.out 0 rfl 0 rfl (by simp) (.int .i64 ((m : Int) + 1)) rfl (by kernel_rfl) rfl ?_; intro z7 hz _; have HW7 : Hid (OW w ((boxO gy [.slice s.A s.e.row.length s.c, .int .i64 s.e.fam, .slice s.B s.e.qual.length s.d, .int .i64 s.e.ts, .int .i64 s.e.seq, .int .i64 s.e.kind, .slice s.D s.e.val.length s.q] :: (osF6 ++ (boxO pg' [.pointer (some ⟨tg', 0, none⟩), .slice A6 n6 c6, .bool fr'] :: boxO tg' (tabC t6 fr') :: boxO g14 [.int .i64 ((m : Int) + 1)] :: boxO g10 [.bool false] :: (((([boxO g13 [.slice (some ⟨bw, ow_, none⟩) nw cw], boxO g11 [.slice A1 ec.row.length c1, .int .i64 ec.fam, .slice B1 ec.qual.length d1, .int .i64 ec.ts, .int .i64 ec.seq, .int .i64 ec.kind, .slice D1 ec.val.length q1], boxO g12 [.slice A2 ec.row.length c2, .int .i64 ec.fam, .slice B2 ec.qual.length d2, .int .i64 ec.ts, .int .i64 ec.seq, .int .i64 ec.kind, .slice D2 ec.val.length q2], boxO g9 [.func (.func fd) #[] lb.toArray], boxO g8 [.pointer (some ⟨fg, 0, none⟩)], boxO g7 [.int .i64 N], boxO g6 [.slice r.A r.e.row.length r.c, .int .i64 r.e.fam, .slice r.B r.e.qual.length r.d, .int .i64 r.e.ts, .int .i64 r.e.seq, .int .i64 r.e.kind, .slice r.D r.e.val.length r.q], boxO b24 [.pointer (some ⟨tg', 0, none⟩)], boxO b83 [.func (.func 55) #[] #[.pointer (some ⟨b5, 0, none⟩)]], boxO b5 [.slice s0.A s0.e.row.length s0.c, .int .i64 s0.e.fam, .slice s0.B s0.e.qual.length s0.d, .int .i64 s0.e.ts, .int .i64 s0.e.seq, .int .i64 s0.e.kind, .slice s0.D s0.e.val.length s0.q]] ++ (([clipO s0.A s0.e.row, clipO s0.B s0.e.qual, clipO s0.D s0.e.val] ++ entO A1 B1 D1 c1 d1 q1 ec) ++ entO A2 B2 D2 c2 d2 q2 ec)) ++ RR) ++ ns) ++ ns6)))) ++ p2) z7) := Lib.hid (OW.perm (os := boxO g14 [.int .i64 ((m : Int) + 1)] :: (osF6 ++ (boxO pg' [.pointer (some ⟨tg', 0, none⟩), .slice A6 n6 c6, .bool fr'] :: boxO tg' (tabC t6 fr') :: (boxO g10 [.bool false] :: boxO gy [.slice s.A s.e.row.length s.c, .int .i64 s.e.fam, .slice s.B s.e.qual.length s.d, .int .i64 s.e.ts, .int .i64 s.e.seq, .int .i64 s.e.kind, .slice s.D s.e.val.length s.q] :: ((((([boxO g13 [.slice (some ⟨bw, ow_, none⟩) nw cw], boxO g11 [.slice A1 ec.row.length c1, .int .i64 ec.fam, .slice B1 ec.qual.length d1, .int .i64 ec.ts, .int .i64 ec.seq, .int .i64 ec.kind, .slice D1 ec.val.length q1], boxO g12 [.slice A2 ec.row.length c2, .int .i64 ec.fam, .slice B2 ec.qual.length d2, .int .i64 ec.ts, .int .i64 ec.seq, .int .i64 ec.kind, .slice D2 ec.val.length q2], boxO g9 [.func (.func fd) #[] lb.toArray], boxO g8 [.pointer (some ⟨fg, 0, none⟩)], boxO g7 [.int .i64 N], boxO g6 [.slice r.A r.e.row.length r.c, .int .i64 r.e.fam, .slice r.B r.e.qual.length r.d, .int .i64 r.e.ts, .int .i64 r.e.seq, .int .i64 r.e.kind, .slice r.D r.e.val.length r.q], boxO b24 [.pointer (some ⟨tg', 0, none⟩)], boxO b83 [.func (.func 55) #[] #[.pointer (some ⟨b5, 0, none⟩)]], boxO b5 [.slice s0.A s0.e.row.length s0.c, .int .i64 s0.e.fam, .slice s0.B s0.e.qual.length s0.d, .int .i64 s0.e.ts, .int .i64 s0.e.seq, .int .i64 s0.e.kind, .slice s0.D s0.e.val.length s0.q]] ++ (([clipO s0.A s0.e.row, clipO s0.B s0.e.qual, clipO s0.D s0.e.val] ++ entO A1 B1 D1 c1 d1 q1 ec) ++ entO A2 B2 D2 c2 d2 q2 ec)) ++ RR) ++ ns) ++ p2) ++ ns6))))) hz (al_perm5 _ _ _ _ _ _ _ _ _)); clear hz HW6; refine wlIn_back ?_))
    refine ⟨_, LoopI.mk ⟨pg', tg', t6, fr', A6, n6, c6, rs6⟩ osF6 (ns ++ ns6) rfl rfl rfl ?_ HQ6f.out ?_ rfl, ?_⟩
    · rw [List.length_append, ← HM.out]; exact HB6.out
    · rw [← List.append_assoc]; exact HQ6k.out
    · rw [List.length_append, ← HM.out, ← List.append_assoc _ ns ns6]
      exact HW7.out.erase 0
  case done =>
    rintro D os' z hor h
    obtain ⟨k, hkn, ⟨p', osF', ns, e1, e2, e3, hbl, hF', hP', rfl⟩⟩ : ∃ k : Nat, (k = nw ∨ ((k : Int) = N ∧ k < nw)) ∧ LoopI fg pg tg fr (B k) ms (fun p' osF' ns => osF' ++ (p'.box :: p'.tab :: boxO g14 [.int .i64 (k : Nat)] :: boxO g10 [.bool false] :: ((([boxO g13 [.slice Aw nw cw], boxO g11 [.slice A1 ec.row.length c1, .int .i64 ec.fam, .slice B1 ec.qual.length d1, .int .i64 ec.ts, .int .i64 ec.seq, .int .i64 ec.kind, .slice D1 ec.val.length q1], boxO g12 [.slice A2 ec.row.length c2, .int .i64 ec.fam, .slice B2 ec.qual.length d2, .int .i64 ec.ts, .int .i64 ec.seq, .int .i64 ec.kind, .slice D2 ec.val.length q2], boxO g9 [.func (.func fd) #[] lb.toArray], boxO g8 [.pointer (some ⟨fg, 0, none⟩)], boxO g7 [.int .i64 N], boxO g6 [.slice r.A r.e.row.length r.c, .int .i64 r.e.fam, .slice r.B r.e.qual.length r.d, .int .i64 r.e.ts, .int .i64 r.e.seq, .int .i64 r.e.kind, .slice r.D r.e.val.length r.q], boxO b24 [.pointer (some ⟨tg, 0, none⟩)], boxO b83 [.func (.func 55) #[] #[.pointer (some ⟨b5, 0, none⟩)]], boxO b5 [.slice s0.A s0.e.row.length s0.c, .int .i64 s0.e.fam, .slice s0.B s0.e.qual.length s0.d, .int .i64 s0.e.ts, .int .i64 s0.e.seq, .int .i64 s0.e.kind, .slice s0.D s0.e.val.length s0.q]] ++ (([clipO s0.A s0.e.row, clipO s0.B s0.e.qual, clipO s0.D s0.e.val] ++ entO A1 B1 D1 c1 d1 q1 ec) ++ entO A2 B2 D2 c2 d2 q2 ec)) ++ RR) ++ ns))) os' := by
      rcases hor with h1 | ⟨_, _, k, h2, h3, h4⟩
      · rw [HLFN.out] at h1; exact ⟨nw, .inl rfl, h1⟩
      · exact ⟨k, .inr ⟨h2, h3⟩, h4⟩
    obtain ⟨pg', tg', t', fr', A', n', c', rs'⟩ := p'
    obtain rfl : pg' = pg := e1
    obtain rfl : tg' = tg := e2
    obtain rfl : fr' = fr := e3
    have hknw : k ≤ nw := by omega
    have HKN := Lib.hid hkn
    have HF' := Lib.hid hF'
    have HP' := Lib.hid hP'
    have HBL : Hid (t'.list.length ≤ B k) := Lib.hid hbl
    have HZ : Hid (OW w ((boxO g14 [.int .i64 (k : Nat)] :: boxO g10 [.bool false] :: (osF' ++ (boxO pg' [.pointer (some ⟨tg', 0, none⟩), .slice A' n' c', .bool fr'] :: boxO tg' (tabC t' fr') :: ((([boxO g13 [.slice Aw nw cw], boxO g11 [.slice A1 ec.row.length c1, .int .i64 ec.fam, .slice B1 ec.qual.length d1, .int .i64 ec.ts, .int .i64 ec.seq, .int .i64 ec.kind, .slice D1 ec.val.length q1], boxO g12 [.slice A2 ec.row.length c2, .int .i64 ec.fam, .slice B2 ec.qual.length d2, .int .i64 ec.ts, .int .i64 ec.seq, .int .i64 ec.kind, .slice D2 ec.val.length q2], boxO g9 [.func (.func fd) #[] lb.toArray], boxO g8 [.pointer (some ⟨fg, 0, none⟩)], boxO g7 [.int .i64 N], boxO g6 [.slice r.A r.e.row.length r.c, .int .i64 r.e.fam, .slice r.B r.e.qual.length r.d, .int .i64 r.e.ts, .int .i64 r.e.seq, .int .i64 r.e.kind, .slice r.D r.e.val.length r.q], boxO b24 [.pointer (some ⟨tg', 0, none⟩)], boxO b83 [.func (.func 55) #[] #[.pointer (some ⟨b5, 0, none⟩)]], boxO b5 [.slice s0.A s0.e.row.length s0.c, .int .i64 s0.e.fam, .slice s0.B s0.e.qual.length s0.d, .int .i64 s0.e.ts, .int .i64 s0.e.seq, .int .i64 s0.e.kind, .slice s0.D s0.e.val.length s0.q]] ++ (([clipO s0.A s0.e.row, clipO s0.B s0.e.qual, clipO s0.D s0.e.val] ++ entO A1 B1 D1 c1 d1 q1 ec) ++ entO A2 B2 D2 c2 d2 q2 ec)) ++ RR) ++ ns)))) ++ [dfrO D]) z) := Lib.hid (h.perm (al_perm6 _ _ _ _ _ _ _))
    clear h hF' hP' hbl HY hkn hor hIter
    go_upto_region 15 with (first
      | (refine wpList_load_row7 rfl 30 (.tmp 11) rfl rfl (HZ.out.rangem (List.mem_append_left _ (.tail _ (.tail _ (List.mem_append_right _ (.tail _ (.tail _ (List.mem_append_left _ (List.mem_append_left _ (List.mem_append_left _ (.tail _ (.head _)))))))))))) ent_row8 ?_)
      | (refine wpList_load_row7 rfl 30 (.tmp 12) rfl rfl (HZ.out.rangem (List.mem_append_left _ (.tail _ (.tail _ (List.mem_append_right _ (.tail _ (.tail _ (List.mem_append_left _ (List.mem_append_left _ (List.mem_append_left _ (.tail _ (.tail _ (.head _))))))))))))) ent_row8 ?_)
      | (go_at_call 29; go_must (refine (stands8 HZ.out (fun o ho => (List.mem_append_left _ (.tail _ (.tail _ (List.mem_append_right _ (.tail _ (.tail _ (List.mem_append_left _ (List.mem_append_left _ (List.mem_append_right _ (List.mem_append_left _ (List.mem_append_right _ ho)))))))))))) (fun o ho => (List.mem_append_left _ (.tail _ (.tail _ (List.mem_append_right _ (.tail _ (.tail _ (List.mem_append_left _ (List.mem_append_left _ (List.mem_append_right _ (List.mem_append_right _ ho))))))))))) HL5.out).mono ?_); rintro e y6 ⟨rfl, hb⟩; have HZ1 := Lib.hid (HZ.out.later hb); clear hb HZ))
    have HEND : ∀ z8, OW w ((boxO g14 [.int .i64 (k : Nat)] :: boxO g10 [.bool true] :: (osF' ++ (boxO pg' [.pointer (some ⟨tg', 0, none⟩), .slice A' n' c', .bool fr'] :: boxO tg' (tabC t' fr') :: ((([boxO g13 [.slice Aw nw cw], boxO g11 [.slice A1 ec.row.length c1, .int .i64 ec.fam, .slice B1 ec.qual.length d1, .int .i64 ec.ts, .int .i64 ec.seq, .int .i64 ec.kind, .slice D1 ec.val.length q1], boxO g12 [.slice A2 ec.row.length c2, .int .i64 ec.fam, .slice B2 ec.qual.length d2, .int .i64 ec.ts, .int .i64 ec.seq, .int .i64 ec.kind, .slice D2 ec.val.length q2], boxO g9 [.func (.func fd) #[] lb.toArray], boxO g8 [.pointer (some ⟨fg, 0, none⟩)], boxO g7 [.int .i64 N], boxO g6 [.slice r.A r.e.row.length r.c, .int .i64 r.e.fam, .slice r.B r.e.qual.length r.d, .int .i64 r.e.ts, .int .i64 r.e.seq, .int .i64 r.e.kind, .slice r.D r.e.val.length r.q], boxO b24 [.pointer (some ⟨tg', 0, none⟩)], boxO b83 [.func (.func 55) #[] #[.pointer (some ⟨b5, 0, none⟩)]], boxO b5 [.slice s0.A s0.e.row.length s0.c, .int .i64 s0.e.fam, .slice s0.B s0.e.qual.length s0.d, .int .i64 s0.e.ts, .int .i64 s0.e.seq, .int .i64 s0.e.kind, .slice s0.D s0.e.val.length s0.q]] ++ (([clipO s0.A s0.e.row, clipO s0.B s0.e.qual, clipO s0.D s0.e.val] ++ entO A1 B1 D1 c1 d1 q1 ec) ++ entO A2 B2 D2 c2 d2 q2 ec)) ++ RR) ++ ns)))) ++ []) z8 → QP w fg ⟨pg', tg', t, fr', A, n, c, rs⟩ RR ms b (.returned (.bool true)) z8 := fun z8 hz' => by
      refine ⟨rfl, ⟨pg', tg', t', fr', A', n', c', rs'⟩, osF', boxO g14 [.int .i64 (k : Nat)] :: boxO g10 [.bool true] :: (([boxO g13 [.slice Aw nw cw], boxO g11 [.slice A1 ec.row.length c1, .int .i64 ec.fam, .slice B1 ec.qual.length d1, .int .i64 ec.ts, .int .i64 ec.seq, .int .i64 ec.kind, .slice D1 ec.val.length q1], boxO g12 [.slice A2 ec.row.length c2, .int .i64 ec.fam, .slice B2 ec.qual.length d2, .int .i64 ec.ts, .int .i64 ec.seq, .int .i64 ec.kind, .slice D2 ec.val.length q2], boxO g9 [.func (.func fd) #[] lb.toArray], boxO g8 [.pointer (some ⟨fg, 0, none⟩)], boxO g7 [.int .i64 N], boxO g6 [.slice r.A r.e.row.length r.c, .int .i64 r.e.fam, .slice r.B r.e.qual.length r.d, .int .i64 r.e.ts, .int .i64 r.e.seq, .int .i64 r.e.kind, .slice r.D r.e.val.length r.q], boxO b24 [.pointer (some ⟨tg', 0, none⟩)], boxO b83 [.func (.func 55) #[] #[.pointer (some ⟨b5, 0, none⟩)]], boxO b5 [.slice s0.A s0.e.row.length s0.c, .int .i64 s0.e.fam, .slice s0.B s0.e.qual.length s0.d, .int .i64 s0.e.ts, .int .i64 s0.e.seq, .int .i64 s0.e.kind, .slice s0.D s0.e.val.length s0.q]] ++ (([clipO s0.A s0.e.row, clipO s0.B s0.e.qual, clipO s0.D s0.e.val] ++ entO A1 B1 D1 c1 d1 q1 ec) ++ entO A2 B2 D2 c2 d2 q2 ec)) ++ ns), rfl, rfl, rfl, ?_, HF'.out, HP'.out.more fun o ho => ?_, fun o ho => ?_, ?_⟩
      · show t'.list.length ≤ b
        exact Nat.le_trans HBL.out (HBB.out k (by have := HNT.out; omega))
      · rcases List.mem_append.1 ho with ho | ho
        · exact List.mem_append_left _ ho
        · exact List.mem_append_right _ (.tail _ (.tail _ (List.mem_append_right _ ho)))
      · rcases List.mem_append.1 ho with ho | ho
        · exact List.mem_append_left _ (HMS.out o ho)
        · exact List.mem_append_right _ ho
      · exact (hz'.left).perm (al_perm7 _ _ _ _ _ _ _ _)
    have HEND := Lib.hid HEND
    by_cases hk1 : k = nw
    · have e8 : (k == nw) = true := by rw [hk1]; simp
      have e9 : ((k : Int) == (nw : Int)) = true := by rw [hk1]; simp
      clear hk1
      have tk1 : True := trivial
      have tk2 : True := trivial
      go_wp2_with (first
        | ((guard_target =~ wpList _ _ _ ({ dst := _, op := _, type := _, pos := _, after := _, guard := some _ } :: _) _ _); (with_reducible refine wl_skipQ ?hw ?_); (case hw => kernel_rfl))
        | (clear tk1; refine wpList_load_cell rfl 3 (.tmp 14) rfl rfl (HZ1.out.cell (i := 0) (j := 0) rfl rfl) (fun w => Try.isAgg3 w) ?_)
        | (clear tk2; refine wpList_load_cell rfl 22 (.tmp 13) rfl rfl (HZ1.out.cellm (g := g13) (cs := [.slice Aw nw cw]) (j := 0) (List.mem_append_left _ (.tail _ (.tail _ (List.mem_append_right _ (.tail _ (.tail _ (List.mem_append_left _ (List.mem_append_left _ (List.mem_append_left _ (.head _)))))))))) rfl) (fun w => Try.isAgg22 w) ?_)
        | (refine wl_put1 rfl (.tmp 10) (.tmp 76) rfl HZ1.out 1 rfl 0 rfl (by simp) (.bool true) rfl (by kernel_rfl) rfl ?_; intro z8 hz _; have HZ2 : Hid (OW w ((boxO g14 [.int .i64 (k : Nat)] :: boxO g10 [.bool true] :: (osF' ++ (boxO pg' [.pointer (some ⟨tg', 0, none⟩), .slice A' n' c', .bool fr'] :: boxO tg' (tabC t' fr') :: ((([boxO g13 [.slice Aw nw cw], boxO g11 [.slice A1 ec.row.length c1, .int .i64 ec.fam, .slice B1 ec.qual.length d1, .int .i64 ec.ts, .int .i64 ec.seq, .int .i64 ec.kind, .slice D1 ec.val.length q1], boxO g12 [.slice A2 ec.row.length c2, .int .i64 ec.fam, .slice B2 ec.qual.length d2, .int .i64 ec.ts, .int .i64 ec.seq, .int .i64 ec.kind, .slice D2 ec.val.length q2], boxO g9 [.func (.func fd) #[] lb.toArray], boxO g8 [.pointer (some ⟨fg, 0, none⟩)], boxO g7 [.int .i64 N], boxO g6 [.slice r.A r.e.row.length r.c, .int .i64 r.e.fam, .slice r.B r.e.qual.length r.d, .int .i64 r.e.ts, .int .i64 r.e.seq, .int .i64 r.e.kind, .slice r.D r.e.val.length r.q], boxO b24 [.pointer (some ⟨tg', 0, none⟩)], boxO b83 [.func (.func 55) #[] #[.pointer (some ⟨b5, 0, none⟩)]], boxO b5 [.slice s0.A s0.e.row.length s0.c, .int .i64 s0.e.fam, .slice s0.B s0.e.qual.length s0.d, .int .i64 s0.e.ts, .int .i64 s0.e.seq, .int .i64 s0.e.kind, .slice s0.D s0.e.val.length s0.q]] ++ (([clipO s0.A s0.e.row, clipO s0.B s0.e.qual, clipO s0.D s0.e.val] ++ entO A1 B1 D1 c1 d1 q1 ec) ++ entO A2 B2 D2 c2 d2 q2 ec)) ++ RR) ++ ns)))) ++ dfrO D :: []) z8) := Lib.hid hz; clear hz HZ1))
      refine leaves_mark HZ2.out fun z' hz' => leaves0 (results_cell1 rfl _ _ g10 (.bool true) rfl (hz'.cell (i := 1) (j := 0) rfl rfl) (fun w => Try.isAgg4 w)) ?_
      exact HEND.out z' hz'
    · obtain ⟨hkN, hkl⟩ : (k : Int) = N ∧ k < nw := by
        rcases HKN.out with h | h
        · exact absurd h hk1
        · exact h
      have e8 : (k == nw) = false := beq_eq_false_iff_ne.2 hk1
      have e9 : ((k : Int) == (nw : Int)) = false := beq_eq_false_iff_ne.2 (by omega)
      have e10 : ((k : Int) == N) = true := beq_iff_eq.2 hkN
      have e11 : decide ((k : Int) < (nw : Int)) = true := decide_eq_true (by omega)
      clear hkN
      go_wp2_with (first
        | (refine wpList_load_cell rfl 3 (.tmp 14) rfl rfl (HZ1.out.cell (i := 0) (j := 0) rfl rfl) (fun w => Try.isAgg3 w) ?_)
        | (refine wpList_load_cell rfl 3 (.tmp 7) rfl rfl (HZ1.out.cellm (g := g7) (cs := [.int .i64 N]) (j := 0) (List.mem_append_left _ (.tail _ (.tail _ (List.mem_append_right _ (.tail _ (.tail _ (List.mem_append_left _ (List.mem_append_left _ (List.mem_append_left _ (.tail _ (.tail _ (.tail _ (.tail _ (.tail _ (.head _))))))))))))))) rfl) (fun w => Try.isAgg3 w) ?_)
        | (refine wpList_load_cell rfl 22 (.tmp 13) rfl rfl (HZ1.out.cellm (g := g13) (cs := [.slice Aw nw cw]) (j := 0) (List.mem_append_left _ (.tail _ (.tail _ (List.mem_append_right _ (.tail _ (.tail _ (List.mem_append_left _ (List.mem_append_left _ (List.mem_append_left _ (.head _)))))))))) rfl) (fun w => Try.isAgg22 w) ?_)
        | (refine wl_put1 rfl (.tmp 10) (.tmp 76) rfl HZ1.out 1 rfl 0 rfl (by simp) (.bool true) rfl (by kernel_rfl) rfl ?_; intro z8 hz _; have HZ2 : Hid (OW w ((boxO g14 [.int .i64 (k : Nat)] :: boxO g10 [.bool true] :: (osF' ++ (boxO pg' [.pointer (some ⟨tg', 0, none⟩), .slice A' n' c', .bool fr'] :: boxO tg' (tabC t' fr') :: ((([boxO g13 [.slice Aw nw cw], boxO g11 [.slice A1 ec.row.length c1, .int .i64 ec.fam, .slice B1 ec.qual.length d1, .int .i64 ec.ts, .int .i64 ec.seq, .int .i64 ec.kind, .slice D1 ec.val.length q1], boxO g12 [.slice A2 ec.row.length c2, .int .i64 ec.fam, .slice B2 ec.qual.length d2, .int .i64 ec.ts, .int .i64 ec.seq, .int .i64 ec.kind, .slice D2 ec.val.length q2], boxO g9 [.func (.func fd) #[] lb.toArray], boxO g8 [.pointer (some ⟨fg, 0, none⟩)], boxO g7 [.int .i64 N], boxO g6 [.slice r.A r.e.row.length r.c, .int .i64 r.e.fam, .slice r.B r.e.qual.length r.d, .int .i64 r.e.ts, .int .i64 r.e.seq, .int .i64 r.e.kind, .slice r.D r.e.val.length r.q], boxO b24 [.pointer (some ⟨tg', 0, none⟩)], boxO b83 [.func (.func 55) #[] #[.pointer (some ⟨b5, 0, none⟩)]], boxO b5 [.slice s0.A s0.e.row.length s0.c, .int .i64 s0.e.fam, .slice s0.B s0.e.qual.length s0.d, .int .i64 s0.e.ts, .int .i64 s0.e.seq, .int .i64 s0.e.kind, .slice s0.D s0.e.val.length s0.q]] ++ (([clipO s0.A s0.e.row, clipO s0.B s0.e.qual, clipO s0.D s0.e.val] ++ entO A1 B1 D1 c1 d1 q1 ec) ++ entO A2 B2 D2 c2 d2 q2 ec)) ++ RR) ++ ns)))) ++ dfrO D :: []) z8) := Lib.hid hz; clear hz HZ1))
      refine leaves_mark HZ2.out fun z' hz' => leaves0 (results_cell1 rfl _ _ g10 (.bool true) rfl (hz'.cell (i := 1) (j := 0) rfl rfl) (fun w => Try.isAgg4 w)) ?_
      exact HEND.out z' hz'
end Go.Proofs.Ytdaoinhkagmbdaa
namespace Go.Proofs.Ytdaoinhkagmbdaa
open Go.RowKit
structure SR where
  K : Int
  O : Bool
  E : ER
  G : ER
  N : Int
def B1Q (b : Nat) (N : Int) (i : Nat) : Nat := if (i : Int) > N then b + 1 else b
theorem B1Q.at {b i : Nat} {N : Int} (h : (i : Int) = N) : B1Q b N i = b ∧ B1Q b N (i + 1) = b + 1 := by
  unfold B1Q; rw [if_neg (by omega), if_pos (by omega)]; exact ⟨rfl, rfl⟩
theorem B1Q.mono (b i : Nat) (N : Int) : B1Q b N i ≤ B1Q b N (i + 1) := by
  unfold B1Q; (repeat' split) <;> omega
theorem B1Q.le (b i : Nat) (N : Int) : B1Q b N i ≤ b + 1 := by
  unfold B1Q; split <;> omega
theorem B1Q.ge (b i : Nat) (N : Int) : b ≤ B1Q b N i := by
  unfold B1Q; split <;> omega
theorem range_part {x : World} {g : Nat} {cs : List Value} (h : x.rangeAt g 0 cs) (k : Nat) (ds : List Value) (hd : ∀ j v, ds[j]? = some v → cs[k + j]? = some v) : x.rangeAt g k ds := fun j v hj => by
  have := h (k + j) v (hd j v hj)
  rwa [Nat.zero_add] at this
theorem wpList_load_row7o {P : Program} {ops : Array Oper} {Q : Exit → Act → World → Prop} {rest : List Oper} {o : Oper} {a : Act} {x : World} (hgd : Region.wanted o (yielded ops a.tmps) = true) (ty : TypeId) (p : Operand) (ho : o.op = .load ty p) {b k : Nat} {cs : List Value} (hx : a.eval p = .pointer (some ⟨b, k, none⟩)) (hr : x.rangeAt b k cs) (ht : RowTy P ty cs.length)
    (hK : wpList P ops Q rest (a.put o.dst (.agg cs.toArray)) x) : wpList P ops Q (o :: rest) a x := by
  obtain ⟨⟨d, hu, hd⟩, hi⟩ := ht
  exact BigFrame.wpList_want hgd fun _ h => wp_load_mid ty p ho b k hx cs d hr hu hd hi (h _ _ hK)
structure DSt (g3 g4 g5 pg fg : Nat) (s : SR) (os : List Ob) : Prop where
  m3 : boxO g3 [.pointer (some ⟨pg, 0, none⟩)] ∈ os
  m4 : boxO g4 [.int .i64 s.K, .bool s.O, .slice s.E.A s.E.e.row.length s.E.c, .int .i64 s.E.e.fam, .slice s.E.B s.E.e.qual.length s.E.d, .int .i64 s.E.e.ts, .int .i64 s.E.e.seq, .int .i64 s.E.e.kind, .slice s.E.D s.E.e.val.length s.E.q, .slice s.G.A s.G.e.row.length s.G.c, .int .i64 s.G.e.fam, .slice s.G.B s.G.e.qual.length s.G.d, .int .i64 s.G.e.ts, .int .i64 s.G.e.seq, .int .i64 s.G.e.kind, .slice s.G.D s.G.e.val.length s.G.q, .int .i64 s.N] ∈ os
  m5 : boxO g5 [.pointer (some ⟨fg, 0, none⟩)] ∈ os
theorem DSt.more {g3 g4 g5 pg fg : Nat} {s : SR} {os os' : List Ob} (h : DSt g3 g4 g5 pg fg s os) (hs : ∀ o, o ∈ os → o ∈ os') : DSt g3 g4 g5 pg fg s os' := ⟨hs _ h.m3, hs _ h.m4, hs _ h.m5⟩
def SBQ (w : World) (g3 g4 g5 pg fg : Nat) (s : SR) (z : World) : Prop := ∃ os, OW w os z ∧ DSt g3 g4 g5 pg fg s os
theorem SBQ.later {w : World} {g3 g4 g5 pg fg : Nat} {s : SR} {z y : World} (h : SBQ w g3 g4 g5 pg fg s z) (hb : Below z.heap.size z y) : SBQ w g3 g4 g5 pg fg s y := by
  obtain ⟨os, h1, h2⟩ := h; exact ⟨os, h1.later hb, h2⟩
theorem SBQ.p {w : World} {g3 g4 g5 pg fg : Nat} {s : SR} {z : World} (h : SBQ w g3 g4 g5 pg fg s z) : z.cell? ⟨g3, 0, none⟩ = some (.pointer (some ⟨pg, 0, none⟩)) := by
  obtain ⟨os, h1, h2⟩ := h; exact h1.cellm (j := 0) h2.m3 rfl
theorem SBQ.f {w : World} {g3 g4 g5 pg fg : Nat} {s : SR} {z : World} (h : SBQ w g3 g4 g5 pg fg s z) : z.cell? ⟨g5, 0, none⟩ = some (.pointer (some ⟨fg, 0, none⟩)) := by
  obtain ⟨os, h1, h2⟩ := h; exact h1.cellm (j := 0) h2.m5 rfl
theorem SBQ.k {w : World} {g3 g4 g5 pg fg : Nat} {s : SR} {z : World} (h : SBQ w g3 g4 g5 pg fg s z) : z.cell? ⟨g4, 0, none⟩ = some (.int .i64 s.K) := by
  obtain ⟨os, h1, h2⟩ := h; exact h1.cellm (j := 0) h2.m4 rfl
theorem SBQ.n {w : World} {g3 g4 g5 pg fg : Nat} {s : SR} {z : World} (h : SBQ w g3 g4 g5 pg fg s z) : z.cell? ⟨g4, 16, none⟩ = some (.int .i64 s.N) := by
  obtain ⟨os, h1, h2⟩ := h; exact h1.cellm (j := 16) h2.m4 rfl
theorem SBQ.e {w : World} {g3 g4 g5 pg fg : Nat} {s : SR} {z : World} (h : SBQ w g3 g4 g5 pg fg s z) : z.rangeAt g4 2 [.slice s.E.A s.E.e.row.length s.E.c, .int .i64 s.E.e.fam, .slice s.E.B s.E.e.qual.length s.E.d, .int .i64 s.E.e.ts, .int .i64 s.E.e.seq, .int .i64 s.E.e.kind, .slice s.E.D s.E.e.val.length s.E.q] := by
  obtain ⟨os, h1, h2⟩ := h
  exact range_part (h1.rangem h2.m4) 2 _ fun j v hj => by
    match j, hj with
    | 0, hj => exact hj
    | 1, hj => exact hj
    | 2, hj => exact hj
    | 3, hj => exact hj
    | 4, hj => exact hj
    | 5, hj => exact hj
    | 6, hj => exact hj
    | (j + 7), hj => exact absurd hj (by simp)
theorem SBQ.g {w : World} {g3 g4 g5 pg fg : Nat} {s : SR} {z : World} (h : SBQ w g3 g4 g5 pg fg s z) : z.rangeAt g4 9 [.slice s.G.A s.G.e.row.length s.G.c, .int .i64 s.G.e.fam, .slice s.G.B s.G.e.qual.length s.G.d, .int .i64 s.G.e.ts, .int .i64 s.G.e.seq, .int .i64 s.G.e.kind, .slice s.G.D s.G.e.val.length s.G.q] := by
  obtain ⟨os, h1, h2⟩ := h
  exact range_part (h1.rangem h2.m4) 9 _ fun j v hj => by
    match j, hj with
    | 0, hj => exact hj
    | 1, hj => exact hj
    | 2, hj => exact hj
    | 3, hj => exact hj
    | 4, hj => exact hj
    | 5, hj => exact hj
    | 6, hj => exact hj
    | (j + 7), hj => exact absurd hj (by simp)
theorem QS.later {w : World} {fg : Nat} {p : PS} {osF RR ms : List Ob} {z y : World} (h : QS w fg p osF RR ms z) (hb : Below z.heap.size z y) : QS w fg p osF RR ms y := ⟨h.f, h.ok, h.sub, h.ow.later hb⟩
theorem QS.sb {w : World} {fg g3 g4 g5 pg : Nat} {s : SR} {p : PS} {osF RR ms : List Ob} {z : World} (h : QS w fg p osF RR ms z) (hD : DSt g3 g4 g5 pg fg s RR) : SBQ w g3 g4 g5 pg fg s z := ⟨_, h.ow, hD.more fun _ ho => List.mem_append_right _ (.tail _ (.tail _ ho))⟩
theorem goFn_nothing : GoFn Try.prog 36 := ⟨_, Try.func36, by decide, by kernel_rfl⟩
theorem pgives0 {w x : World} {fg b : Nat} {p : PS} {osF RR ms : List Ob} (r : ER) (N : Int) (h : QS w fg p osF RR ms x) (hr : ∀ z, Below w.heap.size w z → r.En z) (hl : p.t.list.length ≤ b) (hb : b ≤ 80000) :
    Calls Try.prog 61 #[.pointer (some ⟨p.pg, 0, none⟩), .agg #[.slice r.A r.e.row.length r.c, .int .i64 r.e.fam, .slice r.B r.e.qual.length r.d, .int .i64 r.e.ts, .int .i64 r.e.seq, .int .i64 r.e.kind, .slice r.D r.e.val.length r.q], .int .i64 N, .pointer (some ⟨fg, 0, none⟩), .func (.func 36) #[] #[]] x (QP w fg p RR ms b) :=
  pgives_any r N h hr goFn_nothing (nothing_any w fg p.pg p.tg b) trivial (fun _ _ _ _ => trivial) hl (fun _ _ => Nat.le_refl _) hb
theorem pall0 {w x : World} {fg b : Nat} {p : PS} {osF RR ms : List Ob} (h : QS w fg p osF RR ms x) (hl : p.t.list.length ≤ b) (hb : b ≤ 80000) :
    Calls Try.prog 35 #[.pointer (some ⟨p.pg, 0, none⟩), .pointer (some ⟨fg, 0, none⟩), .func (.func 36) #[] #[]] x (QP w fg p RR ms b) :=
  pall_any (B := fun _ => b) h goFn_nothing (nothing_any w fg p.pg p.tg b) trivial (fun _ _ _ _ => trivial) hl (fun _ _ => hb)
theorem QS.assoc {w : World} {fg : Nat} {p : PS} {osF RR ms X Y : List Ob} {z : World} (h : QS w fg p osF ((RR ++ X) ++ Y) ((ms ++ X) ++ Y) z) : QS w fg p osF (RR ++ (X ++ Y)) (ms ++ (X ++ Y)) z := by
  rw [List.append_assoc, List.append_assoc] at h; exact h
def QPF (w : World) (fg : Nat) (p : PS) (RR ms : List Ob) (b : Nat) (e : Ending) (z : World) : Prop :=
  e = .returned (.bool true) ∧ ∃ p' osF' ns, p'.pg = p.pg ∧ p'.tg = p.tg ∧ p'.t.list.length ≤ b ∧ QS w fg p' osF' (RR ++ ns) (ms ++ ns) z
theorem qs_perm (a b c p t : Ob) (F R N : List Ob) : (F ++ (p :: t :: ((a :: b :: c :: R) ++ N))).Perm (F ++ (p :: t :: (R ++ (a :: b :: c :: N)))) := by (refine perm_of_cnt fun a => ?_; (first | ((repeat (first | rw [cntO_app] | rw [cntO_cons] | rw [cntO_nil])) <;> omega) | ((simp only [cntO_app, cntO_cons, cntO_nil]) <;> omega)))
theorem qs_perm0 (a b c p t : Ob) (F R : List Ob) : (a :: b :: c :: (F ++ (p :: t :: R))).Perm (F ++ (p :: t :: (a :: b :: c :: R))) := by (refine perm_of_cnt fun a => ?_; (first | ((repeat (first | rw [cntO_app] | rw [cntO_cons] | rw [cntO_nil])) <;> omega) | ((simp only [cntO_app, cntO_cons, cntO_nil]) <;> omega)))
theorem qs_front (p t : Ob) (F R : List Ob) : (F ++ (p :: t :: R)).Perm (t :: p :: (F ++ R)) := by (refine perm_of_cnt fun a => ?_; (first | ((repeat (first | rw [cntO_app] | rw [cntO_cons] | rw [cntO_nil])) <;> omega) | ((simp only [cntO_app, cntO_cons, cntO_nil]) <;> omega)))
theorem qs_back (p t : Ob) (F R : List Ob) : (t :: p :: (F ++ R)).Perm (F ++ (p :: t :: R)) := by (refine perm_of_cnt fun a => ?_; (first | ((repeat (first | rw [cntO_app] | rw [cntO_cons] | rw [cntO_nil])) <;> omega) | ((simp only [cntO_app, cntO_cons, cntO_nil]) <;> omega)))
theorem QS.shift {w : World} {fg : Nat} {p : PS} {osF RR ms N : List Ob} {a b c : Ob} {z : World} (hs : ∀ o, o ∈ ms → o ∈ RR) (h : QS w fg p osF ((a :: b :: c :: RR) ++ N) (ms ++ N) z) : QS w fg p osF (RR ++ (a :: b :: c :: N)) (ms ++ (a :: b :: c :: N)) z :=
  ⟨h.f, h.ok.more fun o ho => by
    rcases List.mem_append.1 ho with ho | ho
    · exact List.mem_append_left _ ho
    · exact List.mem_append_right _ (.tail _ (.tail _ (.tail _ ho))),
   fun o ho => by
    rcases List.mem_append.1 ho with ho | ho
    · exact List.mem_append_left _ (hs o ho)
    · exact List.mem_append_right _ ho, h.ow.perm (qs_perm _ _ _ _ _ _ _ _)⟩
set_option maxRecDepth 10000000 in
set_option maxHeartbeats 16000000 in
theorem pstep1_any {w : World} {fg pg tg g3 g4 g5 b : Nat} (s : SR) (hG : ∀ z, Below w.heap.size w z → s.G.En z) (hb : b ≤ 79999) :
    DoOK w fg pg tg 62 [.pointer (some ⟨g4, 0, none⟩), .pointer (some ⟨g3, 0, none⟩), .pointer (some ⟨g5, 0, none⟩)] (DSt g3 g4 g5 pg fg s) (B1Q b s.N) := by
  intro i p osF RR ms z hi hpg htg h hD hl
  obtain rfl : pg = p.pg := hpg.symm
  have H := Lib.hid h
  have HSB := Lib.hid (h.sb hD)
  have HG := Lib.hid hG
  have HL := Lib.hid hl
  clear h hD hpg htg hG hl
  show Calls Try.prog 62 #[.int .i64 (i : Nat), .pointer (some ⟨g4, 0, none⟩), .pointer (some ⟨g3, 0, none⟩), .pointer (some ⟨g5, 0, none⟩)] z _
  go_enter Try.func62, Try.ntmps62
  by_cases hN : (i : Int) = s.N
  case pos =>
    have dN : ((i : Int) != s.N) = false := by rw [hN]; simp
    have HN := Lib.hid hN
    clear hN
    go_wp2_with (first
      | (refine wpList_load_cell rfl 3 (.tmp 7) rfl rfl HSB.out.n (fun w => Try.isAgg3 w) ?_)
      | (refine wpList_load_cell rfl 65 (.tmp 2) rfl rfl HSB.out.p (fun w => Try.isAgg65 w) ?_)
      | (refine wpList_load_row7o rfl 30 (.tmp 12) rfl rfl HSB.out.g ent_row8 ?_)
      | (refine wpList_load_cell rfl 68 (.tmp 3) rfl rfl HSB.out.f (fun w => Try.isAgg68 w) ?_)
      | (go_at_call 63; go_must (refine (padd_any s.G H.out.f H.out.ok H.out.sub H.out.ow (fun z hz => HG.out z hz) (by have h1 := HL.out; have h2 := B1Q.le b i s.N; omega)).mono ?_); rintro e y ⟨rfl, p', ns, osF', e1, e2, e3, hle, hf, hok, hz⟩; have HR : Hid (QP w fg p RR ms (B1Q b s.N (i + 1)) (.returned (.bool true)) y) := Lib.hid ⟨rfl, p', osF', ns, e1, e2, e3, by have h1 := HL.out; have h2 := B1Q.at (b := b) HN.out; omega, hf, hok, fun o ho => (List.mem_append.1 ho).elim (fun ho => List.mem_append_left _ (H.out.sub o ho)) (fun ho => List.mem_append_right _ ho), hz⟩; clear e1 e2 e3 hle hf hok hz))
    go_ret
    exact HR.out
  case neg =>
    have dN : ((i : Int) != s.N) = true := by simp [hN]
    clear hN
    go_wp2_with (first
      | ((guard_target =~ wpList _ _ _ ({ dst := _, op := _, type := _, pos := _, after := _, guard := some _ } :: _) _ _); (with_reducible refine wl_skipQ ?hw ?_); (case hw => kernel_rfl))
      | (refine wpList_load_cell rfl 3 (.tmp 7) rfl rfl HSB.out.n (fun w => Try.isAgg3 w) ?_))
    go_ret
    exact ⟨rfl, p, osF, [], rfl, rfl, rfl, Nat.le_trans HL.out (B1Q.mono _ _ _), by rw [List.append_nil, List.append_nil]; exact H.out⟩
set_option maxRecDepth 10000000 in
set_option maxHeartbeats 16000000 in
theorem pstep2_any {w : World} {fg pg tg g3 g4 g5 b : Nat} (s : SR) (hb : b ≤ 80000) :
    DoOK w fg pg tg 64 [.pointer (some ⟨g4, 0, none⟩), .pointer (some ⟨g3, 0, none⟩), .pointer (some ⟨g5, 0, none⟩)] (DSt g3 g4 g5 pg fg s) (fun _ => b) := by
  intro i p osF RR ms z hi hpg htg h hD hl
  obtain rfl : pg = p.pg := hpg.symm
  have H := Lib.hid h
  have HSB := Lib.hid (h.sb hD)
  have HL : Hid (p.t.list.length ≤ b) := Lib.hid hl
  clear h hD hpg htg hl
  show Calls Try.prog 64 #[.int .i64 (i : Nat), .pointer (some ⟨g4, 0, none⟩), .pointer (some ⟨g3, 0, none⟩), .pointer (some ⟨g5, 0, none⟩)] z (QP w fg p RR ms b)
  go_enter Try.func64, Try.ntmps64
  by_cases hN : (i : Int) = s.N
  case pos =>
    have dN : ((i : Int) != s.N) = false := by rw [hN]; simp
    clear hN
    go_wp2_with (first
      | (refine wpList_load_cell rfl 3 (.tmp 7) rfl rfl HSB.out.n (fun w => Try.isAgg3 w) ?_)
      | (refine wpList_load_cell rfl 65 (.tmp 2) rfl rfl HSB.out.p (fun w => Try.isAgg65 w) ?_)
      | (refine wpList_load_cell rfl 68 (.tmp 3) rfl rfl HSB.out.f (fun w => Try.isAgg68 w) ?_)
      | (go_at_call 35; go_must (refine (pall0 H.out HL.out hb).mono ?_); rintro e y hq; have HR := Lib.hid hq; have he := hq.1; subst he; clear hq))
    go_ret
    exact HR.out
  case neg =>
    have dN : ((i : Int) != s.N) = true := by simp [hN]
    clear hN
    go_wp2_with (first
      | ((guard_target =~ wpList _ _ _ ({ dst := _, op := _, type := _, pos := _, after := _, guard := some _ } :: _) _ _); (with_reducible refine wl_skipQ ?hw ?_); (case hw => kernel_rfl))
      | (refine wpList_load_cell rfl 3 (.tmp 7) rfl rfl HSB.out.n (fun w => Try.isAgg3 w) ?_))
    go_ret
    exact ⟨rfl, p, osF, [], rfl, rfl, rfl, HL.out, by rw [List.append_nil, List.append_nil]; exact H.out⟩
theorem goFn_step1 : GoFn Try.prog 62 := ⟨_, Try.func62, by decide, by kernel_rfl⟩
theorem goFn_step2 : GoFn Try.prog 64 := ⟨_, Try.func64, by decide, by kernel_rfl⟩
set_option maxRecDepth 10000000 in
set_option maxHeartbeats 16000000 in
theorem pstep_any {w x : World} {fg b : Nat} {p : PS} {osF RR ms : List Ob} (s : SR) (h : QS w fg p osF RR ms x) (hE : ∀ z, Below w.heap.size w z → s.E.En z) (hG : ∀ z, Below w.heap.size w z → s.G.En z) (hl : p.t.list.length ≤ b) (hb : b ≤ 79000) :
    Calls Try.prog 33 #[.pointer (some ⟨p.pg, 0, none⟩), .agg #[.int .i64 s.K, .bool s.O, .slice s.E.A s.E.e.row.length s.E.c, .int .i64 s.E.e.fam, .slice s.E.B s.E.e.qual.length s.E.d, .int .i64 s.E.e.ts, .int .i64 s.E.e.seq, .int .i64 s.E.e.kind, .slice s.E.D s.E.e.val.length s.E.q, .slice s.G.A s.G.e.row.length s.G.c, .int .i64 s.G.e.fam, .slice s.G.B s.G.e.qual.length s.G.d, .int .i64 s.G.e.ts, .int .i64 s.G.e.seq, .int .i64 s.G.e.kind, .slice s.G.D s.G.e.val.length s.G.q, .int .i64 s.N], .pointer (some ⟨fg, 0, none⟩)] x (QPF w fg p RR ms (b + 1)) := by
  have HSUB := Lib.hid h.sub
  have H0 := Lib.hid h
  have HX0 : Hid (OW w (osF ++ (p.box :: p.tab :: RR)) x) := Lib.hid h.ow
  have HE := Lib.hid hE
  have HG := Lib.hid hG
  have HL := Lib.hid hl
  clear h hE hG hl
  go_enter Try.func33, Try.ntmps33
  go_upto_region 1 with (first
    | (refine wl_box rfl (.tmp 0) rfl [.pointer (some ⟨p.pg, 0, none⟩)] rfl HX0.out ?_; intro g3 x1 hz hb1; have HX1 : Hid (OW w (boxO g3 [.pointer (some ⟨p.pg, 0, none⟩)] :: (osF ++ (p.box :: p.tab :: RR))) x1) := Lib.hid (hz.perm List.perm_append_comm); clear hz hb1 HX0)
    | (refine wl_box rfl (.tmp 1) rfl [.int .i64 s.K, .bool s.O, .slice s.E.A s.E.e.row.length s.E.c, .int .i64 s.E.e.fam, .slice s.E.B s.E.e.qual.length s.E.d, .int .i64 s.E.e.ts, .int .i64 s.E.e.seq, .int .i64 s.E.e.kind, .slice s.E.D s.E.e.val.length s.E.q, .slice s.G.A s.G.e.row.length s.G.c, .int .i64 s.G.e.fam, .slice s.G.B s.G.e.qual.length s.G.d, .int .i64 s.G.e.ts, .int .i64 s.G.e.seq, .int .i64 s.G.e.kind, .slice s.G.D s.G.e.val.length s.G.q, .int .i64 s.N] rfl HX1.out ?_; intro g4 x2 hz hb2; have HX2 : Hid (OW w (boxO g4 [.int .i64 s.K, .bool s.O, .slice s.E.A s.E.e.row.length s.E.c, .int .i64 s.E.e.fam, .slice s.E.B s.E.e.qual.length s.E.d, .int .i64 s.E.e.ts, .int .i64 s.E.e.seq, .int .i64 s.E.e.kind, .slice s.E.D s.E.e.val.length s.E.q, .slice s.G.A s.G.e.row.length s.G.c, .int .i64 s.G.e.fam, .slice s.G.B s.G.e.qual.length s.G.d, .int .i64 s.G.e.ts, .int .i64 s.G.e.seq, .int .i64 s.G.e.kind, .slice s.G.D s.G.e.val.length s.G.q, .int .i64 s.N] :: boxO g3 [.pointer (some ⟨p.pg, 0, none⟩)] :: (osF ++ (p.box :: p.tab :: RR))) x2) := Lib.hid (hz.perm List.perm_append_comm); clear hz hb2 HX1)
    | (refine wl_box rfl (.tmp 2) rfl [.pointer (some ⟨fg, 0, none⟩)] rfl HX2.out ?_; intro g5 x3 hz hb3; have HX3 : Hid (OW w (boxO g5 [.pointer (some ⟨fg, 0, none⟩)] :: boxO g4 [.int .i64 s.K, .bool s.O, .slice s.E.A s.E.e.row.length s.E.c, .int .i64 s.E.e.fam, .slice s.E.B s.E.e.qual.length s.E.d, .int .i64 s.E.e.ts, .int .i64 s.E.e.seq, .int .i64 s.E.e.kind, .slice s.E.D s.E.e.val.length s.E.q, .slice s.G.A s.G.e.row.length s.G.c, .int .i64 s.G.e.fam, .slice s.G.B s.G.e.qual.length s.G.d, .int .i64 s.G.e.ts, .int .i64 s.G.e.seq, .int .i64 s.G.e.kind, .slice s.G.D s.G.e.val.length s.G.q, .int .i64 s.N] :: boxO g3 [.pointer (some ⟨p.pg, 0, none⟩)] :: (osF ++ (p.box :: p.tab :: RR))) x3) := Lib.hid (hz.perm List.perm_append_comm); clear hz hb3 HX2))
  try simp only [Act.put, List.setIfInBounds_toArray, List.set_cons_zero, List.set_cons_succ]
  have HD : Hid (DSt g3 g4 g5 p.pg fg s (boxO g5 [.pointer (some ⟨fg, 0, none⟩)] :: boxO g4 [.int .i64 s.K, .bool s.O, .slice s.E.A s.E.e.row.length s.E.c, .int .i64 s.E.e.fam, .slice s.E.B s.E.e.qual.length s.E.d, .int .i64 s.E.e.ts, .int .i64 s.E.e.seq, .int .i64 s.E.e.kind, .slice s.E.D s.E.e.val.length s.E.q, .slice s.G.A s.G.e.row.length s.G.c, .int .i64 s.G.e.fam, .slice s.G.B s.G.e.qual.length s.G.d, .int .i64 s.G.e.ts, .int .i64 s.G.e.seq, .int .i64 s.G.e.kind, .slice s.G.D s.G.e.val.length s.G.q, .int .i64 s.N] :: boxO g3 [.pointer (some ⟨p.pg, 0, none⟩)] :: RR)) := Lib.hid ⟨.tail _ (.tail _ (.head _)), .tail _ (.head _), .head _⟩
  have H : Hid (QS w fg p osF (boxO g5 [.pointer (some ⟨fg, 0, none⟩)] :: boxO g4 [.int .i64 s.K, .bool s.O, .slice s.E.A s.E.e.row.length s.E.c, .int .i64 s.E.e.fam, .slice s.E.B s.E.e.qual.length s.E.d, .int .i64 s.E.e.ts, .int .i64 s.E.e.seq, .int .i64 s.E.e.kind, .slice s.E.D s.E.e.val.length s.E.q, .slice s.G.A s.G.e.row.length s.G.c, .int .i64 s.G.e.fam, .slice s.G.B s.G.e.qual.length s.G.d, .int .i64 s.G.e.ts, .int .i64 s.G.e.seq, .int .i64 s.G.e.kind, .slice s.G.D s.G.e.val.length s.G.q, .int .i64 s.N] :: boxO g3 [.pointer (some ⟨p.pg, 0, none⟩)] :: RR) ms x3) := Lib.hid ⟨H0.out.f, H0.out.ok, fun o ho => .tail _ (.tail _ (.tail _ (HSUB.out o ho))), HX3.out.perm (qs_perm0 _ _ _ _ _ _ _)⟩
  have HSB := Lib.hid (H.out.sb HD.out)
  clear H0 HX3
  by_cases k1 : s.K = 1
  case pos =>
    have t1 : (s.K == 1) = true := beq_iff_eq.2 k1
    clear k1
    have HFZ : Hid (OW w (boxO p.tg (tabC p.t p.fr) :: boxO p.pg [.pointer (some ⟨p.tg, 0, none⟩), .slice p.A p.n p.c, .bool p.fr] :: (osF ++ (boxO g5 [.pointer (some ⟨fg, 0, none⟩)] :: boxO g4 [.int .i64 s.K, .bool s.O, .slice s.E.A s.E.e.row.length s.E.c, .int .i64 s.E.e.fam, .slice s.E.B s.E.e.qual.length s.E.d, .int .i64 s.E.e.ts, .int .i64 s.E.e.seq, .int .i64 s.E.e.kind, .slice s.E.D s.E.e.val.length s.E.q, .slice s.G.A s.G.e.row.length s.G.c, .int .i64 s.G.e.fam, .slice s.G.B s.G.e.qual.length s.G.d, .int .i64 s.G.e.ts, .int .i64 s.G.e.seq, .int .i64 s.G.e.kind, .slice s.G.D s.G.e.val.length s.G.q, .int .i64 s.N] :: boxO g3 [.pointer (some ⟨p.pg, 0, none⟩)] :: RR))) x3) := Lib.hid (H.out.ow.perm (qs_front _ _ _ _))
    have hmm : ∀ o, o ∈ (boxO g5 [.pointer (some ⟨fg, 0, none⟩)] :: boxO g4 [.int .i64 s.K, .bool s.O, .slice s.E.A s.E.e.row.length s.E.c, .int .i64 s.E.e.fam, .slice s.E.B s.E.e.qual.length s.E.d, .int .i64 s.E.e.ts, .int .i64 s.E.e.seq, .int .i64 s.E.e.kind, .slice s.E.D s.E.e.val.length s.E.q, .slice s.G.A s.G.e.row.length s.G.c, .int .i64 s.G.e.fam, .slice s.G.B s.G.e.qual.length s.G.d, .int .i64 s.G.e.ts, .int .i64 s.G.e.seq, .int .i64 s.G.e.kind, .slice s.G.D s.G.e.val.length s.G.q, .int .i64 s.N] :: boxO g3 [.pointer (some ⟨p.pg, 0, none⟩)] :: RR) → o ∈ osF ++ (boxO g5 [.pointer (some ⟨fg, 0, none⟩)] :: boxO g4 [.int .i64 s.K, .bool s.O, .slice s.E.A s.E.e.row.length s.E.c, .int .i64 s.E.e.fam, .slice s.E.B s.E.e.qual.length s.E.d, .int .i64 s.E.e.ts, .int .i64 s.E.e.seq, .int .i64 s.E.e.kind, .slice s.E.D s.E.e.val.length s.E.q, .slice s.G.A s.G.e.row.length s.G.c, .int .i64 s.G.e.fam, .slice s.G.B s.G.e.qual.length s.G.d, .int .i64 s.G.e.ts, .int .i64 s.G.e.seq, .int .i64 s.G.e.kind, .slice s.G.D s.G.e.val.length s.G.q, .int .i64 s.N] :: boxO g3 [.pointer (some ⟨p.pg, 0, none⟩)] :: RR) := fun o ho => List.mem_append_right _ ho
    have HMM := Lib.hid hmm
    clear hmm
    go_wp2_with (first
      | (refine wpList_load_cell rfl 3 (.tmp 7) rfl rfl HSB.out.k (fun w => Try.isAgg3 w) ?_)
      | (refine wpList_load_cell rfl 65 (.tmp 3) rfl rfl HSB.out.p (fun w => Try.isAgg65 w) ?_)
      | (refine wpList_load_cell rfl 24 (.tmp 13) rfl rfl (HFZ.out.cell (i := 1) (j := 0) rfl rfl) (fun w => Try.isAgg24 w) ?_)
      | (go_at_call 60; go_must (refine (tfreeze_any HFZ.out).mono ?_); rintro e y ⟨rfl, hz⟩; have HF2 := Lib.hid hz; clear hz; replace HSB : Hid (SBQ w g3 g4 g5 p.pg fg s y) := Lib.hid ⟨_, HF2.out, HD.out.more fun o ho => .tail _ (.tail _ (HMM.out o ho))⟩; clear HFZ)
      | (refine wl_put1 rfl (.tmp 19) (.const (.bool true)) rfl HF2.out 1 rfl 2 rfl (by simp) (.bool true) rfl (by kernel_rfl) rfl ?_; intro y2 hz _; have HF3 : Hid (OW w (boxO p.tg (tabC p.t true) :: boxO p.pg [.pointer (some ⟨p.tg, 0, none⟩), .slice p.A p.n p.c, .bool true] :: (osF ++ (boxO g5 [.pointer (some ⟨fg, 0, none⟩)] :: boxO g4 [.int .i64 s.K, .bool s.O, .slice s.E.A s.E.e.row.length s.E.c, .int .i64 s.E.e.fam, .slice s.E.B s.E.e.qual.length s.E.d, .int .i64 s.E.e.ts, .int .i64 s.E.e.seq, .int .i64 s.E.e.kind, .slice s.E.D s.E.e.val.length s.E.q, .slice s.G.A s.G.e.row.length s.G.c, .int .i64 s.G.e.fam, .slice s.G.B s.G.e.qual.length s.G.d, .int .i64 s.G.e.ts, .int .i64 s.G.e.seq, .int .i64 s.G.e.kind, .slice s.G.D s.G.e.val.length s.G.q, .int .i64 s.N] :: boxO g3 [.pointer (some ⟨p.pg, 0, none⟩)] :: RR))) y2) := Lib.hid hz; clear hz))
    go_ret
    refine ⟨rfl, ⟨p.pg, p.tg, p.t, true, p.A, p.n, p.c, p.rs⟩, osF, boxO g5 [.pointer (some ⟨fg, 0, none⟩)] :: boxO g4 [.int .i64 s.K, .bool s.O, .slice s.E.A s.E.e.row.length s.E.c, .int .i64 s.E.e.fam, .slice s.E.B s.E.e.qual.length s.E.d, .int .i64 s.E.e.ts, .int .i64 s.E.e.seq, .int .i64 s.E.e.kind, .slice s.E.D s.E.e.val.length s.E.q, .slice s.G.A s.G.e.row.length s.G.c, .int .i64 s.G.e.fam, .slice s.G.B s.G.e.qual.length s.G.d, .int .i64 s.G.e.ts, .int .i64 s.G.e.seq, .int .i64 s.G.e.kind, .slice s.G.D s.G.e.val.length s.G.q, .int .i64 s.N] :: boxO g3 [.pointer (some ⟨p.pg, 0, none⟩)] :: [], rfl, rfl, by have h1 := HL.out; show p.t.list.length ≤ b + 1; omega, QS.shift HSUB.out ⟨H.out.f, ?_, ?_, ?_⟩⟩
    · rw [List.append_nil]; exact ⟨H.out.ok.tb, H.out.ok.rt⟩
    · rw [List.append_nil, List.append_nil]; exact H.out.sub
    · rw [List.append_nil]; exact HF3.out.perm (qs_back _ _ _ _)
  by_cases k2 : s.K = 2
  case pos =>
    have t1 : (s.K == 1) = false := beq_eq_false_iff_ne.2 k1
    have t2 : (s.K == 2) = true := beq_iff_eq.2 k2
    clear k1 k2
    go_wp2_with (first
      | (refine wpList_load_cell rfl 3 (.tmp 7) rfl rfl HSB.out.k (fun w => Try.isAgg3 w) ?_)
      | (refine wpList_load_cell rfl 65 (.tmp 3) rfl rfl HSB.out.p (fun w => Try.isAgg65 w) ?_)
      | (refine wpList_load_row7o rfl 30 (.tmp 23) rfl rfl HSB.out.e ent_row8 ?_)
      | (refine wpList_load_cell rfl 68 (.tmp 5) rfl rfl HSB.out.f (fun w => Try.isAgg68 w) ?_)
      | (go_at_call 61; go_must (refine (pgives0 s.E (-1) H.out (fun z hz => HE.out z hz) HL.out (by omega)).mono ?_); rintro e y ⟨rfl, p', osF', ns, e1, e2, _, hle, hq⟩; have HR : Hid (QPF w fg p RR ms (b + 1) (.returned (.bool true)) y) := Lib.hid ⟨rfl, p', osF', _, e1, e2, by omega, hq.shift HSUB.out⟩; clear e1 e2 hle hq))
    go_ret
    exact HR.out
  by_cases k3 : s.K = 3
  case pos =>
    have t1 : (s.K == 1) = false := beq_eq_false_iff_ne.2 k1
    have t2 : (s.K == 2) = false := beq_eq_false_iff_ne.2 k2
    have t3 : (s.K == 3) = true := beq_iff_eq.2 k3
    clear k1 k2 k3
    have tk1 : True := trivial
    go_wp2_with (first
      | (refine wpList_load_cell rfl 3 (.tmp 7) rfl rfl HSB.out.k (fun w => Try.isAgg3 w) ?_)
      | (refine wpList_load_cell rfl 65 (.tmp 3) rfl rfl HSB.out.p (fun w => Try.isAgg65 w) ?_)
      | (refine wpList_load_row7o rfl 30 (.tmp 30) rfl rfl HSB.out.e ent_row8 ?_)
      | (refine wpList_load_cell rfl 3 (.tmp 32) rfl rfl HSB.out.n (fun w => Try.isAgg3 w) ?_)
      | (refine wpList_load_cell rfl 68 (.tmp 5) rfl rfl HSB.out.f (fun w => Try.isAgg68 w) ?_)
      | (go_at_call 61; clear tk1; go_must (refine (pgives0 s.E s.N H.out (fun z hz => HE.out z hz) HL.out (by omega)).mono ?_); rintro e y ⟨rfl, p1, osF1, ns1, e1, e2, _, hle, hq⟩; have HP1 : Hid (p1.pg = p.pg ∧ p1.tg = p.tg) := Lib.hid ⟨e1, e2⟩; have HL1 : Hid (p1.t.list.length ≤ b + 1) := Lib.hid (by omega); have H1 := Lib.hid hq; have HSB1 : Hid (SBQ w g3 g4 g5 p.pg fg s y) := Lib.hid (hq.sb (HD.out.more fun _ ho => List.mem_append_left _ ho)); clear e1 e2 hle hq HSB H)
      | (refine wpList_load_cell rfl 65 (.tmp 3) rfl rfl HSB1.out.p (fun w => Try.isAgg65 w) ?_)
      | (refine wpList_load_row7o rfl 30 (.tmp 38) rfl rfl HSB1.out.e ent_row8 ?_)
      | (refine wpList_load_cell rfl 68 (.tmp 5) rfl rfl HSB1.out.f (fun w => Try.isAgg68 w) ?_)
      | (go_at_call 61; go_must (rw [← HP1.out.1]; refine (pgives0 (b := b + 1) s.E (-1) H1.out (fun z hz => HE.out z hz) HL1.out (by omega)).mono ?_); rintro e y2 ⟨rfl, p', osF', ns, e1, e2, _, hle, hq⟩; have HR : Hid (QPF w fg p RR ms (b + 1) (.returned (.bool true)) y2) := Lib.hid ⟨rfl, p', osF', _, e1.trans HP1.out.1, e2.trans HP1.out.2, by omega, hq.assoc.shift HSUB.out⟩; clear e1 e2 hle hq))
    go_ret
    exact HR.out
  by_cases k4 : s.K = 4
  case pos =>
    have t1 : (s.K == 1) = false := beq_eq_false_iff_ne.2 k1
    have t2 : (s.K == 2) = false := beq_eq_false_iff_ne.2 k2
    have t3 : (s.K == 3) = false := beq_eq_false_iff_ne.2 k3
    have t4 : (s.K == 4) = true := beq_iff_eq.2 k4
    clear k1 k2 k3 k4
    go_wp2_with (first
      | (refine wpList_load_cell rfl 3 (.tmp 7) rfl rfl HSB.out.k (fun w => Try.isAgg3 w) ?_)
      | (refine wpList_load_cell rfl 65 (.tmp 3) rfl rfl HSB.out.p (fun w => Try.isAgg65 w) ?_)
      | (refine wpList_load_cell rfl 68 (.tmp 5) rfl rfl HSB.out.f (fun w => Try.isAgg68 w) ?_)
      | (go_at_call 35; go_must (refine (pall0 H.out HL.out (by omega)).mono ?_); rintro e y ⟨rfl, p', osF', ns, e1, e2, _, hle, hq⟩; have HR : Hid (QPF w fg p RR ms (b + 1) (.returned (.bool true)) y) := Lib.hid ⟨rfl, p', osF', _, e1, e2, by omega, hq.shift HSUB.out⟩; clear e1 e2 hle hq))
    go_ret
    exact HR.out
  by_cases k5 : s.K = 5
  case pos =>
    have t1 : (s.K == 1) = false := beq_eq_false_iff_ne.2 k1
    have t2 : (s.K == 2) = false := beq_eq_false_iff_ne.2 k2
    have t3 : (s.K == 3) = false := beq_eq_false_iff_ne.2 k3
    have t4 : (s.K == 4) = false := beq_eq_false_iff_ne.2 k4
    have t5 : (s.K == 5) = true := beq_iff_eq.2 k5
    clear k1 k2 k3 k4 k5
    have tk1 : True := trivial
    go_wp2_with (first
      | (refine wpList_load_cell rfl 3 (.tmp 7) rfl rfl HSB.out.k (fun w => Try.isAgg3 w) ?_)
      | (refine wpList_load_cell rfl 65 (.tmp 3) rfl rfl HSB.out.p (fun w => Try.isAgg65 w) ?_)
      | (refine wpList_load_cell rfl 68 (.tmp 5) rfl rfl HSB.out.f (fun w => Try.isAgg68 w) ?_)
      | (go_at_call 35; clear tk1; go_must (refine (pall_any (B := B1Q b s.N) H.out goFn_step1 (pstep1_any s (fun z hz => HG.out z hz) (by omega)) HD.out (fun _ _ h hs => h.more hs) (Nat.le_trans HL.out (B1Q.ge _ _ _)) (fun i _ => Nat.le_trans (B1Q.le b i s.N) (by omega))).mono ?_); rintro e y ⟨rfl, p1, osF1, ns1, e1, e2, _, hle, hq⟩; have HP1 : Hid (p1.pg = p.pg ∧ p1.tg = p.tg) := Lib.hid ⟨e1, e2⟩; have HL1 : Hid (p1.t.list.length ≤ b + 1) := Lib.hid (Nat.le_trans hle (B1Q.le _ _ _)); have H1 := Lib.hid hq; have HSB1 : Hid (SBQ w g3 g4 g5 p.pg fg s y) := Lib.hid (hq.sb (HD.out.more fun _ ho => List.mem_append_left _ ho)); clear e1 e2 hle hq HSB H)
      | (refine wpList_load_cell rfl 65 (.tmp 3) rfl rfl HSB1.out.p (fun w => Try.isAgg65 w) ?_)
      | (refine wpList_load_row7o rfl 30 (.tmp 38) rfl rfl HSB1.out.e ent_row8 ?_)
      | (refine wpList_load_cell rfl 68 (.tmp 5) rfl rfl HSB1.out.f (fun w => Try.isAgg68 w) ?_)
      | (go_at_call 35; go_must (rw [← HP1.out.1]; refine (pall0 (b := b + 1) H1.out HL1.out (by omega)).mono ?_); rintro e y2 ⟨rfl, p', osF', ns, e1, e2, _, hle, hq⟩; have HR : Hid (QPF w fg p RR ms (b + 1) (.returned (.bool true)) y2) := Lib.hid ⟨rfl, p', osF', _, e1.trans HP1.out.1, e2.trans HP1.out.2, by omega, hq.assoc.shift HSUB.out⟩; clear e1 e2 hle hq))
    go_ret
    exact HR.out
  by_cases k6 : s.K = 6
  case pos =>
    have t1 : (s.K == 1) = false := beq_eq_false_iff_ne.2 k1
    have t2 : (s.K == 2) = false := beq_eq_false_iff_ne.2 k2
    have t3 : (s.K == 3) = false := beq_eq_false_iff_ne.2 k3
    have t4 : (s.K == 4) = false := beq_eq_false_iff_ne.2 k4
    have t5 : (s.K == 5) = false := beq_eq_false_iff_ne.2 k5
    have t6 : (s.K == 6) = true := beq_iff_eq.2 k6
    clear k1 k2 k3 k4 k5 k6
    go_wp2_with (first
      | (refine wpList_load_cell rfl 3 (.tmp 7) rfl rfl HSB.out.k (fun w => Try.isAgg3 w) ?_)
      | (refine wpList_load_cell rfl 65 (.tmp 3) rfl rfl HSB.out.p (fun w => Try.isAgg65 w) ?_)
      | (refine wpList_load_row7o rfl 30 (.tmp 62) rfl rfl HSB.out.e ent_row8 ?_)
      | (refine wpList_load_cell rfl 68 (.tmp 5) rfl rfl HSB.out.f (fun w => Try.isAgg68 w) ?_)
      | (go_at_call 61; go_must (refine (pgives_any (B := fun _ => b) (b := b) s.E (-1) H.out (fun z hz => HE.out z hz) goFn_step2 (pstep2_any s (by omega)) HD.out (fun _ _ h hs => h.more hs) HL.out (fun _ _ => Nat.le_refl _) (by omega)).mono ?_); rintro e y ⟨rfl, p', osF', ns, e1, e2, _, hle, hq⟩; have HR : Hid (QPF w fg p RR ms (b + 1) (.returned (.bool true)) y) := Lib.hid ⟨rfl, p', osF', _, e1, e2, by omega, hq.shift HSUB.out⟩; clear e1 e2 hle hq))
    go_ret
    exact HR.out
  have t1 : (s.K == 1) = false := beq_eq_false_iff_ne.2 k1
  have t2 : (s.K == 2) = false := beq_eq_false_iff_ne.2 k2
  have t3 : (s.K == 3) = false := beq_eq_false_iff_ne.2 k3
  have t4 : (s.K == 4) = false := beq_eq_false_iff_ne.2 k4
  have t5 : (s.K == 5) = false := beq_eq_false_iff_ne.2 k5
  have t6 : (s.K == 6) = false := beq_eq_false_iff_ne.2 k6
  clear k1 k2 k3 k4 k5 k6
  go_wp2_with (first
    | (refine wpList_load_cell rfl 3 (.tmp 7) rfl rfl HSB.out.k (fun w => Try.isAgg3 w) ?_)
    | (refine wpList_load_cell rfl 65 (.tmp 3) rfl rfl HSB.out.p (fun w => Try.isAgg65 w) ?_)
    | (refine wpList_load_row7o rfl 30 (.tmp 68) rfl rfl HSB.out.e ent_row8 ?_)
    | (refine wpList_load_cell rfl 68 (.tmp 5) rfl rfl HSB.out.f (fun w => Try.isAgg68 w) ?_)
    | (go_at_call 63; go_must (refine (padd_any s.E H.out.f H.out.ok H.out.sub H.out.ow (fun z hz => HE.out z hz) (by have h1 := HL.out; omega)).mono ?_); rintro e y ⟨rfl, p', ns, osF', e1, e2, _, hle, hf, hok, hz⟩; have HR : Hid (QPF w fg p RR ms (b + 1) (.returned (.bool true)) y) := Lib.hid ⟨rfl, p', osF', _, e1, e2, by have h1 := HL.out; omega, QS.shift HSUB.out ⟨hf, hok, fun o ho => (List.mem_append.1 ho).elim (fun ho => List.mem_append_left _ (H.out.sub o ho)) (fun ho => List.mem_append_right _ ho), hz⟩⟩; clear e1 e2 hle hf hok hz))
  go_ret
  exact HR.out
end Go.Proofs.Ytdaoinhkagmbdaa
namespace Go.Proofs.Ytdaoinhkagmbdaa
open Go.RowKit
structure Q2 (w : World) (fg : Nat) (p q : PS) (osF RR ms : List Ob) (z : World) : Prop where
  f : Fl fg osF
  okp : PSok ms p
  okq : PSok ms q
  sub : ∀ o, o ∈ ms → o ∈ RR
  ow : OW w (osF ++ (p.box :: p.tab :: q.box :: q.tab :: RR)) z
theorem q2_perm (a b c d : Ob) (F R : List Ob) : (F ++ (a :: b :: c :: d :: R)).Perm (F ++ (c :: d :: a :: b :: R)) := by (refine perm_of_cnt fun a => ?_; (first | ((repeat (first | rw [cntO_app] | rw [cntO_cons] | rw [cntO_nil])) <;> omega) | ((simp only [cntO_app, cntO_cons, cntO_nil]) <;> omega)))
theorem Q2.swap {w : World} {fg : Nat} {p q : PS} {osF RR ms : List Ob} {z : World} (h : Q2 w fg p q osF RR ms z) : Q2 w fg q p osF RR ms z := ⟨h.f, h.okq, h.okp, h.sub, h.ow.perm (q2_perm _ _ _ _ _ _)⟩
theorem Q2.later {w : World} {fg : Nat} {p q : PS} {osF RR ms : List Ob} {z y : World} (h : Q2 w fg p q osF RR ms z) (hb : Below z.heap.size z y) : Q2 w fg p q osF RR ms y := ⟨h.f, h.okp, h.okq, h.sub, h.ow.later hb⟩
theorem Q2.one {w : World} {fg : Nat} {p q : PS} {osF RR ms : List Ob} {z : World} (h : Q2 w fg p q osF RR ms z) : QS w fg p osF (q.box :: q.tab :: RR) ms z := ⟨h.f, h.okp, fun o ho => .tail _ (.tail _ (h.sub o ho)), h.ow⟩
theorem Q2.back {w : World} {fg : Nat} {p p' q : PS} {osF osF' RR ms ns : List Ob} {x z : World} (h : Q2 w fg p q osF RR ms x) (hq : QS w fg p' osF' ((q.box :: q.tab :: RR) ++ ns) (ms ++ ns) z) : Q2 w fg p' q osF' (RR ++ ns) (ms ++ ns) z :=
  ⟨hq.f, hq.ok, h.okq.more fun _ ho => List.mem_append_left _ ho, fun o ho => (List.mem_append.1 ho).elim (fun ho => List.mem_append_left _ (h.sub o ho)) (fun ho => List.mem_append_right _ ho), hq.ow⟩
def Q2F (w : World) (fg : Nat) (p q : PS) (RR ms : List Ob) (b : Nat) (e : Ending) (z : World) : Prop :=
  e = .returned (.bool true) ∧ ∃ p' osF' ns, p'.pg = p.pg ∧ p'.tg = p.tg ∧ p'.t.list.length ≤ b ∧ Q2 w fg p' q osF' (RR ++ ns) (ms ++ ns) z
theorem pstep2_q {w x : World} {fg b : Nat} {p q : PS} {osF RR ms : List Ob} (s : SR) (h : Q2 w fg p q osF RR ms x) (hE : ∀ z, Below w.heap.size w z → s.E.En z) (hG : ∀ z, Below w.heap.size w z → s.G.En z) (hl : p.t.list.length ≤ b) (hb : b ≤ 79000) :
    Calls Try.prog 33 #[.pointer (some ⟨p.pg, 0, none⟩), .agg #[.int .i64 s.K, .bool s.O, .slice s.E.A s.E.e.row.length s.E.c, .int .i64 s.E.e.fam, .slice s.E.B s.E.e.qual.length s.E.d, .int .i64 s.E.e.ts, .int .i64 s.E.e.seq, .int .i64 s.E.e.kind, .slice s.E.D s.E.e.val.length s.E.q, .slice s.G.A s.G.e.row.length s.G.c, .int .i64 s.G.e.fam, .slice s.G.B s.G.e.qual.length s.G.d, .int .i64 s.G.e.ts, .int .i64 s.G.e.seq, .int .i64 s.G.e.kind, .slice s.G.D s.G.e.val.length s.G.q, .int .i64 s.N], .pointer (some ⟨fg, 0, none⟩)] x (Q2F w fg p q RR ms (b + 1)) :=
  (pstep_any s h.one hE hG hl hb).mono fun _ _ ⟨h1, p', osF', ns, e1, e2, hle, hq⟩ => ⟨h1, p', osF', ns, e1, e2, hle, h.back hq⟩
theorem pall2_q {w x : World} {fg b : Nat} {p q : PS} {osF RR ms : List Ob} (h : Q2 w fg p q osF RR ms x) (hl : p.t.list.length ≤ b) (hb : b ≤ 80000) :
    Calls Try.prog 35 #[.pointer (some ⟨p.pg, 0, none⟩), .pointer (some ⟨fg, 0, none⟩), .func (.func 36) #[] #[]] x (Q2F w fg p q RR ms b) :=
  (pall0 h.one hl hb).mono fun _ _ ⟨h1, p', osF', ns, e1, e2, _, hle, hq⟩ => ⟨h1, p', osF', ns, e1, e2, hle, h.back hq⟩
def Who (ga gta gb gtb : Nat) (O : Bool) (p q : PS) : Prop := (O = false ∧ p.pg = ga ∧ p.tg = gta ∧ q.pg = gb ∧ q.tg = gtb) ∨ (O = true ∧ p.pg = gb ∧ p.tg = gtb ∧ q.pg = ga ∧ q.tg = gta)
theorem Q2.permR {w : World} {fg : Nat} {p q : PS} {osF RR RR' ms : List Ob} {z : World} (h : Q2 w fg p q osF RR ms z) (hp : RR.Perm RR') : Q2 w fg p q osF RR' ms z :=
  ⟨h.f, h.okp, h.okq, fun o ho => hp.subset (h.sub o ho), h.ow.perm (List.Perm.append_left _ (.cons _ (.cons _ (.cons _ (.cons _ hp)))))⟩
def BothI (w : World) (fg ga gta gb gtb b : Nat) (R0 : List Ob) (Ds : List Nat) (z : World) : Prop :=
  ∃ (p q : PS) (osF ms ns : List Ob), p.pg = ga ∧ p.tg = gta ∧ q.pg = gb ∧ q.tg = gtb ∧ p.t.list.length ≤ b ∧ q.t.list.length ≤ b ∧ Q2 w fg p q osF (R0 ++ (ns ++ Ds.map dfrO)) ms z
theorem BothI.who {w : World} {fg ga gta gb gtb b : Nat} {R0 : List Ob} {Ds : List Nat} {z : World} (h : BothI w fg ga gta gb gtb b R0 Ds z) (O : Bool) : ∃ p q osF ms ns, Who ga gta gb gtb O p q ∧ p.t.list.length ≤ b ∧ q.t.list.length ≤ b ∧ Q2 w fg p q osF (R0 ++ (ns ++ Ds.map dfrO)) ms z := by
  obtain ⟨p, q, osF, ms, ns, h1, h2, h3, h4, h5, h6, h7⟩ := h
  cases O with
  | false => exact ⟨p, q, osF, ms, ns, .inl ⟨rfl, h1, h2, h3, h4⟩, h5, h6, h7⟩
  | true => exact ⟨q, p, osF, ms, ns, .inr ⟨rfl, h3, h4, h1, h2⟩, h6, h5, h7.swap⟩
theorem Who.both {w : World} {fg ga gta gb gtb b : Nat} {R0 : List Ob} {Ds : List Nat} {z : World} {O : Bool} {p q : PS} {osF ms RR : List Ob} (ns : List Ob) (h : Who ga gta gb gtb O p q) (h1 : p.t.list.length ≤ b) (h2 : q.t.list.length ≤ b) (h3 : Q2 w fg p q osF RR ms z) (hp : RR.Perm (R0 ++ (ns ++ Ds.map dfrO))) : BothI w fg ga gta gb gtb b R0 Ds z := by
  rcases h with ⟨_, e1, e2, e3, e4⟩ | ⟨_, e1, e2, e3, e4⟩
  · exact ⟨p, q, osF, ms, ns, e1, e2, e3, e4, h1, h2, h3.permR hp⟩
  · exact ⟨q, p, osF, ms, ns, e3, e4, e1, e2, h2, h1, (h3.permR hp).swap⟩
theorem Who.step {ga gta gb gtb : Nat} {O : Bool} {p p' q : PS} (h : Who ga gta gb gtb O p q) (e1 : p'.pg = p.pg) (e2 : p'.tg = p.tg) : Who ga gta gb gtb O p' q := by
  rcases h with ⟨h0, h1, h2, h3, h4⟩ | ⟨h0, h1, h2, h3, h4⟩
  · exact .inl ⟨h0, e1.trans h1, e2.trans h2, h3, h4⟩
  · exact .inr ⟨h0, e1.trans h1, e2.trans h2, h3, h4⟩
theorem q2_marks (R0 ns ns' D : List Ob) : ((R0 ++ (ns ++ D)) ++ ns').Perm (R0 ++ ((ns ++ ns') ++ D)) := by (refine perm_of_cnt fun a => ?_; (first | ((repeat (first | rw [cntO_app] | rw [cntO_cons] | rw [cntO_nil])) <;> omega) | ((simp only [cntO_app, cntO_cons, cntO_nil]) <;> omega)))
theorem BothI.mono {w : World} {fg ga gta gb gtb b b' : Nat} {R0 : List Ob} {Ds : List Nat} {z : World} (h : BothI w fg ga gta gb gtb b R0 Ds z) (hb : b ≤ b') : BothI w fg ga gta gb gtb b' R0 Ds z := by
  obtain ⟨p, q, osF, ms, ns, h1, h2, h3, h4, h5, h6, h7⟩ := h
  exact ⟨p, q, osF, ms, ns, h1, h2, h3, h4, Nat.le_trans h5 hb, Nat.le_trans h6 hb, h7⟩
theorem BothI.later {w : World} {fg ga gta gb gtb b : Nat} {R0 : List Ob} {Ds : List Nat} {z y : World} (h : BothI w fg ga gta gb gtb b R0 Ds z) (hb : Below z.heap.size z y) : BothI w fg ga gta gb gtb b R0 Ds y := by
  obtain ⟨p, q, osF, ms, ns, h1, h2, h3, h4, h5, h6, h7⟩ := h
  exact ⟨p, q, osF, ms, ns, h1, h2, h3, h4, h5, h6, h7.later hb⟩
end Go.Proofs.Ytdaoinhkagmbdaa
namespace Go.Proofs.Ytdaoinhkagmbdaa
open Go.RowKit Go.WideShapes Go.ChangeShapes Go.Joins Go.Deep
section
variable {H : Type} {enc : TypeId × Value → H} {P : Program}
theorem trodAll_below (hl : laidOutB P = true) {W W' : World} {sp : Nat → Bool} : ∀ (ts : List TypeId) (vs : List Value) (ds : List (DataW H)) (ps : List MemPlace),
    (∀ t ∈ ts, P.readableRec t = true ∧ t < P.types.size) → DataW.TrodAll enc P W 0 (fun _ => true) true ts vs ds ps → (∀ p ∈ ps, W.sameAt W' p) → (∀ p ∈ ps, sp p.block = true) →
    DataW.TrodAll enc P W' 0 sp true ts vs ds ps
  | [], [], [], ps, _, h, _, _ => h
  | t :: ts, v :: vs, d :: ds, ps, hr, h, hs, hp => by
    obtain ⟨p, q, h1, h2, rfl⟩ := h
    refine ⟨p, q, WideElems.Trod_stays hl (hr t (by simp)).1 (hr t (by simp)).2 h1 (fun x hx => hs x (by simp [hx])) (fun x hx => hp x (by simp [hx])), ?_, rfl⟩
    exact trodAll_below hl ts vs ds q (fun t ht => hr t (by simp [ht])) h2 (fun x hx => hs x (by simp [hx])) (fun x hx => hp x (by simp [hx]))
  | [], _ :: _, _, _, _, h, _, _ => h.elim
  | [], [], _ :: _, _, _, h, _, _ => h.elim
  | _ :: _, [], _, _, _, h, _, _ => h.elim
  | _ :: _, _ :: _, [], _, _, h, _, _ => h.elim
theorem law_post {f : Func} {s : ChangeSpec} {apart fresh handsOn again : Bool} {W W' : World} {args : Array Value} {ds gs : List (DataW H)} {before : List MemPlace} {tb : TypeId}
    (hl : laidOutB P = true) (hr : ∀ t ∈ f.params.toList, P.readableRec t = true ∧ t < P.types.size) (hv : s.vars = [])
    (hW : DataW.Whole enc P f.params.toList s.vars apart W args.toList ds gs before) (hres : f.resultTypes = #[tb]) (htb : P.underlying tb = some .bool)
    (hfn : s.fn H (ds ++ gs) = { results := [.lit (.bool true)], args := ds }) (hb : Below W.heap.size W W') :
    s.post enc P f apart fresh handsOn again W args (.bool true) W' := by
  have hlt : ∀ p ∈ before, p.block < W.heap.size := fun p hp => hW.lt p hp
  obtain ⟨p, q, hA, hV, hpq, hz, hn⟩ := hW
  have hq : gs = [] ∧ q = [] := by rw [hv] at hV; exact trodVars_none hV
  obtain ⟨rfl, rfl⟩ := hq
  rw [List.append_nil] at hpq
  subst hpq
  have hold : ∀ x ∈ before, (fun b => decide (b < W.heap.size)) x.block = true := fun x hx => by simpa using hlt x hx
  have hargs : ∀ sp : Nat → Bool, (∀ x ∈ before, sp x.block = true) → DataW.TrodAll enc P W' 0 sp true f.params.toList args.toList ds before := fun sp hsp =>
    trodAll_below hl _ _ _ _ hr hA (fun x hx => hb.same (hlt x hx)) hsp
  have hvars : ∀ sp : Nat → Bool, DataW.TrodVars enc P W' sp s.vars (s.fn H (ds ++ [])).vars [] := fun sp => by rw [hv, hfn]; rfl
  have hresv : ∀ (b : Nat) (sp : Nat → Bool) (hd : Bool), DataW.TrodAll enc P W' b sp hd f.resultTypes.toList ((Value.bool true).resultList f.resultTypes.size) (s.fn H (ds ++ [])).results [] := by
    intro b sp hd
    rw [hfn, hres]
    exact trodAll_mk1 (shut_bool htb true)
  have hargs' : ∀ sp : Nat → Bool, (∀ x ∈ before, sp x.block = true) → DataW.TrodAll enc P W' 0 sp true f.params.toList args.toList (s.fn H (ds ++ [])).args before := fun sp hsp => by rw [hfn]; exact hargs sp hsp
  refine ⟨ds, [], before, [], before, [], ⟨before, [], hA, hV, by simp, hz, hn⟩, hresv _ _ _, hargs' _ hold, hvars _, World.keptBut_mono (fun x hx => ⟨hx, Or.inr (Or.inl hx)⟩) (hb.frame (· ∈ before)), fun _ => ?_⟩
  refine ⟨?_, _, _, ([] ++ before) ++ [], ⟨[] ++ before, [], trodAll_append (hargs' _ (fun _ _ => rfl)) (hresv _ _ _), hvars _, rfl, ?_, ?_⟩, ?_⟩
  · exact ok_one hres rfl (okWide_bool_mk htb true)
  · intro b off hp
    have hin : MemPlace.cell b off ∈ before := by simpa using hp
    rw [hb.frozen (hlt _ hin)]
    exact hz b off hin
  · intro ha
    have := hn ha
    simpa using this
  · intro x hx _
    simpa using hx
end
theorem list_of {α : Type} {Q : Nat → α → Prop} : ∀ (n : Nat), (∀ i, i < n → ∃ x, Q i x) → ∃ l : List α, l.length = n ∧ ∀ i x, l[i]? = some x → Q i x
  | 0, _ => ⟨[], rfl, fun i x h => by simp at h⟩
  | n + 1, h => by
    obtain ⟨l, hl, hq⟩ := list_of n (fun i hi => h i (by omega))
    obtain ⟨x, hx⟩ := h n (by omega)
    refine ⟨l ++ [x], by simp [hl], fun i y hy => ?_⟩
    rcases Nat.lt_or_ge i n with hi | hi
    · rw [List.getElem?_append_left (by omega)] at hy
      exact hq i y hy
    · have : i = n := by
        have := (List.getElem?_eq_some_iff.1 hy).1
        simp [hl] at this; omega
      subst this
      rw [List.getElem?_append_right (by omega)] at hy
      simp [hl] at hy
      subst hy; exact hx
theorem addr_add (a : Addr) (j : Nat) (ha : a.spot = none) : a.add j = ⟨a.block, a.off + j, none⟩ := by
  obtain ⟨b, o, sp⟩ := a
  simp at ha; subst ha
  unfold Addr.add
  split
  · rename_i h; subst h; rfl
  · rfl
theorem spot_none {w : World} {a : Addr} {v : Value} (h : w.cell? a = some v) : a.spot = none := by
  unfold World.cell? at h
  split at h
  · split at h
    · cases h
    · rename_i h'; simpa using h'
  · cases h
theorem reads_of {w : World} {size n : Nat} {a : Addr} {xs : List Value} (hl : xs.length = n * size) (hs : 0 < size) (h : ∀ j u, xs[j]? = some u → w.cell? (a.add j) = some u) : Reads w w.heap.size size (some a) n xs := by
  refine ⟨hl, fun hn => ?_⟩
  have h0 : 0 < xs.length := by rw [hl]; exact Nat.mul_pos hn hs
  have hc := h 0 _ (List.getElem?_eq_getElem h0)
  have e0 : a.add 0 = a := by simp [Addr.add]
  rw [e0] at hc
  have hsp := spot_none hc
  refine ⟨a.block, a.off, by obtain ⟨b, o, sp⟩ := a; simp at hsp; subst hsp; rfl, World.block_lt_of_cell? w a hc, fun j u hu => ?_⟩
  rw [← addr_add a j hsp]
  exact h j u hu
section
variable {H : Type} {enc : TypeId × Value → H} {P : Program} {w : World} {base : Nat} {spare : Nat → Bool} {held : Bool}
end
section
variable {H : Type} {enc : TypeId × Value → H} {P : Program} {w : World} {base : Nat} {spare : Nat → Bool} {held : Bool}
end
end Go.Proofs.Ytdaoinhkagmbdaa
namespace Go.Proofs.Ytdaoinhkagmbdaa
open Go.RowKit Go.WideShapes Go.ChangeShapes Go.Joins Go.Deep
section
variable {H : Type} {enc : TypeId × Value → H} {P : Program} {w : World} {base : Nat} {spare : Nat → Bool} {held : Bool}
theorem open_bytes {t e : TypeId} {fuel : Nat} {cs : List Value} {x : DataW H × List MemPlace} (ht : P.underlying t = some (.slice e)) (he : P.underlying e = some (.int .u8)) (hC : P.cellsOf e = 1)
    (h : DataW.trod enc P w base spare held fuel t cs = some x) :
    ∃ (A : Option Addr) (c : Nat) (l : List UInt8), cs = [.slice A l.length c] ∧ l.length ≤ c ∧ c ≤ 9223372036854775807 ∧ (A = none → c = 0) ∧ RB w w.heap.size A l.length l := by
  rcases open_slice1 ht hC h with ⟨rfl, _⟩ | ⟨a, len, cap, m, n, V, D, Pl, rfl, _, hl, hm, hmm, _, hi⟩
  · exact ⟨none, 0, [], rfl, by simp, by omega, fun _ => rfl, RB.nil⟩
  · have hlm : len ≤ m := by rw [hmm]; split <;> omega
    obtain ⟨l, hll, hq⟩ := list_of (Q := fun i (b : UInt8) => w.cell? (a.add i) = some (.int .u8 (b.toNat : Int))) len (fun i hi' => by
      obtain ⟨h1, h2⟩ := hi i (by omega)
      obtain ⟨v, e0, _, hw⟩ := DataW.trod_int he h2
      injection e0 with e0 _
      have hw : 0 ≤ v ∧ v ≤ 255 := by
        simp [Lit.wf, IntKind.min, IntKind.max, IntKind.signed, IntKind.bits] at hw
        omega
      refine ⟨UInt8.ofNat v.toNat, ?_⟩
      rw [h1, e0, UInt8.toNat_ofNat', Nat.mod_eq_of_lt (by omega), Int.toNat_of_nonneg hw.1])
    subst hll
    exact ⟨some a, cap, l, rfl, hl, hm, (fun e => nomatch e), reads_of (by simp [u8s_length]) (by decide) fun j u hu => by
      simp only [u8s, List.getElem?_map, Option.map_eq_some_iff] at hu
      obtain ⟨b, hb, rfl⟩ := hu
      exact hq j b hb⟩
theorem open_slice_top {r : Reach} {b0 : Nat} {t e : TypeId} {v : Value} {d : DataW H} {ps : List MemPlace} (ht : P.underlying t = some (.slice e)) (hval : Value.okWide P w r b0 t v) (h : DataW.Trod enc P w base spare held t v d ps) :
    ∃ fuel, DataW.trod enc P w base spare held fuel t [v] = some (d, ps) := by
  obtain ⟨a, n, c, rfl⟩ := okWide_slice ht hval
  obtain ⟨fuel, hf⟩ := h
  exact ⟨fuel, hf⟩
end
end Go.Proofs.Ytdaoinhkagmbdaa
namespace Go.Proofs.Ytdaoinhkagmbdaa
open Go.RowKit Go.WideShapes Go.ChangeShapes Go.Joins Go.Deep
section
variable {H : Type} {enc : TypeId × Value → H} {P : Program} {w : World} {base : Nat} {held : Bool}
end
end Go.Proofs.Ytdaoinhkagmbdaa
namespace Go.Proofs.Ytdaoinhkagmbdaa
open Go.RowKit Go.WideShapes Go.ChangeShapes Go.Joins Go.Deep
section
variable {H : Type} {enc : TypeId × Value → H} {w : World} {base : Nat} {spare : Nat → Bool} {held : Bool}
theorem sl_of {A : Option Addr} {c : Nat} {l : List UInt8} (h1 : l.length ≤ c) (h2 : c ≤ 9223372036854775807) (h3 : A = none → c = 0) (h4 : RB w w.heap.size A l.length l) : Sl w A l.length c l := ⟨h4, h1, h2, h3⟩
end
end Go.Proofs.Ytdaoinhkagmbdaa
namespace Go.Proofs.Ytdaoinhkagmbdaa
open Go.RowKit Go.WideShapes Go.ChangeShapes Go.Joins Go.Deep
section
variable {H : Type} {enc : TypeId × Value → H} {P : Program} {w : World} {base : Nat} {held : Bool}
end
end Go.Proofs.Ytdaoinhkagmbdaa
