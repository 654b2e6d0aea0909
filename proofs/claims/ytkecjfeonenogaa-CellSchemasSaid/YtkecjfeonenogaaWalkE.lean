/-
  The law CellSchemas, walked.
-/
import Derived.Test.YtkecjfeonenogaaWalkD
import Derived.Deep.RegionHeld3
import Derived.Deep.DeepCutAuto
namespace Go.Proofs.Ytkecjfeonenogaa
open Go.RowKit

/-- Block g holds the families, cut at twenty, and the marks. -/
def Marked (fs : List Fm) (w : World) (g : Nat) : Prop := ∀ j u, (cellsOf (fs.take 20 ++ List.replicate 9 mark))[j]? = some u → w.cell? ⟨g, j, none⟩ = some u

theorem Marked.alloc {fs : List Fm} {w : World} {g : Nat} {o : Obj} (h : Marked fs w g) (hg : g < w.heap.size) : Marked fs (w.alloc o) g :=
  fun j u hu => (World.cell?_alloc_lt w o ⟨g, j, none⟩ hg).trans (h j u hu)
theorem Marked.set {fs : List Fm} {w : World} {g : Nat} {p : Addr} {v : Value} (h : Marked fs w g) (hg : p.block ≠ g) : Marked fs (w.setCell p v) g :=
  fun j u hu => (World.cell?_setCell_other w p ⟨g, j, none⟩ v (fun e => hg (by rw [e]))).trans (h j u hu)
theorem Marked.below {fs : List Fm} {w w' : World} {g : Nat} (hb : Below w.heap.size w w') (h : Marked fs w g) (hg : g < w.heap.size) : Marked fs w' g :=
  fun j u hu => (hb.cell (p := ⟨g, j, none⟩) hg).trans (h j u hu)
theorem cell_alloc_old {w : World} {p : Addr} {v : Value} {o : Obj} (h : w.cell? p = some v) : (w.alloc o).cell? p = some v :=
  (World.cell?_alloc_lt w o p (World.block_lt_of_cell? w p h)).trans h
theorem cell_set_far {w : World} {p q : Addr} {v u : Value} (h : w.cell? p = some v) (hne : q.block ≠ p.block) : (w.setCell q u).cell? p = some v :=
  (World.cell?_setCell_other w q p u (fun e => hne (by rw [e]))).trans h
theorem cell_new {w : World} {v : Value} {t : TypeId} : (w.alloc (.cells #[v] t)).cell? ⟨w.heap.size, 0, none⟩ = some v := by simp
theorem isSome_below {w w' : World} {p : Addr} (hb : Below w.heap.size w w') (h : (w.cell? p).isSome = true) : (w'.cell? p).isSome = true := by
  obtain ⟨v, hv⟩ := Option.isSome_iff_exists.1 h
  rw [hb.cell (World.block_lt_of_cell? w p hv)]; exact h
theorem isSome_set {w : World} {p q : Addr} {u : Value} (h : (w.cell? p).isSome = true) : ((w.setCell q u).cell? p).isSome = true := by
  obtain ⟨v, hv⟩ := Option.isSome_iff_exists.1 h
  obtain ⟨v', hv'⟩ := cell?_setCell_some (w := w) (p := q) (x := u) (q := p) (v := v) hv
  rw [hv']; rfl
theorem isSome_alloc {w : World} {p : Addr} {o : Obj} (h : (w.cell? p).isSome = true) : ((w.alloc o).cell? p).isSome = true := by
  obtain ⟨v, hv⟩ := Option.isSome_iff_exists.1 h
  rw [cell_alloc_old hv]; rfl
theorem isSome_at {w : World} {p : Addr} {v : Value} (h : w.cell? p = some v) : (w.cell? p).isSome = true := by rw [h]; rfl
theorem cell_set_here {w : World} {p : Addr} {v : Value} (h : (w.cell? p).isSome = true) : (w.setCell p v).cell? p = some v := World.cell?_setCell_same' w p v h

def fa : Fm := ⟨⟨#[97]⟩, 1, 0⟩
theorem fa_ok : ∀ f ∈ [fa], f.ok := by
  intro f hf
  simp at hf; subst hf
  exact ⟨by decide, by decide, by decide, by decide, by decide⟩
theorem sch_one : schemaE [fa] = 0 := by decide +kernel
theorem sch_nil : schemaE [] = 28 := by decide +kernel
theorem fam_one : famIdx [fa] ⟨#[97]⟩ 0 = 0 := by decide +kernel
theorem marked_reads {fs : List Fm} {n : Nat} {w : World} {g : Nat} (hn : fs.length = n) (h : Marked fs w g) (hg : g < w.heap.size) : Reads w w.heap.size 3 (some ⟨g, 0, none⟩) (min n 20) (cellsOf (fs.take 20)) := by
  refine ⟨by rw [cellsOf_length, List.length_take, hn]; omega, fun _ => ⟨g, 0, rfl, hg, fun j u hu => ?_⟩⟩
  rw [Nat.zero_add]
  refine h j u ?_
  rw [cellsOf_append, List.getElem?_append_left (List.getElem?_eq_some_iff.1 hu).1]
  exact hu
theorem marked_reads' {fs : List Fm} {n m : Nat} {w : World} {g : Nat} (hn : fs.length = n) (hm : min n 20 = m) (h : Marked fs w g) (hg : g < w.heap.size) : Reads w w.heap.size 3 (some ⟨g, 0, none⟩) m (cellsOf (fs.take 20)) := by
  rw [← hm]; exact marked_reads hn h hg
theorem marked_mark {fs : List Fm} {w w' : World} {g m : Nat} (h : Marked fs w g) (hm : (fs.take 20).length = m) (hb : Below w.heap.size w w') :
    w'.cell? ⟨g, m * 3, none⟩ = some (.string ⟨#[109, 97, 114, 107]⟩) ∧ w'.cell? ⟨g, m * 3 + 1, none⟩ = some (.int .i64 (-1)) ∧ w'.cell? ⟨g, m * 3 + 2, none⟩ = some (.int .i64 0) := by
  subst hm
  obtain ⟨h0, h1, h2⟩ := cellsOf_at (fs.take 20 ++ List.replicate 9 mark) (fs.take 20).length mark (by rw [List.getElem?_append_right (Nat.le_refl _)]; simp)
  exact ⟨(hb.cell (World.block_lt_of_cell? w _ (h _ _ h0))).trans (h _ _ h0), (hb.cell (World.block_lt_of_cell? w _ (h _ _ h1))).trans (h _ _ h1), (hb.cell (World.block_lt_of_cell? w _ (h _ _ h2))).trans (h _ _ h2)⟩
theorem reads_at {w : World} {B n k g : Nat} {fs : List Fm} {f : Fm} (h : Reads w B 3 (some ⟨g, 0, none⟩) n (cellsOf fs)) (hk : k < n) (hf : fs[k]? = some f) :
    w.cell? ⟨g, k * 3, none⟩ = some (.string f.name) ∧ w.cell? ⟨g, k * 3 + 1, none⟩ = some (.int .i64 f.max) ∧ w.cell? ⟨g, k * 3 + 2, none⟩ = some (.int .i64 f.ttl) := by
  obtain ⟨b, o, e, _, hc⟩ := h.2 (by omega)
  injection e with e; injection e with e1 e2
  subst e1; subst e2
  obtain ⟨h0, h1, h2⟩ := cellsOf_at fs k f hf
  refine ⟨?_, ?_, ?_⟩
  · have := hc _ _ h0; rwa [Nat.zero_add] at this
  · have := hc _ _ h1; rwa [Nat.zero_add] at this
  · have := hc _ _ h2; rwa [Nat.zero_add] at this
theorem marked_lt {fs : List Fm} {w : World} {g : Nat} (h : Marked fs w g) : g < w.heap.size := by
  have : (cellsOf (fs.take 20 ++ List.replicate 9 mark))[(fs.take 20).length * 3]? = some (.string mark.name) :=
    (cellsOf_at _ (fs.take 20).length mark (by rw [List.getElem?_append_right (Nat.le_refl _)]; simp)).1
  exact World.block_lt_of_cell? w _ (h _ _ this)
theorem take_ok {fs : List Fm} (h : ∀ f ∈ fs, f.ok) : ∀ f ∈ fs.take 20, f.ok := fun f hf => h f (List.mem_of_mem_take hf)
theorem cell_below {w w' : World} {p : Addr} {v : Value} (hb : Below w.heap.size w w') (h : w.cell? p = some v) : w'.cell? p = some v :=
  (hb.cell (World.block_lt_of_cell? w p h)).trans h

set_option maxRecDepth 100000 in
set_option maxHeartbeats 8000000 in
theorem law_any (fs : List Fm) (A : Option Addr) (n c : Nat) (nm : ByteArray) (w : World) (hn : fs.length = n) (hm : n ≤ maxLen) (hnc : n ≤ c) (hr : Reads w w.heap.size 3 A n (cellsOf fs)) (hok : ∀ f ∈ fs, f.ok) :
    Calls Try.prog 3 #[.agg #[.slice A n c], .string nm] w fun e w' => e = .returned (.bool true) ∧ Below w.heap.size w w' := by
  have Hm := Lib.hid hm
  have Hn := Lib.hid hn
  have HR : Hid (∀ w', Below w.heap.size w w' → Reads w' w'.heap.size 3 A n (cellsOf fs)) := Lib.hid (fun w' hb' => (hr.below hb').more hb'.size)
  clear hm hn hr
  go_enter Try.func3, Try.ntmps3
  go_upto_region 1 with fail
  go_cut [5, 6] (fun s5 s6 wx => ∃ b5 b6 g1 g2 c1 c2 : Nat, s5 = .pointer (some ⟨b5, 0, none⟩) ∧ s6 = .pointer (some ⟨b6, 0, none⟩) ∧ wx.cell? ⟨b5, 0, none⟩ = some (.slice (some ⟨g1, 0, none⟩) (min n 20) c1) ∧ wx.cell? ⟨b6, 0, none⟩ = some (.slice (some ⟨g2, 0, none⟩) (min n 20) c2) ∧
      min n 20 + 9 ≤ c1 ∧ min n 20 + 9 ≤ c2 ∧ Marked fs wx g1 ∧ Marked fs wx g2 ∧ Below w.heap.size w wx)
  case first =>
    have tok1 : True := trivial
    go_region_held3 (fun w' => w'.cell? ⟨w.heap.size, 0, none⟩ = some (.slice A n c) ∧ Below w.heap.size w w') (first | (refine ⟨?_, ((Below.refl _ _).alloc (Nat.le_refl _) _).drew⟩; simp; done) | (refine ⟨?_, (((Below.refl _ _).alloc (Nat.le_refl _) _).alloc ?_ _).drew⟩ <;> simp; done) | (refine ⟨?_, ((((Below.refl _ _).alloc (Nat.le_refl _) _).alloc ?_ _).alloc ?_ _).drew⟩ <;> first | (simp; done) | (simp; omega) | (rw [World.cell?_drew, World.cell?_alloc_lt _ _ _ (by simp; omega), World.cell?_alloc_lt _ _ _ (by simp)]; simp; done)) | (repeat' (first | assumption | (dsimp only; omega) | refine keep_alloc ?_ | refine keep_set ?_ ?_ ?_)))
      (first | (go_at_call 4; have _t := tok1; refine (schema_any fs A n c _ Hn.out Hm.out hnc (HR.out _ (And.right (by assumption)))).mono ?_; rintro e w1 hs; obtain ⟨g1, cap1, rfl, p1, p2, p3, p4, p5, p6⟩ := hs; have pS := keep_call p6 (by assumption); obtain ⟨pbc, pbf, pbs⟩ := bcells p6; (try simp only [heap_drew, World.size_alloc] at pbc pbf pbs p1); have plt := World.block_lt_of_cell? _ _ pS.1; dsimp only at plt; have psz := p6.size; (try simp only [heap_drew, World.size_alloc] at psz); (try have pe : w.heap.size + 1 < w1.heap.size := by omega); (try have pe2 : w.heap.size + 2 < w1.heap.size := by omega); clear tok1) | (go_at_call 4; refine (schema_any fs A n c _ Hn.out Hm.out hnc (HR.out _ (And.right (by assumption)))).mono ?_; rintro e w2 hs; obtain ⟨g2, cap2, rfl, q1, q2, q3, q4, q5, q6⟩ := hs; have qS := keep_call q6 (by assumption); obtain ⟨qbc, qbf, qbs⟩ := bcells q6; (try simp only [World.size_alloc] at qbc qbf qbs q1); have qlt := World.block_lt_of_cell? _ _ qS.1; dsimp only at qlt; have qsz := q6.size; (try simp only [World.size_alloc] at qsz); (try have qe : w.heap.size + 1 < w2.heap.size := by omega); (try have qe2 : w.heap.size + 2 < w2.heap.size := by omega)))
    all_goals
      clear Hn Hm HR
      go_wp2_with fail
      go_meet
      refine ⟨_, _, g1, g2, cap1, cap2, rfl, rfl, ?_, ?_, p3, q3, ?_, ?_, And.right (by assumption)⟩
    all_goals clear pbc pbf pbs qbc qbf qbs
    all_goals (repeat' (first | assumption | omega | (dsimp only; omega) | (with_reducible refine cell_set_here ?_) | refine isSome_below q6 ?_ | refine isSome_set ?_ | (simp [go_sem]; done) | refine isSome_alloc ?_ | refine isSome_below p6 ?_ | (with_reducible refine cell_new) | (simp [go_sem]; done) | refine cell_alloc_old ?_ | refine cell_set_far ?_ ?_ | refine Marked.alloc ?_ ?_ | refine Marked.set ?_ ?_ | refine Marked.below q6 ?_ ?_ | (simp; done) | (simp; omega)))
  case rest =>
    obtain ⟨b5, b6, g1, g2, c1, c2, rfl, rfl, h5, h6, hc1, hc2, hM1, hM2, hb⟩ := hcut
    have hmn : min n 20 ≤ 20 := Nat.min_le_right _ _
    generalize hmm : min n 20 = m at *
    have HMM := Lib.hid hmm
    clear hmm
    have HO : Hid (∀ w', Below (wc.heap.size + 2) ((wc.alloc (.cells #[.string ⟨#[97]⟩, .int .i64 1, .int .i64 0] 27)).alloc (.cells #[.slice (some ⟨wc.heap.size, 0, none⟩) 1 1] 24)) w' → Reads w' w'.heap.size 3 (some ⟨wc.heap.size, 0, none⟩) 1 (cellsOf [fa])) := Lib.hid fun w' hb' =>
      ((((Reads.new wc #[.string ⟨#[97]⟩, .int .i64 1, .int .i64 0] 27 3 1 rfl).alloc (by simp) _).more (B' := wc.heap.size + 2) (by omega)).below hb').more (by have := hb'.size; simpa using this)
    have HB0 : Hid (Below (wc.heap.size + 2) ((wc.alloc (.cells #[.string ⟨#[97]⟩, .int .i64 1, .int .i64 0] 27)).alloc (.cells #[.slice (some ⟨wc.heap.size, 0, none⟩) 1 1] 24)) ((wc.alloc (.cells #[.string ⟨#[97]⟩, .int .i64 1, .int .i64 0] 27)).alloc (.cells #[.slice (some ⟨wc.heap.size, 0, none⟩) 1 1] 24))) := Lib.hid (Below.refl _ _)
    have j5 := cell_alloc_old (o := .cells #[.slice (some ⟨wc.heap.size, 0, none⟩) 1 1] 24) (cell_alloc_old (o := .cells #[.string ⟨#[97]⟩, .int .i64 1, .int .i64 0] 27) h5)
    have j6 := cell_alloc_old (o := .cells #[.slice (some ⟨wc.heap.size, 0, none⟩) 1 1] 24) (cell_alloc_old (o := .cells #[.string ⟨#[97]⟩, .int .i64 1, .int .i64 0] 27) h6)
    have tokA : True := trivial
    go_wp2_with (first
      | (go_at_call 5; have _t := tokA; refine (check_any [fa] _ 1 1 _ rfl (by decide) (HO.out _ HB0.out) fa_ok).mono ?_; rintro e w1 ⟨rfl, hb1⟩; rw [sch_one]; have HB1 := Lib.hid (HB0.out.trans (hb1.mono (by simp))); have k5 := cell_below hb1 j5; have k6 := cell_below hb1 j6; have kz := hb1.size; simp only [World.size_alloc] at kz; have kc := cell_below hb1 (p := ⟨wc.heap.size + 1, 0, none⟩) (v := .slice (some ⟨wc.heap.size, 0, none⟩) 1 1) (by simp); clear tokA j5 j6)
      | (go_at_call 5; refine (check_any [] _ 0 0 _ rfl (by decide) (Reads.nil) (by simp)).mono ?_; rintro e w2 ⟨rfl, hb2⟩; rw [sch_nil]; have HB2 := Lib.hid (HB1.out.trans (hb2.mono kz)); have l5 := cell_below hb2 k5; have l6 := cell_below hb2 k6; have lc := cell_below hb2 kc; have lz := hb2.size; clear k5 k6 kc)
      | (go_at_call 6; refine (family_any [fa] _ 1 1 _ _ rfl (by decide) (HO.out _ HB2.out)).mono ?_; rintro e w3 ⟨rfl, hb3⟩; rw [fam_one]; have HB3 := Lib.hid (HB2.out.trans (hb3.mono (by omega))); have m5 := cell_below hb3 l5; have m6 := cell_below hb3 l6; have mz := hb3.size; clear l5 l6 lc))
    have n5 := fun L : Later w3 => L.cell _ m5
    have n6 := fun L : Later w3 => L.cell _ m6
    have HW : Hid (Below wc.heap.size wc w3) := Lib.hid (((Below.refl _ _).alloc (Nat.le_refl _) _ |>.alloc (by simp) _).trans (HB3.out.mono (by omega)))
    have R1 : Hid (∀ L : Later w3, Reads L.w L.w.heap.size 3 (some ⟨g1, 0, none⟩) m (cellsOf (fs.take 20))) := Lib.hid fun L =>
      ((marked_reads' Hn.out HMM.out (Marked.below HW.out hM1 (marked_lt hM1)) (Nat.lt_of_lt_of_le (marked_lt hM1) HW.out.size)).below L.h).more L.h.size
    have R2 : Hid (∀ L : Later w3, Reads L.w L.w.heap.size 3 (some ⟨g2, 0, none⟩) m (cellsOf (fs.take 20))) := Lib.hid fun L =>
      ((marked_reads' Hn.out HMM.out (Marked.below HW.out hM2 (marked_lt hM2)) (Nat.lt_of_lt_of_le (marked_lt hM2) HW.out.size)).below L.h).more L.h.size
    have HK : Hid ((fs.take 20).length = m ∧ m ≤ maxLen) := Lib.hid ⟨by rw [List.length_take, Hn.out, ← HMM.out]; omega, by unfold maxLen; omega⟩
    have HO2 := Lib.hid (take_ok hok)
    refine wp_region_later (by kernel_rfl) (by kernel_rfl) ?_
    repeat (go_big_quiet_step (first
      | (go_at_call 5; exact Later.calls (check_any (fs.take 20) _ _ _ _ HK.out.1 HK.out.2 (R1.out _) HO2.out))
      | (go_at_call 7; exact Later.calls (rcheck_any (fs.take 20) _ _ _ _ HK.out.1 HK.out.2 (R2.out _) HO2.out))
      | (go_at_call 6; exact Later.calls (family_any (fs.take 20) _ _ _ _ _ HK.out.1 HK.out.2 (R1.out _)))
      | (go_at_call 8; exact Later.calls (rfamily_any (fs.take 20) _ _ _ _ _ HK.out.1 HK.out.2 (R2.out _)))))
    refine wpQuiet_nil ?_
    intro L
    have h4 := L.h
    have R3 := R1.out L
    have R4 := R2.out L
    clear n5 n6 R1 R2
    generalize L.w = w4 at *
    clear L
    have k5 := cell_below h4 m5
    have k6 := cell_below h4 m6
    have hw4 := (hb.trans (HW.out.mono hb.size)).trans (h4.mono (by have := hb.size; have := HW.out.size; omega))
    have S1 : Hid (∀ w', Below w4.heap.size w4 w' → Reads w' w'.heap.size 3 (some ⟨g1, 0, none⟩) m (cellsOf (fs.take 20))) := Lib.hid fun w' h' => (R3.below h').more h'.size
    have S2 : Hid (∀ w', Below w4.heap.size w4 w' → Reads w' w'.heap.size 3 (some ⟨g2, 0, none⟩) m (cellsOf (fs.take 20))) := Lib.hid fun w' h' => (R4.below h').more h'.size
    have M1 : Hid (Marked fs w4 g1) := Lib.hid (Marked.below h4 (Marked.below HW.out hM1 (marked_lt hM1)) (Nat.lt_of_lt_of_le (marked_lt hM1) HW.out.size))
    have M2 : Hid (Marked fs w4 g2) := Lib.hid (Marked.below h4 (Marked.below HW.out hM2 (marked_lt hM2)) (Nat.lt_of_lt_of_le (marked_lt hM2) HW.out.size))
    clear HO HB0 HB1 HB2 HB3 HW R3 R4 hM1 hM2 h5 h6 hb hb1 hb2 hb3 kz lz mz m5 m6 h4 w1 w2 w3
    go_wp2_with fail
    go_loopw [9] (fun i wr => ∃ k : Nat, k ≤ m ∧ i = .int .i64 k ∧ Hid (Below w4.heap.size w4 wr)) (fun i _ => m - (intOf i).toNat)
    case atStart => exact ⟨0, by omega, rfl, Lib.hid (Below.refl _ _)⟩
    case round =>
      obtain ⟨k, hk, rfl, hB⟩ := hrel
      have j5 := cell_below hB.out k5
      have j6 := cell_below hB.out k6
      by_cases hlt : k < m
      case neg =>
        obtain rfl : k = m := by omega
        obtain ⟨q0, q1, q2⟩ := marked_mark M1.out HK.out.1 hB.out
        go_wp2_with fail
        go_ret
        exact ⟨rfl, hw4.trans (hB.out.mono hw4.size)⟩
      obtain ⟨f, hf⟩ : ∃ f, (fs.take 20)[k]? = some f := ⟨_, List.getElem?_eq_getElem (by rw [HK.out.1]; exact hlt)⟩
      have r1 := fun L : Later wr => (reads_at (S1.out _ (hB.out.trans (L.h.mono hB.out.size))) hlt hf).1
      have r2 := fun L : Later wr => (reads_at (S1.out _ (hB.out.trans (L.h.mono hB.out.size))) hlt hf).2.1
      have r3 := fun L : Later wr => (reads_at (S1.out _ (hB.out.trans (L.h.mono hB.out.size))) hlt hf).2.2
      have r4 := fun L : Later wr => (reads_at (S2.out _ (hB.out.trans (L.h.mono hB.out.size))) hlt hf).1
      have r5 := fun L : Later wr => (reads_at (S2.out _ (hB.out.trans (L.h.mono hB.out.size))) hlt hf).2.1
      have r6 := fun L : Later wr => (reads_at (S2.out _ (hB.out.trans (L.h.mono hB.out.size))) hlt hf).2.2
      have n5 := fun L : Later wr => L.cell _ j5
      have n6 := fun L : Later wr => L.cell _ j6
      clear hf
      go_wp2_with fail
      refine wp_region_later (by kernel_rfl) (by kernel_rfl) ?_
      repeat (go_big_quiet_step (first
        | (go_at_call 6; exact Later.calls (family_any (fs.take 20) _ _ _ _ _ HK.out.1 HK.out.2 (S1.out _ (hB.out.trans ((Later.h _).mono hB.out.size)))))
        | (go_at_call 8; exact Later.calls (rfamily_any (fs.take 20) _ _ _ _ _ HK.out.1 HK.out.2 (S2.out _ (hB.out.trans ((Later.h _).mono hB.out.size)))))))
      refine wpQuiet_nil ?_
      intro L
      have HL : Hid (Below w4.heap.size w4 L.w) := Lib.hid (hB.out.trans (L.h.mono hB.out.size))
      clear r1 r2 r3 r4 r5 r6 n5 n6 j5 j6 hB
      go_wp2_with fail
      go_roundw
      case rel => exact ⟨k + 1, by omega, by go_num, HL⟩
      case measure => simp [intOf]; omega
end Go.Proofs.Ytkecjfeonenogaa
