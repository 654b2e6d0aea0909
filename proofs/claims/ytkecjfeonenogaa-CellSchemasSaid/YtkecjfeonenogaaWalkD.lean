/-
  CheckSchema of the document's answer, walked; schema of the law.
-/
import Derived.Test.YtkecjfeonenogaaWalkC
namespace Go.Proofs.Ytkecjfeonenogaa
open Go.RowKit

set_option maxHeartbeats 1000000 in
theorem rcheck_any (fs : List Fm) (A : Option Addr) (n c : Nat) (w : World) (hn : fs.length = n) (hm : n ≤ maxLen) (hr : Reads w w.heap.size 3 A n (cellsOf fs)) (hok : ∀ f ∈ fs, f.ok) :
    Calls Try.prog 7 #[.agg #[.slice A n c]] w fun e w' => e = .returned (.int .i64 (schemaE fs)) ∧ Below w.heap.size w w' := by
  have hm0 := hm
  unfold maxLen at hm
  have Hm := Lib.hid hm0
  have Hn := Lib.hid hn
  clear hm0 hn
  by_cases h1 : n < 1 ∨ 8 < n
  · have H := Lib.hid (schema_size fs (by rw [Hn.out]; exact h1))
    go_enter Try.func7, Try.ntmps7
    go_wp2_with (go_at_call 11; refine (out_t _ _ _ _ (by omega)).mono ?_; rintro e w' ⟨rfl, rfl⟩)
    go_ret
    exact ⟨ret_int H.out.symm, (Below.refl _ _).alloc (by omega) _⟩
  have h2 : 1 ≤ n := by omega
  have h3 : n ≤ 8 := by omega
  clear h1
  go_enter Try.func7, Try.ntmps7
  go_wp2_with (go_at_call 11; refine (out_f _ _ _ _ (by omega) (by omega)).mono ?_; rintro e w' ⟨rfl, rfl⟩)
  go_loopw [3] (fun i wr => ∃ k : Nat, k ≤ n ∧ i = .int .i64 k ∧ Below w.heap.size w wr ∧ w.heap.size < wr.heap.size ∧ wr.cell? ⟨w.heap.size, 0, none⟩ = some (.slice A n c) ∧ Hid (okTo fs k = true)) (fun i _ => n - (intOf i).toNat)
  case atStart => exact ⟨0, Nat.zero_le _, rfl, (Below.refl _ _).alloc (Nat.le_refl _) _, by simp, by simp, Lib.hid rfl⟩
  case round =>
    obtain ⟨k, hk, rfl, hb, hz, hc, hf⟩ := hrel
    by_cases hlt : k < n
    case neg =>
      go_wp2
      go_ret
      have : k = fs.length := by rw [Hn.out]; omega
      exact ⟨ret_int (schema_yes fs (by rw [Hn.out]; exact h2) (by rw [Hn.out]; exact h3) (this ▸ hf.out)).symm, hb⟩
    have hlk : k < fs.length := by rw [Hn.out]; exact hlt
    obtain ⟨f, hfk⟩ : ∃ f, fs[k]? = some f := ⟨_, List.getElem?_eq_getElem hlk⟩
    obtain ⟨b, o, rfl, hbb, hcell⟩ := hr.2 (by omega)
    obtain ⟨c0, c1, c2⟩ := cellsOf_at fs k _ hfk
    have h0 := (hb.cell (p := ⟨b, o + k * 3, none⟩) hbb).trans (hcell _ _ c0)
    have h1 := (hb.cell (p := ⟨b, o + k * 3 + 1, none⟩) hbb).trans (hcell _ _ c1)
    have h2 := (hb.cell (p := ⟨b, o + k * 3 + 2, none⟩) hbb).trans (hcell _ _ c2)
    obtain ⟨k1, k2, k3, k4, k5⟩ := hok f (List.mem_of_getElem? hfk)
    have HN : Hid (okFam fs k f = false → schemaE fs = 28) := Lib.hid (schema_bad fs k f hfk)
    have HY : Hid (okFam fs k f = true → okTo fs (k + 1) = true) := Lib.hid (okTo_succ fs k f hfk hf.out)
    have HR : Hid (∀ w', Below w.heap.size w w' → Reads w' w'.heap.size 3 (some ⟨b, o, none⟩) n (cellsOf fs)) := Lib.hid (fun w' hb' => (hr.below hb').more hb'.size)
    have hbd := famIdx_bd fs f.name 0
    clear c0 c1 c2 hcell hfk hok hr
    cases hnm : nameB f.name
    · have Hnm := Lib.hid hnm
      have H := Lib.hid (HN.out (okFam_no fs k f (.inl hnm)))
      clear hnm
      go_wp2_with ((go_at_call 12; refine (rname_any _ _ k1).mono ?_; rintro e w' ⟨rfl, rfl⟩; rw [Hnm.out]))
      go_ret
      exact ⟨ret_int H.out.symm, hb.alloc (by omega) _⟩
    have Hnm := Lib.hid hnm
    clear hnm
    by_cases hmx : f.max < 1 ∨ 16 < f.max
    · have H := Lib.hid (HN.out (okFam_no fs k f (by omega)))
      go_wp2_with (first
        | (go_at_call 12; refine (rname_any _ _ k1).mono ?_; rintro e w' ⟨rfl, rfl⟩; rw [Hnm.out])
        | (go_at_call 11; refine (out_t _ _ _ _ (by omega)).mono ?_; rintro e w' ⟨rfl, rfl⟩))
      go_ret
      exact ⟨ret_int H.out.symm, hb.alloc (by omega) _⟩
    have m1 : 1 ≤ f.max := by omega
    have m2 : f.max ≤ 16 := by omega
    clear hmx
    by_cases htt : f.ttl < 0 ∨ 1099511627776 < f.ttl
    · have H := Lib.hid (HN.out (okFam_no fs k f (by omega)))
      go_wp2_with (first
        | (go_at_call 12; refine (rname_any _ _ k1).mono ?_; rintro e w' ⟨rfl, rfl⟩; rw [Hnm.out])
        | (go_at_call 11; refine (out_f _ _ _ _ (by omega) (by omega)).mono ?_; rintro e w' ⟨rfl, rfl⟩)
        | (go_at_call 11; refine (out_t _ _ _ _ (by omega)).mono ?_; rintro e w' ⟨rfl, rfl⟩))
      go_ret
      exact ⟨ret_int H.out.symm, hb.alloc (by omega) _⟩
    have t1 : 0 ≤ f.ttl := by omega
    have t2 : f.ttl ≤ 1099511627776 := by omega
    clear htt
    by_cases hfi : famIdx fs f.name 0 = (k : Int)
    case neg =>
      have H := Lib.hid (HN.out (okFam_no fs k f (.inr (.inl hfi))))
      have d1 : (famIdx fs f.name 0 != (k : Int)) = true := by rw [bne_iff_ne]; exact hfi
      go_wp2_with (first
        | (go_at_call 12; refine (rname_any _ _ k1).mono ?_; rintro e w' ⟨rfl, rfl⟩; rw [Hnm.out])
        | (go_at_call 11; refine (out_f _ _ _ _ (by omega) (by omega)).mono ?_; rintro e w' ⟨rfl, rfl⟩)
        | (go_at_call 8; refine (rfamily_any fs _ _ _ _ _ Hn.out Hm.out (HR.out _ (hb.alloc (by omega) _))).mono ?_; rintro e w1 ⟨rfl, hb1⟩; have hc1 := bcell hb1))
      go_ret
      exact ⟨ret_int H.out.symm, (hb.alloc (by omega) _).trans (hb1.mono (by simp; omega))⟩
    have Hfi := Lib.hid hfi
    have d1 : (famIdx fs f.name 0 != (k : Int)) = false := by rw [bne_eq_false_iff_eq]; exact hfi
    clear hfi
    have H := Lib.hid (HY.out (okFam_yes fs k f Hnm.out Hfi.out m1 m2 t1 t2))
    go_wp2_with (first
      | (go_at_call 12; refine (rname_any _ _ k1).mono ?_; rintro e w' ⟨rfl, rfl⟩; rw [Hnm.out])
      | (go_at_call 11; refine (out_f _ _ _ _ (by omega) (by omega)).mono ?_; rintro e w' ⟨rfl, rfl⟩)
      | (go_at_call 8; refine (rfamily_any fs _ _ _ _ _ Hn.out Hm.out (HR.out _ (hb.alloc (by omega) _))).mono ?_; rintro e w1 ⟨rfl, hb1⟩; have hc1 := bcell hb1))
    have hz1 := hb1.size
    simp at hz1
    go_roundw
    case rel => exact ⟨k + 1, by omega, by go_num, (hb.alloc (by omega) _).trans (hb1.mono (by simp; omega)), by omega, (hc1 _ _ (by simp; omega)).trans ((World.cell?_alloc_lt _ _ _ hz).trans hc), H⟩
    case measure => simp [intOf]; omega

theorem Try.fams : SliceOf Try.prog 22 27 3 32 := SliceOf.mk' (z := .agg #[.string ⟨#[]⟩, .int .i64 0, .int .i64 0]) Try.underlying22 (by kernel_rfl) rfl (by decide)

/-- What schema leaves: the families cut at twenty, in new memory, nine marks behind them. -/
def SchemaPost (fs : List Fm) (n : Nat) (w : World) (e : Ending) (w' : World) : Prop :=
  ∃ g cap : Nat, e = .returned (.agg #[.slice (some ⟨g, 0, none⟩) (min n 20) cap]) ∧ w.heap.size ≤ g ∧ g < w'.heap.size ∧ min n 20 + 9 ≤ cap ∧ cap ≤ maxLen ∧
      (∀ j u, (cellsOf (fs.take 20 ++ List.replicate 9 mark))[j]? = some u → w'.cell? ⟨g, j, none⟩ = some u) ∧ Below w.heap.size w w'

theorem schema_end {fs : List Fm} {n : Nat} {w wr : World} {v : Value} {m : Nat} (hm : m = min n 20)
    (hown : wr.ownsRow (w.heap.size + 2) 27 3 v (m + 9) (cellsOf (fs.take 20 ++ List.replicate 9 mark))) (hb : Below w.heap.size w wr) :
    ∃ g cap, v = .slice (some ⟨g, 0, none⟩) (m + 9) cap ∧ m + 9 ≤ cap ∧ w.heap.size + 1 < g ∧
      ∀ u, SchemaPost fs n w (.returned (.agg #[.slice (some ⟨g, 0, none⟩) m cap])) (wr.setCell ⟨w.heap.size + 1, 0, none⟩ u) := by
  obtain ⟨g, cap, rfl, hg, hgs, hc, hcm⟩ := own_form hown (by omega)
  refine ⟨g, cap, rfl, hc, by omega, fun u => ⟨g, cap, by rw [hm], by omega, by simpa [World.setCell] using hgs, by omega, hcm, ?_, hb.setCell (by simp) u⟩⟩
  intro j x hx
  rw [World.cell?_setCell_other _ _ _ _ (by intro e; injection e with e; omega)]
  have hj : j < (m + 9) * 3 := by
    have := (List.getElem?_eq_some_iff.1 hx).1
    rwa [hown.1] at this
  rw [hown.cellAt j hj]
  exact hx

set_option maxRecDepth 100000 in
set_option maxHeartbeats 1000000 in
theorem schema_any (fs : List Fm) (A : Option Addr) (n c : Nat) (w : World) (hn : fs.length = n) (hm : n ≤ maxLen) (hnc : n ≤ c) (hr : Reads w w.heap.size 3 A n (cellsOf fs)) :
    Calls Try.prog 4 #[.agg #[.slice A n c]] w (SchemaPost fs n w) := by
  unfold maxLen at hm
  have Hn := Lib.hid hn
  clear hn
  by_cases h20 : 20 < n
  · have hr2 := hr.take (m := 20) (by omega)
    rw [← cellsOf_take] at hr2
    have HR : Hid (∀ w', Below w.heap.size w w' → Reads w' w.heap.size 3 A 20 (cellsOf (fs.take 20))) := Lib.hid fun w' hb => hr2.below hb
    have h1 := cells_one (fs.take 20)
    clear hr hr2
    go_enter Try.func4, Try.ntmps4
    go_wp2_with (first
      | (at_builtin; refine wpList_append_reads _ rfl (.tmp 13) (.tmp 14) rfl Try.fams (w.heap.size + 2) (.slice none 0 0) 0 [] rfl (World.ownsRow_nil _ _ _ _) w.heap.size A 20 c (cellsOf (fs.take 20)) rfl (HR.out _ (((Below.refl _ _).alloc (Nat.le_refl _) _).alloc (by simp) _)) h1 (by unfold maxLen; omega) (by omega) (by simp) ?_; intro v1 w1 hown1 hg1 hat1))
    have hb1 := below_app (B := w.heap.size) (((Below.refl w.heap.size w).alloc (Nat.le_refl _) (.cells #[.slice A n c] 24)).alloc (by simp) (.cells #[.slice none 0 0] 24)) (World.ownsRow_nil _ (w.heap.size + 2) 27 3) hg1 (by simp; omega) (by omega)
    have hz1 := hg1.size
    simp at hz1
    have hc1 := hg1.cell (a := ⟨w.heap.size + 1, 0, none⟩) (v := .slice none 0 0) (by simp) (by simp [Value.ownBlock])
    have hf1 : w1.frozen? ⟨w.heap.size + 1, 0, none⟩ = false := by
      rw [World.frozen?_of_block (hg1.block _ (by simp) (by simp [Value.ownBlock]))]; simp
    simp only [Nat.zero_add, List.nil_append] at hown1
    clear hg1 hat1
    go_loopw [4, 5] (fun v i wr => ∃ k : Nat, k ≤ 9 ∧ i = .int .i64 k ∧ wr.ownsRow (w.heap.size + 2) 27 3 v (20 + k) (cellsOf (fs.take 20 ++ List.replicate k mark)) ∧ Below w.heap.size w wr ∧ w.heap.size + 2 ≤ wr.heap.size ∧ wr.cell? ⟨w.heap.size + 1, 0, none⟩ = some (.slice none 0 0) ∧ wr.frozen? ⟨w.heap.size + 1, 0, none⟩ = false) (fun _ i _ => 9 - (intOf i).toNat)
    case atStart => exact ⟨0, by omega, rfl, by simpa using hown1, hb1, hz1, hc1, hf1⟩
    case round =>
      obtain ⟨k, hk, rfl, hown, hb, hz, hc, hf⟩ := hrel
      clear hown1 hb1 hz1 hc1 hf1
      by_cases hlt : k < 9
      · go_wp2_with (first
          | (at_builtin; refine wpList_append_reads _ rfl (.tmp 20) (.tmp 22) rfl Try.fams (w.heap.size + 2) u4 (20 + k) _ rfl (hown.alloc _) (wr.heap.size + 1) (some ⟨wr.heap.size, 0, none⟩) 1 1 (cellsOf [mark]) rfl (Reads.new wr #[.string ⟨#[109, 97, 114, 107]⟩, .int .i64 (-1), .int .i64 0] 27 3 1 rfl) (cells_one [mark]) (by unfold maxLen; omega) (by omega) (by simp; omega) ?_; intro v2 w2 hown2 hg2 hat2))
        have hb2 := below_app (hb.alloc (by omega) _) (hown.alloc _) hg2 (by simp; omega) (by omega)
        have hz2 := hg2.size
        simp at hz2
        have hne : some (w.heap.size + 1) ≠ u4.ownBlock := fun e => by have := (hown.lt _ e.symm).1; omega
        have hc2 := hg2.cell (a := ⟨w.heap.size + 1, 0, none⟩) (v := .slice none 0 0) ((World.cell?_alloc_lt _ _ _ (by simp; omega)).trans hc) hne
        have hf2 : w2.frozen? ⟨w.heap.size + 1, 0, none⟩ = false := by
          rw [World.frozen?_of_block (hg2.block _ (by simp; omega) hne), World.frozen?_of_block (Below.heap_alloc _ _ _ (by simp; omega))]; exact hf
        have e : cellsOf (fs.take 20 ++ List.replicate (k + 1) mark) = cellsOf (fs.take 20 ++ List.replicate k mark) ++ cellsOf [mark] := by
          rw [List.replicate_succ', ← List.append_assoc, cellsOf_append]
        have hown3 : w2.ownsRow (w.heap.size + 2) 27 3 v2 (20 + (k + 1)) (cellsOf (fs.take 20 ++ List.replicate (k + 1) mark)) := by rw [e]; exact hown2
        clear hown2 hg2 hat2 hown e hne
        go_roundw
        case rel => exact ⟨k + 1, by omega, by go_num, hown3, hb2, by omega, hc2, hf2⟩
        case measure => simp [intOf]; omega
      · obtain rfl : k = 9 := by omega
        obtain ⟨g, cap, rfl, hcap, hgl, hend⟩ := schema_end (m := 20) (n := n) (by omega) hown hb
        have HE := Lib.hid hend
        clear hend hown hlt
        go_wp2
        exact bodyPost_ret (v := .agg #[.slice (some ⟨g, 0, none⟩) 20 cap]) (by
          have h9 := World.cell?_setCell_same' wr ⟨w.heap.size + 1, 0, none⟩ (.slice (some ⟨g, 0, none⟩) 20 cap) (by rw [hc]; rfl)
          simp [results, Try.results4, go_sem, h9]) rfl (HE.out _)
  · have hr2 := hr
    rw [← List.take_of_length_le (l := fs) (i := 20) (by rw [Hn.out]; omega)] at hr2
    have HR : Hid (∀ w', Below w.heap.size w w' → Reads w' w.heap.size 3 A n (cellsOf (fs.take 20))) := Lib.hid fun w' hb => hr2.below hb
    have h1 := cells_one (fs.take 20)
    clear hr hr2
    go_enter Try.func4, Try.ntmps4
    go_wp2_with (first
      | (at_builtin; refine wpList_append_reads _ rfl (.tmp 13) (.tmp 14) rfl Try.fams (w.heap.size + 2) (.slice none 0 0) 0 [] rfl (World.ownsRow_nil _ _ _ _) w.heap.size A n c (cellsOf (fs.take 20)) rfl (HR.out _ (((Below.refl _ _).alloc (Nat.le_refl _) _).alloc (by simp) _)) h1 (by unfold maxLen; omega) (by omega) (by simp) ?_; intro v1 w1 hown1 hg1 hat1))
    have hb1 := below_app (B := w.heap.size) (((Below.refl w.heap.size w).alloc (Nat.le_refl _) (.cells #[.slice A n c] 24)).alloc (by simp) (.cells #[.slice none 0 0] 24)) (World.ownsRow_nil _ (w.heap.size + 2) 27 3) hg1 (by simp; omega) (by omega)
    have hz1 := hg1.size
    simp at hz1
    have hc1 := hg1.cell (a := ⟨w.heap.size + 1, 0, none⟩) (v := .slice none 0 0) (by simp) (by simp [Value.ownBlock])
    have hf1 : w1.frozen? ⟨w.heap.size + 1, 0, none⟩ = false := by
      rw [World.frozen?_of_block (hg1.block _ (by simp) (by simp [Value.ownBlock]))]; simp
    simp only [Nat.zero_add, List.nil_append] at hown1
    clear hg1 hat1
    go_loopw [4, 5] (fun v i wr => ∃ k : Nat, k ≤ 9 ∧ i = .int .i64 k ∧ wr.ownsRow (w.heap.size + 2) 27 3 v (n + k) (cellsOf (fs.take 20 ++ List.replicate k mark)) ∧ Below w.heap.size w wr ∧ w.heap.size + 2 ≤ wr.heap.size ∧ wr.cell? ⟨w.heap.size + 1, 0, none⟩ = some (.slice none 0 0) ∧ wr.frozen? ⟨w.heap.size + 1, 0, none⟩ = false) (fun _ i _ => 9 - (intOf i).toNat)
    case atStart => exact ⟨0, by omega, rfl, by simpa using hown1, hb1, hz1, hc1, hf1⟩
    case round =>
      obtain ⟨k, hk, rfl, hown, hb, hz, hc, hf⟩ := hrel
      clear hown1 hb1 hz1 hc1 hf1
      by_cases hlt : k < 9
      · go_wp2_with (first
          | (at_builtin; refine wpList_append_reads _ rfl (.tmp 20) (.tmp 22) rfl Try.fams (w.heap.size + 2) u4 (n + k) _ rfl (hown.alloc _) (wr.heap.size + 1) (some ⟨wr.heap.size, 0, none⟩) 1 1 (cellsOf [mark]) rfl (Reads.new wr #[.string ⟨#[109, 97, 114, 107]⟩, .int .i64 (-1), .int .i64 0] 27 3 1 rfl) (cells_one [mark]) (by unfold maxLen; omega) (by omega) (by simp; omega) ?_; intro v2 w2 hown2 hg2 hat2))
        have hb2 := below_app (hb.alloc (by omega) _) (hown.alloc _) hg2 (by simp; omega) (by omega)
        have hz2 := hg2.size
        simp at hz2
        have hne : some (w.heap.size + 1) ≠ u4.ownBlock := fun e => by have := (hown.lt _ e.symm).1; omega
        have hc2 := hg2.cell (a := ⟨w.heap.size + 1, 0, none⟩) (v := .slice none 0 0) ((World.cell?_alloc_lt _ _ _ (by simp; omega)).trans hc) hne
        have hf2 : w2.frozen? ⟨w.heap.size + 1, 0, none⟩ = false := by
          rw [World.frozen?_of_block (hg2.block _ (by simp; omega) hne), World.frozen?_of_block (Below.heap_alloc _ _ _ (by simp; omega))]; exact hf
        have e : cellsOf (fs.take 20 ++ List.replicate (k + 1) mark) = cellsOf (fs.take 20 ++ List.replicate k mark) ++ cellsOf [mark] := by
          rw [List.replicate_succ', ← List.append_assoc, cellsOf_append]
        have hown3 : w2.ownsRow (w.heap.size + 2) 27 3 v2 (n + (k + 1)) (cellsOf (fs.take 20 ++ List.replicate (k + 1) mark)) := by rw [e]; exact hown2
        clear hown2 hg2 hat2 hown e hne
        go_roundw
        case rel => exact ⟨k + 1, by omega, by go_num, hown3, hb2, by omega, hc2, hf2⟩
        case measure => simp [intOf]; omega
      · obtain rfl : k = 9 := by omega
        obtain ⟨g, cap, rfl, hcap, hgl, hend⟩ := schema_end (m := n) (n := n) (by omega) hown hb
        have HE := Lib.hid hend
        clear hend hown hlt
        go_wp2
        exact bodyPost_ret (v := .agg #[.slice (some ⟨g, 0, none⟩) n cap]) (by
          have h9 := World.cell?_setCell_same' wr ⟨w.heap.size + 1, 0, none⟩ (.slice (some ⟨g, 0, none⟩) n cap) (by rw [hc]; rfl)
          simp [results, Try.results4, go_sem, h9]) rfl (HE.out _)

end Go.Proofs.Ytkecjfeonenogaa
