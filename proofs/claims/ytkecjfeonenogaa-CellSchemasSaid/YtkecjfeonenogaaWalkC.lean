/-
  CheckSchema of the program and of the document's answer, walked.
-/
import Derived.Test.YtkecjfeonenogaaWalkB
namespace Go.Proofs.Ytkecjfeonenogaa
open Go.RowKit

theorem bcell {W w1 : World} (hb : Below W.heap.size W w1) : (∀ b o, b < W.heap.size → w1.cell? ⟨b, o, none⟩ = W.cell? ⟨b, o, none⟩) :=
  fun b o h => hb.cell (p := ⟨b, o, none⟩) h

set_option maxHeartbeats 1000000 in
theorem check_any (fs : List Fm) (A : Option Addr) (n c : Nat) (w : World) (hn : fs.length = n) (hm : n ≤ maxLen) (hr : Reads w w.heap.size 3 A n (cellsOf fs)) (hok : ∀ f ∈ fs, f.ok) :
    Calls Try.prog 5 #[.agg #[.slice A n c]] w fun e w' => e = .returned (.int .i64 (schemaE fs)) ∧ Below w.heap.size w w' := by
  have hm0 := hm
  unfold maxLen at hm
  have Hm := Lib.hid hm0
  have Hn := Lib.hid hn
  clear hm0 hn
  by_cases h1 : n < 1 ∨ 8 < n
  · have H := Lib.hid (schema_size fs (by rw [Hn.out]; exact h1))
    go_enter Try.func5, Try.ntmps5
    go_wp2_with (go_at_call 9; refine (outside_t _ _ _ _ (by omega)).mono ?_; rintro e w' ⟨rfl, rfl⟩)
    go_ret
    exact ⟨ret_int H.out.symm, (Below.refl _ _).alloc (by omega) _⟩
  have h2 : 1 ≤ n := by omega
  have h3 : n ≤ 8 := by omega
  clear h1
  go_enter Try.func5, Try.ntmps5
  go_wp2_with (go_at_call 9; refine (outside_f _ _ _ _ (by omega) (by omega)).mono ?_; rintro e w' ⟨rfl, rfl⟩)
  go_loopw [12] (fun i wr => ∃ k : Nat, k ≤ n ∧ i = .int .i64 k ∧ Below w.heap.size w wr ∧ w.heap.size < wr.heap.size ∧ wr.cell? ⟨w.heap.size, 0, none⟩ = some (.slice A n c) ∧ Hid (okTo fs k = true)) (fun i _ => n - (intOf i).toNat)
  case atStart => exact ⟨0, Nat.zero_le _, rfl, (Below.refl _ _).alloc (Nat.le_refl _) _, by simp, by simp, Lib.hid rfl⟩
  case round =>
    obtain ⟨k, hk, rfl, hb, hz, hc, hf⟩ := hrel
    by_cases hlt : k < n
    case neg =>
      go_wp2
      go_ret
      have : k = fs.length := by rw [Hn.out]; omega
      exact ⟨ret_int (schema_yes fs (by rw [Hn.out]; exact h2) (by rw [Hn.out]; exact h3) (this ▸ hf.out)).symm, hb⟩
    have hlk : k < fs.length := by rw [Hn.out]; exact hlt
    obtain ⟨f, hfk⟩ : ∃ f, fs[k]? = some f := ⟨_, List.getElem?_eq_getElem hlk⟩
    obtain ⟨b, o, rfl, hbb, hcell⟩ := hr.2 (by omega)
    obtain ⟨c0, c1, c2⟩ := cellsOf_at fs k _ hfk
    have h0 := (hb.cell (p := ⟨b, o + k * 3, none⟩) hbb).trans (hcell _ _ c0)
    have h1 := (hb.cell (p := ⟨b, o + k * 3 + 1, none⟩) hbb).trans (hcell _ _ c1)
    have h2 := (hb.cell (p := ⟨b, o + k * 3 + 2, none⟩) hbb).trans (hcell _ _ c2)
    obtain ⟨k1, k2, k3, k4, k5⟩ := hok f (List.mem_of_getElem? hfk)
    have HN : Hid (okFam fs k f = false → schemaE fs = 28) := Lib.hid (schema_bad fs k f hfk)
    have HY : Hid (okFam fs k f = true → okTo fs (k + 1) = true) := Lib.hid (okTo_succ fs k f hfk hf.out)
    have HR : Hid (∀ w', Below w.heap.size w w' → Reads w' w'.heap.size 3 (some ⟨b, o, none⟩) n (cellsOf fs)) := Lib.hid (fun w' hb' => (hr.below hb').more hb'.size)
    have hbd := famIdx_bd fs f.name 0
    clear c0 c1 c2 hcell hfk hok hr
    cases hnm : nameB f.name
    · have Hnm := Lib.hid hnm
      have H := Lib.hid (HN.out (okFam_no fs k f (.inl hnm)))
      clear hnm
      go_wp2_with (go_at_call 10; refine (named_any _ _ k1).mono ?_; rintro e w' ⟨rfl, rfl⟩; rw [Hnm.out])
      go_ret
      exact ⟨ret_int H.out.symm, hb.alloc (by omega) _⟩
    have Hnm := Lib.hid hnm
    clear hnm
    by_cases hfi : famIdx fs f.name 0 = (k : Int)
    case neg =>
      have H := Lib.hid (HN.out (okFam_no fs k f (.inr (.inl hfi))))
      have d1 : (famIdx fs f.name 0 != (k : Int)) = true := by rw [bne_iff_ne]; exact hfi
      go_wp2_with (first
        | (go_at_call 10; refine (named_any _ _ k1).mono ?_; rintro e w' ⟨rfl, rfl⟩; rw [Hnm.out])
        | (go_at_call 6; refine (family_any fs _ _ _ _ _ Hn.out Hm.out (HR.out _ (hb.alloc (by omega) _))).mono ?_; rintro e w1 ⟨rfl, hb1⟩; have hc1 := bcell hb1))
      go_ret
      exact ⟨ret_int H.out.symm, (hb.alloc (by omega) _).trans (hb1.mono (by simp; omega))⟩
    have Hfi := Lib.hid hfi
    have d1 : (famIdx fs f.name 0 != (k : Int)) = false := by rw [bne_eq_false_iff_eq]; exact hfi
    clear hfi
    by_cases hmx : f.max < 1 ∨ 16 < f.max
    · have H := Lib.hid (HN.out (okFam_no fs k f (by omega)))
      go_wp2_with (first
        | (go_at_call 10; refine (named_any _ _ k1).mono ?_; rintro e w' ⟨rfl, rfl⟩; rw [Hnm.out])
        | (go_at_call 6; refine (family_any fs _ _ _ _ _ Hn.out Hm.out (HR.out _ (hb.alloc (by omega) _))).mono ?_; rintro e w1 ⟨rfl, hb1⟩; have hc1 := bcell hb1)
        | (go_at_call 9; refine (outside_t _ _ _ _ (by omega)).mono ?_; rintro e w' ⟨rfl, rfl⟩))
      go_ret
      exact ⟨ret_int H.out.symm, (hb.alloc (by omega) _).trans (hb1.mono (by simp; omega))⟩
    have m1 : 1 ≤ f.max := by omega
    have m2 : f.max ≤ 16 := by omega
    clear hmx
    by_cases htt : f.ttl < 0 ∨ 1099511627776 < f.ttl
    · have H := Lib.hid (HN.out (okFam_no fs k f (by omega)))
      go_wp2_with (first
        | (go_at_call 10; refine (named_any _ _ k1).mono ?_; rintro e w' ⟨rfl, rfl⟩; rw [Hnm.out])
        | (go_at_call 6; refine (family_any fs _ _ _ _ _ Hn.out Hm.out (HR.out _ (hb.alloc (by omega) _))).mono ?_; rintro e w1 ⟨rfl, hb1⟩; have hc1 := bcell hb1)
        | (go_at_call 9; refine (outside_f _ _ _ _ (by omega) (by omega)).mono ?_; rintro e w' ⟨rfl, rfl⟩)
        | (go_at_call 9; refine (outside_t _ _ _ _ (by omega)).mono ?_; rintro e w' ⟨rfl, rfl⟩))
      go_ret
      exact ⟨ret_int H.out.symm, (hb.alloc (by omega) _).trans (hb1.mono (by simp; omega))⟩
    have t1 : 0 ≤ f.ttl := by omega
    have t2 : f.ttl ≤ 1099511627776 := by omega
    clear htt
    have H := Lib.hid (HY.out (okFam_yes fs k f Hnm.out Hfi.out m1 m2 t1 t2))
    go_wp2_with (first
      | (go_at_call 10; refine (named_any _ _ k1).mono ?_; rintro e w' ⟨rfl, rfl⟩; rw [Hnm.out])
      | (go_at_call 6; refine (family_any fs _ _ _ _ _ Hn.out Hm.out (HR.out _ (hb.alloc (by omega) _))).mono ?_; rintro e w1 ⟨rfl, hb1⟩; have hc1 := bcell hb1)
      | (go_at_call 9; refine (outside_f _ _ _ _ (by omega) (by omega)).mono ?_; rintro e w' ⟨rfl, rfl⟩))
    have hz1 := hb1.size
    simp at hz1
    go_roundw
    case rel => exact ⟨k + 1, by omega, by go_num, (hb.alloc (by omega) _).trans (hb1.mono (by simp; omega)), by omega, (hc1 _ _ (by simp; omega)).trans ((World.cell?_alloc_lt _ _ _ hz).trans hc), H⟩
    case measure => simp [intOf]; omega

end Go.Proofs.Ytkecjfeonenogaa
