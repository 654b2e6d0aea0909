/-
  Laid together by merge.py: BlockP7, WireW8, BlockS2, Kit40, BlockA1, BlockP9, BlockS4.
-/
import Derived.Test.YtmigjipfomfacaaDoorBk4
import Derived.Test.YtmigjipfomfacaaDoorBk5
import Derived.Test.YtmigjipfomfacaaDoorBk2
import Derived.StillTailTactics
import Derived.RangeFuncNested
import Derived.RangeFuncBound
import Derived.RangeFuncCalls
import Derived.RangeFuncLeaves
import Derived.OwnWalkIn
import Derived.TacticsInMore
import Derived.LoopIn
import Derived.Shelf.Abstract
import Derived.Deep.DeepCutAuto

/-
  Bits turned over in a block; plain laws.
-/
namespace Go.Proofs.YtmigjipfomfacaaDoor

theorem burst_hit (l : List UInt8) (b : Nat) (ys : List Int) (hnd : ys.Nodup) (hw : ∀ z ∈ ys, 0 ≤ z ∧ z < 8 * (l.length : Int) → (b : Int) ≤ z ∧ z < (b : Int) + 32) (hz : ∃ z, z ∈ ys ∧ 0 ≤ z ∧ z < 8 * (l.length : Int)) : dls l.length ys ≠ 0 := by
  obtain ⟨z, hz, hin⟩ := hz
  obtain ⟨h1, h2⟩ := hw z hz hin
  obtain ⟨Q, hQ, hd, hbit⟩ := burst_sum l.length b (by omega) ys hnd hw
  obtain ⟨s, rfl⟩ : ∃ s : Nat, z = (b : Int) + (s : Int) := ⟨(z - b).toNat, by omega⟩
  rw [hd]
  intro h0
  have h3 := rIter_eq_zero _ hQ h0
  have h4 := (hbit s).2 ⟨hz, by omega⟩
  rw [h3] at h4
  simp at h4
theorem bz_lt {a hi P k : Nat} {z : Int} (h : z ∈ bz a hi P k) : 0 ≤ z ∧ z < (hi : Int) := by
  unfold bz at h
  obtain ⟨i, hi', rfl⟩ := List.mem_map.1 h
  have := (List.mem_filter.1 hi').2
  simp at this
  omega
theorem lay_burst (R : Nat) (s : BSt) (a P : Nat) (hne : bz a (8 * (layS R s).length) P 32 ≠ []) : sumOkB (flipsB (layS R s) (bz a (8 * (layS R s).length) P 32)) = false := by
  obtain ⟨z, hz⟩ := List.exists_mem_of_ne_nil _ hne
  have hin := bz_lt hz
  have hl : (layS R s).length = (headB5 R s).length + 4 := by unfold layS; rw [List.length_append, lowB_len]
  have hd : dls ((headB5 R s).length + 4) (bz a (8 * (layS R s).length) P 32) ≠ 0 := by
    rw [← hl]
    refine burst_hit (layS R s) a _ (bz_nodup _ _ _ _) (fun y hy _ => by have := bz_mem hy; omega) ⟨z, hz, hin.1, by omega⟩
  have ht := seg_told (headB5 R s) (flipsB (layS R s) (bz a (8 * (layS R s).length) P 32)) _ rfl hd
  unfold sumOkB
  rw [flipsB_length, hl, Nat.add_sub_cancel]
  rw [hl] at ht
  rw [beq_eq_false_iff_ne]
  exact fun e => ht e.symm
theorem open_burst {R : Nat} {L : List Ent} {b : List UInt8} (h : buildE5 (R : Int) L = (b, 0)) (a P : Nat) (hne : bz a (8 * b.length) P 32 ≠ []) : openE (flipsB b (bz a (8 * b.length) P 32)) = (none, 52) := by
  obtain ⟨_, _, h3, _, h5, _⟩ := build_parts h
  have hsz : sizeS (runB R L) ≤ 131072 := by
    have := buildK_size R L [] (by show 9 ≤ 131072; decide) h3
    simpa using this
  have hlen : b.length = sizeS (runB R L) := by rw [h5, layS_len]
  have h9 : 9 ≤ sizeS (runB R L) := by unfold sizeS; omega
  have hs : sumOkB (flipsB b (bz a (8 * b.length) P 32)) = false := by
    rw [h5] at hne ⊢
    exact lay_burst R _ a P hne
  unfold openE
  rw [flipsB_length, if_neg (by omega), if_neg (by omega), if_pos hs]
end Go.Proofs.YtmigjipfomfacaaDoor

/-
  The statements' 'turned', walked.
-/
namespace Go.Proofs.YtmigjipfomfacaaDoor
open Go.RowKit

theorem flipB_set {l : List UInt8} {Z : Nat} (h : Z < 8 * l.length) : flipB l (Z : Int) = l.set (Z / 8) (flipU (l[Z / 8]?.getD 0) (Z % 8)) := by
  unfold flipB
  rw [if_pos (by omega), Int.toNat_natCast]
theorem OwnB.kept {T : TypeId} {base : Nat} {w w' : World} {A : Option Addr} {c g : Nat} {l : List UInt8} (h : OwnB T base w A c l) (hg : w.grownBy w' (some g)) (hlt : g < base) : OwnB T base w' A c l := by
  refine World.ownsRow.kept h hg ?_
  cases A with
  | none => exact .inl rfl
  | some a =>
    refine .inr fun e => ?_
    have := (World.ownsRow.lt h a.block rfl).1
    injection e with e
    omega
theorem grown_drew' {a b : World} {r : Option Nat} (h : a.grownBy b r) : a.grownBy b.drew r := ⟨h.os, h.tape, h.output, h.size, h.block⟩
theorem u8s_set (l : List UInt8) (k : Nat) (x : UInt8) : (u8s l).set k (u8v x) = u8s (l.set k x) := by
  unfold u8s
  rw [List.map_set]

end Go.Proofs.YtmigjipfomfacaaDoor

/-
  BlockBurst, walked.
-/
namespace Go.Proofs.YtmigjipfomfacaaDoor
open Go.RowKit

set_option maxRecDepth 100000 in
set_option maxHeartbeats 4000000 in
theorem burstL_any (R : Int) (es : List Ent) (bit : Int) (P : Nat) (A : Option Addr) (n c : Nat) (w : World) (hes : Ens w A n es) (hn : n ≤ 9223372036854775807) (_hbit : -9223372036854775808 ≤ bit ∧ bit < 9223372036854775808) (hP : P < 4294967296) (ht : TabAt 0 w) :
    Calls Tryd.prog 5 #[.int .i64 R, .slice A n c, .int .i64 bit, .int .u32 P] w fun e z => e = .returned (.bool true) ∧ Below w.heap.size w z := by
  have HES := Lib.hid hes
  have HTB : Hid (∀ z, Below w.heap.size w z → TabAt 0 z) := Lib.hid fun z hz => ht.later hz
  obtain ⟨L, hL⟩ : ∃ z, z = sortL (es.take 80) := ⟨_, rfl⟩
  obtain ⟨Bb, be, hB⟩ : ∃ B be, buildE5 R L = (B, be) := ⟨_, _, rfl⟩
  obtain ⟨bn, hbn⟩ : ∃ z, z = Bb.length := ⟨_, rfl⟩
  have HB := Lib.hid hB
  have HBN := Lib.hid hbn.symm
  have HLL := Lib.hid hL.symm
  clear hes ht hL hB hbn
  go_enter Tryd.func5, Tryd.ntmps5
  by_cases hbe : be = 0
  case neg =>
    have hd : (be != 0) = true := bne_iff_ne.2 hbe
    clear hbe
    go_wp2_with (first
      | (go_at_call 9; go_must (refine (sorted_any es A n c _ HES.out hn).mono ?_); rw [HLL.out]; rintro e x1 ⟨MA, mc, k, rs, rfl, hk80, hs, hx⟩; have HX := Lib.hid hx; have HSR := Lib.hid hs; clear hx hs)
      | (go_at_call 10; go_must (refine (build_any R L MA k mc _ (HSR.out.ens HX.out (i := 0) rfl) (by omega) (HTB.out _ HX.out.up)).mono ?_); rw [HB.out]; rintro e x2 hp; obtain ⟨A2, c2, rfl, _, _, hb⟩ := hp.at_ HBN.out rfl; replace HX := Lib.hid (HX.out.later hb); clear hp hb)
      | (go_at_call 11; go_must (refine (told_any _ (HTB.out _ HX.out.up)).mono ?_); rintro e x3 ⟨rfl, hb⟩; replace HX := Lib.hid (HX.out.later hb); clear hb))
    go_ret
    exact ⟨rfl, HX.out.up⟩
  have hd : (be != 0) = false := by rw [hbe]; rfl
  have hR : ∃ r : Nat, R = (r : Int) ∧ 1 ≤ r ∧ r ≤ 16 := by
    have h := HB.out
    unfold buildE5 at h
    split at h
    · injection h with _ h; omega
    · exact ⟨R.toNat, by omega, by omega, by omega⟩
  obtain ⟨r, rfl, hr1, hr2⟩ := hR
  have HB0 : Hid (buildE5 (r : Int) L = (Bb, 0)) := Lib.hid (by rw [HB.out, hbe])
  have HOP : Hid (openE Bb = (some L, 0) ∧ resB Bb = r) := Lib.hid (openE_lay HB0.out)
  have HPB := Lib.hid (build_parts HB0.out)
  have HSZ : Hid (9 ≤ bn ∧ bn ≤ 131072) := Lib.hid (by
    have h1 := buildK_size r L [] (by show 9 ≤ 131072; decide) HPB.out.2.2.1
    rw [List.nil_append] at h1
    rw [← HBN.out, HPB.out.2.2.2.2.1, layS_len]
    exact ⟨by unfold sizeS; omega, h1⟩)
  have hb9 := HSZ.out.1
  have hb1 := HSZ.out.2
  obtain ⟨P', hP'⟩ : ∃ z, z = if P = 0 then 1 else P := ⟨_, rfl⟩
  have hPb : P' < 4294967296 := by rw [hP']; split <;> omega
  have HP' := Lib.hid hP'
  clear hbe hP'
  go_upto_if 39 with (first
    | (go_at_call 9; go_must (refine (sorted_any es A n c _ HES.out hn).mono ?_); rw [HLL.out]; rintro e x1 ⟨MA, mc, k, rs, rfl, hk80, hs, hx⟩; have HX := Lib.hid hx; have HSR := Lib.hid hs; clear hx hs)
    | (go_at_call 10; go_must (refine (build_any (r : Int) L MA k mc _ (HSR.out.ens HX.out (i := 0) rfl) (by omega) (HTB.out _ HX.out.up)).mono ?_); rw [HB0.out]; rintro e x2 hp; obtain ⟨A2, c2, rfl, _, ho, hb⟩ := hp.at_ HBN.out rfl; have HX2 := Lib.hid ((HX.out.app (OW.byt1 hb ho)).erase 0); clear hp hb ho HX)
    | (go_at_call 11; go_must (refine (told_any _ (HTB.out _ HX2.out.up)).mono ?_); rintro e x3 ⟨rfl, hb⟩; have HX3 : Hid (OW w [bytO 5 (A2, c2, Bb)] x3) := Lib.hid (HX2.out.later hb); clear hb HX2))
  obtain ⟨w3, rfl⟩ : ∃ z : World, z = x3 := ⟨_, rfl⟩
  go_cut [3] (fun pv wx => w3 = wx ∧ pv = .int .u32 (P' : Int))
  case first =>
    by_cases hp0 : P = 0
    · have hdp : ((P : Int) == 0) = true := by rw [hp0]; rfl
      have HQ : Hid (P' = 1) := Lib.hid (by rw [HP'.out, if_pos hp0])
      clear hp0
      go_wp2_with fail
      go_meet
      exact ⟨rfl, by rw [HQ.out]; rfl⟩
    · have hdp : ((P : Int) == 0) = false := beq_eq_false_iff_ne.2 (by omega)
      have HQ : Hid (P' = P) := Lib.hid (by rw [HP'.out, if_neg hp0])
      clear hp0
      go_wp2_with fail
      go_meet
      exact ⟨rfl, by rw [HQ.out]⟩
  obtain ⟨rfl, rfl⟩ := hcut
  obtain ⟨al, hal⟩ : ∃ z, z = 8 * bn := ⟨_, rfl⟩
  have q8 : 8 * (bn : Int) = (al : Int) := by omega
  have halb : al ≤ 1048576 := by omega
  have hal9 : 72 ≤ al := by omega
  have HAL0 := Lib.hid hal
  clear hal
  obtain ⟨fm, hfm⟩ : ∃ z, z = Int.tmod bit (al : Int) := ⟨_, rfl⟩
  have hal0 : ¬ (al : Int) = 0 := by omega
  have hal1 : ¬ al = 0 := by omega
  have hf1 : fm < (al : Int) := by rw [hfm]; exact Int.tmod_lt_of_pos _ (by omega)
  have hf2 : -(al : Int) < fm := by rw [hfm]; have h := Int.tmod_lt_of_pos (-bit) (b := (al : Int)) (by omega); rw [Int.neg_tmod] at h; omega
  obtain ⟨fr, hfr⟩ : ∃ z : Nat, (z : Int) = if fm < 0 then fm + al else fm := ⟨(if fm < 0 then fm + al else fm).toNat, by split <;> omega⟩
  have hfrl : fr < al := by split at hfr <;> omega
  have HFR := Lib.hid hfr
  have hfm2 : Int.tmod bit (al : Int) = fm := hfm.symm
  clear hfr hfm
  go_upto_if 47 with fail
  go_cut [13] (fun fv wx => w3 = wx ∧ fv = .int .i64 (fr : Int))
  case first =>
    by_cases hneg : fm < 0
    · have hdn : decide (fm < 0) = true := decide_eq_true hneg
      have HQ : Hid ((fr : Int) = fm + al) := Lib.hid (by rw [HFR.out, if_pos hneg])
      go_wp2_with fail
      go_meet
      exact ⟨rfl, by rw [HQ.out]⟩
    · have hdn : decide (fm < 0) = false := decide_eq_false hneg
      have HQ : Hid ((fr : Int) = fm) := Lib.hid (by rw [HFR.out, if_neg hneg])
      go_wp2_with fail
      go_meet
      exact ⟨rfl, by rw [HQ.out]⟩
  obtain ⟨rfl, rfl⟩ := hcut
  obtain ⟨g, gcap, hv, _⟩ := own_form (HX3.out.row (i := 0) rfl) (show 0 < Bb.length by have := HBN.out; omega)
  injection hv with hv _ hcp
  subst hv
  subst hcp
  have HAL : Hid (al = 8 * Bb.length) := Lib.hid (by rw [HAL0.out, HBN.out])
  clear q8 hal0 hal1 hf1 hf2 hfm2
  go_wp2_with fail
  go_loopw [14, 15, 16] (fun tv iv _ wr => ∃ j t : Nat, j ≤ 32 ∧ t ≤ j ∧ iv = .int .i64 j ∧ tv = .int .i64 t ∧ Hid (t = (bz fr al P' j).length) ∧ Hid (OW w [bytO 5 (some ⟨g, 0, none⟩, c2, flipsB Bb (bz fr al P' j))] wr)) (fun _ iv _ _ => 32 - (intOf iv).toNat)
  case atStart => exact ⟨0, 0, by omega, Nat.le_refl _, rfl, rfl, Lib.hid rfl, HX3⟩
  case round =>
    clear HX3
    obtain ⟨j, t, hj, htj, rfl, rfl, HT, HX⟩ := hrel
    by_cases hlt : j < 32
    case neg =>
      obtain rfl : j = 32 := by omega
      obtain ⟨X, hX⟩ : ∃ x, x = flipsB Bb (bz fr al P' 32) := ⟨_, rfl⟩
      rw [← hX] at HX
      have HXL : Hid (X.length = bn) := Lib.hid (by rw [hX, flipsB_length]; exact HBN.out)
      by_cases hz : bz fr al P' 32 = []
      · have HXB : Hid (X = Bb) := Lib.hid (by rw [hX, hz]; rfl)
        have ht0 : t = 0 := by rw [HT.out, hz]; rfl
        have hd0 : ((t : Int) == 0) = true := by rw [ht0]; rfl
        have HOX : Hid (openE X = (some L, 0)) := Lib.hid (by rw [HXB.out]; exact HOP.out.1)
        clear hX hz ht0
        go_wp2_with (go_at_call 12; go_must (refine (open_lay HOX.out _ bn c2 _ (HX.out.sl (i := 0) rfl HXL.out) (HTB.out _ HX.out.up)).mono ?_); rintro e x4 ⟨g4, rfl, _, hb⟩; have HX4 := Lib.hid (HX.out.later hb); clear hb HX)
        go_ret
        exact ⟨rfl, HX4.out.up⟩
      · have ht0 : ¬ t = 0 := fun h => hz (List.eq_nil_of_length_eq_zero (by rw [← HT.out, h]))
        have hd0 : ((t : Int) == 0) = false := beq_eq_false_iff_ne.2 (by omega)
        have HOX : Hid (openE X = (none, 52)) := Lib.hid (by
          rw [hX]
          have h9 := open_burst HB0.out fr P' (by rw [← HAL.out]; exact hz)
          rw [← HAL.out] at h9
          exact h9)
        clear hX hz ht0
        go_wp2_with (go_at_call 12; go_must (refine (open_none HOX.out _ bn c2 _ (HX.out.sl (i := 0) rfl HXL.out) (HTB.out _ HX.out.up)).mono ?_); rintro e x4 ⟨rfl, hb⟩; have HX4 := Lib.hid (HX.out.later hb); clear hb HX)
        go_ret
        exact ⟨rfl, HX4.out.up⟩
    have hdj : decide ((j : Int) < 32) = true := decide_eq_true (by omega)
    have HBZ := Lib.hid (bz_succ fr al P' j)
    have HPW := Lib.hid (pat_walk P' j hPb)
    cases hbit2 : P'.testBit j
    · have hb : (bits .and .u32 ((P' : Int) / 2 ^ j) 1 == 1) = false := by rw [HPW.out, hbit2]
      have HN : Hid (bz fr al P' (j + 1) = bz fr al P' j) := Lib.hid (by rw [HBZ.out, if_neg (fun h => by rw [hbit2] at h; cases h.2), List.append_nil])
      clear hbit2
      go_wp2_with fail
      go_roundw
      case rel => exact ⟨j + 1, t, by omega, by omega, by go_num, rfl, Lib.hid (by rw [HN.out]; exact HT.out), Lib.hid (by rw [HN.out]; exact HX.out)⟩
      case measure => simp [intOf]; omega
    have hb : (bits .and .u32 ((P' : Int) / 2 ^ j) 1 == 1) = true := by rw [HPW.out, hbit2]
    by_cases hk : fr + j < al
    case neg =>
      have hdk : decide ((fr : Int) + (j : Int) < (al : Int)) = false := decide_eq_false (by omega)
      have hdk2 : ¬ (fr : Int) + (j : Int) < (al : Int) := by omega
      have HN : Hid (bz fr al P' (j + 1) = bz fr al P' j) := Lib.hid (by rw [HBZ.out, if_neg (fun h => hk h.1), List.append_nil])
      clear hbit2 hk
      go_wp2_with fail
      go_roundw
      case rel => exact ⟨j + 1, t, by omega, by omega, by go_num, rfl, Lib.hid (by rw [HN.out]; exact HT.out), Lib.hid (by rw [HN.out]; exact HX.out)⟩
      case measure => simp [intOf]; omega
    have HN : Hid (bz fr al P' (j + 1) = bz fr al P' j ++ [((fr + j : Nat) : Int)]) := Lib.hid (by rw [HBZ.out, if_pos ⟨hk, hbit2⟩])
    obtain ⟨l', hl'⟩ : ∃ x, x = flipsB Bb (bz fr al P' j) := ⟨_, rfl⟩
    have HNX : Hid (flipsB Bb (bz fr al P' (j + 1)) = flipB l' ((fr + j : Nat) : Int)) := Lib.hid (by rw [HN.out, flipsB_snoc, hl'])
    have HL' : Hid (l'.length = bn) := Lib.hid (by rw [hl', flipsB_length]; exact HBN.out)
    rw [← hl'] at HX
    obtain ⟨D, hD⟩ : ∃ D, D = (fr + j) / 8 := ⟨_, rfl⟩
    obtain ⟨T, hT⟩ : ∃ T, T = (fr + j) % 8 := ⟨_, rfl⟩
    have HF : Hid (flipB l' ((fr + j : Nat) : Int) = l'.set D (flipU (l'[D]?.getD 0) T)) := Lib.hid (by rw [flipB_set (by rw [HL'.out]; have h8 := HAL0.out; omega), hD, hT])
    have hDn : D < bn := by have h8 := HAL0.out; omega
    have hT8 : T < 8 := by omega
    obtain ⟨Z, hZ⟩ : ∃ Z, Z = fr + j := ⟨_, rfl⟩
    have hz : (fr : Int) + (j : Int) = (Z : Int) := by omega
    have hdk : decide ((Z : Int) < (al : Int)) = true := decide_eq_true (by omega)
    have hdk2 : (Z : Int) < (al : Int) := by omega
    have r1 : (Z : Int) / 8 = (D : Int) := by omega
    have r2 : (Z : Int) % 8 = (T : Int) := by omega
    have hz0 : (0 : Int) ≤ (Z : Int) := by omega
    have r3 : (0 : Int) ≤ (T : Int) := by omega
    have r5 : (0 : Int) ≤ (D : Int) := by omega
    have r4 : (D : Int) < (bn : Int) := by omega
    obtain ⟨x, hx⟩ : ∃ x, l'[D]? = some x := ⟨_, List.getElem?_eq_getElem (by rw [HL'.out]; exact hDn)⟩
    have hcx : wr.cell? ⟨g, D, none⟩ = some (.int .u8 (x.toNat : Int)) := (World.ownsRow.cellAt (HX.out.row (i := 0) rfl) D (by show D < l'.length * 1; rw [HL'.out]; omega)).trans (u8s_at hx)
    have HFW := Lib.hid (flip_walk x T hT8)
    have HXX := Lib.hid hx
    clear hx hD hT hl' hbit2 hk hZ
    go_wp2_with (refine wl_store rfl (.tmp 82) (.tmp 81) rfl HX.out 0 (T := 5) (sz := 1) (n := bn) (cap := c2) (cs := u8s l') (by show some (bytO _ (_, _, l')) = _; unfold bytO rowO; rw [HL'.out]) D rfl (by omega) (u8v (flipU x T)) (by exact congrArg (Value.int .u8) HFW.out) (by kernel_rfl) rfl ?_; intro x5 hz5 _; have HX5 := Lib.hid hz5; clear hz5 HX)
    go_roundw
    case rel =>
      refine ⟨j + 1, t + 1, by omega, by omega, by go_num, by go_num, Lib.hid (by rw [HN.out, List.length_append, ← HT.out]; rfl), Lib.hid ?_⟩
      rw [HNX.out, HF.out, HXX.out]
      have h := HX5.out
      have e1 : rowO 5 1 (.slice (some ⟨g, 0, none⟩) bn c2) bn ((u8s l').set D (u8v (flipU x T))) = bytO 5 (some ⟨g, 0, none⟩, c2, l'.set D (flipU ((some x).getD 0) T)) := by
        unfold bytO rowO
        rw [← u8s_set, show (l'.set D (flipU ((some x).getD 0) T)).length = bn from by rw [List.length_set]; exact HL'.out]
        rfl
      rw [← e1]
      exact h
    case measure => simp [intOf]; omega
theorem burstI_any (R : Int) (es : List Ent) (bit : Int) (P : Int) (A : Option Addr) (n c : Nat) (w : World) (hes : Ens w A n es) (hn : n ≤ 9223372036854775807) (hbit : -9223372036854775808 ≤ bit ∧ bit < 9223372036854775808) (hP : 0 ≤ P ∧ P < 4294967296) (ht : TabAt 0 w) :
    Calls Tryd.prog 5 #[.int .i64 R, .slice A n c, .int .i64 bit, .int .u32 P] w fun e z => e = .returned (.bool true) ∧ Below w.heap.size w z := by
  obtain ⟨p, rfl⟩ : ∃ p : Nat, P = (p : Int) := ⟨P.toNat, by omega⟩
  exact burstL_any R es bit p A n c w hes hn hbit (by omega) ht
end Go.Proofs.YtmigjipfomfacaaDoor

/-
  A range over a function, over what the call owns; plain walks of operations in a round. Over any program.
-/
namespace Go.Proofs.YtmigjipfomfacaaDoor
open Go.RowKit

/-! ### Plain operations within a round -/
abbrev FW (ro : Option Nat) : Fence := { Fence.wide with round := ro }
theorem rowsIn_wide {n : Nat} {P : Program} {row : String} {args : Array Value} {w : World} {R : Value → World → Prop} (h : Rows P row args w R) : RowsIn Fence.wide n P row args w R :=
  fun c cs _ => let ⟨v, w', r, s⟩ := h c cs; ⟨v, w', r, stepsIn_wide.2 s⟩
theorem callsIn_fw {ro : Option Nat} {n : Nat} {P : Program} {f : FuncId} {args : Array Value} {w : World} {R : Ending → World → Prop} (h : Calls P f args w R) : CallsIn (FW ro) n P f args w R :=
  (callsIn_wide (n := n)).2 h
section
variable {P : Program} {ro : Option Nat} {n : Nat} {o : Oper} {a : Act} {w : World} {K K' : Act → World → Prop} {Q : Exit → Act → World → Prop}
theorem upon_in {r : Result Next} (hK : ∀ a w, K a w → K' a w) (h : o.upon P a K Q r) : o.uponIn (FW ro) n P a K' Q r := by
  unfold Oper.upon at h
  split at h
  · exact hK _ _ h
  · exact hK _ _ h
  · exact hK _ _ h
  · refine ⟨(fun e => nomatch e), (callsIn_fw h).mono fun e w' h => ?_⟩
    cases e with
    | returned v => exact hK _ _ h
    | panicked chain => exact h
    | outgrown => exact h
  · exact ⟨(fun e => nomatch e), RowsIn.mono (rowsIn_wide h) fun v w' h => hK _ _ h⟩
  · exact h
  · exact h.elim
theorem wp_in (hd : ∀ c, o.op ≠ .defer c) (hK : ∀ a w, K a w → K' a w) (h : o.wp P a w K Q) : o.wpIn (FW ro) n P a w K' Q :=
  ⟨fun _ _ => trivial, by rw [Oper.semAt_plain _ _ _ hd]; exact upon_in hK h⟩
/-- No operation of the list is a defer statement. -/
def noDef (l : List Oper) : Bool := l.all fun o => match o.op with
  | .defer _ => false
  | _ => true
theorem noDef_at {l : List Oper} (h : noDef l = true) (ho : o ∈ l) (c : Call) : o.op ≠ .defer c := fun e => by
  have h1 := List.all_eq_true.1 h o ho
  rw [e] at h1; cases h1
theorem wpListIn_of {ops : Array Oper} (hQ : ∀ a w, ¬ Q .outgrown a w) : ∀ {l : List Oper} (_ : noDef l = true) (a : Act) (w : World), wpList P ops Q l a w → wpListIn (FW ro) n P ops Q l a w
  | [], _, _, _, h => h
  | o :: l, hd, a, w, h => by
    have hl : noDef l = true := List.all_eq_true.2 fun x hx => List.all_eq_true.1 hd x (List.mem_cons_of_mem _ hx)
    unfold wpList at h
    unfold wpListIn
    split
    · rename_i hw
      rw [if_pos hw] at h
      rcases h with h | ⟨_, a', w', h⟩
      · exact wp_in (noDef_at hd (List.mem_cons_self ..)) (fun a w => wpListIn_of hQ hl a w) h
      · exact (hQ _ _ h).elim
    · rename_i hw
      rw [if_neg hw] at h
      exact ⟨(fun _ _ => trivial), wpListIn_of hQ hl _ _ h⟩
/-- One plain operation within a round, by a law of the plain walk: 'refine wlIn_one rfl ?_; refine <the law> ..; refine wlIn_back ?_'. -/
def qIn (F : Fence) (n : Nat) (P : Program) (ops : Array Oper) (Q : Exit → Act → World → Prop) (rest : List Oper) : Exit → Act → World → Prop
  | .normal, a, w => wpListIn F n P ops Q rest a w
  | .outgrown, _, _ => False
  | .exit id, a, w => Q (.exit id) a w
  | .goto l, a, w => Q (.goto l) a w
  | .ret, a, w => Q .ret a w
  | .panic c, a, w => Q (.panic c) a w
theorem upon_q {F : Fence} {ops : Array Oper} {rest : List Oper} {r : Result Next} (h : o.upon P a K (qIn F n P ops Q rest) r) : o.upon P a K Q r := by
  unfold Oper.upon at h ⊢
  split at h
  · exact h
  · exact h
  · exact h
  · refine Calls.mono h fun e w' h => ?_
    cases e with
    | returned v => exact h
    | panicked chain => exact h
    | outgrown => obtain ⟨_, _, h⟩ := h; exact h.elim
  · exact h
  · exact h
  · exact h.elim
theorem wlIn_one {ops : Array Oper} {rest : List Oper} (hd : noDef [o] = true) (h : wpList P ops (qIn (FW ro) n P ops Q rest) [o] a w) : wpListIn (FW ro) n P ops Q (o :: rest) a w := by
  unfold wpList at h
  unfold wpListIn
  split
  · rename_i hw
    rw [if_pos hw] at h
    rcases h with h | ⟨_, a', w', h⟩
    · exact wp_in (noDef_at hd (List.mem_cons_self ..)) (fun a w h => h) (upon_q h)
    · exact h.elim
  · rename_i hw
    rw [if_neg hw] at h
    exact ⟨(fun _ _ => trivial), h⟩
theorem wlIn_back {F : Fence} {ops : Array Oper} {rest : List Oper} (h : wpListIn F n P ops Q rest a w) : wpList P ops (qIn F n P ops Q rest) [] a w := h
theorem wpOpsIn_of {ops : Array Oper} (hQ : ∀ a w, ¬ Q .outgrown a w) (hd : noDef ops.toList = true) : ∀ (l : List Nat) (a : Act) (w : World), wpOps P ops Q l a w → wpOpsIn (FW ro) n P ops Q l a w
  | [], _, _, h => h
  | i :: l, a, w, h => by
    unfold wpOps at h
    unfold wpOpsIn
    cases ho : ops[i]? with
    | none => rw [ho] at h; exact wpOpsIn_of hQ hd l a w h
    | some o =>
      rw [ho] at h
      simp only [] at h ⊢
      split
      · rename_i hw
        rw [if_pos hw] at h
        rcases h with h | ⟨_, a', w', h⟩
        · exact wp_in (noDef_at hd (Array.mem_toList_iff.2 (Array.mem_of_getElem? ho))) (fun a w => wpOpsIn_of hQ hd l a w) h
        · exact (hQ _ _ h).elim
      · rename_i hw
        rw [if_neg hw] at h
        exact ⟨(fun _ _ => trivial), wpOpsIn_of hQ hd l _ _ h⟩
theorem lt_startIn {id : Nat} {l : List Oper} (F : List Nat) (hm : P.follows .mixedOrders = true) (hd : noDef l = true) (hQ : ∀ a w, ¬ Q .outgrown a w) (h : ∀ z, Below w.heap.size w z → ∃ S, wpAnyT P l.toArray Q F S l.length (Array.replicate l.length false) a z) : (Code.region id l.toArray true).wpIn (FW ro) n P Q a w := by
  obtain ⟨S, h⟩ := h w.drew (Below.refl _ _).drew
  refine wpIn_region_draw fun t => wpOpsIn_of hQ (by simpa using hd) _ _ _ ?_
  simp only [Region.schedule, hm, Bool.true_or, if_true]
  exact wpAny_sound _ t _ a _ (wpAny_of_T _ _ _ _ (by simpa using h))
end

/-! ### The loop's record -/
section
variable {w x y : World} {os : List Ob} {i k : Nat} {r : Obj}
theorem OW.rawh (h : OW w os x) (hi : os[i]? = some (rawO k r)) : w.heap.size ≤ k ∧ x.heap[k]? = some r := by
  obtain ⟨k', r', h1, h2, h3, rfl⟩ := (h.get hi).some_ rfl
  injection h1 with h1; injection h1 with h1; injection h1 with h1
  subst h1; exact ⟨h2, h3⟩
theorem chg_putObj (x : World) (k : Nat) (o : Obj) : Chg (fun b => b = k) x (x.putObj k o) :=
  ⟨rfl, rfl, rfl, by rw [World.putObj_size]; exact Nat.le_refl _, fun j _ hne => World.putObj_heap_other hne⟩
theorem OW.putRaw (h : OW w os x) (hi : os[i]? = some (rawO k r)) (r' : Obj) : OW w (os.set i (rawO k r')) (x.putObj k r') := by
  obtain ⟨h1, h2⟩ := h.rawh hi
  exact h.upd hi (chg_putObj x k r') (fun b _ e => by subst e; rfl) (Ob.at_mkr rfl ⟨k, r', rfl, h1, World.putObj_heap_same (Array.getElem?_eq_some_iff.1 h2).1, rfl⟩) fun b hb => .inl hb
theorem OW.raw1 (x : World) (r : Obj) : OW x [rawO x.heap.size r] (x.alloc r) :=
  ⟨(Below.refl _ _).alloc (Nat.le_refl _) _, fun o ho => by
    obtain rfl := List.mem_singleton.1 ho
    exact Ob.at_mkr rfl ⟨x.heap.size, r, rfl, Nat.le_refl _, World.alloc_heap_new x r, rfl⟩, List.pairwise_singleton _ _⟩
theorem getE_app {α : Type} (os : List α) (a : α) (ds : List α) : (os ++ a :: ds)[os.length]? = some a := by
  rw [List.getElem?_append_right (Nat.le_refl _), Nat.sub_self]; rfl
theorem setE_app {α : Type} (os : List α) (a b : α) (ds : List α) : (os ++ a :: ds).set os.length b = os ++ b :: ds := by
  rw [List.set_append_right _ _ (Nat.le_refl _), Nat.sub_self]; rfl
theorem OW.putRawE {ds : List Ob} (h : OW w (os ++ rawO k r :: ds) x) (r' : Obj) : OW w (os ++ rawO k r' :: ds) (x.putObj k r') := by
  have := h.putRaw (getE_app os _ ds) r'
  rwa [setE_app] at this
theorem OW.rawE {ds : List Ob} (h : OW w (os ++ rawO k r :: ds) x) : x.heap[k]? = some r := (h.rawh (getE_app os _ ds)).2
theorem OW.dropE {ds : List Ob} {o : Ob} (h : OW w (os ++ o :: ds) x) : OW w (os ++ ds) x :=
  h.sub (List.Sublist.append (List.Sublist.refl _) (List.sublist_cons_self _ _))
end

/-! ### The iterator's contract, the loop -/
section
variable {α : Type} {P : Program}
/-- An iterator over the things L: Itr is what it must read at each round; Hand x vs W W1: from W on it has made what vs names, at W1. -/
def IterOK (P : Program) (g : Nat) (lb : Array Value) (L : List α) (Itr : World → Prop) (Hand : α → Array Value → World → World → Prop) : Prop :=
  ∀ (l : Nat) (J Jx : List α → World → Prop) (W : World),
    (∀ pre z, J pre z → Itr z) → (∀ pre y z, J pre y → Below y.heap.size y z → J pre z) → (∀ pre y z, Jx pre y → Below y.heap.size y z → Jx pre z) →
    (∀ pre x W0 vs W1, pre ++ [x] <+: L → J pre W0 → Hand x vs W0 W1 → YieldAt Fence.wide 9 P l vs W1 fun e z =>
      (e = .returned (.bool true) ∧ J (pre ++ [x]) z) ∨ (e = .returned (.bool false) ∧ Jx (pre ++ [x]) z)) →
    J [] W → Calls P g (#[.func (.yield l) #[] #[]] ++ lb) W fun e z => (∃ v, e = .returned v) ∧ (J L z ∨ ∃ pre, pre <+: L ∧ Jx pre z)
def mkRec (fn : FuncId) (tmps : Array Value) (ps : Array Tmp) (assign body : Code) (D : Nat) (st : LoopState) (pe : Option Code) : Loop :=
  { state := st, pending := pe, fn, tmps, params := ps, assign, body, defers := D }
/-- How the body of a round may be left. -/
def rPost (w : World) (p : List Ob) (I : List α → List Ob → Prop) (Ix : Code → List α → List Ob → Prop) (xs : List α) : Exit → Act → World → Prop
  | .normal, _, z => ∃ os, I xs os ∧ OW w (os ++ p) z
  | .ret, _, z => ∃ os, Ix .ret xs os ∧ OW w (os ++ p) z
  | .exit id, _, z => ∃ os, Ix (.exit id) xs os ∧ OW w (os ++ p) z
  | .goto t, _, z => ∃ os, Ix (.goto t) xs os ∧ OW w (os ++ p) z
  | .panic _, _, _ => False
  | .outgrown, _, _ => False
/-- The loop's left sides take what was handed. -/
def setP (tmps : Array Value) (ps : Array Tmp) (vs : Array Value) : Array Value := (ps.zip vs).foldl (fun t (p, v) => t.setIfInBounds p v) tmps
theorem setP1 (tmps : Array Value) (p : Tmp) (v : Value) : setP tmps #[p] #[v] = tmps.setIfInBounds p v := by simp [setP]
/-- What a round owes: the assignment to the loop's left sides, then the body, the loop's record being busy (p2). -/
def RoundOK (P : Program) (w : World) (l : Nat) (assign body : Code) (I : List α → List Ob → Prop) (Ix : Code → List α → List Ob → Prop) (tmps : Array Value) (p1 p2 : List Ob) (pre : List α) (x : α) (W1 : World) (vs : Array Value) (ps : Array Tmp) : Prop :=
  assign.wpIn (FW (some l)) 9 P (Exit.then (fun a1 z => ∃ os2, OW w (os2 ++ p1) z ∧ ∀ z2, OW w (os2 ++ p2) z2 → body.wpIn (FW (some l)) 9 P (rPost w p2 I Ix (pre ++ [x])) a1 z2) fun _ _ _ => False)
    { tmps := setP tmps ps vs, defers := [] } W1

theorem range_core {F : Fence} {n : Nat} {w W1 : World} {g l : Nat} {lb : Array Value} {L : List α} {Itr : World → Prop} {Hand : α → Array Value → World → World → Prop} {ps : Array Tmp} {assign body : Code} {Q : Exit → Act → World → Prop} {a' : Act} {fn : FuncId} {tmps : Array Value} {D : Nat} {ds : List Ob}
    (hit : IterOK P g lb L Itr Hand) (hps : ∀ x vs y z, Hand x vs y z → vs.size = ps.size ∧ Below y.heap.size y z) (I : List α → List Ob → Prop) (Ix : Code → List α → List Ob → Prop)
    (hI : ∀ pre os es z, I pre os → OW w (os ++ es) z → Itr z) {os0 : List Ob} (h0 : I [] os0) (hx : OW w (os0 ++ rawO l (.loop (mkRec fn tmps ps assign body D .ready none)) :: ds) W1)
    (hround : ∀ pre x vs W0 W1 os, pre ++ [x] <+: L → I pre os → OW w (os ++ rawO l (.loop (mkRec fn tmps ps assign body D .ready none)) :: ds) W0 → Hand x vs W0 W1 →
      RoundOK P w l assign body I Ix tmps (rawO l (.loop (mkRec fn tmps ps assign body D .ready none)) :: ds) (rawO l (.loop (mkRec fn tmps ps assign body D .busy none)) :: ds) pre x W1 vs ps)
    (hdone : ∀ os z, I L os → OW w (os ++ ds) z → Q .normal a' z) (hstop : ∀ c pre os z, pre <+: L → Ix c pre os → OW w (os ++ ds) z → c.wpIn F n P Q a' z) :
    Calls P g (#[.func (.yield l) #[] #[]] ++ lb) W1 (rangePost F n P l Q a') := by
  refine (hit l (fun pre z => ∃ os, I pre os ∧ OW w (os ++ rawO l (.loop (mkRec fn tmps ps assign body D .ready none)) :: ds) z)
    (fun pre z => ∃ c os, Ix c pre os ∧ OW w (os ++ rawO l (.loop (mkRec fn tmps ps assign body D .done (some c))) :: ds) z) W1
    (fun pre z ⟨os, h1, h2⟩ => hI pre os _ z h1 h2) (fun pre y z ⟨os, h1, h2⟩ hb => ⟨os, h1, h2.later hb⟩) (fun pre y z ⟨c, os, h1, h2⟩ hb => ⟨c, os, h1, h2.later hb⟩) ?_ ⟨os0, h0, hx⟩).mono ?_
  · rintro pre x W0 vs Wb hpre ⟨os, hi, ho⟩ hh
    have hr := hround pre x vs W0 Wb os hpre hi ho hh
    have hrec : Wb.heap[l]? = some (.loop (mkRec fn tmps ps assign body D .ready none)) := (ho.later (hps x vs _ _ hh).2).rawE
    exact ⟨fn, _, assign, body, run_yield hrec (by rw [(hps x vs _ _ hh).1]; rfl), roundIn_of_wpIn (F := Fence.wide) trivial (wpIn_mono hr fun e a1 z hz => by
      cases e with
      | normal =>
        obtain ⟨os2, h1, h2⟩ := hz
        refine ⟨_, run_beginRound h1.rawE rfl, ?_⟩
        refine wpIn_mono (h2 _ (h1.putRawE _)) fun e a3 z3 h3 => ?_
        cases e with
        | normal =>
          obtain ⟨os3, h4, h5⟩ := h3
          exact ⟨_, _, run_endRound none h5.rawE, .inl ⟨rfl, os3, h4, h5.putRawE _⟩⟩
        | ret =>
          obtain ⟨os3, h4, h5⟩ := h3
          exact ⟨_, _, run_endRound (some .ret) h5.rawE, .inr ⟨rfl, .ret, os3, h4, h5.putRawE _⟩⟩
        | exit id =>
          obtain ⟨os3, h4, h5⟩ := h3
          exact ⟨_, _, run_endRound (some (.exit id)) h5.rawE, .inr ⟨rfl, .exit id, os3, h4, h5.putRawE _⟩⟩
        | goto t =>
          obtain ⟨os3, h4, h5⟩ := h3
          exact ⟨_, _, run_endRound (some (.goto t)) h5.rawE, .inr ⟨rfl, .goto t, os3, h4, h5.putRawE _⟩⟩
        | panic ch => exact h3.elim
        | outgrown => exact h3.elim
      | ret => exact hz.elim
      | exit id => exact hz.elim
      | goto t => exact hz.elim
      | panic ch => exact hz.elim
      | outgrown => exact hz.elim)⟩
  · rintro e z ⟨⟨v, rfl⟩, ⟨os, h1, h2⟩ | ⟨pre, hp, c, os, h1, h2⟩⟩
    · exact ⟨none, _, run_endLoop h2.rawE (fun e => nomatch e), hdone os _ h1 (h2.putRawE _).dropE⟩
    · exact ⟨some c, _, run_endLoop h2.rawE (fun e => nomatch e), hstop c pre os _ hp h1 (h2.putRawE _).dropE⟩
def markD (D : Nat) : Deferred := { target := .collected D, args := #[] }
/-- The block for the rounds' deferred calls. -/
def dfrO (D : Nat) : Ob := rawO D (.deferred (some []))
/-- 'for .. := range g { .. }' in a function's own frame. -/
theorem wp_range {w x : World} {g : Operand} {gf : Nat} {lb : Array Value} {L : List α} {Itr : World → Prop} {Hand : α → Array Value → World → World → Prop} {ps : Array Tmp} {assign body : Code} {Q : Exit → Act → World → Prop} {a : Act}
    (hg : a.eval g = .func (.func gf) #[] lb) (eg : ∀ args w, (callFunc gf args).run P w = .ok (.enter gf args) w)
    (hit : IterOK P gf lb L Itr Hand) (hps : ∀ x vs y z, Hand x vs y z → vs.size = ps.size ∧ Below y.heap.size y z) (I : List α → List Ob → Prop) (Ix : Code → List α → List Ob → Prop)
    (hI : ∀ pre os es z, I pre os → OW w (os ++ es) z → Itr z) {os0 : List Ob} (h0 : I [] os0) (hx : OW w os0 x)
    (hround : ∀ (l : Nat) (p1 p2 : List Ob) pre xx vs W0 W1 os, (∃ r ds, p2 = rawO l (.loop r) :: ds) → pre ++ [xx] <+: L → I pre os → OW w (os ++ p1) W0 → Hand xx vs W0 W1 → RoundOK P w l assign body I Ix a.tmps p1 p2 pre xx W1 vs ps)
    (hdone : ∀ D os z, I L os → OW w (os ++ [dfrO D]) z → Q .normal { a with defers := markD D :: a.defers } z)
    (hstop : ∀ D c pre os z, pre <+: L → Ix c pre os → OW w (os ++ [dfrO D]) z → c.wp P Q { a with defers := markD D :: a.defers } z) : (Code.rangeFunc g ps assign body).wp P Q a x := by
  refine (wpIn_wide (n := 0)).1 (wpIn_rangeFunc fun fn _ => ?_)
  obtain ⟨W1, hW1⟩ : ∃ z, z = (x.alloc (.deferred (some []))).alloc (.loop (mkRec fn a.tmps ps assign body x.heap.size .ready none)) := ⟨_, rfl⟩
  have h2 : OW w (os0 ++ rawO (x.heap.size + 1) (.loop (mkRec fn a.tmps ps assign body x.heap.size .ready none)) :: [dfrO x.heap.size]) W1 := by
    rw [hW1]
    have h3 := (hx.app (OW.raw1 x (.deferred (some [])))).app (OW.raw1 _ (.loop (mkRec fn a.tmps ps assign body x.heap.size .ready none)))
    rw [World.size_alloc] at h3
    refine h3.perm ?_
    rw [List.append_assoc]
    exact List.Perm.append_left _ (List.Perm.swap _ _ _)
  refine ⟨x.heap.size + 1, [markD x.heap.size], W1, { target := .fn (.func gf) lb, args := #[.func (.yield (x.heap.size + 1)) #[] #[]] }, W1, gf, #[.func (.yield (x.heap.size + 1)) #[] #[]] ++ lb, W1, by rw [hW1]; exact run_enterLoop_outer _ _ _ _ _, ?_, fun _ _ => trivial, ?_, (fun e => nomatch e), callsIn_wide.2 ?_⟩
  · simp only [resolve, hg]
    simp [go_sem]
  · simp [invoke, go_sem, eg]
  · exact range_core hit hps I Ix hI h0 h2 (fun pre xx vs W0 W1 os h4 h5 h6 h7 => hround _ _ _ pre xx vs W0 W1 os ⟨_, _, rfl⟩ h4 h5 h6 h7) (fun os z h4 h5 => hdone _ os z h4 h5) fun c pre os z h4 h5 h6 => wpIn_wide.2 (hstop _ c pre os z h4 h5 h6)
/-- The same in a round of the loop l0. -/
theorem wpIn_range {w x : World} {l0 : Nat} {r0 : Loop} (hl0 : x.heap[l0]? = some (.loop r0)) {g : Operand} {gf : Nat} {lb : Array Value} {L : List α} {Itr : World → Prop} {Hand : α → Array Value → World → World → Prop} {ps : Array Tmp} {assign body : Code} {Q : Exit → Act → World → Prop} {a : Act}
    (hg : a.eval g = .func (.func gf) #[] lb) (eg : ∀ args w, (callFunc gf args).run P w = .ok (.enter gf args) w)
    (hit : IterOK P gf lb L Itr Hand) (hps : ∀ x vs y z, Hand x vs y z → vs.size = ps.size ∧ Below y.heap.size y z) (I : List α → List Ob → Prop) (Ix : Code → List α → List Ob → Prop)
    (hI : ∀ pre os es z, I pre os → OW w (os ++ es) z → Itr z) {os0 : List Ob} (h0 : I [] os0) (hx : OW w os0 x)
    (hround : ∀ (l : Nat) (p1 p2 : List Ob) pre xx vs W0 W1 os, (∃ r ds, p2 = rawO l (.loop r) :: ds) → pre ++ [xx] <+: L → I pre os → OW w (os ++ p1) W0 → Hand xx vs W0 W1 → RoundOK P w l assign body I Ix a.tmps p1 p2 pre xx W1 vs ps)
    (hdone : ∀ os z, I L os → OW w (os ++ []) z → Q .normal a z)
    (hstop : ∀ c pre os z, pre <+: L → Ix c pre os → OW w (os ++ []) z → c.wpIn (FW (some l0)) 9 P Q a z) : (Code.rangeFunc g ps assign body).wpIn (FW (some l0)) 9 P Q a x := by
  refine wpIn_rangeFunc fun fn _ => ?_
  obtain ⟨W1, hW1⟩ : ∃ z, z = x.alloc (.loop (mkRec fn a.tmps ps assign body r0.defers .ready none)) := ⟨_, rfl⟩
  have h2 : OW w (os0 ++ rawO x.heap.size (.loop (mkRec fn a.tmps ps assign body r0.defers .ready none)) :: []) W1 := by
    rw [hW1]; exact hx.app (OW.raw1 x (.loop (mkRec fn a.tmps ps assign body r0.defers .ready none)))
  refine ⟨x.heap.size, [], W1, { target := .fn (.func gf) lb, args := #[.func (.yield x.heap.size) #[] #[]] }, W1, gf, #[.func (.yield x.heap.size) #[] #[]] ++ lb, W1, by rw [hW1]; exact run_enterLoop_inner hl0 _ _ _ _ _, ?_, fun _ _ => trivial, ?_, (fun e => nomatch e), callsIn_fw ?_⟩
  · simp only [resolve, hg]
    simp [go_sem]
  · simp [invoke, go_sem, eg]
  · exact range_core hit hps I Ix hI h0 h2 (fun pre xx vs W0 W1 os h4 h5 h6 h7 => hround _ _ _ pre xx vs W0 W1 os ⟨_, _, rfl⟩ h4 h5 h6 h7) (fun os z h4 h5 => hdone os z h4 h5) fun c pre os z h4 h5 h6 => hstop c pre os z h4 h5 h6
/-! ### A function that holds such loops -/
/-- bodyPostM, of bodies that do not panic. -/
def bodyQ (P : Program) (fn : Func) (R : Ending → World → Prop) : Exit → Act → World → Prop
  | .normal, a, w | .ret, a, w => LeavesInM Fence.wide 0 P fn a.tmps R a.defers .returning w
  | _, _, _ => False
theorem calls_marks {f : FuncId} {fn : Func} {c : Code} {args : Array Value} {w : World} {R : Ending → World → Prop} (hf : P.funcs[f]? = some fn) (hb : fn.body = some c)
    (h : c.wp P (bodyQ P fn R) { tmps := args ++ Array.replicate (fn.ntmps - args.size) undef, defers := [] } w) : Calls P f args w R :=
  (callsIn_wide (n := 0)).1 (callsIn_of_wp_marks hf hb trivial (wpIn_wide.2 (wp_mono h fun e a w hq => by
    cases e with
    | normal => exact hq
    | ret => exact hq
    | exit id => exact hq.elim
    | goto l => exact hq.elim
    | panic ch => exact hq.elim
    | outgrown => exact hq.elim)) rfl)
/-- One mark behind another is taken up. -/
theorem leaves_mark {fn : Func} {tmps : Array Value} {R : Ending → World → Prop} {D : Nat} {ds : List Deferred} {z : World} {w : World} {os es : List Ob} (h : OW w (os ++ dfrO D :: es) z)
    (hk : ∀ z', OW w (os ++ es) z' → LeavesInM Fence.wide 0 P fn tmps R ds .returning z') : LeavesInM Fence.wide 0 P fn tmps R (markD D :: ds) .returning z :=
  ⟨(fun e => nomatch e), .inl ⟨D, _, rfl, run_takeDeferred h.rawE, hk _ (h.putRawE _).dropE⟩⟩
/-! ### The end of such a function; a result in a box -/
theorem results_cell1 {fn : Func} {p : Tmp} {ty : TypeId} (h : fn.results = #[.cell p ty]) (tmps : Array Value) (w : World) (g : Nat) (v : Value) (hp : tmps.getD p undef = .pointer (some ⟨g, 0, none⟩)) (hc : w.cell? ⟨g, 0, none⟩ = some v) (ha : ∀ w, (isAgg ty).run P w = .ok false w) : (results fn tmps).run P w = .ok v w := by
  have hp' : tmps[p]?.getD undef = .pointer (some ⟨g, 0, none⟩) := by simpa using hp
  simp [results, h, hp', asAddr, loadVar, Sem.run_bind, ha w]
  simp [go_sem, hc]
theorem leaves0 {fn : Func} {tmps : Array Value} {R : Ending → World → Prop} {v : Value} {z : World} (h : (results fn tmps).run P z = .ok v z) (hR : R (.returned v) z) : LeavesInM Fence.wide 0 P fn tmps R [] .returning z := ⟨v, h, hR⟩
/-- One cell, wherever it is. -/
theorem wl_cell1 {ops : Array Oper} {Q : Exit → Act → World → Prop} {rest : List Oper} {o : Oper} {a : Act} {x : World} (hgd : Region.wanted o (yielded ops a.tmps) = true) {t : TypeId} (p y : Operand) (ho : o.op = .store t p y) {g j : Nat} (hx : a.eval p = .pointer (some ⟨g, j, none⟩)) {u : Value} (hc : x.cell? ⟨g, j, none⟩ = some u) (hf : x.frozen? ⟨g, j, none⟩ = false) (v : Value) (hy : a.eval y = v) (ht : (P.info? t).map (·.size) = some 1) (h1 : v.oneCell' = true)
    (hK : wpList P ops Q rest (a.put o.dst undef) (x.setCell ⟨g, j, none⟩ v)) : wpList P ops Q (o :: rest) a x := by
  refine BigFrame.wpList_want hgd fun _ hk => ?_
  unfold Oper.wp execOp
  simp only [ho, hx, hy, Instr.storeAt, Instr.sureAddr, Sem.run_bind, Sem.run_pure, Result.andThen_ok, run_storeVar_one x g j t v (by rw [hc]; rfl) hf h1 ht]
  exact hk _ _ hK
/-- The box of the result, laid ahead of all else that the call holds. -/
structure RBox (w x1 : World) (g : Nat) (u : Value) : Prop where
  up : Below w.heap.size w x1
  lo : w.heap.size ≤ g
  hi : g < x1.heap.size
  cell : x1.cell? ⟨g, 0, none⟩ = some u
  fz : x1.frozen? ⟨g, 0, none⟩ = false
theorem RBox.of {w x1 : World} {g : Nat} {u : Value} (h : OW w [boxO g [u]] x1) : RBox w x1 g u := by
  obtain ⟨h1, h2, _, h4⟩ := h.box (i := 0) rfl
  exact ⟨h.up, h1, h2, h.cell (i := 0) (j := 0) rfl rfl, h4 0⟩
theorem RBox.cell' {w x1 z : World} {g : Nat} {u : Value} (h : RBox w x1 g u) (hz : Below x1.heap.size x1 z) : z.cell? ⟨g, 0, none⟩ = some u := (hz.cell (p := ⟨g, 0, none⟩) h.hi).trans h.cell
theorem RBox.fz' {w x1 z : World} {g : Nat} {u : Value} (h : RBox w x1 g u) (hz : Below x1.heap.size x1 z) : z.frozen? ⟨g, 0, none⟩ = false := (World.frozen?_of_block (hz.block g h.hi)).trans h.fz
theorem RBox.up' {w x1 z : World} {g : Nat} {u : Value} (h : RBox w x1 g u) (hz : Below x1.heap.size x1 z) (v : Value) : Below w.heap.size w (z.setCell ⟨g, 0, none⟩ v) :=
  (h.up.trans (hz.mono h.up.size)).setCell (p := ⟨g, 0, none⟩) h.lo v
theorem RBox.got {w x1 z : World} {g : Nat} {u : Value} (h : RBox w x1 g u) (hz : Below x1.heap.size x1 z) (v : Value) : (z.setCell ⟨g, 0, none⟩ v).cell? ⟨g, 0, none⟩ = some v := World.cell?_setCell_same _ _ _ (h.cell' hz)
/-- What lies behind the mark, once it is taken up. -/
theorem RBox.mark {w x1 z : World} {g D : Nat} {u : Value} {os es : List Ob} (h : RBox w x1 g u) (hz : OW x1 (os ++ dfrO D :: es) z) (v : Value) {fn : Func} {tmps : Array Value} {R : Ending → World → Prop} {p : Tmp} {ty : TypeId} (hr : fn.results = #[.cell p ty]) (hp : tmps.getD p undef = .pointer (some ⟨g, 0, none⟩)) (ha : ∀ w, (isAgg ty).run P w = .ok false w)
    (hR : ∀ z', Below w.heap.size w z' → R (.returned v) z') : LeavesInM Fence.wide 0 P fn tmps R [markD D] .returning (z.setCell ⟨g, 0, none⟩ v) := by
  obtain ⟨hD, hd⟩ := hz.rawh (getE_app os _ es)
  have hne : g ≠ D := by have := h.hi; omega
  have hd' : (z.setCell ⟨g, 0, none⟩ v).heap[D]? = some (.deferred (some [])) := (Below.heap_setCell _ _ _ _ (fun e => hne e.symm)).trans hd
  refine ⟨(fun e => nomatch e), .inl ⟨D, _, rfl, run_takeDeferred hd', leaves0 (results_cell1 hr _ _ g v hp ?_ ha) (hR _ ?_)⟩⟩
  · exact (World.cell?_of_block (World.putObj_heap_other hne)).trans (h.got hz.up v)
  · exact (h.up' hz.up v).trans ((chg_putObj _ D _).below (h.up' hz.up v).size fun k _ e => by
      subst e; have := h.lo; have := h.hi; omega)
end
end Go.Proofs.YtmigjipfomfacaaDoor

/-
  A block's iterator.
-/
namespace Go.Proofs.YtmigjipfomfacaaDoor
open Go.RowKit

/-- What the iterator of a block hands to a round: an entry of its own. -/
def HandE (e : Ent) (vs : Array Value) (W W1 : World) : Prop := ∃ A B D, vs = #[entV A e.row.length e.row.length B e.qual.length e.qual.length D e.val.length e.val.length e] ∧ CAt A e.row ∧ CAt B e.qual ∧ CAt D e.val ∧ OW W [clipO A e.row, clipO B e.qual, clipO D e.val] W1
theorem HandE.ok {e : Ent} {vs : Array Value} {W W1 : World} (h : HandE e vs W W1) : vs.size = 1 ∧ Below W.heap.size W W1 := by
  obtain ⟨A, B, D, rfl, _, _, _, h⟩ := h
  exact ⟨rfl, h.up⟩
def ItrB (g gb : Nat) (A : Option Addr) (c : Nat) (L : List Ent) (z : World) : Prop := z.cell? ⟨gb, 0, none⟩ = some (.pointer (some ⟨g, 0, none⟩)) ∧ z.cell? ⟨g, 1, none⟩ = some (.slice A L.length c) ∧ Ens z A L.length L
theorem pre_take {L : List Ent} {k : Nat} {e : Ent} (h : L[k]? = some e) : L.take k ++ [e] <+: L := by
  rw [← take_snoc h]; exact List.take_prefix _ _
set_option maxRecDepth 100000 in
set_option maxHeartbeats 4000000 in
theorem all1_iter (g gb : Nat) (A : Option Addr) (c : Nat) (L : List Ent) (hLn : L.length ≤ 1000000000) (hL : ∀ e, e ∈ L → e.row.length ≤ 140737488355000 ∧ e.qual.length ≤ 140737488355000 ∧ e.val.length ≤ 140737488355000) :
    IterOK Tryd.prog 47 #[.pointer (some ⟨gb, 0, none⟩)] L (ItrB g gb A c L) HandE := by
  intro l J Jx W hit hJ hJx hY h0
  have HIT := Lib.hid hit
  have HJ := Lib.hid hJ
  have HJX := Lib.hid hJx
  have HY := Lib.hid hY
  have HL := Lib.hid hL
  obtain ⟨hb, c1, _⟩ := hit [] W h0
  obtain ⟨n, hn⟩ : ∃ z, z = L.length := ⟨_, rfl⟩
  rw [← hn] at c1 hLn
  have HN := Lib.hid hn.symm
  have H0 := Lib.hid h0
  clear hit hJ hJx hY hL hn h0
  refine (callsIn_wide (n := 10)).1 (callsIn_of_wp Tryd.func47 rfl trivial ?_ rfl)
  simp only [Tryd.ntmps47, List.size_toArray, List.length_cons, List.length_nil, Nat.reduceAdd, Nat.reduceSub, Array.replicate_succ, Array.replicate_zero, List.push_toArray, List.append_toArray, List.nil_append, List.cons_append]
  gi_wp2
  gi_loopw [4, 10] (fun _ iv wr => ∃ k : Nat, k ≤ n ∧ iv = .int .i64 k ∧ Hid (J (L.take k) wr)) (fun _ iv _ => n - (intOf iv).toNat)
  case atStart => exact ⟨0, Nat.zero_le _, rfl, H0⟩
  case round =>
    clear H0 hb c1
    obtain ⟨k, hk, rfl, HJK⟩ := hrel
    by_cases hlt : k < n
    case neg =>
      have hdk : decide ((k : Int) < (n : Int)) = false := decide_eq_false (by omega)
      have HE : Hid (J L wr) := Lib.hid (by have h := HJK.out; rwa [take_all (by rw [HN.out]; omega)] at h)
      gi_wp2
      go_end0
      exact ⟨⟨_, rfl⟩, .inl HE.out⟩
    have hdk : decide ((k : Int) < (n : Int)) = true := decide_eq_true (by omega)
    have i0 : (0 : Int) ≤ (k : Int) := by omega
    have i1 : (k : Int) < (n : Int) := by omega
    obtain ⟨_, _, hens⟩ := HIT.out _ _ HJK.out
    rw [HN.out] at hens
    obtain ⟨b, o, Ar, rc, B, d, D, q, e, rfl, hbl, hke, hrg, hen⟩ := hens.at_ hlt
    have HR := Lib.hid hrg
    have HKE := Lib.hid hke
    have HEN : Hid (∀ z, Below wr.heap.size wr z → En z Ar e.row.length rc B e.qual.length d D e.val.length q e) := Lib.hid fun z hz => hen.later hz
    have HX := Lib.hid (OW.nil wr)
    have HLE := Lib.hid (HL.out e (List.mem_of_getElem? hke))
    clear hens hbl hke hrg hen
    gi_wp2_with (first
      | (refine wlIn_one (ro := none) rfl ?_; refine wpList_load_at rfl 37 (.tmp 12) rfl rfl HR.out ent_row5 ?_; refine wlIn_back ?_)
      | (refine wlIn_one (ro := none) rfl ?_; refine wl_alloc rfl rfl [.slice none 0 0, .int .i64 0, .slice none 0 0, .int .i64 0, .int .i64 0, .int .i64 0, .slice none 0 0] (.inl (by kernel_rfl)) HX.out ?_; intro ge x1 hz _; have HX1 := Lib.hid hz; clear hz HX; refine wlIn_back ?_)
      | (refine wlIn_one (ro := none) rfl ?_; refine wl_put rfl (.tmp 4) (.tmp 13) rfl HX1.out 0 rfl rfl [.slice Ar e.row.length rc, .int .i64 e.fam, .slice B e.qual.length d, .int .i64 e.ts, .int .i64 e.seq, .int .i64 e.kind, .slice D e.val.length q] rfl rfl (by kernel_rfl) (by simp [Value.oneCell']) ?_; intro x2 hz _; have HX2 : Hid (OW wr [boxO ge [.slice Ar e.row.length rc, .int .i64 e.fam, .slice B e.qual.length d, .int .i64 e.ts, .int .i64 e.seq, .int .i64 e.kind, .slice D e.val.length q]] x2) := Lib.hid hz; clear hz HX1; refine wlIn_back ?_)
      | (refine wlIn_one (ro := none) rfl ?_; refine wpList_load_row7 rfl 37 (.tmp 4) rfl rfl (HX2.out.range (i := 0) rfl) ent_row5 ?_; refine wlIn_back ?_)
      | (refine ⟨trivial, ?_⟩; gi_at_call 48; go_must (refine CallsIn.mono (callsIn_fw (ro := none) (own_any e Ar _ rc B _ d D _ q _ (HEN.out _ HX2.out.up) HLE.out)) ?_); rintro r x3 hp; obtain ⟨A3, B3, D3, rfl, ca, cb, cd, ho⟩ := hp.own; have hy0 := HY.out (L.take k) e wr _ x3 (pre_take HKE.out) HJK.out ⟨A3, B3, D3, rfl, ca, cb, cd, (HX2.out.app ho).erase 0⟩; obtain ⟨fn, tmps, assign, body, hy, hR⟩ := hy0; clear hp ca cb cd ho HX2))
    have HT := Lib.hid (take_snoc HKE.out)
    refine hR.mono ?_
    rintro e' W' (⟨rfl, hJ'⟩ | ⟨rfl, hJx'⟩)
    · rw [← HT.out] at hJ'
      have HJ' := Lib.hid hJ'
      clear hJ' hR hy
      gi_wp2
      go_roundw
      case rel => exact ⟨k + 1, by omega, by go_num, HJ'⟩
      case measure => simp [intOf]; omega
    · have HJ' : Hid (Jx (L.take k ++ [e]) W' ∧ L.take k ++ [e] <+: L) := Lib.hid ⟨hJx', pre_take HKE.out⟩
      clear hJx' hR hy
      gi_wp2
      refine bodyPost_ret (results_none rfl _ _ _) rfl ?_
      exact ⟨⟨_, rfl⟩, .inr ⟨_, HJ'.out.2, HJ'.out.1⟩⟩
end Go.Proofs.YtmigjipfomfacaaDoor

/-
  What was built is read as it was; another restart, another block; plain laws.
-/
namespace Go.Proofs.YtmigjipfomfacaaDoor

theorem asc_last {acc r : List Ent} {e : Ent} (h : AscE (acc ++ e :: r)) : lastOk acc e = true := by
  unfold lastOk
  cases hg : acc.getLast? with
  | none => rfl
  | some l =>
    have h1 := (List.pairwise_append.1 h).2.2 l (List.mem_of_getLast? hg) e (List.mem_cons_self ..)
    exact decide_eq_true h1
theorem buildK_full (R : Nat) : ∀ es acc : List Ent, AscE (acc ++ es) → (∀ l, l ∈ acc ++ es → checkE l = 0) → (buildK R acc es).1 = 0 ∨ (buildK R acc es).1 = 53
  | [], _, _, _ => .inl rfl
  | e :: r, acc, ha, hc => by
    unfold buildK
    split
    · exact buildK_full R r (acc ++ [e]) (by rw [List.append_assoc]; exact ha) (by rw [List.append_assoc]; exact hc)
    · rename_i h0
      right
      show addC R acc e = 53
      have h1 := hc e (List.mem_append_right _ (List.mem_cons_self ..))
      unfold addC at h0 ⊢
      rw [if_neg (fun hn => hn h1), if_neg (by rw [asc_last ha]; exact Bool.noConfusion)] at h0 ⊢
      split
      · rfl
      · rename_i h2
        rw [if_neg h2] at h0
        exact absurd rfl h0
theorem back_no {R : Int} {L : List Ent} (hs : SortOk L) (h : (buildE5 R L).2 ≠ 0) : (R < 1 ∨ 16 < R) ∨ L = [] ∨ (buildE5 R L).2 = 53 := by
  unfold buildE5 at h ⊢
  split
  · rename_i hR; exact .inl hR
  · rename_i hR
    rw [if_neg hR] at h
    rcases buildK_full R.toNat L [] (by simpa using hs.asc) (by simpa using hs.chk) with h0 | h0
    · rw [if_pos h0] at h
      unfold finE at h
      split at h
      · rename_i hL; exact .inr (.inl hL)
      · exact absurd rfl h
    · right; right
      rw [if_neg (by omega)]
      exact h0
theorem build_res {R : Int} {L : List Ent} {b : List UInt8} (h : buildE5 R L = (b, 0)) : (resB b : Int) = R ∧ openE b = (some L, 0) := by
  have hR : ¬ (R < 1 ∨ 16 < R) := fun hR => by unfold buildE5 at h; rw [if_pos hR] at h; injection h with _ h; cases h
  obtain ⟨r, rfl⟩ : ∃ r : Nat, R = (r : Int) := ⟨R.toNat, by omega⟩
  obtain ⟨h1, h2⟩ := openE_lay h
  exact ⟨by rw [h2], h1⟩
theorem back_other {R R' : Int} {L : List Ent} {b c : List UInt8} (h : buildE5 R L = (b, 0)) (h' : buildE5 R' L = (c, 0)) : (b == c) = (R == R') := by
  by_cases hR : R = R'
  · subst hR
    rw [h] at h'; injection h' with h' _
    rw [h', beq_self_eq_true, beq_self_eq_true]
  · rw [beq_eq_false_iff_ne.2 hR, beq_eq_false_iff_ne]
    rintro rfl
    exact hR ((build_res h).1.symm.trans (build_res h').1)
theorem back_cut {R : Int} {L M : List Ent} {b c : List UInt8} (h : buildE5 R L = (b, 0)) (h' : buildE5 R M = (c, 0)) (hne : L.length ≠ M.length) : (b == c) = false := by
  rw [beq_eq_false_iff_ne]
  rintro rfl
  have h1 := (build_res h).2
  rw [(build_res h').2] at h1
  injection h1 with h1 _
  injection h1 with h1
  exact hne (by rw [h1])
end Go.Proofs.YtmigjipfomfacaaDoor

/-
  BlockBack, walked. (Printed by gen_blockback.py.)
-/
namespace Go.Proofs.YtmigjipfomfacaaDoor
open Go.RowKit

/-- Open of what Build made: the block is the caller's. -/
theorem open_bk {b : List UInt8} {L : List Ent} (ho : openE b = (some L, 0)) (A : Option Addr) (n c : Nat) (w : World) (hs : Sl w A n c b) (ht : TabAt 0 w) :
    Calls Tryd.prog 12 #[.slice A n c] w fun e z => ∃ g os, e = .returned (.tuple #[.pointer (some ⟨g, 0, none⟩), .int .i64 0]) ∧ Bk5 (resB b) L g os ∧ OW w os z :=
  (open_any b A n c w hs ht).mono fun e z h => by
    rcases h with ⟨L', g, os, h1, h2, h3, h4⟩ | ⟨h1, _⟩
    · rw [ho] at h1
      injection h1 with h1
      subst h1
      exact ⟨g, os, h2, h3, h4⟩
    · rw [ho] at h1; cases h1
theorem Bk5.itr {R g : Nat} {L : List Ent} {os : List Ob} (h : Bk5 R L g os) {w0 z0 : World} {r0 : List Ob} (h0 : OW w0 (os ++ r0) z0) : ∃ A c, ∀ w z rest, OW w (os ++ rest) z → z.cell? ⟨g, 1, none⟩ = some (.slice A L.length c) ∧ Ens z A L.length L := by
  obtain ⟨lv, kv, zs, rfl, rfl, hz⟩ := h
  obtain ⟨A, c, rfl, _⟩ := blk_ens h0
  have hl : (entsZ zs).length = zs.length := by unfold entsZ; rw [List.length_map]
  refine ⟨A, c, fun w z rest hw => ?_⟩
  obtain ⟨A', c', hv, he⟩ := blk_ens hw
  injection hv with hA _ hc
  subst hA; subst hc
  rw [hl]
  exact ⟨hw.cell (i := 0) (j := 1) rfl rfl, he⟩
theorem all_new (g : Nat) (x : World) : Calls Tryd.prog 14 #[.pointer (some ⟨g, 0, none⟩)] x fun r z => ∃ b, r = .returned (.func (.func 47) #[] #[.pointer (some ⟨b, 0, none⟩)]) ∧ OW x [boxO b [.pointer (some ⟨g, 0, none⟩)]] z := by
  have HX := Lib.hid (OW.nil x)
  go_enter Tryd.func14, Tryd.ntmps14
  go_wp2_with (refine wl_box rfl (.tmp 0) rfl [.pointer (some ⟨g, 0, none⟩)] rfl HX.out ?_; intro b x1 hz _; have HX1 : Hid (OW x [boxO b [.pointer (some ⟨g, 0, none⟩)]] x1) := Lib.hid hz; clear hz HX)
  go_ret
  exact ⟨b, rfl, HX1.out⟩
theorem ok_lens {e : Ent} (h : checkE e = 0) : e.row.length ≤ 140737488355000 ∧ e.qual.length ≤ 140737488355000 ∧ e.val.length ≤ 140737488355000 := by
  have h1 := ok_of h
  have h2 := h1.row
  have h3 := h1.qual
  have h4 := h1.val
  omega
def backO (MA : Option Addr) (k mc : Nat) (rs : List ER) (g7 : Nat) (A2 : Option Addr) (c2 : Nat) (Bb : List UInt8) (gi gb g m : Nat) : List Ob :=
  [rowO 37 7 (.slice MA k mc) k (rs.flatMap ER.cells), boxO g7 [.slice MA k mc], bytO 5 (A2, c2, Bb), boxO gi [.int .i64 (m : Nat)], boxO gb [.pointer (some ⟨g, 0, none⟩)]]
theorem perm_back {α : Type} (i r l b f : α) (bo : List α) : ((i :: r :: l :: b :: bo) ++ [f]).Perm (r :: l :: b :: i :: f :: bo) := by
  have h1 : (bo ++ [f]).Perm (f :: bo) := List.perm_append_comm
  exact (List.perm_middle (l₁ := [r, l, b]) (a := i) (l₂ := bo ++ [f])).symm.trans (List.Perm.cons r (List.Perm.cons l (List.Perm.cons b (List.Perm.cons i h1))))
theorem perm5 {α : Type} (a b c : List α) : ((a ++ b) ++ c).Perm (b ++ (a ++ c)) := by
  rw [← List.append_assoc b]
  exact List.Perm.append_right c List.perm_append_comm
theorem pre_at {α : Type} {L pre : List α} {e : α} (h : pre ++ [e] <+: L) : L[pre.length]? = some e := by
  obtain ⟨t, rfl⟩ := h
  rw [List.append_assoc, List.getElem?_append_right (Nat.le_refl _), Nat.sub_self]; rfl
theorem perm3 {α : Type} (a b c : List α) : ((a ++ b) ++ c).Perm ((a ++ c) ++ b) := by
  rw [List.append_assoc, List.append_assoc]
  exact List.Perm.append_left a List.perm_append_comm
theorem perm4 {α : Type} (a b c : List α) : ((a ++ b) ++ c).Perm ((c ++ a) ++ b) := by
  rw [List.append_assoc c]
  exact List.perm_append_comm

set_option maxRecDepth 10000000 in
set_option maxHeartbeats 8000000 in
theorem backL_no (R R' : Int) (es : List Ent) (A : Option Addr) (n c : Nat) (w : World) (hes : Ens w A n es) (hn : n ≤ 9223372036854775807) (ht : TabAt 0 w) (hbe : (buildE5 R (sortL (es.take 80))).2 ≠ 0) :
    Calls Tryd.prog 3 #[.int .i64 R, .int .i64 R', .slice A n c] w fun e z => e = .returned (.bool true) ∧ Below w.heap.size w z := by
  have HES : Hid (∀ z, Below w.heap.size w z → Ens z A n es) := Lib.hid fun z hz => hes.later hz
  have HTB : Hid (∀ z, Below w.heap.size w z → TabAt 0 z) := Lib.hid fun z hz => ht.later hz
  have HX0 := Lib.hid (OW.nil w)
  obtain ⟨L, hL⟩ : ∃ z, z = sortL (es.take 80) := ⟨_, rfl⟩
  rw [← hL] at hbe
  obtain ⟨Bb, be, hB⟩ : ∃ B be, buildE5 R L = (B, be) := ⟨_, _, rfl⟩
  rw [hB] at hbe
  obtain ⟨bn, hbn⟩ : ∃ z, z = Bb.length := ⟨_, rfl⟩
  have HB := Lib.hid hB
  have HBN := Lib.hid hbn.symm
  have HLL := Lib.hid hL.symm
  have HSO : Hid (SortOk L) := Lib.hid (by rw [hL]; exact sort_ok _)
  clear hes ht hL hB hbn
  refine calls_marks Tryd.func3 rfl ?_
  simp only [Tryd.ntmps3, List.size_toArray, List.length_cons, List.length_nil, Nat.reduceAdd, Nat.reduceSub, Array.replicate_succ, Array.replicate_zero, List.push_toArray, List.append_toArray, List.nil_append, List.cons_append]
  have hd : (be != 0) = true := bne_iff_ne.2 hbe
  have HNO : Hid ((R < 1 ∨ 16 < R) ∨ L = [] ∨ be = 53) := Lib.hid (by
    have h := back_no (R := R) HSO.out (by rw [HB.out]; exact hbe)
    rw [HB.out] at h; exact h)
  clear hbe
  go_upto_region 6 with (first
    | (refine wl_alloc rfl rfl [.bool false] (.inr ⟨.bool false, by kernel_rfl, rfl⟩) HX0.out ?_; intro g6 x1 hz _; have HG := Lib.hid (RBox.of hz); have HX := Lib.hid (OW.nil x1); clear hz HX0)
    | (go_at_call 9; go_must (refine (sorted_any es A n c _ (HES.out _ HG.out.up) hn).mono ?_); rw [HLL.out]; rintro e x2 ⟨MA, mc, k, rs, rfl, hk80, hs, hx⟩; have HX2 := Lib.hid hx; have HSR := Lib.hid hs; clear hx hs HX)
    | (refine wl_alloc rfl rfl [.slice none 0 0] (.inr ⟨.slice none 0 0, by kernel_rfl, rfl⟩) HX2.out ?_; intro g7 x3 hz _; have HX3 := Lib.hid hz; clear hz HX2)
    | (refine wl_put1 rfl (.tmp 7) (.tmp 19) rfl HX3.out 1 rfl 0 rfl (by simp) _ rfl (by kernel_rfl) rfl ?_; intro x4 hz _; have HX4 : Hid (OW x1 [rowO 37 7 (.slice MA k mc) k (rs.flatMap ER.cells), boxO g7 [.slice MA k mc]] x4) := Lib.hid hz; have tk0 : True := trivial; clear hz HX3)
    | (refine wpList_load_cell rfl 22 (.tmp 7) rfl rfl (HX4.out.cell (i := 1) (j := 0) rfl rfl) (fun w => Tryd.isAgg22 w) ?_)
    | (go_at_call 10; (have _t := tk0); go_must (refine (build_any R L MA k mc _ (HSR.out.ens HX4.out (i := 0) rfl) (by omega) (HTB.out _ (HG.out.up.trans (HX4.out.up.mono HG.out.up.size)))).mono ?_); rw [HB.out]; rintro e x5 hp; obtain ⟨A2, c2, rfl, hs2, ho, hb⟩ := hp.at_ HBN.out rfl; replace HX4 := Lib.hid (HX4.out.later hb); clear hp ho hb hs2 tk0 _t)
    | (go_at_call 11; go_must (refine (told_any _ (HTB.out _ (HG.out.up.trans (HX4.out.up.mono HG.out.up.size)))).mono ?_); rintro e x6 ⟨rfl, hb⟩; replace HX4 := Lib.hid (HX4.out.later hb); clear hb))
  have HKL : Hid (L.length = k) := Lib.hid (HSR.out.ens HX4.out (i := 0) rfl).len
  clear hd
  by_cases h0 : R < 1
  · have d0 : decide (R < 1) = true := decide_eq_true h0
    go_wp2_with (first
      | (refine wpList_load_cell rfl 22 (.tmp 7) rfl rfl (HX4.out.cell (i := 1) (j := 0) rfl rfl) (fun w => Tryd.isAgg22 w) ?_)
      | (refine wl_cell1 rfl (.tmp 6) (.tmp 44) rfl rfl (HG.out.cell' HX4.out.up) (HG.out.fz' HX4.out.up) _ rfl (by kernel_rfl) rfl ?_))
    exact leaves0 (results_cell1 rfl _ _ g6 _ rfl (HG.out.got HX4.out.up _) (fun w => Tryd.isAgg4 w)) ⟨rfl, HG.out.up' HX4.out.up _⟩
  have d0 : decide (R < 1) = false := decide_eq_false h0
  by_cases h1 : R > 16
  · have d1 : decide (R > 16) = true := decide_eq_true h1
    go_wp2_with (first
      | (refine wpList_load_cell rfl 22 (.tmp 7) rfl rfl (HX4.out.cell (i := 1) (j := 0) rfl rfl) (fun w => Tryd.isAgg22 w) ?_)
      | (refine wl_cell1 rfl (.tmp 6) (.tmp 44) rfl rfl (HG.out.cell' HX4.out.up) (HG.out.fz' HX4.out.up) _ rfl (by kernel_rfl) rfl ?_))
    exact leaves0 (results_cell1 rfl _ _ g6 _ rfl (HG.out.got HX4.out.up _) (fun w => Tryd.isAgg4 w)) ⟨rfl, HG.out.up' HX4.out.up _⟩
  have d1 : decide (R > 16) = false := decide_eq_false h1
  by_cases h2 : k = 0
  · have d2 : ((k : Int) == 0) = true := by rw [h2]; rfl
    go_wp2_with (first
      | (refine wpList_load_cell rfl 22 (.tmp 7) rfl rfl (HX4.out.cell (i := 1) (j := 0) rfl rfl) (fun w => Tryd.isAgg22 w) ?_)
      | (refine wl_cell1 rfl (.tmp 6) (.tmp 44) rfl rfl (HG.out.cell' HX4.out.up) (HG.out.fz' HX4.out.up) _ rfl (by kernel_rfl) rfl ?_))
    exact leaves0 (results_cell1 rfl _ _ g6 _ rfl (HG.out.got HX4.out.up _) (fun w => Tryd.isAgg4 w)) ⟨rfl, HG.out.up' HX4.out.up _⟩
  have d2 : ((k : Int) == 0) = false := beq_eq_false_iff_ne.2 (by omega)
  obtain rfl : be = 53 := by
    rcases HNO.out with h | h | h
    · omega
    · exact absurd (by rw [← HKL.out, h]; rfl) h2
    · exact h
  go_wp2_with (first
    | (refine wpList_load_cell rfl 22 (.tmp 7) rfl rfl (HX4.out.cell (i := 1) (j := 0) rfl rfl) (fun w => Tryd.isAgg22 w) ?_)
    | (refine wl_cell1 rfl (.tmp 6) (.tmp 44) rfl rfl (HG.out.cell' HX4.out.up) (HG.out.fz' HX4.out.up) _ rfl (by kernel_rfl) rfl ?_))
  exact leaves0 (results_cell1 rfl _ _ g6 _ rfl (HG.out.got HX4.out.up _) (fun w => Tryd.isAgg4 w)) ⟨rfl, HG.out.up' HX4.out.up _⟩

set_option maxRecDepth 10000000 in
set_option maxHeartbeats 8000000 in
theorem backL_yes (R R' : Int) (es : List Ent) (A : Option Addr) (n c : Nat) (w : World) (hes : Ens w A n es) (hn : n ≤ 9223372036854775807) (ht : TabAt 0 w) (hbe : (buildE5 R (sortL (es.take 80))).2 = 0) :
    Calls Tryd.prog 3 #[.int .i64 R, .int .i64 R', .slice A n c] w fun e z => e = .returned (.bool true) ∧ Below w.heap.size w z := by
  have HES : Hid (∀ z, Below w.heap.size w z → Ens z A n es) := Lib.hid fun z hz => hes.later hz
  have HTB : Hid (∀ z, Below w.heap.size w z → TabAt 0 z) := Lib.hid fun z hz => ht.later hz
  have HX0 := Lib.hid (OW.nil w)
  obtain ⟨L, hL⟩ : ∃ z, z = sortL (es.take 80) := ⟨_, rfl⟩
  rw [← hL] at hbe
  obtain ⟨Bb, be, hB⟩ : ∃ B be, buildE5 R L = (B, be) := ⟨_, _, rfl⟩
  rw [hB] at hbe
  obtain ⟨bn, hbn⟩ : ∃ z, z = Bb.length := ⟨_, rfl⟩
  have HB := Lib.hid hB
  have HBN := Lib.hid hbn.symm
  have HLL := Lib.hid hL.symm
  have HSO : Hid (SortOk L) := Lib.hid (by rw [hL]; exact sort_ok _)
  clear hes ht hL hB hbn
  refine calls_marks Tryd.func3 rfl ?_
  simp only [Tryd.ntmps3, List.size_toArray, List.length_cons, List.length_nil, Nat.reduceAdd, Nat.reduceSub, Array.replicate_succ, Array.replicate_zero, List.push_toArray, List.append_toArray, List.nil_append, List.cons_append]
  have hbe : be = 0 := hbe
  subst hbe
  have HR := Lib.hid (build_res HB.out)
  obtain ⟨Cb, ce, hC⟩ : ∃ B be, buildE5 R' L = (B, be) := ⟨_, _, rfl⟩
  obtain ⟨cn, hcn⟩ : ∃ z, z = Cb.length := ⟨_, rfl⟩
  have HC := Lib.hid hC
  have HCN := Lib.hid hcn.symm
  obtain ⟨Db, de, hD⟩ : ∃ B be, buildE5 R (L.take (L.length - 1)) = (B, be) := ⟨_, _, rfl⟩
  obtain ⟨dn, hdn⟩ : ∃ z, z = Db.length := ⟨_, rfl⟩
  have HD := Lib.hid hD
  have HDN := Lib.hid hdn.symm
  have HPB : Hid (L ≠ [] ∧ bn ≤ 131072 ∧ ∀ l, l ∈ L → checkE l = 0) := Lib.hid (by
    have h1 : buildE5 ((resB Bb : Nat) : Int) L = (Bb, 0) := by rw [HR.out.1]; exact HB.out
    have h2 := build_parts h1
    have h3 := buildK_size (resB Bb) L [] (by show 9 ≤ 131072; decide) h2.2.2.1
    rw [List.nil_append] at h3
    exact ⟨h2.2.2.2.1, by rw [← HBN.out, h2.2.2.2.2.1, layS_len]; exact h3, HSO.out.chk⟩)
  clear hC hcn hD hdn
  go_upto_region 8 with (first
    | (refine wl_alloc rfl rfl [.bool false] (.inr ⟨.bool false, by kernel_rfl, rfl⟩) HX0.out ?_; intro g6 x1 hz _; have HG := Lib.hid (RBox.of hz); have HX := Lib.hid (OW.nil x1); clear hz HX0)
    | (go_at_call 9; go_must (refine (sorted_any es A n c _ (HES.out _ HG.out.up) hn).mono ?_); rw [HLL.out]; rintro e x2 ⟨MA, mc, k, rs, rfl, hk80, hs, hx⟩; have HX2 := Lib.hid hx; have HSR := Lib.hid hs; clear hx hs HX)
    | (refine wl_alloc rfl rfl [.slice none 0 0] (.inr ⟨.slice none 0 0, by kernel_rfl, rfl⟩) HX2.out ?_; intro g7 x3 hz _; have HX3 := Lib.hid hz; clear hz HX2)
    | (refine wl_put1 rfl (.tmp 7) (.tmp 19) rfl HX3.out 1 rfl 0 rfl (by simp) _ rfl (by kernel_rfl) rfl ?_; intro x4 hz _; have HX4 : Hid (OW x1 [rowO 37 7 (.slice MA k mc) k (rs.flatMap ER.cells), boxO g7 [.slice MA k mc]] x4) := Lib.hid hz; have tk0 : True := trivial; clear hz HX3)
    | (refine wpList_load_cell rfl 22 (.tmp 7) rfl rfl (HX4.out.cell (i := 1) (j := 0) rfl rfl) (fun w => Tryd.isAgg22 w) ?_)
    | (go_at_call 10; (have _t := tk0); go_must (refine (build_any R L MA k mc _ (HSR.out.ens HX4.out (i := 0) rfl) (by omega) (HTB.out _ (HG.out.up.trans (HX4.out.up.mono HG.out.up.size)))).mono ?_); rw [HB.out]; rintro e x5 hp; obtain ⟨A2, c2, rfl, hs2, ho, hb⟩ := hp.at_ HBN.out rfl; have HX5 := Lib.hid (HX4.out.app (OW.byt1 hb ho)); have HS5 := Lib.hid hs2; clear HX4; clear hp ho hb hs2 tk0 _t)
    | (go_at_call 11; go_must (refine (told_any _ (HTB.out _ (HG.out.up.trans (HX5.out.up.mono HG.out.up.size)))).mono ?_); rintro e x6 ⟨rfl, hb⟩; replace HX5 := Lib.hid (HX5.out.later hb); clear hb)
    | (go_at_call 12; go_must (refine (open_bk HR.out.2 A2 bn c2 _ (HX5.out.sl (i := 2) rfl HBN.out) (HTB.out _ (HG.out.up.trans (HX5.out.up.mono HG.out.up.size)))).mono ?_); rintro e x7 ⟨g, bo, rfl, hbk, hbo⟩; have HBK := Lib.hid hbk; have HX7 := Lib.hid (HX5.out.app hbo); clear hbk hbo HX5))
  have HKL : Hid (L.length = k) := Lib.hid (HSR.out.ens HX7.out (i := 0) rfl).len
  have hk0 : 0 < k := by have h1 := List.length_pos_iff.2 HPB.out.1; have h2 := HKL.out; omega
  obtain ⟨Ai, ci, hitr⟩ := HBK.out.itr (HX7.out.perm List.perm_append_comm)
  have HIT := Lib.hid hitr
  have HBR : Hid (BkR x7 (resB Bb) g L) := Lib.hid (HBK.out.reads (HX7.out.perm List.perm_append_comm))
  clear hitr
  have e8 : (k != k) = false := by simp
  have e9 : ((k : Int) != (k : Int)) = false := by simp
  refine lt_start [] (by kernel_rfl) ?_
  intro xd hd
  refine ⟨fun z => Below x7.heap.size x7 z, ?_⟩
  have HS := Lib.hid hd
  refine lt_pure 0 rfl (by kernel_rfl) (by kernel_rfl) (by kernel_rfl) (by kernel_rfl) (fun _ _ _ h => h) (v := ?_) (yi_run rfl (fun w => ?_)) (fun _ => HS.out) ?_
  rotate_left
  · first | (go_simp; done) | (go_simp; with_reducible rfl)
  simp only [Act.put, List.setIfInBounds_toArray, List.set_cons_zero, List.set_cons_succ]
  refine lt_pure 1 rfl (by kernel_rfl) (by kernel_rfl) (by kernel_rfl) (by kernel_rfl) (fun _ _ _ h => h) (v := ?_) (yi_run rfl (fun w => ?_)) (fun _ => HS.out) ?_
  rotate_left
  · first | (go_simp; done) | (go_simp; with_reducible rfl)
  simp only [Act.put, List.setIfInBounds_toArray, List.set_cons_zero, List.set_cons_succ]
  refine lt_pure 2 rfl (by kernel_rfl) (by kernel_rfl) (by kernel_rfl) (by kernel_rfl) (fun _ _ _ h => h) (v := ?_) (yi_run rfl (fun w => ?_)) (fun _ => HS.out) ?_
  rotate_left
  · first | (go_simp; done) | (go_simp; with_reducible rfl)
  simp only [Act.put, List.setIfInBounds_toArray, List.set_cons_zero, List.set_cons_succ]
  refine lt_pure 3 rfl (by kernel_rfl) (by kernel_rfl) (by kernel_rfl) (by kernel_rfl) (fun _ _ _ h => h) (v := ?_) (yi_run rfl (fun w => ?_)) (fun _ => HS.out) ?_
  rotate_left
  · first | (go_simp; done) | (go_simp; with_reducible rfl)
  simp only [Act.put, List.setIfInBounds_toArray, List.set_cons_zero, List.set_cons_succ]
  refine lt_pure 4 rfl (by kernel_rfl) (by kernel_rfl) (by kernel_rfl) (by kernel_rfl) (fun _ _ _ h => h) (v := ?_) (yi_run rfl (fun w => ?_)) (fun _ => HS.out) ?_
  rotate_left
  · first | (go_simp; done) | (go_simp; with_reducible rfl)
  simp only [Act.put, List.setIfInBounds_toArray, List.set_cons_zero, List.set_cons_succ]
  refine lt_pure 5 rfl (by kernel_rfl) (by kernel_rfl) (by kernel_rfl) (by kernel_rfl) (fun _ _ _ h => h) (v := ?_) (yi_run rfl (fun w => ?_)) (fun _ => HS.out) ?_
  rotate_left
  · first | (go_simp; done) | (go_simp; with_reducible rfl)
  simp only [Act.put, List.setIfInBounds_toArray, List.set_cons_zero, List.set_cons_succ]
  refine lt_pure 6 rfl (by kernel_rfl) (by kernel_rfl) (by kernel_rfl) (by kernel_rfl) (fun _ _ _ h => h) (v := ?_) (yi_run rfl (fun w => ?_)) (fun _ => HS.out) ?_
  rotate_left
  · first | (go_simp; done) | (go_simp; with_reducible rfl)
  simp only [Act.put, List.setIfInBounds_toArray, List.set_cons_zero, List.set_cons_succ]
  refine lt_pure 7 rfl (by kernel_rfl) (by kernel_rfl) (by kernel_rfl) (by kernel_rfl) (fun _ _ _ h => h) (v := ?_) (yi_run rfl (fun w => ?_)) (fun _ => HS.out) ?_
  rotate_left
  · first | (go_simp; done) | (go_simp; with_reducible rfl)
  simp only [Act.put, List.setIfInBounds_toArray, List.set_cons_zero, List.set_cons_succ]
  refine lt_take 9 [10, 11, 12] rfl (by kernel_rfl) (by kernel_rfl) (by kernel_rfl) (by kernel_rfl) (by kernel_rfl) (fun _ _ _ h => h) (yi_cell rfl rfl rfl (fun w hS => (HX7.out.later hS).cell (i := 1) (j := 0) rfl rfl) (fun w => Tryd.isAgg22 w)) HS.out ?_
  simp only [Act.put, List.setIfInBounds_toArray, List.set_cons_zero, List.set_cons_succ]
  refine lt_pure 10 rfl (by kernel_rfl) (by kernel_rfl) (by kernel_rfl) (by kernel_rfl) (fun _ _ _ h => h) (v := ?_) (yi_run rfl (fun w => ?_)) (fun _ => HS.out) ?_
  rotate_left
  · first | (go_simp; done) | (go_simp; with_reducible rfl)
  simp only [Act.put, List.setIfInBounds_toArray, List.set_cons_zero, List.set_cons_succ]
  refine lt_call 8 rfl (by kernel_rfl) rfl rfl ⟨_, Tryd.func13, by decide, by kernel_rfl⟩ [.pointer (some ⟨g, 0, none⟩)] rfl ?_
  refine (len_any (HBR.out.later HS.out)).mono ?_
  rw [HKL.out]
  rintro e y1 ⟨rfl, hb⟩
  replace HS := Lib.hid (HS.out.trans (hb.mono HS.out.size))
  clear hb
  refine ⟨_, rfl, fun _ => HS.out, ?_⟩
  simp only [Act.put, List.setIfInBounds_toArray, List.set_cons_zero, List.set_cons_succ]
  refine lt_pure 11 rfl (by kernel_rfl) (by kernel_rfl) (by kernel_rfl) (by kernel_rfl) (fun _ _ _ h => h) (v := ?_) (yi_run rfl (fun w => ?_)) (fun _ => HS.out) ?_
  rotate_left
  · first | (go_simp; done) | (go_simp; with_reducible rfl)
  simp only [Act.put, List.setIfInBounds_toArray, List.set_cons_zero, List.set_cons_succ]
  refine lt_pure 12 rfl (by kernel_rfl) (by kernel_rfl) (by kernel_rfl) (by kernel_rfl) (fun _ _ _ h => h) (v := ?_) (yi_run rfl (fun w => ?_)) (fun _ => HS.out) ?_
  rotate_left
  · first | (go_simp; done) | (go_simp; with_reducible rfl)
  simp only [Act.put, List.setIfInBounds_toArray, List.set_cons_zero, List.set_cons_succ]
  refine lt_done (by kernel_rfl) ?_
  replace HX7 := Lib.hid (HX7.out.later HS.out)
  clear HS HBR
  go_upto_region 11 with (first
    | (refine wl_alloc rfl rfl [.int .i64 0] (.inr ⟨.int .i64 0, by kernel_rfl, rfl⟩) HX7.out ?_; intro gi x8 hz _; have HX8 := Lib.hid (hz.perm List.perm_append_comm); clear hz)
    | (refine wl_put1 rfl (.tmp 12) (.const (.int .i64 0)) rfl HX8.out 0 rfl 0 rfl (by simp) _ rfl (by kernel_rfl) rfl ?_; intro x9 hz _; have HX9 := Lib.hid hz; clear hz HX8))
  go_wp2_with (go_at_call 14; go_must (refine (all_new g _).mono ?_); rintro e y2 ⟨gb, rfl, ho⟩; have HY : Hid (OW x1 (backO MA k mc rs g7 A2 c2 Bb gi gb g 0 ++ bo) y2) := Lib.hid ((HX9.out.app ho).perm (perm_back _ _ _ _ _ _)); clear ho HX9)
  have HLB : Hid (L.length ≤ 1000000000 ∧ ∀ e, e ∈ L → e.row.length ≤ 140737488355000 ∧ e.qual.length ≤ 140737488355000 ∧ e.val.length ≤ 140737488355000) := Lib.hid ⟨by rw [HKL.out]; omega, fun e he => ok_lens (HPB.out.2.2 e he)⟩
  refine wp_range (w := x1) (L := L) (Hand := HandE) (Itr := ItrB g gb Ai ci L) rfl (enters_of Tryd.func47 (by kernel_rfl) rfl) (all1_iter g gb Ai ci L HLB.out.1 HLB.out.2) (fun _ _ _ _ h => h.ok)
    (fun pre os => os = backO MA k mc rs g7 A2 c2 Bb gi gb g pre.length ++ bo) (fun _ _ _ => False) ?itr (os0 := backO MA k mc rs g7 A2 c2 Bb gi gb g 0 ++ bo) rfl HY.out ?round ?done ?stop
  case itr =>
    rintro pre os es' z rfl h
    exact ⟨h.cell (i := 4) (j := 0) rfl rfl, HIT.out x1 z _ (h.perm (perm5 _ _ _))⟩
  case stop => exact fun D c' pre os z _ h => h.elim
  case round =>
    rintro l p1 p2 pre e vs W0 W1 os _ hpre rfl h0 ⟨A3, B3, D3, rfl, ca, cb, cd, hh⟩
    obtain ⟨m, hm⟩ : ∃ z, z = pre.length := ⟨_, rfl⟩
    have hke := pre_at hpre
    rw [← hm] at hke h0
    have hmk : m < k := by have h1 := (List.getElem?_eq_some_iff.1 hke).1; rw [HKL.out] at h1; exact h1
    obtain ⟨q, hq⟩ : ∃ r, rs[m]? = some r := ⟨_, List.getElem?_eq_getElem (by rw [HSR.out.len, HKL.out]; exact hmk)⟩
    obtain rfl : q.e = e := by have h1 := HSR.out.at_ hq; rw [hke] at h1; injection h1 with h1; exact h1.symm
    have HQ := Lib.hid hq
    have HQE : Hid (∀ z, Below x1.heap.size x1 z → q.En z) := Lib.hid fun z hz => HSR.out.en q (List.mem_of_getElem? hq) z hz
    have HQB := Lib.hid (HLB.out.2 q.e (List.mem_of_getElem? hke))
    have HM := Lib.hid hm
    have HCA := Lib.hid ca
    have HCB := Lib.hid cb
    have HCD := Lib.hid cd
    obtain ⟨mg, mcap, hv, _⟩ := own_form (HY.out.row (i := 0) rfl) (show 0 < k by omega)
    injection hv with hv _ hcp
    subst hv
    subst hcp
    have HV := Lib.hid ((h0.app hh).perm (perm4 _ _ _))
    have hm80 : m ≤ 80 := by omega
    have i0 : (0 : Int) ≤ (m : Int) := by omega
    have i1 : (m : Int) < (k : Int) := by omega
    have i2 : decide ((m : Int) ≥ (k : Int)) = false := decide_eq_false (by omega)
    have i3 : ¬ k ≤ m := by omega
    clear hke hpre h0 hh ca cb cd hq hm
    have hsem : ∀ (ρ : Operand → Value) (o : Oper), (∀ c, o.op ≠ .defer c) → Oper.semAt (some l) ρ o = execOp ρ o := fun ρ o h => Oper.semAt_some l ρ o h
    unfold RoundOK
    rw [setP1]
    simp only [List.setIfInBounds_toArray, List.set_cons_zero, List.set_cons_succ]
    gi_wp2_with (first
      | (refine wlIn_one rfl ?_; refine wl_alloc rfl rfl [.slice none 0 0, .int .i64 0, .slice none 0 0, .int .i64 0, .int .i64 0, .int .i64 0, .slice none 0 0] (.inl (by kernel_rfl)) HV.out ?_; intro gy z1 hz _; have HV1 := Lib.hid (hz.perm (perm4 _ _ _)); clear hz HV; refine wlIn_back ?_)
      | (refine wlIn_one rfl ?_; refine wl_put rfl (.tmp 13) (.tmp 65) rfl HV1.out 0 rfl rfl [.slice A3 q.e.row.length q.e.row.length, .int .i64 q.e.fam, .slice B3 q.e.qual.length q.e.qual.length, .int .i64 q.e.ts, .int .i64 q.e.seq, .int .i64 q.e.kind, .slice D3 q.e.val.length q.e.val.length] rfl rfl (by kernel_rfl) (by simp [Value.oneCell']) ?_; intro z2 hz _; have HV2 : Hid (OW x1 ((boxO gy [.slice A3 q.e.row.length q.e.row.length, .int .i64 q.e.fam, .slice B3 q.e.qual.length q.e.qual.length, .int .i64 q.e.ts, .int .i64 q.e.seq, .int .i64 q.e.kind, .slice D3 q.e.val.length q.e.val.length] :: clipO A3 q.e.row :: clipO B3 q.e.qual :: clipO D3 q.e.val :: (backO (some ⟨mg, 0, none⟩) k mc rs g7 A2 c2 Bb gi gb g m ++ bo)) ++ p1) z2) := Lib.hid hz; clear hz HV1; refine wlIn_back ?_))
    refine ⟨_, HV2.out, fun z3 hz3 => ?_⟩
    have HW : Hid (OW x1 ((boxO gy [.slice A3 q.e.row.length q.e.row.length, .int .i64 q.e.fam, .slice B3 q.e.qual.length q.e.qual.length, .int .i64 q.e.ts, .int .i64 q.e.seq, .int .i64 q.e.kind, .slice D3 q.e.val.length q.e.val.length] :: clipO A3 q.e.row :: clipO B3 q.e.qual :: clipO D3 q.e.val :: (backO (some ⟨mg, 0, none⟩) k mc rs g7 A2 c2 Bb gi gb g m ++ bo)) ++ p2) z3) := Lib.hid hz3
    have HRW : Hid (∀ z, Below z3.heap.size z3 z → z.rangeAt mg (m * 7) q.cells) := Lib.hid fun z hz => OW.rowRange (hz3.later hz) (i := 4) rfl HQ.out
    clear hz3 HV2
    gi_wp2
    have hqb1 := HQB.out.1
    have hqb2 := HQB.out.2.1
    have hqb3 := HQB.out.2.2
    refine lt_startIn [] (by kernel_rfl) (by kernel_rfl) (fun _ _ h => h) ?_
    intro xd hd
    refine ⟨fun z => Below z3.heap.size z3 z, ?_⟩
    have HS := Lib.hid (hd)
    refine lt_take 0 [3, 4, 5, 6, 7, 8, 9, 10, 11, 12] rfl (by kernel_rfl) (by kernel_rfl) (by kernel_rfl) (by kernel_rfl) (by kernel_rfl) (fun _ _ _ h => h) (yi_cell rfl rfl rfl (fun w hS => (HW.out.later hS).cell (i := 7) (j := 0) rfl rfl) (fun w => Tryd.isAgg3 w)) HS.out ?_
    simp only [Act.put, List.setIfInBounds_toArray, List.set_cons_zero, List.set_cons_succ]
    refine lt_take 1 [2, 3, 4, 5, 6, 7, 8, 9, 10, 11, 12] rfl (by kernel_rfl) (by kernel_rfl) (by kernel_rfl) (by kernel_rfl) (by kernel_rfl) (fun _ _ _ h => h) (yi_cell rfl rfl rfl (fun w hS => (HW.out.later hS).cell (i := 5) (j := 0) rfl rfl) (fun w => Tryd.isAgg22 w)) HS.out ?_
    simp only [Act.put, List.setIfInBounds_toArray, List.set_cons_zero, List.set_cons_succ]
    refine lt_pure 2 rfl (by kernel_rfl) (by kernel_rfl) (by kernel_rfl) (by kernel_rfl) (fun _ _ _ h => h) (v := ?_) (yi_run rfl (fun w => ?_)) (fun _ => HS.out) ?_
    rotate_left
    · first | (go_simp; done) | (go_simp; with_reducible rfl)
    simp only [Act.put, List.setIfInBounds_toArray, List.set_cons_zero, List.set_cons_succ]
    refine lt_pure 3 rfl (by kernel_rfl) (by kernel_rfl) (by kernel_rfl) (by kernel_rfl) (fun _ _ _ h => h) (v := ?_) (yi_run rfl (fun w => ?_)) (fun _ => HS.out) ?_
    rotate_left
    · first | (go_simp; done) | (go_simp; with_reducible rfl)
    simp only [Act.put, List.setIfInBounds_toArray, List.set_cons_zero, List.set_cons_succ]
    refine lt_pure 4 rfl (by kernel_rfl) (by kernel_rfl) (by kernel_rfl) (by kernel_rfl) (fun _ _ _ h => h) (v := ?_) (yi_run rfl (fun w => ?_)) (fun _ => HS.out) ?_
    rotate_left
    · first | (go_simp; done) | (go_simp; with_reducible rfl)
    simp only [Act.put, List.setIfInBounds_toArray, List.set_cons_zero, List.set_cons_succ]
    refine lt_take 5 [10, 11, 12] rfl (by kernel_rfl) (by kernel_rfl) (by kernel_rfl) (by kernel_rfl) (by kernel_rfl) (fun _ _ _ h => h) (yi_row rfl rfl rfl (fun w hS => (HW.out.later hS).range (i := 0) rfl) ent_row5) HS.out ?_
    simp only [Act.put, List.setIfInBounds_toArray, List.set_cons_zero, List.set_cons_succ]
    refine lt_take 6 [8, 9, 10, 11, 12] rfl (by kernel_rfl) (by kernel_rfl) (by kernel_rfl) (by kernel_rfl) (by kernel_rfl) (fun _ _ _ h => h) (yi_cell rfl rfl rfl (fun w hS => (HW.out.later hS).cell (i := 5) (j := 0) rfl rfl) (fun w => Tryd.isAgg22 w)) HS.out ?_
    simp only [Act.put, List.setIfInBounds_toArray, List.set_cons_zero, List.set_cons_succ]
    refine lt_take 7 [8, 9, 10, 11, 12] rfl (by kernel_rfl) (by kernel_rfl) (by kernel_rfl) (by kernel_rfl) (by kernel_rfl) (fun _ _ _ h => h) (yi_cell rfl rfl rfl (fun w hS => (HW.out.later hS).cell (i := 7) (j := 0) rfl rfl) (fun w => Tryd.isAgg3 w)) HS.out ?_
    simp only [Act.put, List.setIfInBounds_toArray, List.set_cons_zero, List.set_cons_succ]
    refine lt_pure 8 rfl (by kernel_rfl) (by kernel_rfl) (by kernel_rfl) (by kernel_rfl) (fun _ _ _ h => h) (v := ?_) (yi_run rfl (fun w => ?_)) (fun _ => HS.out) ?_
    rotate_left
    · first | (go_simp; done) | (go_simp; with_reducible rfl)
    simp only [Act.put, List.setIfInBounds_toArray, List.set_cons_zero, List.set_cons_succ]
    refine lt_take 9 [10, 11, 12] rfl (by kernel_rfl) (by kernel_rfl) (by kernel_rfl) (by kernel_rfl) (by kernel_rfl) (fun _ _ _ h => h) (yi_rowO rfl rfl rfl (fun w hS => HRW.out w hS) ent_row5) HS.out ?_
    simp only [Act.put, List.setIfInBounds_toArray, List.set_cons_zero, List.set_cons_succ]
    refine lt_call 10 rfl (by kernel_rfl) rfl rfl ⟨_, Tryd.func15, by decide, by kernel_rfl⟩ [entV A3 q.e.row.length q.e.row.length B3 q.e.qual.length q.e.qual.length D3 q.e.val.length q.e.val.length q.e, q.v] rfl ?_
    refine (sameEntry_any q.e q.e A3 _ _ B3 _ _ D3 _ _ q.A _ q.c q.B _ q.d q.D _ q.q _ rfl ⟨(HW.out.later HS.out).clipSl HCA.out (i := 1) rfl rfl (by omega), (HW.out.later HS.out).clipSl HCB.out (i := 2) rfl rfl (by omega), (HW.out.later HS.out).clipSl HCD.out (i := 3) rfl rfl (by omega)⟩ (HQE.out _ (HW.out.later HS.out).up)).mono ?_
    rintro r y1 ⟨rfl, hb⟩
    replace HS := Lib.hid (HS.out.trans (hb.mono HS.out.size))
    clear hb
    refine ⟨_, rfl, fun _ => HS.out, ?_⟩
    simp only [Act.put, List.setIfInBounds_toArray, List.set_cons_zero, List.set_cons_succ]
    refine lt_pure 11 rfl (by kernel_rfl) (by kernel_rfl) (by kernel_rfl) (by kernel_rfl) (fun _ _ _ h => h) (v := ?_) (yi_run rfl (fun w => ?_)) (fun _ => HS.out) ?_
    rotate_left
    · first | (go_simp; done) | (go_simp; with_reducible rfl)
    simp only [Act.put, List.setIfInBounds_toArray, List.set_cons_zero, List.set_cons_succ]
    refine lt_pure 12 rfl (by kernel_rfl) (by kernel_rfl) (by kernel_rfl) (by kernel_rfl) (fun _ _ _ h => h) (v := ?_) (yi_run rfl (fun w => ?_)) (fun _ => HS.out) ?_
    rotate_left
    · first | (go_simp; done) | (go_simp; with_reducible rfl)
    simp only [Act.put, List.setIfInBounds_toArray, List.set_cons_zero, List.set_cons_succ]
    refine lt_done (by kernel_rfl) ?_
    replace HW := Lib.hid (HW.out.later HS.out)
    clear HS HRW
    gi_wp2_with (first
      | (refine wlIn_one rfl ?_; refine wpList_load_cell rfl 3 (.tmp 12) rfl rfl (HW.out.cell (i := 7) (j := 0) rfl rfl) (fun w => Tryd.isAgg3 w) ?_; refine wlIn_back ?_)
      | (refine wlIn_one rfl ?_; refine wl_put1 rfl (.tmp 12) (.tmp 80) rfl HW.out 7 rfl 0 rfl (by simp) (.int .i64 ((m + 1 : Nat) : Int)) (by show Value.int .i64 _ = _; go_num) (by kernel_rfl) rfl ?_; intro z5 hz _; have HZ : Hid (OW x1 ((boxO gy [.slice A3 q.e.row.length q.e.row.length, .int .i64 q.e.fam, .slice B3 q.e.qual.length q.e.qual.length, .int .i64 q.e.ts, .int .i64 q.e.seq, .int .i64 q.e.kind, .slice D3 q.e.val.length q.e.val.length] :: clipO A3 q.e.row :: clipO B3 q.e.qual :: clipO D3 q.e.val :: (backO (some ⟨mg, 0, none⟩) k mc rs g7 A2 c2 Bb gi gb g (m + 1) ++ bo)) ++ p2) z5) := Lib.hid hz; clear hz HW; refine wlIn_back ?_))
    gi_wp2
    refine ⟨_, ?_, (((HZ.out.erase 0).erase 0).erase 0).erase 0⟩
    show _ = backO (some ⟨mg, 0, none⟩) k mc rs g7 A2 c2 Bb gi gb g (pre ++ [q.e]).length ++ bo
    rw [List.length_append, ← HM.out]; rfl
  case done =>
    rintro D os z rfl h
    rw [HKL.out] at h
    have HZ := Lib.hid h
    have HZU : Hid (Below w.heap.size w z) := Lib.hid (HG.out.up.trans (h.up.mono HG.out.up.size))
    clear h HY HX7
    have tk1 : True := trivial
    go_upto_region 17 with (first
      | (refine wpList_load_cell rfl 22 (.tmp 7) rfl rfl (HZ.out.cell (i := 1) (j := 0) rfl rfl) (fun w => Tryd.isAgg22 w) ?_)
      | (go_at_call 10; go_must (refine (build_any R' L MA k mc _ (HSR.out.ens HZ.out (i := 0) rfl) (Nat.le_trans hk80 (by decide)) (HTB.out _ HZU.out)).mono ?_); rw [HC.out]; rintro e z2 hp; obtain ⟨A8, c8, rfl, hs8, _, hb⟩ := hp.at_ HCN.out rfl; replace HZ := Lib.hid (HZ.out.later hb); replace HZU := Lib.hid (HZU.out.trans (hb.mono HZU.out.size)); have HS8 := Lib.hid hs8; clear hp hb hs8 tk1))
    obtain ⟨k1, hk1⟩ : ∃ z, z = k - 1 := ⟨_, rfl⟩
    have q1 : (k : Int) - 1 = (k1 : Int) := by omega
    have HK1 : Hid (L.length - 1 = k1 ∧ k1 ≤ k ∧ k1 < k) := Lib.hid (by rw [HKL.out]; omega)
    have hkc : k ≤ mc := by
      obtain ⟨_, _, hv, h1, _⟩ := own_slice (HZ.out.row (i := 0) rfl)
      injection hv with _ _ h2; omega
    have q2 : (0 : Int) ≤ (k1 : Int) := by omega
    have q3 : (k1 : Int) ≤ (mc : Int) := by omega
    have q4 : k1 ≤ mc := by omega
    have hk1b : k1 ≤ 80 := by omega
    have HEK : Hid (∀ z, OW x1 ((backO MA k mc rs g7 A2 c2 Bb gi gb g k ++ bo) ++ [dfrO D]) z → Ens z MA k1 (L.take (L.length - 1))) := Lib.hid fun z hz => by rw [HK1.out.1]; exact (HSR.out.ens hz (i := 0) rfl).take HK1.out.2.1
    clear hk1
    by_cases hce : ce = 0
    case pos =>
      have HBC : Hid ((Bb == Cb) = (R == R')) := Lib.hid (back_other HB.out (by rw [HC.out, hce]))
      subst hce
      have e10 : ((R == R') != (R == R')) = false := by simp
      have tkA : True := trivial
      by_cases hde : de = 0
      · have e11 : (de != 0) = false := by rw [hde]; rfl
        have HBD : Hid ((Bb == Db) = false) := Lib.hid (back_cut HB.out (by rw [HD.out, hde]) (by rw [List.length_take]; have := HKL.out; omega))
        go_wp2_with (first
          | (refine wpList_load_cell rfl 22 (.tmp 7) rfl rfl (HZ.out.cell (i := 1) (j := 0) rfl rfl) (fun w => Tryd.isAgg22 w) ?_)
          | (refine wpList_load_cell rfl 3 (.tmp 12) rfl rfl (HZ.out.cell (i := 3) (j := 0) rfl rfl) (fun w => Tryd.isAgg3 w) ?_)
          | (go_at_call 16; (have _t := tkA); go_must (refine (same_any Bb Cb A2 A8 bn c2 cn c8 _ (Nat.le_trans HPB.out.2.1 (by decide)) (HZ.out.sl (i := 2) rfl HBN.out).rb HS8.out.rb).mono ?_); rw [HBC.out]; rintro e z4 ⟨rfl, hb⟩; replace HZ := Lib.hid (HZ.out.later hb); replace HZU := Lib.hid (HZU.out.trans (hb.mono HZU.out.size)); clear hb HS8 tkA _t)
          | (go_at_call 10; go_must (refine (build_any R (L.take (L.length - 1)) MA k1 mc _ (HEK.out _ HZ.out) (Nat.le_trans hk1b (by decide)) (HTB.out _ HZU.out)).mono ?_); rw [HD.out]; rintro e z3 hp; obtain ⟨A9, c9, rfl, hs9, _, hb⟩ := hp.at_ HDN.out rfl; replace HZ := Lib.hid (HZ.out.later hb); have HS9 := Lib.hid hs9; have tkB : True := trivial; clear hp hb hs9 HZU)
          | (go_at_call 16; (have _t := tkB); go_must (refine (same_any Bb Db A2 A9 bn c2 dn c9 _ (Nat.le_trans HPB.out.2.1 (by decide)) (HZ.out.sl (i := 2) rfl HBN.out).rb HS9.out.rb).mono ?_); rw [HBD.out]; rintro e z5 ⟨rfl, hb⟩; replace HZ := Lib.hid (HZ.out.later hb); clear hb HS9 tkB _t)
          | (refine wl_cell1 rfl (.tmp 6) (.tmp 121) rfl rfl (HG.out.cell' HZ.out.up) (HG.out.fz' HZ.out.up) _ rfl (by kernel_rfl) rfl ?_))
        exact HG.out.mark HZ.out _ rfl rfl (fun w => Tryd.isAgg4 w) fun z' hb => ⟨rfl, hb⟩
      · have e11 : (de != 0) = true := bne_iff_ne.2 hde
        go_wp2_with (first
          | (refine wpList_load_cell rfl 22 (.tmp 7) rfl rfl (HZ.out.cell (i := 1) (j := 0) rfl rfl) (fun w => Tryd.isAgg22 w) ?_)
          | (refine wpList_load_cell rfl 3 (.tmp 12) rfl rfl (HZ.out.cell (i := 3) (j := 0) rfl rfl) (fun w => Tryd.isAgg3 w) ?_)
          | (go_at_call 16; (have _t := tkA); go_must (refine (same_any Bb Cb A2 A8 bn c2 cn c8 _ (Nat.le_trans HPB.out.2.1 (by decide)) (HZ.out.sl (i := 2) rfl HBN.out).rb HS8.out.rb).mono ?_); rw [HBC.out]; rintro e z4 ⟨rfl, hb⟩; replace HZ := Lib.hid (HZ.out.later hb); replace HZU := Lib.hid (HZU.out.trans (hb.mono HZU.out.size)); clear hb HS8 tkA _t)
          | (go_at_call 10; go_must (refine (build_any R (L.take (L.length - 1)) MA k1 mc _ (HEK.out _ HZ.out) (Nat.le_trans hk1b (by decide)) (HTB.out _ HZU.out)).mono ?_); rw [HD.out]; rintro e z3 hp; obtain ⟨A9, c9, rfl, hs9, _, hb⟩ := hp.at_ HDN.out rfl; replace HZ := Lib.hid (HZ.out.later hb); have HS9 := Lib.hid hs9; have tkB : True := trivial; clear hp hb hs9 HZU)
          | (refine wl_cell1 rfl (.tmp 6) (.tmp 121) rfl rfl (HG.out.cell' HZ.out.up) (HG.out.fz' HZ.out.up) _ rfl (by kernel_rfl) rfl ?_))
        exact HG.out.mark HZ.out _ rfl rfl (fun w => Tryd.isAgg4 w) fun z' hb => ⟨rfl, hb⟩
    case neg =>
      have e10 : (ce == 0) = false := beq_eq_false_iff_ne.2 hce
      by_cases hde : de = 0
      · have e11 : (de != 0) = false := by rw [hde]; rfl
        have HBD : Hid ((Bb == Db) = false) := Lib.hid (back_cut HB.out (by rw [HD.out, hde]) (by rw [List.length_take]; have := HKL.out; omega))
        go_wp2_with (first
          | (refine wpList_load_cell rfl 22 (.tmp 7) rfl rfl (HZ.out.cell (i := 1) (j := 0) rfl rfl) (fun w => Tryd.isAgg22 w) ?_)
          | (refine wpList_load_cell rfl 3 (.tmp 12) rfl rfl (HZ.out.cell (i := 3) (j := 0) rfl rfl) (fun w => Tryd.isAgg3 w) ?_)
          | (go_at_call 10; go_must (refine (build_any R (L.take (L.length - 1)) MA k1 mc _ (HEK.out _ HZ.out) (Nat.le_trans hk1b (by decide)) (HTB.out _ HZU.out)).mono ?_); rw [HD.out]; rintro e z3 hp; obtain ⟨A9, c9, rfl, hs9, _, hb⟩ := hp.at_ HDN.out rfl; replace HZ := Lib.hid (HZ.out.later hb); have HS9 := Lib.hid hs9; have tkB : True := trivial; clear hp hb hs9 HZU)
          | (go_at_call 16; (have _t := tkB); go_must (refine (same_any Bb Db A2 A9 bn c2 dn c9 _ (Nat.le_trans HPB.out.2.1 (by decide)) (HZ.out.sl (i := 2) rfl HBN.out).rb HS9.out.rb).mono ?_); rw [HBD.out]; rintro e z5 ⟨rfl, hb⟩; replace HZ := Lib.hid (HZ.out.later hb); clear hb HS9 tkB _t)
          | (refine wl_cell1 rfl (.tmp 6) (.tmp 121) rfl rfl (HG.out.cell' HZ.out.up) (HG.out.fz' HZ.out.up) _ rfl (by kernel_rfl) rfl ?_))
        exact HG.out.mark HZ.out _ rfl rfl (fun w => Tryd.isAgg4 w) fun z' hb => ⟨rfl, hb⟩
      · have e11 : (de != 0) = true := bne_iff_ne.2 hde
        go_wp2_with (first
          | (refine wpList_load_cell rfl 22 (.tmp 7) rfl rfl (HZ.out.cell (i := 1) (j := 0) rfl rfl) (fun w => Tryd.isAgg22 w) ?_)
          | (refine wpList_load_cell rfl 3 (.tmp 12) rfl rfl (HZ.out.cell (i := 3) (j := 0) rfl rfl) (fun w => Tryd.isAgg3 w) ?_)
          | (go_at_call 10; go_must (refine (build_any R (L.take (L.length - 1)) MA k1 mc _ (HEK.out _ HZ.out) (Nat.le_trans hk1b (by decide)) (HTB.out _ HZU.out)).mono ?_); rw [HD.out]; rintro e z3 hp; obtain ⟨A9, c9, rfl, hs9, _, hb⟩ := hp.at_ HDN.out rfl; replace HZ := Lib.hid (HZ.out.later hb); have HS9 := Lib.hid hs9; have tkB : True := trivial; clear hp hb hs9 HZU)
          | (refine wl_cell1 rfl (.tmp 6) (.tmp 121) rfl rfl (HG.out.cell' HZ.out.up) (HG.out.fz' HZ.out.up) _ rfl (by kernel_rfl) rfl ?_))
        exact HG.out.mark HZ.out _ rfl rfl (fun w => Tryd.isAgg4 w) fun z' hb => ⟨rfl, hb⟩
theorem backL_any (R R' : Int) (es : List Ent) (A : Option Addr) (n c : Nat) (w : World) (hes : Ens w A n es) (hn : n ≤ 9223372036854775807) (ht : TabAt 0 w) :
    Calls Tryd.prog 3 #[.int .i64 R, .int .i64 R', .slice A n c] w fun e z => e = .returned (.bool true) ∧ Below w.heap.size w z := by
  by_cases h : (buildE5 R (sortL (es.take 80))).2 = 0
  · exact backL_yes R R' es A n c w hes hn ht h
  · exact backL_no R R' es A n c w hes hn ht h
end Go.Proofs.YtmigjipfomfacaaDoor
