/-
  The statements' 'turned', walked.
-/
import Derived.Test.YtkkfiffgldhahaaDoorWireW7
import Derived.Test.YtkkfiffgldhahaaDoorWireP3
import Derived.StillTailTactics
namespace Go.Proofs.YtkkfiffgldhahaaDoor
open Go.RowKit

theorem flipB_set {l : List UInt8} {Z : Nat} (h : Z < 8 * l.length) : flipB l (Z : Int) = l.set (Z / 8) (flipU (l[Z / 8]?.getD 0) (Z % 8)) := by
  unfold flipB
  rw [if_pos (by omega), Int.toNat_natCast]
theorem OwnB.kept {T : TypeId} {base : Nat} {w w' : World} {A : Option Addr} {c g : Nat} {l : List UInt8} (h : OwnB T base w A c l) (hg : w.grownBy w' (some g)) (hlt : g < base) : OwnB T base w' A c l := by
  refine World.ownsRow.kept h hg ?_
  cases A with
  | none => exact .inl rfl
  | some a =>
    refine .inr fun e => ?_
    have := (World.ownsRow.lt h a.block rfl).1
    injection e with e
    omega
theorem grown_drew' {a b : World} {r : Option Nat} (h : a.grownBy b r) : a.grownBy b.drew r := ⟨h.os, h.tape, h.output, h.size, h.block⟩
theorem u8s_set (l : List UInt8) (k : Nat) (x : UInt8) : (u8s l).set k (u8v x) = u8s (l.set k x) := by
  unfold u8s
  rw [List.map_set]

set_option maxRecDepth 100000 in
set_option maxHeartbeats 4000000 in
/-- A row of the call's own, bits of it turned over. -/
theorem turned_any (l : List UInt8) (zs : List Int) (g c zb zo m d : Nat) (w : World) (base : Nat) (hn : l.length ≤ 1048588) (hm : m ≤ 1048576) (ho : OwnB 5 base w (some ⟨g, 0, none⟩) c l)
    (hz : zs.length = m) (hzb : zb < w.heap.size) (hzg : zb ≠ g) (hzc : ∀ i z, zs[i]? = some z → w.cell? ⟨zb, zo + i, none⟩ = some (.int .i64 z)) (hzr : ∀ z ∈ zs, -9223372036854775808 ≤ z ∧ z < 9223372036854775808) :
    Calls Tryd.prog 21 #[.slice (some ⟨g, 0, none⟩) l.length c, .slice (some ⟨zb, zo, none⟩) m d] w fun e w' => e = .returned (.bool (!(l == flipsB l zs))) ∧ OwnB 5 base w' (some ⟨g, 0, none⟩) c (flipsB l zs) ∧ w.grownBy w' (some g) := by
  obtain ⟨n, hnl⟩ : ∃ n, n = l.length := ⟨_, rfl⟩
  rw [← hnl] at hn ⊢
  have HN := Lib.hid hnl
  have HO := Lib.hid ho
  have HZC := Lib.hid hzc
  have HZR := Lib.hid hzr
  have HZL := Lib.hid hz
  have f1 : Hid (∀ x : List UInt8, [x].flatten = x) := Lib.hid fun x => by simp
  have HS := Lib.hid (Sl.own ho)
  rw [← hnl] at HS
  have hgw : g < w.heap.size := (World.ownsRow.lt ho g rfl).2
  clear ho hzc hzr hz hnl
  go_enter Tryd.func21, Tryd.ntmps21
  go_wp2_with (go_at_call 23; go_must (refine (join_any [l] _ 1 1 _ (by omega) (HS.out.one _ _) (by rw [f1.out, ← HN.out]; omega)).mono ?_); rintro e w1 hp; rw [f1.out] at hp; obtain ⟨A1, c1, rfl, hS1, hO1, hb1⟩ := hp.at_ HN.out.symm; have HOW := Lib.hid hO1; have HB1 := Lib.hid (((Below.refl w.heap.size w).alloc (Nat.le_refl _) (.cells #[.slice (some ⟨g, 0, none⟩) n c] 22)).trans (hb1.mono (by simp))); have HS1 := Lib.hid hS1; clear hp hS1 hb1 hO1)
  have HO1 := Lib.hid (OwnB.later HO.out HB1.out)
  go_loopw [6] (fun i wr => ∃ k : Nat, k ≤ m ∧ i = .int .i64 k ∧ OwnB 5 base wr (some ⟨g, 0, none⟩) c (flipsB l (zs.take k)) ∧ w1.grownBy wr (some g)) (fun i _ => m - (intOf i).toNat)
  case atStart => exact ⟨0, Nat.zero_le _, rfl, HO1.out, World.grownBy.refl _ _⟩
  case round =>
    obtain ⟨k, hk, rfl, hO, hG⟩ := hrel
    by_cases hlt : k < m
    case neg =>
      have HE : Hid (flipsB l (zs.take k) = flipsB l zs) := Lib.hid (by rw [take_all (by rw [HZL.out]; omega)])
      have HFL : Hid (Sl wr (some ⟨g, 0, none⟩) n c (flipsB l zs)) := Lib.hid (by
        rw [HE.out] at hO
        have := Sl.own hO
        rwa [flipsB_length, ← HN.out] at this)
      have HWA := Lib.hid (Sl.own (HOW.out.kept hG (by simp; omega)))
      have HEND := Lib.hid (And.intro (HE.out ▸ hO) (grown_trans (below_grown HB1.out (some g)) hG))
      clear hO hG
      go_wp2_with (go_at_call 24; go_must (refine (same_any l (flipsB l zs) A1 (some ⟨g, 0, none⟩) n c1 n c _ (HN.out ▸ HWA.out.rb) HFL.out.rb).mono ?_); rintro e wn ⟨rfl, rfl⟩)
      go_ret
      exact ⟨rfl, HEND.out⟩
    obtain ⟨z, hzk⟩ : ∃ z, zs[k]? = some z := ⟨_, List.getElem?_eq_getElem (by rw [HZL.out]; exact hlt)⟩
    have hcz : wr.cell? ⟨zb, zo + k, none⟩ = some (.int .i64 z) := hG.cell (by rw [← HZC.out k z hzk]; exact HB1.out.cell (p := ⟨zb, zo + k, none⟩) hzb) (by simpa using hzg)
    have hzr := HZR.out z (List.mem_of_getElem? hzk)
    have HNX : Hid (flipsB l (zs.take (k + 1)) = flipB (flipsB l (zs.take k)) z) := Lib.hid (by rw [take_snoc hzk, flipsB_snoc])
    obtain ⟨l', hl'⟩ : ∃ x, x = flipsB l (zs.take k) := ⟨_, rfl⟩
    have HL' : Hid (l'.length = n) := Lib.hid (by rw [hl', flipsB_length]; exact HN.out.symm)
    rw [← hl'] at HNX hO
    clear hl' hzk
    by_cases hin : 0 ≤ z ∧ z < 8 * (n : Int)
    case neg =>
      have HF : Hid (flipB l' z = l') := Lib.hid (by unfold flipB; rw [if_neg (by rw [HL'.out]; exact hin)])
      have HO2 : Hid (OwnB 5 base wr (some ⟨g, 0, none⟩) c (flipsB l (zs.take (k + 1)))) := Lib.hid (by rw [HNX.out, HF.out]; exact hO)
      have HG := Lib.hid hG
      clear hO hG
      by_cases h0 : 0 ≤ z
      · have hd : decide ((0 : Int) ≤ z) = true := decide_eq_true h0
        have hd2 : decide (z < 8 * (n : Int)) = false := decide_eq_false (by omega)
        clear hin
        go_wp2
        go_roundw
        case rel => exact ⟨k + 1, by omega, by go_num, HO2.out, HG.out⟩
        case measure => simp [intOf]; omega
      · have hd : decide ((0 : Int) ≤ z) = false := decide_eq_false h0
        clear hin
        go_wp2
        go_roundw
        case rel => exact ⟨k + 1, by omega, by go_num, HO2.out, HG.out⟩
        case measure => simp [intOf]; omega
    obtain ⟨Z, rfl⟩ : ∃ Z : Nat, z = (Z : Int) := ⟨z.toNat, by omega⟩
    have hZ : Z < 8 * n := by omega
    have hZ8 : Z / 8 < n := by omega
    obtain ⟨D, hD⟩ : ∃ D, D = Z / 8 := ⟨_, rfl⟩
    obtain ⟨T, hT⟩ : ∃ T, T = Z % 8 := ⟨_, rfl⟩
    have HF : Hid (flipB l' (Z : Int) = l'.set D (flipU (l'[D]?.getD 0) T)) := Lib.hid (by rw [flipB_set (by rw [HL'.out]; exact hZ), hD, hT])
    have hDn : D < n := by omega
    have hT8 : T < 8 := by omega
    have r1 : IntKind.i64.wrap ((Z : Int) / 8) = (D : Int) := by rw [i64_sum (by omega) (by omega)]; omega
    have r2 : (Z : Int).tmod 8 = (T : Int) := by rw [Int.tmod_eq_emod_of_nonneg (by omega)]; omega
    have r3 : (0 : Int) ≤ (T : Int) := by omega
    obtain ⟨x, hx⟩ : ∃ x, l'[D]? = some x := ⟨_, List.getElem?_eq_getElem (by rw [HL'.out]; exact hDn)⟩
    have hcx : wr.cell? ⟨g, D, none⟩ = some (.int .u8 (x.toNat : Int)) := (World.ownsRow.cellAt hO D (by rw [HL'.out]; omega)).trans (u8s_at hx)
    have hfr : wr.frozen? ⟨g, D, none⟩ = false := World.ownsRow.frozenAt hO _
    have q1 : IntKind.i64.wrap (8 * (n : Int)) = 8 * (n : Int) := i64_sum (by omega) (by omega)
    have HFW := Lib.hid (flip_walk x T hT8)
    have HX := Lib.hid hx
    have hst := World.ownsRow.stored hO D (u8v (flipU x T))
    rw [u8s_set] at hst
    have HST := Lib.hid hst
    clear hst hx hD hT hZ8
    go_wp2_with fail
    go_still_tail 22, (by kernel_rfl)
    change wpList _ _ _ _ _ wr.drew
    go_wp2
    have HG := Lib.hid hG
    clear hO hG
    go_roundw
    case rel =>
      refine ⟨k + 1, by omega, by go_num, ?_, ?_⟩
      · rw [HNX.out, HF.out, HX.out]
        have h := HST.out.1
        unfold u8v at h
        rw [← HFW.out] at h
        unfold OwnB
        rw [show (l'.set D (flipU ((some x).getD 0) T)).length = l'.length from by simp]
        exact h
      · have h := HST.out.2
        unfold u8v at h
        rw [← HFW.out] at h
        exact grown_drew' (grown_trans HG.out h)
    case measure => simp [intOf]; omega
end Go.Proofs.YtkkfiffgldhahaaDoor
