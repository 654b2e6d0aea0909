/-
  The statements' grown, copied, walked.
-/
import Derived.Test.YthjjihipodhkiaaKit7
import Derived.Test.YthjjihipodhkiaaBloomU
namespace Go.Proofs.Ythjjihipodhkiaa
open Go.RowKit

set_option maxRecDepth 100000 in
set_option maxHeartbeats 1000000 in
theorem grown_any (base : Nat) (l : List UInt8) (A : Option Addr) (n c : Nat) (m : UInt8) (w : World) (ho : OwnB 5 base w A c l) (hl : l.length = n) (hn : n ≤ 1099511627776) (hbase : base ≤ w.heap.size) :
    Calls Try.prog 19 #[.slice A n c, .int .u8 m.toNat] w fun e w' => ∃ A' c', e = .returned (.slice A' (2 * n + 70) c') ∧ OwnB 5 base w' A' c' (l ++ List.replicate (n + 70) m) ∧ OwnB 5 base w' A c l ∧ w.grownBy w' (A.map (·.block)) ∧ (∀ a, A' = some a → A.map (·.block) = some a.block ∨ w.heap.size ≤ a.block) := by
  have HO := Lib.hid ho
  have HL := Lib.hid hl
  clear ho hl
  obtain ⟨row, hrow⟩ : ∃ row, row = A.map (·.block) := ⟨_, rfl⟩
  have hOB : Hid ((Value.slice A n c).ownBlock = row) := Lib.hid (by rw [hrow]; cases A <;> rfl)
  rw [← hrow]
  have HROW := Lib.hid hrow
  clear hrow
  go_enter Try.func19, Try.ntmps19
  go_wp2
  go_loopw [5, 6] (fun v i wr => ∃ (k : Nat) (xs : List UInt8), k ≤ n + 70 ∧ i = .int .i64 k ∧ Hid (xs = l ++ List.replicate k m) ∧ Hid (xs.length = n + k) ∧ wr.ownsRow base 5 1 v (n + k) (u8s xs) ∧ Hid (OwnB 5 base wr A c l) ∧ Hid (w.grownBy wr row) ∧ Hid (v.ownBlock = row ∨ ∀ g, v.ownBlock = some g → w.heap.size ≤ g)) (fun _ i _ => n + 70 - (intOf i).toNat)
  case atStart => exact ⟨0, l, by omega, rfl, Lib.hid (by simp), Lib.hid (by rw [HL.out]; rfl), by have h := HO.out; unfold OwnB at h; rw [HL.out] at h; exact h, HO, Lib.hid (World.grownBy.refl w _), Lib.hid (.inl hOB.out)⟩
  case round =>
    obtain ⟨k, xs, hk, rfl, HX, HXL, hown, HO2, HG, HV⟩ := hrel
    by_cases hlt : k < n + 70
    case neg =>
      obtain rfl : k = n + 70 := by omega
      obtain ⟨A', c', e', _, _, _, _⟩ := own_slice hown
      subst e'
      have HF : Hid (∃ A'' c'', (Ending.returned (.slice A' (n + (n + 70)) c')) = .returned (.slice A'' (2 * n + 70) c'') ∧ OwnB 5 base wr A'' c'' (l ++ List.replicate (n + 70) m) ∧ OwnB 5 base wr A c l ∧ w.grownBy wr row ∧ (∀ a, A'' = some a → row = some a.block ∨ w.heap.size ≤ a.block)) := Lib.hid (by
        refine ⟨A', c', by rw [show n + (n + 70) = 2 * n + 70 from by omega], ?_, HO2.out, HG.out, fun a ha => ?_⟩
        · rw [← HX.out]
          show World.ownsRow _ _ _ _ _ _ _
          rw [HXL.out]; exact hown
        · subst ha
          rcases HV.out with h | h
          · exact .inl h.symm
          · exact .inr (h a.block rfl))
      clear hown
      go_wp2
      go_ret
      exact HF.out
    obtain ⟨v, hv⟩ : ∃ v, v = u5 := ⟨_, rfl⟩
    rw [← hv] at hown HV ⊢
    have HN : Hid (xs ++ [m] = l ++ List.replicate (k + 1) m) := Lib.hid (by rw [HX.out, List.replicate_succ', List.append_assoc])
    have HNL : Hid ((xs ++ [m]).length = n + (k + 1)) := Lib.hid (by rw [List.length_append, HXL.out]; rfl)
    have HB0 : Hid (base ≤ wr.heap.size) := Lib.hid (Nat.le_trans hbase HG.out.size)
    have HOW := Lib.hid hown
    have HXL2 : Hid (l.length ≤ n + k) := Lib.hid (by rw [HL.out]; omega)
    clear hv hown
    go_wp2_with (at_builtin; go_must (refine wpList_append_cells _ rfl (.tmp 15) (.tmp 17) rfl Try.u8s' base v (n + k) (u8s xs) rfl (HOW.out.alloc _) (wr.heap.size + 1) (some ⟨wr.heap.size, 0, none⟩) 1 1 (u8s [m]) rfl (by exact reads_lit wr _ [m] _ _ rfl) (u8s_one _) (by unfold maxLen; omega) (by omega) (by have := HB0.out; simp; omega) ?_); intro v1 w1 hown1 hg1 hat1 hold1 hcell1; have HO3 := Lib.hid (own_under ((HO2.out.later ((Below.refl wr.heap.size wr).alloc (Nat.le_refl _) _))) (HOW.out.alloc _) hg1 hold1 HXL2.out); have HG1 := Lib.hid (grown_keep HG.out (grown_trans (World.grownBy_alloc wr _ _) hg1) HV.out); have HV1 := Lib.hid (grown_at HV.out hat1 (Nat.le_trans HG.out.size (by simp))); rw [← u8s_append] at hown1; have HW1 := Lib.hid hown1; clear hown1 hg1 hat1 hold1 hcell1)
    have hW := HW1.out
    clear HW1
    go_roundw
    case rel => exact ⟨k + 1, xs ++ [m], by omega, by go_num, HN, HNL, hW, HO3, HG1, HV1⟩
    case measure => simp [intOf]; omega

theorem grown_of (base : Nat) (l : List UInt8) (A : Option Addr) (n c : Nat) (m : UInt8) (z : Int) (hz : z = (m.toNat : Int)) (w : World) (ho : OwnB 5 base w A c l) (hl : l.length = n) (hn : n ≤ 1099511627776) (hbase : base ≤ w.heap.size) :
    Calls Try.prog 19 #[.slice A n c, .int .u8 z] w fun e w' => ∃ A' c', e = .returned (.slice A' (2 * n + 70) c') ∧ OwnB 5 base w' A' c' (l ++ List.replicate (n + 70) m) ∧ OwnB 5 base w' A c l ∧ w.grownBy w' (A.map (·.block)) ∧ (∀ a, A' = some a → A.map (·.block) = some a.block ∨ w.heap.size ≤ a.block) := by
  subst hz; exact grown_any base l A n c m w ho hl hn hbase

end Go.Proofs.Ythjjihipodhkiaa
