/-
  bloom.halves, walked.
-/
import Derived.Test.YthjjihipodhkiaaRows
import Derived.Test.YthjjihipodhkiaaBloomP
namespace Go.Proofs.Ythjjihipodhkiaa
open Go.RowKit

set_option maxRecDepth 100000 in
set_option maxHeartbeats 400000 in
theorem halves_any (l : List UInt8) (A : Option Addr) (n c : Nat) (w : World) (hm : n ≤ 9223372036854775807) (hr : RB w w.heap.size A n l) :
    Calls Try.prog 43 #[.slice A n c] w fun e w' => e = .returned (.agg #[.int .u32 (hHi l), .int .u32 (hLo l)]) ∧ Below w.heap.size w w' := by
  go_enter Try.func43, Try.ntmps43
  go_wp2
  go_loop [3, 8] (fun h i => ∃ k : Nat, k ≤ n ∧ i = .int .i64 k ∧ ∃ H : Nat, h = .int .u64 H ∧ Hid (H = hashN (l.take k))) (fun _ i => n - (intOf i).toNat)
  case atStart => exact ⟨0, Nat.zero_le _, rfl, hashN (l.take 0), rfl, Lib.hid rfl⟩
  case round =>
    obtain ⟨k, hk, rfl, H, rfl, hH⟩ := hrel
    by_cases hlt : k < n
    · obtain ⟨b, o, x, rfl, hb, hx, hc⟩ := hr.at_ hlt
      have hne : w.heap.size ≠ b := by omega
      have hs : Hid (((hStep H x : Nat) : Int) = IntKind.u64.wrap (bits .xor .u64 (H : Int) (IntKind.u64.wrap (x.toNat : Int)) * 1099511628211)) := Lib.hid (hstep_walk H x (by rw [hH.out]; exact hashN_lt _)).symm
      go_wp2
      go_round
      case rel => exact ⟨k + 1, by omega, by go_num, hStep H x, by rw [hs.out], Lib.hid (by rw [take_snoc hx, hashN_snoc, ← hH.out])⟩
      case measure => simp [intOf]; omega
    · have e : H = hashN l := by rw [hH.out, take_all (by rw [hr.len]; omega)]
      have E := Lib.hid e
      have h1 : ((hHi l : Nat) : Int) = (H : Int) / 4294967296 % 4294967296 := by
        have := hHi_lt l; rw [hHi_walk, e]; unfold hHi at this ⊢; omega
      have h2 : ((hLo l : Nat) : Int) = bits .or .u32 ((H : Int) % 4294967296) 1 := by rw [hLo_walk, e]; rfl
      have H1 := Lib.hid h1
      have H2 := Lib.hid h2
      clear e h1 h2
      go_wp2
      refine bodyPost_ret (v := .agg #[.int .u32 (hHi l), .int .u32 (hLo l)]) ?_ rfl ⟨rfl, (Below.refl _ _).alloc (Nat.le_refl _) _⟩
      rw [H1.out, H2.out]
      simp [results, Try.results43, go_sem]
end Go.Proofs.Ythjjihipodhkiaa
