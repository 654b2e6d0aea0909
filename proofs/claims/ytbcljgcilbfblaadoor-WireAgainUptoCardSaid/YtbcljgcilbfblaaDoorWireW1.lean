/-
  wire.Sum, walked.
-/
import Derived.Test.YtbcljgcilbfblaaDoorRows
import Derived.Test.YtbcljgcilbfblaaDoorWireP
import Derived.Test.YtbcljgcilbfblaaDoorKit4
namespace Go.Proofs.YtbcljgcilbfblaaDoor
open Go.RowKit

set_option maxRecDepth 100000 in
set_option maxHeartbeats 1000000 in
theorem sum_any (ks : List (List UInt8)) (A : Option Addr) (n c : Nat) (w : World) (hn : n ≤ 9223372036854775807) (hr : RBs w w.heap.size A n ks) (ht : TabAt 0 w) :
    Calls Tryd.prog 20 #[.slice A n c] w fun e w' => e = .returned (.int .u32 (sumL ks.flatten)) ∧ w = w' := by
  have hlen := hr.len
  have HT := Lib.hid ht
  have HR := Lib.hid hr
  have hsg : IntKind.u32.signed = false := rfl
  clear hr ht
  go_enter Tryd.func20, Tryd.ntmps20
  go_wp2
  go_loop [3, 10] (fun s i => ∃ k : Nat, k ≤ n ∧ i = .int .i64 k ∧ ∃ C : Nat, C < 4294967296 ∧ s = .int .u32 C ∧ Hid (C = crcL 4294967295 (ks.take k).flatten)) (fun _ i => n - (intOf i).toNat)
  case atStart => exact ⟨0, Nat.zero_le _, rfl, 4294967295, by omega, rfl, Lib.hid rfl⟩
  case round =>
    obtain ⟨k, hk, rfl, C, hC, rfl, HC⟩ := hrel
    by_cases hlt : k < n
    case neg =>
      have E : Hid (bits .xor .u32 IntKind.u32.max (C : Int) = (sumL ks.flatten : Int)) := Lib.hid (by
        rw [not_u32 hC, HC.out, take_all (by omega)]; rfl)
      go_wp2
      go_ret
      exact ⟨by rw [← E.out]; rfl, rfl⟩
    obtain ⟨b, o, x, a, ck, rfl, hb, hx, hcell, hxc, hck, _, hrb⟩ := HR.out.at_ hlt
    go_wp2
    go_loop [3, 16] (fun s i => ∃ j : Nat, j ≤ x.length ∧ i = .int .i64 j ∧ ∃ D : Nat, D < 4294967296 ∧ s = .int .u32 D ∧ Hid (D = crcL C (x.take j))) (fun _ i => x.length - (intOf i).toNat)
    case atStart => exact ⟨0, Nat.zero_le _, rfl, C, hC, rfl, Lib.hid rfl⟩
    case round =>
      obtain ⟨j, hj, rfl, D, hD, rfl, HD⟩ := hrel
      by_cases hjl : j < x.length
      case neg =>
        have HN : Hid (D = crcL 4294967295 (ks.take (k + 1)).flatten) := Lib.hid (by
          rw [HD.out, take_all (by omega), HC.out, take_snoc hx, List.flatten_append, crcL_app]; simp)
        go_wp2
        go_round
        case rel => exact ⟨k + 1, by omega, by go_num, D, hD, rfl, HN⟩
        case measure => simp [intOf]; omega
      obtain ⟨b2, o2, y, rfl, hb2, hy, hcy⟩ := hrb.at_ hjl
      have e1 := nib1_walk D y
      have e2 := mid_walk D y hD
      have e3 := nib2_walk D y
      have e4 := crcB_walk D y hD
      have t1 := HT.out.2 _ (nib1_lt D y)
      have t2 := HT.out.2 _ (nib2_lt D y)
      have l1 := nib1_lt D y
      have l2 := nib2_lt D y
      go_wp2
      go_round
      case rel => exact ⟨j + 1, by omega, by go_num, crcB D y, crcB_lt hD y, rfl, Lib.hid (by rw [take_snoc hy, crcL_snoc, ← HD.out])⟩
      case measure => simp [intOf]; omega
end Go.Proofs.YtbcljgcilbfblaaDoor
