/-
  bloom.Ones, bloom.Union, walked.
-/
import Derived.Test.YthjjihipodhkiaaBloomW4
import Derived.Test.YthjjihipodhkiaaBloomP2
namespace Go.Proofs.Ythjjihipodhkiaa
open Go.RowKit

set_option maxRecDepth 100000 in
set_option maxHeartbeats 1000000 in
theorem ones_any (l : List UInt8) (A : Option Addr) (n c : Nat) (w : World) (hm : n ≤ 9223372036854775807) (hnc : n ≤ c) (hr : RB w w.heap.size A n l) :
    Calls Try.prog 17 #[.slice A n c] w fun e w' => e = .returned (.int .i64 (onesN l)) ∧ Below w.heap.size w w' := by
  have HR : Hid (∀ w', Below w.heap.size w w' → RB w' w'.heap.size A n l) := Lib.hid fun w' h => hr.later h
  have hl := hr.len
  cases hf : isF l
  · have HF := Lib.hid hf
    have HE : Hid (onesN l = 0) := Lib.hid (by unfold onesN; rw [hf]; rfl)
    clear hf hl
    go_enter Try.func17, Try.ntmps17
    go_wp2_with (go_at_call 35; refine (read_any l A n c _ hm hr).mono ?_; rintro e w1 ⟨rfl, hb1⟩; rw [HF.out])
    go_ret
    exact ⟨ret_int (by rw [HE.out]; rfl), hb1.alloc hb1.size _⟩
  · have HF := Lib.hid hf
    have HE : Hid (onesN l = popsN (l.drop 6)) := Lib.hid (by unfold onesN; rw [hf]; rfl)
    have hq := of_decide_eq_true hf
    rw [hl] at hq
    obtain ⟨q1, q2, q3, q4, q5, q6⟩ := hq
    have hn6 : 6 < n := by omega
    have hn7 : n ≤ 2621446 := by omega
    obtain ⟨b, o, _, rfl, hb, _, _⟩ := hr.at_ (k := 0) (by omega)
    have HL := Lib.hid hl
    clear hf hl q1 q2 q3 q4 q5 q6
    go_enter Try.func17, Try.ntmps17
    go_wp2_with (go_at_call 35; refine (read_any l _ n c _ hm hr).mono ?_; rintro e w1 ⟨rfl, hb1⟩; rw [HF.out]; have HB1 := Lib.hid (hb1.alloc hb1.size (.cells #[.int .i64 (shapeP l), .int .u32 (shapeM l)] 58)))
    have HC : Hid (∀ (k : Nat) (x : UInt8), (l.drop 6)[k]? = some x → (w1.alloc (.cells #[.int .i64 (shapeP l), .int .u32 (shapeM l)] 58)).cell? ⟨b, o + 6 + k, none⟩ = some (.int .u8 (x.toNat : Int))) := Lib.hid fun k x hx => by
      rw [List.getElem?_drop] at hx
      rw [Nat.add_assoc]
      exact (HR.out _ HB1.out).cell hx
    have HD : Hid ((l.drop 6).length = n - 6) := Lib.hid (by rw [List.length_drop, HL.out])
    go_loop [5, 18] (fun s i => ∃ k : Nat, k ≤ n - 6 ∧ i = .int .i64 k ∧ ∃ t : Nat, t ≤ 8 * k ∧ s = .int .i64 t ∧ Hid (t = popsN ((l.drop 6).take k))) (fun _ i => (n - 6) - (intOf i).toNat)
    case atStart => exact ⟨0, Nat.zero_le _, rfl, 0, Nat.zero_le _, rfl, Lib.hid rfl⟩
    case round =>
      obtain ⟨k, hk, rfl, t, ht, rfl, HT⟩ := hrel
      by_cases hlt : k < n - 6
      case neg =>
        have e : Hid (t = onesN l) := Lib.hid (by rw [HT.out, HE.out, take_all (by rw [HD.out]; omega)])
        go_wp2
        go_ret
        exact ⟨ret_int (by rw [e.out]), HB1.out⟩
      obtain ⟨x, hx⟩ : ∃ x, (l.drop 6)[k]? = some x := ⟨_, List.getElem?_eq_getElem (by rw [HD.out]; exact hlt)⟩
      have hcx := HC.out k x hx
      have HN : Hid (popsN ((l.drop 6).take (k + 1)) = popsN ((l.drop 6).take k) + popN x.toNat) := Lib.hid (by rw [take_snoc hx, popsN_snoc])
      have hp8 := popN_le x.toNat
      have hx8 := x.toNat_lt
      clear hx
      go_wp2
      go_loop [5, 7] (fun s c => ∃ y : Nat, y < 256 ∧ c = .int .u8 y ∧ ∃ u : Nat, u ≤ t + 8 ∧ s = .int .i64 u ∧ Hid (u + popN y = t + popN x.toNat)) (fun _ c => (intOf c).toNat)
      case atStart => exact ⟨x.toNat, by omega, rfl, t, by omega, rfl, Lib.hid rfl⟩
      case round =>
        obtain ⟨y, hy, rfl, u, hu, rfl, HU⟩ := hrel
        by_cases h0 : 0 < y
        · have HS := Lib.hid (popN_step y hy h0)
          have HL2 := popN_less y hy h0
          have HA : Hid (bits .and .u8 (y : Int) ((y : Int) - 1) = ((y &&& (y - 1) : Nat) : Int)) := Lib.hid (and_walk y hy h0)
          have hu7 : u + popN y = t + popN x.toNat := HU.out
          have hp1 : popN (y &&& (y - 1)) + 1 = popN y := HS.out
          have hu8 : u + 1 ≤ t + 8 := by omega
          clear hu7 hp1
          go_wp2
          go_round
          case rel => exact ⟨y &&& (y - 1), by omega, by rw [HA.out], u + 1, hu8, by go_num, Lib.hid (by have := HU.out; have := HS.out; omega)⟩
          case measure => rw [HA.out]; simp [intOf]; omega
        · have HY : Hid (u = popsN ((l.drop 6).take (k + 1))) := Lib.hid (by
            have := HU.out
            have hy0 : y = 0 := by omega
            rw [hy0, popN_zero] at this
            rw [HN.out, ← HT.out]; omega)
          have hu8 : u ≤ 8 * (k + 1) := by omega
          go_wp2
          go_round
          case rel => exact ⟨k + 1, by omega, by go_num, u, hu8, rfl, HY⟩
          case measure => simp [intOf]; omega
end Go.Proofs.Ythjjihipodhkiaa
