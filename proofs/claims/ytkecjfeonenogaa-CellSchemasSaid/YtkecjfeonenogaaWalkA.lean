/-
  The small functions of CellSchemas, walked: outside | out, letter, Family of both sides.
-/
import Derived.Test.YtkecjfeonenogaaRows
import Derived.Test.YtkecjfeonenogaaWords
import Derived.Deep.QuietTactic
import Derived.BigQuiet
namespace Go.Proofs.Ytkecjfeonenogaa
open Go.RowKit

set_option maxHeartbeats 400000 in
theorem outside_any (n lo hi : Int) (w : World) :
    Calls Try.prog 9 #[.int .i64 n, .int .i64 lo, .int .i64 hi] w fun e w' => e = .returned (.bool (decide (n < lo) || decide (hi < n))) ∧ w = w' := by
  by_cases h : n < lo
  · go_enter Try.func9, Try.ntmps9
    go_wp2
    go_ret
    exact ⟨by simp [h], rfl⟩
  · go_enter Try.func9, Try.ntmps9
    go_wp2
    go_ret
    exact ⟨by simp [show ¬ n < lo from by omega], rfl⟩

set_option maxHeartbeats 400000 in
theorem out_any (n lo hi : Int) (w : World) :
    Calls Try.prog 11 #[.int .i64 n, .int .i64 lo, .int .i64 hi] w fun e w' => e = .returned (.bool (decide (n < lo) || decide (hi < n))) ∧ w = w' := by
  by_cases h : n < lo
  · go_enter Try.func11, Try.ntmps11
    go_wp2
    go_ret
    exact ⟨by simp [h], rfl⟩
  · go_enter Try.func11, Try.ntmps11
    go_wp2
    go_ret
    exact ⟨by simp [show ¬ n < lo from by omega], rfl⟩

set_option maxHeartbeats 400000 in
theorem letter_any (c : Int) (w : World) :
    Calls Try.prog 13 #[.int .u8 c] w fun e w' => e = .returned (.bool (decide (97 ≤ c) && decide (c ≤ 122))) ∧ w = w' := by
  by_cases h : 97 ≤ c
  · go_enter Try.func13, Try.ntmps13
    go_wp2
    go_ret
    exact ⟨by simp [h], rfl⟩
  · go_enter Try.func13, Try.ntmps13
    go_wp2
    go_ret
    exact ⟨by simp [show ¬ 97 ≤ c from by omega], rfl⟩

theorem outside_f (n lo hi : Int) (w : World) (h : lo ≤ n) (h' : n ≤ hi) : Calls Try.prog 9 #[.int .i64 n, .int .i64 lo, .int .i64 hi] w fun e w' => e = .returned (.bool false) ∧ w = w' :=
  (outside_any n lo hi w).mono fun _ _ ⟨e, r⟩ => ⟨by rw [e]; simp [show ¬ n < lo from by omega, show ¬ hi < n from by omega], r⟩
theorem outside_t (n lo hi : Int) (w : World) (h : n < lo ∨ hi < n) : Calls Try.prog 9 #[.int .i64 n, .int .i64 lo, .int .i64 hi] w fun e w' => e = .returned (.bool true) ∧ w = w' :=
  (outside_any n lo hi w).mono fun _ _ ⟨e, r⟩ => ⟨by rw [e]; simp [h], r⟩
theorem out_f (n lo hi : Int) (w : World) (h : lo ≤ n) (h' : n ≤ hi) : Calls Try.prog 11 #[.int .i64 n, .int .i64 lo, .int .i64 hi] w fun e w' => e = .returned (.bool false) ∧ w = w' :=
  (out_any n lo hi w).mono fun _ _ ⟨e, r⟩ => ⟨by rw [e]; simp [show ¬ n < lo from by omega, show ¬ hi < n from by omega], r⟩
theorem out_t (n lo hi : Int) (w : World) (h : n < lo ∨ hi < n) : Calls Try.prog 11 #[.int .i64 n, .int .i64 lo, .int .i64 hi] w fun e w' => e = .returned (.bool true) ∧ w = w' :=
  (out_any n lo hi w).mono fun _ _ ⟨e, r⟩ => ⟨by rw [e]; simp [h], r⟩
theorem letter_t (c : Int) (w : World) (h : 97 ≤ c) (h' : c ≤ 122) : Calls Try.prog 13 #[.int .u8 c] w fun e w' => e = .returned (.bool true) ∧ w = w' :=
  (letter_any c w).mono fun _ _ ⟨e, r⟩ => ⟨by rw [e]; simp [h, h'], r⟩
theorem letter_f (c : Int) (w : World) (h : c < 97 ∨ 122 < c) : Calls Try.prog 13 #[.int .u8 c] w fun e w' => e = .returned (.bool false) ∧ w = w' :=
  (letter_any c w).mono fun _ _ ⟨e, r⟩ => ⟨by rw [e]; simp; intro; omega, r⟩

set_option maxHeartbeats 400000 in
theorem family_any (fs : List Fm) (A : Option Addr) (n c : Nat) (nm : ByteArray) (w : World) (hn : fs.length = n) (hm : n ≤ maxLen) (hr : Reads w w.heap.size 3 A n (cellsOf fs)) :
    Calls Try.prog 6 #[.agg #[.slice A n c], .string nm] w fun e w' => e = .returned (.int .i64 (famIdx fs nm 0)) ∧ Below w.heap.size w w' := by
  unfold maxLen at hm
  go_enter Try.func6, Try.ntmps6
  go_wp2
  go_loopw [10] (fun i wr => ∃ k : Nat, k ≤ n ∧ i = .int .i64 k ∧ Below w.heap.size w wr ∧ w.heap.size < wr.heap.size ∧ wr.cell? ⟨w.heap.size, 0, none⟩ = some (.slice A n c) ∧ Hid (famIdx fs nm 0 = famIdx (fs.drop k) nm k)) (fun i _ => n - (intOf i).toNat)
  case atStart => exact ⟨0, Nat.zero_le _, rfl, (Below.refl _ _).alloc (Nat.le_refl _) _, by simp, by simp, Lib.hid rfl⟩
  case round =>
    obtain ⟨k, hk, rfl, hb, hz, hc, hf⟩ := hrel
    by_cases hlt : k < n
    · obtain ⟨b, o, rfl, hbb, hcell⟩ := hr.2 (by omega)
      have hfk : fs[k]? = some (fs[k]'(by omega)) := List.getElem?_eq_getElem (by omega)
      obtain ⟨c0, c1, c2⟩ := cellsOf_at fs k _ hfk
      have h0 := (hb.cell (p := ⟨b, o + k * 3, none⟩) hbb).trans (hcell _ _ c0)
      have h1 := (hb.cell (p := ⟨b, o + k * 3 + 1, none⟩) hbb).trans (hcell _ _ c1)
      have h2 := (hb.cell (p := ⟨b, o + k * 3 + 2, none⟩) hbb).trans (hcell _ _ c2)
      go_wp2
      · have he : (fs[k].name.toList == nm.toList) = true := by assumption
        go_ret
        exact ⟨ret_int (by rw [hf.out, famIdx_hit fs nm k _ hfk he]), hb.alloc (by omega) _⟩
      · have he : (fs[k].name.toList == nm.toList) = false := by assumption
        go_roundw
        case rel => exact ⟨k + 1, by omega, by go_num, hb.alloc (by omega) _, by simp; omega, (World.cell?_alloc_lt _ _ _ hz).trans hc, Lib.hid (by rw [hf.out, famIdx_miss fs nm k _ hfk he])⟩
        case measure => simp [intOf]; omega
    · go_wp2
      go_ret
      exact ⟨ret_int (by rw [hf.out, famIdx_end fs nm k (by omega)]), hb⟩

set_option maxHeartbeats 400000 in
theorem rfamily_any (fs : List Fm) (A : Option Addr) (n c : Nat) (nm : ByteArray) (w : World) (hn : fs.length = n) (hm : n ≤ maxLen) (hr : Reads w w.heap.size 3 A n (cellsOf fs)) :
    Calls Try.prog 8 #[.agg #[.slice A n c], .string nm] w fun e w' => e = .returned (.int .i64 (famIdx fs nm 0)) ∧ Below w.heap.size w w' := by
  unfold maxLen at hm
  go_enter Try.func8, Try.ntmps8
  go_wp2
  go_loop [5] (fun i => ∃ k : Nat, k ≤ n ∧ i = .int .i64 k ∧ Hid (famIdx fs nm 0 = famIdx (fs.drop k) nm k)) (fun i => n - (intOf i).toNat)
  case atStart => exact ⟨0, Nat.zero_le _, rfl, Lib.hid rfl⟩
  case round =>
    obtain ⟨k, hk, rfl, hf⟩ := hrel
    by_cases hlt : k < n
    · obtain ⟨b, o, rfl, hbb, hcell⟩ := hr.2 (by omega)
      have hfk : fs[k]? = some (fs[k]'(by omega)) := List.getElem?_eq_getElem (by omega)
      obtain ⟨c0, c1, c2⟩ := cellsOf_at fs k _ hfk
      have h0 := hcell _ _ c0
      have hb : w.heap.size ≠ b := by omega
      go_wp2
      · have he : (fs[k].name.toList == nm.toList) = true := by assumption
        go_ret
        exact ⟨ret_int (by rw [hf.out, famIdx_hit fs nm k _ hfk he]), (Below.refl _ _).alloc (by omega) _⟩
      · have he : (fs[k].name.toList == nm.toList) = false := by assumption
        go_round
        case rel => exact ⟨k + 1, by omega, by go_num, Lib.hid (by rw [hf.out, famIdx_miss fs nm k _ hfk he])⟩
        case measure => simp [intOf]; omega
    · go_wp2
      go_ret
      exact ⟨ret_int (by rw [hf.out, famIdx_end fs nm k (by omega)]), (Below.refl _ _).alloc (by omega) _⟩

end Go.Proofs.Ytkecjfeonenogaa
