/-
  The reference's laid, walked; lists of bits.
-/
import Derived.Test.YthjjihipodhkiaaBloomR1
import Derived.Test.YthjjihipodhkiaaBloomU
import Derived.Test.YthjjihipodhkiaaKit8
namespace Go.Proofs.Ythjjihipodhkiaa
open Go.RowKit

def bools (l : List Bool) : List Value := l.map Value.bool
theorem bools_len (l : List Bool) : (bools l).length = l.length := by simp [bools]
theorem bools_app (a b : List Bool) : bools (a ++ b) = bools a ++ bools b := by simp [bools]
theorem bools_one (l : List Bool) : ∀ u ∈ bools l, u.oneCell' = true := by
  intro u hu
  obtain ⟨c, _, rfl⟩ := List.mem_map.1 hu
  rfl
theorem bools_at {l : List Bool} {k : Nat} {c : Bool} (h : l[k]? = some c) : (bools l)[k]? = some (.bool c) := by simp [bools, h]
theorem bools_set (l : List Bool) (k : Nat) (b : Bool) : (bools l).set k (.bool b) = bools (l.set k b) := by unfold bools; rw [List.map_set]

/-- A byte out of its bits, so far. -/
def accB (f : Nat → Bool) : Nat → Nat
  | 0 => 0
  | k + 1 => 2 * accB f k + (f k).toNat
theorem accB_lt (f : Nat → Bool) : ∀ k, accB f k < 2 ^ k
  | 0 => by simp [accB]
  | k + 1 => by
    have := accB_lt f k
    have h : (f k).toNat ≤ 1 := Bool.toNat_le _
    show 2 * accB f k + (f k).toNat < _
    rw [Nat.pow_succ]; omega
theorem accB_le (f : Nat → Bool) {k : Nat} (h : k ≤ 8) : accB f k < 256 := by
  have h1 := accB_lt f k
  have h2 : 2 ^ k ≤ 2 ^ 8 := Nat.pow_le_pow_right (by decide) h
  have h3 : (2 : Nat) ^ 8 = 256 := by decide
  omega
theorem acc8 : ∀ b0 b1 b2 b3 b4 b5 b6 b7 : Bool, 2 * (2 * (2 * (2 * (2 * (2 * (2 * (2 * 0 + b0.toNat) + b1.toNat) + b2.toNat) + b3.toNat) + b4.toNat) + b5.toNat) + b6.toNat) + b7.toNat = pack8 b0 b1 b2 b3 b4 b5 b6 b7 := by decide +kernel
theorem accB_pack (f : Nat → Bool) : UInt8.ofNat (accB f 8) = packB f := by
  show UInt8.ofNat (2 * (2 * (2 * (2 * (2 * (2 * (2 * (2 * 0 + (f 0).toNat) + (f 1).toNat) + (f 2).toNat) + (f 3).toNat) + (f 4).toNat) + (f 5).toNat) + (f 6).toNat) + (f 7).toNat) = _
  rw [acc8]; rfl
/-- A filter's bytes, so far. -/
def bodyTo (p m : Nat) (S : Nat → Bool) (q : Nat) : List UInt8 := headB p m ++ (List.range q).map fun j => packB fun t => S (8 * j + t)
theorem bodyTo_len (p m : Nat) (S : Nat → Bool) (q : Nat) : (bodyTo p m S q).length = 6 + q := by simp [bodyTo, headB]; omega
theorem bodyTo_succ (p m : Nat) (S : Nat → Bool) (q : Nat) : bodyTo p m S (q + 1) = bodyTo p m S q ++ [packB fun t => S (8 * q + t)] := by simp [bodyTo, List.range_succ]
def bitOf (bs : List Bool) : Nat → Bool := fun i => bs[i]?.getD false
theorem u8v_modR (s : Nat) : u8v (UInt8.ofNat s) = .int .u8 ((s : Int) % 256) := by
  unfold u8v
  rw [UInt8.toNat_ofNat', Int.natCast_emod]; rfl

set_option maxRecDepth 100000 in
set_option maxHeartbeats 2000000 in
theorem laid_any (p : Nat) (bs : List Bool) (A : Option Addr) (n c : Nat) (w : World) (hp : p ≤ 255) (hn8 : n % 8 = 0) (hn : n ≤ 20971520) (hr : Reads w w.heap.size 1 A n (bools bs)) :
    Calls Try.prog 41 #[.int .i64 p, .slice A n c] w (BytesPost 5 (filterB p n (bitOf bs)) w) := by
  have hbl : bs.length = n := by have := hr.1; rw [bools_len] at this; omega
  have HBL := Lib.hid hbl
  have HR : Hid (∀ w', Below w.heap.size w w' → Reads w' w'.heap.size 1 A n (bools bs)) := Lib.hid fun w' h => Reads.more (hr.below h) h.size
  have HH : Hid (u8s (headB p n) = [.int .u8 66, .int .u8 (p : Int), .int .u8 ((n : Int) / 16777216), .int .u8 ((n : Int) / 65536 % 256), .int .u8 ((n : Int) / 256 % 256), .int .u8 ((n : Int) % 256)]) := Lib.hid (by
    show [u8v _, u8v _, u8v _, u8v _, u8v _, u8v _] = _
    rw [u8v_modR, u8v_modR, u8v_modR, u8v_modR, u8v_modR]
    simp only [Int.natCast_ediv]
    rw [show ((p : Int) % 256) = (p : Int) from by omega, show ((n : Int) / ((16777216 : Nat) : Int) % 256) = (n : Int) / 16777216 from by omega]; rfl)
  obtain ⟨nq, hnq⟩ : ∃ nq, n = 8 * nq := ⟨n / 8, by omega⟩
  have HNQ := Lib.hid hnq
  have hnq2 : nq ≤ 2621440 := by omega
  have S8 : Hid (∀ q k b, bs[8 * q + k]? = some b → bitOf bs (8 * q + k) = b) := Lib.hid fun q k b h => by unfold bitOf; rw [h]; rfl
  have HFB : Hid (bodyTo p n (bitOf bs) nq = filterB p n (bitOf bs)) := Lib.hid (by unfold bodyTo filterB; rw [show n / 8 = nq from by omega])
  have HB0L : Hid (bodyTo p n (bitOf bs) 0 = headB p n) := Lib.hid (by simp [bodyTo])
  clear hr hbl hnq hn8
  go_enter Try.func41, Try.ntmps41
  go_wp2_with (at_builtin; go_must (refine wpList_append_reads _ rfl (.tmp 12) (.tmp 26) rfl Try.u8s' w.heap.size (.slice none 0 0) 0 [] rfl (own_nil _ _ _ _) (w.heap.size + 1) (some ⟨w.heap.size, 0, none⟩) 6 6 (u8s (headB p n)) rfl (by exact reads_lit w _ (headB p n) _ _ (by rw [HH.out])) (u8s_one _) (by decide) (by decide) (by simp) ?_); intro v1 w1 hown1 hg1 hat1; have HB1 := Lib.hid (below_app ((Below.refl w.heap.size w).alloc (Nat.le_refl _) (.cells #[.int .u8 66, .int .u8 (p : Int), .int .u8 ((n : Int) / 16777216), .int .u8 ((n : Int) / 65536 % 256), .int .u8 ((n : Int) / 256 % 256), .int .u8 ((n : Int) % 256)] 5)) (own_nil _ w.heap.size 5 1) hg1 (by simp) (Nat.le_refl _)); rw [List.nil_append, Nat.zero_add, ← HB0L.out] at hown1; have HO1 := Lib.hid hown1; clear hown1 hg1 hat1)
  go_loopw [6, 7] (fun f i wr => ∃ q Q : Nat, Q ≤ n ∧ Hid (Q = 8 * q) ∧ i = .int .i64 Q ∧ wr.ownsRow w.heap.size 5 1 f (6 + q) (u8s (bodyTo p n (bitOf bs) q)) ∧ Hid (Below w.heap.size w wr)) (fun _ i _ => n - (intOf i).toNat)
  case atStart => exact ⟨0, 0, Nat.zero_le _, Lib.hid rfl, rfl, HO1.out, HB1⟩
  case round =>
    obtain ⟨q, Q, hQ, HQ, rfl, hown, HB⟩ := hrel
    by_cases hlt : Q < n
    case neg =>
      have hP : BytesPost 5 (filterB p n (bitOf bs)) w (.returned u6) wr := by
        have e : q = nq := by have := HQ.out; have := HNQ.out; omega
        subst e
        rw [HFB.out] at hown
        exact bytes_post hown HB.out
      have HP := Lib.hid hP
      clear hP hown
      go_wp2
      go_ret
      exact HP.out
    have hq8 : Q + 8 ≤ n := by have := HQ.out; have := HNQ.out; omega
    obtain ⟨v, hv⟩ : ∃ v, v = u6 := ⟨_, rfl⟩
    rw [← hv] at hown ⊢
    have HOW := Lib.hid hown
    clear hv hown
    go_wp2
    go_loop [8, 9] (fun x y => ∃ k C : Nat, k ≤ 8 ∧ y = .int .i64 k ∧ x = .int .i64 C ∧ C < 256 ∧ Hid (C = accB (fun t => bitOf bs (8 * q + t)) k)) (fun _ y => 8 - (intOf y).toNat)
    case atStart => exact ⟨0, 0, by omega, rfl, rfl, by omega, Lib.hid rfl⟩
    case round =>
      obtain ⟨k, C, hk, rfl, rfl, hC, HC⟩ := hrel
      by_cases hk8 : k < 8
      case neg =>
        have hd : decide ((k : Int) < 8) = false := decide_eq_false (by omega)
        have HPK : Hid (UInt8.ofNat C = packB fun t => bitOf bs (8 * q + t)) := Lib.hid (by rw [HC.out, show k = 8 from by omega, accB_pack])
        have H8 : Hid (u8s [UInt8.ofNat C] = [.int .u8 (C : Int)]) := Lib.hid (by show [u8v _] = _; rw [u8v_modR, show ((C : Int) % 256) = (C : Int) from by omega])
        have hqb : q ≤ 2621440 := by have := HQ.out; omega
        go_wp2_with (at_builtin; go_must (refine wpList_append_reads _ rfl (.tmp 47) (.tmp 50) rfl Try.u8s' w.heap.size v (6 + q) (u8s (bodyTo p n (bitOf bs) q)) rfl (HOW.out.alloc _) (wr.heap.size + 1) (some ⟨wr.heap.size, 0, none⟩) 1 1 (u8s [UInt8.ofNat C]) rfl (by exact reads_lit wr _ [UInt8.ofNat C] _ _ (by rw [H8.out])) (u8s_one _) (by unfold maxLen; omega) (by omega) (by have := HB.out.size; simp; omega) ?_); intro v2 w2 hown2 hg2 hat2; have HB2 := Lib.hid (below_app (HB.out.alloc HB.out.size (.cells #[.int .u8 (C : Int)] 5)) (HOW.out.alloc _) hg2 (by have := HB.out.size; simp; omega) (Nat.le_refl _)); rw [← u8s_append, HPK.out, ← bodyTo_succ] at hown2; have HO2 := Lib.hid hown2; clear hown2 hg2 hat2)
        have hO2 : w2.ownsRow w.heap.size 5 1 v2 (6 + (q + 1)) (u8s (bodyTo p n (bitOf bs) (q + 1))) := HO2.out
        clear HO2
        go_roundw
        case rel => exact ⟨q + 1, Q + 8, by omega, Lib.hid (by have := HQ.out; omega), by go_num, hO2, HB2⟩
        case measure => simp [intOf]; omega
      have hd : decide ((k : Int) < 8) = true := decide_eq_true (by omega)
      obtain ⟨bb, oo, eA, _, hcc⟩ := (HR.out _ HB.out).2 (by omega)
      obtain ⟨b, hb⟩ : ∃ b, bs[Q + k]? = some b := ⟨_, List.getElem?_eq_getElem (by rw [HBL.out]; omega)⟩
      have hcb := hcc (Q + k) _ (bools_at hb)
      have HBIT : Hid (bitOf bs (8 * q + k) = b) := Lib.hid (S8.out q k b (by rw [← HQ.out]; exact hb))
      subst eA
      have hs1 : IntKind.i64.wrap ((Q : Int) + (k : Int)) = (Q : Int) + (k : Int) := i64_sum (by omega) (by omega)
      clear hcc hb
      cases b with
      | true =>
        have HN : Hid (2 * C + 1 = accB (fun t => bitOf bs (8 * q + t)) (k + 1)) := Lib.hid (by show _ = 2 * accB _ k + (bitOf bs (8 * q + k)).toNat; rw [← HC.out, HBIT.out]; rfl)
        have hC2 : 2 * C + 1 < 256 := by rw [HN.out]; exact accB_le _ (by omega)
        go_wp2
        go_round
        case rel => exact ⟨k + 1, 2 * C + 1, by omega, by go_num, by go_num, hC2, HN⟩
        case measure => simp [intOf]; omega
      | false =>
        have HN : Hid (2 * C = accB (fun t => bitOf bs (8 * q + t)) (k + 1)) := Lib.hid (by show _ = 2 * accB _ k + (bitOf bs (8 * q + k)).toNat; rw [← HC.out, HBIT.out]; rfl)
        have hC2 : 2 * C < 256 := by rw [HN.out]; exact accB_le _ (by omega)
        go_wp2
        go_round
        case rel => exact ⟨k + 1, 2 * C, by omega, by go_num, by go_num, hC2, HN⟩
        case measure => simp [intOf]; omega

end Go.Proofs.Ythjjihipodhkiaa
