/-
  The document's answer for filters: alike, Hash, Places, shape, Unlike; walked.
-/
import Derived.Test.YthjjihipodhkiaaBloomU
namespace Go.Proofs.Ythjjihipodhkiaa
open Go.RowKit

theorem Try.ints : SliceOf Try.prog 68 3 1 8 := SliceOf.mk' (z := .int .i64 0) Try.underlying68 (by kernel_rfl) rfl (by decide)

set_option maxRecDepth 100000 in
theorem ralike_any (a b : List UInt8) (A B : Option Addr) (n c m d : Nat) (w : World) (ha : RB w w.heap.size A n a) (hb : RB w w.heap.size B m b) :
    Calls Try.prog 45 #[.slice A n c, .slice B m d] w fun e w' => e = .returned (.bool (a == b)) ∧ w = w' := by
  have tok1 : True := trivial
  go_enter Try.func45, Try.ntmps45
  go_wp2_with (first
    | (have _t := tok1; refine wpList_string_reads rfl _ 24 9 5 rfl Try.underlying24 Try.underlying5 Try.underlying9 rfl ha ?_; clear tok1)
    | (refine wpList_string_reads rfl _ 24 9 5 rfl Try.underlying24 Try.underlying5 Try.underlying9 rfl hb ?_))
  go_ret
  exact ⟨rfl, rfl⟩

set_option maxRecDepth 100000 in
set_option maxHeartbeats 400000 in
theorem rhash_any (l : List UInt8) (A : Option Addr) (n c : Nat) (w : World) (hm : n ≤ 9223372036854775807) (hr : RB w w.heap.size A n l) :
    Calls Try.prog 46 #[.slice A n c] w fun e w' => e = .returned (.int .u64 (hashN l)) ∧ w = w' := by
  go_enter Try.func46, Try.ntmps46
  go_wp2
  go_loop [3, 4] (fun h i => ∃ k : Nat, k ≤ n ∧ i = .int .i64 k ∧ ∃ H : Nat, h = .int .u64 H ∧ Hid (H = hashN (l.take k))) (fun _ i => n - (intOf i).toNat)
  case atStart => exact ⟨0, Nat.zero_le _, rfl, hashN (l.take 0), rfl, Lib.hid rfl⟩
  case round =>
    obtain ⟨k, hk, rfl, H, rfl, hH⟩ := hrel
    by_cases hlt : k < n
    · obtain ⟨b, o, x, rfl, hb, hx, hc⟩ := hr.at_ hlt
      have hs : Hid (((hStep H x : Nat) : Int) = IntKind.u64.wrap (bits .xor .u64 (H : Int) (IntKind.u64.wrap (x.toNat : Int)) * 1099511628211)) := Lib.hid (hstep_walk H x (by rw [hH.out]; exact hashN_lt _)).symm
      go_wp2
      go_round
      case rel => exact ⟨k + 1, by omega, by go_num, hStep H x, by rw [hs.out], Lib.hid (by rw [take_snoc hx, hashN_snoc, ← hH.out])⟩
      case measure => simp [intOf]; omega
    · have E : Hid (H = hashN l) := Lib.hid (by rw [hH.out, take_all (by rw [hr.len]; omega)])
      go_wp2
      go_ret
      exact ⟨ret_int (by rw [E.out]), rfl⟩

theorem hLo_alt (l : List UInt8) : hLo l = if hashN l % 4294967296 % 2 = 0 then hashN l % 4294967296 + 1 else hashN l % 4294967296 := by
  unfold hLo
  have h : ∀ y : Nat, y ||| 1 = if y % 2 = 0 then y + 1 else y := by
    intro y
    apply Nat.eq_of_testBit_eq
    intro j
    rw [Nat.testBit_or]
    split
    · rename_i h0
      cases j with
      | zero => simp [Nat.testBit_zero]; omega
      | succ j => rw [Nat.testBit_succ, Nat.testBit_succ, Nat.testBit_succ, show (y + 1) / 2 = y / 2 from by omega]; simp
    · rename_i h0
      cases j with
      | zero => simp [Nat.testBit_zero]; omega
      | succ j => rw [Nat.testBit_succ, Nat.testBit_succ]; simp
  exact h _

/-- Whole numbers as cells. -/
def i64s (l : List Nat) : List Value := l.map fun k : Nat => .int .i64 (k : Int)
theorem i64s_one (l : List Nat) : ∀ u ∈ i64s l, u.oneCell' = true := by
  intro u hu
  obtain ⟨c, _, rfl⟩ := List.mem_map.1 hu
  rfl
/-- What Places leaves. -/
def PlacesPost (ps : List Nat) (w : World) (e : Ending) (w' : World) : Prop :=
  ∃ A c, e = .returned (.slice A ps.length c) ∧ ps.length ≤ c ∧ w'.ownsRow w.heap.size 3 1 (.slice A ps.length c) ps.length (i64s ps) ∧ Below w.heap.size w w'

set_option maxRecDepth 100000 in
set_option maxHeartbeats 1000000 in
theorem places_any (l : List UInt8) (A : Option Addr) (n c p m : Nat) (w : World) (hn : n ≤ 9223372036854775807) (hr : RB w w.heap.size A n l) (hp : p ≤ 255) (hm0 : 0 < m) (hm : m ≤ 20971520) :
    Calls Try.prog 40 #[.slice A n c, .int .i64 p, .int .i64 m] w (PlacesPost (placesN l p m) w) := by
  have HR := Lib.hid hr
  have hhi := hHi_lt l
  have hlo := hLo_lt l
  have hH := hashN_lt l
  unfold two64 at hH
  have hlo2 := hLo_alt l
  have hHI : hHi l = hashN l / 4294967296 := rfl
  obtain ⟨H, hHH⟩ : ∃ H, H = hashN l := ⟨_, rfl⟩
  rw [← hHH] at hH hlo2 hHI
  obtain ⟨y, hy⟩ : ∃ y, y = H % 4294967296 := ⟨_, rfl⟩
  obtain ⟨X, hX⟩ : ∃ X, X = hHi l := ⟨_, rfl⟩
  obtain ⟨Y, hY⟩ : ∃ Y, Y = hLo l := ⟨_, rfl⟩
  rw [← hX] at hHI hhi
  rw [← hY] at hlo2 hlo
  have HX := Lib.hid hX
  have HY := Lib.hid hY
  have HH := Lib.hid hHH
  have e1 : IntKind.u64.wrap ((H : Int) / 4294967296) = (X : Int) := by rw [IntKind.wrap_u64]; omega
  have e2 : (H : Int) % 4294967296 = (y : Int) := by omega
  rw [← hy] at hlo2
  have hyl : y < 4294967296 := by omega
  have hpl : Hid ((placesN l p m).length = p) := Lib.hid (by simp [placesN])
  have he : ((y : Int) % 2 == 0) = true ∧ ((H : Int) % 2 == 0) = true ∧ (y : Int) + 1 = (Y : Int) ∨ ((Y : Int) % 2 == 0) = false ∧ ((H : Int) % 2 == 0) = false ∧ (y : Int) = (Y : Int) := by
    by_cases h : y % 2 = 0
    · exact .inl ⟨by rw [beq_iff_eq]; omega, by rw [beq_iff_eq]; omega, by rw [if_pos h] at hlo2; omega⟩
    · rw [if_neg h] at hlo2
      exact .inr ⟨by rw [beq_eq_false_iff_ne]; omega, by rw [beq_eq_false_iff_ne]; omega, by omega⟩
  clear hr hlo2 hy hH hX hY hHI hHH
  rcases he with ⟨d1, d2, d3⟩ | ⟨d1, d2, d3⟩
  all_goals
    go_enter Try.func40, Try.ntmps40
    go_wp2_with (go_at_call 46; go_must (refine (rhash_any l A n c _ hn HR.out).mono ?_); rintro e w1 ⟨rfl, rfl⟩; rw [← HH.out])
    clear e1 e2 d1 d2 d3 hyl
    go_loopw [10, 11] (fun v i wr => ∃ j : Nat, j ≤ p ∧ i = .int .i64 j ∧ wr.ownsRow w.heap.size 3 1 v j (i64s (placesN l j m)) ∧ Hid (Below w.heap.size w wr)) (fun _ i _ => p - (intOf i).toNat)
    case atStart => exact ⟨0, Nat.zero_le _, rfl, own_nil _ _ _ _, Lib.hid (Below.refl _ _)⟩
    case round =>
      obtain ⟨j, hj, rfl, hown, HB⟩ := hrel
      by_cases hlt : j < p
      case neg =>
        obtain rfl : j = p := by omega
        have hfin : PlacesPost (placesN l j m) w (.returned u10) wr := by
          obtain ⟨A', c', rfl, q1, _, _, q4⟩ := own_slice hown
          refine ⟨A', c', by rw [hpl.out], by rw [hpl.out]; exact q1, by rw [hpl.out]; exact hown, HB.out⟩
        have HF := Lib.hid hfin
        clear hown hfin
        go_wp2
        go_ret
        exact HF.out
      obtain ⟨Q, hQ⟩ : ∃ Q : Nat, Q = j * Y := ⟨_, rfl⟩
      have hQb : Q ≤ 1095216660480 := by
        rw [hQ]
        exact Nat.mul_le_mul (show j ≤ 255 by omega) (show Y ≤ 4294967296 by omega)
      have e3 : (j : Int) * (Y : Int) = (Q : Int) := by rw [hQ, Int.natCast_mul]
      obtain ⟨V, hV⟩ : ∃ V, V = placeN l m j := ⟨_, rfl⟩
      have hVe : (X + Q) % 4294967296 % m = V := by rw [hV, hQ, HX.out, HY.out]; rfl
      have e4 : ((X : Int) + (Q : Int)) % 4294967296 % (m : Int) = (V : Int) := by rw [← hVe, Int.natCast_emod, Int.natCast_emod, Int.natCast_add]; rfl
      have HN : Hid (i64s (placesN l (j + 1) m) = i64s (placesN l j m) ++ [.int .i64 (V : Int)]) := Lib.hid (by rw [placesN_succ, ← hV]; simp [i64s])
      have hm1 : (0 : Int) < (m : Int) := by omega
      have hmz : ((m : Int) == 0) = false := by rw [beq_eq_false_iff_ne]; omega
      obtain ⟨bv, hb⟩ : ∃ bv, bv = u10 := ⟨_, rfl⟩
      rw [← hb] at hown ⊢
      clear hb hQ hV hVe
      go_wp2_with (at_builtin; go_must (refine wpList_append_reads _ rfl (.tmp 30) (.tmp 39) rfl Try.ints w.heap.size bv j (i64s (placesN l j m)) rfl (hown.alloc _) (wr.heap.size + 1) (some ⟨wr.heap.size, 0, none⟩) 1 1 [.int .i64 (V : Int)] rfl (Reads.new wr #[.int .i64 (V : Int)] _ 1 1 rfl) (by intro u hu; simp at hu; subst hu; rfl) (by unfold maxLen; omega) (by omega) (by have := HB.out.size; simp; omega) ?_); intro v1 w1 hown1 hg1 hat1)
      have hB : w.heap.size ≤ (wr.alloc (.cells #[.int .i64 (V : Int)] 3)).heap.size := by have := HB.out.size; simp; omega
      have HB1 := Lib.hid (below_app (HB.out.alloc HB.out.size _) (hown.alloc _) hg1 hB (Nat.le_refl _))
      have hO1 : w1.ownsRow w.heap.size 3 1 v1 (j + 1) (i64s (placesN l (j + 1) m)) := by rw [HN.out]; exact hown1
      clear hown hown1 hg1 hat1 hB
      go_roundw
      case rel => exact ⟨j + 1, by omega, by go_num, hO1, HB1⟩
      case measure => simp [intOf]; omega

set_option maxRecDepth 100000 in
set_option maxHeartbeats 1000000 in
/-- What shape says. -/
theorem rshape_any (b U p M : Nat) (w : World) (hb1 : 1 ≤ b) (hb : b ≤ 20) (hU : U * b ≤ 20971520) (hp : p = max 1 (7 * b / 10)) (hM : M = max 64 ((U * b + 7) / 8 * 8)) :
    Calls Try.prog 38 #[.int .i64 b, .int .i64 U] w fun e w' => e = .returned (.tuple #[.int .i64 p, .int .i64 M]) ∧ w = w' := by
  obtain ⟨P, hP⟩ : ∃ P, P = U * b := ⟨_, rfl⟩
  have e1 : (U : Int) * (b : Int) = (P : Int) := by rw [hP, Int.natCast_mul]
  rw [← hP] at hU hM
  obtain ⟨r, hr⟩ : ∃ r, r = 7 * b / 10 := ⟨_, rfl⟩
  obtain ⟨q, hq⟩ : ∃ q, q = (P + 7) / 8 := ⟨_, rfl⟩
  have e2 : (7 : Int) * (b : Int) / 10 = (r : Int) := by omega
  have e3 : ((P : Int) + 7) / 8 = (q : Int) := by omega
  have hrb : r ≤ 14 := by omega
  have hqb : q ≤ 2621441 := by omega
  have hcases : (decide ((r : Int) < 1) = true ∧ p = 1 ∨ decide ((r : Int) < 1) = false ∧ p = r) ∧ (decide ((q : Int) * 8 < 64) = true ∧ M = 64 ∨ decide ((q : Int) * 8 < 64) = false ∧ M = q * 8) := by
    rw [← hr] at hp
    rw [← hq] at hM
    constructor
    · by_cases h : r < 1
      · exact .inl ⟨decide_eq_true (by omega), by omega⟩
      · exact .inr ⟨decide_eq_false (by omega), by omega⟩
    · by_cases h : q * 8 < 64
      · exact .inl ⟨decide_eq_true (by omega), by omega⟩
      · exact .inr ⟨decide_eq_false (by omega), by omega⟩
  clear hp hM hP hr hq
  rcases hcases with ⟨⟨h1, rfl⟩ | ⟨h1, rfl⟩, ⟨h2, rfl⟩ | ⟨h2, rfl⟩⟩
  all_goals
    go_enter Try.func38, Try.ntmps38
    go_wp2
    go_ret2
    first
      | exact ⟨rfl, rfl⟩
      | exact ⟨by rw [Int.natCast_mul]; rfl, rfl⟩
      | exact ⟨by rw [← e2, Int.natCast_mul]; rfl, rfl⟩
      | exact ⟨by rw [← e2]; rfl, rfl⟩

set_option maxRecDepth 100000 in
set_option maxHeartbeats 1000000 in
theorem unlike_any (ks : List (List UInt8)) (A : Option Addr) (n c : Nat) (w : World) (hn : n ≤ 9223372036854775807) (hr : RBs w w.heap.size A n ks) :
    Calls Try.prog 39 #[.slice A n c] w fun e w' => e = .returned (.int .i64 (unl ks).length) ∧ Below w.heap.size w w' := by
  have HR : Hid (∀ w', Below w.heap.size w w' → RBs w' w'.heap.size A n ks) := Lib.hid fun w' h => hr.later h
  have HL := Lib.hid hr.len
  clear hr
  go_enter Try.func39, Try.ntmps39
  go_wp2
  go_loopw [3, 4] (fun s i wr => Hid (Below w.heap.size w wr) ∧ ∃ k : Nat, k ≤ n ∧ i = .int .i64 k ∧ ∃ q : Nat, q ≤ k ∧ s = .int .i64 q ∧ Hid (q = (unl (ks.take k)).length)) (fun _ i _ => n - (intOf i).toNat)
  case atStart => exact ⟨Lib.hid (Below.refl _ _), 0, Nat.zero_le _, rfl, 0, Nat.le_refl _, rfl, Lib.hid rfl⟩
  case round =>
    obtain ⟨HB0, k, hk, rfl, q, hq, rfl, HQ⟩ := hrel
    by_cases hlt : k < n
    case neg =>
      have E : Hid (q = (unl ks).length) := Lib.hid (by rw [HQ.out, take_all (by rw [HL.out]; omega)])
      go_wp2
      go_ret
      exact ⟨ret_int (by rw [E.out]), HB0.out⟩
    obtain ⟨b, o, x, a, ck, eA, hb, hx, hcell, hxc, hck, _, hrb⟩ := (HR.out _ HB0.out).at_ hlt
    subst eA
    have HX := Lib.hid hx
    have HXU : Hid (unl (ks.take (k + 1)) = addK (unl (ks.take k)) x) := Lib.hid (by rw [take_snoc hx, unl_snoc])
    clear hx hrb hxc hck hb
    go_wp2
    go_loopw [5, 6] (fun f j wr => Hid (Below w.heap.size w wr) ∧ ∃ (i : Nat) (fb : Bool), i ≤ k ∧ j = .int .i64 i ∧ f = .bool fb ∧ Hid (fb = !((ks.take i).contains x))) (fun _ j _ => k + 1 - (intOf j).toNat)
    case atStart => exact ⟨HB0, 0, true, Nat.zero_le _, rfl, rfl, Lib.hid (by simp)⟩
    case round =>
      obtain ⟨HB1, i, fb, hi, rfl, rfl, HF⟩ := hrel
      have HMT : Hid ((ks.take k).contains x = false → q + 1 = (unl (ks.take (k + 1))).length) := Lib.hid fun h => by
        rw [HXU.out]
        unfold addK
        rw [if_neg (fun hc => by
          have h2 := (mem_unl (ks.take k) x).1 (List.contains_iff_mem.1 hc)
          rw [List.contains_iff_mem.2 h2] at h; cases h), List.length_append, HQ.out]; rfl
      have HMF : Hid ((ks.take k).contains x = true → q = (unl (ks.take (k + 1))).length) := Lib.hid fun h => by
        rw [HXU.out]
        unfold addK
        rw [if_pos (List.contains_iff_mem.2 ((mem_unl (ks.take k) x).2 (List.contains_iff_mem.1 h))), HQ.out]
      cases fb
      · have HC : Hid ((ks.take k).contains x = true) := Lib.hid (by
          have h1 : (ks.take i).contains x = true := by have := HF.out; simpa using this
          have h2 := List.contains_iff_mem.1 h1
          refine List.contains_iff_mem.2 ?_
          have e : ks.take i = (ks.take k).take i := by rw [List.take_take, Nat.min_eq_left hi]
          rw [e] at h2
          exact List.mem_of_mem_take h2)
        by_cases hik : i < k
        · have hd : decide ((i : Int) < (k : Int)) = true := decide_eq_true (by omega)
          go_wp2
          go_roundw
          case rel => exact ⟨HB1, k + 1, by omega, by go_num, q, by omega, rfl, Lib.hid (HMF.out HC.out)⟩
          case measure => simp [intOf]; omega
        · have hd : decide ((i : Int) < (k : Int)) = false := decide_eq_false (by omega)
          go_wp2
          go_roundw
          case rel => exact ⟨HB1, k + 1, by omega, by go_num, q, by omega, rfl, Lib.hid (HMF.out HC.out)⟩
          case measure => simp [intOf]; omega
      · by_cases hik : i < k
        case neg =>
          have HC : Hid ((ks.take k).contains x = false) := Lib.hid (by
            obtain rfl : i = k := by omega
            have := HF.out
            simpa using this)
          have hd : decide ((i : Int) < (k : Int)) = false := decide_eq_false (by omega)
          go_wp2
          go_roundw
          case rel => exact ⟨HB1, k + 1, by omega, by go_num, q + 1, by omega, by go_num, Lib.hid (HMT.out HC.out)⟩
          case measure => simp [intOf]; omega
        have hd : decide ((i : Int) < (k : Int)) = true := decide_eq_true (by omega)
        obtain ⟨b2, o2, z, a2, ck2, e2, _, hz, hcell2, _, _, _, hrb2⟩ := (HR.out _ HB1.out).at_ (i := i) (by omega)
        injection e2 with e2
        injection e2 with e2 e3
        subst e2
        subst e3
        obtain ⟨b4, o4, x4, a4, ck4, e4, _, hx4, hcell4, _, _, _, hrb4⟩ := (HR.out _ HB1.out).at_ (i := k) (by omega)
        injection e4 with e4
        injection e4 with e4 e5
        subst e4
        subst e5
        rw [HX.out] at hx4
        injection hx4 with hx4
        subst hx4
        have HRX4 := Lib.hid hrb4
        clear hcell hrb4
        have HZ := Lib.hid hrb2
        have HN : Hid ((ks.take (i + 1)).contains x = (x == z)) := Lib.hid (by
          have h1 : (ks.take i).contains x = false := by have := HF.out; simpa using this
          rw [take_snoc hz, List.contains_append, h1, Bool.eq_iff_iff]
          simp)
        have hin : (i : Int) < (n : Int) := by omega
        have hkn : (k : Int) < (n : Int) := by omega
        clear hz hrb2
        cases hxz : (x == z)
        · have HXZ := Lib.hid hxz
          clear hxz
          go_wp2
          go_quiet ((go_at_call 45; refine Calls.quiet_of_same (Calls.mono (ralike_any x z a4 a2 x.length ck4 z.length ck2 _ ?_ ?_) fun _ _ h => ⟨h.1, h.2.symm⟩); exact HRX4.out; exact HZ.out))
          rw [HXZ.out]
          go_wp2
          go_roundw
          case rel => exact ⟨Lib.hid (below_drewN HB1.out), i + 1, true, by omega, by go_num, rfl, Lib.hid (by rw [HN.out, HXZ.out]; rfl)⟩
          case measure => simp [intOf]; omega
        · have HXZ := Lib.hid hxz
          clear hxz
          go_wp2
          go_quiet ((go_at_call 45; refine Calls.quiet_of_same (Calls.mono (ralike_any x z a4 a2 x.length ck4 z.length ck2 _ ?_ ?_) fun _ _ h => ⟨h.1, h.2.symm⟩); exact HRX4.out; exact HZ.out))
          rw [HXZ.out]
          go_wp2
          go_roundw
          case rel => exact ⟨Lib.hid (below_drewN HB1.out), i + 1, false, by omega, by go_num, rfl, Lib.hid (by rw [HN.out, HXZ.out]; rfl)⟩
          case measure => simp [intOf]; omega
end Go.Proofs.Ythjjihipodhkiaa
