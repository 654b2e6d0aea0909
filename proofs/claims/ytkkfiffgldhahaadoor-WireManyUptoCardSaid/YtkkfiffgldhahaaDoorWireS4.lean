/-
  WireMany, walked.
-/
import Derived.Test.YtkkfiffgldhahaaDoorWireW9
import Derived.Test.YtkkfiffgldhahaaDoorWireS2
import Derived.Lib.MinMax
namespace Go.Proofs.YtkkfiffgldhahaaDoor
open Go.RowKit

/-- The i-th number, the i-th bytes, what is written of both; all of them. -/
def mNum (s i : Nat) : Nat := s * i % 18446744073709551616
def mLen (L i : Nat) : Nat := i % (L + 1)
def mIt (s : Nat) (b : List UInt8) (i : Nat) : List UInt8 := uintB (mNum s i) ++ (uintB (b.take (mLen b.length i)).length ++ b.take (mLen b.length i))
def mAll (s : Nat) (b : List UInt8) (k : Nat) : List UInt8 := (List.range k).flatMap (mIt s b)
theorem mNum_lt (s i : Nat) : mNum s i < 18446744073709551616 := Nat.mod_lt _ (by omega)
theorem mLen_le (L i : Nat) : mLen L i ≤ L := by have := Nat.mod_lt i (show 0 < L + 1 by omega); unfold mLen; omega
theorem mAll_succ (s : Nat) (b : List UInt8) (k : Nat) : mAll s b (k + 1) = mAll s b k ++ mIt s b k := by
  unfold mAll
  rw [List.range_succ, List.flatMap_append]; simp
theorem mIt_len (s : Nat) (b : List UInt8) (i : Nat) (hb : b.length ≤ 200) : (mIt s b i).length ≤ 220 := by
  unfold mIt
  rw [List.length_append, List.length_append]
  have h1 := uintB_ten (mNum_lt s i)
  have h3 : (b.take (mLen b.length i)).length ≤ 200 := by rw [List.length_take]; omega
  have h2 := uintB_ten (v := (b.take (mLen b.length i)).length) (by omega)
  omega
theorem mAll_len (s : Nat) (b : List UInt8) (k : Nat) (hb : b.length ≤ 200) : (mAll s b k).length ≤ 220 * k := by
  induction k with
  | zero => simp [mAll]
  | succ k ih => rw [mAll_succ, List.length_append]; have := mIt_len s b k hb; omega
theorem mAll_split (s : Nat) (b : List UInt8) (N : Nat) : ∀ k, k < N → ∃ r, mAll s b N = mAll s b k ++ mIt s b k ++ r := by
  induction N with
  | zero => intro k hk; omega
  | succ N ih =>
    intro k hk
    rw [mAll_succ]
    rcases Nat.lt_or_ge k N with h | h
    · obtain ⟨r, hr⟩ := ih k h
      exact ⟨r ++ mIt s b N, by rw [hr]; simp⟩
    · obtain rfl : k = N := by omega
      exact ⟨[], by simp⟩
theorem many_first (s : Nat) (b : List UInt8) (N k : Nat) (hk : k < N) : readU (mAll s b N) ((mAll s b k).length : Int) = (mNum s k, (mAll s b k).length + (uintB (mNum s k)).length, 0) := by
  obtain ⟨r, hr⟩ := mAll_split s b N k hk
  have h := readU_back (mAll s b k) (uintB (b.take (mLen b.length k)).length ++ b.take (mLen b.length k) ++ r) (mNum s k) (mNum_lt s k)
  rw [hr, show mAll s b k ++ mIt s b k ++ r = mAll s b k ++ uintB (mNum s k) ++ (uintB (b.take (mLen b.length k)).length ++ b.take (mLen b.length k) ++ r) from by unfold mIt; simp]
  exact h
theorem many_second (s : Nat) (b : List UInt8) (N k : Nat) (hk : k < N) (hb : b.length ≤ 200) : readBy (mAll s b N) (((mAll s b k).length + (uintB (mNum s k)).length : Nat) : Int) 200 = (b.take (mLen b.length k), (mAll s b (k + 1)).length, 0) := by
  obtain ⟨r, hr⟩ := mAll_split s b N k hk
  have hl : (b.take (mLen b.length k)).length ≤ 200 := by rw [List.length_take]; omega
  have h := readBy_back (mAll s b k ++ uintB (mNum s k)) r (b.take (mLen b.length k)) 200 (by omega) (by omega)
  rw [List.length_append] at h
  rw [hr, show mAll s b k ++ mIt s b k ++ r = (mAll s b k ++ uintB (mNum s k)) ++ (uintB (b.take (mLen b.length k)).length ++ b.take (mLen b.length k)) ++ r from by unfold mIt; simp, h, mAll_succ]
  unfold mIt
  simp only [List.length_append]
  rw [Nat.add_assoc]

set_option maxRecDepth 100000 in
set_option maxHeartbeats 4000000 in
theorem many_any (z : Int) (s : Nat) (l : List UInt8) (A : Option Addr) (n c : Nat) (w : World) (hz : -9223372036854775808 ≤ z ∧ z < 9223372036854775808) (ha : Sl w A n c l) (hn : n ≤ 1048576) (ht : TabAt 0 w) :
    Calls Tryd.prog 6 #[.int .i64 z, .int .u64 s, .slice A n c] w fun e w' => e = .returned (.bool true) ∧ Below w.heap.size w w' := by
  have HT : Hid (∀ w', Below w.heap.size w w' → TabAt 0 w') := Lib.hid fun w' h => ht.later h
  have HA : Hid (∀ w', Below w.heap.size w w' → Sl w' A n c l) := Lib.hid fun w' h => ha.later h
  obtain ⟨N, hN⟩ : ∃ N : Nat, (N : Int) = min (max z 1) 3000 := ⟨(min (max z 1) 3000).toNat, by omega⟩
  have hN1 : 1 ≤ N := by omega
  have hN2 : N ≤ 3000 := by omega
  have hl := ha.len
  have hN' : min (max z 1) 3000 = (N : Int) := hN.symm
  clear hN
  by_cases hbig : 200 < n
  · have hd : decide ((200 : Int) < (n : Int)) = true := decide_eq_true (by omega)
    have hc200 : 200 ≤ c := by have := ha.cap; omega
    obtain ⟨b, hb⟩ : ∃ b, b = l.take 200 := ⟨_, rfl⟩
    have HL : Hid (b.length = 200) := Lib.hid (by rw [hb, List.length_take]; omega)
    have HA : Hid (∀ w', Below w.heap.size w w' → Sl w' A 200 c b) := Lib.hid fun w' h => by rw [hb]; exact (HA.out w' h).take (by omega)
    have tok1 : True := trivial
    clear ha ht hl hb
    go_enter Tryd.func6, Tryd.ntmps6
    go_wp2_with fail
    clear hN'
    go_loopw [7, 8] (fun v i wr => ∃ k : Nat, k ≤ N ∧ i = .int .i64 k ∧ wr.ownsRow w.heap.size 5 1 v (mAll s b k).length (u8s (mAll s b k)) ∧ Hid (Below w.heap.size w wr)) (fun _ i _ => N - (intOf i).toNat)
    case atStart => exact ⟨0, Nat.zero_le _, rfl, own_nil _ _ _ _, Lib.hid (Below.refl _ _)⟩
    case round =>
      obtain ⟨k, hk, rfl, hown, HB⟩ := hrel
      by_cases hlt : k < N
      case pos =>
        obtain ⟨bv, hbv⟩ : ∃ bv, bv = u7 := ⟨_, rfl⟩
        rw [← hbv] at hown ⊢
        clear hbv
        obtain ⟨v, hv⟩ : ∃ v, v = mNum s k := ⟨_, rfl⟩
        have hm : IntKind.u64.wrap ((s : Int) * (k : Int)) = (v : Int) := by rw [IntKind.wrap_u64, hv]; unfold mNum; rw [Int.natCast_emod, Int.natCast_mul]; rfl
        have hm2 : (s : Int) * (k : Int) % 18446744073709551616 = (v : Int) := by rw [← hm, IntKind.wrap_u64]
        obtain ⟨q, hq⟩ : ∃ q, q = mLen 200 k := ⟨_, rfl⟩
        have hqn : q ≤ 200 := by rw [hq]; exact mLen_le _ k
        have hqc : q ≤ c := by omega
        have hq2 : (k : Int) % 201 = (q : Int) := by rw [hq]; unfold mLen; omega
        have hvb : Hid (v < 18446744073709551616) := Lib.hid (by rw [hv]; exact mNum_lt s k)
        have XAL := Lib.hid (mAll_len s b k (by rw [HL.out]; omega))
        obtain ⟨I, hI⟩ : ∃ I, I = uintB (b.take q).length ++ b.take q := ⟨_, rfl⟩
        have HIL : Hid (I.length ≤ 210) := Lib.hid (by
          have h1 := List.length_take_le q b
          have h2 := uintB_ten (v := (b.take q).length) (by omega)
          rw [hI, List.length_append]; omega)
        have HN : Hid (mAll s b (k + 1) = mAll s b k ++ uintB v ++ I) := Lib.hid (by
          rw [mAll_succ, List.append_assoc, hv, hI, hq]; unfold mIt; rw [HL.out])
        have HI := Lib.hid hI
        clear hv hq hI
        go_wp2_with (first
          | (go_at_call 26; go_must (refine (uint_any v _ hvb.out).mono ?_); rintro e w1 hp; obtain ⟨A1, c1, rfl, hS1, hO1, hb1⟩ := hp.at_ rfl; have HS1 := Lib.hid hS1; have HB1 := Lib.hid (HB.out.trans (hb1.mono HB.out.size)); have HOA := Lib.hid (own_below hown hb1); clear hp hS1 hO1 hb1 hown)
          | (at_builtin; have _t := tok1; go_must (refine wpList_append_reads _ rfl (.tmp 30) (.tmp 35) rfl Tryd.u8s' w.heap.size bv (mAll s b k).length (u8s (mAll s b k)) rfl HOA.out _ A1 (uintB v).length c1 (u8s (uintB v)) rfl HS1.out.rb (u8s_one _) (by have := XAL.out; have := uintB_ten hvb.out; unfold maxLen; omega) (by have := XAL.out; have := uintB_ten hvb.out; omega) HB1.out.size ?_); intro v2 w2 hown2 hg2 hat2; clear tok1; have HB2 := Lib.hid (below_app HB1.out HOA.out hg2 HB1.out.size (Nat.le_refl _)); rw [← u8s_append] at hown2; have HO2 := Lib.hid hown2; clear hown2 hg2 hat2)
          | (go_at_call 27; go_must (refine (bytes_any (b.take q) A q c _ (by omega) ((HA.out _ HB2.out).take hqn).rb).mono ?_); rintro e w3 hp; rw [← HI.out] at hp; obtain ⟨A3, c3, rfl, hS3, hO3, hb3⟩ := hp.at_ rfl; have HS3 := Lib.hid hS3; have HB3 := Lib.hid (HB2.out.trans (hb3.mono HB2.out.size)); have HO3 := Lib.hid (own_below HO2.out hb3); clear hp hS3 hO3 hb3)
          | (at_builtin; go_must (refine wpList_append_reads _ rfl (.tmp 37) (.tmp 45) rfl Tryd.u8s' w.heap.size v2 ((mAll s b k).length + (uintB v).length) (u8s (mAll s b k ++ uintB v)) rfl HO3.out _ A3 I.length c3 (u8s I) rfl HS3.out.rb (u8s_one _) (by have := XAL.out; have := uintB_ten hvb.out; have := HIL.out; unfold maxLen; omega) (by have := XAL.out; have := uintB_ten hvb.out; have := HIL.out; omega) HB3.out.size ?_); intro v4 w4 hown4 hg4 hat4; have HB4 := Lib.hid (below_app HB3.out HO3.out hg4 HB3.out.size (Nat.le_refl _)); rw [← u8s_append] at hown4; have HO4 := Lib.hid hown4; clear hown4 hg4 hat4))
        go_roundw
        case rel => exact ⟨k + 1, by omega, by go_num, by rw [HN.out, List.length_append, List.length_append]; exact HO4.out, HB4⟩
        case measure => simp [intOf]; omega
      obtain rfl : k = N := by omega
      obtain ⟨F, hF⟩ : ∃ F, F = mAll s b k := ⟨_, rfl⟩
      rw [← hF] at hown
      have HF := Lib.hid hF
      have XFL : Hid (F.length ≤ 220 * k) := Lib.hid (by rw [hF]; exact mAll_len s b k (by rw [HL.out]; omega))
      obtain ⟨A5, c5, rfl, hO5⟩ := own_bytes hown
      have HS5 := Lib.hid (Sl.own hO5)
      have hFb : F.length ≤ 660000 := by have := XFL.out; omega
      have hdk : decide ((k : Int) < (k : Int)) = false := decide_eq_false (by omega)
      clear hown hF hO5 tok1
      go_wp2_with fail
      clear hdk
      go_loopw [9, 10] (fun at_ i wr2 => ∃ j : Nat, j ≤ k ∧ i = .int .i64 j ∧ at_ = .int .i64 (mAll s b j).length ∧ Hid (Below wr.heap.size wr wr2)) (fun _ i _ => k - (intOf i).toNat)
      case atStart => exact ⟨0, Nat.zero_le _, rfl, rfl, Lib.hid (Below.refl _ _)⟩
      case round =>
        obtain ⟨j, hj, rfl, rfl, HW⟩ := hrel
        have HBW := Lib.hid (HB.out.trans (HW.out.mono HB.out.size))
        have HSW := Lib.hid (HS5.out.later HW.out)
        by_cases hlt : j < k
        case neg =>
          obtain rfl : j = k := by omega
          have hde : (((mAll s b j).length : Int) == (F.length : Int)) = true := by rw [HF.out]; simp
          go_wp2_with (go_at_call 18; go_must (refine (started_any _ (HT.out _ HBW.out)).mono ?_); rintro e w9 ⟨rfl, hb9⟩; have HB9 := Lib.hid (HBW.out.trans (hb9.mono HBW.out.size)); clear hb9)
          go_ret
          exact ⟨rfl, HB9.out⟩
        obtain ⟨p, hp⟩ : ∃ p, p = (mAll s b j).length := ⟨_, rfl⟩
        rw [← hp]
        obtain ⟨v, hv⟩ : ∃ v, v = mNum s j := ⟨_, rfl⟩
        have hm : IntKind.u64.wrap ((s : Int) * (j : Int)) = (v : Int) := by rw [IntKind.wrap_u64, hv]; unfold mNum; rw [Int.natCast_emod, Int.natCast_mul]; rfl
        have hm2 : (s : Int) * (j : Int) % 18446744073709551616 = (v : Int) := by rw [← hm, IntKind.wrap_u64]
        obtain ⟨q, hq⟩ : ∃ q, q = mLen 200 j := ⟨_, rfl⟩
        have hqn : q ≤ 200 := by rw [hq]; exact mLen_le _ j
        have hqc : q ≤ c := by omega
        have hq2 : (j : Int) % 201 = (q : Int) := by rw [hq]; unfold mLen; omega
        obtain ⟨p2, hp2⟩ : ∃ p2, p2 = p + (uintB v).length := ⟨_, rfl⟩
        have R1 : Hid (readU F (p : Int) = (v, p2, 0)) := Lib.hid (by rw [HF.out, hp, many_first s b k j hlt, hp2, hv, hp])
        obtain ⟨p3, hp3⟩ : ∃ p3, p3 = (mAll s b (j + 1)).length := ⟨_, rfl⟩
        have R2 : Hid (readBy F (p2 : Int) 200 = (b.take q, p3, 0)) := Lib.hid (by rw [HF.out, hp2, hp, hv, many_second s b k j hlt (by rw [HL.out]; omega), hp3, hq, HL.out])
        have XT : Hid ((b.take q).length = q) := Lib.hid (by rw [List.length_take, HL.out]; omega)
        have XB : Hid ((b.take q == b.take q) = true) := Lib.hid (by simp)
        have XP3 := Lib.hid hp3
        clear hp hv hq hp2 hp3
        go_wp2_with (first
          | (go_at_call 20; refine (num_any _ _).mono ?_; rintro e wn ⟨rfl, rfl⟩)
          | (go_at_call 28; go_must (refine (ru_any F A5 F.length c5 p _ (by omega) HSW.out.rb).mono ?_); rw [R1.out]; rintro e w1 ⟨rfl, rfl⟩)
          | (go_at_call 29; go_must (refine (rby_any F A5 F.length c5 p2 200 _ HSW.out (by omega) (by omega)).mono ?_); rintro e w6 hp; rw [R2.out] at hp; obtain ⟨A6, c6, rfl, hS6, _, hb6⟩ := BytesPost3.at_ (n := q) (p' := (p3 : Int)) (k' := 0) hp XT.out rfl rfl; have HS6 := Lib.hid hS6; have HW6 := Lib.hid (HW.out.trans (hb6.mono HW.out.size)); have HA6 := Lib.hid ((HA.out _ (HBW.out.trans (hb6.mono HBW.out.size))).take hqn); clear hp hS6 hb6)
          | (go_at_call 24; go_must (refine (same_any (b.take q) (b.take q) A6 A q c6 q c _ HS6.out.rb HA6.out.rb).mono ?_); rintro e wn ⟨rfl, rfl⟩; rw [XB.out]))
        go_roundw
        case rel => exact ⟨j + 1, by omega, by go_num, by rw [XP3.out], HW6⟩
        case measure => simp [intOf]; omega
  · have hd : decide ((200 : Int) < (n : Int)) = false := decide_eq_false (by omega)
    have hn200 : n ≤ 200 := by omega
    have hcap := ha.cap
    have HL := Lib.hid hl
    have tok1 : True := trivial
    clear ha ht hbig hl
    go_enter Tryd.func6, Tryd.ntmps6
    go_wp2_with fail
    clear hN'
    go_loopw [7, 8] (fun v i wr => ∃ k : Nat, k ≤ N ∧ i = .int .i64 k ∧ wr.ownsRow w.heap.size 5 1 v (mAll s l k).length (u8s (mAll s l k)) ∧ Hid (Below w.heap.size w wr)) (fun _ i _ => N - (intOf i).toNat)
    case atStart => exact ⟨0, Nat.zero_le _, rfl, own_nil _ _ _ _, Lib.hid (Below.refl _ _)⟩
    case round =>
      obtain ⟨k, hk, rfl, hown, HB⟩ := hrel
      by_cases hlt : k < N
      case pos =>
        obtain ⟨bv, hbv⟩ : ∃ bv, bv = u7 := ⟨_, rfl⟩
        rw [← hbv] at hown ⊢
        clear hbv
        obtain ⟨v, hv⟩ : ∃ v, v = mNum s k := ⟨_, rfl⟩
        have hm : IntKind.u64.wrap ((s : Int) * (k : Int)) = (v : Int) := by rw [IntKind.wrap_u64, hv]; unfold mNum; rw [Int.natCast_emod, Int.natCast_mul]; rfl
        have hm2 : (s : Int) * (k : Int) % 18446744073709551616 = (v : Int) := by rw [← hm, IntKind.wrap_u64]
        obtain ⟨q, hq⟩ : ∃ q, q = mLen n k := ⟨_, rfl⟩
        have hqn : q ≤ n := by rw [hq]; exact mLen_le _ k
        have hqc : q ≤ c := by omega
        have hq2 : (k : Int) % ((n : Int) + 1) = (q : Int) := by rw [hq]; unfold mLen; rw [Int.natCast_emod, Int.natCast_add]; rfl
        have hvb : Hid (v < 18446744073709551616) := Lib.hid (by rw [hv]; exact mNum_lt s k)
        have XAL := Lib.hid (mAll_len s l k (by rw [HL.out]; omega))
        obtain ⟨I, hI⟩ : ∃ I, I = uintB (l.take q).length ++ l.take q := ⟨_, rfl⟩
        have HIL : Hid (I.length ≤ 210) := Lib.hid (by
          have h1 := List.length_take_le q l
          have h2 := uintB_ten (v := (l.take q).length) (by omega)
          rw [hI, List.length_append]; omega)
        have HN : Hid (mAll s l (k + 1) = mAll s l k ++ uintB v ++ I) := Lib.hid (by
          rw [mAll_succ, List.append_assoc, hv, hI, hq]; unfold mIt; rw [HL.out])
        have HI := Lib.hid hI
        clear hv hq hI
        go_wp2_with (first
          | (go_at_call 26; go_must (refine (uint_any v _ hvb.out).mono ?_); rintro e w1 hp; obtain ⟨A1, c1, rfl, hS1, hO1, hb1⟩ := hp.at_ rfl; have HS1 := Lib.hid hS1; have HB1 := Lib.hid (HB.out.trans (hb1.mono HB.out.size)); have HOA := Lib.hid (own_below hown hb1); clear hp hS1 hO1 hb1 hown)
          | (at_builtin; have _t := tok1; go_must (refine wpList_append_reads _ rfl (.tmp 30) (.tmp 35) rfl Tryd.u8s' w.heap.size bv (mAll s l k).length (u8s (mAll s l k)) rfl HOA.out _ A1 (uintB v).length c1 (u8s (uintB v)) rfl HS1.out.rb (u8s_one _) (by have := XAL.out; have := uintB_ten hvb.out; unfold maxLen; omega) (by have := XAL.out; have := uintB_ten hvb.out; omega) HB1.out.size ?_); intro v2 w2 hown2 hg2 hat2; clear tok1; have HB2 := Lib.hid (below_app HB1.out HOA.out hg2 HB1.out.size (Nat.le_refl _)); rw [← u8s_append] at hown2; have HO2 := Lib.hid hown2; clear hown2 hg2 hat2)
          | (go_at_call 27; go_must (refine (bytes_any (l.take q) A q c _ (by omega) ((HA.out _ HB2.out).take hqn).rb).mono ?_); rintro e w3 hp; rw [← HI.out] at hp; obtain ⟨A3, c3, rfl, hS3, hO3, hb3⟩ := hp.at_ rfl; have HS3 := Lib.hid hS3; have HB3 := Lib.hid (HB2.out.trans (hb3.mono HB2.out.size)); have HO3 := Lib.hid (own_below HO2.out hb3); clear hp hS3 hO3 hb3)
          | (at_builtin; go_must (refine wpList_append_reads _ rfl (.tmp 37) (.tmp 45) rfl Tryd.u8s' w.heap.size v2 ((mAll s l k).length + (uintB v).length) (u8s (mAll s l k ++ uintB v)) rfl HO3.out _ A3 I.length c3 (u8s I) rfl HS3.out.rb (u8s_one _) (by have := XAL.out; have := uintB_ten hvb.out; have := HIL.out; unfold maxLen; omega) (by have := XAL.out; have := uintB_ten hvb.out; have := HIL.out; omega) HB3.out.size ?_); intro v4 w4 hown4 hg4 hat4; have HB4 := Lib.hid (below_app HB3.out HO3.out hg4 HB3.out.size (Nat.le_refl _)); rw [← u8s_append] at hown4; have HO4 := Lib.hid hown4; clear hown4 hg4 hat4))
        go_roundw
        case rel => exact ⟨k + 1, by omega, by go_num, by rw [HN.out, List.length_append, List.length_append]; exact HO4.out, HB4⟩
        case measure => simp [intOf]; omega
      obtain rfl : k = N := by omega
      obtain ⟨F, hF⟩ : ∃ F, F = mAll s l k := ⟨_, rfl⟩
      rw [← hF] at hown
      have HF := Lib.hid hF
      have XFL : Hid (F.length ≤ 220 * k) := Lib.hid (by rw [hF]; exact mAll_len s l k (by rw [HL.out]; omega))
      obtain ⟨A5, c5, rfl, hO5⟩ := own_bytes hown
      have HS5 := Lib.hid (Sl.own hO5)
      have hFb : F.length ≤ 660000 := by have := XFL.out; omega
      have hdk : decide ((k : Int) < (k : Int)) = false := decide_eq_false (by omega)
      clear hown hF hO5 tok1
      go_wp2_with fail
      clear hdk
      go_loopw [9, 10] (fun at_ i wr2 => ∃ j : Nat, j ≤ k ∧ i = .int .i64 j ∧ at_ = .int .i64 (mAll s l j).length ∧ Hid (Below wr.heap.size wr wr2)) (fun _ i _ => k - (intOf i).toNat)
      case atStart => exact ⟨0, Nat.zero_le _, rfl, rfl, Lib.hid (Below.refl _ _)⟩
      case round =>
        obtain ⟨j, hj, rfl, rfl, HW⟩ := hrel
        have HBW := Lib.hid (HB.out.trans (HW.out.mono HB.out.size))
        have HSW := Lib.hid (HS5.out.later HW.out)
        by_cases hlt : j < k
        case neg =>
          obtain rfl : j = k := by omega
          have hde : (((mAll s l j).length : Int) == (F.length : Int)) = true := by rw [HF.out]; simp
          go_wp2_with (go_at_call 18; go_must (refine (started_any _ (HT.out _ HBW.out)).mono ?_); rintro e w9 ⟨rfl, hb9⟩; have HB9 := Lib.hid (HBW.out.trans (hb9.mono HBW.out.size)); clear hb9)
          go_ret
          exact ⟨rfl, HB9.out⟩
        obtain ⟨p, hp⟩ : ∃ p, p = (mAll s l j).length := ⟨_, rfl⟩
        rw [← hp]
        obtain ⟨v, hv⟩ : ∃ v, v = mNum s j := ⟨_, rfl⟩
        have hm : IntKind.u64.wrap ((s : Int) * (j : Int)) = (v : Int) := by rw [IntKind.wrap_u64, hv]; unfold mNum; rw [Int.natCast_emod, Int.natCast_mul]; rfl
        have hm2 : (s : Int) * (j : Int) % 18446744073709551616 = (v : Int) := by rw [← hm, IntKind.wrap_u64]
        obtain ⟨q, hq⟩ : ∃ q, q = mLen n j := ⟨_, rfl⟩
        have hqn : q ≤ n := by rw [hq]; exact mLen_le _ j
        have hqc : q ≤ c := by omega
        have hq2 : (j : Int) % ((n : Int) + 1) = (q : Int) := by rw [hq]; unfold mLen; rw [Int.natCast_emod, Int.natCast_add]; rfl
        obtain ⟨p2, hp2⟩ : ∃ p2, p2 = p + (uintB v).length := ⟨_, rfl⟩
        have R1 : Hid (readU F (p : Int) = (v, p2, 0)) := Lib.hid (by rw [HF.out, hp, many_first s l k j hlt, hp2, hv, hp])
        obtain ⟨p3, hp3⟩ : ∃ p3, p3 = (mAll s l (j + 1)).length := ⟨_, rfl⟩
        have R2 : Hid (readBy F (p2 : Int) 200 = (l.take q, p3, 0)) := Lib.hid (by rw [HF.out, hp2, hp, hv, many_second s l k j hlt (by rw [HL.out]; omega), hp3, hq, HL.out])
        have XT : Hid ((l.take q).length = q) := Lib.hid (by rw [List.length_take, HL.out]; omega)
        have XB : Hid ((l.take q == l.take q) = true) := Lib.hid (by simp)
        have XP3 := Lib.hid hp3
        clear hp hv hq hp2 hp3
        go_wp2_with (first
          | (go_at_call 20; refine (num_any _ _).mono ?_; rintro e wn ⟨rfl, rfl⟩)
          | (go_at_call 28; go_must (refine (ru_any F A5 F.length c5 p _ (by omega) HSW.out.rb).mono ?_); rw [R1.out]; rintro e w1 ⟨rfl, rfl⟩)
          | (go_at_call 29; go_must (refine (rby_any F A5 F.length c5 p2 200 _ HSW.out (by omega) (by omega)).mono ?_); rintro e w6 hp; rw [R2.out] at hp; obtain ⟨A6, c6, rfl, hS6, _, hb6⟩ := BytesPost3.at_ (n := q) (p' := (p3 : Int)) (k' := 0) hp XT.out rfl rfl; have HS6 := Lib.hid hS6; have HW6 := Lib.hid (HW.out.trans (hb6.mono HW.out.size)); have HA6 := Lib.hid ((HA.out _ (HBW.out.trans (hb6.mono HBW.out.size))).take hqn); clear hp hS6 hb6)
          | (go_at_call 24; go_must (refine (same_any (l.take q) (l.take q) A6 A q c6 q c _ HS6.out.rb HA6.out.rb).mono ?_); rintro e wn ⟨rfl, rfl⟩; rw [XB.out]))
        go_roundw
        case rel => exact ⟨j + 1, by omega, by go_num, by rw [XP3.out], HW6⟩
        case measure => simp [intOf]; omega
theorem many_at (z s : Int) (l : List UInt8) (A : Option Addr) (n c : Nat) (w : World) (hz : -9223372036854775808 ≤ z ∧ z < 9223372036854775808) (hs : 0 ≤ s ∧ s < 18446744073709551616) (ha : Sl w A n c l) (hn : n ≤ 1048576) (ht : TabAt 0 w) :
    Calls Tryd.prog 6 #[.int .i64 z, .int .u64 s, .slice A n c] w fun e w' => e = .returned (.bool true) ∧ Below w.heap.size w w' := by
  obtain ⟨S, rfl⟩ : ∃ S : Nat, s = (S : Int) := ⟨s.toNat, by omega⟩
  exact many_any z S l A n c w hz ha hn ht
end Go.Proofs.YtkkfiffgldhahaaDoor
