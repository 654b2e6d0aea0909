/-
  wire.ReadFrame, walked.
-/
import Derived.Test.YtbcljgcilbfblaaDoorWireW3
namespace Go.Proofs.YtbcljgcilbfblaaDoor
open Go.RowKit

section
variable (l : List UInt8) (A : Option Addr) (n c k : Nat) (w : World)

set_option maxRecDepth 100000 in
set_option maxHeartbeats 1000000 in
theorem rframe_out (a : Int) (h : a < 0 ∨ (n : Int) < a) :
    Calls Tryd.prog 11 #[.slice A n c, .int .i64 a] w (BytesPost3 5 [] 0 1 w) := by
  have HO : Hid (outB n a = true) := Lib.hid (by rcases h with h | h <;> simp [outB, h])
  have H : Hid (BytesPost3 5 [] 0 1 w (.returned (.tuple #[.slice none 0 0, .int .i64 0, .int .i64 1])) w) := Lib.hid (bytes_none3 (Below.refl _ _))
  clear h
  go_enter Tryd.func11, Tryd.ntmps11
  go_wp2_with (go_at_call 18; go_must (refine (outside_any A n c a _).mono ?_); rintro e w0 ⟨rfl, rfl⟩; rw [HO.out])
  go_ret3
  exact H.out

variable (hn : n ≤ 9223372036854775807) (hnc : n ≤ c) (hc : c ≤ 9223372036854775807) (hA : A = none → c = 0) (hr : RB w w.heap.size A n l) (ht : TabAt 0 w) (hk : k ≤ n)

include hk in
set_option maxRecDepth 100000 in
set_option maxHeartbeats 1000000 in
theorem rframe_short (h8 : n < k + 8) : Calls Tryd.prog 11 #[.slice A n c, .int .i64 k] w (BytesPost3 5 [] 0 10 w) := by
  have HO : Hid (outB n (k : Int) = false) := Lib.hid (outB_no (by omega) (by omega))
  have H : Hid (BytesPost3 5 [] 0 10 w (.returned (.tuple #[.slice none 0 0, .int .i64 0, .int .i64 10])) w) := Lib.hid (bytes_none3 (Below.refl _ _))
  go_enter Tryd.func11, Tryd.ntmps11
  go_wp2_with (go_at_call 18; go_must (refine (outside_any A n c (k : Int) _).mono ?_); rintro e w0 ⟨rfl, rfl⟩; rw [HO.out])
  go_ret3
  exact H.out

include hn hnc hc hA hr ht in
set_option maxRecDepth 100000 in
set_option maxHeartbeats 1000000 in
theorem rframe_sum (h8 : k + 8 ≤ n) (hi : isB l (k + 4) (sumL (cutF l k 4)) = false) : Calls Tryd.prog 11 #[.slice A n c, .int .i64 k] w (BytesPost3 5 [] 0 12 w) := by
  have HR : Hid (∀ w', Below w.heap.size w w' → RB w' w'.heap.size A n l) := Lib.hid fun w' h => hr.later h
  have HT : Hid (∀ w', Below w.heap.size w w' → TabAt 0 w') := Lib.hid fun w' h => ht.later h
  have HO : Hid (outB n (k : Int) = false) := Lib.hid (outB_no (by omega) (by omega))
  have f1 : Hid (∀ x : List UInt8, [x].flatten = x) := Lib.hid fun x => by simp
  have HN := Lib.hid hn
  have HC1 : Hid (∀ w', Below w.heap.size w w' → RB w' w'.heap.size (A.map (·.add k)) 4 (cutF l k 4)) := Lib.hid fun w' h => by
    have := ((HR.out w' h).drop (k := k) (cap := c) (by omega) hnc).take (m := 4) (by omega)
    rwa [if_neg (by omega)] at this
  have HA1 : Hid (A.map (·.add k) = none → c - k = 0) := Lib.hid fun h => by cases A with
    | none => have := hA rfl; omega
    | some _ => cases h
  have k6 : c ≠ k := by omega
  have k7 : k + 4 - k = 4 := by omega
  have tok1 : True := trivial
  have tok2 : True := trivial
  have HI1 := Lib.hid hi
  clear hr ht hA hi hn
  go_enter Tryd.func11, Tryd.ntmps11
  go_wp2_with (first
    | (go_at_call 18; go_must (refine (outside_any A n c (k : Int) _).mono ?_); rintro e w0 ⟨rfl, rfl⟩; rw [HO.out])
    | (go_at_call 20; have _t := tok1; go_must (refine (sum_any [cutF l k 4] _ 1 1 _ (by omega) (by exact (rbs_one _ _ 4 (c - k) (cutF l k 4) _ _ (by omega) (by omega) HA1.out (HC1.out _ (Below.refl _ _))).more (by simp)) (HT.out _ ((Below.refl _ _).alloc (Nat.le_refl _) _))).mono ?_); rintro e w1 ⟨rfl, rfl⟩; rw [f1.out]; clear tok1)
    | (go_at_call 21; have _t := tok2; go_must (refine (is_at l A n c (k + 4) (sumL (cutF l k 4)) _ _ (by omega) HN.out hnc (HR.out _ ((Below.refl _ _).alloc (Nat.le_refl _) _)) (by omega) (sumL_lt _)).mono ?_); rintro e w2 ⟨rfl, hb2⟩; rw [HI1.out]; clear tok2; have HB2 := Lib.hid (((Below.refl w.heap.size w).alloc (Nat.le_refl _) (.cells #[.slice (A.map (·.add k)) 4 (c - k)] 25)).trans (hb2.mono (by simp))); clear hb2))
  go_ret3
  exact bytes_none3 HB2.out


include hn hnc hc hA hr ht in
set_option maxRecDepth 100000 in
set_option maxHeartbeats 1000000 in
theorem rframe_big (h8 : k + 8 ≤ n) (hi : isB l (k + 4) (sumL (cutF l k 4)) = true) (hb : 1048576 < numF l k) : Calls Tryd.prog 11 #[.slice A n c, .int .i64 k] w (BytesPost3 5 [] 0 13 w) := by
  have HR : Hid (∀ w', Below w.heap.size w w' → RB w' w'.heap.size A n l) := Lib.hid fun w' h => hr.later h
  have HT : Hid (∀ w', Below w.heap.size w w' → TabAt 0 w') := Lib.hid fun w' h => ht.later h
  have HO : Hid (outB n (k : Int) = false) := Lib.hid (outB_no (by omega) (by omega))
  have f1 : Hid (∀ x : List UInt8, [x].flatten = x) := Lib.hid fun x => by simp
  have HN := Lib.hid hn
  have HC1 : Hid (∀ w', Below w.heap.size w w' → RB w' w'.heap.size (A.map (·.add k)) 4 (cutF l k 4)) := Lib.hid fun w' h => by
    have := ((HR.out w' h).drop (k := k) (cap := c) (by omega) hnc).take (m := 4) (by omega)
    rwa [if_neg (by omega)] at this
  have HA1 : Hid (A.map (·.add k) = none → c - k = 0) := Lib.hid fun h => by cases A with
    | none => have := hA rfl; omega
    | some _ => cases h
  have k6 : c ≠ k := by omega
  have k7 : k + 4 - k = 4 := by omega
  have tok1 : True := trivial
  have tok2 : True := trivial
  have HI1 := Lib.hid hi
  obtain ⟨b, o, _, eA, hbb, _, _⟩ := hr.at_ (k := 0) (by omega)
  have HAE := Lib.hid eA
  have hl := hr.len
  obtain ⟨m, hm⟩ : ∃ m, m = numF l k := ⟨_, rfl⟩
  have HC2 : Hid (∀ i, i < 4 → ∀ w', Below w.heap.size w w' → w'.cell? ⟨b, o + (k + i), none⟩ = some (.int .u8 ((l[k + i]?.getD 0).toNat : Int))) := Lib.hid fun i hi w' h =>
    (HAE.out ▸ HR.out w' h).cell (k := k + i) (by rw [List.getElem?_eq_getElem (by omega)]; rfl)
  have HM : Hid (bits .or .i64 (bits .or .i64 (bits .or .i64 (wrap64 (wrap64 ((l[k]?.getD 0).toNat : Int) * 16777216)) (wrap64 (wrap64 ((l[k + 1]?.getD 0).toNat : Int) * 65536))) (wrap64 (wrap64 ((l[k + 2]?.getD 0).toNat : Int) * 256))) (wrap64 ((l[k + 3]?.getD 0).toNat : Int)) = (m : Int)) := Lib.hid (by rw [numB_walk, hm]; rfl)
  have hmb : 1048576 < m := by omega
  clear hr ht hA hi hb hm hl hbb eA
  go_enter Tryd.func11, Tryd.ntmps11
  go_wp2_with (first
    | (go_at_call 18; go_must (refine (outside_any A n c (k : Int) _).mono ?_); rintro e w0 ⟨rfl, rfl⟩; rw [HO.out])
    | (go_at_call 20; have _t := tok1; go_must (refine (sum_any [cutF l k 4] _ 1 1 _ (by omega) (by exact (rbs_one _ _ 4 (c - k) (cutF l k 4) _ _ (by omega) (by omega) HA1.out (HC1.out _ (Below.refl _ _))).more (by simp)) (HT.out _ ((Below.refl _ _).alloc (Nat.le_refl _) _))).mono ?_); rintro e w1 ⟨rfl, rfl⟩; rw [f1.out]; clear tok1)
    | (go_at_call 21; have _t := tok2; go_must (refine (is_at l A n c (k + 4) (sumL (cutF l k 4)) _ _ (by omega) HN.out hnc (HR.out _ ((Below.refl _ _).alloc (Nat.le_refl _) _)) (by omega) (sumL_lt _)).mono ?_); rintro e w2 ⟨rfl, hb2⟩; rw [HI1.out]; clear tok2; have HB2 := Lib.hid (((Below.refl w.heap.size w).alloc (Nat.le_refl _) (.cells #[.slice (A.map (·.add k)) 4 (c - k)] 25)).trans (hb2.mono (by simp))); clear hb2))
  have c0 := HC2.out 0 (by omega) _ HB2.out
  have c1 := HC2.out 1 (by omega) _ HB2.out
  have c2 := HC2.out 2 (by omega) _ HB2.out
  have c3 := HC2.out 3 (by omega) _ HB2.out
  rw [Nat.add_zero] at c0
  have q1 : IntKind.i64.wrap ((k : Int) + 1) = (k : Int) + 1 := i64_sum (by omega) (by omega)
  have q2 : IntKind.i64.wrap ((k : Int) + 2) = (k : Int) + 2 := i64_sum (by omega) (by omega)
  have q3 : IntKind.i64.wrap ((k : Int) + 3) = (k : Int) + 3 := i64_sum (by omega) (by omega)
  have r1 : ((k : Int) + 1).toNat = k + 1 := by omega
  have r2 : ((k : Int) + 2).toNat = k + 2 := by omega
  have r3 : ((k : Int) + 3).toNat = k + 3 := by omega
  have s1 : (0 : Int) ≤ (k : Int) + 1 := by omega
  have s2 : (0 : Int) ≤ (k : Int) + 2 := by omega
  have s3 : (0 : Int) ≤ (k : Int) + 3 := by omega
  have s4 : (k : Int) + 1 < (n : Int) := by omega
  have s5 : (k : Int) + 2 < (n : Int) := by omega
  have s6 : (k : Int) + 3 < (n : Int) := by omega
  have s7 : (k : Int) < (n : Int) := by omega
  have eA := HAE.out
  clear HAE
  subst eA
  go_quiet (fail)
  rw [HM.out]
  clear c0 c1 c2 c3 q1 q2 q3 r1 r2 r3 s1 s2 s3 s4 s5 s6 s7 HC2 HM
  have HB3 := Lib.hid (below_drewN (n := nq) HB2.out)
  generalize w2.drewN nq = w3 at *
  go_wp2
  go_ret3
  exact bytes_none3 HB3.out

include hn hnc hc hA hr ht in
set_option maxRecDepth 100000 in
set_option maxHeartbeats 1000000 in
theorem rframe_torn (h8 : k + 8 ≤ n) (hi : isB l (k + 4) (sumL (cutF l k 4)) = true) (hb : numF l k ≤ 1048576) (hs : n < k + 8 + numF l k + 4) : Calls Tryd.prog 11 #[.slice A n c, .int .i64 k] w (BytesPost3 5 [] 0 10 w) := by
  have HR : Hid (∀ w', Below w.heap.size w w' → RB w' w'.heap.size A n l) := Lib.hid fun w' h => hr.later h
  have HT : Hid (∀ w', Below w.heap.size w w' → TabAt 0 w') := Lib.hid fun w' h => ht.later h
  have HO : Hid (outB n (k : Int) = false) := Lib.hid (outB_no (by omega) (by omega))
  have f1 : Hid (∀ x : List UInt8, [x].flatten = x) := Lib.hid fun x => by simp
  have HN := Lib.hid hn
  have HC1 : Hid (∀ w', Below w.heap.size w w' → RB w' w'.heap.size (A.map (·.add k)) 4 (cutF l k 4)) := Lib.hid fun w' h => by
    have := ((HR.out w' h).drop (k := k) (cap := c) (by omega) hnc).take (m := 4) (by omega)
    rwa [if_neg (by omega)] at this
  have HA1 : Hid (A.map (·.add k) = none → c - k = 0) := Lib.hid fun h => by cases A with
    | none => have := hA rfl; omega
    | some _ => cases h
  have k6 : c ≠ k := by omega
  have k7 : k + 4 - k = 4 := by omega
  have tok1 : True := trivial
  have tok2 : True := trivial
  have HI1 := Lib.hid hi
  obtain ⟨b, o, _, eA, hbb, _, _⟩ := hr.at_ (k := 0) (by omega)
  have HAE := Lib.hid eA
  have hl := hr.len
  obtain ⟨m, hm⟩ : ∃ m, m = numF l k := ⟨_, rfl⟩
  have HC2 : Hid (∀ i, i < 4 → ∀ w', Below w.heap.size w w' → w'.cell? ⟨b, o + (k + i), none⟩ = some (.int .u8 ((l[k + i]?.getD 0).toNat : Int))) := Lib.hid fun i hi w' h =>
    (HAE.out ▸ HR.out w' h).cell (k := k + i) (by rw [List.getElem?_eq_getElem (by omega)]; rfl)
  have HM : Hid (bits .or .i64 (bits .or .i64 (bits .or .i64 (wrap64 (wrap64 ((l[k]?.getD 0).toNat : Int) * 16777216)) (wrap64 (wrap64 ((l[k + 1]?.getD 0).toNat : Int) * 65536))) (wrap64 (wrap64 ((l[k + 2]?.getD 0).toNat : Int) * 256))) (wrap64 ((l[k + 3]?.getD 0).toNat : Int)) = (m : Int)) := Lib.hid (by rw [numB_walk, hm]; rfl)
  have hmb : m ≤ 1048576 := by omega
  have hms : n < k + 8 + m + 4 := by omega
  clear hr ht hA hi hbb eA hb hm hl hs
  go_enter Tryd.func11, Tryd.ntmps11
  go_wp2_with (first
    | (go_at_call 18; go_must (refine (outside_any A n c (k : Int) _).mono ?_); rintro e w0 ⟨rfl, rfl⟩; rw [HO.out])
    | (go_at_call 20; have _t := tok1; go_must (refine (sum_any [cutF l k 4] _ 1 1 _ (by omega) (by exact (rbs_one _ _ 4 (c - k) (cutF l k 4) _ _ (by omega) (by omega) HA1.out (HC1.out _ (Below.refl _ _))).more (by simp)) (HT.out _ ((Below.refl _ _).alloc (Nat.le_refl _) _))).mono ?_); rintro e w1 ⟨rfl, rfl⟩; rw [f1.out]; clear tok1)
    | (go_at_call 21; have _t := tok2; go_must (refine (is_at l A n c (k + 4) (sumL (cutF l k 4)) _ _ (by omega) HN.out hnc (HR.out _ ((Below.refl _ _).alloc (Nat.le_refl _) _)) (by omega) (sumL_lt _)).mono ?_); rintro e w2 ⟨rfl, hb2⟩; rw [HI1.out]; clear tok2; have HB2 := Lib.hid (((Below.refl w.heap.size w).alloc (Nat.le_refl _) (.cells #[.slice (A.map (·.add k)) 4 (c - k)] 25)).trans (hb2.mono (by simp))); clear hb2))
  have c0 := HC2.out 0 (by omega) _ HB2.out
  have c1 := HC2.out 1 (by omega) _ HB2.out
  have c2 := HC2.out 2 (by omega) _ HB2.out
  have c3 := HC2.out 3 (by omega) _ HB2.out
  rw [Nat.add_zero] at c0
  have q1 : IntKind.i64.wrap ((k : Int) + 1) = (k : Int) + 1 := i64_sum (by omega) (by omega)
  have q2 : IntKind.i64.wrap ((k : Int) + 2) = (k : Int) + 2 := i64_sum (by omega) (by omega)
  have q3 : IntKind.i64.wrap ((k : Int) + 3) = (k : Int) + 3 := i64_sum (by omega) (by omega)
  have r1 : ((k : Int) + 1).toNat = k + 1 := by omega
  have r2 : ((k : Int) + 2).toNat = k + 2 := by omega
  have r3 : ((k : Int) + 3).toNat = k + 3 := by omega
  have s1 : (0 : Int) ≤ (k : Int) + 1 := by omega
  have s2 : (0 : Int) ≤ (k : Int) + 2 := by omega
  have s3 : (0 : Int) ≤ (k : Int) + 3 := by omega
  have s4 : (k : Int) + 1 < (n : Int) := by omega
  have s5 : (k : Int) + 2 < (n : Int) := by omega
  have s6 : (k : Int) + 3 < (n : Int) := by omega
  have s7 : (k : Int) < (n : Int) := by omega
  have eA := HAE.out
  clear HAE
  subst eA
  go_quiet (fail)
  rw [HM.out]
  clear c0 c1 c2 c3 q1 q2 q3 r1 r2 r3 s1 s2 s3 s4 s5 s6 s7 HC2 HM
  have HB3 := Lib.hid (below_drewN (n := nq) HB2.out)
  generalize w2.drewN nq = w3 at *
  go_wp2
  go_ret3
  exact bytes_none3 HB3.out

include hn hnc hc hA hr ht in
set_option maxRecDepth 100000 in
set_option maxHeartbeats 1000000 in
theorem rframe_sum2 (h8 : k + 8 ≤ n) (hi : isB l (k + 4) (sumL (cutF l k 4)) = true) (hb : numF l k ≤ 1048576) (hs : k + 8 + numF l k + 4 ≤ n) (hj : isB l (k + 8 + numF l k) (sumL (cutF l (k + 8) (numF l k))) = false) : Calls Tryd.prog 11 #[.slice A n c, .int .i64 k] w (BytesPost3 5 [] 0 12 w) := by
  have HR : Hid (∀ w', Below w.heap.size w w' → RB w' w'.heap.size A n l) := Lib.hid fun w' h => hr.later h
  have HT : Hid (∀ w', Below w.heap.size w w' → TabAt 0 w') := Lib.hid fun w' h => ht.later h
  have HO : Hid (outB n (k : Int) = false) := Lib.hid (outB_no (by omega) (by omega))
  have f1 : Hid (∀ x : List UInt8, [x].flatten = x) := Lib.hid fun x => by simp
  have HN := Lib.hid hn
  have HC1 : Hid (∀ w', Below w.heap.size w w' → RB w' w'.heap.size (A.map (·.add k)) 4 (cutF l k 4)) := Lib.hid fun w' h => by
    have := ((HR.out w' h).drop (k := k) (cap := c) (by omega) hnc).take (m := 4) (by omega)
    rwa [if_neg (by omega)] at this
  have HA1 : Hid (A.map (·.add k) = none → c - k = 0) := Lib.hid fun h => by cases A with
    | none => have := hA rfl; omega
    | some _ => cases h
  have k6 : c ≠ k := by omega
  have k7 : k + 4 - k = 4 := by omega
  have tok1 : True := trivial
  have tok2 : True := trivial
  have HI1 := Lib.hid hi
  obtain ⟨b, o, _, eA, hbb, _, _⟩ := hr.at_ (k := 0) (by omega)
  have HAE := Lib.hid eA
  have hl := hr.len
  obtain ⟨m, hm⟩ : ∃ m, m = numF l k := ⟨_, rfl⟩
  have HC2 : Hid (∀ i, i < 4 → ∀ w', Below w.heap.size w w' → w'.cell? ⟨b, o + (k + i), none⟩ = some (.int .u8 ((l[k + i]?.getD 0).toNat : Int))) := Lib.hid fun i hi w' h =>
    (HAE.out ▸ HR.out w' h).cell (k := k + i) (by rw [List.getElem?_eq_getElem (by omega)]; rfl)
  have HM : Hid (bits .or .i64 (bits .or .i64 (bits .or .i64 (wrap64 (wrap64 ((l[k]?.getD 0).toNat : Int) * 16777216)) (wrap64 (wrap64 ((l[k + 1]?.getD 0).toNat : Int) * 65536))) (wrap64 (wrap64 ((l[k + 2]?.getD 0).toNat : Int) * 256))) (wrap64 ((l[k + 3]?.getD 0).toNat : Int)) = (m : Int)) := Lib.hid (by rw [numB_walk, hm]; rfl)
  have hmb : m ≤ 1048576 := by omega
  have hms : k + 8 + m + 4 ≤ n := by omega
  have HI2 : Hid (isB l (k + 8 + m) (sumL (cutF l (k + 8) m)) = false) := Lib.hid (by rw [hm]; exact hj)
  have HC8 : Hid (∀ w', Below w.heap.size w w' → RB w' w'.heap.size (A.map (·.add (k + 8))) m (cutF l (k + 8) m)) := Lib.hid fun w' h => by
    have := ((HR.out w' h).drop (k := k + 8) (cap := c) (by omega) hnc).take (m := m) (by omega)
    rwa [if_neg (by omega)] at this
  have HA8 : Hid (A.map (·.add (k + 8)) = none → c - (k + 8) = 0) := Lib.hid fun h => by cases A with
    | none => have := hA rfl; omega
    | some _ => cases h
  have k8 : c ≠ k + 8 := by omega
  have k9 : k + 8 + m - (k + 8) = m := by omega
  have HK8 : Hid (m ≤ c - (k + 8) ∧ c - (k + 8) ≤ 9223372036854775807 ∧ k + 8 + m + 4 ≤ n) := Lib.hid (by omega)
  have tok3 : True := trivial
  clear hr ht hA hi hbb eA hb hm hl hs hj
  go_enter Tryd.func11, Tryd.ntmps11
  go_wp2_with (first
    | (go_at_call 18; go_must (refine (outside_any A n c (k : Int) _).mono ?_); rintro e w0 ⟨rfl, rfl⟩; rw [HO.out])
    | (go_at_call 20; have _t := tok1; go_must (refine (sum_any [cutF l k 4] _ 1 1 _ (by omega) (by exact (rbs_one _ _ 4 (c - k) (cutF l k 4) _ _ (by omega) (by omega) HA1.out (HC1.out _ (Below.refl _ _))).more (by simp)) (HT.out _ ((Below.refl _ _).alloc (Nat.le_refl _) _))).mono ?_); rintro e w1 ⟨rfl, rfl⟩; rw [f1.out]; clear tok1)
    | (go_at_call 21; have _t := tok2; go_must (refine (is_at l A n c (k + 4) (sumL (cutF l k 4)) _ _ (by omega) HN.out hnc (HR.out _ ((Below.refl _ _).alloc (Nat.le_refl _) _)) (by omega) (sumL_lt _)).mono ?_); rintro e w2 ⟨rfl, hb2⟩; rw [HI1.out]; clear tok2; have HB2 := Lib.hid (((Below.refl w.heap.size w).alloc (Nat.le_refl _) (.cells #[.slice (A.map (·.add k)) 4 (c - k)] 25)).trans (hb2.mono (by simp))); clear hb2))
  have c0 := HC2.out 0 (by omega) _ HB2.out
  have c1 := HC2.out 1 (by omega) _ HB2.out
  have c2 := HC2.out 2 (by omega) _ HB2.out
  have c3 := HC2.out 3 (by omega) _ HB2.out
  rw [Nat.add_zero] at c0
  have q1 : IntKind.i64.wrap ((k : Int) + 1) = (k : Int) + 1 := i64_sum (by omega) (by omega)
  have q2 : IntKind.i64.wrap ((k : Int) + 2) = (k : Int) + 2 := i64_sum (by omega) (by omega)
  have q3 : IntKind.i64.wrap ((k : Int) + 3) = (k : Int) + 3 := i64_sum (by omega) (by omega)
  have r1 : ((k : Int) + 1).toNat = k + 1 := by omega
  have r2 : ((k : Int) + 2).toNat = k + 2 := by omega
  have r3 : ((k : Int) + 3).toNat = k + 3 := by omega
  have s1 : (0 : Int) ≤ (k : Int) + 1 := by omega
  have s2 : (0 : Int) ≤ (k : Int) + 2 := by omega
  have s3 : (0 : Int) ≤ (k : Int) + 3 := by omega
  have s4 : (k : Int) + 1 < (n : Int) := by omega
  have s5 : (k : Int) + 2 < (n : Int) := by omega
  have s6 : (k : Int) + 3 < (n : Int) := by omega
  have s7 : (k : Int) < (n : Int) := by omega
  have eA := HAE.out
  clear HAE
  subst eA
  go_quiet (fail)
  rw [HM.out]
  clear c0 c1 c2 c3 q1 q2 q3 r1 r2 r3 s1 s2 s3 s4 s5 s6 s7 HC2 HM
  have HB3 := Lib.hid (below_drewN (n := nq) HB2.out)
  generalize w2.drewN nq = w3 at *
  go_wp2_with (first
    | (go_at_call 20; go_must (refine (sum_any [cutF l (k + 8) m] _ 1 1 _ (by omega) (by exact (rbs_one _ _ m (c - (k + 8)) (cutF l (k + 8) m) _ _ HK8.out.1 HK8.out.2.1 HA8.out (HC8.out _ HB3.out)).more (by simp)) (HT.out _ (HB3.out.alloc HB3.out.size _))).mono ?_); rintro e w4 ⟨rfl, rfl⟩; rw [f1.out])
    | (go_at_call 21; have HB4 := Lib.hid (HB3.out.alloc HB3.out.size (.cells #[.slice (some (Addr.add ⟨b, o, none⟩ (k + 8))) m (c - (k + 8))] 25)); go_must (refine (is_at l _ n c (k + 8 + m) (sumL (cutF l (k + 8) m)) _ _ (by omega) HN.out hnc (HR.out _ HB4.out) HK8.out.2.2 (sumL_lt _)).mono ?_); rintro e w5 ⟨rfl, hb5⟩; rw [HI2.out]; have HB5 := Lib.hid (HB4.out.trans (hb5.mono HB4.out.size)); clear hb5))
  go_ret3
  exact bytes_none3 HB5.out

include hn hnc hc hA hr ht in
set_option maxRecDepth 100000 in
set_option maxHeartbeats 1000000 in
theorem rframe_ok (h8 : k + 8 ≤ n) (hi : isB l (k + 4) (sumL (cutF l k 4)) = true) (hb : numF l k ≤ 1048576) (hs : k + 8 + numF l k + 4 ≤ n) (hj : isB l (k + 8 + numF l k) (sumL (cutF l (k + 8) (numF l k))) = true) : Calls Tryd.prog 11 #[.slice A n c, .int .i64 k] w (BytesPost3 5 (cutF l (k + 8) (numF l k)) ((k + 8 + numF l k + 4 : Nat) : Int) 0 w) := by
  have HR : Hid (∀ w', Below w.heap.size w w' → RB w' w'.heap.size A n l) := Lib.hid fun w' h => hr.later h
  have HT : Hid (∀ w', Below w.heap.size w w' → TabAt 0 w') := Lib.hid fun w' h => ht.later h
  have HO : Hid (outB n (k : Int) = false) := Lib.hid (outB_no (by omega) (by omega))
  have f1 : Hid (∀ x : List UInt8, [x].flatten = x) := Lib.hid fun x => by simp
  have HN := Lib.hid hn
  have HC1 : Hid (∀ w', Below w.heap.size w w' → RB w' w'.heap.size (A.map (·.add k)) 4 (cutF l k 4)) := Lib.hid fun w' h => by
    have := ((HR.out w' h).drop (k := k) (cap := c) (by omega) hnc).take (m := 4) (by omega)
    rwa [if_neg (by omega)] at this
  have HA1 : Hid (A.map (·.add k) = none → c - k = 0) := Lib.hid fun h => by cases A with
    | none => have := hA rfl; omega
    | some _ => cases h
  have k6 : c ≠ k := by omega
  have k7 : k + 4 - k = 4 := by omega
  have tok1 : True := trivial
  have tok2 : True := trivial
  have HI1 := Lib.hid hi
  obtain ⟨b, o, _, eA, hbb, _, _⟩ := hr.at_ (k := 0) (by omega)
  have HAE := Lib.hid eA
  have hl := hr.len
  obtain ⟨m, hm⟩ : ∃ m, m = numF l k := ⟨_, rfl⟩
  have HC2 : Hid (∀ i, i < 4 → ∀ w', Below w.heap.size w w' → w'.cell? ⟨b, o + (k + i), none⟩ = some (.int .u8 ((l[k + i]?.getD 0).toNat : Int))) := Lib.hid fun i hi w' h =>
    (HAE.out ▸ HR.out w' h).cell (k := k + i) (by rw [List.getElem?_eq_getElem (by omega)]; rfl)
  have HM : Hid (bits .or .i64 (bits .or .i64 (bits .or .i64 (wrap64 (wrap64 ((l[k]?.getD 0).toNat : Int) * 16777216)) (wrap64 (wrap64 ((l[k + 1]?.getD 0).toNat : Int) * 65536))) (wrap64 (wrap64 ((l[k + 2]?.getD 0).toNat : Int) * 256))) (wrap64 ((l[k + 3]?.getD 0).toNat : Int)) = (m : Int)) := Lib.hid (by rw [numB_walk, hm]; rfl)
  have hmb : m ≤ 1048576 := by omega
  have HMM := Lib.hid hm
  have hms : k + 8 + m + 4 ≤ n := by omega
  have HI2 : Hid (isB l (k + 8 + m) (sumL (cutF l (k + 8) m)) = true) := Lib.hid (by rw [hm]; exact hj)
  have HC8 : Hid (∀ w', Below w.heap.size w w' → RB w' w'.heap.size (A.map (·.add (k + 8))) m (cutF l (k + 8) m)) := Lib.hid fun w' h => by
    have := ((HR.out w' h).drop (k := k + 8) (cap := c) (by omega) hnc).take (m := m) (by omega)
    rwa [if_neg (by omega)] at this
  have HA8 : Hid (A.map (·.add (k + 8)) = none → c - (k + 8) = 0) := Lib.hid fun h => by cases A with
    | none => have := hA rfl; omega
    | some _ => cases h
  have k8 : c ≠ k + 8 := by omega
  have k9 : k + 8 + m - (k + 8) = m := by omega
  have HK8 : Hid (m ≤ c - (k + 8) ∧ c - (k + 8) ≤ 9223372036854775807 ∧ k + 8 + m + 4 ≤ n) := Lib.hid (by omega)
  have tok3 : True := trivial
  clear hr ht hA hi hbb eA hb hm hl hs hj
  go_enter Tryd.func11, Tryd.ntmps11
  go_wp2_with (first
    | (go_at_call 18; go_must (refine (outside_any A n c (k : Int) _).mono ?_); rintro e w0 ⟨rfl, rfl⟩; rw [HO.out])
    | (go_at_call 20; have _t := tok1; go_must (refine (sum_any [cutF l k 4] _ 1 1 _ (by omega) (by exact (rbs_one _ _ 4 (c - k) (cutF l k 4) _ _ (by omega) (by omega) HA1.out (HC1.out _ (Below.refl _ _))).more (by simp)) (HT.out _ ((Below.refl _ _).alloc (Nat.le_refl _) _))).mono ?_); rintro e w1 ⟨rfl, rfl⟩; rw [f1.out]; clear tok1)
    | (go_at_call 21; have _t := tok2; go_must (refine (is_at l A n c (k + 4) (sumL (cutF l k 4)) _ _ (by omega) HN.out hnc (HR.out _ ((Below.refl _ _).alloc (Nat.le_refl _) _)) (by omega) (sumL_lt _)).mono ?_); rintro e w2 ⟨rfl, hb2⟩; rw [HI1.out]; clear tok2; have HB2 := Lib.hid (((Below.refl w.heap.size w).alloc (Nat.le_refl _) (.cells #[.slice (A.map (·.add k)) 4 (c - k)] 25)).trans (hb2.mono (by simp))); clear hb2))
  have c0 := HC2.out 0 (by omega) _ HB2.out
  have c1 := HC2.out 1 (by omega) _ HB2.out
  have c2 := HC2.out 2 (by omega) _ HB2.out
  have c3 := HC2.out 3 (by omega) _ HB2.out
  rw [Nat.add_zero] at c0
  have q1 : IntKind.i64.wrap ((k : Int) + 1) = (k : Int) + 1 := i64_sum (by omega) (by omega)
  have q2 : IntKind.i64.wrap ((k : Int) + 2) = (k : Int) + 2 := i64_sum (by omega) (by omega)
  have q3 : IntKind.i64.wrap ((k : Int) + 3) = (k : Int) + 3 := i64_sum (by omega) (by omega)
  have r1 : ((k : Int) + 1).toNat = k + 1 := by omega
  have r2 : ((k : Int) + 2).toNat = k + 2 := by omega
  have r3 : ((k : Int) + 3).toNat = k + 3 := by omega
  have s1 : (0 : Int) ≤ (k : Int) + 1 := by omega
  have s2 : (0 : Int) ≤ (k : Int) + 2 := by omega
  have s3 : (0 : Int) ≤ (k : Int) + 3 := by omega
  have s4 : (k : Int) + 1 < (n : Int) := by omega
  have s5 : (k : Int) + 2 < (n : Int) := by omega
  have s6 : (k : Int) + 3 < (n : Int) := by omega
  have s7 : (k : Int) < (n : Int) := by omega
  have eA := HAE.out
  clear HAE
  subst eA
  go_quiet (fail)
  rw [HM.out]
  clear c0 c1 c2 c3 q1 q2 q3 r1 r2 r3 s1 s2 s3 s4 s5 s6 s7 HC2 HM
  have HB3 := Lib.hid (below_drewN (n := nq) HB2.out)
  generalize w2.drewN nq = w3 at *
  go_wp2_with (first
    | (go_at_call 20; go_must (refine (sum_any [cutF l (k + 8) m] _ 1 1 _ (by omega) (by exact (rbs_one _ _ m (c - (k + 8)) (cutF l (k + 8) m) _ _ HK8.out.1 HK8.out.2.1 HA8.out (HC8.out _ HB3.out)).more (by simp)) (HT.out _ (HB3.out.alloc HB3.out.size _))).mono ?_); rintro e w4 ⟨rfl, rfl⟩; rw [f1.out])
    | (go_at_call 21; have HB4 := Lib.hid (HB3.out.alloc HB3.out.size (.cells #[.slice (some (Addr.add ⟨b, o, none⟩ (k + 8))) m (c - (k + 8))] 25)); go_must (refine (is_at l _ n c (k + 8 + m) (sumL (cutF l (k + 8) m)) _ _ (by omega) HN.out hnc (HR.out _ HB4.out) HK8.out.2.2 (sumL_lt _)).mono ?_); rintro e w5 ⟨rfl, hb5⟩; rw [HI2.out]; have HB5 := Lib.hid (HB4.out.trans (hb5.mono HB4.out.size)); clear hb5)
    | (go_at_call 22; go_must (refine (clone_any (cutF l (k + 8) m) _ m (c - (k + 8)) _ (by omega) HA8.out (HC8.out _ HB5.out)).mono ?_); rintro e w6 ⟨A6, c6, rfl, hO6, hb6⟩))
  go_ret3
  rw [← HMM.out]
  refine ⟨A6, c6, ?_, ?_, HB5.out.trans (hb6.mono HB5.out.size)⟩
  · rw [show ((k + 8 + m + 4 : Nat) : Int) = (k : Int) + 8 + m + 4 from by omega]; rfl
  · exact hO6.rebase HB5.out.size

end
/-- ReadFrame at any place. -/
theorem rframe_any (l : List UInt8) (A : Option Addr) (n c : Nat) (a : Int) (w : World) (hn : n ≤ 9223372036854775807) (hnc : n ≤ c) (hc : c ≤ 9223372036854775807) (hA : A = none → c = 0) (hr : RB w w.heap.size A n l) (ht : TabAt 0 w) :
    Calls Tryd.prog 11 #[.slice A n c, .int .i64 a] w (BytesPost3 5 (readFA l a).1 ((readFA l a).2.1 : Nat) ((readFA l a).2.2 : Nat) w) := by
  have hl := hr.len
  unfold readFA
  split
  · rename_i h
    exact rframe_out A n c w a (by omega)
  · rename_i h
    obtain ⟨k, rfl⟩ : ∃ k : Nat, a = (k : Int) := ⟨a.toNat, by omega⟩
    rw [Int.toNat_natCast]
    unfold readF
    rw [hl]
    split
    · exact rframe_short A n c k w (by omega) (by omega)
    · split
      · rename_i h8 hi
        exact rframe_sum l A n c k w hn hnc hc hA hr ht (by omega) hi
      · rename_i h8 hi
        have hi : isB l (k + 4) (sumL (cutF l k 4)) = true := by simpa using hi
        split
        · rename_i hb
          exact rframe_big l A n c k w hn hnc hc hA hr ht (by omega) hi hb
        · rename_i hb
          split
          · rename_i hs
            exact rframe_torn l A n c k w hn hnc hc hA hr ht (by omega) hi (by omega) hs
          · rename_i hs
            split
            · rename_i hj
              exact rframe_sum2 l A n c k w hn hnc hc hA hr ht (by omega) hi (by omega) (by omega) hj
            · rename_i hj
              have hj : isB l (k + 8 + numF l k) (sumL (cutF l (k + 8) (numF l k))) = true := by simpa using hj
              exact rframe_ok l A n c k w hn hnc hc hA hr ht (by omega) hi (by omega) (by omega) hj

end Go.Proofs.YtbcljgcilbfblaaDoor
