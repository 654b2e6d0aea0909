/-
  wire.outside, wire.low, wire.is; bytes.Equal, bytes.Clone; the statements' num, same, join; walked.
-/
import Derived.Test.YtbcljgcilbfblaaDoorWireW1
import Derived.Deep.RegionWith
import Derived.Deep.RegionLaw
namespace Go.Proofs.YtbcljgcilbfblaaDoor
open Go.RowKit

theorem Tryd.u8s' : SliceOf Tryd.prog 25 5 1 1 := SliceOf.mk' (z := .int .u8 0) Tryd.underlying25 (by kernel_rfl) rfl (by decide)

/-- Is a place none of n bytes'? -/
def outB (n : Nat) (a : Int) : Bool := decide (a < 0) || decide ((n : Int) < a)
theorem outB_no {n : Nat} {a : Int} (h1 : 0 ≤ a) (h2 : a ≤ n) : outB n a = false := by
  unfold outB; simp; omega
theorem outB_neg {n : Nat} {a : Int} (h : a < 0) : outB n a = true := by unfold outB; simp [h]
theorem outB_big {n : Nat} {a : Int} (h : (n : Int) < a) : outB n a = true := by unfold outB; simp [h]

set_option maxRecDepth 100000 in
theorem outside_any (A : Option Addr) (n c : Nat) (a : Int) (w : World) : Calls Tryd.prog 18 #[.slice A n c, .int .i64 a] w fun e w' => e = .returned (.bool (outB n a)) ∧ w = w' := by
  by_cases h : a < 0
  · have H := Lib.hid (outB_neg (n := n) h)
    have hd : decide (a < 0) = true := decide_eq_true h
    go_enter Tryd.func18, Tryd.ntmps18
    go_wp2
    go_ret
    exact ⟨by rw [H.out]; rfl, rfl⟩
  · have hd : decide (a < 0) = false := decide_eq_false h
    have H : Hid (outB n a = decide ((n : Int) < a)) := Lib.hid (by unfold outB; rw [hd]; rfl)
    go_enter Tryd.func18, Tryd.ntmps18
    go_wp2
    go_ret
    exact ⟨by rw [H.out]; rfl, rfl⟩

set_option maxRecDepth 100000 in
theorem num_any (x : Int) (w : World) : Calls Tryd.prog 12 #[.int .i64 x] w fun e w' => e = .returned (.int .i64 x) ∧ w = w' := by
  go_enter Tryd.func12, Tryd.ntmps12
  go_wp2
  go_ret
  exact ⟨rfl, rfl⟩

set_option maxRecDepth 100000 in
theorem same_any (a b : List UInt8) (A B : Option Addr) (n c m d : Nat) (w : World) (ha : RB w w.heap.size A n a) (hb : RB w w.heap.size B m b) :
    Calls Tryd.prog 13 #[.slice A n c, .slice B m d] w fun e w' => e = .returned (.bool (a == b)) ∧ w = w' := by
  have tok1 : True := trivial
  go_enter Tryd.func13, Tryd.ntmps13
  go_wp2_with (first
    | (have _t := tok1; refine wpList_string_reads rfl _ 25 9 5 rfl Tryd.underlying25 Tryd.underlying5 Tryd.underlying9 rfl ha ?_; clear tok1)
    | (refine wpList_string_reads rfl _ 25 9 5 rfl Tryd.underlying25 Tryd.underlying5 Tryd.underlying9 rfl hb ?_))
  go_ret
  exact ⟨rfl, rfl⟩

set_option maxRecDepth 100000 in
theorem equal_any (a b : List UInt8) (A B : Option Addr) (n c m d : Nat) (w : World) (ha : RB w w.heap.size A n a) (hb : RB w w.heap.size B m b) :
    Calls Tryd.prog 44 #[.slice A n c, .slice B m d] w fun e w' => e = .returned (.bool (a == b)) ∧ w = w' := by
  have tok1 : True := trivial
  go_enter Tryd.func44, Tryd.ntmps44
  go_wp2_with (first
    | (have _t := tok1; refine wpList_string_reads rfl _ 25 9 5 rfl Tryd.underlying25 Tryd.underlying5 Tryd.underlying9 rfl ha ?_; clear tok1)
    | (refine wpList_string_reads rfl _ 25 9 5 rfl Tryd.underlying25 Tryd.underlying5 Tryd.underlying9 rfl hb ?_))
  go_ret
  exact ⟨rfl, rfl⟩

set_option maxRecDepth 100000 in
set_option maxHeartbeats 400000 in
theorem clone_any (l : List UInt8) (A : Option Addr) (n c : Nat) (w : World) (hn : n ≤ 140737488355328) (hA : A = none → c = 0) (hr : RB w w.heap.size A n l) :
    Calls Tryd.prog 22 #[.slice A n c] w (BytesPost 5 l w) := by
  have hl := hr.len
  have hnil := fun (w' : World) => Lib.run_eql_slice_nil (P := Tryd.prog) w' 25 5 A n c 0 0 Tryd.underlying25
  cases A with
  | none =>
    obtain rfl := hA rfl
    have hn0 : n = 0 := by
      rcases Nat.eq_zero_or_pos n with h0 | h0
      · exact h0
      · obtain ⟨_, _, e, _⟩ := hr.2 h0
        cases e
    subst hn0
    have H : Hid (BytesPost 5 l w (.returned (.slice none 0 0)) w) := Lib.hid (by
      have hl0 : l = [] := List.eq_nil_of_length_eq_zero hl
      subst hl0
      exact bytes_post (n := 0) (own_nil _ _ _ _) (Below.refl _ _))
    clear hr hl
    go_enter Tryd.func22, Tryd.ntmps22
    go_wp2
    go_ret
    exact H.out
  | some ad =>
    have O1 := Lib.hid (u8s_one l)
    have HO : Hid ((w.alloc (.cells #[] 5)).ownsRow w.heap.size 5 1 (.slice (some ⟨w.heap.size, 0, none⟩) 0 0) 0 []) := Lib.hid (World.ownsRow_made w #[] 0 (Nat.le_refl _) (by decide) rfl)
    have HR : Hid (RB (w.alloc (.cells #[] 5)) w.heap.size (some ad) n l) := Lib.hid (Reads.alloc hr (Nat.le_refl _) _)
    clear hr hA
    go_enter Tryd.func22, Tryd.ntmps22
    go_wp2_with (at_builtin; refine wpList_append_reads _ rfl (.tmp 5) (.tmp 6) rfl Tryd.u8s' w.heap.size (.slice (some ⟨w.heap.size, 0, none⟩) 0 0) 0 [] rfl HO.out w.heap.size (some ad) n c (u8s l) rfl HR.out O1.out (by unfold maxLen; omega) (by omega) (by simp) ?_; intro v1 w1 hown1 hg1 hat1)
    go_ret
    rw [List.nil_append] at hown1
    exact bytes_post hown1 (below_app ((Below.refl _ _).alloc (Nat.le_refl _) _) HO.out hg1 (by simp) (Nat.le_refl _))

set_option maxRecDepth 100000 in
set_option maxHeartbeats 400000 in
theorem low_any (base n s : Nat) (v : Value) (xs : List Value) (w : World) (hn : n ≤ 140737488355324) (hown : w.ownsRow base 5 1 v n xs) (hbase : base ≤ w.heap.size) (hs : s < 4294967296) :
    Calls Tryd.prog 19 #[v, .int .u32 s] w fun e w' => ∃ v', e = .returned v' ∧ w'.ownsRow base 5 1 v' (n + 4) (xs ++ u8s (lowB s)) ∧ w.grownBy w' v.ownBlock := by
  have e0 := Lib.hid (u8v_mod s)
  have e1 := Lib.hid (u8v_mod (s / 256))
  have e2 := Lib.hid (u8v_mod (s / 65536))
  have e3 := Lib.hid (u8v_mod (s / 16777216))
  have hL : Hid (u8s (lowB s) = [.int .u8 ((s : Int) % 256), .int .u8 ((s : Int) / 256 % 256), .int .u8 ((s : Int) / 65536 % 256), .int .u8 ((s : Int) / 16777216)]) := Lib.hid (by
    show [u8v _, u8v _, u8v _, u8v _] = _
    rw [e0.out, e1.out, e2.out, e3.out]; simp only [Int.natCast_ediv]; rw [show ((s : Int) / ((16777216 : Nat) : Int) % 256) = (s : Int) / 16777216 from by omega]; rfl)
  have HO := Lib.hid hown
  clear hown
  go_enter Tryd.func19, Tryd.ntmps19
  go_wp2_with (at_builtin; refine wpList_append_reads _ rfl (.tmp 5) (.tmp 17) rfl Tryd.u8s' base v n xs rfl (HO.out.alloc _) (w.heap.size + 1) (some ⟨w.heap.size, 0, none⟩) 4 4 (u8s (lowB s)) rfl (by exact reads_lit w _ (lowB s) _ _ (by rw [hL.out])) (u8s_one _) (by unfold maxLen; omega) (by omega) (by simp; omega) ?_; intro v1 w1 hown1 hg1 hat1)
  go_ret
  exact ⟨v1, rfl, hown1, grown_trans (World.grownBy_alloc w _ _) hg1⟩

set_option maxRecDepth 100000 in
set_option maxHeartbeats 400000 in
theorem is_any (l : List UInt8) (A : Option Addr) (n c k s : Nat) (w : World) (hn : n ≤ 9223372036854775807) (hnc : n ≤ c) (hr : RB w w.heap.size A n l) (hk : k + 4 ≤ n) (hs : s < 4294967296) :
    Calls Tryd.prog 21 #[.slice A n c, .int .i64 k, .int .u32 s] w fun e w' => e = .returned (.bool (isB l k s)) ∧ Below w.heap.size w w' := by
  have HR : Hid (∀ w', Below w.heap.size w w' → RB w' w'.heap.size A n l) := Lib.hid fun w' h => hr.later h
  clear hr
  have hS : Hid (∀ w', Below w.heap.size w w' → RB w' w'.heap.size (A.map (·.add k)) 4 ((l.drop k).take 4)) := Lib.hid fun w' h => by
    have := ((HR.out w' h).drop (k := k) (cap := c) (by omega) hnc).take (m := 4) (by omega)
    rwa [if_neg (by omega)] at this
  have k0 : IntKind.i64.wrap ((k : Int) + 4) = (k : Int) + 4 := IntWalk.i64_in _ (by omega)
  have k1 : (0 : Int) ≤ (k : Int) + 4 := by omega
  have k2 : (k : Int) + 4 ≤ (c : Int) := by omega
  have k3 : ((k : Int) + 4).toNat = k + 4 := by omega
  have k4 : k ≤ k + 4 := by omega
  have k5 : k + 4 - k = 4 := by omega
  have k6 : c ≠ k := by omega
  clear hn hnc hk
  go_enter Tryd.func21, Tryd.ntmps21
  go_wp2
  go_region_with (first
    | (go_at_call 19; refine (low_any w.heap.size 0 s (.slice none 0 0) [] _ (by omega) (own_nil _ _ _ _) (by simp) hs).mono ?_; rintro e w1 ⟨v1, rfl, hown1, hg1⟩; rw [List.nil_append] at hown1; obtain ⟨A1, c1, rfl, hO1⟩ := own_bytes hown1; clear hown1)
    | (go_at_call 44; have HB := Lib.hid (below_grown_drew hg1); clear hg1; refine (equal_any ((l.drop k).take 4) (lowB s) _ _ 4 _ _ _ _ (hS.out _ HB.out) hO1.rb).mono ?_; rintro e w2 ⟨rfl, rfl⟩))
  go_wp2
  go_ret
  exact ⟨rfl, HB.out⟩

theorem is_at (l : List UInt8) (A : Option Addr) (n c k s : Nat) (w : World) (a : Int) (ha : a = (k : Int)) (hn : n ≤ 9223372036854775807) (hnc : n ≤ c) (hr : RB w w.heap.size A n l) (hk : k + 4 ≤ n) (hs : s < 4294967296) :
    Calls Tryd.prog 21 #[.slice A n c, .int .i64 a, .int .u32 s] w fun e w' => e = .returned (.bool (isB l k s)) ∧ Below w.heap.size w w' := by
  subst ha
  exact is_any l A n c k s w hn hnc hr hk hs

end Go.Proofs.YtbcljgcilbfblaaDoor
