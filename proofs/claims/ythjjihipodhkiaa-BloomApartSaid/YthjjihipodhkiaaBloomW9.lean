/-
  The statements' 'without', walked.
-/
import Derived.Test.YthjjihipodhkiaaBloomW8
import Derived.Test.YthjjihipodhkiaaKit3
namespace Go.Proofs.Ythjjihipodhkiaa
open Go.RowKit

theorem Try.keyss : SliceOf Try.prog 22 24 1 24 := SliceOf.mk' (z := .slice none 0 0) Try.underlying22 (by kernel_rfl) rfl (by decide)

/-- A new list of keys is left. -/
def KeysPost (w : World) (n : Nat) (ks : List (List UInt8)) (e : Ending) (w' : World) : Prop :=
  ∃ A' c', e = .returned (.slice A' n c') ∧ n ≤ c' ∧ c' ≤ 9223372036854775807 ∧ RBs w' w'.heap.size A' n ks ∧ Below w.heap.size w w'
theorem keys_post {w w' : World} {n m : Nat} {ks : List (List UInt8)} {v : Value} {vs : List Value} (hown : w'.ownsRow w.heap.size 24 1 v m vs) (hK : KV w w.heap.size vs ks) (hb : Below w.heap.size w w') (h : m = n) : KeysPost w n ks (.returned v) w' := by
  subst h
  obtain ⟨A, c, rfl, h1, h2, _, hr⟩ := own_slice hown
  exact ⟨A, c, rfl, h1, h2, (hK.later hb).rbs hr, hb⟩

set_option maxRecDepth 100000 in
set_option maxHeartbeats 400000 in
theorem without_any (ks : List (List UInt8)) (i : Nat) (A : Option Addr) (n c : Nat) (w : World) (hn : n ≤ 1048576) (hi : i < n) (hnc : n ≤ c) (hr : RBs w w.heap.size A n ks) :
    Calls Try.prog 16 #[.slice A n c, .int .i64 i] w (KeysPost w (n - 1) (ks.take i ++ ks.drop (i + 1))) := by
  obtain ⟨vs, hR, hK⟩ := hr.kv
  have hl := hr.len
  have hvl := hK.1
  have T1 := Lib.hid (hR.take1 (m := i) (by omega))
  have T2 := Lib.hid (hR.drop1 (k := i + 1) (cap := c) (by omega) hnc)
  have O1 := Lib.hid (hK.take i).one
  have O2 := Lib.hid (hK.drop (i + 1)).one
  have HK := Lib.hid ((hK.take i).app (hK.drop (i + 1)))
  have N0 := Lib.hid (own_nil w w.heap.size 24 1)
  have tok1 : True := trivial
  clear hR hK hr hvl
  go_enter Try.func16, Try.ntmps16
  go_wp2_with (first
    | (at_builtin; have _t := tok1; refine wpList_append_reads _ rfl (.tmp 6) (.tmp 9) rfl Try.keyss w.heap.size (.slice none 0 0) 0 [] rfl N0.out w.heap.size A i c (vs.take i) rfl T1.out O1.out (by unfold maxLen; omega) (by omega) (Nat.le_refl _) ?_; intro v1 w1 hown1 hg1 hat1; clear tok1; have HB1 := Lib.hid ((Below.refl w.heap.size w).grown hg1 (Nat.le_refl _) (by simp [Value.ownBlock])))
    | (at_builtin; refine wpList_append_reads _ rfl (.tmp 11) (.tmp 15) rfl Try.keyss w.heap.size v1 (0 + i) ([] ++ vs.take i) rfl hown1 w.heap.size _ _ _ (vs.drop (i + 1)) rfl (Reads.below T2.out HB1.out) O2.out (by unfold maxLen; omega) (by omega) HB1.out.size ?_; intro v2 w2 hown2 hg2 hat2))
  all_goals
    go_ret
    refine keys_post hown2 (by rw [List.nil_append]; exact HK.out) (below_app HB1.out hown1 hg2 HB1.out.size (Nat.le_refl _)) (by omega)

end Go.Proofs.Ythjjihipodhkiaa
