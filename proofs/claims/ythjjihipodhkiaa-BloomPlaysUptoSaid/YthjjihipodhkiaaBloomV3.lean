/-
  The statements' many, walked.
-/
import Derived.Test.YthjjihipodhkiaaBloomV1
import Derived.Test.YthjjihipodhkiaaBloomS1
namespace Go.Proofs.Ythjjihipodhkiaa
open Go.RowKit

theorem made_nils (L : Nat) : (madeCells (Value.slice none 0 0).cells L).toList = List.replicate L (.slice none 0 0) := by
  have e : (Value.slice none 0 0).cells = #[.slice none 0 0] := rfl
  rw [e]
  apply List.ext_getElem?
  intro i
  simp only [madeCells, List.getElem?_replicate, Array.toList_map, Array.toList_range, List.getElem?_map, List.size_toArray, List.length_cons, List.length_nil, Nat.zero_add, Nat.mod_one]
  by_cases h : i < L
  · rw [if_pos h, List.getElem?_range h]; rfl
  · rw [if_neg h, List.getElem?_eq_none (by simpa using h)]; rfl
theorem nils_rbs {w : World} {base e : Nat} {N : Nat} {g : Nat} (h : w.ownsRow base e 1 (.slice (some ⟨g, 0, none⟩) N N) N (List.replicate N (.slice none 0 0))) : RBs w w.heap.size (some ⟨g, 0, none⟩) N (List.replicate N []) := by
  refine ⟨_, Reads.own h, by simp, fun i k hk => ?_⟩
  have hi : i < N := by have := (List.getElem?_eq_some_iff.1 hk).1; simpa using this
  rw [List.getElem?_replicate, if_pos hi] at hk
  injection hk with hk
  subst hk
  exact ⟨none, 0, by rw [List.getElem?_replicate, if_pos hi]; rfl, Nat.le_refl _, by omega, fun _ => rfl, RB.nil⟩

set_option maxRecDepth 100000 in
set_option maxHeartbeats 1000000 in
theorem many_any (w : World) : Calls Try.prog 22 #[] w fun e w' => e = .returned (.bool true) ∧ Below w.heap.size w w' := by
  obtain ⟨N, hN⟩ : ∃ N : Nat, N = 1048577 := ⟨_, rfl⟩
  have XN := Lib.hid hN
  have hN2 : N ≤ 9223372036854775807 := by omega
  obtain ⟨ks, hks⟩ : ∃ ks : List (List UInt8), ks = List.replicate N [] := ⟨_, rfl⟩
  have hl : ks.length = N := by rw [hks]; simp
  have XK := Lib.hid hks
  have E0 : Hid (buildE 0 ks = 60) := Lib.hid (by unfold buildE; rw [if_pos (by omega)])
  have E1 : Hid (buildE 20 ks = 61) := Lib.hid (by unfold buildE; rw [if_neg (by omega), if_pos (by omega)])
  have tok1 : True := trivial
  clear hN hks hl
  go_enter Try.func22, Try.ntmps22
  go_wp2_with (first
    | (at_make; go_must (refine wpList_make_full _ rfl (.const (.int .i64 1048577)) (.const (.int .i64 1048577)) 22 rfl w.heap.size 24 Try.t24 (.slice none 0 0) 1 Try.underlying22 (by kernel_rfl) rfl rfl .i64 .i64 _ _ N rfl rfl (by rw [XN.out]; rfl) (by rw [XN.out]; rfl) (by show 24 * _ ≤ _; have := XN.out; omega) (by have := XN.out; unfold maxLen; omega) (Nat.le_refl _) ?_); intro w1 hown1 hg1; rw [Nat.mul_one, made_nils] at hown1; have HB1 := Lib.hid (below_grown_none hg1); have HK := Lib.hid (nils_rbs hown1); rw [← XK.out] at HK; clear hown1 hg1)
    | (go_at_call 13; have _t := tok1; go_must (refine (build_any 0 ks _ N N _ hN2 HK.out).mono ?_); rintro e w2 hp; have hp := build_no (by rw [E0.out]; decide) hp; rw [E0.out] at hp; obtain ⟨rfl, hb2⟩ := hp; have HB2 := Lib.hid (HB1.out.trans (hb2.mono HB1.out.size)); have HK2 := Lib.hid (HK.out.later hb2); clear tok1 hb2)
    | (go_at_call 13; go_must (refine (build_any 20 ks _ N N _ hN2 HK2.out).mono ?_); rintro e w3 hp; have hp := build_no (by rw [E1.out]; decide) hp; rw [E1.out] at hp; obtain ⟨rfl, hb3⟩ := hp; have HB3 := Lib.hid (HB2.out.trans (hb3.mono HB2.out.size)); clear hb3)
    | (go_at_call 14; refine (num_any _ _).mono ?_; rintro e wn ⟨rfl, rfl⟩))
  go_ret
  exact ⟨rfl, HB3.out⟩

end Go.Proofs.Ythjjihipodhkiaa
