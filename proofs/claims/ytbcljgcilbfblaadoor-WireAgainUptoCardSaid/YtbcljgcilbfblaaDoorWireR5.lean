/-
  The reference's Sealed, Frame, ReadFrame, walked.
-/
import Derived.Test.YtbcljgcilbfblaaDoorWireR4
import Derived.Test.YtbcljgcilbfblaaDoorWireP10
import Derived.Test.YtbcljgcilbfblaaDoorWireR2
import Derived.Deep.RegionWith
namespace Go.Proofs.YtbcljgcilbfblaaDoor
open Go.RowKit

set_option maxRecDepth 100000 in
set_option maxHeartbeats 1000000 in
theorem sealed_any (l : List UInt8) (A : Option Addr) (n c : Nat) (w : World) (hs : Sl w A n c l) :
    Calls Tryd.prog 49 #[.slice A n c] w (BytesPost 5 (lowB (sumL l)) w) := by
  have f1 : Hid (∀ x : List UInt8, [x].flatten = x) := Lib.hid fun x => by simp
  have HS := Lib.hid hs
  obtain ⟨s, hsl⟩ : ∃ s, s = sumL l := ⟨_, rfl⟩
  have HSL := Lib.hid hsl
  have hs32 : s < 4294967296 := by rw [hsl]; exact sumL_lt l
  have hL : Hid (u8s (lowB s) = [.int .u8 ((s : Int) % 256), .int .u8 ((s : Int) / 256 % 256), .int .u8 ((s : Int) / 65536 % 256), .int .u8 ((s : Int) / 16777216)]) := Lib.hid (by
    show [u8v _, u8v _, u8v _, u8v _] = _
    rw [u8v_mod, u8v_mod, u8v_mod, u8v_mod]; simp only [Int.natCast_ediv]; rw [show ((s : Int) / ((16777216 : Nat) : Int) % 256) = (s : Int) / 16777216 from by omega]; rfl)
  rw [← hsl]
  clear hs hsl
  go_enter Tryd.func49, Tryd.ntmps49
  go_wp2_with (go_at_call 41; go_must (refine (rSum_any [l] _ 1 1 _ (by omega) (by exact HS.out.one _ _)).mono ?_); rintro e w1 ⟨rfl, rfl⟩; rw [f1.out, ← HSL.out])
  go_ret
  refine ⟨_, _, rfl, ?_, (((Below.refl _ _).alloc (Nat.le_refl _) _).alloc (by simp) _)⟩
  show World.ownsRow _ _ _ _ _ _ _
  rw [hL.out]
  have h := own_lit (w.alloc (.cells #[.slice A n c] 25)) #[.int .u8 ((s : Int) % 256), .int .u8 ((s : Int) / 256 % 256), .int .u8 ((s : Int) / 65536 % 256), .int .u8 ((s : Int) / 16777216)] 5 w.heap.size 4 1 (by simp) (by decide) rfl
  rw [World.size_alloc] at h
  exact h

theorem own_base {T : TypeId} {b b' : Nat} {w : World} {A : Option Addr} {c : Nat} {l : List UInt8} (h : OwnB T b w A c l) (hb : b' ≤ b) : OwnB T b' w A c l := by
  refine ⟨h.1, ?_⟩
  rcases h.2 with h | ⟨g, cap, cur, hv, hg, h⟩
  · exact .inl h
  · exact .inr ⟨g, cap, cur, hv, Nat.le_trans hb hg, h⟩
theorem ris_drop (n : Nat) (_h : n < 4294967296) : (risB n).drop 4 = be4 n := by
  simp [risB, rTo, List.range_succ, be4]
theorem be4_cutS (n : Nat) : cutS (be4 n) 0 (4 - 0) = be4 n := rfl

set_option maxRecDepth 100000 in
set_option maxHeartbeats 2000000 in
theorem rFrame_any (l : List UInt8) (A : Option Addr) (n c : Nat) (w : World) (hs : Sl w A n c l) :
    Calls Tryd.prog 42 #[.slice A n c] w (BytesPost2 5 (frameR l) (frameE l) w) := by
  have hl := hs.len
  have hcap := hs.cap
  have hlim := hs.lim
  by_cases hbig : 1048576 < n
  · have H : Hid (BytesPost2 5 (frameR l) (frameE l) w (.returned (.tuple #[.slice none 0 0, .int .i64 2])) w) := Lib.hid (by
      unfold frameR frameE
      rw [if_neg (by omega), if_neg (by omega)]
      exact bytes_none2 (Below.refl _ _))
    clear hs hl hcap hlim
    go_enter Tryd.func42, Tryd.ntmps42
    go_wp2
    go_ret2
    exact H.out
  have hR : Hid (frameR l = frameB l ∧ frameE l = 0) := Lib.hid (by unfold frameR frameE; rw [if_pos (by omega), if_pos (by omega)]; exact ⟨rfl, rfl⟩)
  have HS : Hid (∀ w', Below w.heap.size w w' → Sl w' A n c l) := Lib.hid fun w' h => hs.later h
  have HRD := Lib.hid (ris_drop n (by omega))
  have HL := Lib.hid hl
  have hn' : n ≤ 1048576 := by omega
  have tok1 : True := trivial
  have tok2 : True := trivial
  have tok3 : True := trivial
  have e1 : IntKind.u64.wrap (n : Int) = (n : Int) := by rw [IntKind.wrap_u64]; omega
  clear hs hl hcap hlim hbig
  go_enter Tryd.func42, Tryd.ntmps42
  go_wp2_with (first
    | (go_at_call 46; go_must (refine (eight_of n _ (by omega) _ (by omega)).mono ?_); rintro e w1 hp; obtain ⟨A1, c1, rfl, hS1, _, hb1⟩ := BytesPost.at_ (n := 8) hp (rTo_len8 n); have hc1 := hS1.cap; have hne1 : c1 ≠ 4 := (by omega); have HS1 : Hid (Sl w1 (A1.map (·.add 4)) 4 (c1 - 4) (be4 n)) := Lib.hid (by have h9 := hS1.drop (k := 4) (by omega) (by omega); rw [HRD.out] at h9; exact h9); have HB1 := Lib.hid hb1; clear hp hS1 hb1)
    | (go_at_call 48; go_must (refine (part_any (be4 n) _ 4 (c1 - 4) 0 4 _ _ rfl rfl _ HS1.out (by omega) (by omega) (by omega)).mono ?_); rintro e w2 hp; rw [be4_cutS] at hp; obtain ⟨A2, c2, rfl, _, hO2, hb2⟩ := BytesPost.at_ (n := 4) hp rfl; have HB2 := Lib.hid (HB1.out.trans (hb2.mono HB1.out.size)); have HO2 : Hid (w2.ownsRow w.heap.size 5 1 (.slice A2 4 c2) 4 (u8s (be4 n))) := Lib.hid (own_base hO2 HB1.out.size); have HS2 := Lib.hid (HS1.out.later hb2); clear hp hO2 hb2)
    | (go_at_call 49; have _t := tok1; go_must (refine (sealed_any (be4 n) _ 4 (c1 - 4) _ HS2.out).mono ?_); rintro e w3 hp; obtain ⟨A3, c3, rfl, hS3, _, hb3⟩ := BytesPost.at_ (n := 4) hp rfl; clear tok1; have HB3 := Lib.hid (HB2.out.trans (hb3.mono HB2.out.size)); have HS3 := Lib.hid hS3; have HO3 := Lib.hid (own_below HO2.out hb3); clear hp hS3 hb3)
    | (at_builtin; have _t := tok2; go_must (refine wpList_append_reads _ rfl (.tmp 15) (.tmp 17) rfl Tryd.u8s' w.heap.size (.slice A2 4 c2) 4 (u8s (be4 n)) rfl HO3.out _ A3 4 c3 (u8s (lowB (sumL (be4 n)))) rfl HS3.out.rb (u8s_one _) (by decide) (by decide) HB3.out.size ?_); intro v4 w4 hown4 hg4 hat4; clear tok2; have HB4 := Lib.hid (below_app HB3.out HO3.out hg4 HB3.out.size (Nat.le_refl _)); rw [← u8s_append] at hown4; obtain ⟨L4, A4, c4, E4, N4, rfl, hO4⟩ := own_named hown4; have HO4 := Lib.hid hO4; clear hown4 hg4 hat4 hO4)
    | (at_builtin; have _t := tok3; go_must (refine wpList_append_reads _ rfl (.tmp 19) (.tmp 20) rfl Tryd.u8s' w.heap.size (.slice A4 L4.length c4) L4.length (u8s L4) rfl HO4.out _ A n c (u8s l) rfl (HS.out _ HB4.out).rb (u8s_one _) (by rw [N4.out]; show 4 + 4 + n ≤ _; unfold maxLen; omega) (by rw [N4.out]; show (4 + 4 + n) * 1 ≤ _; omega) HB4.out.size ?_); intro v5 w5 hown5 hg5 hat5; clear tok3; have HB5 := Lib.hid (below_app HB4.out HO4.out hg5 HB4.out.size (Nat.le_refl _)); rw [← u8s_append] at hown5; obtain ⟨L5, A5, c5, E5, N5, rfl, hO5⟩ := own_named hown5; have HO5 := Lib.hid hO5; clear hown5 hg5 hat5 hO5)
    | (go_at_call 49; go_must (refine (sealed_any l A n c _ (HS.out _ HB5.out)).mono ?_); rintro e w6 hp; obtain ⟨A6, c6, rfl, hS6, _, hb6⟩ := BytesPost.at_ (n := 4) hp rfl; have HB6 := Lib.hid (HB5.out.trans (hb6.mono HB5.out.size)); have HS6 := Lib.hid hS6; have HO6 := Lib.hid (own_below HO5.out hb6); clear hp hS6 hb6)
    | (at_builtin; go_must (refine wpList_append_reads _ rfl (.tmp 22) (.tmp 24) rfl Tryd.u8s' w.heap.size (.slice A5 L5.length c5) L5.length (u8s L5) rfl HO6.out _ A6 4 c6 (u8s (lowB (sumL l))) rfl HS6.out.rb (u8s_one _) (by rw [N5.out, N4.out]; show 4 + 4 + n + 4 ≤ _; unfold maxLen; omega) (by rw [N5.out, N4.out]; show (4 + 4 + n + 4) * 1 ≤ _; omega) HB6.out.size ?_); intro v7 w7 hown7 hg7 hat7; have HB7 := Lib.hid (below_app HB6.out HO6.out hg7 HB6.out.size (Nat.le_refl _)); rw [← u8s_append] at hown7; have HO7 := Lib.hid hown7; clear hown7 hg7 hat7))
  go_ret2
  rw [hR.out.1, hR.out.2]
  have hE : L5 ++ lowB (sumL l) = frameB l := by unfold frameB headF; rw [HL.out, E5.out, E4.out]
  exact bytes_post2 (hE ▸ HO7.out) HB7.out

theorem isB_same (l : List UInt8) (k s : Nat) : (lowB s == cutF l k 4) = isB l k s := by
  unfold isB cutF
  rw [Bool.eq_iff_iff, beq_iff_eq, beq_iff_eq]
  exact ⟨Eq.symm, Eq.symm⟩
theorem big_four (l : List UInt8) (k : Nat) (h : k + 4 ≤ l.length) : big (cutS l k 4) = numF l k := by
  unfold cutS numF numB
  obtain ⟨t, ht⟩ : ∃ t, t = l.drop k := ⟨_, rfl⟩
  have hl : 4 ≤ t.length := by rw [ht, List.length_drop]; omega
  have e : ∀ j, l[k + j]? = t[j]? := fun j => by rw [ht, List.getElem?_drop]
  rw [← ht, show l[k]? = t[0]? from e 0, e 1, e 2, e 3]
  match t, hl with
  | a :: b :: c :: d :: r, _ => simp [big]
theorem cut_sl {w : World} {A : Option Addr} {n c k m : Nat} {l : List UInt8} (h : Sl w A n c l) (h1 : k + m ≤ n) (hk : k < c) : Sl w (A.map (·.add k)) m (c - k) (cutF l k m) :=
  (h.drop (k := k) (by omega) hk).take (m := m) (by omega)

end Go.Proofs.YtbcljgcilbfblaaDoor
