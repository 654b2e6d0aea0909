/-
  The statements' tail, kept, sameAll, walked.
-/
import Derived.Test.YtkkfiffgldhahaaDoorKit10
import Derived.Test.YtkkfiffgldhahaaDoorWireW13
import Derived.Deep.RegionHeld3
namespace Go.Proofs.YtkkfiffgldhahaaDoor
open Go.RowKit

theorem Tryd.kss : SliceOf Tryd.prog 37 22 1 24 := SliceOf.mk' (z := .slice none 0 0) Tryd.underlying37 (by kernel_rfl) rfl (by decide)
def mkW (i : Nat) : UInt8 := UInt8.ofNat (1 + i % 250)
def tlW (i : Nat) : UInt8 := UInt8.ofNat (251 + i % 5)
theorem tlW_v (i : Nat) : u8v (tlW i) = .int .u8 (251 + (i : Int) % 5) := by
  unfold u8v tlW
  rw [UInt8.toNat_ofNat', Nat.mod_eq_of_lt (by omega)]
  rw [show ((251 + i % 5 : Nat) : Int) = 251 + (i : Int) % 5 from by omega]
theorem mkW_v (i : Nat) : u8v (mkW i) = .int .u8 (1 + (i : Int) % 250) := by
  unfold u8v mkW
  rw [UInt8.toNat_ofNat', Nat.mod_eq_of_lt (by omega)]
  rw [show ((1 + i % 250 : Nat) : Int) = 1 + (i : Int) % 250 from by omega]

set_option maxRecDepth 100000 in
set_option maxHeartbeats 1000000 in
theorem tail_any (i n : Nat) (w : World) (hi : i ≤ 1000) (hn : n ≤ 1000) : Calls Tryd.prog 57 #[.int .i64 i, .int .i64 n] w (BytesPost 5 (List.replicate n (tlW i)) w) := by
  have HT := Lib.hid (tlW_v i)
  go_enter Tryd.func57, Tryd.ntmps57
  go_wp2
  go_loopw [5] (fun v wr => ∃ k : Nat, k ≤ n ∧ ∃ A c, v = .slice A k c ∧ wr.ownsRow w.heap.size 5 1 (.slice A k c) k (u8s (List.replicate k (tlW i))) ∧ Hid (Below w.heap.size w wr)) (fun v _ => n - (match v with | .slice _ k _ => k | _ => 0))
  case atStart => exact ⟨0, Nat.zero_le _, none, 0, rfl, own_nil _ _ _ _, Lib.hid (Below.refl _ _)⟩
  case round =>
    obtain ⟨k, hk, A, c, rfl, hown, HB⟩ := hrel
    have HO := Lib.hid hown
    clear hown
    by_cases hlt : k < n
    case neg =>
      obtain rfl : k = n := by omega
      have hd : decide ((k : Int) < (k : Int)) = false := decide_eq_false (by omega)
      go_wp2_with fail
      go_ret
      exact bytes_post HO.out HB.out
    have hd : decide ((k : Int) < (n : Int)) = true := decide_eq_true (by omega)
    go_wp2_with (at_builtin; go_must (refine wpList_append_reads _ rfl (.tmp 10) (.tmp 15) rfl Tryd.u8s' w.heap.size (.slice A k c) k (u8s (List.replicate k (tlW i))) rfl (HO.out.alloc _) (wr.heap.size + 1) (some ⟨wr.heap.size, 0, none⟩) 1 1 (u8s [tlW i]) rfl (by exact reads_lit wr _ [tlW i] _ _ (by rw [show u8s [tlW i] = [u8v (tlW i)] from rfl, HT.out])) (u8s_one _) (by unfold maxLen; omega) (by omega) (by have := HB.out.size; simp; omega) ?_); intro v1 w1 hown1 hg1 hat1; have HB1 := Lib.hid (below_app (HB.out.alloc HB.out.size _) (HO.out.alloc _) hg1 (by have := HB.out.size; simp; omega) (Nat.le_refl _)); rw [← u8s_append, ← List.replicate_succ'] at hown1; obtain ⟨A1, c1, rfl, _⟩ := own_slice hown1; have HO1 := Lib.hid hown1; clear hown1 hg1 hat1)
    have hO := HO1.out
    go_roundw
    case rel => exact ⟨k + 1, by omega, A1, c1, rfl, hO, HB1⟩
    case measure => simp; omega

theorem tail_of (i n : Nat) (t : UInt8) (ht : t = tlW i) (w : World) (hi : i ≤ 1000) (hn : n ≤ 1000) : Calls Tryd.prog 57 #[.int .i64 i, .int .i64 n] w (BytesPost 5 (List.replicate n t) w) := by
  subst ht; exact tail_any i n w hi hn

set_option maxRecDepth 100000 in
set_option maxHeartbeats 1000000 in
theorem kept_any (ks : List (List UInt8)) (A : Option Addr) (n c : Nat) (w : World) (hr : RBs w w.heap.size A n ks) (hn : n ≤ 100) (hb : ∀ (i : Nat) k, ks[i]? = some k → k.length ≤ 140737488355000) :
    Calls Tryd.prog 36 #[.slice A n c] w fun e w' => ∃ A' c' rs, e = .returned (.slice A' n c') ∧ LR 5 22 w.heap.size w' A' n c' rs ks ∧ Below w.heap.size w w' := by
  have HR : Hid (∀ w', Below w.heap.size w w' → RBs w' w'.heap.size A n ks) := Lib.hid fun w' h => hr.later h
  have HL := Lib.hid hr.len
  have HKB := Lib.hid hb
  clear hr hb
  go_enter Tryd.func36, Tryd.ntmps36
  go_wp2
  go_loopw [3, 4] (fun v i wr => ∃ (k : Nat) (rs : RowL), k ≤ n ∧ i = .int .i64 k ∧ rs.length = k ∧ Hid (ApSt 5 22 w.heap.size wr v (.slice none 0 0) rs [] []) ∧ Hid (rs.map (·.2.2) = ks.take k) ∧ Hid (Below w.heap.size w wr)) (fun _ i _ => n - (intOf i).toNat)
  case atStart => exact ⟨0, [], Nat.zero_le _, rfl, rfl, Lib.hid (ApSt.nil (Nat.le_refl _)), Lib.hid (by rw [List.take_zero]; rfl), Lib.hid (Below.refl _ _)⟩
  case round =>
    obtain ⟨k, rs, hk, rfl, hrl, HS, HC, HB⟩ := hrel
    obtain ⟨v, hv⟩ : ∃ v, v = u3 := ⟨_, rfl⟩
    rw [← hv] at HS ⊢
    clear hv
    by_cases hlt : k < n
    case neg =>
      obtain rfl : k = n := by omega
      have hd : decide ((k : Int) < (k : Int)) = false := decide_eq_false (by omega)
      obtain ⟨A', c', rfl, hlr⟩ := HS.out.lr (ks := ks) (by rw [HC.out]; exact take_all (by rw [HL.out]; omega)) hrl
      have HLR := Lib.hid hlr
      clear hlr
      go_wp2_with fail
      go_ret
      exact ⟨A', c', rs, rfl, HLR.out, HB.out⟩
    have hd : decide ((k : Int) < (n : Int)) = true := decide_eq_true (by omega)
    obtain ⟨b, o, p, a, cp, rfl, _, hp, hcp, h1, h2, h3, h4⟩ := (HR.out wr HB.out).at_ hlt
    obtain ⟨q, hq⟩ : ∃ q, q = p.length := ⟨_, rfl⟩
    rw [← hq] at hcp h1 h4
    have HP := Lib.hid (Sl.mk h4 h1 h2 h3)
    have hpb : q ≤ 140737488355000 := by rw [hq]; exact HKB.out k p hp
    have HF : Hid (([p] : List (List UInt8)).flatten = p ∧ p.length = q) := Lib.hid ⟨by simp, hq.symm⟩
    have HKP := Lib.hid hp
    clear hp h1 h2 h3 h4 hq
    go_wp2_with (first
      | (go_at_call 23; go_must (refine (join_any [p] _ 1 1 _ (by omega) (HP.out.one _ _) (by rw [HF.out.1, HF.out.2]; omega)).mono ?_); rintro e w2 hz; rw [HF.out.1] at hz; obtain ⟨A2, c2, rfl, _, hO2, hb2⟩ := hz.at_ HF.out.2; have hb0 := (Below.refl wr.heap.size wr).alloc (Nat.le_refl _) (.cells #[.slice a q cp] 22); have HB2 := Lib.hid ((HB.out.trans (hb0.mono HB.out.size)).trans (hb2.mono (Nat.le_trans HB.out.size hb0.size))); have S2 : Hid (ApSt 5 22 w.heap.size w2 v (.slice none 0 0) rs [] [(A2, c2, p)]) := Lib.hid ((HS.out.later hb0).fresh hb2 hO2); clear hz hO2 hb2 hb0)
      | (at_builtin; go_must (refine wpList_append_reads _ rfl (.tmp 11) (.tmp 18) rfl Tryd.kss w.heap.size v rs.length (rs.map valR) rfl (S2.out.ol.alloc _) (w2.heap.size + 1) (some ⟨w2.heap.size, 0, none⟩) 1 1 [.slice A2 q c2] rfl (lit_one8 _ _ _ _ rfl) (by simp [Value.oneCell']) (by unfold maxLen; omega) (by omega) (by have := HB2.out.size; simp; omega) ?_); intro v3 w3 hown3 hg3 hat3; have HB3 := Lib.hid ((HB2.out.alloc HB2.out.size (.cells #[.slice A2 q c2] 22)).grown hg3 (by have := HB2.out.size; simp; omega) (fun g hg => (World.ownsRow.lt S2.out.ol g hg).1)); have S3 := Lib.hid (S2.out.appL (v' := v3) rfl (by simp only [List.map_cons, List.map_nil, valR, HF.out.2]) hown3 hg3 hat3); clear hown3 hg3 hat3))
    go_roundw
    case rel => exact ⟨k + 1, _, by omega, by go_num, by rw [List.length_append, hrl]; rfl, S3, Lib.hid (by rw [List.map_append, HC.out, take_snoc HKP.out]; rfl), HB3⟩
    case measure => simp [intOf]; omega

set_option maxRecDepth 100000 in
set_option maxHeartbeats 1000000 in
theorem sameAll_any (ks : List (List UInt8)) (A B : Option Addr) (n c d : Nat) (w : World) (hr : RBs w w.heap.size A n ks) (hs : RBs w w.heap.size B n ks) (hn : n ≤ 100) :
    Calls Tryd.prog 39 #[.slice A n c, .slice B n d] w fun e w' => e = .returned (.bool true) ∧ Below w.heap.size w w' := by
  have HR : Hid (∀ w', Below w.heap.size w w' → RBs w' w'.heap.size A n ks) := Lib.hid fun w' h => hr.later h
  have HS : Hid (∀ w', Below w.heap.size w w' → RBs w' w'.heap.size B n ks) := Lib.hid fun w' h => hs.later h
  clear hr hs
  have hd0 : ((n : Int) != (n : Int)) = false := by simp
  go_enter Tryd.func39, Tryd.ntmps39
  go_wp2_with fail
  go_loopw [5] (fun i wr => ∃ k : Nat, k ≤ n ∧ i = .int .i64 k ∧ Hid (Below w.heap.size w wr)) (fun i _ => n - (intOf i).toNat)
  case atStart => exact ⟨0, Nat.zero_le _, rfl, Lib.hid (Below.refl _ _)⟩
  case round =>
    obtain ⟨k, hk, rfl, HB⟩ := hrel
    by_cases hlt : k < n
    case neg =>
      have hd : decide ((k : Int) < (n : Int)) = false := decide_eq_false (by omega)
      go_wp2_with fail
      go_ret
      exact ⟨rfl, HB.out⟩
    have hd : decide ((k : Int) < (n : Int)) = true := decide_eq_true (by omega)
    obtain ⟨b, o, p, a, cp, rfl, _, hp, hcp, h1, h2, h3, h4⟩ := (HR.out wr HB.out).at_ hlt
    obtain ⟨b', o', p', a', cp', rfl, _, hp', hcp', h1', h2', h3', h4'⟩ := (HS.out wr HB.out).at_ hlt
    obtain rfl : p = p' := by rw [hp] at hp'; injection hp'
    obtain ⟨q, hq⟩ : ∃ q, q = p.length := ⟨_, rfl⟩
    rw [← hq] at hcp h4 hcp' h4'
    have P1 := Lib.hid h4
    have P2 := Lib.hid h4'
    have XS : Hid ((p == p) = true) := Lib.hid (by simp)
    have hk1 : (k : Int) < (n : Int) := by omega
    have hk2 : (0 : Int) ≤ (k : Int) := by omega
    clear hp hp' h1 h2 h3 h4 h1' h2' h3' h4' hq
    go_wp2_with fail
    go_region_held3 (fun w' => wr.cell? ⟨b, o + k, none⟩ = w'.cell? ⟨b, o + k, none⟩ ∧ w'.cell? ⟨b, o + k, none⟩ = some (.slice a q cp) ∧ w'.cell? ⟨b', o' + k, none⟩ = some (.slice a' q cp') ∧ Below wr.heap.size wr w') (first | assumption | exact ⟨rfl, hcp, hcp', (Below.refl _ _).drew⟩) (first
      | (go_at_call 24; refine (same_any p p a a' q cp q cp' _ (P1.out.later (And.right (And.right (And.right ‹_ ∧ _ ∧ _ ∧ Below wr.heap.size wr _›)))) (P2.out.later (And.right (And.right (And.right ‹_ ∧ _ ∧ _ ∧ Below wr.heap.size wr _›))))).mono ?_; rw [XS.out]; rintro e wn ⟨rfl, rfl⟩))
    all_goals
      have HB9 := Lib.hid (HB.out.trans ((And.right (And.right (And.right ‹_ ∧ _ ∧ _ ∧ Below wr.heap.size wr _›))).mono HB.out.size))
      go_wp2_with fail
      go_roundw
      case rel => exact ⟨k + 1, by omega, by go_num, HB9⟩
      case measure => simp [intOf]; omega

end Go.Proofs.YtkkfiffgldhahaaDoor
