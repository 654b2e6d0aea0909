/-
  One place in memory that is lent anew (Desk): mark, Lend, Back, Wipe, walked.
-/
import Derived.Test.YtbcljgcilbfblaaDoorWireW2
import Derived.Test.YtbcljgcilbfblaaDoorWireW11
import Derived.Test.YtbcljgcilbfblaaDoorKitA
import Derived.Deep.DeepCutAuto
import Derived.Outline
import Derived.Deep.CutBlock
namespace Go.Proofs.YtbcljgcilbfblaaDoor
open Go.RowKit

/-- What lies at a place behind what is lent. -/
def mkb (i : Nat) : UInt8 := UInt8.ofNat ((203 - 5 * (i : Int)) % 256).toNat
theorem mkb_v (i : Nat) : (203 - 5 * (i : Int)) % 256 = ((mkb i).toNat : Int) := by
  unfold mkb
  rw [UInt8.toNat_ofNat', Nat.mod_eq_of_lt (by omega)]
  omega
/-- What is lent lies at the beginning, marks behind it. -/
def LentL (l b : List UInt8) : Prop := b.length ≤ l.length ∧ l.take b.length = b ∧ ∀ j, b.length ≤ j → j < l.length → l[j]? = some (mkb j)
theorem lent_of {l b : List UInt8} {n m : Nat} (hl : l.length = n) (hb : b.length = m) (hm : m ≤ n) (h : ∀ i, i < n → l[i]? = some (mkb i)) : (b ++ l.drop m).length = n ∧ LentL (b ++ l.drop m) b := by
  subst hl; subst hb
  have e : (b ++ l.drop b.length).length = l.length := by rw [List.length_append, List.length_drop]; omega
  refine ⟨e, by rw [e]; exact hm, by simp, fun j h1 h2 => ?_⟩
  rw [List.getElem?_append_right h1, List.getElem?_drop, show b.length + (j - b.length) = j from by omega]
  exact h j (by omega)
theorem u8s_setG (l : List UInt8) (k : Nat) (x : UInt8) : (u8s l).set k (u8v x) = u8s (l.set k x) := by
  unfold u8s; rw [List.map_set]
theorem u8s_lenG (l : List UInt8) : (u8s l).length = l.length := by simp [u8s]
theorem zerosG (L : Nat) : (madeCells (Value.int IntKind.u8 0).cells (L * 1)).toList = u8s (List.replicate L 0) := by
  rw [Nat.mul_one, made_zeros]
theorem row_lenG {w x : World} {os : List Ob} {T : TypeId} {v : Value} {n i : Nat} {l : List UInt8} (h : OW w os x) (hi : os[i]? = some (rowO T 1 v n (u8s l))) : l.length = n := by
  have := (h.row hi).1
  rw [u8s_lenG] at this
  omega
theorem row_capG {w x : World} {os : List Ob} {T : TypeId} {A : Option Addr} {n c i : Nat} {l : List Value} (h : OW w os x) (hi : os[i]? = some (rowO T 1 (.slice A n c) n l)) : n ≤ c ∧ c ≤ 9223372036854775807 ∧ (A = none → c = 0) := by
  rcases (h.row hi).2 with ⟨hv, h0⟩ | ⟨g, cap, cur, hv, hb, hg, hc, hm, _⟩
  · injection hv with h1 h2 h3
    subst h1 h3
    exact ⟨by omega, by omega, fun _ => rfl⟩
  · injection hv with h1 h2 h3
    subst h1 h3
    unfold maxLen at hm
    exact ⟨hc, by omega, fun e => nomatch e⟩
/-- What was lent is read. -/
theorem lent_sl {w x : World} {os : List Ob} {A : Option Addr} {T : TypeId} {n c i : Nat} {l b : List UInt8} (h : OW w os x) (hi : os[i]? = some (rowO T 1 (.slice A n c) n (u8s l))) (hl : LentL l b) {m : Nat} (hm : b.length = m) : Sl x A m c b := by
  have hr : RB x x.heap.size A n l := Reads.own (h.row hi)
  obtain ⟨h1, h2, h3⟩ := row_capG h hi
  have hn := row_lenG h hi
  have hs : Sl x A n c l := ⟨hr, h1, h2, h3⟩
  have h4 := hs.take (m := m) (by have := hl.1; omega)
  rw [← hm, hl.2.1] at h4
  exact hm ▸ h4
theorem xor_any (x : UInt8) : ∃ u : UInt8, bits .xor .u8 (x.toNat : Int) 255 = (u.toNat : Int) := by
  have hx := x.toNat_lt
  have hb : x.toNat ^^^ 255 < 256 := Nat.xor_lt_two_pow (n := 8) (by omega) (by omega)
  refine ⟨UInt8.ofNat (x.toNat ^^^ 255), ?_⟩
  rw [UInt8.toNat_ofNat', Nat.mod_eq_of_lt hb]
  exact u8_xor_nat _ 255 (by omega) (by omega)

set_option maxRecDepth 100000 in
theorem mark_any (i : Nat) (w : World) (hi : i ≤ 100000000) :
    Calls Tryd.prog 15 #[.int .i64 i] w fun e w' => e = .returned (.int .u8 ((mkb i).toNat : Int)) ∧ w = w' := by
  have q1 : IntKind.i64.wrap (5 * (i : Int)) = 5 * (i : Int) := i64_sum (by omega) (by omega)
  have q2 : IntKind.i64.wrap (203 - 5 * (i : Int)) = 203 - 5 * (i : Int) := i64_sum (by omega) (by omega)
  have HV := Lib.hid (mkb_v i)
  go_enter Tryd.func15, Tryd.ntmps15
  go_wp2
  go_ret
  exact ⟨by rw [← HV.out]; rfl, rfl⟩

set_option maxRecDepth 100000 in
set_option maxHeartbeats 4000000 in
theorem lend_any (g m n c N bc : Nat) (b l : List UInt8) (A B : Option Addr) (w x : World) (os : List Ob) (h : OW w (boxO g [.slice A n c, .int .i64 (N : Int)] :: rowO 5 1 (.slice A n c) n (u8s l) :: os) x)
    (hS : ∀ z, Below w.heap.size w z → Sl z B m bc b) (hm : m ≤ 1048576) (hnb : n ≤ 4000000) :
    Calls Tryd.prog 5 #[.pointer (some ⟨g, 0, none⟩), .slice B m bc] x fun e y => ∃ gA n1 c1 l1, n1 ≤ 4000000 ∧ LentL l1 b ∧ e = .returned (.slice (some ⟨gA, 0, none⟩) m c1) ∧
      OW w (boxO g [.slice (some ⟨gA, 0, none⟩) n1 c1, .int .i64 (m : Int)] :: rowO 5 1 (.slice (some ⟨gA, 0, none⟩) n1 c1) n1 (u8s l1) :: os) y := by
  have HX := Lib.hid h
  have HS0 : Hid (∀ z, Below w.heap.size w z → Sl z B m bc b) := Lib.hid hS
  have HBL : Hid (b.length = m) := Lib.hid (hS w (Below.refl _ _)).len
  have hc0 : x.cell? ⟨g, 0, none⟩ = some (.slice A n c) := h.cell (i := 0) (j := 0) rfl rfl
  clear h hS
  go_enter Tryd.func5, Tryd.ntmps5
  go_upto_if 15 with (refine wpList_load_cell rfl 25 (.tmp 8) rfl rfl hc0 (fun w => Tryd.isAgg25 w) ?_)
  clear hc0
  go_cut [] (fun wx => ∃ (gA n1 c1 : Nat) (l1 : List UInt8), n1 ≤ 4000000 ∧ m ≤ n1 ∧ Hid (OW w (boxO g [.slice (some ⟨gA, 0, none⟩) n1 c1, .int .i64 (N : Int)] :: rowO 5 1 (.slice (some ⟨gA, 0, none⟩) n1 c1) n1 (u8s l1) :: os) wx))
  case first =>
    by_cases hlt : n < 2 * m + 70
    · have hd : decide ((n : Int) < 2 * (m : Int) + 70) = true := decide_eq_true (by omega)
      obtain ⟨N1, hN1⟩ : ∃ z, z = 2 * m + 512 := ⟨_, rfl⟩
      have hi1 : 2 * (m : Int) + 512 = (N1 : Int) := by omega
      have hN1b : N1 ≤ 4000000 := by omega
      have HN1 : Hid (m ≤ N1) := Lib.hid (by omega)
      clear hN1
      go_wp2_with (first
        | (at_make; go_must (refine wl_makeN rfl _ _ rfl Tryd.u8s' (.int .u8 0) (by kernel_rfl) N1 _ _ rfl rfl rfl rfl (by omega) (by unfold maxLen; omega) HX.out ?_); intro gA x2 hz _; have HX2 := Lib.hid hz; clear hz)
        | (refine wl_put1 rfl (.tmp 23) (.tmp 21) rfl HX2.out 0 rfl 0 rfl (by simp) (.slice (some ⟨gA, 0, none⟩) N1 N1) rfl (by kernel_rfl) rfl ?_; intro x3 hz _; have HX3 := Lib.hid hz; clear hz))
      go_meet
      case rel =>
        have h4 : OW w ((boxO g [.slice (some ⟨gA, 0, none⟩) N1 N1, .int .i64 (N : Int)] :: rowO 5 1 (.slice A n c) n (u8s l) :: os) ++ [rowO 5 1 (.slice (some ⟨gA, 0, none⟩) N1 N1) N1 (madeCells (Value.int IntKind.u8 0).cells (N1 * 1)).toList]) _ := HX3.out
        rw [zerosG] at h4
        exact ⟨gA, N1, N1, List.replicate N1 0, hN1b, HN1.out, Lib.hid (((h4.perm List.perm_append_comm).perm (List.Perm.swap _ _ _)).sub (((List.sublist_cons_self _ _).cons_cons _).cons_cons _))⟩
    · have hd : decide ((n : Int) < 2 * (m : Int) + 70) = false := decide_eq_false (by omega)
      obtain ⟨gA, cap, hv, _⟩ := own_form (HX.out.row (i := 1) rfl) (by omega)
      injection hv with h1 h2 h3
      subst h1 h3
      have HMN : Hid (m ≤ n) := Lib.hid (by omega)
      have hlt2 : ¬ (n : Int) < 2 * (m : Int) + 70 := by omega
      go_wp2_with fail
      go_meet
      case rel => exact ⟨gA, n, _, l, hnb, HMN.out, HX⟩
  obtain ⟨gA, n1, c1, l1, hn1, hmn, HX1⟩ := hcut
  clear HX hnb
  obtain ⟨hc1, hc1m, _⟩ := row_capG HX1.out (i := 1) rfl
  have HMN := Lib.hid hmn
  have HC1 : Hid (n1 ≤ c1) := Lib.hid hc1
  clear hmn hc1
  go_wp2_with fail
  go_loopw [5] (fun iv wr => ∃ (j : Nat) (l2 : List UInt8), j ≤ n1 ∧ iv = .int .i64 j ∧ Hid (∀ i, i < j → l2[i]? = some (mkb i)) ∧ Hid (OW w (boxO g [.slice (some ⟨gA, 0, none⟩) n1 c1, .int .i64 (N : Int)] :: rowO 5 1 (.slice (some ⟨gA, 0, none⟩) n1 c1) n1 (u8s l2) :: os) wr)) (fun iv _ => n1 - (intOf iv).toNat)
  case atStart => exact ⟨0, l1, Nat.zero_le _, rfl, Lib.hid (fun i hi => absurd hi (Nat.not_lt_zero i)), HX1⟩
  case round =>
    clear HX1
    obtain ⟨j, l2, hj, rfl, HMK, HW⟩ := hrel
    have hcA : _ = some (Value.slice (some ⟨gA, 0, none⟩) n1 c1) := HW.out.cell (i := 0) (j := 0) rfl rfl
    by_cases hlt : j < n1
    case neg =>
      obtain rfl : j = n1 := by omega
      have hd : decide ((j : Int) < (j : Int)) = false := decide_eq_false (by omega)
      have hmc : (m : Int) ≤ (c1 : Int) := by have := HC1.out; have := HMN.out; omega
      clear hlt hj
      go_wp2_with (first
        | (refine wpList_load_cell rfl 25 (.tmp 27) rfl rfl hcA (fun w => Tryd.isAgg25 w) ?_)
        | (refine wpList_load_cell rfl 25 (.tmp 43) rfl rfl hcA (fun w => Tryd.isAgg25 w) ?_)
        | (refine wpList_copy_reads (o := ⟨some 46, _, _, _, _, _⟩) rfl (.tmp 44) (.tmp 45) rfl Tryd.u8s' w.heap.size gA j c1 (u8s l2) rfl (HW.out.row (i := 1) rfl) _ B m bc (u8s b) rfl (show Reads _ _ _ _ _ _ from (HS0.out _ HW.out.up).rb) HMN.out (u8s_one _) ?_; intro x5 hown hg; have HX5 : Hid (OW w (boxO g [.slice (some ⟨gA, 0, none⟩) j c1, .int .i64 (N : Int)] :: rowO 5 1 (.slice (some ⟨gA, 0, none⟩) j c1) j (u8s b ++ (u8s l2).drop m) :: os) x5) := Lib.hid (HW.out.grow (i := 1) rfl hown hg (.inl rfl)); clear hown hg)
        | (refine wl_put1 rfl (.tmp 51) (.tmp 49) rfl HX5.out 0 rfl 1 rfl (by simp) (.int .i64 (m : Int)) rfl (by kernel_rfl) rfl ?_; intro x6 hz _; have HX6 : Hid (OW w (boxO g [.slice (some ⟨gA, 0, none⟩) j c1, .int .i64 (m : Int)] :: rowO 5 1 (.slice (some ⟨gA, 0, none⟩) j c1) j (u8s b ++ (u8s l2).drop m) :: os) x6) := Lib.hid hz; have hc6 : x6.cell? ⟨g, 0, none⟩ = some (.slice (some ⟨gA, 0, none⟩) j c1) := hz.cell (i := 0) (j := 0) rfl rfl; clear hz)
        | (refine wpList_load_cell rfl 25 (.tmp 54) rfl rfl hc6 (fun w => Tryd.isAgg25 w) ?_))
      go_ret
      obtain ⟨e1, e2⟩ := lent_of (row_lenG HW.out (i := 1) rfl) HBL.out HMN.out HMK.out
      refine ⟨gA, j, c1, b ++ l2.drop m, hn1, e2, rfl, ?_⟩
      have h6 := HX6.out
      rw [show u8s b ++ (u8s l2).drop m = u8s (b ++ l2.drop m) from by simp [u8s]] at h6
      exact h6
    have hd : decide ((j : Int) < (n1 : Int)) = true := decide_eq_true (by omega)
    have i0 : (0 : Int) ≤ (j : Int) := by omega
    have i1 : (j : Int) < (n1 : Int) := by omega
    have hl2 := Lib.hid (row_lenG HW.out (i := 1) rfl)
    go_wp2_with (refine wpList_load_cell rfl 25 (.tmp 27) rfl rfl hcA (fun w => Tryd.isAgg25 w) ?_)
    refine lt_start [8] (by kernel_rfl) ?_
    intro xd hdx
    refine ⟨fun z => OW w (boxO g [.slice (some ⟨gA, 0, none⟩) n1 c1, .int .i64 (N : Int)] :: rowO 5 1 (.slice (some ⟨gA, 0, none⟩) n1 c1) n1 (u8s l2) :: os) z, ?_⟩
    have HS := Lib.hid (HW.out.later hdx)
    refine lt_pure 0 rfl (by kernel_rfl) (by kernel_rfl) (by kernel_rfl) (by kernel_rfl) (fun _ _ _ h => h) (v := ?_) (yi_run rfl (fun w => ?_)) (fun _ => HS.out) ?_
    rotate_left
    · first | (go_simp; done) | (go_simp; with_reducible rfl)
    simp only [Act.put, List.setIfInBounds_toArray, List.set_cons_zero, List.set_cons_succ]
    refine lt_pure 1 rfl (by kernel_rfl) (by kernel_rfl) (by kernel_rfl) (by kernel_rfl) (fun _ _ _ h => h) (v := ?_) (yi_run rfl (fun w => ?_)) (fun _ => HS.out) ?_
    rotate_left
    · first | (go_simp; done) | (go_simp; with_reducible rfl)
    simp only [Act.put, List.setIfInBounds_toArray, List.set_cons_zero, List.set_cons_succ]
    refine lt_pure 2 rfl (by kernel_rfl) (by kernel_rfl) (by kernel_rfl) (by kernel_rfl) (fun _ _ _ h => h) (v := ?_) (yi_run rfl (fun w => ?_)) (fun _ => HS.out) ?_
    rotate_left
    · first | (go_simp; done) | (go_simp; with_reducible rfl)
    simp only [Act.put, List.setIfInBounds_toArray, List.set_cons_zero, List.set_cons_succ]
    refine lt_take 3 [7, 8] rfl (by kernel_rfl) (by kernel_rfl) (by kernel_rfl) (by kernel_rfl) (by kernel_rfl) (fun _ _ _ h => h) (yi_cell rfl rfl rfl (fun w hS => OW.cell hS (i := 0) (j := 0) rfl rfl) (fun w => Tryd.isAgg25 w)) HS.out ?_
    simp only [Act.put, List.setIfInBounds_toArray, List.set_cons_zero, List.set_cons_succ]
    refine lt_pure 4 rfl (by kernel_rfl) (by kernel_rfl) (by kernel_rfl) (by kernel_rfl) (fun _ _ _ h => h) (v := ?_) (yi_run rfl (fun w => ?_)) (fun _ => HS.out) ?_
    rotate_left
    · first | (go_simp; done) | (go_simp; with_reducible rfl)
    simp only [Act.put, List.setIfInBounds_toArray, List.set_cons_zero, List.set_cons_succ]
    refine lt_pure 5 rfl (by kernel_rfl) (by kernel_rfl) (by kernel_rfl) (by kernel_rfl) (fun _ _ _ h => h) (v := ?_) (yi_run rfl (fun w => ?_)) (fun _ => HS.out) ?_
    rotate_left
    · first | (go_simp; done) | (go_simp; with_reducible rfl)
    simp only [Act.put, List.setIfInBounds_toArray, List.set_cons_zero, List.set_cons_succ]
    refine lt_call 6 rfl (by kernel_rfl) rfl rfl ⟨_, Tryd.func15, by decide, by kernel_rfl⟩ [.int .i64 (j : Int)] rfl ?_
    refine (mark_any j _ (by omega)).mono ?_
    rintro e y1 ⟨rfl, rfl⟩
    refine ⟨_, rfl, fun _ => HS.out, ?_⟩
    simp only [Act.put, List.setIfInBounds_toArray, List.set_cons_zero, List.set_cons_succ]
    refine lt_pure 7 rfl (by kernel_rfl) (by kernel_rfl) (by kernel_rfl) (by kernel_rfl) (fun _ _ _ h => h) (v := ?_) (yi_run rfl (fun w => ?_)) (fun _ => HS.out) ?_
    rotate_left
    · first | (go_simp; done) | (go_simp; with_reducible rfl)
    simp only [Act.put, List.setIfInBounds_toArray, List.set_cons_zero, List.set_cons_succ]
    refine lt_end 8 rfl (by kernel_rfl) rfl (by kernel_rfl) ?_
    refine wpo_store rfl HS.out 1 (T := 5) (sz := 1) (g := gA) (n := n1) (cap := c1) (cs := u8s l2) rfl j rfl (by omega) (u8v (mkb j)) rfl (by kernel_rfl) rfl ?_
    intro z1 hz _
    have HZ : Hid (OW w (boxO g [.slice (some ⟨gA, 0, none⟩) n1 c1, .int .i64 (N : Int)] :: rowO 5 1 (.slice (some ⟨gA, 0, none⟩) n1 c1) n1 (u8s (l2.set j (mkb j))) :: os) z1) := Lib.hid (by rw [← u8s_setG]; exact hz)
    clear hz
    simp only [Act.put]
    refine lt_done (by kernel_rfl) ?_
    clear HS
    go_wp2_with fail
    go_roundw
    case rel =>
      refine ⟨j + 1, l2.set j (mkb j), by omega, by go_num, Lib.hid fun i hi => ?_, HZ⟩
      rw [List.getElem?_set]
      by_cases he : j = i
      · subst he; rw [if_pos rfl, if_pos (by rw [hl2.out]; exact hlt)]
      · rw [if_neg he]; exact HMK.out i (by omega)
    case measure => simp [intOf]; omega

set_option maxRecDepth 100000 in
set_option maxHeartbeats 4000000 in
theorem back_any (g gA m n c bc : Nat) (b l : List UInt8) (B : Option Addr) (w x : World) (os : List Ob) (h : OW w (boxO g [.slice (some ⟨gA, 0, none⟩) n c, .int .i64 (m : Int)] :: rowO 5 1 (.slice (some ⟨gA, 0, none⟩) n c) n (u8s l) :: os) x) (hL : LentL l b)
    (hS : ∀ z, Below w.heap.size w z → Sl z B m bc b) (hnb : n ≤ 4000000) :
    Calls Tryd.prog 7 #[.pointer (some ⟨g, 0, none⟩), .slice B m bc] x fun e y => e = .returned (.bool true) ∧ OW w (boxO g [.slice (some ⟨gA, 0, none⟩) n c, .int .i64 (m : Int)] :: rowO 5 1 (.slice (some ⟨gA, 0, none⟩) n c) n (u8s l) :: os) y := by
  have HX := Lib.hid h
  have HLN : Hid (l.length = n) := Lib.hid (row_lenG h (i := 1) rfl)
  have HS0 : Hid (∀ z, Below w.heap.size w z → Sl z B m bc b) := Lib.hid hS
  have HBL : Hid (b.length = m) := Lib.hid (hS w (Below.refl _ _)).len
  have HLL := Lib.hid hL
  have XB : Hid ((b == b) = true) := Lib.hid (by simp)
  have hmn : m ≤ n := by have := hL.1; have := HBL.out; have := HLN.out; omega
  have hmc : (m : Int) ≤ (c : Int) := by have := (row_capG h (i := 1) rfl).1; omega
  have m0 : (0 : Int) ≤ (m : Int) := by omega
  have hq : ((m : Int) != (m : Int)) = false := by simp
  clear h hS hL
  go_enter Tryd.func7, Tryd.ntmps7
  go_wp2_with fail
  refine lt_start [] (by kernel_rfl) ?_
  intro xd hdx
  refine ⟨fun z => OW w (boxO g [.slice (some ⟨gA, 0, none⟩) n c, .int .i64 (m : Int)] :: rowO 5 1 (.slice (some ⟨gA, 0, none⟩) n c) n (u8s l) :: os) z, ?_⟩
  have HS := Lib.hid (HX.out.later hdx)
  refine lt_pure 0 rfl (by kernel_rfl) (by kernel_rfl) (by kernel_rfl) (by kernel_rfl) (fun _ _ _ h => h) (v := ?_) (yi_run rfl (fun w => ?_)) (fun _ => HS.out) ?_
  rotate_left
  · first | (go_simp; done) | (go_simp; with_reducible rfl)
  simp only [Act.put, List.setIfInBounds_toArray, List.set_cons_zero, List.set_cons_succ]
  refine lt_pure 1 rfl (by kernel_rfl) (by kernel_rfl) (by kernel_rfl) (by kernel_rfl) (fun _ _ _ h => h) (v := ?_) (yi_run rfl (fun w => ?_)) (fun _ => HS.out) ?_
  rotate_left
  · first | (go_simp; done) | (go_simp; with_reducible rfl)
  simp only [Act.put, List.setIfInBounds_toArray, List.set_cons_zero, List.set_cons_succ]
  refine lt_pure 2 rfl (by kernel_rfl) (by kernel_rfl) (by kernel_rfl) (by kernel_rfl) (fun _ _ _ h => h) (v := ?_) (yi_run rfl (fun w => ?_)) (fun _ => HS.out) ?_
  rotate_left
  · first | (go_simp; done) | (go_simp; with_reducible rfl)
  simp only [Act.put, List.setIfInBounds_toArray, List.set_cons_zero, List.set_cons_succ]
  refine lt_take 3 [6, 7, 8, 9, 10, 11, 12, 13, 14, 15, 16, 17, 18, 19, 20] rfl (by kernel_rfl) (by kernel_rfl) (by kernel_rfl) (by kernel_rfl) (by kernel_rfl) (fun _ _ _ h => h) (yi_cell rfl rfl rfl (fun w hS => OW.cell hS (i := 0) (j := 1) rfl rfl) (fun w => Tryd.isAgg3 w)) HS.out ?_
  simp only [Act.put, List.setIfInBounds_toArray, List.set_cons_zero, List.set_cons_succ]
  refine lt_pure 4 rfl (by kernel_rfl) (by kernel_rfl) (by kernel_rfl) (by kernel_rfl) (fun _ _ _ h => h) (v := ?_) (yi_run rfl (fun w => ?_)) (fun _ => HS.out) ?_
  rotate_left
  · first | (go_simp; done) | (go_simp; with_reducible rfl)
  simp only [Act.put, List.setIfInBounds_toArray, List.set_cons_zero, List.set_cons_succ]
  refine lt_pure 5 rfl (by kernel_rfl) (by kernel_rfl) (by kernel_rfl) (by kernel_rfl) (fun _ _ _ h => h) (v := ?_) (yi_run rfl (fun w => ?_)) (fun _ => HS.out) ?_
  rotate_left
  · first | (go_simp; done) | (go_simp; with_reducible rfl)
  simp only [Act.put, List.setIfInBounds_toArray, List.set_cons_zero, List.set_cons_succ]
  refine lt_pure 6 rfl (by kernel_rfl) (by kernel_rfl) (by kernel_rfl) (by kernel_rfl) (fun _ _ _ h => h) (v := ?_) (yi_run rfl (fun w => ?_)) (fun _ => HS.out) ?_
  rotate_left
  · first | (go_simp; done) | (go_simp; with_reducible rfl)
  simp only [Act.put, List.setIfInBounds_toArray, List.set_cons_zero, List.set_cons_succ]
  refine lt_pure 7 rfl (by kernel_rfl) (by kernel_rfl) (by kernel_rfl) (by kernel_rfl) (fun _ _ _ h => h) (v := ?_) (yi_run rfl (fun w => ?_)) (fun _ => HS.out) ?_
  rotate_left
  · first | (go_simp; done) | (go_simp; with_reducible rfl)
  simp only [Act.put, List.setIfInBounds_toArray, List.set_cons_zero, List.set_cons_succ]
  refine lt_pure 8 rfl (by kernel_rfl) (by kernel_rfl) (by kernel_rfl) (by kernel_rfl) (fun _ _ _ h => h) (v := ?_) (yi_run rfl (fun w => ?_)) (fun _ => HS.out) ?_
  rotate_left
  · first | (go_simp; done) | (go_simp; with_reducible rfl)
  simp only [Act.put, List.setIfInBounds_toArray, List.set_cons_zero, List.set_cons_succ]
  refine lt_pure 9 rfl (by kernel_rfl) (by kernel_rfl) (by kernel_rfl) (by kernel_rfl) (fun _ _ _ h => h) (v := ?_) (yi_run rfl (fun w => ?_)) (fun _ => HS.out) ?_
  rotate_left
  · first | (go_simp; done) | (go_simp; with_reducible rfl)
  simp only [Act.put, List.setIfInBounds_toArray, List.set_cons_zero, List.set_cons_succ]
  refine lt_pure 10 rfl (by kernel_rfl) (by kernel_rfl) (by kernel_rfl) (by kernel_rfl) (fun _ _ _ h => h) (v := ?_) (yi_run rfl (fun w => ?_)) (fun _ => HS.out) ?_
  rotate_left
  · first | (go_simp; done) | (go_simp; with_reducible rfl)
  simp only [Act.put, List.setIfInBounds_toArray, List.set_cons_zero, List.set_cons_succ]
  refine lt_take 11 [16, 18, 19, 20] rfl (by kernel_rfl) (by kernel_rfl) (by kernel_rfl) (by kernel_rfl) (by kernel_rfl) (fun _ _ _ h => h) (yi_cell rfl rfl rfl (fun w hS => OW.cell hS (i := 0) (j := 0) rfl rfl) (fun w => Tryd.isAgg25 w)) HS.out ?_
  simp only [Act.put, List.setIfInBounds_toArray, List.set_cons_zero, List.set_cons_succ]
  refine lt_pure 12 rfl (by kernel_rfl) (by kernel_rfl) (by kernel_rfl) (by kernel_rfl) (fun _ _ _ h => h) (v := ?_) (yi_run rfl (fun w => ?_)) (fun _ => HS.out) ?_
  rotate_left
  · first | (go_simp; done) | (go_simp; with_reducible rfl)
  simp only [Act.put, List.setIfInBounds_toArray, List.set_cons_zero, List.set_cons_succ]
  refine lt_pure 13 rfl (by kernel_rfl) (by kernel_rfl) (by kernel_rfl) (by kernel_rfl) (fun _ _ _ h => h) (v := ?_) (yi_run rfl (fun w => ?_)) (fun _ => HS.out) ?_
  rotate_left
  · first | (go_simp; done) | (go_simp; with_reducible rfl)
  simp only [Act.put, List.setIfInBounds_toArray, List.set_cons_zero, List.set_cons_succ]
  refine lt_pure 14 rfl (by kernel_rfl) (by kernel_rfl) (by kernel_rfl) (by kernel_rfl) (fun _ _ _ h => h) (v := ?_) (yi_run rfl (fun w => ?_)) (fun _ => HS.out) ?_
  rotate_left
  · first | (go_simp; done) | (go_simp; with_reducible rfl)
  simp only [Act.put, List.setIfInBounds_toArray, List.set_cons_zero, List.set_cons_succ]
  refine lt_take 15 [16, 18, 19, 20] rfl (by kernel_rfl) (by kernel_rfl) (by kernel_rfl) (by kernel_rfl) (by kernel_rfl) (fun _ _ _ h => h) (yi_cell rfl rfl rfl (fun w hS => OW.cell hS (i := 0) (j := 1) rfl rfl) (fun w => Tryd.isAgg3 w)) HS.out ?_
  simp only [Act.put, List.setIfInBounds_toArray, List.set_cons_zero, List.set_cons_succ]
  refine lt_pure 16 rfl (by kernel_rfl) (by kernel_rfl) (by kernel_rfl) (by kernel_rfl) (fun _ _ _ h => h) (v := ?_) (yi_run rfl (fun w => ?_)) (fun _ => HS.out) ?_
  rotate_left
  · first | (go_simp; done) | (go_simp; with_reducible rfl)
  simp only [Act.put, List.setIfInBounds_toArray, List.set_cons_zero, List.set_cons_succ]
  refine lt_pure 17 rfl (by kernel_rfl) (by kernel_rfl) (by kernel_rfl) (by kernel_rfl) (fun _ _ _ h => h) (v := ?_) (yi_run rfl (fun w => ?_)) (fun _ => HS.out) ?_
  rotate_left
  · first | (go_simp; done) | (go_simp; with_reducible rfl)
  simp only [Act.put, List.setIfInBounds_toArray, List.set_cons_zero, List.set_cons_succ]
  refine lt_call 18 rfl (by kernel_rfl) rfl rfl ⟨_, Tryd.func13, by decide, by kernel_rfl⟩ [.slice (some ⟨gA, 0, none⟩) m c, .slice B m bc] rfl ?_
  refine (same_any b b (some ⟨gA, 0, none⟩) B m c m bc _ (lent_sl HS.out (i := 1) rfl HLL.out HBL.out).rb (HS0.out _ HS.out.up).rb).mono ?_
  rw [XB.out]
  rintro e y1 ⟨rfl, rfl⟩
  refine ⟨_, rfl, fun _ => HS.out, ?_⟩
  simp only [Act.put, List.setIfInBounds_toArray, List.set_cons_zero, List.set_cons_succ]
  refine lt_pure 19 rfl (by kernel_rfl) (by kernel_rfl) (by kernel_rfl) (by kernel_rfl) (fun _ _ _ h => h) (v := ?_) (yi_run rfl (fun w => ?_)) (fun _ => HS.out) ?_
  rotate_left
  · first | (go_simp; done) | (go_simp; with_reducible rfl)
  simp only [Act.put, List.setIfInBounds_toArray, List.set_cons_zero, List.set_cons_succ]
  refine lt_pure 20 rfl (by kernel_rfl) (by kernel_rfl) (by kernel_rfl) (by kernel_rfl) (fun _ _ _ h => h) (v := ?_) (yi_run rfl (fun w => ?_)) (fun _ => HS.out) ?_
  rotate_left
  · first | (go_simp; done) | (go_simp; with_reducible rfl)
  simp only [Act.put, List.setIfInBounds_toArray, List.set_cons_zero, List.set_cons_succ]
  refine lt_done (by kernel_rfl) ?_
  replace HX := HS
  clear HS
  have hcN : _ = some (Value.int .i64 (m : Int)) := HX.out.cell (i := 0) (j := 1) rfl rfl
  go_wp2_with (refine wpList_load_cell rfl 3 (.tmp 29) rfl rfl hcN (fun w => Tryd.isAgg3 w) ?_)
  clear hcN hq hmc m0
  go_loopw [5] (fun iv wr => ∃ j : Nat, m ≤ j ∧ j ≤ n ∧ iv = .int .i64 j ∧ Hid (OW w (boxO g [.slice (some ⟨gA, 0, none⟩) n c, .int .i64 (m : Int)] :: rowO 5 1 (.slice (some ⟨gA, 0, none⟩) n c) n (u8s l) :: os) wr)) (fun iv _ => n - (intOf iv).toNat)
  case atStart => exact ⟨m, Nat.le_refl _, hmn, rfl, HX⟩
  case round =>
    clear HX
    obtain ⟨j, hmj, hj, rfl, HW⟩ := hrel
    have hcA : _ = some (Value.slice (some ⟨gA, 0, none⟩) n c) := HW.out.cell (i := 0) (j := 0) rfl rfl
    by_cases hlt : j < n
    case neg =>
      obtain rfl : j = n := by omega
      have hd : decide ((j : Int) < (j : Int)) = false := decide_eq_false (by omega)
      go_wp2_with (refine wpList_load_cell rfl 25 (.tmp 34) rfl rfl hcA (fun w => Tryd.isAgg25 w) ?_)
      go_ret
      exact ⟨rfl, HW.out⟩
    have hd : decide ((j : Int) < (n : Int)) = true := decide_eq_true (by omega)
    have i0 : (0 : Int) ≤ (j : Int) := by omega
    have i1 : (j : Int) < (n : Int) := by omega
    have HC : Hid (∀ z, OW w (boxO g [.slice (some ⟨gA, 0, none⟩) n c, .int .i64 (m : Int)] :: rowO 5 1 (.slice (some ⟨gA, 0, none⟩) n c) n (u8s l) :: os) z → z.cell? ⟨gA, j, none⟩ = some (.int .u8 ((mkb j).toNat : Int))) := Lib.hid fun z hz => by
      have h1 := HLL.out.2.2 j (by rw [HBL.out]; exact hmj) (by rw [HLN.out]; exact hlt)
      exact (World.ownsRow.cellAt (hz.row (i := 1) rfl) j (by omega)).trans (u8s_at h1)
    obtain ⟨M, hM⟩ : ∃ M, M = ((mkb j).toNat : Int) := ⟨_, rfl⟩
    have HM := Lib.hid hM
    have hMM : (M != M) = false := by simp
    rw [← hM] at HC
    clear hM
    go_wp2_with (refine wpList_load_cell rfl 25 (.tmp 34) rfl rfl hcA (fun w => Tryd.isAgg25 w) ?_)
    clear hcA
    refine lt_start [] (by kernel_rfl) ?_
    intro xd hdx
    refine ⟨fun z => OW w (boxO g [.slice (some ⟨gA, 0, none⟩) n c, .int .i64 (m : Int)] :: rowO 5 1 (.slice (some ⟨gA, 0, none⟩) n c) n (u8s l) :: os) z, ?_⟩
    have HS := Lib.hid (HW.out.later hdx)
    refine lt_pure 0 rfl (by kernel_rfl) (by kernel_rfl) (by kernel_rfl) (by kernel_rfl) (fun _ _ _ h => h) (v := ?_) (yi_run rfl (fun w => ?_)) (fun _ => HS.out) ?_
    rotate_left
    · first | (go_simp; done) | (go_simp; with_reducible rfl)
    simp only [Act.put, List.setIfInBounds_toArray, List.set_cons_zero, List.set_cons_succ]
    refine lt_pure 1 rfl (by kernel_rfl) (by kernel_rfl) (by kernel_rfl) (by kernel_rfl) (fun _ _ _ h => h) (v := ?_) (yi_run rfl (fun w => ?_)) (fun _ => HS.out) ?_
    rotate_left
    · first | (go_simp; done) | (go_simp; with_reducible rfl)
    simp only [Act.put, List.setIfInBounds_toArray, List.set_cons_zero, List.set_cons_succ]
    refine lt_pure 2 rfl (by kernel_rfl) (by kernel_rfl) (by kernel_rfl) (by kernel_rfl) (fun _ _ _ h => h) (v := ?_) (yi_run rfl (fun w => ?_)) (fun _ => HS.out) ?_
    rotate_left
    · first | (go_simp; done) | (go_simp; with_reducible rfl)
    simp only [Act.put, List.setIfInBounds_toArray, List.set_cons_zero, List.set_cons_succ]
    refine lt_take 3 [5, 6, 9] rfl (by kernel_rfl) (by kernel_rfl) (by kernel_rfl) (by kernel_rfl) (by kernel_rfl) (fun _ _ _ h => h) (yi_cell rfl rfl rfl (fun w hS => OW.cell hS (i := 0) (j := 0) rfl rfl) (fun w => Tryd.isAgg25 w)) HS.out ?_
    simp only [Act.put, List.setIfInBounds_toArray, List.set_cons_zero, List.set_cons_succ]
    refine lt_pure 4 rfl (by kernel_rfl) (by kernel_rfl) (by kernel_rfl) (by kernel_rfl) (fun _ _ _ h => h) (v := ?_) (yi_run rfl (fun w => ?_)) (fun _ => HS.out) ?_
    rotate_left
    · first | (go_simp; done) | (go_simp; with_reducible rfl)
    simp only [Act.put, List.setIfInBounds_toArray, List.set_cons_zero, List.set_cons_succ]
    refine lt_pure 5 rfl (by kernel_rfl) (by kernel_rfl) (by kernel_rfl) (by kernel_rfl) (fun _ _ _ h => h) (v := ?_) (yi_run rfl (fun w => ?_)) (fun _ => HS.out) ?_
    rotate_left
    · first | (go_simp; done) | (go_simp; with_reducible rfl)
    simp only [Act.put, List.setIfInBounds_toArray, List.set_cons_zero, List.set_cons_succ]
    refine lt_take 6 [9] rfl (by kernel_rfl) (by kernel_rfl) (by kernel_rfl) (by kernel_rfl) (by kernel_rfl) (fun _ _ _ h => h) (yi_cell rfl rfl rfl (fun w hS => HC.out w hS) (fun w => Tryd.isAgg5 w)) HS.out ?_
    simp only [Act.put, List.setIfInBounds_toArray, List.set_cons_zero, List.set_cons_succ]
    refine lt_pure 7 rfl (by kernel_rfl) (by kernel_rfl) (by kernel_rfl) (by kernel_rfl) (fun _ _ _ h => h) (v := ?_) (yi_run rfl (fun w => ?_)) (fun _ => HS.out) ?_
    rotate_left
    · first | (go_simp; done) | (go_simp; with_reducible rfl)
    simp only [Act.put, List.setIfInBounds_toArray, List.set_cons_zero, List.set_cons_succ]
    refine lt_call 8 rfl (by kernel_rfl) rfl rfl ⟨_, Tryd.func15, by decide, by kernel_rfl⟩ [.int .i64 (j : Int)] rfl ?_
    refine (mark_any j _ (by omega)).mono ?_
    rw [← HM.out]
    rintro e y1 ⟨rfl, rfl⟩
    refine ⟨_, rfl, fun _ => HS.out, ?_⟩
    simp only [Act.put, List.setIfInBounds_toArray, List.set_cons_zero, List.set_cons_succ]
    refine lt_pure 9 rfl (by kernel_rfl) (by kernel_rfl) (by kernel_rfl) (by kernel_rfl) (fun _ _ _ h => h) (v := ?_) (yi_run rfl (fun w => ?_)) (fun _ => HS.out) ?_
    rotate_left
    · first | (go_simp; done) | (go_simp; with_reducible rfl)
    simp only [Act.put, List.setIfInBounds_toArray, List.set_cons_zero, List.set_cons_succ]
    refine lt_done (by kernel_rfl) ?_
    replace HW := HS
    clear HS HC
    go_wp2_with fail
    go_roundw
    case rel => exact ⟨j + 1, by omega, by omega, by go_num, HW⟩
    case measure => simp [intOf]; omega

set_option maxRecDepth 100000 in
set_option maxHeartbeats 4000000 in
theorem wipe_any (g gA m n c : Nat) (l : List UInt8) (w x : World) (os : List Ob) (h : OW w (boxO g [.slice (some ⟨gA, 0, none⟩) n c, .int .i64 (m : Int)] :: rowO 5 1 (.slice (some ⟨gA, 0, none⟩) n c) n (u8s l) :: os) x) (hmn : m ≤ n) (hnb : n ≤ 4000000) :
    Calls Tryd.prog 8 #[.pointer (some ⟨g, 0, none⟩)] x fun e y => e = .returned (.tuple #[]) ∧ ∃ l2, OW w (boxO g [.slice (some ⟨gA, 0, none⟩) n c, .int .i64 (m : Int)] :: rowO 5 1 (.slice (some ⟨gA, 0, none⟩) n c) n (u8s l2) :: os) y := by
  have HX := Lib.hid h
  clear h
  go_enter Tryd.func8, Tryd.ntmps8
  go_wp2_with fail
  go_loopw [2] (fun iv wr => ∃ (j : Nat) (l2 : List UInt8), j ≤ m ∧ iv = .int .i64 j ∧ Hid (OW w (boxO g [.slice (some ⟨gA, 0, none⟩) n c, .int .i64 (m : Int)] :: rowO 5 1 (.slice (some ⟨gA, 0, none⟩) n c) n (u8s l2) :: os) wr)) (fun iv _ => m - (intOf iv).toNat)
  case atStart => exact ⟨0, l, Nat.zero_le _, rfl, HX⟩
  case round =>
    clear HX
    obtain ⟨j, l2, hj, rfl, HW⟩ := hrel
    have hcN : _ = some (Value.int .i64 (m : Int)) := HW.out.cell (i := 0) (j := 1) rfl rfl
    by_cases hlt : j < m
    case neg =>
      have hd : decide ((j : Int) < (m : Int)) = false := decide_eq_false (by omega)
      go_wp2_with (refine wpList_load_cell rfl 3 (.tmp 6) rfl rfl hcN (fun w => Tryd.isAgg3 w) ?_)
      go_end0
      exact ⟨rfl, l2, HW.out⟩
    have hd : decide ((j : Int) < (m : Int)) = true := decide_eq_true (by omega)
    have i0 : (0 : Int) ≤ (j : Int) := by omega
    have i1 : (j : Int) < (n : Int) := by omega
    have hl2 : l2.length = n := row_lenG HW.out (i := 1) rfl
    obtain ⟨u, hu⟩ : ∃ u, l2[j]? = some u := ⟨_, List.getElem?_eq_getElem (by omega)⟩
    obtain ⟨u', hu'⟩ := xor_any u
    have HC : Hid (∀ z, OW w (boxO g [.slice (some ⟨gA, 0, none⟩) n c, .int .i64 (m : Int)] :: rowO 5 1 (.slice (some ⟨gA, 0, none⟩) n c) n (u8s l2) :: os) z → z.cell? ⟨gA, j, none⟩ = some (.int .u8 (u.toNat : Int))) := Lib.hid fun z hz =>
      (World.ownsRow.cellAt (hz.row (i := 1) rfl) j (by omega)).trans (u8s_at hu)
    have HU := Lib.hid hu'
    clear hu' hu hl2
    go_wp2_with (refine wpList_load_cell rfl 3 (.tmp 6) rfl rfl hcN (fun w => Tryd.isAgg3 w) ?_)
    clear hcN
    refine lt_start [14] (by kernel_rfl) ?_
    intro xd hdx
    refine ⟨fun z => OW w (boxO g [.slice (some ⟨gA, 0, none⟩) n c, .int .i64 (m : Int)] :: rowO 5 1 (.slice (some ⟨gA, 0, none⟩) n c) n (u8s l2) :: os) z, ?_⟩
    have HS := Lib.hid (HW.out.later hdx)
    refine lt_pure 0 rfl (by kernel_rfl) (by kernel_rfl) (by kernel_rfl) (by kernel_rfl) (fun _ _ _ h => h) (v := ?_) (yi_run rfl (fun w => ?_)) (fun _ => HS.out) ?_
    rotate_left
    · first | (go_simp; done) | (go_simp; with_reducible rfl)
    simp only [Act.put, List.setIfInBounds_toArray, List.set_cons_zero, List.set_cons_succ]
    refine lt_pure 1 rfl (by kernel_rfl) (by kernel_rfl) (by kernel_rfl) (by kernel_rfl) (fun _ _ _ h => h) (v := ?_) (yi_run rfl (fun w => ?_)) (fun _ => HS.out) ?_
    rotate_left
    · first | (go_simp; done) | (go_simp; with_reducible rfl)
    simp only [Act.put, List.setIfInBounds_toArray, List.set_cons_zero, List.set_cons_succ]
    refine lt_pure 2 rfl (by kernel_rfl) (by kernel_rfl) (by kernel_rfl) (by kernel_rfl) (fun _ _ _ h => h) (v := ?_) (yi_run rfl (fun w => ?_)) (fun _ => HS.out) ?_
    rotate_left
    · first | (go_simp; done) | (go_simp; with_reducible rfl)
    simp only [Act.put, List.setIfInBounds_toArray, List.set_cons_zero, List.set_cons_succ]
    refine lt_take 3 [13, 14] rfl (by kernel_rfl) (by kernel_rfl) (by kernel_rfl) (by kernel_rfl) (by kernel_rfl) (fun _ _ _ h => h) (yi_cell rfl rfl rfl (fun w hS => OW.cell hS (i := 0) (j := 0) rfl rfl) (fun w => Tryd.isAgg25 w)) HS.out ?_
    simp only [Act.put, List.setIfInBounds_toArray, List.set_cons_zero, List.set_cons_succ]
    refine lt_pure 4 rfl (by kernel_rfl) (by kernel_rfl) (by kernel_rfl) (by kernel_rfl) (fun _ _ _ h => h) (v := ?_) (yi_run rfl (fun w => ?_)) (fun _ => HS.out) ?_
    rotate_left
    · first | (go_simp; done) | (go_simp; with_reducible rfl)
    simp only [Act.put, List.setIfInBounds_toArray, List.set_cons_zero, List.set_cons_succ]
    refine lt_pure 5 rfl (by kernel_rfl) (by kernel_rfl) (by kernel_rfl) (by kernel_rfl) (fun _ _ _ h => h) (v := ?_) (yi_run rfl (fun w => ?_)) (fun _ => HS.out) ?_
    rotate_left
    · first | (go_simp; done) | (go_simp; with_reducible rfl)
    simp only [Act.put, List.setIfInBounds_toArray, List.set_cons_zero, List.set_cons_succ]
    refine lt_pure 6 rfl (by kernel_rfl) (by kernel_rfl) (by kernel_rfl) (by kernel_rfl) (fun _ _ _ h => h) (v := ?_) (yi_run rfl (fun w => ?_)) (fun _ => HS.out) ?_
    rotate_left
    · first | (go_simp; done) | (go_simp; with_reducible rfl)
    simp only [Act.put, List.setIfInBounds_toArray, List.set_cons_zero, List.set_cons_succ]
    refine lt_pure 7 rfl (by kernel_rfl) (by kernel_rfl) (by kernel_rfl) (by kernel_rfl) (fun _ _ _ h => h) (v := ?_) (yi_run rfl (fun w => ?_)) (fun _ => HS.out) ?_
    rotate_left
    · first | (go_simp; done) | (go_simp; with_reducible rfl)
    simp only [Act.put, List.setIfInBounds_toArray, List.set_cons_zero, List.set_cons_succ]
    refine lt_take 8 [10, 11, 12, 13, 14] rfl (by kernel_rfl) (by kernel_rfl) (by kernel_rfl) (by kernel_rfl) (by kernel_rfl) (fun _ _ _ h => h) (yi_cell rfl rfl rfl (fun w hS => OW.cell hS (i := 0) (j := 0) rfl rfl) (fun w => Tryd.isAgg25 w)) HS.out ?_
    simp only [Act.put, List.setIfInBounds_toArray, List.set_cons_zero, List.set_cons_succ]
    refine lt_pure 9 rfl (by kernel_rfl) (by kernel_rfl) (by kernel_rfl) (by kernel_rfl) (fun _ _ _ h => h) (v := ?_) (yi_run rfl (fun w => ?_)) (fun _ => HS.out) ?_
    rotate_left
    · first | (go_simp; done) | (go_simp; with_reducible rfl)
    simp only [Act.put, List.setIfInBounds_toArray, List.set_cons_zero, List.set_cons_succ]
    refine lt_pure 10 rfl (by kernel_rfl) (by kernel_rfl) (by kernel_rfl) (by kernel_rfl) (fun _ _ _ h => h) (v := ?_) (yi_run rfl (fun w => ?_)) (fun _ => HS.out) ?_
    rotate_left
    · first | (go_simp; done) | (go_simp; with_reducible rfl)
    simp only [Act.put, List.setIfInBounds_toArray, List.set_cons_zero, List.set_cons_succ]
    refine lt_take 11 [12, 13, 14] rfl (by kernel_rfl) (by kernel_rfl) (by kernel_rfl) (by kernel_rfl) (by kernel_rfl) (fun _ _ _ h => h) (yi_cell rfl rfl rfl (fun w hS => HC.out w hS) (fun w => Tryd.isAgg5 w)) HS.out ?_
    simp only [Act.put, List.setIfInBounds_toArray, List.set_cons_zero, List.set_cons_succ]
    refine lt_pure 12 rfl (by kernel_rfl) (by kernel_rfl) (by kernel_rfl) (by kernel_rfl) (fun _ _ _ h => h) (v := ?_) (yi_run rfl (fun w => ?_)) (fun _ => HS.out) ?_
    rotate_left
    · first | (go_simp; done) | (go_simp; with_reducible rfl)
    simp only [Act.put, List.setIfInBounds_toArray, List.set_cons_zero, List.set_cons_succ]
    refine lt_pure 13 rfl (by kernel_rfl) (by kernel_rfl) (by kernel_rfl) (by kernel_rfl) (fun _ _ _ h => h) (v := ?_) (yi_run rfl (fun w => ?_)) (fun _ => HS.out) ?_
    rotate_left
    · first | (go_simp; done) | (go_simp; with_reducible rfl)
    simp only [Act.put, List.setIfInBounds_toArray, List.set_cons_zero, List.set_cons_succ]
    refine lt_end 14 rfl (by kernel_rfl) rfl (by kernel_rfl) ?_
    refine wpo_store rfl HS.out 1 (T := 5) (sz := 1) (g := gA) (n := n) (cap := c) (cs := u8s l2) rfl j rfl (by omega) (u8v u') (by exact congrArg (Value.int .u8) HU.out) (by kernel_rfl) rfl ?_
    intro z1 hz _
    have HZ : Hid (OW w (boxO g [.slice (some ⟨gA, 0, none⟩) n c, .int .i64 (m : Int)] :: rowO 5 1 (.slice (some ⟨gA, 0, none⟩) n c) n (u8s (l2.set j u')) :: os) z1) := Lib.hid (by rw [← u8s_setG]; exact hz)
    clear hz
    simp only [Act.put]
    refine lt_done (by kernel_rfl) ?_
    clear HS
    go_wp2_with fail
    go_roundw
    case rel => exact ⟨j + 1, _, by omega, by go_num, HZ⟩
    case measure => simp [intOf]; omega
end Go.Proofs.YtbcljgcilbfblaaDoor
