/-
  Laid together by merge.py: BlockL1, MemL1, MemL2, MemL3, Law, Law2, Law3, CellLaw, Law4, MemLaw.
-/
import Derived.Test.YtdaoinhkagmbdaaMx4
import Derived.Test.YtdaoinhkagmbdaaMx3
import Derived.Test.YtdaoinhkagmbdaaMx2
import Derived.Deep.DeepCutAuto
import Derived.Lib.SlBytesConst
import Derived.Test.YtdaoinhkagmbdaaMx1
import Derived.ProofKit
import Derived.SizedLaws
import Derived.Lib.SmallJoins
import Derived.Deep.Slices
import Derived.Deep.Fields
import Derived.Test.YtdaoinhkagmbdaaRows
import Derived.OpenShut
namespace Go.Proofs.Ytdaoinhkagmbdaa
open Go.RowKit
set_option maxRecDepth 100000 in
set_option maxHeartbeats 1000000 in
theorem same_any (a b : List UInt8) (A B : Option Addr) (n c m d : Nat) (w : World) (hn : n ≤ 9223372036854775807) (ha : RB w w.heap.size A n a) (hb : RB w w.heap.size B m b) :
    Calls Try.prog 43 #[.slice A n c, .slice B m d] w fun e w' => e = .returned (.bool (a == b)) ∧ Below w.heap.size w w' := by
  have HLA := Lib.hid ha.len
  have HLB := Lib.hid hb.len
  have HA : Hid (∀ w', Below w.heap.size w w' → RB w' w'.heap.size A n a) := Lib.hid fun w' h => ha.later h
  have HB : Hid (∀ w', Below w.heap.size w w' → RB w' w'.heap.size B m b) := Lib.hid fun w' h => hb.later h
  clear ha hb
  by_cases hnm : n = m
  case neg =>
    have HE : Hid ((a == b) = false) := Lib.hid (by rw [beq_eq_false_iff_ne]; intro h; exact hnm (by rw [← HLA.out, ← HLB.out, h]))
    have hd : ((n : Int) != (m : Int)) = true := by rw [bne_iff_ne]; omega
    have hd2 : (n != m) = true := by rw [bne_iff_ne]; omega
    clear hnm
    go_enter Try.func43, Try.ntmps43
    go_wp2
    go_ret
    exact ⟨by rw [HE.out]; rfl, Below.refl _ _⟩
  subst hnm
  go_enter Try.func43, Try.ntmps43
  go_wp2
  go_loopw [5] (fun i wr => ∃ k : Nat, k ≤ n ∧ i = .int .i64 k ∧ Hid (a.take k = b.take k) ∧ Hid (Below w.heap.size w wr)) (fun i _ => n - (intOf i).toNat)
  case atStart => exact ⟨0, Nat.zero_le _, rfl, Lib.hid rfl, Lib.hid (Below.refl _ _)⟩
  case round =>
    obtain ⟨k, hkn, rfl, HT, HW⟩ := hrel
    by_cases hlt : k < n
    case neg =>
      have HE : Hid ((a == b) = true) := Lib.hid (by
        have h := HT.out
        rw [List.take_of_length_le (by have := HLA.out; omega), List.take_of_length_le (by have := HLB.out; omega)] at h
        rw [h]; simp)
      have hd1 : decide ((k : Int) < (n : Int)) = false := decide_eq_false (by omega)
      have hd2 : decide (k < n) = false := decide_eq_false hlt
      go_wp2
      go_ret
      exact ⟨by rw [HE.out]; rfl, HW.out⟩
    have hd1 : decide ((k : Int) < (n : Int)) = true := decide_eq_true (by omega)
    have hd2 : decide (k < n) = true := decide_eq_true hlt
    have hk1 : (k : Int) < (n : Int) := by omega
    obtain ⟨b1, o1, x, rfl, _, hx, _⟩ := (HA.out _ HW.out).at_ hlt
    obtain ⟨b2, o2, y, rfl, _, hy, _⟩ := (HB.out _ HW.out).at_ hlt
    have HX := Lib.hid hx
    have HY := Lib.hid hy
    have c1 := (HA.out _ HW.out).cell HX.out
    have c2 := (HB.out _ HW.out).cell HY.out
    clear hx hy
    by_cases hxy : x = y
    case neg =>
      have HE : Hid ((a == b) = false) := Lib.hid (by
        rw [beq_eq_false_iff_ne]; intro h
        have h1 := HX.out; have h2 := HY.out
        rw [h, h2] at h1; injection h1 with h1; exact hxy h1.symm)
      have e1 : ((x.toNat : Int) != (y.toNat : Int)) = true := by rw [bne_iff_ne]; intro h; exact hxy (UInt8.toNat_inj.1 (by omega))
      have e2 : (x.toNat != y.toNat) = true := by rw [bne_iff_ne]; intro h; exact hxy (UInt8.toNat_inj.1 h)
      have HW2 := Lib.hid (fun k => below_drewN (n := k) HW.out)
      clear hxy
      go_wp2_with fail
      go_quiet (fail)
      have HW3 := Lib.hid (HW2.out nq)
      clear c1 c2
      generalize wr.drewN nq = w3 at *
      go_wp2
      go_ret
      exact ⟨by rw [HE.out]; rfl, HW3.out⟩
    subst hxy
    have HE := Lib.hid (cmp_eq_at HT.out HX.out HY.out)
    have e1 : ((x.toNat : Int) != (x.toNat : Int)) = false := by simp
    have HW2 := Lib.hid (fun k => below_drewN (n := k) HW.out)
    go_wp2_with fail
    go_quiet (fail)
    have HW3 := Lib.hid (HW2.out nq)
    clear c1 c2
    generalize wr.drewN nq = w3 at *
    go_wp2
    go_roundw
    case rel => exact ⟨k + 1, by omega, by go_num, HE, HW3⟩
    case measure => simp [intOf]; omega
set_option maxRecDepth 100000 in
set_option maxHeartbeats 2000000 in
theorem sameEntry_any (a b : Ent) (A : Option Addr) (n c : Nat) (B : Option Addr) (m d : Nat) (D : Option Addr) (v q : Nat) (A' : Option Addr) (n' c' : Nat) (B' : Option Addr) (m' d' : Nat) (D' : Option Addr) (v' q' : Nat) (w : World) (he : a = b) (ha : En w A n c B m d D v q a) (hb : En w A' n' c' B' m' d' D' v' q' b) :
    Calls Try.prog 13 #[entV A n c B m d D v q a, entV A' n' c' B' m' d' D' v' q' b] w fun e w1 => e = .returned (.bool true) ∧ Below w.heap.size w w1 := by
  have HT := Lib.hid (Two.new w 30 #[.slice A n c, .int .i64 a.fam, .slice B m d, .int .i64 a.ts, .int .i64 a.seq, .int .i64 a.kind, .slice D v q] #[.slice A' n' c', .int .i64 b.fam, .slice B' m' d', .int .i64 b.ts, .int .i64 b.seq, .int .i64 b.kind, .slice D' v' q'])
  have HA : Hid (∀ x, Below w.heap.size w x → En x A n c B m d D v q a) := Lib.hid fun x h => ha.later h
  have HC : Hid (∀ x, Below w.heap.size w x → En x A' n' c' B' m' d' D' v' q' b) := Lib.hid fun x h => hb.later h
  have HLE : Hid (n ≤ 9223372036854775807 ∧ m ≤ 9223372036854775807 ∧ v ≤ 9223372036854775807) := Lib.hid ⟨ha.row.le, ha.qual.le, ha.val.le⟩
  have HQ : Hid (a.row = b.row ∧ a.qual = b.qual ∧ a.val = b.val) := Lib.hid ⟨by rw [he], by rw [he], by rw [he]⟩
  have XS : Hid (∀ l : List UInt8, (l == l) = true) := Lib.hid (by simp)
  have e1 : a.fam = b.fam := by rw [he]
  have e2 : a.ts = b.ts := by rw [he]
  have e3 : a.seq = b.seq := by rw [he]
  have e4 : a.kind = b.kind := by rw [he]
  unfold entV
  rw [e1, e2, e3, e4] at HT ⊢
  clear ha hb he e1 e2 e3 e4
  have tok1 : True := trivial
  have tok2 : True := trivial
  go_enter Try.func13, Try.ntmps13
  go_wp2_with (first
    | (go_at_call 43; have _t := tok1; go_must (refine (same_any a.row a.row _ _ _ _ _ _ _ HLE.out.1 (HA.out _ HT.out.up).row.rb (by have h := (HC.out _ HT.out.up).row.rb; rw [← HQ.out.1] at h; exact h)).mono ?_); rw [XS.out]; rintro e x1 ⟨rfl, hb1⟩; have HT1 := Lib.hid (HT.out.later hb1); clear hb1 tok1; have a2 := boxed1 HT1.out (i := 2) (v := .slice B m d) rfl; have b2 := boxed2 HT1.out (i := 2) (v := .slice B' m' d') rfl)
    | (go_at_call 43; have _t := tok2; go_must (refine (same_any a.qual a.qual _ _ _ _ _ _ _ HLE.out.2.1 (HA.out _ HT1.out.up).qual.rb (by have h := (HC.out _ HT1.out.up).qual.rb; rw [← HQ.out.2.1] at h; exact h)).mono ?_); rw [XS.out]; rintro e x2 ⟨rfl, hb2⟩; have HT2 := Lib.hid (HT1.out.later hb2); clear hb2 tok2; have a6 := boxed1 HT2.out (i := 6) (v := .slice D v q) rfl; have b6 := boxed2 HT2.out (i := 6) (v := .slice D' v' q') rfl)
    | (go_at_call 43; go_must (refine (same_any a.val a.val _ _ _ _ _ _ _ HLE.out.2.2 (HA.out _ HT2.out.up).val.rb (by have h := (HC.out _ HT2.out.up).val.rb; rw [← HQ.out.2.2] at h; exact h)).mono ?_); rw [XS.out]; rintro e x3 ⟨rfl, hb3⟩; have HT3 := Lib.hid (HT2.out.later hb3); clear hb3))
  go_ret
  exact ⟨rfl, HT3.out.up⟩
theorem conv_const (W : World) (C : Array Value) (n c g : Nat) (hg : g = W.heap.size) : (convert 28 28 (.slice (some ⟨g, 0, none⟩) n c)).run Try.prog (W.alloc (.cells C 5)) = .ok (.slice (some ⟨g, 0, none⟩) n c) (W.alloc (.cells C 5 (C.size, C.size + 1))) := by
  subst hg; exact Lib.run_convert_bytes_const (P := Try.prog) W 28 5 C n c Try.underlying28 Try.underlying5
theorem three_lits (w : World) (o : Obj) (a b d : UInt8) (t : TypeId) (fr : Nat × Nat) : ∀ W, W = (((w.alloc o).alloc (.cells #[u8v a] t fr)).alloc (.cells #[u8v b] t fr)).alloc (.cells #[u8v d] t fr) →
    Sl W (some ⟨w.heap.size + 1, 0, none⟩) 1 1 [a] ∧ Sl W (some ⟨w.heap.size + 1 + 1, 0, none⟩) 1 1 [b] ∧ Sl W (some ⟨w.heap.size + 1 + 1 + 1, 0, none⟩) 1 1 [d] ∧ Below (w.alloc o).heap.size (w.alloc o) W := by
  rintro W rfl
  have hz : ∀ (x : World) (o : Obj), (x.alloc o).heap.size = x.heap.size + 1 := fun x o => by show (x.heap.push _).size = _; simp
  have hb : ∀ (x : World) (o : Obj), Below x.heap.size x (x.alloc o) := fun x o => (Below.refl _ x).alloc (Nat.le_refl _) o
  have s1 := Sl.lit (w.alloc o) #[u8v a] [a] t fr rfl rfl (by show (1 : Nat) ≤ 9223372036854775807; decide)
  have s2 := Sl.lit ((w.alloc o).alloc (.cells #[u8v a] t fr)) #[u8v b] [b] t fr rfl rfl (by show (1 : Nat) ≤ 9223372036854775807; decide)
  have s3 := Sl.lit (((w.alloc o).alloc (.cells #[u8v a] t fr)).alloc (.cells #[u8v b] t fr)) #[u8v d] [d] t fr rfl rfl (by show (1 : Nat) ≤ 9223372036854775807; decide)
  rw [hz w o] at s1
  rw [hz _ _, hz w o] at s2
  rw [hz _ _, hz _ _, hz w o] at s3
  exact ⟨(s1.later (hb _ _)).later (hb _ _), s2.later (hb _ _), s3, ((hb _ _).trans ((hb _ _).mono (by rw [hz (w.alloc o)]; omega))).trans ((hb _ _).mono (by rw [hz ((w.alloc o).alloc _), hz (w.alloc o)]; omega))⟩
def atE (ts : Int) : Ent := ⟨[114], 0, [113], ts, 32, 1, [118]⟩
def AtPost (ts : Int) (w : World) (r : Ending) (w' : World) : Prop := ∃ A B D, r = .returned (entV A 1 1 B 1 1 D 1 1 (atE ts)) ∧ En w' A 1 1 B 1 1 D 1 1 (atE ts) ∧ Below w.heap.size w w'
set_option maxRecDepth 100000 in
set_option maxHeartbeats 2000000 in
theorem atE_any (ts : Int) (w : World) : Calls Try.prog 38 #[.int .i64 ts] w (AtPost ts w) := by
  have kc := conv_const
  go_enter Try.func38, Try.ntmps38
  go_wp2
  (try simp only [Exit.inBlock, Exit.then])
  obtain ⟨h1, h2, h3, hb⟩ := three_lits w (.cells #[.slice (some ⟨w.heap.size + 1, 0, none⟩) 1 1, .int .i64 0, .slice (some ⟨w.heap.size + 1 + 1, 0, none⟩) 1 1, .int .i64 ts, .int .i64 32, .int .i64 1, .slice (some ⟨w.heap.size + 1 + 1 + 1, 0, none⟩) 1 1] 30) 114 113 118 5 (1, 2) _ rfl
  have HB := (Bxs.one w 30 #[.slice (some ⟨w.heap.size + 1, 0, none⟩) 1 1, .int .i64 0, .slice (some ⟨w.heap.size + 1 + 1, 0, none⟩) 1 1, .int .i64 ts, .int .i64 32, .int .i64 1, .slice (some ⟨w.heap.size + 1 + 1 + 1, 0, none⟩) 1 1]).later hb
  refine bodyPost_ret (results_box0 rfl _ _ w.heap.size _ rfl (HB.cells0 rfl) (by kernel_rfl) (by kernel_rfl)) rfl ?_
  exact ⟨_, _, _, rfl, ⟨h1, h2, h3⟩, HB.up⟩
end Go.Proofs.Ytdaoinhkagmbdaa
namespace Go.Proofs.Ytdaoinhkagmbdaa
open Go.RowKit
set_option maxRecDepth 100000 in
set_option maxHeartbeats 2000000 in
theorem sameEntry_no (a b : Ent) (A : Option Addr) (n c : Nat) (B : Option Addr) (m d : Nat) (D : Option Addr) (v q : Nat) (A' : Option Addr) (n' c' : Nat) (B' : Option Addr) (m' d' : Nat) (D' : Option Addr) (v' q' : Nat) (w : World) (he : ¬ a = b) (ha : En w A n c B m d D v q a) (hb : En w A' n' c' B' m' d' D' v' q' b) :
    Calls Try.prog 13 #[entV A n c B m d D v q a, entV A' n' c' B' m' d' D' v' q' b] w fun e w1 => e = .returned (.bool false) ∧ Below w.heap.size w w1 := by
  have HT := Lib.hid (Two.new w 30 #[.slice A n c, .int .i64 a.fam, .slice B m d, .int .i64 a.ts, .int .i64 a.seq, .int .i64 a.kind, .slice D v q] #[.slice A' n' c', .int .i64 b.fam, .slice B' m' d', .int .i64 b.ts, .int .i64 b.seq, .int .i64 b.kind, .slice D' v' q'])
  have HA : Hid (∀ x, Below w.heap.size w x → En x A n c B m d D v q a) := Lib.hid fun x h => ha.later h
  have HC : Hid (∀ x, Below w.heap.size w x → En x A' n' c' B' m' d' D' v' q' b) := Lib.hid fun x h => hb.later h
  have HLE : Hid (n ≤ 9223372036854775807 ∧ m ≤ 9223372036854775807 ∧ v ≤ 9223372036854775807) := Lib.hid ⟨ha.row.le, ha.qual.le, ha.val.le⟩
  have HNE : Hid (¬ (a.fam = b.fam ∧ a.ts = b.ts ∧ a.seq = b.seq ∧ a.kind = b.kind ∧ a.row = b.row ∧ a.qual = b.qual ∧ a.val = b.val)) := Lib.hid fun h => he (by
    obtain ⟨h1, h2, h3, h4, h5, h6, h7⟩ := h
    cases a; cases b; simp only at h1 h2 h3 h4 h5 h6 h7; subst h1; subst h2; subst h3; subst h4; subst h5; subst h6; subst h7; rfl)
  unfold entV
  clear ha hb he
  have tok1 : True := trivial
  have tok2 : True := trivial
  have tok3 : True := trivial
  by_cases q_fam : a.fam = b.fam
  case neg =>
    have d_fam : (a.fam != b.fam) = true := bne_iff_ne.2 q_fam
    clear q_fam
    go_enter Try.func13, Try.ntmps13
    go_wp2_with fail
    go_ret
    exact ⟨rfl, HT.out.up⟩
  have d_fam : (a.fam != b.fam) = false := bne_eq_false_iff_eq.2 q_fam
  have Q_fam := Lib.hid q_fam
  clear q_fam
  by_cases q_ts : a.ts = b.ts
  case neg =>
    have d_ts : (a.ts != b.ts) = true := bne_iff_ne.2 q_ts
    clear q_ts
    go_enter Try.func13, Try.ntmps13
    go_wp2_with fail
    go_ret
    exact ⟨rfl, HT.out.up⟩
  have d_ts : (a.ts != b.ts) = false := bne_eq_false_iff_eq.2 q_ts
  have Q_ts := Lib.hid q_ts
  clear q_ts
  by_cases q_seq : a.seq = b.seq
  case neg =>
    have d_seq : (a.seq != b.seq) = true := bne_iff_ne.2 q_seq
    clear q_seq
    go_enter Try.func13, Try.ntmps13
    go_wp2_with fail
    go_ret
    exact ⟨rfl, HT.out.up⟩
  have d_seq : (a.seq != b.seq) = false := bne_eq_false_iff_eq.2 q_seq
  have Q_seq := Lib.hid q_seq
  clear q_seq
  by_cases q_kind : a.kind = b.kind
  case neg =>
    have d_kind : (a.kind != b.kind) = true := bne_iff_ne.2 q_kind
    clear q_kind
    go_enter Try.func13, Try.ntmps13
    go_wp2_with fail
    go_ret
    exact ⟨rfl, HT.out.up⟩
  have d_kind : (a.kind != b.kind) = false := bne_eq_false_iff_eq.2 q_kind
  have Q_kind := Lib.hid q_kind
  clear q_kind
  by_cases q_row : a.row = b.row
  case neg =>
    have XS1 : Hid ((a.row == b.row) = false) := Lib.hid (beq_eq_false_iff_ne.2 q_row)
    clear q_row
    go_enter Try.func13, Try.ntmps13
    go_wp2_with (first
      | (go_at_call 43; have _t := tok1; go_must (refine (same_any a.row b.row _ _ _ _ _ _ _ HLE.out.1 (HA.out _ HT.out.up).row.rb (HC.out _ HT.out.up).row.rb).mono ?_); rw [XS1.out]; rintro e x1 ⟨rfl, hb1⟩; have HT1 := Lib.hid (HT.out.later hb1); clear hb1 tok1 _t; have a2 := boxed1 HT1.out (i := 2) (v := .slice B m d) rfl; have b2 := boxed2 HT1.out (i := 2) (v := .slice B' m' d') rfl))
    go_ret
    exact ⟨rfl, HT1.out.up⟩
  have XS1 : Hid ((a.row == b.row) = true) := Lib.hid (beq_iff_eq.2 q_row)
  have Q_row := Lib.hid q_row
  clear q_row
  by_cases q_qual : a.qual = b.qual
  case neg =>
    have XS2 : Hid ((a.qual == b.qual) = false) := Lib.hid (beq_eq_false_iff_ne.2 q_qual)
    clear q_qual
    go_enter Try.func13, Try.ntmps13
    go_wp2_with (first
      | (go_at_call 43; have _t := tok1; go_must (refine (same_any a.row b.row _ _ _ _ _ _ _ HLE.out.1 (HA.out _ HT.out.up).row.rb (HC.out _ HT.out.up).row.rb).mono ?_); rw [XS1.out]; rintro e x1 ⟨rfl, hb1⟩; have HT1 := Lib.hid (HT.out.later hb1); clear hb1 tok1 _t; have a2 := boxed1 HT1.out (i := 2) (v := .slice B m d) rfl; have b2 := boxed2 HT1.out (i := 2) (v := .slice B' m' d') rfl)
      | (go_at_call 43; have _t := tok2; go_must (refine (same_any a.qual b.qual _ _ _ _ _ _ _ HLE.out.2.1 (HA.out _ HT1.out.up).qual.rb (HC.out _ HT1.out.up).qual.rb).mono ?_); rw [XS2.out]; rintro e x2 ⟨rfl, hb2⟩; have HT2 := Lib.hid (HT1.out.later hb2); clear hb2 tok2 _t; have a6 := boxed1 HT2.out (i := 6) (v := .slice D v q) rfl; have b6 := boxed2 HT2.out (i := 6) (v := .slice D' v' q') rfl))
    go_ret
    exact ⟨rfl, HT2.out.up⟩
  have XS2 : Hid ((a.qual == b.qual) = true) := Lib.hid (beq_iff_eq.2 q_qual)
  have Q_qual := Lib.hid q_qual
  clear q_qual
  have XS3 : Hid ((a.val == b.val) = false) := Lib.hid (beq_eq_false_iff_ne.2 fun h => HNE.out ⟨Q_fam.out, Q_ts.out, Q_seq.out, Q_kind.out, Q_row.out, Q_qual.out, h⟩)
  go_enter Try.func13, Try.ntmps13
  go_wp2_with (first
    | (go_at_call 43; have _t := tok1; go_must (refine (same_any a.row b.row _ _ _ _ _ _ _ HLE.out.1 (HA.out _ HT.out.up).row.rb (HC.out _ HT.out.up).row.rb).mono ?_); rw [XS1.out]; rintro e x1 ⟨rfl, hb1⟩; have HT1 := Lib.hid (HT.out.later hb1); clear hb1 tok1 _t; have a2 := boxed1 HT1.out (i := 2) (v := .slice B m d) rfl; have b2 := boxed2 HT1.out (i := 2) (v := .slice B' m' d') rfl)
    | (go_at_call 43; have _t := tok2; go_must (refine (same_any a.qual b.qual _ _ _ _ _ _ _ HLE.out.2.1 (HA.out _ HT1.out.up).qual.rb (HC.out _ HT1.out.up).qual.rb).mono ?_); rw [XS2.out]; rintro e x2 ⟨rfl, hb2⟩; have HT2 := Lib.hid (HT1.out.later hb2); clear hb2 tok2 _t; have a6 := boxed1 HT2.out (i := 6) (v := .slice D v q) rfl; have b6 := boxed2 HT2.out (i := 6) (v := .slice D' v' q') rfl)
    | (go_at_call 43; have _t := tok3; go_must (refine (same_any a.val b.val _ _ _ _ _ _ _ HLE.out.2.2 (HA.out _ HT2.out.up).val.rb (HC.out _ HT2.out.up).val.rb).mono ?_); rw [XS3.out]; rintro e x3 ⟨rfl, hb3⟩; have HT3 := Lib.hid (HT2.out.later hb3); clear hb3 tok3 _t))
  go_ret
  exact ⟨rfl, HT3.out.up⟩
theorem sameEntry_dec (a b : ER) (w : World) (ha : a.En w) (hb : b.En w) :
    Calls Try.prog 13 #[.agg #[.slice a.A a.e.row.length a.c, .int .i64 a.e.fam, .slice a.B a.e.qual.length a.d, .int .i64 a.e.ts, .int .i64 a.e.seq, .int .i64 a.e.kind, .slice a.D a.e.val.length a.q], .agg #[.slice b.A b.e.row.length b.c, .int .i64 b.e.fam, .slice b.B b.e.qual.length b.d, .int .i64 b.e.ts, .int .i64 b.e.seq, .int .i64 b.e.kind, .slice b.D b.e.val.length b.q]] w fun e w1 => ∃ k, e = .returned (.bool k) ∧ (k = true ↔ a.e = b.e) ∧ Below w.heap.size w w1 := by
  by_cases h : a.e = b.e
  · exact (sameEntry_any a.e b.e a.A _ a.c a.B _ a.d a.D _ a.q b.A _ b.c b.B _ b.d b.D _ b.q w h ha hb).mono fun e z ⟨h1, h2⟩ => ⟨true, h1, ⟨fun _ => h, fun _ => rfl⟩, h2⟩
  · exact (sameEntry_no a.e b.e a.A _ a.c a.B _ a.d a.D _ a.q b.A _ b.c b.B _ b.d b.D _ b.q w h ha hb).mono fun e z ⟨h1, h2⟩ => ⟨false, h1, ⟨(fun e => nomatch e), fun e => absurd e h⟩, h2⟩
theorem sameEntry_yes (a b : ER) (w : World) (h : a.e = b.e) (ha : a.En w) (hb : b.En w) :
    Calls Try.prog 13 #[.agg #[.slice a.A a.e.row.length a.c, .int .i64 a.e.fam, .slice a.B a.e.qual.length a.d, .int .i64 a.e.ts, .int .i64 a.e.seq, .int .i64 a.e.kind, .slice a.D a.e.val.length a.q], .agg #[.slice b.A b.e.row.length b.c, .int .i64 b.e.fam, .slice b.B b.e.qual.length b.d, .int .i64 b.e.ts, .int .i64 b.e.seq, .int .i64 b.e.kind, .slice b.D b.e.val.length b.q]] w fun e w1 => e = .returned (.bool true) ∧ Below w.heap.size w w1 :=
  sameEntry_any a.e b.e a.A _ a.c a.B _ a.d a.D _ a.q b.A _ b.c b.B _ b.d b.D _ b.q w h ha hb
def atR (A B D : Option Addr) (ts : Int) : ER := ⟨A, 1, B, 1, D, 1, atE ts⟩
theorem at8_any (ts : Int) (w : World) : Calls Try.prog 38 #[.int .i64 ts] w fun e z => ∃ s : ER, e = .returned (.agg #[.slice s.A s.e.row.length s.c, .int .i64 s.e.fam, .slice s.B s.e.qual.length s.d, .int .i64 s.e.ts, .int .i64 s.e.seq, .int .i64 s.e.kind, .slice s.D s.e.val.length s.q]) ∧ s.e = atE ts ∧ s.En z ∧ Below w.heap.size w z :=
  (atE_any ts w).mono fun e z ⟨A, B, D, h1, h2, h3⟩ => ⟨atR A B D ts, h1, rfl, h2, h3⟩
end Go.Proofs.Ytdaoinhkagmbdaa
namespace Go.Proofs.Ytdaoinhkagmbdaa
open Go.RowKit
theorem tadd_is {w x : World} {tg : Nat} {fr : Bool} {os ms : List Ob} {t : Tr} (r : ER) (h : OW w (boxO tg (tabC t fr) :: os) x) (hs : ∀ o, o ∈ ms → o ∈ os) (hT : Tb ms t) (hE : r.En x) (hlen : t.list.length ≤ 90000) {L : List Ent} {k : Int} (hadd : addE t.ents fr r.e = (L, k)) :
    Calls Try.prog 10 #[.pointer (some ⟨tg, 0, none⟩), .agg #[.slice r.A r.e.row.length r.c, .int .i64 r.e.fam, .slice r.B r.e.qual.length r.d, .int .i64 r.e.ts, .int .i64 r.e.seq, .int .i64 r.e.kind, .slice r.D r.e.val.length r.q]] x fun e z => ∃ t' ns, e = .returned (.int .i64 k) ∧ OW w (boxO tg (tabC t' fr) :: (os ++ ns)) z ∧ Tb (ms ++ ns) t' ∧ t'.ents = L :=
  (tadd_any r h hs hT hE hlen).mono fun e z ⟨t', ns, h1, h2, h3, h4⟩ => ⟨t', ns, by rw [h1, hadd], h2, h3, by rw [h4, hadd]⟩
theorem tlen_is {w x : World} {tg : Nat} {fr : Bool} {os : List Ob} {t : Tr} (h : OW w os x) (hm : boxO tg (tabC t fr) ∈ os) {n : Nat} (hn : t.list.length = n) : Calls Try.prog 14 #[.pointer (some ⟨tg, 0, none⟩)] x fun e z => e = .returned (.int .i64 (n : Nat)) ∧ z = x := by
  subst hn; exact tlen_any h hm
theorem it_not_nil (b c : Nat) (w : World) : (binOp .eql 33 (.func (.func 67) #[] #[.pointer (some ⟨b, 0, none⟩), .pointer (some ⟨c, 0, none⟩)]) .nilFunc).run Try.prog w = .ok (.bool false) w := by kernel_rfl
theorem told_add1 : addE Tr.nil.ents false (atE 4) = ([atE 4], 0) := by kernel_rfl
theorem told_add2 : addE [atE 4] false (atE 5) = ([atE 5, atE 4], 0) := by kernel_rfl
theorem told_add3 : addE [atE 5, atE 4] false (atE 5) = ([atE 5, atE 4], 80) := by kernel_rfl
theorem told_perm0 (i b c t : Ob) (X : List Ob) : ((i :: t :: X) ++ [b, c]).Perm (i :: b :: c :: t :: X) := by (refine perm_of_cnt fun a => ?_; (simp only [cntO_app, cntO_cons, cntO_nil]) <;> omega)
theorem cl_in {a b c d : Ob} {X p : List Ob} (o : Ob) (h : o ∈ [b, c, d]) : o ∈ (a :: b :: c :: d :: X) ++ p := by
  rcases List.mem_cons.1 h with rfl | h
  · exact .tail _ (.head _)
  · rcases List.mem_cons.1 h with rfl | h
    · exact .tail _ (.tail _ (.head _))
    · rw [List.mem_singleton.1 h]; exact .tail _ (.tail _ (.tail _ (.head _)))
set_option maxRecDepth 10000000 in
set_option maxHeartbeats 8000000 in
theorem told_any8 (w : World) : Calls Try.prog 8 #[] w fun e z => e = .returned (.bool true) ∧ Below w.heap.size w z := by
  have HX0 := Lib.hid (OW.nil w)
  refine calls_marks Try.func8 rfl ?_
  simp only [Try.ntmps8, List.size_toArray, List.length_cons, List.length_nil, Nat.reduceAdd, Nat.reduceSub, Array.replicate_succ, Array.replicate_zero, List.push_toArray, List.append_toArray, List.nil_append, List.cons_append]
  go_upto_region 2 with (first
    | (refine wl_alloc rfl rfl [.bool false] (.inr ⟨.bool false, by kernel_rfl, rfl⟩) HX0.out ?_; intro g6 x1 hz _; have HG := Lib.hid (RBox.of hz); have HX := Lib.hid (OW.nil x1); clear hz HX0)
    | (go_at_call 9; go_must (refine (tnew_any _).mono ?_); rintro e x2 ⟨tg, rfl, hz⟩; have HA := Lib.hid (HX.out.app hz); clear hz HX))
  have tk1 : True := trivial
  have tk2 : True := trivial
  have tk3 : True := trivial
  go_upto_region 4 with (first
    | (go_at_call 38; (have _t := tk1); go_must (refine (at8_any 4 _).mono ?_); rintro e x3 ⟨s1, rfl, hse, hen, hb⟩; have HA1 := Lib.hid (HA.out.later hb); have HN1 := Lib.hid (And.intro hse hen); clear hse hen hb HA tk1 _t)
    | (go_at_call 10; (have _t := HN1); go_must (refine (tadd_is (os := []) (ms := []) s1 HA1.out (fun _ h => h) (Tb.nil []) HN1.out.2 (by decide) (L := [atE 4]) (k := 0) (by simp only [HN1.out.1, told_add1])).mono ?_); rintro e x4 ⟨t1, ns1, rfl, hz, hT, he⟩; have HB1 := Lib.hid hz; have HT1 := Lib.hid hT; have HE1 := Lib.hid he; clear hz hT he HN1 _t HA1)
    | (go_at_call 38; (have _t := tk2); go_must (refine (at8_any 5 _).mono ?_); rintro e x5 ⟨s2, rfl, hse, hen, hb⟩; have HA2 := Lib.hid (HB1.out.later hb); have HN2 := Lib.hid (And.intro hse hen); clear hse hen hb HB1 tk2 _t)
    | (go_at_call 10; (have _t := HN2); go_must (refine (tadd_is s2 HA2.out (fun o h => h) HT1.out HN2.out.2 (by rw [← Tr.ents_len, HE1.out]; decide) (L := [atE 5, atE 4]) (k := 0) (by simp only [HN2.out.1, HE1.out, told_add2])).mono ?_); rintro e x6 ⟨t2, ns2, rfl, hz, hT, he⟩; have HB2 := Lib.hid hz; have HT2 := Lib.hid hT; have HE2 := Lib.hid he; clear hz hT he HN2 _t HA2 HT1 HE1)
    | (go_at_call 14; go_must (refine (tlen_is HB2.out (.head _) (n := 2) (by rw [← Tr.ents_len, HE2.out]; rfl)).mono ?_); rintro e x7 ⟨rfl, hz⟩; rw [hz]; clear hz)
    | (go_at_call 38; (have _t := tk3); go_must (refine (at8_any 5 _).mono ?_); rintro e x8 ⟨s3, rfl, hse, hen, hb⟩; have HA3 := Lib.hid (HB2.out.later hb); have HN3 := Lib.hid (And.intro hse hen); clear hse hen hb HB2 tk3 _t)
    | (go_at_call 10; go_must (refine (tadd_is s3 HA3.out (fun o h => h) HT2.out HN3.out.2 (by rw [← Tr.ents_len, HE2.out]; decide) (L := [atE 5, atE 4]) (k := 80) (by simp only [HN3.out.1, HE2.out, told_add3])).mono ?_); rintro e x9 ⟨t3, ns3, rfl, hz, hT, he⟩; have HB3 := Lib.hid hz; have HT3 := Lib.hid hT; have HE3 := Lib.hid he; clear hz hT he HN3 HA3 HT2 HE2))
  obtain ⟨ns, hns⟩ : ∃ z, z = (([] ++ ns1) ++ ns2) ++ ns3 := ⟨_, rfl⟩
  rw [← hns] at HB3 HT3
  clear hns
  have hfn := it_not_nil
  go_upto_region 6 with (first
    | (go_at_call 12; go_must (refine (all_any8 tg _).mono ?_); rintro e y1 ⟨c24, c83, rfl, hz⟩; have HB4 := Lib.hid (HB3.out.later hz.up); clear hz HB3)
    | (go_at_call 38; go_must (refine (at8_any 9 _).mono ?_); rintro e y2 ⟨s4, rfl, hse, hen, hb⟩; have HB5 := Lib.hid (HB4.out.later hb); have HN4 := Lib.hid (And.intro hse hen); clear hse hen hb HB4)
    | (go_at_call 28; go_must (refine (from_any tg s4 _ HN4.out.2 (by rw [HN4.out.1]; decide)).mono ?_); rintro e y3 ⟨d24, d83, d5, s5, rfl, _, _, hz⟩; have HB6 := Lib.hid (HB5.out.later hz.up); clear hz HB5))
  clear hfn
  go_wp2_with (first
    | (refine wl_alloc rfl rfl [.int .i64 0] (.inr ⟨.int .i64 0, by kernel_rfl, rfl⟩) HB6.out ?_; intro gi y4 hz _; have HB7 := Lib.hid (hz.perm List.perm_append_comm); clear hz HB6)
    | (refine wl_put1 rfl (.tmp 2) (.const (.int .i64 0)) rfl HB7.out 0 rfl 0 rfl (by simp) (.int .i64 0) rfl (by kernel_rfl) rfl ?_; intro y5 hz _; have HB8 := Lib.hid hz; clear hz HB7)
    | (go_at_call 12; go_must (refine (all_any8 tg _).mono ?_); rintro e y6 ⟨b24, b83, rfl, hz⟩; have HY : Hid (OW x1 (boxO gi [.int .i64 ((0 : Nat) : Int)] :: boxO b24 [.pointer (some ⟨tg, 0, none⟩)] :: boxO b83 [.func (.func 42) #[] #[]] :: boxO tg (tabC t3 false) :: ns) y6) := Lib.hid ((HB8.out.app hz).perm (told_perm0 _ _ _ _ _)); clear hz HB8))
  have hit := allIter tg b24 b83 t3 false
  rw [HE3.out] at hit
  have HIT := Lib.hid (HT3.out.it (os := boxO b24 [.pointer (some ⟨tg, 0, none⟩)] :: boxO b83 [.func (.func 42) #[] #[]] :: boxO tg (tabC t3 false) :: ns) fun o ho => .tail _ (.tail _ (.tail _ ho)))
  refine wp_rangeQ (w := x1) (L := [atE 5, atE 4]) (Hand := HandM) rfl (enters_of Try.func67 (by kernel_rfl) rfl) hit (fun _ _ _ _ h => h.ok)
    (fun pre os' => os' = boxO gi [.int .i64 (pre.length : Nat)] :: boxO b24 [.pointer (some ⟨tg, 0, none⟩)] :: boxO b83 [.func (.func 42) #[] #[]] :: boxO tg (tabC t3 false) :: ns) (fun _ _ _ => False) ?itr (os0 := boxO gi [.int .i64 ((0 : Nat) : Int)] :: boxO b24 [.pointer (some ⟨tg, 0, none⟩)] :: boxO b83 [.func (.func 42) #[] #[]] :: boxO tg (tabC t3 false) :: ns) rfl ⟨.tail _ (.head _), .tail _ (.tail _ (.head _)), .tail _ (.tail _ (.tail _ (.head _)))⟩ (HIT.out.more1 fun o ho => .tail _ ho) HY.out ?round ?done ?stop
  case itr =>
    rintro pre os' es rfl
    exact HIT.out.more1 fun o ho => List.mem_append_left _ (.tail _ ho)
  case stop => exact fun D c' pre os' z _ h => h.elim
  case round =>
    rintro l p1 p2 pre e vs W0 W1 os' _ hpre rfl h0 ⟨s, rfl, rfl, hec, hh⟩
    have hlt := pre_at8 hpre
    obtain ⟨m, hm⟩ : ∃ z, z = pre.length := ⟨_, rfl⟩
    rw [← hm] at hlt h0
    have hm2 : m < 2 := (List.getElem?_eq_some_iff.1 hlt).1
    have HSE : Hid (s.e = atE (5 - (m : Int))) := Lib.hid (by
      have h9 : m = 0 ∨ m = 1 := by omega
      rcases h9 with h9 | h9 <;> (subst h9; injection hlt with hlt; exact hlt.symm))
    have HM := Lib.hid hm
    have HEC := Lib.hid hec
    have s1 : IntKind.i64.wrap (5 - (m : Int)) = 5 - (m : Int) := i64_sum (by omega) (by omega)
    have s2 : IntKind.i64.wrap ((m : Int) + 1) = (m : Int) + 1 := i64_sum (by omega) (by omega)
    have HV : Hid (OW x1 ((clipO s.A s.e.row :: clipO s.B s.e.qual :: clipO s.D s.e.val :: boxO gi [.int .i64 (m : Nat)] :: boxO b24 [.pointer (some ⟨tg, 0, none⟩)] :: boxO b83 [.func (.func 42) #[] #[]] :: boxO tg (tabC t3 false) :: ns) ++ p1) W1) := Lib.hid ((h0.app hh).perm (perm4R _ _ _))
    clear hlt hpre h0 hh hec hm
    have hsem : ∀ (ρ : Operand → Value) (o : Oper), (∀ c, o.op ≠ .defer c) → Oper.semAt (some l) ρ o = execOp ρ o := fun ρ o h => Oper.semAt_some l ρ o h
    unfold RoundOK
    rw [setP1]
    simp only [List.setIfInBounds_toArray, List.set_cons_zero, List.set_cons_succ]
    gi_wp2_with (first
      | (refine wlIn_one rfl ?_; refine wl_alloc rfl rfl [.slice none 0 0, .int .i64 0, .slice none 0 0, .int .i64 0, .int .i64 0, .int .i64 0, .slice none 0 0] (.inl (by kernel_rfl)) HV.out ?_; intro gy z1 hz _; have HV1 := Lib.hid (hz.perm (perm4R _ _ _)); clear hz HV; refine wlIn_back ?_)
      | (refine wlIn_one rfl ?_; refine wl_put rfl (.tmp 3) (.tmp 41) rfl HV1.out 0 rfl rfl [.slice s.A s.e.row.length s.c, .int .i64 s.e.fam, .slice s.B s.e.qual.length s.d, .int .i64 s.e.ts, .int .i64 s.e.seq, .int .i64 s.e.kind, .slice s.D s.e.val.length s.q] rfl rfl (by kernel_rfl) (by simp [Value.oneCell']) ?_; intro z2 hz _; have HV2 : Hid (OW x1 ((boxO gy [.slice s.A s.e.row.length s.c, .int .i64 s.e.fam, .slice s.B s.e.qual.length s.d, .int .i64 s.e.ts, .int .i64 s.e.seq, .int .i64 s.e.kind, .slice s.D s.e.val.length s.q] :: clipO s.A s.e.row :: clipO s.B s.e.qual :: clipO s.D s.e.val :: boxO gi [.int .i64 (m : Nat)] :: boxO b24 [.pointer (some ⟨tg, 0, none⟩)] :: boxO b83 [.func (.func 42) #[] #[]] :: boxO tg (tabC t3 false) :: ns) ++ p1) z2) := Lib.hid hz; clear hz HV1; refine wlIn_back ?_))
    refine ⟨_, HV2.out, fun z3 hz3 => ?_⟩
    have HW3 : Hid (OW x1 ((boxO gy [.slice s.A s.e.row.length s.c, .int .i64 s.e.fam, .slice s.B s.e.qual.length s.d, .int .i64 s.e.ts, .int .i64 s.e.seq, .int .i64 s.e.kind, .slice s.D s.e.val.length s.q] :: clipO s.A s.e.row :: clipO s.B s.e.qual :: clipO s.D s.e.val :: boxO gi [.int .i64 (m : Nat)] :: boxO b24 [.pointer (some ⟨tg, 0, none⟩)] :: boxO b83 [.func (.func 42) #[] #[]] :: boxO tg (tabC t3 false) :: ns) ++ p2) z3) := Lib.hid hz3
    clear hz3 HV2
    gi_wp2
    refine lt_startIn [] (by kernel_rfl) (by kernel_rfl) (fun _ _ h => h) ?_
    intro xd hd
    refine ⟨fun z => Below z3.heap.size z3 z, ?_⟩
    have HS := Lib.hid (hd)
    refine lt_take 0 [4, 5] rfl (by kernel_rfl) (by kernel_rfl) (by kernel_rfl) (by kernel_rfl) (by kernel_rfl) (fun _ _ _ h => h) (yi_row rfl rfl rfl (fun w hS => (HW3.out.later hS).range (i := 0) rfl) ent_row8) HS.out ?_
    simp only [Act.put, List.setIfInBounds_toArray, List.set_cons_zero, List.set_cons_succ]
    refine lt_take 1 [2, 3, 4, 5] rfl (by kernel_rfl) (by kernel_rfl) (by kernel_rfl) (by kernel_rfl) (by kernel_rfl) (fun _ _ _ h => h) (yi_cell rfl rfl rfl (fun w hS => (HW3.out.later hS).cell (i := 4) (j := 0) rfl rfl) (fun w => Try.isAgg3 w)) HS.out ?_
    simp only [Act.put, List.setIfInBounds_toArray, List.set_cons_zero, List.set_cons_succ]
    refine lt_pure 2 rfl (by kernel_rfl) (by kernel_rfl) (by kernel_rfl) (by kernel_rfl) (fun _ _ _ h => h) (v := ?_) (yi_run rfl (fun w => ?_)) (fun _ => HS.out) ?_
    rotate_left
    · first | (go_simp; done) | (go_simp; with_reducible rfl)
    simp only [Act.put, List.setIfInBounds_toArray, List.set_cons_zero, List.set_cons_succ]
    refine lt_call 3 rfl (by kernel_rfl) rfl rfl ⟨_, Try.func38, by decide, by kernel_rfl⟩ [.int .i64 (5 - (m : Int))] rfl ?_
    refine (at8_any _ _).mono ?_
    rintro e y1 ⟨q, rfl, hq1, hq2, hb⟩
    have HQ1 := Lib.hid hq1
    have HQ2 := Lib.hid hq2
    replace HS := Lib.hid (HS.out.trans (hb.mono HS.out.size))
    clear hq1 hq2 hb
    refine ⟨_, rfl, fun _ => HS.out, ?_⟩
    simp only [Act.put, List.setIfInBounds_toArray, List.set_cons_zero, List.set_cons_succ]
    refine lt_call 4 rfl (by kernel_rfl) rfl rfl ⟨_, Try.func13, by decide, by kernel_rfl⟩ [.agg #[.slice s.A s.e.row.length s.c, .int .i64 s.e.fam, .slice s.B s.e.qual.length s.d, .int .i64 s.e.ts, .int .i64 s.e.seq, .int .i64 s.e.kind, .slice s.D s.e.val.length s.q], .agg #[.slice q.A q.e.row.length q.c, .int .i64 q.e.fam, .slice q.B q.e.qual.length q.d, .int .i64 q.e.ts, .int .i64 q.e.seq, .int .i64 q.e.kind, .slice q.D q.e.val.length q.q]] rfl ?_
    refine (sameEntry_yes s q _ (by rw [HSE.out, HQ1.out]) ((HEC.out.more cl_in).en (HW3.out.later HS.out)) HQ2.out).mono ?_
    rintro e y2 ⟨rfl, hb⟩
    replace HS := Lib.hid (HS.out.trans (hb.mono HS.out.size))
    clear hb
    refine ⟨_, rfl, fun _ => HS.out, ?_⟩
    simp only [Act.put, List.setIfInBounds_toArray, List.set_cons_zero, List.set_cons_succ]
    refine lt_pure 5 rfl (by kernel_rfl) (by kernel_rfl) (by kernel_rfl) (by kernel_rfl) (fun _ _ _ h => h) (v := ?_) (yi_run rfl (fun w => ?_)) (fun _ => HS.out) ?_
    rotate_left
    · first | (go_simp; done) | (go_simp; with_reducible rfl)
    simp only [Act.put, List.setIfInBounds_toArray, List.set_cons_zero, List.set_cons_succ]
    refine lt_done (by kernel_rfl) ?_
    replace HW3 := Lib.hid (HW3.out.later HS.out)
    clear HS
    gi_wp2_with (first
      | (refine wlIn_one rfl ?_; refine wpList_load_cell rfl 3 (.tmp 2) rfl rfl (HW3.out.cell (i := 4) (j := 0) rfl rfl) (fun w => Try.isAgg3 w) ?_; refine wlIn_back ?_)
      | (refine wlIn_one rfl ?_; refine wl_put1 rfl (.tmp 2) (.tmp 49) rfl HW3.out 4 rfl 0 rfl (by simp) (.int .i64 ((m : Int) + 1)) rfl (by kernel_rfl) rfl ?_; intro z5 hz _; have HZ := Lib.hid hz; clear hz HW3; refine wlIn_back ?_))
    refine ⟨_, rfl, ?_⟩
    rw [List.length_append, ← HM.out]
    exact (((HZ.out.erase 0).erase 0).erase 0).erase 0
  case done =>
    rintro D os' z rfl h
    have HZ := Lib.hid h
    clear h HY
    go_wp2_with (first
      | (refine wpList_load_cell rfl 3 (.tmp 2) rfl rfl (HZ.out.cell (i := 0) (j := 0) rfl rfl) (fun w => Try.isAgg3 w) ?_)
      | (refine wl_cell1 rfl (.tmp 0) (.tmp 51) rfl rfl (HG.out.cell' HZ.out.up) (HG.out.fz' HZ.out.up) (.bool true) rfl (by kernel_rfl) rfl ?_))
    exact HG.out.mark (es := []) HZ.out _ rfl rfl (fun w => Try.isAgg4 w) fun z' hb => ⟨rfl, hb⟩
end Go.Proofs.Ytdaoinhkagmbdaa
namespace Go.Proofs.Ytdaoinhkagmbdaa
open Go.RowKit
theorem wpList_to8 (N : Nat) {Q : Exit → Act → World → Prop} {ops : Array Oper} {rest : List Oper} {o : Oper} {a : Act} {w : World} (hgd : Region.wanted o (yielded ops a.tmps) = true) (x : Operand) (ho : o.op = .slice 22 x none (some (.const (.int .i64 (N : Nat)))) none) {A : Option Addr} {n c : Nat} (hx : a.eval x = .slice A n c) (hc : N ≤ c)
    (hK : wpList Try.prog ops Q rest (a.put o.dst (.slice A N c)) w) : wpList Try.prog ops Q (o :: rest) a w :=
  BigFrame.wpList_want hgd fun _ hk => by
    have hrun : (execOp a.eval o).run Try.prog w = .ok (.value (.slice A N c)) w := by
      obtain ⟨dst, op, type, pos, after, guard⟩ := o
      simp only at ho
      subst ho
      have hcI : (N : Int) ≤ (c : Int) := by omega
      have hel : Try.prog.underlying 22 = some (.slice (Try.prog.elem 22)) := by kernel_rfl
      have h1 := run_slice_h (P := Try.prog) (w := w) 22 A n c hel .i64 (N : Nat) (by omega) hcI
      have hz : ((sizeOf (Try.prog.elem 22)).run Try.prog w) = .ok 7 w := by kernel_rfl
      rw [hz] at h1
      have h2 := run_sliceAt_slice (P := Try.prog) (w := w) 22 (.slice A n c) none (some (.int .i64 (N : Nat))) none hel
      rw [h1] at h2
      have h3 : sliced A 0 (Int.toNat (N : Int)) c 7 = .slice A N c := by
        unfold sliced
        simp [Addr.add]
      simp only [Result.andThen, h3] at h2
      show ((Instr.sliceAt 22 (a.eval x) none (some (.int .i64 (N : Nat))) none) >>= fun v => pure (Next.value v)).run Try.prog w = _
      rw [hx]
      simp only [Sem.run_bind, h2, Result.andThen]
      rfl
    unfold Oper.wp
    rw [hrun, Oper.upon_value]
    exact hk _ _ hK
theorem Ens.er {w : World} {A : Option Addr} {n : Nat} {es : List Ent} (h : Ens w A n es) {k : Nat} (hk : k < n) : ∃ (b o : Nat) (r : ER), A = some ⟨b, o, none⟩ ∧ b < w.heap.size ∧ es[k]? = some r.e ∧ w.rangeAt b (o + k * 7) [.slice r.A r.e.row.length r.c, .int .i64 r.e.fam, .slice r.B r.e.qual.length r.d, .int .i64 r.e.ts, .int .i64 r.e.seq, .int .i64 r.e.kind, .slice r.D r.e.val.length r.q] ∧ r.En w := by
  obtain ⟨b, o, Ar, c, B, d, D, q, e, h1, h2, h3, h4, h5⟩ := h.at_ hk
  exact ⟨b, o, ⟨Ar, c, B, d, D, q, e⟩, h1, h2, h3, h4, h5⟩
theorem Col.ensm {rs : List ER} {pre : List Ent} (h : Col rs pre) {w x : World} {os : List Ob} {A : Option Addr} {n c : Nat} (hx : OW w os x) (hm : ∀ o, o ∈ listO8 A n c rs → o ∈ os) : Ens x A n pre := by
  obtain ⟨i, hi⟩ := List.getElem?_of_mem (hm (rowO 30 7 (.slice A n c) n (rs.flatMap ER.cells)) (.head _))
  rw [← h.e]
  exact OW.ens hx hi fun r hr => ((h.en r hr).more fun o ho => hm o (.tail _ ho)).en hx
theorem addE_sub (L : List Ent) (fr : Bool) (e : Ent) : L.Sublist (addE L fr e).1 ∧ (addE L fr e).1.length ≤ L.length + 1 := by
  unfold addE
  split
  · exact ⟨List.Sublist.refl _, Nat.le_succ _⟩
  · split
    · exact ⟨List.Sublist.refl _, Nat.le_succ _⟩
    · split
      · exact ⟨List.Sublist.refl _, Nat.le_succ _⟩
      · refine ⟨?_, ins_len L e⟩
        unfold insE
        split
        · exact List.Sublist.refl _
        · have h := (List.Sublist.refl (L.take (insN L e))).append ((List.Sublist.refl (L.drop (insN L e))).cons e)
          rwa [List.take_append_drop] at h
theorem sub_step {α : Type} {A B : List α} {q i : Nat} {a b : α} (h : (A.drop q).Sublist (B.drop i)) (ha : A[q]? = some a) (hb : B[i]? = some b) : (a = b → (A.drop (q + 1)).Sublist (B.drop (i + 1))) ∧ (¬ a = b → (A.drop q).Sublist (B.drop (i + 1))) := by
  obtain ⟨hq, e1⟩ := List.getElem?_eq_some_iff.1 ha
  obtain ⟨hi, e2⟩ := List.getElem?_eq_some_iff.1 hb
  rw [List.drop_eq_getElem_cons hq, List.drop_eq_getElem_cons hi, e1, e2] at h
  refine ⟨fun e => ?_, fun e => ?_⟩
  · subst e
    rcases h with _ | ⟨_, h⟩ | ⟨_, h⟩
    · exact (List.sublist_cons_self _ _).trans h
    · exact h
  · rw [List.drop_eq_getElem_cons hq, e1]
    rcases h with _ | ⟨_, h⟩ | ⟨_, h⟩
    · exact h
    · exact absurd rfl e
theorem fx_perm1 {g t : Ob} {X Y P : List Ob} (a b c d : Ob) : (((a :: b :: c :: d :: t :: (X ++ Y)) ++ P) ++ [g]).Perm (t :: g :: ((a :: b :: c :: d :: (X ++ Y)) ++ P)) := by (refine perm_of_cnt fun a => ?_; (simp only [cntO_app, cntO_cons, cntO_nil]) <;> omega)
theorem fx_perm2 {t : Ob} {X Y Z P : List Ob} (a b c d : Ob) : (t :: (((a :: b :: c :: d :: (X ++ Y)) ++ P) ++ Z)).Perm ((a :: b :: c :: d :: t :: (X ++ (Y ++ Z))) ++ P) := by (refine perm_of_cnt fun a => ?_; (simp only [cntO_app, cntO_cons, cntO_nil]) <;> omega)
set_option maxRecDepth 10000000 in
set_option maxHeartbeats 16000000 in
theorem fixed_any (la lm : List Ent) (A : Option Addr) (n0 c : Nat) (M : Option Addr) (k c2 : Nat) (w : World) (hA : Ens w A n0 la) (hn0 : n0 ≤ c) (hc : c ≤ 9223372036854775807) (hM : Ens w M k lm) (hk : k ≤ 9223372036854775807) :
    Calls Try.prog 3 #[.slice A n0 c, .slice M k c2] w fun e z => e = .returned (.bool true) ∧ Below w.heap.size w z := by
  have HEA : Hid (∀ z, Below w.heap.size w z → Ens z A n0 la) := Lib.hid fun z hz => hA.later hz
  have HEM : Hid (∀ z, Below w.heap.size w z → Ens z M k lm) := Lib.hid fun z hz => hM.later hz
  have HX0 := Lib.hid (OW.nil w)
  obtain ⟨n, hn⟩ : ∃ z, z = min n0 60 := ⟨_, rfl⟩
  have hnn : n ≤ n0 := by omega
  have hn60 : n ≤ 60 := by omega
  clear hA hM
  refine calls_marks Try.func3 rfl ?_
  simp only [Try.ntmps3, List.size_toArray, List.length_cons, List.length_nil, Nat.reduceAdd, Nat.reduceSub, Array.replicate_succ, Array.replicate_zero, List.push_toArray, List.append_toArray, List.nil_append, List.cons_append]
  go_upto_if 19 with (first
    | (refine wl_box rfl (.tmp 1) rfl [.slice M k c2] rfl HX0.out ?_; intro g3 x0 hz _; have HX1 := Lib.hid hz; clear hz HX0)
    | (refine wl_alloc rfl rfl [.bool false] (.inr ⟨.bool false, by kernel_rfl, rfl⟩) HX1.out ?_; intro g4 x1 hz _; have HG := Lib.hid (RBox.of (hz.erase 0)); have HC3 : Hid (∀ z, Below x1.heap.size x1 z → z.cell? ⟨g3, 0, none⟩ = some (.slice M k c2)) := Lib.hid fun z hq => (hq.cell (p := ⟨g3, 0, none⟩) (hz.box (i := 0) rfl).2.1).trans (hz.cell (i := 0) (j := 0) rfl rfl); have HX := Lib.hid (OW.nil x1); clear hz HX1)
    | (go_at_call 8; go_must (refine (told_any8 _).mono ?_); rintro e x2 ⟨rfl, hb⟩; replace HX := Lib.hid (HX.out.later hb); clear hb))
  have HW : Hid (∀ z, Below x1.heap.size x1 z → Below w.heap.size w z) := Lib.hid fun z hz => HG.out.up.trans (hz.mono HG.out.up.size)
  obtain ⟨w4, rfl⟩ : ∃ z : World, z = x2 := ⟨_, rfl⟩
  go_cut [0] from 15 to 117 (fun av wx => w4 = wx ∧ av = .slice A n c)
  case first =>
    by_cases hbig : 60 < n0
    · have hd : decide ((n0 : Int) > 60) = true := decide_eq_true (by omega)
      obtain rfl : n = 60 := by omega
      go_wp2_with (refine wpList_to8 60 rfl (.tmp 20) rfl rfl (by omega) ?_; simp only [Act.put, List.setIfInBounds_toArray, List.set_cons_zero, List.set_cons_succ])
      go_meet
      exact ⟨rfl, rfl⟩
    · have hd : decide ((n0 : Int) > 60) = false := decide_eq_false (by omega)
      obtain rfl : n = n0 := by omega
      go_wp2_with fail
      go_meet
      exact ⟨rfl, rfl⟩
  obtain ⟨rfl, rfl⟩ := hcut
  clear hn
  go_wp2_with (first
    | (go_at_call 9; go_must (refine (tnew_any _).mono ?_); rintro e x3 ⟨tg, rfl, hz⟩; have HA := Lib.hid (HX.out.app hz); clear hz HX)
    | (refine wl_alloc rfl rfl [.pointer none] (.inr ⟨.pointer none, by kernel_rfl, rfl⟩) HA.out ?_; intro g5 x4 hz _; have HA1 := Lib.hid hz; clear hz HA)
    | (refine wl_put1 rfl (.tmp 5) (.tmp 22) rfl HA1.out 1 rfl 0 rfl (by simp) (.pointer (some ⟨tg, 0, none⟩)) rfl (by kernel_rfl) rfl ?_; intro x5 hz _; have HB : Hid (OW x1 (boxO tg (tabC .nil false) :: boxO g5 [.pointer (some ⟨tg, 0, none⟩)] :: []) x5) := Lib.hid hz; clear hz HA1))
  go_loopw [6] (fun iv wr => ∃ (i : Nat) (t : Tr) (ns : List Ob), i ≤ n ∧ iv = .int .i64 i ∧ t.list.length ≤ i ∧ Hid (OW x1 (boxO tg (tabC t false) :: boxO g5 [.pointer (some ⟨tg, 0, none⟩)] :: ns) wr) ∧ Hid (Tb ns t)) (fun iv _ => n - (intOf iv).toNat)
  case atStart => exact ⟨0, .nil, [], Nat.zero_le _, rfl, Nat.le_refl _, HB, Lib.hid (Tb.nil [])⟩
  case round =>
    clear HB
    obtain ⟨i, t, ns, hin, rfl, hti, HZ, HT⟩ := hrel
    by_cases hlt : i < n
    case pos =>
      have d1 : decide ((i : Int) < (n : Int)) = true := decide_eq_true (by omega)
      have i0 : (0 : Int) ≤ (i : Int) := by omega
      have i1 : (i : Int) < (n : Int) := by omega
      obtain ⟨b, o, r, rfl, hbl, hek, hrg, hen⟩ := (HEA.out w (Below.refl _ _)).er (Nat.lt_of_lt_of_le hlt hnn)
      have HRG : Hid (∀ z, Below w.heap.size w z → z.rangeAt b (o + i * 7) [.slice r.A r.e.row.length r.c, .int .i64 r.e.fam, .slice r.B r.e.qual.length r.d, .int .i64 r.e.ts, .int .i64 r.e.seq, .int .i64 r.e.kind, .slice r.D r.e.val.length r.q]) := Lib.hid fun z hz j v hj => (hz.cell (p := ⟨b, _, none⟩) hbl).trans (hrg j v hj)
      have HEN : Hid (∀ z, Below w.heap.size w z → r.En z) := Lib.hid fun z hz => hen.later hz
      clear hbl hek hrg hen
      go_wp2_with fail
      refine lt_start [5] (by kernel_rfl) ?_
      intro xd hd
      refine ⟨fun z => OW x1 (boxO tg (tabC t false) :: boxO g5 [.pointer (some ⟨tg, 0, none⟩)] :: ns) z, ?_⟩
      have HS := Lib.hid (HZ.out.later hd)
      refine lt_take 0 [5] rfl (by kernel_rfl) (by kernel_rfl) (by kernel_rfl) (by kernel_rfl) (by kernel_rfl) (fun _ _ _ h => h) (yi_cell rfl rfl rfl (fun w hS => OW.cell hS (i := 1) (j := 0) rfl rfl) (fun w => Try.isAgg24 w)) HS.out ?_
      simp only [Act.put, List.setIfInBounds_toArray, List.set_cons_zero, List.set_cons_succ]
      refine lt_pure 1 rfl (by kernel_rfl) (by kernel_rfl) (by kernel_rfl) (by kernel_rfl) (fun _ _ _ h => h) (v := ?_) (yi_run rfl (fun w => ?_)) (fun _ => HS.out) ?_
      rotate_left
      · first | (go_simp; done) | (go_simp; with_reducible rfl)
      simp only [Act.put, List.setIfInBounds_toArray, List.set_cons_zero, List.set_cons_succ]
      refine lt_pure 2 rfl (by kernel_rfl) (by kernel_rfl) (by kernel_rfl) (by kernel_rfl) (fun _ _ _ h => h) (v := ?_) (yi_run rfl (fun w => ?_)) (fun _ => HS.out) ?_
      rotate_left
      · first | (go_simp; done) | (go_simp; with_reducible rfl)
      simp only [Act.put, List.setIfInBounds_toArray, List.set_cons_zero, List.set_cons_succ]
      refine lt_pure 3 rfl (by kernel_rfl) (by kernel_rfl) (by kernel_rfl) (by kernel_rfl) (fun _ _ _ h => h) (v := ?_) (yi_run rfl (fun w => ?_)) (fun _ => HS.out) ?_
      rotate_left
      · first | (go_simp; done) | (go_simp; with_reducible rfl)
      simp only [Act.put, List.setIfInBounds_toArray, List.set_cons_zero, List.set_cons_succ]
      refine lt_take 4 [5] rfl (by kernel_rfl) (by kernel_rfl) (by kernel_rfl) (by kernel_rfl) (by kernel_rfl) (fun _ _ _ h => h) (yi_rowO rfl rfl rfl (fun w hS => HRG.out w (HW.out w (OW.up hS))) ent_row8) HS.out ?_
      simp only [Act.put, List.setIfInBounds_toArray, List.set_cons_zero, List.set_cons_succ]
      refine lt_call 5 rfl (by kernel_rfl) rfl rfl ⟨_, Try.func10, by decide, by kernel_rfl⟩ [.pointer (some ⟨tg, 0, none⟩), .agg #[.slice r.A r.e.row.length r.c, .int .i64 r.e.fam, .slice r.B r.e.qual.length r.d, .int .i64 r.e.ts, .int .i64 r.e.seq, .int .i64 r.e.kind, .slice r.D r.e.val.length r.q]] rfl ?_
      refine (tadd_any (os := boxO g5 [.pointer (some ⟨tg, 0, none⟩)] :: ns) r HS.out (fun o ho => .tail _ ho) HT.out (HEN.out _ (HW.out _ HS.out.up)) (by omega)).mono ?_
      rintro e y1 ⟨t2, ns2, rfl, hz, hT, he⟩
      have HZ2 : Hid (OW x1 (boxO tg (tabC t2 false) :: boxO g5 [.pointer (some ⟨tg, 0, none⟩)] :: (ns ++ ns2)) y1) := Lib.hid hz
      have HT2 := Lib.hid hT
      have HE2 := Lib.hid he
      clear hz hT he
      refine ⟨_, rfl, (fun e => nomatch e), ?_⟩
      simp only [Act.put, List.setIfInBounds_toArray, List.set_cons_zero, List.set_cons_succ]
      refine lt_done (by kernel_rfl) ?_
      clear HS
      go_wp2_with fail
      go_roundw
      case rel => exact ⟨i + 1, t2, ns ++ ns2, by omega, by go_num, by rw [← Tr.ents_len, HE2.out]; have h := (addE_sub t.ents false r.e).2; rw [Tr.ents_len] at h; omega, HZ2, HT2⟩
      case measure => simp [intOf]; omega
    have d1 : decide ((i : Int) < (n : Int)) = false := decide_eq_false (by omega)
    have htl : t.list.length ≤ 60 := by omega
    obtain ⟨n7, hn7⟩ : ∃ z, z = t.ents.length := ⟨_, rfl⟩
    have hn79 : n7 ≤ 60 := by rw [hn7, Tr.ents_len]; exact htl
    have HN7 := Lib.hid hn7.symm
    clear hti hn7
    go_wp2_with (first
      | (refine wpList_load_cell rfl 24 (.tmp 5) rfl rfl (HZ.out.cell (i := 1) (j := 0) rfl rfl) (fun w => Try.isAgg24 w) ?_)
      | (go_at_call 11; go_must (refine (rows_any8 HZ.out (.head _) (fun o ho => .tail _ (.tail _ ho)) HT.out (by omega)).mono ?_); rintro e y1 ⟨A7, m7, c7, rs, rfl, hl7, hcol, hz⟩; (obtain rfl : m7 = n7 := by have := HN7.out; omega); have HCOL := Lib.hid hcol; have HZ1 := Lib.hid hz; clear hl7 hcol hz)
      | (refine wl_alloc rfl rfl [.slice none 0 0] (.inr ⟨.slice none 0 0, by kernel_rfl, rfl⟩) HZ1.out ?_; intro g7 y2 hz _; have HZ2 := Lib.hid (hz.perm List.perm_append_comm); clear hz HZ1)
      | (refine wl_put1 rfl (.tmp 7) (.tmp 36) rfl HZ2.out 0 rfl 0 rfl (by simp) (.slice A7 m7 c7) rfl (by kernel_rfl) rfl ?_; intro y3 hz _; have HZ3 : Hid (OW x1 (boxO g7 [.slice A7 m7 c7] :: ((boxO tg (tabC t false) :: boxO g5 [.pointer (some ⟨tg, 0, none⟩)] :: ns) ++ listO8 A7 m7 c7 rs)) y3) := Lib.hid hz; clear hz HZ2)
      | (refine wl_alloc rfl rfl [.int .i64 0] (.inr ⟨.int .i64 0, by kernel_rfl, rfl⟩) HZ3.out ?_; intro g8 y4 hz _; have HZ4 := Lib.hid (hz.perm List.perm_append_comm); clear hz HZ3)
      | (refine wl_put1 rfl (.tmp 8) (.const (.int .i64 0)) rfl HZ4.out 0 rfl 0 rfl (by simp) (.int .i64 0) rfl (by kernel_rfl) rfl ?_; intro y5 hz _; have HZ5 : Hid (OW x1 (boxO g8 [.int .i64 0] :: boxO g7 [.slice A7 m7 c7] :: ((boxO tg (tabC t false) :: boxO g5 [.pointer (some ⟨tg, 0, none⟩)] :: ns) ++ listO8 A7 m7 c7 rs)) y5) := Lib.hid hz; clear hz HZ4)
      | (go_at_call 12; go_must (refine (all_any8 tg _).mono ?_); rintro e y6 ⟨b24, b83, rfl, hz⟩; have HZ6 := Lib.hid (HZ5.out.app hz); clear hz HZ5)
      | (refine wpList_load_cell rfl 24 (.tmp 5) rfl rfl (HZ5.out.cell (i := 3) (j := 0) rfl rfl) (fun w => Try.isAgg24 w) ?_))
    have HY : Hid (OW x1 (boxO tg (tabC t false) :: ((boxO g5 [.pointer (some ⟨tg, 0, none⟩)] :: boxO g7 [.slice A7 m7 c7] :: boxO g8 [.int .i64 (0 : Nat)] :: boxO b24 [.pointer (some ⟨tg, 0, none⟩)] :: boxO b83 [.func (.func 42) #[] #[]] :: listO8 A7 m7 c7 rs) ++ ns)) y6) := Lib.hid (HZ6.out.perm (by
      show List.Perm ((boxO g8 [.int .i64 0] :: boxO g7 [.slice A7 m7 c7] :: ((boxO tg (tabC t false) :: boxO g5 [.pointer (some ⟨tg, 0, none⟩)] :: ns) ++ listO8 A7 m7 c7 rs)) ++ [boxO b24 [.pointer (some ⟨tg, 0, none⟩)], boxO b83 [.func (.func 42) #[] #[]]]) (boxO tg (tabC t false) :: ((boxO g5 [.pointer (some ⟨tg, 0, none⟩)] :: boxO g7 [.slice A7 m7 c7] :: boxO g8 [.int .i64 0] :: boxO b24 [.pointer (some ⟨tg, 0, none⟩)] :: boxO b83 [.func (.func 42) #[] #[]] :: listO8 A7 m7 c7 rs) ++ ns))
      (refine perm_of_cnt fun a => ?_; (simp only [cntO_app, cntO_cons, cntO_nil]) <;> omega)))
    clear HZ6 HZ
    have HIT0 : Hid (ItT t (fun _ => True) ns) := Lib.hid (HT.out.it fun _ ho => ho)
    have tlen0 : t.list.length ≤ 60 + 20 * ([] : List Ent).length := by show t.list.length ≤ 60 + 20 * 0; omega
    refine wp_rangeQ (w := x1) (L := t.ents) (Hand := HandM) rfl (enters_of Try.func67 (by kernel_rfl) rfl) (allIter tg b24 b83 t false) (fun _ _ _ _ h => h.ok)
      (fun pre os' => ∃ t2 ns2, Tb ns2 t2 ∧ (∀ o, o ∈ ns → o ∈ ns2) ∧ t.ents.Sublist t2.ents ∧ t2.list.length ≤ 60 + 20 * pre.length ∧ os' = (boxO tg (tabC t2 false) :: ((boxO g5 [.pointer (some ⟨tg, 0, none⟩)] :: boxO g7 [.slice A7 m7 c7] :: boxO g8 [.int .i64 (pre.length : Nat)] :: boxO b24 [.pointer (some ⟨tg, 0, none⟩)] :: boxO b83 [.func (.func 42) #[] #[]] :: listO8 A7 m7 c7 rs) ++ ns2))) (fun _ _ _ => False) ?itr (os0 := (boxO tg (tabC t false) :: ((boxO g5 [.pointer (some ⟨tg, 0, none⟩)] :: boxO g7 [.slice A7 m7 c7] :: boxO g8 [.int .i64 (0 : Nat)] :: boxO b24 [.pointer (some ⟨tg, 0, none⟩)] :: boxO b83 [.func (.func 42) #[] #[]] :: listO8 A7 m7 c7 rs) ++ ns))) ⟨t, ns, HT.out, (fun _ ho => ho), List.Sublist.refl _, tlen0, rfl⟩ ⟨.tail _ (List.mem_append_left _ (.tail _ (.tail _ (.tail _ (.head _))))), .tail _ (List.mem_append_left _ (.tail _ (.tail _ (.tail _ (.tail _ (.head _)))))), .head _⟩ (HIT0.out.more1 fun o ho => .tail _ (List.mem_append_right _ ho)) HY.out ?round ?done ?stop
    case itr =>
      rintro pre os' es ⟨t2, ns2, _, hns, _, _, rfl⟩
      exact HIT0.out.more1 fun o ho => List.mem_append_left _ (.tail _ (List.mem_append_right _ (hns o ho)))
    case stop => exact fun D c' pre os' z _ h => h.elim
    case round =>
      rintro l p1 p2 pre e vs W0 W1 os' _ hpre ⟨t2, ns2, hT2, hns, hsub, hlen, rfl⟩ h0 ⟨s, rfl, rfl, hec, hh⟩
      have hlt2 := pre_at8 hpre
      obtain ⟨m, hm⟩ : ∃ z, z = pre.length := ⟨_, rfl⟩
      rw [← hm] at hlt2 h0 hlen
      have hm7 : m < m7 := by have h := (List.getElem?_eq_some_iff.1 hlt2).1; rw [HN7.out] at h; exact h
      have HV : Hid (OW x1 ((clipO s.A s.e.row :: clipO s.B s.e.qual :: clipO s.D s.e.val :: (boxO tg (tabC t2 false) :: ((boxO g5 [.pointer (some ⟨tg, 0, none⟩)] :: boxO g7 [.slice A7 m7 c7] :: boxO g8 [.int .i64 (m : Nat)] :: boxO b24 [.pointer (some ⟨tg, 0, none⟩)] :: boxO b83 [.func (.func 42) #[] #[]] :: listO8 A7 m7 c7 rs) ++ ns2))) ++ p1) W1) := Lib.hid ((h0.app hh).perm (perm4R _ _ _))
      have HLT := Lib.hid hlt2
      have HM := Lib.hid hm
      have HEC := Lib.hid hec
      have HT2 := Lib.hid hT2
      have HNS := Lib.hid hns
      have HSUB := Lib.hid hsub
      have i0 : (0 : Int) ≤ (m : Int) := by omega
      have i1 : (m : Int) < (m7 : Int) := by omega
      have i2 : decide ((m : Int) ≥ (m7 : Int)) = false := decide_eq_false (by omega)
      have i3 : ¬ m7 ≤ m := by omega
      have s2 : IntKind.i64.wrap ((m : Int) + 1) = (m : Int) + 1 := i64_sum (by omega) (by omega)
      clear hlt2 hpre h0 hh hec hm hT2 hns hsub HY
      have hsem : ∀ (ρ : Operand → Value) (o : Oper), (∀ c, o.op ≠ .defer c) → Oper.semAt (some l) ρ o = execOp ρ o := fun ρ o h => Oper.semAt_some l ρ o h
      unfold RoundOK
      rw [setP1]
      simp only [List.setIfInBounds_toArray, List.set_cons_zero, List.set_cons_succ]
      gi_wp2_with (first
        | (refine wlIn_one rfl ?_; refine wl_alloc rfl rfl [.slice none 0 0, .int .i64 0, .slice none 0 0, .int .i64 0, .int .i64 0, .int .i64 0, .slice none 0 0] (.inl (by kernel_rfl)) HV.out ?_; intro gy z1 hz _; have HV1 := Lib.hid (hz.perm (perm4R _ _ _)); clear hz HV; refine wlIn_back ?_)
        | (refine wlIn_one rfl ?_; refine wl_put rfl (.tmp 9) (.tmp 39) rfl HV1.out 0 rfl rfl [.slice s.A s.e.row.length s.c, .int .i64 s.e.fam, .slice s.B s.e.qual.length s.d, .int .i64 s.e.ts, .int .i64 s.e.seq, .int .i64 s.e.kind, .slice s.D s.e.val.length s.q] rfl rfl (by kernel_rfl) (by simp [Value.oneCell']) ?_; intro z2 hz _; have HV2 : Hid (OW x1 ((boxO gy [.slice s.A s.e.row.length s.c, .int .i64 s.e.fam, .slice s.B s.e.qual.length s.d, .int .i64 s.e.ts, .int .i64 s.e.seq, .int .i64 s.e.kind, .slice s.D s.e.val.length s.q] :: clipO s.A s.e.row :: clipO s.B s.e.qual :: clipO s.D s.e.val :: (boxO tg (tabC t2 false) :: ((boxO g5 [.pointer (some ⟨tg, 0, none⟩)] :: boxO g7 [.slice A7 m7 c7] :: boxO g8 [.int .i64 (m : Nat)] :: boxO b24 [.pointer (some ⟨tg, 0, none⟩)] :: boxO b83 [.func (.func 42) #[] #[]] :: listO8 A7 m7 c7 rs) ++ ns2))) ++ p1) z2) := Lib.hid hz; clear hz HV1; refine wlIn_back ?_))
      refine ⟨_, HV2.out, fun z3 hz3 => ?_⟩
      have HW3 : Hid (OW x1 ((boxO gy [.slice s.A s.e.row.length s.c, .int .i64 s.e.fam, .slice s.B s.e.qual.length s.d, .int .i64 s.e.ts, .int .i64 s.e.seq, .int .i64 s.e.kind, .slice s.D s.e.val.length s.q] :: clipO s.A s.e.row :: clipO s.B s.e.qual :: clipO s.D s.e.val :: (boxO tg (tabC t2 false) :: ((boxO g5 [.pointer (some ⟨tg, 0, none⟩)] :: boxO g7 [.slice A7 m7 c7] :: boxO g8 [.int .i64 (m : Nat)] :: boxO b24 [.pointer (some ⟨tg, 0, none⟩)] :: boxO b83 [.func (.func 42) #[] #[]] :: listO8 A7 m7 c7 rs) ++ ns2))) ++ p2) z3) := Lib.hid hz3
      clear hz3 HV2
      obtain ⟨b, o, q, rfl, hbl, hek, hrg, hen⟩ := (HCOL.out.ensm HW3.out fun o ho => List.mem_append_left _ (.tail _ (.tail _ (.tail _ (.tail _ (.tail _ (List.mem_append_left _ (.tail _ (.tail _ (.tail _ (.tail _ (.tail _ ho)))))))))))).er hm7
      have HQE : Hid (s.e = q.e) := Lib.hid (by rw [HLT.out] at hek; injection hek)
      have HRG : Hid (∀ z, Below z3.heap.size z3 z → z.rangeAt b (o + m * 7) [.slice q.A q.e.row.length q.c, .int .i64 q.e.fam, .slice q.B q.e.qual.length q.d, .int .i64 q.e.ts, .int .i64 q.e.seq, .int .i64 q.e.kind, .slice q.D q.e.val.length q.q]) := Lib.hid fun z hz j v hj => (hz.cell (p := ⟨b, _, none⟩) hbl).trans (hrg j v hj)
      have HEN : Hid (∀ z, Below z3.heap.size z3 z → q.En z) := Lib.hid fun z hz => hen.later hz
      clear hbl hek hrg hen
      gi_wp2
      refine lt_startIn [] (by kernel_rfl) (by kernel_rfl) (fun _ _ h => h) ?_
      intro xd hd
      refine ⟨fun z => Below z3.heap.size z3 z, ?_⟩
      have HS := Lib.hid (hd)
      refine lt_take 0 [3, 4, 5, 6, 7, 8, 9, 10, 11, 12] rfl (by kernel_rfl) (by kernel_rfl) (by kernel_rfl) (by kernel_rfl) (by kernel_rfl) (fun _ _ _ h => h) (yi_cell rfl rfl rfl (fun w hS => (HW3.out.later hS).cell (i := 7) (j := 0) rfl rfl) (fun w => Try.isAgg3 w)) HS.out ?_
      simp only [Act.put, List.setIfInBounds_toArray, List.set_cons_zero, List.set_cons_succ]
      refine lt_take 1 [2, 3, 4, 5, 6, 7, 8, 9, 10, 11, 12] rfl (by kernel_rfl) (by kernel_rfl) (by kernel_rfl) (by kernel_rfl) (by kernel_rfl) (fun _ _ _ h => h) (yi_cell rfl rfl rfl (fun w hS => (HW3.out.later hS).cell (i := 6) (j := 0) rfl rfl) (fun w => Try.isAgg22 w)) HS.out ?_
      simp only [Act.put, List.setIfInBounds_toArray, List.set_cons_zero, List.set_cons_succ]
      refine lt_pure 2 rfl (by kernel_rfl) (by kernel_rfl) (by kernel_rfl) (by kernel_rfl) (fun _ _ _ h => h) (v := ?_) (yi_run rfl (fun w => ?_)) (fun _ => HS.out) ?_
      rotate_left
      · first | (go_simp; done) | (go_simp; with_reducible rfl)
      simp only [Act.put, List.setIfInBounds_toArray, List.set_cons_zero, List.set_cons_succ]
      refine lt_pure 3 rfl (by kernel_rfl) (by kernel_rfl) (by kernel_rfl) (by kernel_rfl) (fun _ _ _ h => h) (v := ?_) (yi_run rfl (fun w => ?_)) (fun _ => HS.out) ?_
      rotate_left
      · first | (go_simp; done) | (go_simp; with_reducible rfl)
      simp only [Act.put, List.setIfInBounds_toArray, List.set_cons_zero, List.set_cons_succ]
      refine lt_pure 4 rfl (by kernel_rfl) (by kernel_rfl) (by kernel_rfl) (by kernel_rfl) (fun _ _ _ h => h) (v := ?_) (yi_run rfl (fun w => ?_)) (fun _ => HS.out) ?_
      rotate_left
      · first | (go_simp; done) | (go_simp; with_reducible rfl)
      simp only [Act.put, List.setIfInBounds_toArray, List.set_cons_zero, List.set_cons_succ]
      refine lt_take 5 [10, 11, 12] rfl (by kernel_rfl) (by kernel_rfl) (by kernel_rfl) (by kernel_rfl) (by kernel_rfl) (fun _ _ _ h => h) (yi_row rfl rfl rfl (fun w hS => (HW3.out.later hS).range (i := 0) rfl) ent_row8) HS.out ?_
      simp only [Act.put, List.setIfInBounds_toArray, List.set_cons_zero, List.set_cons_succ]
      refine lt_take 6 [8, 9, 10, 11, 12] rfl (by kernel_rfl) (by kernel_rfl) (by kernel_rfl) (by kernel_rfl) (by kernel_rfl) (fun _ _ _ h => h) (yi_cell rfl rfl rfl (fun w hS => (HW3.out.later hS).cell (i := 6) (j := 0) rfl rfl) (fun w => Try.isAgg22 w)) HS.out ?_
      simp only [Act.put, List.setIfInBounds_toArray, List.set_cons_zero, List.set_cons_succ]
      refine lt_take 7 [8, 9, 10, 11, 12] rfl (by kernel_rfl) (by kernel_rfl) (by kernel_rfl) (by kernel_rfl) (by kernel_rfl) (fun _ _ _ h => h) (yi_cell rfl rfl rfl (fun w hS => (HW3.out.later hS).cell (i := 7) (j := 0) rfl rfl) (fun w => Try.isAgg3 w)) HS.out ?_
      simp only [Act.put, List.setIfInBounds_toArray, List.set_cons_zero, List.set_cons_succ]
      refine lt_pure 8 rfl (by kernel_rfl) (by kernel_rfl) (by kernel_rfl) (by kernel_rfl) (fun _ _ _ h => h) (v := ?_) (yi_run rfl (fun w => ?_)) (fun _ => HS.out) ?_
      rotate_left
      · first | (go_simp; done) | (go_simp; with_reducible rfl)
      simp only [Act.put, List.setIfInBounds_toArray, List.set_cons_zero, List.set_cons_succ]
      refine lt_take 9 [10, 11, 12] rfl (by kernel_rfl) (by kernel_rfl) (by kernel_rfl) (by kernel_rfl) (by kernel_rfl) (fun _ _ _ h => h) (yi_rowO rfl rfl rfl (fun w hS => HRG.out w hS) ent_row8) HS.out ?_
      simp only [Act.put, List.setIfInBounds_toArray, List.set_cons_zero, List.set_cons_succ]
      refine lt_call 10 rfl (by kernel_rfl) rfl rfl ⟨_, Try.func13, by decide, by kernel_rfl⟩ [.agg #[.slice s.A s.e.row.length s.c, .int .i64 s.e.fam, .slice s.B s.e.qual.length s.d, .int .i64 s.e.ts, .int .i64 s.e.seq, .int .i64 s.e.kind, .slice s.D s.e.val.length s.q], .agg #[.slice q.A q.e.row.length q.c, .int .i64 q.e.fam, .slice q.B q.e.qual.length q.d, .int .i64 q.e.ts, .int .i64 q.e.seq, .int .i64 q.e.kind, .slice q.D q.e.val.length q.q]] rfl ?_
      refine (sameEntry_yes s q _ HQE.out ((HEC.out.more cl_in).en (HW3.out.later HS.out)) (HEN.out _ HS.out)).mono ?_
      rintro e y2 ⟨rfl, hb⟩
      replace HS := Lib.hid (HS.out.trans (hb.mono HS.out.size))
      clear hb
      refine ⟨_, rfl, fun _ => HS.out, ?_⟩
      simp only [Act.put, List.setIfInBounds_toArray, List.set_cons_zero, List.set_cons_succ]
      refine lt_pure 11 rfl (by kernel_rfl) (by kernel_rfl) (by kernel_rfl) (by kernel_rfl) (fun _ _ _ h => h) (v := ?_) (yi_run rfl (fun w => ?_)) (fun _ => HS.out) ?_
      rotate_left
      · first | (go_simp; done) | (go_simp; with_reducible rfl)
      simp only [Act.put, List.setIfInBounds_toArray, List.set_cons_zero, List.set_cons_succ]
      refine lt_pure 12 rfl (by kernel_rfl) (by kernel_rfl) (by kernel_rfl) (by kernel_rfl) (fun _ _ _ h => h) (v := ?_) (yi_run rfl (fun w => ?_)) (fun _ => HS.out) ?_
      rotate_left
      · first | (go_simp; done) | (go_simp; with_reducible rfl)
      simp only [Act.put, List.setIfInBounds_toArray, List.set_cons_zero, List.set_cons_succ]
      refine lt_done (by kernel_rfl) ?_
      replace HW3 := Lib.hid (HW3.out.later HS.out)
      clear HS
      gi_wp2
      gi_loopw [10] (fun jv wr => ∃ (j : Nat) (t3 : Tr) (ns3 : List Ob), j ≤ k ∧ j ≤ 20 ∧ jv = .int .i64 j ∧ t3.list.length ≤ 60 + 20 * m + j ∧ Hid (t.ents.Sublist t3.ents) ∧ Hid (∀ o, o ∈ ns → o ∈ ns3) ∧ Hid (Tb ns3 t3) ∧ Hid (OW x1 ((boxO gy [.slice s.A s.e.row.length s.c, .int .i64 s.e.fam, .slice s.B s.e.qual.length s.d, .int .i64 s.e.ts, .int .i64 s.e.seq, .int .i64 s.e.kind, .slice s.D s.e.val.length s.q] :: clipO s.A s.e.row :: clipO s.B s.e.qual :: clipO s.D s.e.val :: (boxO tg (tabC t3 false) :: ((boxO g5 [.pointer (some ⟨tg, 0, none⟩)] :: boxO g7 [.slice (some ⟨b, o, none⟩) m7 c7] :: boxO g8 [.int .i64 (m : Nat)] :: boxO b24 [.pointer (some ⟨tg, 0, none⟩)] :: boxO b83 [.func (.func 42) #[] #[]] :: listO8 (some ⟨b, o, none⟩) m7 c7 rs) ++ ns3))) ++ p2) wr)) (fun jv _ => 20 - (intOf jv).toNat)
      case atStart => exact ⟨0, t2, ns2, Nat.zero_le _, by decide, rfl, by omega, HSUB, HNS, HT2, HW3⟩
      case round =>
        clear HW3 HSUB HNS HT2
        obtain ⟨j, t3, ns3, hjk, hj20, rfl, hlen3, HSUB3, HNS3, HT3, HL⟩ := hrel
        by_cases hk1 : j < k
        case neg =>
          have e1 : decide ((j : Int) < (k : Int)) = false := decide_eq_false (by omega)
          gi_wp2_with (first
            | (refine wlIn_one rfl ?_; refine wpList_load_cell rfl 22 (.tmp 3) rfl rfl (HC3.out _ HL.out.up) (fun w => Try.isAgg22 w) ?_; refine wlIn_back ?_)
            | (refine wlIn_one rfl ?_; refine wpList_load_cell rfl 3 (.tmp 8) rfl rfl (HL.out.cell (i := 7) (j := 0) rfl rfl) (fun w => Try.isAgg3 w) ?_; refine wlIn_back ?_)
            | (refine wlIn_one rfl ?_; refine wl_put1 rfl (.tmp 8) (.tmp 76) rfl HL.out 7 rfl 0 rfl (by simp) (.int .i64 ((m : Int) + 1)) rfl (by kernel_rfl) rfl ?_; intro z9 hz _; have HZ := Lib.hid hz; clear hz HL; refine wlIn_back ?_))
          refine ⟨_, ⟨t3, ns3, HT3.out, HNS3.out, HSUB3.out, ?_, rfl⟩, ?_⟩
          · rw [List.length_append, ← HM.out]; show t3.list.length ≤ 60 + 20 * (m + 1); omega
          · rw [List.length_append, ← HM.out]
            exact (((HZ.out.erase 0).erase 0).erase 0).erase 0
        have e1 : decide ((j : Int) < (k : Int)) = true := decide_eq_true (by omega)
        by_cases hk2 : j < 20
        case neg =>
          have e2 : decide ((j : Int) < 20) = false := decide_eq_false (by omega)
          gi_wp2_with (first
            | (refine wlIn_one rfl ?_; refine wpList_load_cell rfl 22 (.tmp 3) rfl rfl (HC3.out _ HL.out.up) (fun w => Try.isAgg22 w) ?_; refine wlIn_back ?_)
            | (refine wlIn_one rfl ?_; refine wpList_load_cell rfl 3 (.tmp 8) rfl rfl (HL.out.cell (i := 7) (j := 0) rfl rfl) (fun w => Try.isAgg3 w) ?_; refine wlIn_back ?_)
            | (refine wlIn_one rfl ?_; refine wl_put1 rfl (.tmp 8) (.tmp 76) rfl HL.out 7 rfl 0 rfl (by simp) (.int .i64 ((m : Int) + 1)) rfl (by kernel_rfl) rfl ?_; intro z9 hz _; have HZ := Lib.hid hz; clear hz HL; refine wlIn_back ?_))
          refine ⟨_, ⟨t3, ns3, HT3.out, HNS3.out, HSUB3.out, ?_, rfl⟩, ?_⟩
          · rw [List.length_append, ← HM.out]; show t3.list.length ≤ 60 + 20 * (m + 1); omega
          · rw [List.length_append, ← HM.out]
            exact (((HZ.out.erase 0).erase 0).erase 0).erase 0
        have e2 : decide ((j : Int) < 20) = true := decide_eq_true (by omega)
        have j0 : (0 : Int) ≤ (j : Int) := by omega
        have j1 : (j : Int) < (k : Int) := by omega
        obtain ⟨b2, o2, r, rfl, hbl, hek, hrg, hen⟩ := (HEM.out w (Below.refl _ _)).er hk1
        have HRG2 : Hid (∀ z, Below w.heap.size w z → z.rangeAt b2 (o2 + j * 7) [.slice r.A r.e.row.length r.c, .int .i64 r.e.fam, .slice r.B r.e.qual.length r.d, .int .i64 r.e.ts, .int .i64 r.e.seq, .int .i64 r.e.kind, .slice r.D r.e.val.length r.q]) := Lib.hid fun z hz j v hj => (hz.cell (p := ⟨b2, _, none⟩) hbl).trans (hrg j v hj)
        have HEN2 : Hid (∀ z, Below w.heap.size w z → r.En z) := Lib.hid fun z hz => hen.later hz
        obtain ⟨sq, hsq⟩ : ∃ z, IntKind.i64.wrap (r.e.seq + (m : Int)) = z := ⟨_, rfl⟩
        clear hbl hek hrg hen
        gi_wp2_with (first
          | (refine wlIn_one rfl ?_; refine wpList_load_cell rfl 22 (.tmp 3) rfl rfl (HC3.out _ HL.out.up) (fun w => Try.isAgg22 w) ?_; refine wlIn_back ?_)
          | (refine wlIn_one rfl ?_; refine wpList_load_at rfl 30 (.tmp 65) rfl rfl (HRG2.out _ (HW.out _ HL.out.up)) ent_row8 ?_; refine wlIn_back ?_)
          | (refine wlIn_one rfl ?_; refine wl_alloc rfl rfl [.slice none 0 0, .int .i64 0, .slice none 0 0, .int .i64 0, .int .i64 0, .int .i64 0, .slice none 0 0] (.inl (by kernel_rfl)) HL.out ?_; intro gx z4 hz _; have HL1 := Lib.hid (hz.perm (fx_perm1 _ _ _ _)); clear hz HL; refine wlIn_back ?_)
          | (refine wlIn_one rfl ?_; refine wl_put rfl (.tmp 11) (.tmp 66) rfl HL1.out 1 rfl rfl [.slice r.A r.e.row.length r.c, .int .i64 r.e.fam, .slice r.B r.e.qual.length r.d, .int .i64 r.e.ts, .int .i64 r.e.seq, .int .i64 r.e.kind, .slice r.D r.e.val.length r.q] rfl rfl (by kernel_rfl) (by simp [Value.oneCell']) ?_; intro z5 hz _; have HL2 : Hid (OW x1 (boxO tg (tabC t3 false) :: boxO gx [.slice r.A r.e.row.length r.c, .int .i64 r.e.fam, .slice r.B r.e.qual.length r.d, .int .i64 r.e.ts, .int .i64 r.e.seq, .int .i64 r.e.kind, .slice r.D r.e.val.length r.q] :: ((boxO gy [.slice s.A s.e.row.length s.c, .int .i64 s.e.fam, .slice s.B s.e.qual.length s.d, .int .i64 s.e.ts, .int .i64 s.e.seq, .int .i64 s.e.kind, .slice s.D s.e.val.length s.q] :: clipO s.A s.e.row :: clipO s.B s.e.qual :: clipO s.D s.e.val :: ((boxO g5 [.pointer (some ⟨tg, 0, none⟩)] :: boxO g7 [.slice (some ⟨b, o, none⟩) m7 c7] :: boxO g8 [.int .i64 (m : Nat)] :: boxO b24 [.pointer (some ⟨tg, 0, none⟩)] :: boxO b83 [.func (.func 42) #[] #[]] :: listO8 (some ⟨b, o, none⟩) m7 c7 rs) ++ ns3)) ++ p2)) z5) := Lib.hid hz; clear hz HL1; refine wlIn_back ?_)
          | (refine wlIn_one rfl ?_; refine wpList_load_cell rfl 3 (.tmp 67) rfl rfl (HL2.out.cell (i := 1) (j := 4) rfl rfl) (fun w => Try.isAgg3 w) ?_; refine wlIn_back ?_)
          | (refine wlIn_one rfl ?_; refine wpList_load_cell rfl 3 (.tmp 8) rfl rfl (HL2.out.cell (i := 8) (j := 0) rfl rfl) (fun w => Try.isAgg3 w) ?_; refine wlIn_back ?_)
          | (refine wlIn_one rfl ?_; refine wl_put1 rfl (.tmp 71) (.tmp 70) rfl HL2.out 1 rfl 4 rfl (by show 4 < 7; decide) (.int .i64 sq) rfl (by kernel_rfl) rfl ?_; intro z6 hz _; have HL3 : Hid (OW x1 (boxO tg (tabC t3 false) :: boxO gx [.slice r.A r.e.row.length r.c, .int .i64 r.e.fam, .slice r.B r.e.qual.length r.d, .int .i64 r.e.ts, .int .i64 sq, .int .i64 r.e.kind, .slice r.D r.e.val.length r.q] :: ((boxO gy [.slice s.A s.e.row.length s.c, .int .i64 s.e.fam, .slice s.B s.e.qual.length s.d, .int .i64 s.e.ts, .int .i64 s.e.seq, .int .i64 s.e.kind, .slice s.D s.e.val.length s.q] :: clipO s.A s.e.row :: clipO s.B s.e.qual :: clipO s.D s.e.val :: ((boxO g5 [.pointer (some ⟨tg, 0, none⟩)] :: boxO g7 [.slice (some ⟨b, o, none⟩) m7 c7] :: boxO g8 [.int .i64 (m : Nat)] :: boxO b24 [.pointer (some ⟨tg, 0, none⟩)] :: boxO b83 [.func (.func 42) #[] #[]] :: listO8 (some ⟨b, o, none⟩) m7 c7 rs) ++ ns3)) ++ p2)) z6) := Lib.hid hz; clear hz HL2; refine wlIn_back ?_)
          | (refine wlIn_one rfl ?_; refine wpList_load_cell rfl 24 (.tmp 5) rfl rfl (HL3.out.cell (i := 6) (j := 0) rfl rfl) (fun w => Try.isAgg24 w) ?_; refine wlIn_back ?_)
          | (refine wlIn_one rfl ?_; refine wpList_load_row7 rfl 30 (.tmp 11) rfl rfl (HL3.out.range (i := 1) rfl) ent_row8 ?_; refine wlIn_back ?_)
          | (refine ⟨trivial, ?_⟩; gi_at_call 10; go_must (refine CallsIn.mono (callsIn_fw (ro := some l) (tadd_any (os := boxO gx [.slice r.A r.e.row.length r.c, .int .i64 r.e.fam, .slice r.B r.e.qual.length r.d, .int .i64 r.e.ts, .int .i64 sq, .int .i64 r.e.kind, .slice r.D r.e.val.length r.q] :: ((boxO gy [.slice s.A s.e.row.length s.c, .int .i64 s.e.fam, .slice s.B s.e.qual.length s.d, .int .i64 s.e.ts, .int .i64 s.e.seq, .int .i64 s.e.kind, .slice s.D s.e.val.length s.q] :: clipO s.A s.e.row :: clipO s.B s.e.qual :: clipO s.D s.e.val :: ((boxO g5 [.pointer (some ⟨tg, 0, none⟩)] :: boxO g7 [.slice (some ⟨b, o, none⟩) m7 c7] :: boxO g8 [.int .i64 (m : Nat)] :: boxO b24 [.pointer (some ⟨tg, 0, none⟩)] :: boxO b83 [.func (.func 42) #[] #[]] :: listO8 (some ⟨b, o, none⟩) m7 c7 rs) ++ ns3)) ++ p2)) (ms := ns3) (⟨r.A, r.c, r.B, r.d, r.D, r.q, { r.e with seq := sq }⟩ : ER) HL3.out (fun o ho => .tail _ (List.mem_append_left _ (.tail _ (.tail _ (.tail _ (.tail _ (List.mem_append_right _ ho))))))) HT3.out (let h := HEN2.out _ (HW.out _ HL3.out.up); ⟨h.row, h.qual, h.val⟩) (by omega))) ?_); rintro e z7 ⟨t4, ns4, rfl, hz, hT, he⟩; have HL4 : Hid (OW x1 (boxO tg (tabC t4 false) :: (((boxO gy [.slice s.A s.e.row.length s.c, .int .i64 s.e.fam, .slice s.B s.e.qual.length s.d, .int .i64 s.e.ts, .int .i64 s.e.seq, .int .i64 s.e.kind, .slice s.D s.e.val.length s.q] :: clipO s.A s.e.row :: clipO s.B s.e.qual :: clipO s.D s.e.val :: ((boxO g5 [.pointer (some ⟨tg, 0, none⟩)] :: boxO g7 [.slice (some ⟨b, o, none⟩) m7 c7] :: boxO g8 [.int .i64 (m : Nat)] :: boxO b24 [.pointer (some ⟨tg, 0, none⟩)] :: boxO b83 [.func (.func 42) #[] #[]] :: listO8 (some ⟨b, o, none⟩) m7 c7 rs) ++ ns3)) ++ p2) ++ ns4)) z7) := Lib.hid (hz.erase 1); have HT4 := Lib.hid hT; have HE4 := Lib.hid he; clear hz hT he HL3))
        go_roundw
        case rel =>
          have h9 := addE_sub t3.ents false { r.e with seq := sq }
          have h8 := h9.2
          rw [Tr.ents_len, ← HE4.out, Tr.ents_len] at h8
          exact ⟨j + 1, t4, ns3 ++ ns4, by omega, by omega, by go_num, by omega, Lib.hid (by rw [HE4.out]; exact HSUB3.out.trans h9.1), Lib.hid (fun o ho => List.mem_append_left _ (HNS3.out o ho)), HT4, Lib.hid (HL4.out.perm (fx_perm2 _ _ _ _))⟩
        case measure => simp [intOf]; omega
    case done =>
      rintro D os' z ⟨t2, ns2, hT2, hns, hsub, hlen, rfl⟩ h
      rw [HN7.out] at h hlen
      have HZ : Hid (OW x1 ((boxO tg (tabC t2 false) :: ((boxO g5 [.pointer (some ⟨tg, 0, none⟩)] :: boxO g7 [.slice A7 m7 c7] :: boxO g8 [.int .i64 (m7 : Nat)] :: boxO b24 [.pointer (some ⟨tg, 0, none⟩)] :: boxO b83 [.func (.func 42) #[] #[]] :: listO8 A7 m7 c7 rs) ++ ns2)) ++ [dfrO D]) z) := Lib.hid h
      have HT2 := Lib.hid hT2
      have HSUB := Lib.hid hsub
      have e8 : (m7 != m7) = false := by simp
      have e9 : ((m7 : Int) != (m7 : Int)) = false := by simp
      clear h hT2 hns hsub HY
      go_wp2_with (first
        | (refine wpList_load_cell rfl 3 (.tmp 8) rfl rfl (HZ.out.cell (i := 3) (j := 0) rfl rfl) (fun w => Try.isAgg3 w) ?_)
        | (refine wpList_load_cell rfl 22 (.tmp 7) rfl rfl (HZ.out.cell (i := 2) (j := 0) rfl rfl) (fun w => Try.isAgg22 w) ?_)
        | (refine wpList_load_cell rfl 24 (.tmp 5) rfl rfl (HZ.out.cell (i := 1) (j := 0) rfl rfl) (fun w => Try.isAgg24 w) ?_)
        | (go_at_call 11; go_must (refine (rows_any8 HZ.out (.head _) (fun o ho => List.mem_append_left _ (.tail _ (List.mem_append_right _ ho))) HT2.out (by omega)).mono ?_); rintro e y8 ⟨Ab, nb, cb, rs2, rfl, hl8, hcol, hz⟩; have HNB := Lib.hid hl8; have HCB := Lib.hid hcol; have HZ1 : Hid (OW x1 (((boxO tg (tabC t2 false) :: ((boxO g5 [.pointer (some ⟨tg, 0, none⟩)] :: boxO g7 [.slice A7 m7 c7] :: boxO g8 [.int .i64 (m7 : Nat)] :: boxO b24 [.pointer (some ⟨tg, 0, none⟩)] :: boxO b83 [.func (.func 42) #[] #[]] :: listO8 A7 m7 c7 rs) ++ ns2)) ++ [dfrO D]) ++ listO8 Ab nb cb rs2) y8) := Lib.hid hz; clear hl8 hcol hz))
      have HZ2 : Hid (OW x1 ((boxO tg (tabC t2 false) :: ((boxO g5 [.pointer (some ⟨tg, 0, none⟩)] :: boxO g7 [.slice A7 m7 c7] :: boxO g8 [.int .i64 (m7 : Nat)] :: boxO b24 [.pointer (some ⟨tg, 0, none⟩)] :: boxO b83 [.func (.func 42) #[] #[]] :: listO8 A7 m7 c7 rs) ++ ns2)) ++ dfrO D :: listO8 Ab nb cb rs2) y8) := Lib.hid (by have h := HZ1.out; rw [List.append_assoc] at h; exact h)
      have hnb9 : nb ≤ 90000 := by have := HNB.out; rw [Tr.ents_len] at this; omega
      clear HZ HZ1 e8 e9
      go_loopw [13, 14] (fun kv iv wr => ∃ (q i9 : Nat), q ≤ m7 ∧ i9 ≤ nb ∧ kv = .int .i64 q ∧ iv = .int .i64 i9 ∧ Hid ((t.ents.drop q).Sublist (t2.ents.drop i9)) ∧ Hid (OW x1 ((boxO tg (tabC t2 false) :: ((boxO g5 [.pointer (some ⟨tg, 0, none⟩)] :: boxO g7 [.slice A7 m7 c7] :: boxO g8 [.int .i64 (m7 : Nat)] :: boxO b24 [.pointer (some ⟨tg, 0, none⟩)] :: boxO b83 [.func (.func 42) #[] #[]] :: listO8 A7 m7 c7 rs) ++ ns2)) ++ dfrO D :: listO8 Ab nb cb rs2) wr)) (fun _ iv _ => nb - (intOf iv).toNat)
      case atStart => exact ⟨0, 0, Nat.zero_le _, Nat.zero_le _, rfl, rfl, HSUB, HZ2⟩
      case round =>
        clear HZ2
        obtain ⟨q, i9, hq7, hi9, rfl, rfl, HSQ, HZ2⟩ := hrel
        by_cases hgi : i9 < nb
        case neg =>
          have e1 : decide ((i9 : Int) < (nb : Int)) = false := decide_eq_false (by omega)
          obtain rfl : m7 = q := by
            have h := HSQ.out
            rw [show i9 = nb by omega, show t2.ents.drop nb = [] from List.drop_eq_nil_of_le (by rw [HNB.out]; exact Nat.le_refl _)] at h
            have h2 := List.drop_eq_nil_iff.1 (List.sublist_nil.1 h)
            rw [HN7.out] at h2; omega
          have e8 : (m7 == m7) = true := by simp
          have e9 : ((m7 : Int) == (m7 : Int)) = true := by simp
          have e10 : (nb == nb) = true := by simp
          have e11 : ((nb : Int) == (nb : Int)) = true := by simp
          go_wp2_with (first
            | (refine wpList_load_cell rfl 22 (.tmp 7) rfl rfl (HZ2.out.cell (i := 2) (j := 0) rfl rfl) (fun w => Try.isAgg22 w) ?_)
            | (refine wpList_load_cell rfl 24 (.tmp 5) rfl rfl (HZ2.out.cell (i := 1) (j := 0) rfl rfl) (fun w => Try.isAgg24 w) ?_)
            | (go_at_call 14; go_must (refine (tlen_is HZ2.out (.head _) (n := nb) (by rw [← Tr.ents_len]; exact HNB.out)).mono ?_); rintro e y9 ⟨rfl, hz⟩; rw [hz]; clear hz)
            | (refine wl_cell1 rfl (.tmp 4) (.tmp 116) rfl rfl (HG.out.cell' HZ2.out.up) (HG.out.fz' HZ2.out.up) (.bool true) rfl (by kernel_rfl) rfl ?_))
          have HZ4 : Hid (OW x1 ((boxO tg (tabC t2 false) :: ((boxO g5 [.pointer (some ⟨tg, 0, none⟩)] :: boxO g7 [.slice A7 m7 c7] :: boxO g8 [.int .i64 (m7 : Nat)] :: boxO b24 [.pointer (some ⟨tg, 0, none⟩)] :: boxO b83 [.func (.func 42) #[] #[]] :: listO8 A7 m7 c7 rs) ++ ns2)) ++ dfrO D :: listO8 Ab nb cb rs2) wr) := Lib.hid (HZ2.out)
          exact HG.out.mark HZ4.out _ rfl rfl (fun w => Try.isAgg4 w) fun z' hb => ⟨rfl, hb⟩
        have e1 : decide ((i9 : Int) < (nb : Int)) = true := decide_eq_true (by omega)
        by_cases hgq : q < m7
        case neg =>
          have e2 : decide ((q : Int) < (m7 : Int)) = false := decide_eq_false (by omega)
          obtain rfl : m7 = q := by omega
          have e8 : (m7 == m7) = true := by simp
          have e9 : ((m7 : Int) == (m7 : Int)) = true := by simp
          have e10 : (nb == nb) = true := by simp
          have e11 : ((nb : Int) == (nb : Int)) = true := by simp
          go_wp2_with (first
            | (refine wpList_load_cell rfl 22 (.tmp 7) rfl rfl (HZ2.out.cell (i := 2) (j := 0) rfl rfl) (fun w => Try.isAgg22 w) ?_)
            | (refine wpList_load_cell rfl 24 (.tmp 5) rfl rfl (HZ2.out.cell (i := 1) (j := 0) rfl rfl) (fun w => Try.isAgg24 w) ?_)
            | (go_at_call 14; go_must (refine (tlen_is HZ2.out (.head _) (n := nb) (by rw [← Tr.ents_len]; exact HNB.out)).mono ?_); rintro e y9 ⟨rfl, hz⟩; rw [hz]; clear hz)
            | (refine wl_cell1 rfl (.tmp 4) (.tmp 116) rfl rfl (HG.out.cell' HZ2.out.up) (HG.out.fz' HZ2.out.up) (.bool true) rfl (by kernel_rfl) rfl ?_))
          have HZ4 : Hid (OW x1 ((boxO tg (tabC t2 false) :: ((boxO g5 [.pointer (some ⟨tg, 0, none⟩)] :: boxO g7 [.slice A7 m7 c7] :: boxO g8 [.int .i64 (m7 : Nat)] :: boxO b24 [.pointer (some ⟨tg, 0, none⟩)] :: boxO b83 [.func (.func 42) #[] #[]] :: listO8 A7 m7 c7 rs) ++ ns2)) ++ dfrO D :: listO8 Ab nb cb rs2) wr) := Lib.hid (HZ2.out)
          exact HG.out.mark HZ4.out _ rfl rfl (fun w => Try.isAgg4 w) fun z' hb => ⟨rfl, hb⟩
        have e2 : decide ((q : Int) < (m7 : Int)) = true := decide_eq_true (by omega)
        have j0 : (0 : Int) ≤ (i9 : Int) := by omega
        have j1 : (i9 : Int) < (nb : Int) := by omega
        have q0 : (0 : Int) ≤ (q : Int) := by omega
        have q1 : (q : Int) < (m7 : Int) := by omega
        go_wp2_with (refine wpList_load_cell rfl 22 (.tmp 7) rfl rfl (HZ2.out.cell (i := 2) (j := 0) rfl rfl) (fun w => Try.isAgg22 w) ?_)
        obtain ⟨b, o, r1, rfl, hbl, hek, hrg, hen⟩ := (HCOL.out.ensm HZ2.out fun o ho => List.mem_append_left _ (.tail _ (List.mem_append_left _ (.tail _ (.tail _ (.tail _ (.tail _ (.tail _ ho)))))))).er hgq
        obtain ⟨b2, o2, r2, rfl, hbl2, hek2, hrg2, hen2⟩ := (HCB.out.ensm HZ2.out fun o ho => List.mem_append_right _ (.tail _ ho)).er hgi
        have HRG : Hid (∀ z, Below wr.heap.size wr z → z.rangeAt b (o + q * 7) [.slice r1.A r1.e.row.length r1.c, .int .i64 r1.e.fam, .slice r1.B r1.e.qual.length r1.d, .int .i64 r1.e.ts, .int .i64 r1.e.seq, .int .i64 r1.e.kind, .slice r1.D r1.e.val.length r1.q]) := Lib.hid fun z hz j v hj => (hz.cell (p := ⟨b, _, none⟩) hbl).trans (hrg j v hj)
        have HRG2 : Hid (∀ z, Below wr.heap.size wr z → z.rangeAt b2 (o2 + i9 * 7) [.slice r2.A r2.e.row.length r2.c, .int .i64 r2.e.fam, .slice r2.B r2.e.qual.length r2.d, .int .i64 r2.e.ts, .int .i64 r2.e.seq, .int .i64 r2.e.kind, .slice r2.D r2.e.val.length r2.q]) := Lib.hid fun z hz j v hj => (hz.cell (p := ⟨b2, _, none⟩) hbl2).trans (hrg2 j v hj)
        have HEN : Hid (∀ z, Below wr.heap.size wr z → r1.En z ∧ r2.En z) := Lib.hid fun z hz => ⟨hen.later hz, hen2.later hz⟩
        have HST := Lib.hid (sub_step HSQ.out hek hek2)
        clear hbl hek hrg hen hbl2 hek2 hrg2 hen2
        refine lt_start [] (by kernel_rfl) ?_
        intro xd hd
        refine ⟨fun z => Below wr.heap.size wr z, ?_⟩
        have HS := Lib.hid (hd)
        refine lt_pure 0 rfl (by kernel_rfl) (by kernel_rfl) (by kernel_rfl) (by kernel_rfl) (fun _ _ _ h => h) (v := ?_) (yi_run rfl (fun w => ?_)) (fun _ => HS.out) ?_
        rotate_left
        · first | (go_simp; done) | (go_simp; with_reducible rfl)
        simp only [Act.put, List.setIfInBounds_toArray, List.set_cons_zero, List.set_cons_succ]
        refine lt_pure 1 rfl (by kernel_rfl) (by kernel_rfl) (by kernel_rfl) (by kernel_rfl) (fun _ _ _ h => h) (v := ?_) (yi_run rfl (fun w => ?_)) (fun _ => HS.out) ?_
        rotate_left
        · first | (go_simp; done) | (go_simp; with_reducible rfl)
        simp only [Act.put, List.setIfInBounds_toArray, List.set_cons_zero, List.set_cons_succ]
        refine lt_pure 2 rfl (by kernel_rfl) (by kernel_rfl) (by kernel_rfl) (by kernel_rfl) (fun _ _ _ h => h) (v := ?_) (yi_run rfl (fun w => ?_)) (fun _ => HS.out) ?_
        rotate_left
        · first | (go_simp; done) | (go_simp; with_reducible rfl)
        simp only [Act.put, List.setIfInBounds_toArray, List.set_cons_zero, List.set_cons_succ]
        refine lt_take 3 [8] rfl (by kernel_rfl) (by kernel_rfl) (by kernel_rfl) (by kernel_rfl) (by kernel_rfl) (fun _ _ _ h => h) (yi_rowO rfl rfl rfl (fun w hS => HRG2.out w hS) ent_row8) HS.out ?_
        simp only [Act.put, List.setIfInBounds_toArray, List.set_cons_zero, List.set_cons_succ]
        refine lt_take 4 [6, 7, 8] rfl (by kernel_rfl) (by kernel_rfl) (by kernel_rfl) (by kernel_rfl) (by kernel_rfl) (fun _ _ _ h => h) (yi_cell rfl rfl rfl (fun w hS => (HZ2.out.later hS).cell (i := 2) (j := 0) rfl rfl) (fun w => Try.isAgg22 w)) HS.out ?_
        simp only [Act.put, List.setIfInBounds_toArray, List.set_cons_zero, List.set_cons_succ]
        refine lt_pure 5 rfl (by kernel_rfl) (by kernel_rfl) (by kernel_rfl) (by kernel_rfl) (fun _ _ _ h => h) (v := ?_) (yi_run rfl (fun w => ?_)) (fun _ => HS.out) ?_
        rotate_left
        · first | (go_simp; done) | (go_simp; with_reducible rfl)
        simp only [Act.put, List.setIfInBounds_toArray, List.set_cons_zero, List.set_cons_succ]
        refine lt_pure 6 rfl (by kernel_rfl) (by kernel_rfl) (by kernel_rfl) (by kernel_rfl) (fun _ _ _ h => h) (v := ?_) (yi_run rfl (fun w => ?_)) (fun _ => HS.out) ?_
        rotate_left
        · first | (go_simp; done) | (go_simp; with_reducible rfl)
        simp only [Act.put, List.setIfInBounds_toArray, List.set_cons_zero, List.set_cons_succ]
        refine lt_take 7 [8] rfl (by kernel_rfl) (by kernel_rfl) (by kernel_rfl) (by kernel_rfl) (by kernel_rfl) (fun _ _ _ h => h) (yi_rowO rfl rfl rfl (fun w hS => HRG.out w hS) ent_row8) HS.out ?_
        simp only [Act.put, List.setIfInBounds_toArray, List.set_cons_zero, List.set_cons_succ]
        refine lt_call 8 rfl (by kernel_rfl) rfl rfl ⟨_, Try.func13, by decide, by kernel_rfl⟩ [.agg #[.slice r2.A r2.e.row.length r2.c, .int .i64 r2.e.fam, .slice r2.B r2.e.qual.length r2.d, .int .i64 r2.e.ts, .int .i64 r2.e.seq, .int .i64 r2.e.kind, .slice r2.D r2.e.val.length r2.q], .agg #[.slice r1.A r1.e.row.length r1.c, .int .i64 r1.e.fam, .slice r1.B r1.e.qual.length r1.d, .int .i64 r1.e.ts, .int .i64 r1.e.seq, .int .i64 r1.e.kind, .slice r1.D r1.e.val.length r1.q]] rfl ?_
        refine (sameEntry_dec r2 r1 _ (HEN.out _ HS.out).2 (HEN.out _ HS.out).1).mono ?_
        rintro e y2 ⟨kk, rfl, hkk, hb⟩
        have HKK := Lib.hid hkk
        replace HS := Lib.hid (HS.out.trans (hb.mono HS.out.size))
        clear hkk hb
        refine ⟨_, rfl, fun _ => HS.out, ?_⟩
        simp only [Act.put, List.setIfInBounds_toArray, List.set_cons_zero, List.set_cons_succ]
        refine lt_done (by kernel_rfl) ?_
        replace HZ2 := Lib.hid (HZ2.out.later HS.out)
        clear HS
        cases kk
        case «true» =>
          have HS1 := Lib.hid (HST.out.1 (HKK.out.1 rfl).symm)
          go_wp2_with fail
          go_roundw
          case rel => exact ⟨q + 1, i9 + 1, by omega, by omega, by go_num, by go_num, HS1, HZ2⟩
          case measure => simp [intOf]; omega
        have HS1 := Lib.hid (HST.out.2 fun e => by have := HKK.out.2 e.symm; cases this)
        go_wp2_with fail
        go_roundw
        case rel => exact ⟨q, i9 + 1, by omega, by omega, rfl, by go_num, HS1, HZ2⟩
        case measure => simp [intOf]; omega
end Go.Proofs.Ytdaoinhkagmbdaa
namespace Go.Proofs.Ytdaoinhkagmbdaa
open Go.RowKit Go.WideShapes Go.ChangeShapes Go.Joins Go.Deep
section
variable {H : Type} {enc : TypeId × Value → H} {P : Program}
theorem trodAll_below (hl : laidOutB P = true) {W W' : World} {sp : Nat → Bool} : ∀ (ts : List TypeId) (vs : List Value) (ds : List (DataW H)) (ps : List MemPlace),
    (∀ t ∈ ts, P.readableRec t = true ∧ t < P.types.size) → DataW.TrodAll enc P W 0 (fun _ => true) true ts vs ds ps → (∀ p ∈ ps, W.sameAt W' p) → (∀ p ∈ ps, sp p.block = true) →
    DataW.TrodAll enc P W' 0 sp true ts vs ds ps
  | [], [], [], ps, _, h, _, _ => h
  | t :: ts, v :: vs, d :: ds, ps, hr, h, hs, hp => by
    obtain ⟨p, q, h1, h2, rfl⟩ := h
    refine ⟨p, q, WideElems.Trod_stays hl (hr t (by simp)).1 (hr t (by simp)).2 h1 (fun x hx => hs x (by simp [hx])) (fun x hx => hp x (by simp [hx])), ?_, rfl⟩
    exact trodAll_below hl ts vs ds q (fun t ht => hr t (by simp [ht])) h2 (fun x hx => hs x (by simp [hx])) (fun x hx => hp x (by simp [hx]))
  | [], _ :: _, _, _, _, h, _, _ => h.elim
  | [], [], _ :: _, _, _, h, _, _ => h.elim
  | _ :: _, [], _, _, _, h, _, _ => h.elim
  | _ :: _, _ :: _, [], _, _, h, _, _ => h.elim
theorem law_post {f : Func} {s : ChangeSpec} {apart fresh handsOn again : Bool} {W W' : World} {args : Array Value} {ds gs : List (DataW H)} {before : List MemPlace} {tb : TypeId}
    (hl : laidOutB P = true) (hr : ∀ t ∈ f.params.toList, P.readableRec t = true ∧ t < P.types.size) (hv : s.vars = [])
    (hW : DataW.Whole enc P f.params.toList s.vars apart W args.toList ds gs before) (hres : f.resultTypes = #[tb]) (htb : P.underlying tb = some .bool)
    (hfn : s.fn H (ds ++ gs) = { results := [.lit (.bool true)], args := ds }) (hb : Below W.heap.size W W') :
    s.post enc P f apart fresh handsOn again W args (.bool true) W' := by
  have hlt : ∀ p ∈ before, p.block < W.heap.size := fun p hp => hW.lt p hp
  obtain ⟨p, q, hA, hV, hpq, hz, hn⟩ := hW
  have hq : gs = [] ∧ q = [] := by rw [hv] at hV; exact trodVars_none hV
  obtain ⟨rfl, rfl⟩ := hq
  rw [List.append_nil] at hpq
  subst hpq
  have hold : ∀ x ∈ before, (fun b => decide (b < W.heap.size)) x.block = true := fun x hx => by simpa using hlt x hx
  have hargs : ∀ sp : Nat → Bool, (∀ x ∈ before, sp x.block = true) → DataW.TrodAll enc P W' 0 sp true f.params.toList args.toList ds before := fun sp hsp =>
    trodAll_below hl _ _ _ _ hr hA (fun x hx => hb.same (hlt x hx)) hsp
  have hvars : ∀ sp : Nat → Bool, DataW.TrodVars enc P W' sp s.vars (s.fn H (ds ++ [])).vars [] := fun sp => by rw [hv, hfn]; rfl
  have hresv : ∀ (b : Nat) (sp : Nat → Bool) (hd : Bool), DataW.TrodAll enc P W' b sp hd f.resultTypes.toList ((Value.bool true).resultList f.resultTypes.size) (s.fn H (ds ++ [])).results [] := by
    intro b sp hd
    rw [hfn, hres]
    exact trodAll_mk1 (shut_bool htb true)
  have hargs' : ∀ sp : Nat → Bool, (∀ x ∈ before, sp x.block = true) → DataW.TrodAll enc P W' 0 sp true f.params.toList args.toList (s.fn H (ds ++ [])).args before := fun sp hsp => by rw [hfn]; exact hargs sp hsp
  refine ⟨ds, [], before, [], before, [], ⟨before, [], hA, hV, by simp, hz, hn⟩, hresv _ _ _, hargs' _ hold, hvars _, World.keptBut_mono (fun x hx => ⟨hx, Or.inr (Or.inl hx)⟩) (hb.frame (· ∈ before)), fun _ => ?_⟩
  refine ⟨?_, _, _, ([] ++ before) ++ [], ⟨[] ++ before, [], trodAll_append (hargs' _ (fun _ _ => rfl)) (hresv _ _ _), hvars _, rfl, ?_, ?_⟩, ?_⟩
  · exact ok_one hres rfl (okWide_bool_mk htb true)
  · intro b off hp
    have hin : MemPlace.cell b off ∈ before := by simpa using hp
    rw [hb.frozen (hlt _ hin)]
    exact hz b off hin
  · intro ha
    have := hn ha
    simpa using this
  · intro x hx _
    simpa using hx
end
theorem list_of {α : Type} {Q : Nat → α → Prop} : ∀ (n : Nat), (∀ i, i < n → ∃ x, Q i x) → ∃ l : List α, l.length = n ∧ ∀ i x, l[i]? = some x → Q i x
  | 0, _ => ⟨[], rfl, fun i x h => by simp at h⟩
  | n + 1, h => by
    obtain ⟨l, hl, hq⟩ := list_of n (fun i hi => h i (by omega))
    obtain ⟨x, hx⟩ := h n (by omega)
    refine ⟨l ++ [x], by simp [hl], fun i y hy => ?_⟩
    rcases Nat.lt_or_ge i n with hi | hi
    · rw [List.getElem?_append_left (by omega)] at hy
      exact hq i y hy
    · have : i = n := by
        have := (List.getElem?_eq_some_iff.1 hy).1
        simp [hl] at this; omega
      subst this
      rw [List.getElem?_append_right (by omega)] at hy
      simp [hl] at hy
      subst hy; exact hx
theorem addr_add (a : Addr) (j : Nat) (ha : a.spot = none) : a.add j = ⟨a.block, a.off + j, none⟩ := by
  obtain ⟨b, o, sp⟩ := a
  simp at ha; subst ha
  unfold Addr.add
  split
  · rename_i h; subst h; rfl
  · rfl
theorem spot_none {w : World} {a : Addr} {v : Value} (h : w.cell? a = some v) : a.spot = none := by
  unfold World.cell? at h
  split at h
  · split at h
    · cases h
    · rename_i h'; simpa using h'
  · cases h
theorem reads_of {w : World} {size n : Nat} {a : Addr} {xs : List Value} (hl : xs.length = n * size) (hs : 0 < size) (h : ∀ j u, xs[j]? = some u → w.cell? (a.add j) = some u) : Reads w w.heap.size size (some a) n xs := by
  refine ⟨hl, fun hn => ?_⟩
  have h0 : 0 < xs.length := by rw [hl]; exact Nat.mul_pos hn hs
  have hc := h 0 _ (List.getElem?_eq_getElem h0)
  have e0 : a.add 0 = a := by simp [Addr.add]
  rw [e0] at hc
  have hsp := spot_none hc
  refine ⟨a.block, a.off, by obtain ⟨b, o, sp⟩ := a; simp at hsp; subst hsp; rfl, World.block_lt_of_cell? w a hc, fun j u hu => ?_⟩
  rw [← addr_add a j hsp]
  exact h j u hu
section
variable {H : Type} {enc : TypeId × Value → H} {P : Program} {w : World} {base : Nat} {spare : Nat → Bool} {held : Bool}
end
section
variable {H : Type} {enc : TypeId × Value → H} {P : Program} {w : World} {base : Nat} {spare : Nat → Bool} {held : Bool}
theorem open_slice_fields {t e : TypeId} {fs : Array Field} {fuel : Nat} {cs : List Value} {x : DataW H × List MemPlace} (ht : P.underlying t = some (.slice e)) (he : P.underlying e = some (.struct fs))
    (hone : oneCellFields P fs = true) (hC : P.cellsOf e = fs.size) (h : DataW.trod enc P w base spare held fuel t cs = some x) :
    (cs = [.slice none 0 0] ∧ x = (.nil, [])) ∨
    ∃ (a : Addr) (len cap m : Nat) (D : Nat → DataW H) (Pl : Nat → List MemPlace), cs = [.slice (some a) len cap] ∧ base ≤ a.block ∧ len ≤ cap ∧ cap ≤ maxLen ∧ m = (if spare a.block then cap else len) ∧
      x = (.slice ((List.range len).map D) ((List.range (m - len)).map fun j => D (len + j)), MemPlace.row a (m * fs.size) ++ (List.range m).flatMap Pl) ∧
      ∀ i, i < m → ∃ (ys : List (DataW H × List MemPlace)) (n : Nat), D i = .agg (ys.map (·.1)) ∧ Pl i = ys.flatMap (·.2) ∧ ys.length = fs.size ∧
        ∀ (j : Nat) (f : Field), fs[j]? = some f → ∃ (v : Value) (y : DataW H × List MemPlace), w.cell? (a.add (i * fs.size + j)) = some v ∧ ys[j]? = some y ∧ DataW.trod enc P w base spare held n f.type [v] = some y := by
  rcases open_slice ht h with h0 | ⟨a, len, cap, m, n, D, Pl, hcs, hb, hl, hm, hmm, hx, hi⟩
  · exact .inl h0
  · refine .inr ⟨a, len, cap, m, D, Pl, hcs, hb, hl, hm, hmm, by rw [hC] at hx; exact hx, fun i him => ?_⟩
    obtain ⟨cs', hc, ht'⟩ := hi i him
    rw [hC] at hc
    obtain ⟨ys, n', hn', hy, hlen, hyl, hf⟩ := DataW.trod_struct he ht'
    obtain ⟨_, hcl, hat⟩ := World.cells?_some hc
    simp only [Prod.mk.injEq] at hy
    refine ⟨ys, n', hy.1, hy.2, hyl, fun j f hj => ?_⟩
    obtain ⟨ho, hk⟩ := hone_of hone j f hj
    have hjl : j < fs.size := (Array.getElem?_eq_some_iff.1 hj).1
    have hcell := hat j hjl
    have hv : cs'[j]? = some (cs'[j]'(by omega)) := List.getElem?_eq_getElem (by omega)
    have h1 := hf j f hj
    rw [ho, hk] at h1
    have hone' : (cs'.drop j).take 1 = [cs'[j]'(by omega)] := by
      rw [List.drop_eq_getElem_cons (by omega)]
      rfl
    rw [hone'] at h1
    have hys : ys[j]? = some (ys[j]'(by omega)) := List.getElem?_eq_getElem (by omega)
    refine ⟨_, _, ?_, hys, h1.trans hys⟩
    rw [← Go.Deep.add_add, hcell, hv]
end
end Go.Proofs.Ytdaoinhkagmbdaa
namespace Go.Proofs.Ytdaoinhkagmbdaa
open Go.RowKit Go.WideShapes Go.ChangeShapes Go.Joins Go.Deep
section
variable {H : Type} {enc : TypeId × Value → H} {P : Program} {w : World} {base : Nat} {spare : Nat → Bool} {held : Bool}
theorem open_bytes {t e : TypeId} {fuel : Nat} {cs : List Value} {x : DataW H × List MemPlace} (ht : P.underlying t = some (.slice e)) (he : P.underlying e = some (.int .u8)) (hC : P.cellsOf e = 1)
    (h : DataW.trod enc P w base spare held fuel t cs = some x) :
    ∃ (A : Option Addr) (c : Nat) (l : List UInt8), cs = [.slice A l.length c] ∧ l.length ≤ c ∧ c ≤ 9223372036854775807 ∧ (A = none → c = 0) ∧ RB w w.heap.size A l.length l := by
  rcases open_slice1 ht hC h with ⟨rfl, _⟩ | ⟨a, len, cap, m, n, V, D, Pl, rfl, _, hl, hm, hmm, _, hi⟩
  · exact ⟨none, 0, [], rfl, by simp, by omega, fun _ => rfl, RB.nil⟩
  · have hlm : len ≤ m := by rw [hmm]; split <;> omega
    obtain ⟨l, hll, hq⟩ := list_of (Q := fun i (b : UInt8) => w.cell? (a.add i) = some (.int .u8 (b.toNat : Int))) len (fun i hi' => by
      obtain ⟨h1, h2⟩ := hi i (by omega)
      obtain ⟨v, e0, _, hw⟩ := DataW.trod_int he h2
      injection e0 with e0 _
      have hw : 0 ≤ v ∧ v ≤ 255 := by
        simp [Lit.wf, IntKind.min, IntKind.max, IntKind.signed, IntKind.bits] at hw
        omega
      refine ⟨UInt8.ofNat v.toNat, ?_⟩
      rw [h1, e0, UInt8.toNat_ofNat', Nat.mod_eq_of_lt (by omega), Int.toNat_of_nonneg hw.1])
    subst hll
    exact ⟨some a, cap, l, rfl, hl, hm, (fun e => nomatch e), reads_of (by simp [u8s_length]) (by decide) fun j u hu => by
      simp only [u8s, List.getElem?_map, Option.map_eq_some_iff] at hu
      obtain ⟨b, hb, rfl⟩ := hu
      exact hq j b hb⟩
theorem open_slice_top {r : Reach} {b0 : Nat} {t e : TypeId} {v : Value} {d : DataW H} {ps : List MemPlace} (ht : P.underlying t = some (.slice e)) (hval : Value.okWide P w r b0 t v) (h : DataW.Trod enc P w base spare held t v d ps) :
    ∃ fuel, DataW.trod enc P w base spare held fuel t [v] = some (d, ps) := by
  obtain ⟨a, n, c, rfl⟩ := okWide_slice ht hval
  obtain ⟨fuel, hf⟩ := h
  exact ⟨fuel, hf⟩
end
end Go.Proofs.Ytdaoinhkagmbdaa
namespace Go.Proofs.Ytdaoinhkagmbdaa
open Go.RowKit Go.WideShapes Go.ChangeShapes Go.Joins Go.Deep
theorem bulk_one {H : Type} (d : DataW H) : 1 ≤ Rows.uptoBulk d := by
  cases d with
  | lit l => cases l <;> simp [Rows.uptoBulk]
  | nil => simp [Rows.uptoBulk]
  | ptr d => simp [Rows.uptoBulk]
  | slice elems spare => simp [Rows.uptoBulk]
  | agg parts => simp [Rows.uptoBulk]
  | iface t d => simp [Rows.uptoBulk]
  | map entries => simp [Rows.uptoBulk]
  | held h => simp [Rows.uptoBulk]
theorem bulk_len {H : Type} (l : List (DataW H)) : l.length ≤ Rows.uptoBulkAll l := by
  induction l with
  | nil => simp [Rows.uptoBulkAll]
  | cons x r ih => have := bulk_one x; simp only [Rows.uptoBulkAll, List.length_cons]; omega
section
variable {H : Type} {enc : TypeId × Value → H} {P : Program} {w : World} {base : Nat} {held : Bool}
theorem upto_bytes {t e : TypeId} {fuel : Nat} {cs : List Value} {x : DataW H × List MemPlace} (ht : P.underlying t = some (.slice e)) (he : P.underlying e = some (.int .u8)) (hC : P.cellsOf e = 1)
    (h : DataW.trod enc P w base (fun _ => true) held fuel t cs = some x) :
    ∃ (A : Option Addr) (c : Nat) (l : List UInt8), cs = [.slice A l.length c] ∧ Sl w A l.length c l ∧ c + 1 ≤ Rows.uptoBulk x.1 := by
  obtain ⟨A, c, l, h1, h2, h3, h4, h5⟩ := open_bytes ht he hC h
  refine ⟨A, c, l, h1, ⟨h5, h2, h3, h4⟩, ?_⟩
  rcases open_slice1 ht hC h with ⟨rfl, rfl⟩ | ⟨a, len, cap, m, n, V, D, Pl, rfl, _, hl, hm, hmm, hx, hi⟩
  · injection h1 with h1
    injection h1 with _ _ h1
    subst h1
    simp [Rows.uptoBulk]
  · injection h1 with h1
    injection h1 with _ _ h1
    subst h1
    rw [if_pos rfl] at hmm
    subst hmm
    rw [hx]
    simp only [Rows.uptoBulk]
    have e1 := bulk_len (H := H) ((List.range len).map D)
    have e2 := bulk_len (H := H) ((List.range (m - len)).map fun j => D (len + j))
    simp only [List.length_map, List.length_range] at e1 e2
    omega
end
end Go.Proofs.Ytdaoinhkagmbdaa
namespace Go.Proofs.Ytdaoinhkagmbdaa
open Go.RowKit Go.WideShapes Go.ChangeShapes Go.Joins Go.Deep
section
variable {H : Type} {enc : TypeId × Value → H} {w : World} {base : Nat} {spare : Nat → Bool} {held : Bool}
end
end Go.Proofs.Ytdaoinhkagmbdaa
namespace Go.Proofs.Ytdaoinhkagmbdaa
open Go.RowKit Go.WideShapes Go.ChangeShapes Go.Joins Go.Deep
theorem bulk_mem {H : Type} {d : DataW H} {l : List (DataW H)} (h : d ∈ l) : Rows.uptoBulk d ≤ Rows.uptoBulkAll l := by
  induction l with
  | nil => cases h
  | cons x l ih =>
    simp only [Rows.uptoBulkAll]
    rcases List.mem_cons.1 h with rfl | h
    · omega
    · have := ih h; omega
section
variable {H : Type} {enc : TypeId × Value → H} {P : Program} {w : World} {base : Nat} {held : Bool}
theorem upto_structs {t e : TypeId} {fs : Array Field} {fuel : Nat} {cs : List Value} {x : DataW H × List MemPlace} (ht : P.underlying t = some (.slice e)) (he : P.underlying e = some (.struct fs))
    (hone : oneCellFields P fs = true) (hC : P.cellsOf e = fs.size) (h : DataW.trod enc P w base (fun _ => true) held fuel t cs = some x) :
    cs = [.slice none 0 0] ∨
    ∃ (a : Addr) (len cap : Nat), cs = [.slice (some a) len cap] ∧ len ≤ cap ∧ cap ≤ maxLen ∧ cap + 1 ≤ Rows.uptoBulk x.1 ∧
      ∀ i, i < len → ∀ (j : Nat) (f : Field), fs[j]? = some f → ∃ (v : Value) (y : DataW H × List MemPlace) (n : Nat), w.cell? (a.add (i * fs.size + j)) = some v ∧ DataW.trod enc P w base (fun _ => true) held n f.type [v] = some y ∧ Rows.uptoBulk y.1 + 1 ≤ Rows.uptoBulk x.1 := by
  rcases open_slice_fields ht he hone hC h with ⟨h0, _⟩ | ⟨a, len, cap, m, D, Pl, hcs, hb, hl, hm, hmm, hx, hi⟩
  · exact .inl h0
  · rw [if_pos rfl] at hmm
    subst hmm
    refine .inr ⟨a, len, m, hcs, hl, hm, ?_, fun i him j f hf => ?_⟩
    · rw [hx]
      simp only [Rows.uptoBulk]
      have e1 := bulk_len (H := H) ((List.range len).map D)
      have e2 := bulk_len (H := H) ((List.range (m - len)).map fun j => D (len + j))
      simp only [List.length_map, List.length_range] at e1 e2
      omega
    · obtain ⟨ys, n, hD, _, hyl, hq⟩ := hi i (by omega)
      obtain ⟨v, y, hc, hy, ht'⟩ := hq j f hf
      refine ⟨v, y, n, hc, ht', ?_⟩
      have h1 : Rows.uptoBulk y.1 ≤ Rows.uptoBulkAll (ys.map (·.1)) := bulk_mem (List.mem_map.2 ⟨y, List.mem_of_getElem? hy, rfl⟩)
      have h2 : Rows.uptoBulk (D i) ≤ Rows.uptoBulkAll ((List.range len).map D) := bulk_mem (List.mem_map.2 ⟨i, List.mem_range.2 him, rfl⟩)
      rw [hD] at h2
      rw [hx]
      simp only [Rows.uptoBulk] at h2 ⊢
      omega
theorem field_int {k : IntKind} {t : TypeId} {v : Value} {y : DataW H × List MemPlace} {n : Nat} {sp : Nat → Bool} (ht : P.underlying t = some (.int k)) (h : DataW.trod enc P w base sp held n t [v] = some y) : ∃ z : Int, v = .int k z ∧ (Lit.int k z).wf = true := by
  obtain ⟨z, e0, _, hw⟩ := DataW.trod_int ht h
  injection e0 with e0 _
  exact ⟨z, e0, hw⟩
theorem field_bytes {t e : TypeId} {v : Value} {y : DataW H × List MemPlace} {n : Nat} (ht : P.underlying t = some (.slice e)) (he : P.underlying e = some (.int .u8)) (hC : P.cellsOf e = 1) (h : DataW.trod enc P w base (fun _ => true) held n t [v] = some y) :
    ∃ (A : Option Addr) (m c : Nat) (l : List UInt8), v = .slice A m c ∧ Sl w A m c l ∧ c + 1 ≤ Rows.uptoBulk y.1 := by
  obtain ⟨A, c, l, e0, h1, h2⟩ := upto_bytes ht he hC h
  injection e0 with e0 _
  exact ⟨A, _, c, l, e0, h1, h2⟩
end
end Go.Proofs.Ytdaoinhkagmbdaa
namespace Go.Proofs.Ytdaoinhkagmbdaa
open Go.RowKit Go.WideShapes Go.ChangeShapes Go.Joins Go.Deep
theorem ens_of_cells {w : World} {b o n : Nat} (hb : b < w.heap.size) (h : ∀ i, i < n → ∃ r : ER, (∀ j v, r.cells[j]? = some v → w.cell? ⟨b, o + (i * 7 + j), none⟩ = some v) ∧ r.En w) : ∃ L, Ens w (some ⟨b, o, none⟩) n L := by
  have hh : ∀ m, m ≤ n → ∃ rs : List ER, rs.length = m ∧ (∀ i r, rs[i]? = some r → (∀ j v, r.cells[j]? = some v → w.cell? ⟨b, o + (i * 7 + j), none⟩ = some v) ∧ r.En w) := by
    intro m
    induction m with
    | zero => intro _; exact ⟨[], rfl, fun i r hr => by cases hr⟩
    | succ m ih =>
      intro hm
      obtain ⟨rs, h1, h2⟩ := ih (by omega)
      obtain ⟨r, hr⟩ := h m (by omega)
      refine ⟨rs ++ [r], by rw [List.length_append, h1]; rfl, fun i q hq => ?_⟩
      rw [List.getElem?_append] at hq
      split at hq
      · exact h2 i q hq
      · rename_i hlt
        obtain rfl : i = m := by
          have := (List.getElem?_eq_some_iff.1 hq).1
          simp at this; omega
        rw [h1, Nat.sub_self] at hq
        injection hq with hq
        subst hq; exact hr
  obtain ⟨rs, h1, h2⟩ := hh n (Nat.le_refl _)
  refine ⟨rs.map ER.e, rs, rfl, ⟨by rw [flat7_len, h1], fun _ => ⟨b, o, rfl, hb, fun j u hu => ?_⟩⟩, fun r hr => ?_⟩
  · have hj : j < rs.length * 7 := by have := (List.getElem?_eq_some_iff.1 hu).1; rwa [flat7_len] at this
    obtain ⟨r, hr⟩ : ∃ r, rs[j / 7]? = some r := ⟨_, List.getElem?_eq_getElem (by omega)⟩
    have e : j = j / 7 * 7 + j % 7 := by omega
    rw [e] at hu ⊢
    rw [flat7_at hr (j % 7) (by omega)] at hu
    exact (h2 _ r hr).1 (j % 7) u hu
  · obtain ⟨i, hi⟩ := List.getElem?_of_mem hr
    exact (h2 i r hi).2
section
variable {H : Type} {enc : TypeId × Value → H} {w : World} {base : Nat} {held : Bool}
set_option maxRecDepth 100000 in
theorem full_ents {fuel : Nat} {cs : List Value} {x : DataW H × List MemPlace} (h : DataW.trod enc Try.prog w base (fun _ => true) held fuel 22 cs = some x) :
    ∃ (A : Option Addr) (n c : Nat) (L : List Ent), cs = [.slice A n c] ∧ n ≤ c ∧ c ≤ 9223372036854775807 ∧ Ens w A n L := by
  rcases upto_structs Try.underlying22 Try.underlying30 (by kernel_rfl) (by kernel_rfl) h with rfl | ⟨a, len, cap, rfl, hl, hm, _, hi⟩
  · exact ⟨none, 0, 0, [], rfl, by omega, by omega, Ens.nil⟩
  · rcases Nat.eq_zero_or_pos len with h0 | hn
    · subst h0; exact ⟨some a, 0, cap, [], rfl, hl, hm, Ens.nil⟩
    obtain ⟨v, y, n, c0, _⟩ := hi 0 hn 0 _ rfl
    have c0' : w.cell? (a.add 0) = some v := c0
    rw [show a.add 0 = a from by simp [Addr.add]] at c0'
    have hsp := spot_none c0'
    have hb0 := World.block_lt_of_cell? w a c0'
    obtain ⟨L, hL⟩ := ens_of_cells (w := w) (b := a.block) (o := a.off) (n := len) hb0 fun i him => by
      obtain ⟨v0, y0, n0, c0, t0, u0⟩ := hi i him 0 _ rfl
      obtain ⟨v1, y1, n1, c1, t1, _⟩ := hi i him 1 _ rfl
      obtain ⟨v2, y2, n2, c2, t2, u2⟩ := hi i him 2 _ rfl
      obtain ⟨v3, y3, n3, c3, t3, _⟩ := hi i him 3 _ rfl
      obtain ⟨v4, y4, n4, c4, t4, _⟩ := hi i him 4 _ rfl
      obtain ⟨v5, y5, n5, c5, t5, _⟩ := hi i him 5 _ rfl
      obtain ⟨v6, y6, n6, c6, t6, u6⟩ := hi i him 6 _ rfl
      obtain ⟨A, m, c, l, rfl, hs, _⟩ := field_bytes Try.underlying28 Try.underlying5 (by kernel_rfl) t0
      obtain ⟨fam, rfl, _⟩ := field_int Try.underlying3 t1
      obtain ⟨B, m2, d, l2, rfl, hs2, _⟩ := field_bytes Try.underlying28 Try.underlying5 (by kernel_rfl) t2
      obtain ⟨ts, rfl, _⟩ := field_int Try.underlying3 t3
      obtain ⟨sq, rfl, _⟩ := field_int Try.underlying3 t4
      obtain ⟨kd, rfl, _⟩ := field_int Try.underlying3 t5
      obtain ⟨D, m3, q, l3, rfl, hs3, _⟩ := field_bytes Try.underlying28 Try.underlying5 (by kernel_rfl) t6
      have e1 := hs.rb.len
      have e2 := hs2.rb.len
      have e3 := hs3.rb.len
      subst e1 e2 e3
      rw [addr_add _ _ hsp] at c0 c1 c2 c3 c4 c5 c6
      refine ⟨⟨A, c, B, d, D, q, ⟨l, fam, l2, ts, sq, kd, l3⟩⟩, fun j v hj => ?_, ⟨hs, hs2, hs3⟩⟩
      match j, hj with
      | 0, hj => injection hj with hj; subst hj; exact c0
      | 1, hj => injection hj with hj; subst hj; exact c1
      | 2, hj => injection hj with hj; subst hj; exact c2
      | 3, hj => injection hj with hj; subst hj; exact c3
      | 4, hj => injection hj with hj; subst hj; exact c4
      | 5, hj => injection hj with hj; subst hj; exact c5
      | 6, hj => injection hj with hj; subst hj; exact c6
    exact ⟨some a, len, cap, L, rfl, hl, hm, by obtain ⟨b, o, sp⟩ := a; simp at hsp; subst hsp; exact hL⟩
set_option maxRecDepth 100000 in
theorem full_ents_top3 {r : Reach} {b0 : Nat} {v : Value} {d : DataW H} {ps : List MemPlace} (hval : Value.okWide Try.prog w r b0 22 v) (h : DataW.Trod enc Try.prog w base (fun _ => true) held 22 v d ps) :
    ∃ (A : Option Addr) (n c : Nat) (L : List Ent), v = .slice A n c ∧ (n ≤ c ∧ c ≤ 9223372036854775807) ∧ Ens w A n L := by
  obtain ⟨fuel, hf⟩ := open_slice_top Try.underlying22 hval h
  obtain ⟨A, n, c, L, h1, h2, h3, h4⟩ := full_ents hf
  injection h1 with h1
  exact ⟨A, n, c, L, h1, ⟨h2, h3⟩, h4⟩
end
end Go.Proofs.Ytdaoinhkagmbdaa
