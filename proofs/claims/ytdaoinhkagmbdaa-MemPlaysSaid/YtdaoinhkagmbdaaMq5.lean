/-
  Laid together by merge.py: BlockL1, MemL1, MemL2, MemL3, CellR5, BlockM1, MemR1, PutK.
-/
import Derived.Test.YtdaoinhkagmbdaaMq4
import Derived.Test.YtdaoinhkagmbdaaMq3
import Derived.Test.YtdaoinhkagmbdaaMq2
import Derived.Deep.DeepCutAuto
import Derived.Lib.SlBytesConst
namespace Go.Proofs.Ytdaoinhkagmbdaa
open Go.RowKit
set_option maxRecDepth 100000 in
set_option maxHeartbeats 1000000 in
theorem same_any (a b : List UInt8) (A B : Option Addr) (n c m d : Nat) (w : World) (hn : n ≤ 9223372036854775807) (ha : RB w w.heap.size A n a) (hb : RB w w.heap.size B m b) :
    Calls Try.prog 43 #[.slice A n c, .slice B m d] w fun e w' => e = .returned (.bool (a == b)) ∧ Below w.heap.size w w' := by
  have HLA := Lib.hid ha.len
  have HLB := Lib.hid hb.len
  have HA : Hid (∀ w', Below w.heap.size w w' → RB w' w'.heap.size A n a) := Lib.hid fun w' h => ha.later h
  have HB : Hid (∀ w', Below w.heap.size w w' → RB w' w'.heap.size B m b) := Lib.hid fun w' h => hb.later h
  clear ha hb
  by_cases hnm : n = m
  case neg =>
    have HE : Hid ((a == b) = false) := Lib.hid (by rw [beq_eq_false_iff_ne]; intro h; exact hnm (by rw [← HLA.out, ← HLB.out, h]))
    have hd : ((n : Int) != (m : Int)) = true := by rw [bne_iff_ne]; omega
    have hd2 : (n != m) = true := by rw [bne_iff_ne]; omega
    clear hnm
    go_enter Try.func43, Try.ntmps43
    go_wp2
    go_ret
    exact ⟨by rw [HE.out]; rfl, Below.refl _ _⟩
  subst hnm
  go_enter Try.func43, Try.ntmps43
  go_wp2
  go_loopw [5] (fun i wr => ∃ k : Nat, k ≤ n ∧ i = .int .i64 k ∧ Hid (a.take k = b.take k) ∧ Hid (Below w.heap.size w wr)) (fun i _ => n - (intOf i).toNat)
  case atStart => exact ⟨0, Nat.zero_le _, rfl, Lib.hid rfl, Lib.hid (Below.refl _ _)⟩
  case round =>
    obtain ⟨k, hkn, rfl, HT, HW⟩ := hrel
    by_cases hlt : k < n
    case neg =>
      have HE : Hid ((a == b) = true) := Lib.hid (by
        have h := HT.out
        rw [List.take_of_length_le (by have := HLA.out; omega), List.take_of_length_le (by have := HLB.out; omega)] at h
        rw [h]; simp)
      have hd1 : decide ((k : Int) < (n : Int)) = false := decide_eq_false (by omega)
      have hd2 : decide (k < n) = false := decide_eq_false hlt
      go_wp2
      go_ret
      exact ⟨by rw [HE.out]; rfl, HW.out⟩
    have hd1 : decide ((k : Int) < (n : Int)) = true := decide_eq_true (by omega)
    have hd2 : decide (k < n) = true := decide_eq_true hlt
    have hk1 : (k : Int) < (n : Int) := by omega
    obtain ⟨b1, o1, x, rfl, _, hx, _⟩ := (HA.out _ HW.out).at_ hlt
    obtain ⟨b2, o2, y, rfl, _, hy, _⟩ := (HB.out _ HW.out).at_ hlt
    have HX := Lib.hid hx
    have HY := Lib.hid hy
    have c1 := (HA.out _ HW.out).cell HX.out
    have c2 := (HB.out _ HW.out).cell HY.out
    clear hx hy
    by_cases hxy : x = y
    case neg =>
      have HE : Hid ((a == b) = false) := Lib.hid (by
        rw [beq_eq_false_iff_ne]; intro h
        have h1 := HX.out; have h2 := HY.out
        rw [h, h2] at h1; injection h1 with h1; exact hxy h1.symm)
      have e1 : ((x.toNat : Int) != (y.toNat : Int)) = true := by rw [bne_iff_ne]; intro h; exact hxy (UInt8.toNat_inj.1 (by omega))
      have e2 : (x.toNat != y.toNat) = true := by rw [bne_iff_ne]; intro h; exact hxy (UInt8.toNat_inj.1 h)
      have HW2 := Lib.hid (fun k => below_drewN (n := k) HW.out)
      clear hxy
      go_wp2_with fail
      go_quiet (fail)
      have HW3 := Lib.hid (HW2.out nq)
      clear c1 c2
      generalize wr.drewN nq = w3 at *
      go_wp2
      go_ret
      exact ⟨by rw [HE.out]; rfl, HW3.out⟩
    subst hxy
    have HE := Lib.hid (cmp_eq_at HT.out HX.out HY.out)
    have e1 : ((x.toNat : Int) != (x.toNat : Int)) = false := by simp
    have HW2 := Lib.hid (fun k => below_drewN (n := k) HW.out)
    go_wp2_with fail
    go_quiet (fail)
    have HW3 := Lib.hid (HW2.out nq)
    clear c1 c2
    generalize wr.drewN nq = w3 at *
    go_wp2
    go_roundw
    case rel => exact ⟨k + 1, by omega, by go_num, HE, HW3⟩
    case measure => simp [intOf]; omega
set_option maxRecDepth 100000 in
set_option maxHeartbeats 2000000 in
theorem sameEntry_any (a b : Ent) (A : Option Addr) (n c : Nat) (B : Option Addr) (m d : Nat) (D : Option Addr) (v q : Nat) (A' : Option Addr) (n' c' : Nat) (B' : Option Addr) (m' d' : Nat) (D' : Option Addr) (v' q' : Nat) (w : World) (he : a = b) (ha : En w A n c B m d D v q a) (hb : En w A' n' c' B' m' d' D' v' q' b) :
    Calls Try.prog 13 #[entV A n c B m d D v q a, entV A' n' c' B' m' d' D' v' q' b] w fun e w1 => e = .returned (.bool true) ∧ Below w.heap.size w w1 := by
  have HT := Lib.hid (Two.new w 30 #[.slice A n c, .int .i64 a.fam, .slice B m d, .int .i64 a.ts, .int .i64 a.seq, .int .i64 a.kind, .slice D v q] #[.slice A' n' c', .int .i64 b.fam, .slice B' m' d', .int .i64 b.ts, .int .i64 b.seq, .int .i64 b.kind, .slice D' v' q'])
  have HA : Hid (∀ x, Below w.heap.size w x → En x A n c B m d D v q a) := Lib.hid fun x h => ha.later h
  have HC : Hid (∀ x, Below w.heap.size w x → En x A' n' c' B' m' d' D' v' q' b) := Lib.hid fun x h => hb.later h
  have HLE : Hid (n ≤ 9223372036854775807 ∧ m ≤ 9223372036854775807 ∧ v ≤ 9223372036854775807) := Lib.hid ⟨ha.row.le, ha.qual.le, ha.val.le⟩
  have HQ : Hid (a.row = b.row ∧ a.qual = b.qual ∧ a.val = b.val) := Lib.hid ⟨by rw [he], by rw [he], by rw [he]⟩
  have XS : Hid (∀ l : List UInt8, (l == l) = true) := Lib.hid (by simp)
  have e1 : a.fam = b.fam := by rw [he]
  have e2 : a.ts = b.ts := by rw [he]
  have e3 : a.seq = b.seq := by rw [he]
  have e4 : a.kind = b.kind := by rw [he]
  unfold entV
  rw [e1, e2, e3, e4] at HT ⊢
  clear ha hb he e1 e2 e3 e4
  have tok1 : True := trivial
  have tok2 : True := trivial
  go_enter Try.func13, Try.ntmps13
  go_wp2_with (first
    | (go_at_call 43; have _t := tok1; go_must (refine (same_any a.row a.row _ _ _ _ _ _ _ HLE.out.1 (HA.out _ HT.out.up).row.rb (by have h := (HC.out _ HT.out.up).row.rb; rw [← HQ.out.1] at h; exact h)).mono ?_); rw [XS.out]; rintro e x1 ⟨rfl, hb1⟩; have HT1 := Lib.hid (HT.out.later hb1); clear hb1 tok1; have a2 := boxed1 HT1.out (i := 2) (v := .slice B m d) rfl; have b2 := boxed2 HT1.out (i := 2) (v := .slice B' m' d') rfl)
    | (go_at_call 43; have _t := tok2; go_must (refine (same_any a.qual a.qual _ _ _ _ _ _ _ HLE.out.2.1 (HA.out _ HT1.out.up).qual.rb (by have h := (HC.out _ HT1.out.up).qual.rb; rw [← HQ.out.2.1] at h; exact h)).mono ?_); rw [XS.out]; rintro e x2 ⟨rfl, hb2⟩; have HT2 := Lib.hid (HT1.out.later hb2); clear hb2 tok2; have a6 := boxed1 HT2.out (i := 6) (v := .slice D v q) rfl; have b6 := boxed2 HT2.out (i := 6) (v := .slice D' v' q') rfl)
    | (go_at_call 43; go_must (refine (same_any a.val a.val _ _ _ _ _ _ _ HLE.out.2.2 (HA.out _ HT2.out.up).val.rb (by have h := (HC.out _ HT2.out.up).val.rb; rw [← HQ.out.2.2] at h; exact h)).mono ?_); rw [XS.out]; rintro e x3 ⟨rfl, hb3⟩; have HT3 := Lib.hid (HT2.out.later hb3); clear hb3))
  go_ret
  exact ⟨rfl, HT3.out.up⟩
theorem conv_const (W : World) (C : Array Value) (n c g : Nat) (hg : g = W.heap.size) : (convert 28 28 (.slice (some ⟨g, 0, none⟩) n c)).run Try.prog (W.alloc (.cells C 5)) = .ok (.slice (some ⟨g, 0, none⟩) n c) (W.alloc (.cells C 5 (C.size, C.size + 1))) := by
  subst hg; exact Lib.run_convert_bytes_const (P := Try.prog) W 28 5 C n c Try.underlying28 Try.underlying5
theorem three_lits (w : World) (o : Obj) (a b d : UInt8) (t : TypeId) (fr : Nat × Nat) : ∀ W, W = (((w.alloc o).alloc (.cells #[u8v a] t fr)).alloc (.cells #[u8v b] t fr)).alloc (.cells #[u8v d] t fr) →
    Sl W (some ⟨w.heap.size + 1, 0, none⟩) 1 1 [a] ∧ Sl W (some ⟨w.heap.size + 1 + 1, 0, none⟩) 1 1 [b] ∧ Sl W (some ⟨w.heap.size + 1 + 1 + 1, 0, none⟩) 1 1 [d] ∧ Below (w.alloc o).heap.size (w.alloc o) W := by
  rintro W rfl
  have hz : ∀ (x : World) (o : Obj), (x.alloc o).heap.size = x.heap.size + 1 := fun x o => by show (x.heap.push _).size = _; simp
  have hb : ∀ (x : World) (o : Obj), Below x.heap.size x (x.alloc o) := fun x o => (Below.refl _ x).alloc (Nat.le_refl _) o
  have s1 := Sl.lit (w.alloc o) #[u8v a] [a] t fr rfl rfl (by show (1 : Nat) ≤ 9223372036854775807; decide)
  have s2 := Sl.lit ((w.alloc o).alloc (.cells #[u8v a] t fr)) #[u8v b] [b] t fr rfl rfl (by show (1 : Nat) ≤ 9223372036854775807; decide)
  have s3 := Sl.lit (((w.alloc o).alloc (.cells #[u8v a] t fr)).alloc (.cells #[u8v b] t fr)) #[u8v d] [d] t fr rfl rfl (by show (1 : Nat) ≤ 9223372036854775807; decide)
  rw [hz w o] at s1
  rw [hz _ _, hz w o] at s2
  rw [hz _ _, hz _ _, hz w o] at s3
  exact ⟨(s1.later (hb _ _)).later (hb _ _), s2.later (hb _ _), s3, ((hb _ _).trans ((hb _ _).mono (by rw [hz (w.alloc o)]; omega))).trans ((hb _ _).mono (by rw [hz ((w.alloc o).alloc _), hz (w.alloc o)]; omega))⟩
def atE (ts : Int) : Ent := ⟨[114], 0, [113], ts, 32, 1, [118]⟩
def AtPost (ts : Int) (w : World) (r : Ending) (w' : World) : Prop := ∃ A B D, r = .returned (entV A 1 1 B 1 1 D 1 1 (atE ts)) ∧ En w' A 1 1 B 1 1 D 1 1 (atE ts) ∧ Below w.heap.size w w'
set_option maxRecDepth 100000 in
set_option maxHeartbeats 2000000 in
theorem atE_any (ts : Int) (w : World) : Calls Try.prog 38 #[.int .i64 ts] w (AtPost ts w) := by
  have kc := conv_const
  go_enter Try.func38, Try.ntmps38
  go_wp2
  (try simp only [Exit.inBlock, Exit.then])
  obtain ⟨h1, h2, h3, hb⟩ := three_lits w (.cells #[.slice (some ⟨w.heap.size + 1, 0, none⟩) 1 1, .int .i64 0, .slice (some ⟨w.heap.size + 1 + 1, 0, none⟩) 1 1, .int .i64 ts, .int .i64 32, .int .i64 1, .slice (some ⟨w.heap.size + 1 + 1 + 1, 0, none⟩) 1 1] 30) 114 113 118 5 (1, 2) _ rfl
  have HB := (Bxs.one w 30 #[.slice (some ⟨w.heap.size + 1, 0, none⟩) 1 1, .int .i64 0, .slice (some ⟨w.heap.size + 1 + 1, 0, none⟩) 1 1, .int .i64 ts, .int .i64 32, .int .i64 1, .slice (some ⟨w.heap.size + 1 + 1 + 1, 0, none⟩) 1 1]).later hb
  refine bodyPost_ret (results_box0 rfl _ _ w.heap.size _ rfl (HB.cells0 rfl) (by kernel_rfl) (by kernel_rfl)) rfl ?_
  exact ⟨_, _, _, rfl, ⟨h1, h2, h3⟩, HB.up⟩
end Go.Proofs.Ytdaoinhkagmbdaa
namespace Go.Proofs.Ytdaoinhkagmbdaa
open Go.RowKit
theorem sameEntry_yes (a b : ER) (w : World) (h : a.e = b.e) (ha : a.En w) (hb : b.En w) :
    Calls Try.prog 13 #[.agg #[.slice a.A a.e.row.length a.c, .int .i64 a.e.fam, .slice a.B a.e.qual.length a.d, .int .i64 a.e.ts, .int .i64 a.e.seq, .int .i64 a.e.kind, .slice a.D a.e.val.length a.q], .agg #[.slice b.A b.e.row.length b.c, .int .i64 b.e.fam, .slice b.B b.e.qual.length b.d, .int .i64 b.e.ts, .int .i64 b.e.seq, .int .i64 b.e.kind, .slice b.D b.e.val.length b.q]] w fun e w1 => e = .returned (.bool true) ∧ Below w.heap.size w w1 :=
  sameEntry_any a.e b.e a.A _ a.c a.B _ a.d a.D _ a.q b.A _ b.c b.B _ b.d b.D _ b.q w h ha hb
def atR (A B D : Option Addr) (ts : Int) : ER := ⟨A, 1, B, 1, D, 1, atE ts⟩
theorem at8_any (ts : Int) (w : World) : Calls Try.prog 38 #[.int .i64 ts] w fun e z => ∃ s : ER, e = .returned (.agg #[.slice s.A s.e.row.length s.c, .int .i64 s.e.fam, .slice s.B s.e.qual.length s.d, .int .i64 s.e.ts, .int .i64 s.e.seq, .int .i64 s.e.kind, .slice s.D s.e.val.length s.q]) ∧ s.e = atE ts ∧ s.En z ∧ Below w.heap.size w z :=
  (atE_any ts w).mono fun _ _ ⟨A, B, D, h1, h2, h3⟩ => ⟨atR A B D ts, h1, rfl, h2, h3⟩
end Go.Proofs.Ytdaoinhkagmbdaa
namespace Go.Proofs.Ytdaoinhkagmbdaa
open Go.RowKit
theorem tadd_is {w x : World} {tg : Nat} {fr : Bool} {os ms : List Ob} {t : Tr} (r : ER) (h : OW w (boxO tg (tabC t fr) :: os) x) (hs : ∀ o, o ∈ ms → o ∈ os) (hT : Tb ms t) (hE : r.En x) (hlen : t.list.length ≤ 90000) {L : List Ent} {k : Int} (hadd : addE t.ents fr r.e = (L, k)) :
    Calls Try.prog 10 #[.pointer (some ⟨tg, 0, none⟩), .agg #[.slice r.A r.e.row.length r.c, .int .i64 r.e.fam, .slice r.B r.e.qual.length r.d, .int .i64 r.e.ts, .int .i64 r.e.seq, .int .i64 r.e.kind, .slice r.D r.e.val.length r.q]] x fun e z => ∃ t' ns, e = .returned (.int .i64 k) ∧ OW w (boxO tg (tabC t' fr) :: (os ++ ns)) z ∧ Tb (ms ++ ns) t' ∧ t'.ents = L :=
  (tadd_any r h hs hT hE hlen).mono fun e z ⟨t', ns, h1, h2, h3, h4⟩ => ⟨t', ns, by rw [h1, hadd], h2, h3, by rw [h4, hadd]⟩
theorem tlen_is {w x : World} {tg : Nat} {fr : Bool} {os : List Ob} {t : Tr} (h : OW w os x) (hm : boxO tg (tabC t fr) ∈ os) {n : Nat} (hn : t.list.length = n) : Calls Try.prog 14 #[.pointer (some ⟨tg, 0, none⟩)] x fun e z => e = .returned (.int .i64 (n : Nat)) ∧ z = x := by
  subst hn; exact tlen_any h hm
theorem it_not_nil (b c : Nat) (w : World) : (binOp .eql 33 (.func (.func 67) #[] #[.pointer (some ⟨b, 0, none⟩), .pointer (some ⟨c, 0, none⟩)]) .nilFunc).run Try.prog w = .ok (.bool false) w := by kernel_rfl
theorem told_add1 : addE Tr.nil.ents false (atE 4) = ([atE 4], 0) := by kernel_rfl
theorem told_add2 : addE [atE 4] false (atE 5) = ([atE 5, atE 4], 0) := by kernel_rfl
theorem told_add3 : addE [atE 5, atE 4] false (atE 5) = ([atE 5, atE 4], 80) := by kernel_rfl
theorem told_perm0 (i b c t : Ob) (X : List Ob) : ((i :: t :: X) ++ [b, c]).Perm (i :: b :: c :: t :: X) := by (refine perm_of_cnt fun a => ?_; (first | ((repeat (first | rw [cntO_app] | rw [cntO_cons] | rw [cntO_nil])) <;> omega) | ((simp only [cntO_app, cntO_cons, cntO_nil]) <;> omega)))
theorem cl_in {a b c d : Ob} {X p : List Ob} (o : Ob) (h : o ∈ [b, c, d]) : o ∈ (a :: b :: c :: d :: X) ++ p := by
  rcases List.mem_cons.1 h with rfl | h
  · exact .tail _ (.head _)
  · rcases List.mem_cons.1 h with rfl | h
    · exact .tail _ (.tail _ (.head _))
    · rw [List.mem_singleton.1 h]; exact .tail _ (.tail _ (.tail _ (.head _)))
set_option maxRecDepth 10000000 in
set_option maxHeartbeats 8000000 in
theorem told_any8 (w : World) : Calls Try.prog 8 #[] w fun e z => e = .returned (.bool true) ∧ Below w.heap.size w z := by
  have HX0 := Lib.hid (OW.nil w)
  refine calls_marks Try.func8 rfl ?_
  simp only [Try.ntmps8, List.size_toArray, List.length_cons, List.length_nil, Nat.reduceAdd, Nat.reduceSub, Array.replicate_succ, Array.replicate_zero, List.push_toArray, List.append_toArray, List.nil_append, List.cons_append]
  go_upto_region 2 with (first
    | (refine wl_alloc rfl rfl [.bool false] (.inr ⟨.bool false, by kernel_rfl, rfl⟩) HX0.out ?_; intro g6 x1 hz _; have HG := Lib.hid (RBox.of hz); have HX := Lib.hid (OW.nil x1); clear hz HX0)
    | (go_at_call 9; go_must (refine (tnew_any _).mono ?_); rintro e x2 ⟨tg, rfl, hz⟩; have HA := Lib.hid (HX.out.app hz); clear hz HX))
  have tk1 : True := trivial
  have tk2 : True := trivial
  have tk3 : True := trivial
  go_upto_region 4 with (first
    | (go_at_call 38; (have _t := tk1); go_must (refine (at8_any 4 _).mono ?_); rintro e x3 ⟨s1, rfl, hse, hen, hb⟩; have HA1 := Lib.hid (HA.out.later hb); have HN1 := Lib.hid (And.intro hse hen); clear hse hen hb HA tk1 _t)
    | (go_at_call 10; (have _t := HN1); go_must (refine (tadd_is (os := []) (ms := []) s1 HA1.out (fun _ h => h) (Tb.nil []) HN1.out.2 (by decide) (L := [atE 4]) (k := 0) (by simp only [HN1.out.1, told_add1])).mono ?_); rintro e x4 ⟨t1, ns1, rfl, hz, hT, he⟩; have HB1 := Lib.hid hz; have HT1 := Lib.hid hT; have HE1 := Lib.hid he; clear hz hT he HN1 _t HA1)
    | (go_at_call 38; (have _t := tk2); go_must (refine (at8_any 5 _).mono ?_); rintro e x5 ⟨s2, rfl, hse, hen, hb⟩; have HA2 := Lib.hid (HB1.out.later hb); have HN2 := Lib.hid (And.intro hse hen); clear hse hen hb HB1 tk2 _t)
    | (go_at_call 10; (have _t := HN2); go_must (refine (tadd_is s2 HA2.out (fun o h => h) HT1.out HN2.out.2 (by rw [← Tr.ents_len, HE1.out]; decide) (L := [atE 5, atE 4]) (k := 0) (by simp only [HN2.out.1, HE1.out, told_add2])).mono ?_); rintro e x6 ⟨t2, ns2, rfl, hz, hT, he⟩; have HB2 := Lib.hid hz; have HT2 := Lib.hid hT; have HE2 := Lib.hid he; clear hz hT he HN2 _t HA2 HT1 HE1)
    | (go_at_call 14; go_must (refine (tlen_is HB2.out (.head _) (n := 2) (by rw [← Tr.ents_len, HE2.out]; rfl)).mono ?_); rintro e x7 ⟨rfl, hz⟩; rw [hz]; clear hz)
    | (go_at_call 38; (have _t := tk3); go_must (refine (at8_any 5 _).mono ?_); rintro e x8 ⟨s3, rfl, hse, hen, hb⟩; have HA3 := Lib.hid (HB2.out.later hb); have HN3 := Lib.hid (And.intro hse hen); clear hse hen hb HB2 tk3 _t)
    | (go_at_call 10; go_must (refine (tadd_is s3 HA3.out (fun o h => h) HT2.out HN3.out.2 (by rw [← Tr.ents_len, HE2.out]; decide) (L := [atE 5, atE 4]) (k := 80) (by simp only [HN3.out.1, HE2.out, told_add3])).mono ?_); rintro e x9 ⟨t3, ns3, rfl, hz, hT, he⟩; have HB3 := Lib.hid hz; have HT3 := Lib.hid hT; have HE3 := Lib.hid he; clear hz hT he HN3 HA3 HT2 HE2))
  obtain ⟨ns, hns⟩ : ∃ z, z = (([] ++ ns1) ++ ns2) ++ ns3 := ⟨_, rfl⟩
  rw [← hns] at HB3 HT3
  clear hns
  have hfn := it_not_nil
  go_upto_region 6 with (first
    | (go_at_call 12; go_must (refine (all_any8 tg _).mono ?_); rintro e y1 ⟨c24, c83, rfl, hz⟩; have HB4 := Lib.hid (HB3.out.later hz.up); clear hz HB3)
    | (go_at_call 38; go_must (refine (at8_any 9 _).mono ?_); rintro e y2 ⟨s4, rfl, hse, hen, hb⟩; have HB5 := Lib.hid (HB4.out.later hb); have HN4 := Lib.hid (And.intro hse hen); clear hse hen hb HB4)
    | (go_at_call 28; go_must (refine (from_any tg s4 _ HN4.out.2 (by rw [HN4.out.1]; decide)).mono ?_); rintro e y3 ⟨d24, d83, d5, s5, rfl, _, _, hz⟩; have HB6 := Lib.hid (HB5.out.later hz.up); clear hz HB5))
  clear hfn
  go_wp2_with (first
    | (refine wl_alloc rfl rfl [.int .i64 0] (.inr ⟨.int .i64 0, by kernel_rfl, rfl⟩) HB6.out ?_; intro gi y4 hz _; have HB7 := Lib.hid (hz.perm List.perm_append_comm); clear hz HB6)
    | (refine wl_put1 rfl (.tmp 2) (.const (.int .i64 0)) rfl HB7.out 0 rfl 0 rfl (by simp) (.int .i64 0) rfl (by kernel_rfl) rfl ?_; intro y5 hz _; have HB8 := Lib.hid hz; clear hz HB7)
    | (go_at_call 12; go_must (refine (all_any8 tg _).mono ?_); rintro e y6 ⟨b24, b83, rfl, hz⟩; have HY : Hid (OW x1 (boxO gi [.int .i64 ((0 : Nat) : Int)] :: boxO b24 [.pointer (some ⟨tg, 0, none⟩)] :: boxO b83 [.func (.func 42) #[] #[]] :: boxO tg (tabC t3 false) :: ns) y6) := Lib.hid ((HB8.out.app hz).perm (told_perm0 _ _ _ _ _)); clear hz HB8))
  have hit := allIter tg b24 b83 t3 false
  rw [HE3.out] at hit
  have HIT := Lib.hid (HT3.out.it (os := boxO b24 [.pointer (some ⟨tg, 0, none⟩)] :: boxO b83 [.func (.func 42) #[] #[]] :: boxO tg (tabC t3 false) :: ns) fun o ho => .tail _ (.tail _ (.tail _ ho)))
  refine wp_rangeQ (w := x1) (L := [atE 5, atE 4]) (Hand := HandM) rfl (enters_of Try.func67 (by kernel_rfl) rfl) hit (fun _ _ _ _ h => h.ok)
    (fun pre os' => os' = boxO gi [.int .i64 (pre.length : Nat)] :: boxO b24 [.pointer (some ⟨tg, 0, none⟩)] :: boxO b83 [.func (.func 42) #[] #[]] :: boxO tg (tabC t3 false) :: ns) (fun _ _ _ => False) ?itr (os0 := boxO gi [.int .i64 ((0 : Nat) : Int)] :: boxO b24 [.pointer (some ⟨tg, 0, none⟩)] :: boxO b83 [.func (.func 42) #[] #[]] :: boxO tg (tabC t3 false) :: ns) rfl ⟨.tail _ (.head _), .tail _ (.tail _ (.head _)), .tail _ (.tail _ (.tail _ (.head _)))⟩ (HIT.out.more1 fun o ho => .tail _ ho) HY.out ?round ?done ?stop
  case itr =>
    rintro pre os' es rfl
    exact HIT.out.more1 fun o ho => List.mem_append_left _ (.tail _ ho)
  case stop => exact fun D c' pre os' z _ h => h.elim
  case round =>
    rintro l p1 p2 pre e vs W0 W1 os' _ hpre rfl h0 ⟨s, rfl, rfl, hec, hh⟩
    have hlt := pre_at8 hpre
    obtain ⟨m, hm⟩ : ∃ z, z = pre.length := ⟨_, rfl⟩
    rw [← hm] at hlt h0
    have hm2 : m < 2 := (List.getElem?_eq_some_iff.1 hlt).1
    have HSE : Hid (s.e = atE (5 - (m : Int))) := Lib.hid (by
      have h9 : m = 0 ∨ m = 1 := by omega
      rcases h9 with h9 | h9 <;> (subst h9; injection hlt with hlt; exact hlt.symm))
    have HM := Lib.hid hm
    have HEC := Lib.hid hec
    have s1 : IntKind.i64.wrap (5 - (m : Int)) = 5 - (m : Int) := i64_sum (by omega) (by omega)
    have s2 : IntKind.i64.wrap ((m : Int) + 1) = (m : Int) + 1 := i64_sum (by omega) (by omega)
    have HV : Hid (OW x1 ((clipO s.A s.e.row :: clipO s.B s.e.qual :: clipO s.D s.e.val :: boxO gi [.int .i64 (m : Nat)] :: boxO b24 [.pointer (some ⟨tg, 0, none⟩)] :: boxO b83 [.func (.func 42) #[] #[]] :: boxO tg (tabC t3 false) :: ns) ++ p1) W1) := Lib.hid ((h0.app hh).perm (perm4R _ _ _))
    clear hlt hpre h0 hh hec hm
    have hsem : ∀ (ρ : Operand → Value) (o : Oper), (∀ c, o.op ≠ .defer c) → Oper.semAt (some l) ρ o = execOp ρ o := fun ρ o h => Oper.semAt_some l ρ o h
    unfold RoundOK
    rw [setP1]
    simp only [List.setIfInBounds_toArray, List.set_cons_zero, List.set_cons_succ]
    gi_wp2_with (first
      | (refine wlIn_one rfl ?_; refine wl_alloc rfl rfl [.slice none 0 0, .int .i64 0, .slice none 0 0, .int .i64 0, .int .i64 0, .int .i64 0, .slice none 0 0] (.inl (by kernel_rfl)) HV.out ?_; intro gy z1 hz _; have HV1 := Lib.hid (hz.perm (perm4R _ _ _)); clear hz HV; refine wlIn_back ?_)
      | (refine wlIn_one rfl ?_; refine wl_put rfl (.tmp 3) (.tmp 41) rfl HV1.out 0 rfl rfl [.slice s.A s.e.row.length s.c, .int .i64 s.e.fam, .slice s.B s.e.qual.length s.d, .int .i64 s.e.ts, .int .i64 s.e.seq, .int .i64 s.e.kind, .slice s.D s.e.val.length s.q] rfl rfl (by kernel_rfl) (by simp [Value.oneCell']) ?_; intro z2 hz _; have HV2 : Hid (OW x1 ((boxO gy [.slice s.A s.e.row.length s.c, .int .i64 s.e.fam, .slice s.B s.e.qual.length s.d, .int .i64 s.e.ts, .int .i64 s.e.seq, .int .i64 s.e.kind, .slice s.D s.e.val.length s.q] :: clipO s.A s.e.row :: clipO s.B s.e.qual :: clipO s.D s.e.val :: boxO gi [.int .i64 (m : Nat)] :: boxO b24 [.pointer (some ⟨tg, 0, none⟩)] :: boxO b83 [.func (.func 42) #[] #[]] :: boxO tg (tabC t3 false) :: ns) ++ p1) z2) := Lib.hid hz; clear hz HV1; refine wlIn_back ?_))
    refine ⟨_, HV2.out, fun z3 hz3 => ?_⟩
    have HW3 : Hid (OW x1 ((boxO gy [.slice s.A s.e.row.length s.c, .int .i64 s.e.fam, .slice s.B s.e.qual.length s.d, .int .i64 s.e.ts, .int .i64 s.e.seq, .int .i64 s.e.kind, .slice s.D s.e.val.length s.q] :: clipO s.A s.e.row :: clipO s.B s.e.qual :: clipO s.D s.e.val :: boxO gi [.int .i64 (m : Nat)] :: boxO b24 [.pointer (some ⟨tg, 0, none⟩)] :: boxO b83 [.func (.func 42) #[] #[]] :: boxO tg (tabC t3 false) :: ns) ++ p2) z3) := Lib.hid hz3
    clear hz3 HV2
    gi_wp2
    refine lt_startIn [] (by kernel_rfl) (by kernel_rfl) (fun _ _ h => h) ?_
    intro xd hd
    refine ⟨fun z => Below z3.heap.size z3 z, ?_⟩
    have HS := Lib.hid (hd)
    refine lt_take 0 [4, 5] rfl (by kernel_rfl) (by kernel_rfl) (by kernel_rfl) (by kernel_rfl) (by kernel_rfl) (fun _ _ _ h => h) (yi_row rfl rfl rfl (fun w hS => (HW3.out.later hS).range (i := 0) rfl) ent_row8) HS.out ?_
    simp only [Act.put, List.setIfInBounds_toArray, List.set_cons_zero, List.set_cons_succ]
    refine lt_take 1 [2, 3, 4, 5] rfl (by kernel_rfl) (by kernel_rfl) (by kernel_rfl) (by kernel_rfl) (by kernel_rfl) (fun _ _ _ h => h) (yi_cell rfl rfl rfl (fun w hS => (HW3.out.later hS).cell (i := 4) (j := 0) rfl rfl) (fun w => Try.isAgg3 w)) HS.out ?_
    simp only [Act.put, List.setIfInBounds_toArray, List.set_cons_zero, List.set_cons_succ]
    refine lt_pure 2 rfl (by kernel_rfl) (by kernel_rfl) (by kernel_rfl) (by kernel_rfl) (fun _ _ _ h => h) (v := ?_) (yi_run rfl (fun w => ?_)) (fun _ => HS.out) ?_
    rotate_left
    · first | (go_simp; done) | (go_simp; with_reducible rfl)
    simp only [Act.put, List.setIfInBounds_toArray, List.set_cons_zero, List.set_cons_succ]
    refine lt_call 3 rfl (by kernel_rfl) rfl rfl ⟨_, Try.func38, by decide, by kernel_rfl⟩ [.int .i64 (5 - (m : Int))] rfl ?_
    refine (at8_any _ _).mono ?_
    rintro e y1 ⟨q, rfl, hq1, hq2, hb⟩
    have HQ1 := Lib.hid hq1
    have HQ2 := Lib.hid hq2
    replace HS := Lib.hid (HS.out.trans (hb.mono HS.out.size))
    clear hq1 hq2 hb
    refine ⟨_, rfl, fun _ => HS.out, ?_⟩
    simp only [Act.put, List.setIfInBounds_toArray, List.set_cons_zero, List.set_cons_succ]
    refine lt_call 4 rfl (by kernel_rfl) rfl rfl ⟨_, Try.func13, by decide, by kernel_rfl⟩ [.agg #[.slice s.A s.e.row.length s.c, .int .i64 s.e.fam, .slice s.B s.e.qual.length s.d, .int .i64 s.e.ts, .int .i64 s.e.seq, .int .i64 s.e.kind, .slice s.D s.e.val.length s.q], .agg #[.slice q.A q.e.row.length q.c, .int .i64 q.e.fam, .slice q.B q.e.qual.length q.d, .int .i64 q.e.ts, .int .i64 q.e.seq, .int .i64 q.e.kind, .slice q.D q.e.val.length q.q]] rfl ?_
    refine (sameEntry_yes s q _ (by rw [HSE.out, HQ1.out]) ((HEC.out.more cl_in).en (HW3.out.later HS.out)) HQ2.out).mono ?_
    rintro e y2 ⟨rfl, hb⟩
    replace HS := Lib.hid (HS.out.trans (hb.mono HS.out.size))
    clear hb
    refine ⟨_, rfl, fun _ => HS.out, ?_⟩
    simp only [Act.put, List.setIfInBounds_toArray, List.set_cons_zero, List.set_cons_succ]
    refine lt_pure 5 rfl (by kernel_rfl) (by kernel_rfl) (by kernel_rfl) (by kernel_rfl) (fun _ _ _ h => h) (v := ?_) (yi_run rfl (fun w => ?_)) (fun _ => HS.out) ?_
    rotate_left
    · first | (go_simp; done) | (go_simp; with_reducible rfl)
    simp only [Act.put, List.setIfInBounds_toArray, List.set_cons_zero, List.set_cons_succ]
    refine lt_done (by kernel_rfl) ?_
    replace HW3 := Lib.hid (HW3.out.later HS.out)
    clear HS
    gi_wp2_with (first
      | (refine wlIn_one rfl ?_; refine wpList_load_cell rfl 3 (.tmp 2) rfl rfl (HW3.out.cell (i := 4) (j := 0) rfl rfl) (fun w => Try.isAgg3 w) ?_; refine wlIn_back ?_)
      | (refine wlIn_one rfl ?_; refine wl_put1 rfl (.tmp 2) (.tmp 49) rfl HW3.out 4 rfl 0 rfl (by simp) (.int .i64 ((m : Int) + 1)) rfl (by kernel_rfl) rfl ?_; intro z5 hz _; have HZ := Lib.hid hz; clear hz HW3; refine wlIn_back ?_))
    refine ⟨_, rfl, ?_⟩
    rw [List.length_append, ← HM.out]
    exact (((HZ.out.erase 0).erase 0).erase 0).erase 0
  case done =>
    rintro D os' z rfl h
    have HZ := Lib.hid h
    clear h HY
    go_wp2_with (first
      | (refine wpList_load_cell rfl 3 (.tmp 2) rfl rfl (HZ.out.cell (i := 0) (j := 0) rfl rfl) (fun w => Try.isAgg3 w) ?_)
      | (refine wl_cell1 rfl (.tmp 0) (.tmp 51) rfl rfl (HG.out.cell' HZ.out.up) (HG.out.fz' HZ.out.up) (.bool true) rfl (by kernel_rfl) rfl ?_))
    exact HG.out.mark (es := []) HZ.out _ rfl rfl (fun w => Try.isAgg4 w) fun z' hb => ⟨rfl, hb⟩
end Go.Proofs.Ytdaoinhkagmbdaa
namespace Go.Proofs.Ytdaoinhkagmbdaa
open Go.RowKit
theorem Ens.er {w : World} {A : Option Addr} {n : Nat} {es : List Ent} (h : Ens w A n es) {k : Nat} (hk : k < n) : ∃ (b o : Nat) (r : ER), A = some ⟨b, o, none⟩ ∧ b < w.heap.size ∧ es[k]? = some r.e ∧ w.rangeAt b (o + k * 7) [.slice r.A r.e.row.length r.c, .int .i64 r.e.fam, .slice r.B r.e.qual.length r.d, .int .i64 r.e.ts, .int .i64 r.e.seq, .int .i64 r.e.kind, .slice r.D r.e.val.length r.q] ∧ r.En w := by
  obtain ⟨b, o, Ar, c, B, d, D, q, e, h1, h2, h3, h4, h5⟩ := h.at_ hk
  exact ⟨b, o, ⟨Ar, c, B, d, D, q, e⟩, h1, h2, h3, h4, h5⟩
theorem addE_sub (L : List Ent) (fr : Bool) (e : Ent) : L.Sublist (addE L fr e).1 ∧ (addE L fr e).1.length ≤ L.length + 1 := by
  unfold addE
  split
  · exact ⟨List.Sublist.refl _, Nat.le_succ _⟩
  · split
    · exact ⟨List.Sublist.refl _, Nat.le_succ _⟩
    · split
      · exact ⟨List.Sublist.refl _, Nat.le_succ _⟩
      · refine ⟨?_, ins_len L e⟩
        unfold insE
        split
        · exact List.Sublist.refl _
        · have h := (List.Sublist.refl (L.take (insN L e))).append ((List.Sublist.refl (L.drop (insN L e))).cons e)
          rwa [List.take_append_drop] at h
end Go.Proofs.Ytdaoinhkagmbdaa
namespace Go.Proofs.Ytdaoinhkagmbdaa
open Go.RowKit
set_option maxRecDepth 100000 in
set_option maxHeartbeats 1000000 in
theorem rpack_any (e : Ent) (A : Option Addr) (n c : Nat) (B : Option Addr) (m d : Nat) (D : Option Addr) (v q : Nat) (w : World) (h : En w A n c B m d D v q e) :
    Calls Try.prog 57 #[entV A n c B m d D v q e] w (BytesPost2 5 (PackE e).1 (PackE e).2 w) := by
  have HX0 := Lib.hid (Bx.new w #[.slice A n c, .int .i64 e.fam, .slice B m d, .int .i64 e.ts, .int .i64 e.seq, .int .i64 e.kind, .slice D v q] 30)
  have HE : Hid (∀ x, Below w.heap.size w x → En x A n c B m d D v q e) := Lib.hid fun x hx => h.later hx
  have hl1 := h.row.len
  have hl2 := h.qual.len
  have hvl := h.val.len
  have HC : Hid (checkN n e.fam m e.ts e.seq e.kind v = checkE e) := Lib.hid (by unfold checkE; simp only [hl1, hl2, hvl])
  unfold PackE entV
  by_cases hc : checkE e = 0
  · rw [if_pos hc]
    have HZ := Lib.hid hc
    have HLEN : Hid ((keyE e).length ≤ 1048 ∧ v ≤ 4096 ∧ (uintB (keyE e).length).length ≤ 10 ∧ (uintB e.val.length).length ≤ 10 ∧ e.val.length = v) := Lib.hid (by
      have h1 := keyE_len (ok_of hc); have h2 := (ok_of hc).val.1
      exact ⟨h1, by omega, uintB_ten (by omega), uintB_ten (by omega), hvl⟩)
    obtain ⟨L1, hL1⟩ : ∃ L, L = uintB (keyE e).length ++ keyE e := ⟨_, rfl⟩
    obtain ⟨L2, hL2⟩ : ∃ L, L = uintB e.val.length ++ e.val := ⟨_, rfl⟩
    have X1 := Lib.hid hL1
    have X2 := Lib.hid hL2
    have XL : Hid (L1.length ≤ 1058 ∧ L2.length ≤ 4106) := Lib.hid (by have := HLEN.out; rw [hL1, hL2]; simp only [List.length_append]; omega)
    have XP : Hid (packB e = L1 ++ L2) := Lib.hid (by rw [hL1, hL2]; rfl)
    rw [XP.out]
    clear hL1 hL2
    clear h hc hl1 hl2 hvl
    have tok1 : True := trivial
    go_enter Try.func57, Try.ntmps57
    go_wp2_with (first
      | (go_at_call 23; go_must (refine (rCheck_any _ _ _ _ _ _ _ _ _ _ _ _ _ _).mono ?_); rintro e' x1 ⟨rfl, hb1⟩; rw [HC.out, HZ.out]; have HX1 := Lib.hid (HX0.out.later hb1); clear hb1; have y0 := HX1.out.cell (i := 0) (v := .slice A n c) rfl; have y1 := HX1.out.cell (i := 1) (v := .int .i64 e.fam) rfl; have y2 := HX1.out.cell (i := 2) (v := .slice B m d) rfl; have y3 := HX1.out.cell (i := 3) (v := .int .i64 e.ts) rfl; have y4 := HX1.out.cell (i := 4) (v := .int .i64 e.seq) rfl; have y5 := HX1.out.cell (i := 5) (v := .int .i64 e.kind) rfl; have y6 := HX1.out.cell (i := 6) (v := .slice D v q) rfl)
      | (go_at_call 89; go_must (refine (rkey_any e HZ.out A n c B m d D v q _ (HE.out _ HX1.out.up)).mono ?_); rintro e' x2 ⟨A2, c2, rfl, hO2, hb2⟩; have HX2 := Lib.hid (HX1.out.later hb2); have HS2 := Lib.hid (Sl.own hO2); clear hb2 hO2)
      | (go_at_call 88; have _t := tok1; go_must (refine (rBytes_any (keyE e) A2 _ c2 _ (by have := HLEN.out; omega) HS2.out.rb).mono ?_); rw [← X1.out]; rintro e' x3 ⟨A3, c3, rfl, hO3, hb3⟩; have HX3 := Lib.hid (HX2.out.later hb3); have HO3 := Lib.hid (own_low hO3 HX2.out.size); clear hb3 hO3 tok1; have y6' := HX3.out.cell (i := 6) (v := .slice D v q) rfl)
      | (go_at_call 88; go_must (refine (rBytes_any e.val D v q _ (by have := HLEN.out; omega) (HE.out _ HX3.out.up).val.rb).mono ?_); rw [← X2.out]; rintro e' x4 ⟨A4, c4, rfl, hO4, hb4⟩; have HX4 := Lib.hid (HX3.out.later hb4); have HO4 := Lib.hid (own_below HO3.out hb4); have HR4 := Lib.hid (RB.own hO4); clear hb4 hO4)
      | (at_builtin; go_must (refine wpList_append_reads _ rfl (.tmp 14) (.tmp 17) rfl Try.u8s' (w.heap.size + 1) (.slice A3 L1.length c3) L1.length (u8s (L1)) rfl HO4.out x4.heap.size A4 L2.length c4 (u8s (L2)) rfl HR4.out (u8s_one _) (by have := XL.out; unfold maxLen; omega) (by have := XL.out; omega) HX4.out.size ?_); intro v5 x5 hown hg hat; have HX5 := Lib.hid (HX4.out.grow HO4.out hg); rw [← u8s_append] at hown; have HO5 := Lib.hid hown; clear hown hg hat))
    go_ret2
    exact bytes_post2 (own_low HO5.out (Nat.le_succ _)) HX5.out.up
  · rw [if_neg hc]
    obtain ⟨z, hz⟩ : ∃ z, z = checkE e := ⟨_, rfl⟩
    have HZ := Lib.hid hz
    have hd : (z != 0) = true := by rw [bne_iff_ne, hz]; exact hc
    rw [← hz]
    clear h hc hz hl1 hl2 hvl
    go_enter Try.func57, Try.ntmps57
    go_wp2_with (go_at_call 23; go_must (refine (rCheck_any _ _ _ _ _ _ _ _ _ _ _ _ _ _).mono ?_); rintro e' x1 ⟨rfl, hb1⟩; rw [HC.out, ← HZ.out]; have HX1 := Lib.hid (HX0.out.later hb1); clear hb1)
    go_ret2
    exact bytes_none2 HX1.out.up
end Go.Proofs.Ytdaoinhkagmbdaa
namespace Go.Proofs.Ytdaoinhkagmbdaa
open Go.RowKit
theorem ent_rowM : RowTy Try.prog 30 7 := ⟨⟨_, Try.underlying30, rfl⟩, by kernel_rfl⟩
def mkL (j : Nat) : List UInt8 := [201, 202, 203, 204, 205] ++ List.replicate j 206
theorem mkL_len (j : Nat) : (mkL j).length = j + 5 := by simp [mkL]
set_option maxRecDepth 100000 in
set_option maxHeartbeats 1000000 in
theorem intact_any (l : List UInt8) (A B : Option Addr) (n c d : Nat) (w : World) (ha : Sl w A (n + 75) c (l ++ mkL 70)) (hb : RB w w.heap.size B n l) (hn : n ≤ 1000000) :
    Calls Try.prog 56 #[.slice A n c, .slice B n d] w fun e w' => e = .returned (.bool true) ∧ Below w.heap.size w w' := by
  have hcap := ha.cap
  have hlim := ha.lim
  have HLB := Lib.hid hb.len
  have HA : Hid (∀ x, Below w.heap.size w x → Sl x A (n + 75) c (l ++ mkL 70)) := Lib.hid fun x h => ha.later h
  have HB : Hid (∀ x, Below w.heap.size w x → RB x x.heap.size B n l) := Lib.hid fun x h => hb.later h
  have H1 : Hid (∀ x, Below w.heap.size w x → Sl x A n c l) := Lib.hid fun x h => by
    have h2 := (HA.out x h).take (m := n) (by omega)
    rwa [List.take_left' HLB.out] at h2
  have H2 : Hid (∀ x, Below w.heap.size w x → Sl x (A.map (·.add n)) 5 (c - n) [201, 202, 203, 204, 205]) := Lib.hid fun x h => by
    have h2 := ((HA.out x h).take (m := n + 5) (by omega)).drop (k := n) (by omega) (by omega)
    have e : ((l ++ mkL 70).take (n + 5)).drop n = [201, 202, 203, 204, 205] := by
      have hl := HLB.out
      subst hl
      rw [List.take_length_add_append, List.drop_left]
      rfl
    rw [e, show n + 5 - n = 5 from by omega] at h2
    exact h2
  have XS : Hid ((l == l) = true) := Lib.hid (by simp)
  have XM : Hid ((([201, 202, 203, 204, 205] : List UInt8) == [201, 202, 203, 204, 205]) = true) := Lib.hid rfl
  have hA0 : ∃ aa, A = some aa := by
    cases A with
    | none => exact absurd (ha.nil rfl) (by omega)
    | some aa => exact ⟨aa, rfl⟩
  obtain ⟨aa, rfl⟩ := hA0
  have k1 : (n : Int) + 5 ≤ (c : Int) := by omega
  have k2 : IntKind.i64.wrap ((n : Int) + 5) = (n : Int) + 5 := i64_sum (by omega) (by omega)
  have tok1 : True := trivial
  clear ha hb
  go_enter Try.func56, Try.ntmps56
  go_wp2_with (first
    | (go_at_call 43; have _t := tok1; go_must (refine (same_any l l (some aa) B n c n d _ (by omega) (H1.out _ (Below.refl _ _)).rb (HB.out _ (Below.refl _ _))).mono ?_); rw [XS.out]; rintro e x1 ⟨rfl, hb1⟩; have HB1 := Lib.hid hb1; clear hb1 tok1)
    | (go_at_call 43; go_must (refine (same_any [201, 202, 203, 204, 205] [201, 202, 203, 204, 205] _ _ 5 _ 5 _ _ (by decide) (H2.out _ (HB1.out.alloc HB1.out.size _)).rb (Sl.lit x1 #[.int .u8 201, .int .u8 202, .int .u8 203, .int .u8 204, .int .u8 205] [201, 202, 203, 204, 205] 5 (0, 0) rfl rfl (by decide)).rb).mono ?_); rw [XM.out]; rintro e x2 ⟨rfl, hb2⟩; have HB2 := Lib.hid (below_up (HB1.out.alloc HB1.out.size (.cells #[.int .u8 201, .int .u8 202, .int .u8 203, .int .u8 204, .int .u8 205] 5)) hb2); clear hb2))
  go_ret
  exact ⟨rfl, HB2.out⟩
structure EnM (w : World) (A : Option Addr) (n c : Nat) (B : Option Addr) (m d : Nat) (D : Option Addr) (v q : Nat) (e : Ent) : Prop where
  row : Sl w A (n + 75) c (e.row ++ mkL 70)
  qual : Sl w B (m + 75) d (e.qual ++ mkL 70)
  val : Sl w D (v + 75) q (e.val ++ mkL 70)
  lr : e.row.length = n ∧ n ≤ 5000
  lq : e.qual.length = m ∧ m ≤ 5000
  lv : e.val.length = v ∧ v ≤ 5000
section
variable {w x : World} {A : Option Addr} {n c : Nat} {B : Option Addr} {m d : Nat} {D : Option Addr} {v q : Nat} {e : Ent}
theorem EnM.later (h : EnM w A n c B m d D v q e) (hb : Below w.heap.size w x) : EnM x A n c B m d D v q e := ⟨h.row.later hb, h.qual.later hb, h.val.later hb, h.lr, h.lq, h.lv⟩
theorem sl_front {l : List UInt8} {k : Nat} (h : Sl w A (n + k) c (l ++ mkL 70)) (hl : l.length = n) : Sl w A n c l := by
  have h2 := h.take (m := n) (by omega)
  rwa [List.take_left' hl] at h2
theorem EnM.en (h : EnM w A n c B m d D v q e) : En w A n c B m d D v q e := ⟨sl_front h.row h.lr.1, sl_front h.qual h.lq.1, sl_front h.val h.lv.1⟩
end
set_option maxRecDepth 100000 in
set_option maxHeartbeats 2000000 in
theorem stands_any (a : Ent) (A : Option Addr) (n c : Nat) (B : Option Addr) (m d : Nat) (D : Option Addr) (v q : Nat) (A' : Option Addr) (c' : Nat) (B' : Option Addr) (d' : Nat) (D' : Option Addr) (q' : Nat) (w : World) (ha : EnM w A n c B m d D v q a) (hb : En w A' n c' B' m d' D' v q' a) :
    Calls Try.prog 29 #[entV A n c B m d D v q a, entV A' n c' B' m d' D' v q' a] w fun e w1 => e = .returned (.bool true) ∧ Below w.heap.size w w1 := by
  have HT := Lib.hid (Two.new w 30 #[.slice A n c, .int .i64 a.fam, .slice B m d, .int .i64 a.ts, .int .i64 a.seq, .int .i64 a.kind, .slice D v q] #[.slice A' n c', .int .i64 a.fam, .slice B' m d', .int .i64 a.ts, .int .i64 a.seq, .int .i64 a.kind, .slice D' v q'])
  have HA : Hid (∀ x, Below w.heap.size w x → EnM x A n c B m d D v q a) := Lib.hid fun x h => ha.later h
  have HC : Hid (∀ x, Below w.heap.size w x → En x A' n c' B' m d' D' v q' a) := Lib.hid fun x h => hb.later h
  have HLE : Hid (n ≤ 5000 ∧ m ≤ 5000 ∧ v ≤ 5000) := Lib.hid ⟨ha.lr.2, ha.lq.2, ha.lv.2⟩
  unfold entV
  clear ha hb
  have tok1 : True := trivial
  have tok2 : True := trivial
  go_enter Try.func29, Try.ntmps29
  go_wp2_with (first
    | (go_at_call 56; have _t := tok1; go_must (refine (intact_any a.row _ _ _ _ _ _ (HA.out _ HT.out.up).row (by have h := (HC.out _ HT.out.up).row.rb; exact h) (by have := HLE.out; omega)).mono ?_); rintro e x1 ⟨rfl, hb1⟩; have HT1 := Lib.hid (HT.out.later hb1); clear hb1 tok1; have a2 := boxed1 HT1.out (i := 2) (v := .slice B m d) rfl; have b2 := boxed2 HT1.out (i := 2) (v := .slice B' m d') rfl)
    | (go_at_call 56; have _t := tok2; go_must (refine (intact_any a.qual _ _ _ _ _ _ (HA.out _ HT1.out.up).qual (by have h := (HC.out _ HT1.out.up).qual.rb; exact h) (by have := HLE.out; omega)).mono ?_); rintro e x2 ⟨rfl, hb2⟩; have HT2 := Lib.hid (HT1.out.later hb2); clear hb2 tok2; have a6 := boxed1 HT2.out (i := 6) (v := .slice D v q) rfl; have b6 := boxed2 HT2.out (i := 6) (v := .slice D' v q') rfl)
    | (go_at_call 56; go_must (refine (intact_any a.val _ _ _ _ _ _ (HA.out _ HT2.out.up).val (by have h := (HC.out _ HT2.out.up).val.rb; exact h) (by have := HLE.out; omega)).mono ?_); rintro e x3 ⟨rfl, hb3⟩; have HT3 := Lib.hid (HT2.out.later hb3); clear hb3))
  go_ret
  exact ⟨rfl, HT3.out.up⟩
theorem sl_front' {w : World} {A : Option Addr} {c n k : Nat} {l : List UInt8} (h : Sl w A (l ++ mkL k).length c (l ++ mkL k)) (hl : l.length = n) : Sl w A n c l := by
  have h2 := h.take (m := n) (by rw [List.length_append]; omega)
  rwa [List.take_left' hl] at h2
theorem OW.front_ {w z : World} {os : List Ob} {T : TypeId} {A : Option Addr} {c n : Nat} {l : List UInt8} {k : Nat} (h : OW w os z) (hm : bytO T (A, c, l ++ mkL k) ∈ os) (hn : l.length = n) : Sl z A n c l :=
  sl_front' (h.slm hm rfl) hn
def entO (A B D : Option Addr) (c d q : Nat) (e : Ent) : List Ob := [bytO 5 (A, c, e.row ++ mkL 70), bytO 5 (B, d, e.qual ++ mkL 70), bytO 5 (D, q, e.val ++ mkL 70)]
def cut5 (e : Ent) : Ent := { e with row := e.row.take 5000, qual := e.qual.take 5000, val := e.val.take 5000 }
theorem sl_cut {w : World} {A : Option Addr} {n c : Nat} {l : List UInt8} (h : Sl w A n c l) : Sl w A (min n 5000) c (l.take 5000) := by
  have h1 := h.take (m := min n 5000) (Nat.min_le_left _ _)
  have hl := h.len
  rcases Nat.le_total n 5000 with h2 | h2
  · rw [Nat.min_eq_left h2] at h1 ⊢
    rwa [List.take_of_length_le (by omega), ← List.take_of_length_le (l := l) (i := 5000) (by omega)] at h1
  · rw [Nat.min_eq_right h2] at h1 ⊢
    exact h1
theorem entO_en {w z : World} {os : List Ob} {A B D : Option Addr} {c d q : Nat} {e : Ent} (h : OW w os z) (hm : ∀ o, o ∈ entO A B D c d q e → o ∈ os) : En z A e.row.length c B e.qual.length d D e.val.length q e :=
  ⟨h.front_ (hm _ (.head _)) rfl, h.front_ (hm _ (.tail _ (.head _))) rfl, h.front_ (hm _ (.tail _ (.tail _ (.head _)))) rfl⟩
theorem entO_enM {w z : World} {os : List Ob} {A B D : Option Addr} {c d q : Nat} {e : Ent} (h : OW w os z) (hm : ∀ o, o ∈ entO A B D c d q e → o ∈ os) (h1 : e.row.length ≤ 5000) (h2 : e.qual.length ≤ 5000) (h3 : e.val.length ≤ 5000) : EnM z A e.row.length c B e.qual.length d D e.val.length q e :=
  ⟨h.slm (hm _ (.head _)) (by rw [List.length_append, mkL_len]), h.slm (hm _ (.tail _ (.head _))) (by rw [List.length_append, mkL_len]), h.slm (hm _ (.tail _ (.tail _ (.head _)))) (by rw [List.length_append, mkL_len]), ⟨rfl, h1⟩, ⟨rfl, h2⟩, ⟨rfl, h3⟩⟩
theorem cut5_le (e : Ent) : (cut5 e).row.length ≤ 5000 ∧ (cut5 e).qual.length ≤ 5000 ∧ (cut5 e).val.length ≤ 5000 := by
  refine ⟨?_, ?_, ?_⟩ <;> (unfold cut5; simp only [List.length_take]; omega)
end Go.Proofs.Ytdaoinhkagmbdaa
namespace Go.Proofs.Ytdaoinhkagmbdaa
open Go.RowKit
def SlIn (os : List Ob) (A : Option Addr) (n c : Nat) (l : List UInt8) : Prop := ∃ o, o ∈ os ∧ ∀ w x, OW w [o] x → Sl x A n c l
structure EIn (os : List Ob) (r : ER) : Prop where
  a : SlIn os r.A r.e.row.length r.c r.e.row
  b : SlIn os r.B r.e.qual.length r.d r.e.qual
  d : SlIn os r.D r.e.val.length r.q r.e.val
theorem SlIn.more {os os' : List Ob} {A : Option Addr} {n c : Nat} {l : List UInt8} (h : SlIn os A n c l) (hs : ∀ o, o ∈ os → o ∈ os') : SlIn os' A n c l := by
  obtain ⟨o, ho, k⟩ := h; exact ⟨o, hs o ho, k⟩
theorem SlIn.sl {os : List Ob} {w x : World} {A : Option Addr} {n c : Nat} {l : List UInt8} (h : SlIn os A n c l) (k : OW w os x) : Sl x A n c l := by
  obtain ⟨o, ho, hk⟩ := h; exact hk w x (k.sub (List.singleton_sublist.2 ho))
theorem slIn_byt {os : List Ob} {T : TypeId} {A : Option Addr} {n c : Nat} {l : List UInt8} (hm : bytO T (A, c, l) ∈ os) (hn : l.length = n) : SlIn os A n c l := ⟨_, hm, fun _ _ h => h.slm (.head _) hn⟩
theorem slIn_front {os : List Ob} {T : TypeId} {A : Option Addr} {n c k : Nat} {l : List UInt8} (hm : bytO T (A, c, l ++ mkL k) ∈ os) (hn : l.length = n) : SlIn os A n c l := ⟨_, hm, fun _ _ h => h.front_ (.head _) hn⟩
theorem EIn.more {os os' : List Ob} {r : ER} (h : EIn os r) (hs : ∀ o, o ∈ os → o ∈ os') : EIn os' r := ⟨h.a.more hs, h.b.more hs, h.d.more hs⟩
theorem EIn.en {os : List Ob} {w x : World} {r : ER} (h : EIn os r) (k : OW w os x) : r.En x := ⟨h.a.sl k, h.b.sl k, h.d.sl k⟩
theorem entO_ein {os : List Ob} {A B D : Option Addr} {c d q : Nat} {e : Ent} (hm : ∀ o, o ∈ entO A B D c d q e → o ∈ os) : EIn os ⟨A, c, B, d, D, q, e⟩ :=
  ⟨slIn_front (hm _ (.head _)) rfl, slIn_front (hm _ (.tail _ (.head _))) rfl, slIn_front (hm _ (.tail _ (.tail _ (.head _)))) rfl⟩
structure LIn (os : List Ob) (A : Option Addr) (n : Nat) (L : List Ent) : Prop where
  ex : ∃ rs : List ER, rs.map ER.e = L ∧ (∃ o, o ∈ os ∧ ∀ w x, OW w [o] x → Reads x x.heap.size 7 A n (rs.flatMap ER.cells)) ∧ ∀ r, r ∈ rs → EIn os r
theorem LIn.more {os os' : List Ob} {A : Option Addr} {n : Nat} {L : List Ent} (h : LIn os A n L) (hs : ∀ o, o ∈ os → o ∈ os') : LIn os' A n L := by
  obtain ⟨rs, h1, ⟨o, ho, h2⟩, h3⟩ := h.ex
  exact ⟨rs, h1, ⟨o, hs o ho, h2⟩, fun r hr => (h3 r hr).more hs⟩
theorem LIn.ens {os : List Ob} {w x : World} {A : Option Addr} {n : Nat} {L : List Ent} (h : LIn os A n L) (k : OW w os x) : Ens x A n L := by
  obtain ⟨rs, h1, ⟨o, ho, h2⟩, h3⟩ := h.ex
  exact ⟨rs, h1, h2 w x (k.sub (List.singleton_sublist.2 ho)), fun r hr => (h3 r hr).en k⟩
structure RT (os : List Ob) (A : Option Addr) (n c : Nat) (rs : List ER) (L : List Ent) : Prop where
  row : rowO 30 7 (.slice A n c) n (rs.flatMap ER.cells) ∈ os
  e : rs.map ER.e = L
  en : ∀ r, r ∈ rs → EIn os r
theorem RT.more {os os' : List Ob} {A : Option Addr} {n c : Nat} {rs : List ER} {L : List Ent} (h : RT os A n c rs L) (hs : ∀ o, o ∈ os → o ∈ os') : RT os' A n c rs L := ⟨hs _ h.row, h.e, fun r hr => (h.en r hr).more hs⟩
theorem RT.lens {os : List Ob} {A : Option Addr} {n c : Nat} {rs : List ER} {L : List Ent} {w x : World} (h : RT os A n c rs L) (k : OW w os x) : rs.length = n ∧ L.length = n := by
  have h1 := (k.rowm h.row).1
  rw [flat7_len] at h1
  have h2 : rs.length = n := by omega
  exact ⟨h2, by rw [← h.e, List.length_map, h2]⟩
def fromE (L : List Ent) (e : Ent) : List Ent := L.drop (insN L e)
theorem rowRangeM {w x : World} {os : List Ob} {g c k j : Nat} {T : TypeId} {rs : List ER} {r : ER} (h : OW w os x) (hm : rowO T 7 (.slice (some ⟨g, 0, none⟩) k c) k (rs.flatMap ER.cells) ∈ os) (hr : rs[j]? = some r) : x.rangeAt g (j * 7) [.slice r.A r.e.row.length r.c, .int .i64 r.e.fam, .slice r.B r.e.qual.length r.d, .int .i64 r.e.ts, .int .i64 r.e.seq, .int .i64 r.e.kind, .slice r.D r.e.val.length r.q] := by
  intro q v hq
  have hq7 : q < 7 := (List.getElem?_eq_some_iff.1 hq).1
  have hrow := h.rowm hm
  have hjl : j < rs.length := (List.getElem?_eq_some_iff.1 hr).1
  have hlen : (rs.flatMap ER.cells).length = k * 7 := hrow.1
  rw [flat7_len] at hlen
  rw [World.ownsRow.cellAt hrow (j * 7 + q) (by omega), flat7_at hr q hq7]; exact hq
theorem reads_dropR {x : World} {B sz g k N : Nat} {xs : List Value} (h : Reads x B sz (some ⟨g, 0, none⟩) k xs) (hN : N < k) : Reads x B sz (some ⟨g, N * sz, none⟩) (k - N) (xs.drop (N * sz)) := by
  obtain ⟨b', o', e, hb, hc⟩ := h.2 (by omega)
  injection e with e; injection e with e1 e2 _
  subst e1 e2
  refine ⟨by rw [List.length_drop, h.1, Nat.sub_mul], fun _ => ⟨g, N * sz, rfl, hb, fun j u hu => ?_⟩⟩
  rw [List.getElem?_drop] at hu
  have := hc _ u hu
  rwa [Nat.zero_add] at this
theorem cellsR_one {rs : List ER} {u : Value} (h : u ∈ rs.flatMap ER.cells) : u.oneCell' = true := by
  obtain ⟨r, _, hu⟩ := List.mem_flatMap.1 h
  unfold ER.cells at hu
  simp only [List.mem_cons, List.not_mem_nil, or_false] at hu
  rcases hu with rfl | rfl | rfl | rfl | rfl | rfl | rfl <;> rfl
theorem flat7_dropR (rs : List ER) (m : Nat) : (rs.flatMap ER.cells).drop (m * 7) = (rs.drop m).flatMap ER.cells := by
  induction rs generalizing m with
  | nil => simp
  | cons r rs ih =>
    cases m with
    | zero => simp
    | succ m =>
      rw [List.drop_succ_cons, List.flatMap_cons, List.drop_append, ER.len, List.drop_of_length_le (by rw [ER.len]; omega), show (m + 1) * 7 - 7 = m * 7 from by omega, ih, List.nil_append]
theorem tabR_row : RowTy Try.prog 39 2 := ⟨⟨_, Try.underlying39, rfl⟩, by kernel_rfl⟩
theorem rCheckQ (r : ER) (w : World) (h : r.En w) : Calls Try.prog 23 #[.agg #[.slice r.A r.e.row.length r.c, .int .i64 r.e.fam, .slice r.B r.e.qual.length r.d, .int .i64 r.e.ts, .int .i64 r.e.seq, .int .i64 r.e.kind, .slice r.D r.e.val.length r.q]] w fun e y => e = .returned (.int .i64 (checkE r.e)) ∧ Below w.heap.size w y := by
  have h1 := h.row.len
  have h2 := h.qual.len
  have h3 := h.val.len
  exact rCheck_any r.A r.e.row.length r.c r.e.fam r.B r.e.qual.length r.d r.e.ts r.e.seq r.e.kind r.D r.e.val.length r.q w
theorem rCompareQ (a b : ER) (w : World) (ha : a.En w) (hb : b.En w) : Calls Try.prog 24 #[.agg #[.slice a.A a.e.row.length a.c, .int .i64 a.e.fam, .slice a.B a.e.qual.length a.d, .int .i64 a.e.ts, .int .i64 a.e.seq, .int .i64 a.e.kind, .slice a.D a.e.val.length a.q], .agg #[.slice b.A b.e.row.length b.c, .int .i64 b.e.fam, .slice b.B b.e.qual.length b.d, .int .i64 b.e.ts, .int .i64 b.e.seq, .int .i64 b.e.kind, .slice b.D b.e.val.length b.q]] w fun e y => e = .returned (.int .i64 (cmpE a.e b.e)) ∧ Below w.heap.size w y :=
  rcompare_any a.e b.e a.A _ a.c a.B _ a.d a.D _ a.q b.A _ b.c b.B _ b.d b.D _ b.q w ha hb
set_option maxRecDepth 100000 in
theorem rcopied8 {l : List UInt8} {A : Option Addr} {n c : Nat} {w : World} (h : Sl w A n c l) (hn : n ≤ 140737488355000) :
    Calls Try.prog 44 #[.slice A n c] w fun e z => ∃ B d, e = .returned (.slice B n d) ∧ OW w [bytO 5 (B, d, l)] z := by
  have HR := Lib.hid h.rb
  have HL := Lib.hid h.len
  clear h
  go_enter Try.func44, Try.ntmps44
  go_wp2_with (at_builtin; go_must (refine wpList_append_reads _ rfl (.tmp 4) (.tmp 5) rfl Try.u8s' w.heap.size (.slice none 0 0) 0 [] rfl (own_nil _ _ _ _) _ A n c (u8s l) rfl HR.out (u8s_one _) (by unfold maxLen; omega) (by omega) (Nat.le_refl _) ?_); intro v1 w1 hown1 hg1 hat1; have HB1 := Lib.hid (below_app (Below.refl w.heap.size w) (own_nil _ w.heap.size 5 1) hg1 (Nat.le_refl _) (Nat.le_refl _)); rw [List.nil_append, Nat.zero_add] at hown1; have HO1 := Lib.hid hown1; clear hown1 hg1 hat1)
  go_ret
  have hp : BytesPost 5 l w (.returned v1) w1 := bytes_post HO1.out HB1.out
  obtain ⟨A1, c1, h1, _, ho, hb⟩ := hp.at_ HL.out
  exact ⟨A1, c1, h1, OW.byt1 hb ho⟩
def RAddP (w : World) (os ms : List Ob) (L : List Ent) (fr : Bool) (e : Ent) (en : Ending) (z : World) : Prop :=
  ∃ A' n' c' rs' ns, en = .returned (.tuple #[.agg #[.slice A' n' c', .bool fr], .int .i64 (addE L fr e).2]) ∧ OW w (os ++ ns) z ∧ RT (ms ++ ns) A' n' c' rs' (addE L fr e).1
theorem radd_same {w z : World} {os ms : List Ob} {L : List Ent} {fr : Bool} {e : Ent} {A : Option Addr} {n c : Nat} {rs : List ER} {k : Int} (hT : RT ms A n c rs L) (h : OW w os z) (ha : addE L fr e = (L, k)) : RAddP w os ms L fr e (.returned (.tuple #[.agg #[.slice A n c, .bool fr], .int .i64 k])) z := by
  refine ⟨A, n, c, rs, [], by rw [ha], by rw [List.append_nil]; exact h, ?_⟩
  rw [ha, List.append_nil]; exact hT
set_option maxRecDepth 100000 in
set_option maxHeartbeats 4000000 in
theorem radd8_any {w x : World} {os ms : List Ob} {A : Option Addr} {n c : Nat} {rs : List ER} {L : List Ent} {fr : Bool} (h : OW w os x) (hs : ∀ o, o ∈ ms → o ∈ os) (hT0 : RT ms A n c rs L) (hn : n ≤ 1000000) (r : ER) (hr : ∀ z, OW w os z → r.En z) :
    Calls Try.prog 15 #[.agg #[.slice A n c, .bool fr], .agg #[.slice r.A r.e.row.length r.c, .int .i64 r.e.fam, .slice r.B r.e.qual.length r.d, .int .i64 r.e.ts, .int .i64 r.e.seq, .int .i64 r.e.kind, .slice r.D r.e.val.length r.q]] x (RAddP w os ms L fr r.e) := by
  have hT := hT0.more hs
  have HTM := Lib.hid hT0
  have HX := Lib.hid h
  have HT := Lib.hid hT
  have HR := Lib.hid hr
  have HRL : Hid (rs.length = n) := Lib.hid (hT.lens h).1
  have HLL : Hid (L.length = n) := Lib.hid (hT.lens h).2
  have HRE : Hid (∀ q, q ∈ rs → ∀ z, OW w os z → q.En z) := Lib.hid fun q hq z hz => (hT.en q hq).en hz
  obtain ⟨ck, hck⟩ : ∃ z, z = checkE r.e := ⟨_, rfl⟩
  have HCK := Lib.hid hck.symm
  clear h hT hT0 hs hr hck
  go_enter Try.func15, Try.ntmps15
  have tk0 : True := trivial
  by_cases c1 : ck = 0
  case neg =>
    have d1 : (ck != 0) = true := bne_iff_ne.2 c1
    have HA : Hid (addE L fr r.e = (L, ck)) := Lib.hid (by rw [← HCK.out]; exact addE_bad (by rw [HCK.out]; exact c1))
    clear c1
    go_wp2_with (first
      | (refine wl_box rfl (.tmp 0) rfl [.slice A n c, .bool fr] rfl HX.out ?_; intro bt x1 hz hb; have HX1 : Hid (OW w (boxO bt [.slice A n c, .bool fr] :: os) x1) := Lib.hid (hz.perm List.perm_append_comm); clear hz hb HX)
      | (refine wl_box rfl (.tmp 1) rfl [.slice r.A r.e.row.length r.c, .int .i64 r.e.fam, .slice r.B r.e.qual.length r.d, .int .i64 r.e.ts, .int .i64 r.e.seq, .int .i64 r.e.kind, .slice r.D r.e.val.length r.q] rfl HX1.out ?_; intro be x2 hz hb; have HX2 : Hid (OW w (boxO be [.slice r.A r.e.row.length r.c, .int .i64 r.e.fam, .slice r.B r.e.qual.length r.d, .int .i64 r.e.ts, .int .i64 r.e.seq, .int .i64 r.e.kind, .slice r.D r.e.val.length r.q] :: boxO bt [.slice A n c, .bool fr] :: os) x2) := Lib.hid (hz.perm List.perm_append_comm); clear hz hb HX1)
      | (refine wl_alloc rfl rfl [.slice none 0 0, .bool false] (.inl (by kernel_rfl)) HX2.out ?_; intro br x3 hz hb; have HX3 : Hid (OW w (boxO br [.slice none 0 0, .bool false] :: boxO be [.slice r.A r.e.row.length r.c, .int .i64 r.e.fam, .slice r.B r.e.qual.length r.d, .int .i64 r.e.ts, .int .i64 r.e.seq, .int .i64 r.e.kind, .slice r.D r.e.val.length r.q] :: boxO bt [.slice A n c, .bool fr] :: os) x3) := Lib.hid (hz.perm List.perm_append_comm); clear hz hb HX2)
      | (refine wpList_load_row7 rfl 30 (.tmp 3) rfl rfl (HX3.out.range (i := 1) rfl) ent_row8 ?_)
      | (go_at_call 23; (have _t := tk0); go_must (refine (rCheckQ r _ (HR.out _ (((HX3.out.erase 0).erase 0).erase 0))).mono ?_); rw [HCK.out]; rintro e x4 ⟨rfl, hb⟩; have HX4 := Lib.hid (HX3.out.later hb); clear hb HX3 tk0 _t)
      | (refine wpList_load_row7 rfl 39 (.tmp 2) rfl rfl (HX4.out.range (i := 2) rfl) tabR_row ?_)
      | (refine wl_put rfl (.tmp 4) (.tmp 13) rfl HX4.out 0 rfl rfl [.slice A n c, .bool fr] rfl rfl (by kernel_rfl) (by simp [Value.oneCell']) ?_; intro z9 hz _; have HX9 : Hid (OW w (boxO br [.slice A n c, .bool fr] :: boxO be [.slice r.A r.e.row.length r.c, .int .i64 r.e.fam, .slice r.B r.e.qual.length r.d, .int .i64 r.e.ts, .int .i64 r.e.seq, .int .i64 r.e.kind, .slice r.D r.e.val.length r.q] :: boxO bt [.slice A n c, .bool fr] :: os) z9) := Lib.hid hz; clear hz HX4))
    refine bodyPost_ret (results_rowL1 rfl _ _ br [.slice A n c, .bool fr] rfl (HX9.out.range (i := 0) rfl) (by kernel_rfl) (by kernel_rfl)) rfl ?_
    exact radd_same HTM.out (((HX9.out.erase 0).erase 0).erase 0) HA.out
  subst c1
  cases fr
  case «true» =>
    have HA : Hid (addE L true r.e = (L, 81)) := Lib.hid (addE_cold HCK.out)
    go_wp2_with (first
      | (refine wl_box rfl (.tmp 0) rfl [.slice A n c, .bool true] rfl HX.out ?_; intro bt x1 hz hb; have HX1 : Hid (OW w (boxO bt [.slice A n c, .bool true] :: os) x1) := Lib.hid (hz.perm List.perm_append_comm); clear hz hb HX)
      | (refine wl_box rfl (.tmp 1) rfl [.slice r.A r.e.row.length r.c, .int .i64 r.e.fam, .slice r.B r.e.qual.length r.d, .int .i64 r.e.ts, .int .i64 r.e.seq, .int .i64 r.e.kind, .slice r.D r.e.val.length r.q] rfl HX1.out ?_; intro be x2 hz hb; have HX2 : Hid (OW w (boxO be [.slice r.A r.e.row.length r.c, .int .i64 r.e.fam, .slice r.B r.e.qual.length r.d, .int .i64 r.e.ts, .int .i64 r.e.seq, .int .i64 r.e.kind, .slice r.D r.e.val.length r.q] :: boxO bt [.slice A n c, .bool true] :: os) x2) := Lib.hid (hz.perm List.perm_append_comm); clear hz hb HX1)
      | (refine wl_alloc rfl rfl [.slice none 0 0, .bool false] (.inl (by kernel_rfl)) HX2.out ?_; intro br x3 hz hb; have HX3 : Hid (OW w (boxO br [.slice none 0 0, .bool false] :: boxO be [.slice r.A r.e.row.length r.c, .int .i64 r.e.fam, .slice r.B r.e.qual.length r.d, .int .i64 r.e.ts, .int .i64 r.e.seq, .int .i64 r.e.kind, .slice r.D r.e.val.length r.q] :: boxO bt [.slice A n c, .bool true] :: os) x3) := Lib.hid (hz.perm List.perm_append_comm); clear hz hb HX2)
      | (refine wpList_load_row7 rfl 30 (.tmp 3) rfl rfl (HX3.out.range (i := 1) rfl) ent_row8 ?_)
      | (go_at_call 23; (have _t := tk0); go_must (refine (rCheckQ r _ (HR.out _ (((HX3.out.erase 0).erase 0).erase 0))).mono ?_); rw [HCK.out]; rintro e x4 ⟨rfl, hb⟩; have HX4 := Lib.hid (HX3.out.later hb); clear hb HX3 tk0 _t)
      | (refine wpList_load_cell rfl 4 (.tmp 15) rfl rfl (HX4.out.cell (i := 2) (j := 1) rfl rfl) (fun w => Try.isAgg4 w) ?_)
      | (refine wpList_load_row7 rfl 39 (.tmp 2) rfl rfl (HX4.out.range (i := 2) rfl) tabR_row ?_)
      | (refine wl_put rfl (.tmp 4) (.tmp 17) rfl HX4.out 0 rfl rfl [.slice A n c, .bool true] rfl rfl (by kernel_rfl) (by simp [Value.oneCell']) ?_; intro z9 hz _; have HX9 : Hid (OW w (boxO br [.slice A n c, .bool true] :: boxO be [.slice r.A r.e.row.length r.c, .int .i64 r.e.fam, .slice r.B r.e.qual.length r.d, .int .i64 r.e.ts, .int .i64 r.e.seq, .int .i64 r.e.kind, .slice r.D r.e.val.length r.q] :: boxO bt [.slice A n c, .bool true] :: os) z9) := Lib.hid hz; clear hz HX4))
    refine bodyPost_ret (results_rowL1 rfl _ _ br [.slice A n c, .bool true] rfl (HX9.out.range (i := 0) rfl) (by kernel_rfl) (by kernel_rfl)) rfl ?_
    exact radd_same HTM.out (((HX9.out.erase 0).erase 0).erase 0) HA.out
  obtain ⟨N, hN⟩ : ∃ z, z = insN L r.e := ⟨_, rfl⟩
  have hNn : N ≤ n := by rw [hN, ← HLL.out]; exact twN_le _ _
  have HN := Lib.hid hN
  have HLE := Lib.hid (chk_lens HCK.out)
  clear hN
  go_upto_region 6 with (first
      | (refine wl_box rfl (.tmp 0) rfl [.slice A n c, .bool false] rfl HX.out ?_; intro bt x1 hz hb; have HX1 : Hid (OW w (boxO bt [.slice A n c, .bool false] :: os) x1) := Lib.hid (hz.perm List.perm_append_comm); clear hz hb HX)
      | (refine wl_box rfl (.tmp 1) rfl [.slice r.A r.e.row.length r.c, .int .i64 r.e.fam, .slice r.B r.e.qual.length r.d, .int .i64 r.e.ts, .int .i64 r.e.seq, .int .i64 r.e.kind, .slice r.D r.e.val.length r.q] rfl HX1.out ?_; intro be x2 hz hb; have HX2 : Hid (OW w (boxO be [.slice r.A r.e.row.length r.c, .int .i64 r.e.fam, .slice r.B r.e.qual.length r.d, .int .i64 r.e.ts, .int .i64 r.e.seq, .int .i64 r.e.kind, .slice r.D r.e.val.length r.q] :: boxO bt [.slice A n c, .bool false] :: os) x2) := Lib.hid (hz.perm List.perm_append_comm); clear hz hb HX1)
      | (refine wl_alloc rfl rfl [.slice none 0 0, .bool false] (.inl (by kernel_rfl)) HX2.out ?_; intro br x3 hz hb; have HX3 : Hid (OW w (boxO br [.slice none 0 0, .bool false] :: boxO be [.slice r.A r.e.row.length r.c, .int .i64 r.e.fam, .slice r.B r.e.qual.length r.d, .int .i64 r.e.ts, .int .i64 r.e.seq, .int .i64 r.e.kind, .slice r.D r.e.val.length r.q] :: boxO bt [.slice A n c, .bool false] :: os) x3) := Lib.hid (hz.perm List.perm_append_comm); clear hz hb HX2)
      | (refine wpList_load_row7 rfl 30 (.tmp 3) rfl rfl (HX3.out.range (i := 1) rfl) ent_row8 ?_)
      | (go_at_call 23; (have _t := tk0); go_must (refine (rCheckQ r _ (HR.out _ (((HX3.out.erase 0).erase 0).erase 0))).mono ?_); rw [HCK.out]; rintro e x4 ⟨rfl, hb⟩; have HX4 := Lib.hid (HX3.out.later hb); clear hb HX3 tk0 _t)
      | (refine wpList_load_cell rfl 4 (.tmp 15) rfl rfl (HX4.out.cell (i := 2) (j := 1) rfl rfl) (fun w => Try.isAgg4 w) ?_))
  go_wp2_with fail
  go_loopw [7] (fun av wr => ∃ a : Nat, a ≤ N ∧ av = .int .i64 a ∧ Hid (OW w (boxO br [.slice none 0 0, .bool false] :: boxO be [.slice r.A r.e.row.length r.c, .int .i64 r.e.fam, .slice r.B r.e.qual.length r.d, .int .i64 r.e.ts, .int .i64 r.e.seq, .int .i64 r.e.kind, .slice r.D r.e.val.length r.q] :: boxO bt [.slice A n c, .bool false] :: os) wr)) (fun av _ => N + 1 - (intOf av).toNat)
  case atStart => exact ⟨0, Nat.zero_le _, rfl, HX4⟩
  case round =>
    clear HX4
    obtain ⟨a, haN, rfl, HX⟩ := hrel
    by_cases hak : a < n
    case pos =>
      have hda : decide ((a : Int) < (n : Int)) = true := decide_eq_true (by omega)
      obtain ⟨mg, mcap, hv, _⟩ := own_form (HX.out.rowm (.tail _ (.tail _ (.tail _ HT.out.row)))) (show 0 < n by omega)
      injection hv with hv _ hcp
      subst hv
      subst hcp
      obtain ⟨q, hq⟩ : ∃ q, rs[a]? = some q := ⟨_, List.getElem?_eq_getElem (by have := HRL.out; omega)⟩
      have HQ := Lib.hid hq
      have HQE : Hid (∀ z, OW w os z → q.En z) := Lib.hid (HRE.out q (List.mem_of_getElem? hq))
      have HMA : Hid (L[a]? = some q.e) := Lib.hid (by rw [← HT.out.e, List.getElem?_map, hq]; rfl)
      obtain ⟨cv, hcv⟩ : ∃ z, z = cmpE q.e r.e := ⟨_, rfl⟩
      have HCV := Lib.hid hcv.symm
      have HIF : Hid (cv < 0 ↔ a < N) := Lib.hid (by
        have h := tw_iff (p := fun x => decide (cmpE x r.e < 0)) HMA.out (by have := HN.out; unfold insN at this; omega)
        rw [hcv, HN.out]
        simpa [insN] using h)
      have j1 : (0 : Int) ≤ (a : Int) := by omega
      have j2 : (a : Int) < (n : Int) := by omega
      clear hq hcv
      by_cases haN2 : a < N
      case pos =>
        have hcv0 : cv < 0 := HIF.out.2 haN2
        have hdc : decide (cv < 0) = true := decide_eq_true hcv0
        go_wp2_with fail
        refine lt_start [] (by kernel_rfl) ?_
        intro xd hd
        refine ⟨fun z => OW w (boxO br [.slice none 0 0, .bool false] :: boxO be [.slice r.A r.e.row.length r.c, .int .i64 r.e.fam, .slice r.B r.e.qual.length r.d, .int .i64 r.e.ts, .int .i64 r.e.seq, .int .i64 r.e.kind, .slice r.D r.e.val.length r.q] :: boxO bt [.slice (some ⟨mg, 0, none⟩) n c, .bool false] :: os) z, ?_⟩
        have HS := Lib.hid (HX.out.later hd)
        refine lt_pure 0 rfl (by kernel_rfl) (by kernel_rfl) (by kernel_rfl) (by kernel_rfl) (fun _ _ _ h => h) (v := ?_) (yi_run rfl (fun w => ?_)) (fun _ => HS.out) ?_
        rotate_left
        · first | (go_simp; done) | (go_simp; with_reducible rfl)
        simp only [Act.put, List.setIfInBounds_toArray, List.set_cons_zero, List.set_cons_succ]
        refine lt_pure 1 rfl (by kernel_rfl) (by kernel_rfl) (by kernel_rfl) (by kernel_rfl) (fun _ _ _ h => h) (v := ?_) (yi_run rfl (fun w => ?_)) (fun _ => HS.out) ?_
        rotate_left
        · first | (go_simp; done) | (go_simp; with_reducible rfl)
        simp only [Act.put, List.setIfInBounds_toArray, List.set_cons_zero, List.set_cons_succ]
        refine lt_take 2 [3, 4, 5, 6, 7, 8, 9, 10, 11, 12, 13, 14] rfl (by kernel_rfl) (by kernel_rfl) (by kernel_rfl) (by kernel_rfl) (by kernel_rfl) (fun _ _ _ h => h) (yi_cell rfl rfl rfl (fun w hS => OW.cell hS (i := 2) (j := 0) rfl rfl) (fun w => Try.isAgg22 w)) HS.out ?_
        simp only [Act.put, List.setIfInBounds_toArray, List.set_cons_zero, List.set_cons_succ]
        refine lt_pure 3 rfl (by kernel_rfl) (by kernel_rfl) (by kernel_rfl) (by kernel_rfl) (fun _ _ _ h => h) (v := ?_) (yi_run rfl (fun w => ?_)) (fun _ => HS.out) ?_
        rotate_left
        · first | (go_simp; done) | (go_simp; with_reducible rfl)
        simp only [Act.put, List.setIfInBounds_toArray, List.set_cons_zero, List.set_cons_succ]
        refine lt_pure 4 rfl (by kernel_rfl) (by kernel_rfl) (by kernel_rfl) (by kernel_rfl) (fun _ _ _ h => h) (v := ?_) (yi_run rfl (fun w => ?_)) (fun _ => HS.out) ?_
        rotate_left
        · first | (go_simp; done) | (go_simp; with_reducible rfl)
        simp only [Act.put, List.setIfInBounds_toArray, List.set_cons_zero, List.set_cons_succ]
        refine lt_pure 5 rfl (by kernel_rfl) (by kernel_rfl) (by kernel_rfl) (by kernel_rfl) (fun _ _ _ h => h) (v := ?_) (yi_run rfl (fun w => ?_)) (fun _ => HS.out) ?_
        rotate_left
        · first | (go_simp; done) | (go_simp; with_reducible rfl)
        simp only [Act.put, List.setIfInBounds_toArray, List.set_cons_zero, List.set_cons_succ]
        refine lt_pure 6 rfl (by kernel_rfl) (by kernel_rfl) (by kernel_rfl) (by kernel_rfl) (fun _ _ _ h => h) (v := ?_) (yi_run rfl (fun w => ?_)) (fun _ => HS.out) ?_
        rotate_left
        · first | (go_simp; done) | (go_simp; with_reducible rfl)
        simp only [Act.put, List.setIfInBounds_toArray, List.set_cons_zero, List.set_cons_succ]
        refine lt_take 7 [9, 10, 12, 13, 14] rfl (by kernel_rfl) (by kernel_rfl) (by kernel_rfl) (by kernel_rfl) (by kernel_rfl) (fun _ _ _ h => h) (yi_cell rfl rfl rfl (fun w hS => OW.cell hS (i := 2) (j := 0) rfl rfl) (fun w => Try.isAgg22 w)) HS.out ?_
        simp only [Act.put, List.setIfInBounds_toArray, List.set_cons_zero, List.set_cons_succ]
        refine lt_pure 8 rfl (by kernel_rfl) (by kernel_rfl) (by kernel_rfl) (by kernel_rfl) (fun _ _ _ h => h) (v := ?_) (yi_run rfl (fun w => ?_)) (fun _ => HS.out) ?_
        rotate_left
        · first | (go_simp; done) | (go_simp; with_reducible rfl)
        simp only [Act.put, List.setIfInBounds_toArray, List.set_cons_zero, List.set_cons_succ]
        refine lt_pure 9 rfl (by kernel_rfl) (by kernel_rfl) (by kernel_rfl) (by kernel_rfl) (fun _ _ _ h => h) (v := ?_) (yi_run rfl (fun w => ?_)) (fun _ => HS.out) ?_
        rotate_left
        · first | (go_simp; done) | (go_simp; with_reducible rfl)
        simp only [Act.put, List.setIfInBounds_toArray, List.set_cons_zero, List.set_cons_succ]
        refine lt_take 10 [12, 13, 14] rfl (by kernel_rfl) (by kernel_rfl) (by kernel_rfl) (by kernel_rfl) (by kernel_rfl) (fun _ _ _ h => h) (yi_rowO rfl rfl rfl (fun w hS => rowRangeM hS (.tail _ (.tail _ (.tail _ HT.out.row))) HQ.out) ent_row8) HS.out ?_
        simp only [Act.put, List.setIfInBounds_toArray, List.set_cons_zero, List.set_cons_succ]
        refine lt_take 11 [12, 13, 14] rfl (by kernel_rfl) (by kernel_rfl) (by kernel_rfl) (by kernel_rfl) (by kernel_rfl) (fun _ _ _ h => h) (yi_row rfl rfl rfl (fun w hS => OW.range hS (i := 1) rfl) ent_row8) HS.out ?_
        simp only [Act.put, List.setIfInBounds_toArray, List.set_cons_zero, List.set_cons_succ]
        refine lt_call 12 rfl (by kernel_rfl) rfl rfl ⟨_, Try.func24, by decide, by kernel_rfl⟩ [.agg #[.slice q.A q.e.row.length q.c, .int .i64 q.e.fam, .slice q.B q.e.qual.length q.d, .int .i64 q.e.ts, .int .i64 q.e.seq, .int .i64 q.e.kind, .slice q.D q.e.val.length q.q], .agg #[.slice r.A r.e.row.length r.c, .int .i64 r.e.fam, .slice r.B r.e.qual.length r.d, .int .i64 r.e.ts, .int .i64 r.e.seq, .int .i64 r.e.kind, .slice r.D r.e.val.length r.q]] rfl ?_
        refine (rCompareQ q r _ (HQE.out _ (((HS.out.erase 0).erase 0).erase 0)) (HR.out _ (((HS.out.erase 0).erase 0).erase 0))).mono ?_
        rw [HCV.out]
        rintro rr z9 ⟨rfl, hb⟩
        replace HS := Lib.hid (HS.out.later hb)
        clear hb
        refine ⟨_, rfl, fun _ => HS.out, ?_⟩
        simp only [Act.put, List.setIfInBounds_toArray, List.set_cons_zero, List.set_cons_succ]
        refine lt_pure 13 rfl (by kernel_rfl) (by kernel_rfl) (by kernel_rfl) (by kernel_rfl) (fun _ _ _ h => h) (v := ?_) (yi_run rfl (fun w => ?_)) (fun _ => HS.out) ?_
        rotate_left
        · first | (go_simp; done) | (go_simp; with_reducible rfl)
        simp only [Act.put, List.setIfInBounds_toArray, List.set_cons_zero, List.set_cons_succ]
        refine lt_pure 14 rfl (by kernel_rfl) (by kernel_rfl) (by kernel_rfl) (by kernel_rfl) (fun _ _ _ h => h) (v := ?_) (yi_run rfl (fun w => ?_)) (fun _ => HS.out) ?_
        rotate_left
        · first | (go_simp; done) | (go_simp; with_reducible rfl)
        simp only [Act.put, List.setIfInBounds_toArray, List.set_cons_zero, List.set_cons_succ]
        refine lt_done (by kernel_rfl) ?_
        replace HX := Lib.hid HS.out
        clear HS
        go_wp2_with fail
        go_roundw
        case rel => exact ⟨a + 1, by omega, by go_num, HX⟩
        case measure => simp [intOf]; omega
      have hcv0 : ¬ cv < 0 := fun h => haN2 (HIF.out.1 h)
      have hdc : decide (cv < 0) = false := decide_eq_false hcv0
      have HAN : Hid (a = N) := Lib.hid (by omega)
      go_wp2_with fail
      refine lt_start [] (by kernel_rfl) ?_
      intro xd hd
      refine ⟨fun z => OW w (boxO br [.slice none 0 0, .bool false] :: boxO be [.slice r.A r.e.row.length r.c, .int .i64 r.e.fam, .slice r.B r.e.qual.length r.d, .int .i64 r.e.ts, .int .i64 r.e.seq, .int .i64 r.e.kind, .slice r.D r.e.val.length r.q] :: boxO bt [.slice (some ⟨mg, 0, none⟩) n c, .bool false] :: os) z, ?_⟩
      have HS := Lib.hid (HX.out.later hd)
      refine lt_pure 0 rfl (by kernel_rfl) (by kernel_rfl) (by kernel_rfl) (by kernel_rfl) (fun _ _ _ h => h) (v := ?_) (yi_run rfl (fun w => ?_)) (fun _ => HS.out) ?_
      rotate_left
      · first | (go_simp; done) | (go_simp; with_reducible rfl)
      simp only [Act.put, List.setIfInBounds_toArray, List.set_cons_zero, List.set_cons_succ]
      refine lt_pure 1 rfl (by kernel_rfl) (by kernel_rfl) (by kernel_rfl) (by kernel_rfl) (fun _ _ _ h => h) (v := ?_) (yi_run rfl (fun w => ?_)) (fun _ => HS.out) ?_
      rotate_left
      · first | (go_simp; done) | (go_simp; with_reducible rfl)
      simp only [Act.put, List.setIfInBounds_toArray, List.set_cons_zero, List.set_cons_succ]
      refine lt_take 2 [3, 4, 5, 6, 7, 8, 9, 10, 11, 12, 13, 14] rfl (by kernel_rfl) (by kernel_rfl) (by kernel_rfl) (by kernel_rfl) (by kernel_rfl) (fun _ _ _ h => h) (yi_cell rfl rfl rfl (fun w hS => OW.cell hS (i := 2) (j := 0) rfl rfl) (fun w => Try.isAgg22 w)) HS.out ?_
      simp only [Act.put, List.setIfInBounds_toArray, List.set_cons_zero, List.set_cons_succ]
      refine lt_pure 3 rfl (by kernel_rfl) (by kernel_rfl) (by kernel_rfl) (by kernel_rfl) (fun _ _ _ h => h) (v := ?_) (yi_run rfl (fun w => ?_)) (fun _ => HS.out) ?_
      rotate_left
      · first | (go_simp; done) | (go_simp; with_reducible rfl)
      simp only [Act.put, List.setIfInBounds_toArray, List.set_cons_zero, List.set_cons_succ]
      refine lt_pure 4 rfl (by kernel_rfl) (by kernel_rfl) (by kernel_rfl) (by kernel_rfl) (fun _ _ _ h => h) (v := ?_) (yi_run rfl (fun w => ?_)) (fun _ => HS.out) ?_
      rotate_left
      · first | (go_simp; done) | (go_simp; with_reducible rfl)
      simp only [Act.put, List.setIfInBounds_toArray, List.set_cons_zero, List.set_cons_succ]
      refine lt_pure 5 rfl (by kernel_rfl) (by kernel_rfl) (by kernel_rfl) (by kernel_rfl) (fun _ _ _ h => h) (v := ?_) (yi_run rfl (fun w => ?_)) (fun _ => HS.out) ?_
      rotate_left
      · first | (go_simp; done) | (go_simp; with_reducible rfl)
      simp only [Act.put, List.setIfInBounds_toArray, List.set_cons_zero, List.set_cons_succ]
      refine lt_pure 6 rfl (by kernel_rfl) (by kernel_rfl) (by kernel_rfl) (by kernel_rfl) (fun _ _ _ h => h) (v := ?_) (yi_run rfl (fun w => ?_)) (fun _ => HS.out) ?_
      rotate_left
      · first | (go_simp; done) | (go_simp; with_reducible rfl)
      simp only [Act.put, List.setIfInBounds_toArray, List.set_cons_zero, List.set_cons_succ]
      refine lt_take 7 [9, 10, 12, 13, 14] rfl (by kernel_rfl) (by kernel_rfl) (by kernel_rfl) (by kernel_rfl) (by kernel_rfl) (fun _ _ _ h => h) (yi_cell rfl rfl rfl (fun w hS => OW.cell hS (i := 2) (j := 0) rfl rfl) (fun w => Try.isAgg22 w)) HS.out ?_
      simp only [Act.put, List.setIfInBounds_toArray, List.set_cons_zero, List.set_cons_succ]
      refine lt_pure 8 rfl (by kernel_rfl) (by kernel_rfl) (by kernel_rfl) (by kernel_rfl) (fun _ _ _ h => h) (v := ?_) (yi_run rfl (fun w => ?_)) (fun _ => HS.out) ?_
      rotate_left
      · first | (go_simp; done) | (go_simp; with_reducible rfl)
      simp only [Act.put, List.setIfInBounds_toArray, List.set_cons_zero, List.set_cons_succ]
      refine lt_pure 9 rfl (by kernel_rfl) (by kernel_rfl) (by kernel_rfl) (by kernel_rfl) (fun _ _ _ h => h) (v := ?_) (yi_run rfl (fun w => ?_)) (fun _ => HS.out) ?_
      rotate_left
      · first | (go_simp; done) | (go_simp; with_reducible rfl)
      simp only [Act.put, List.setIfInBounds_toArray, List.set_cons_zero, List.set_cons_succ]
      refine lt_take 10 [12, 13, 14] rfl (by kernel_rfl) (by kernel_rfl) (by kernel_rfl) (by kernel_rfl) (by kernel_rfl) (fun _ _ _ h => h) (yi_rowO rfl rfl rfl (fun w hS => rowRangeM hS (.tail _ (.tail _ (.tail _ HT.out.row))) HQ.out) ent_row8) HS.out ?_
      simp only [Act.put, List.setIfInBounds_toArray, List.set_cons_zero, List.set_cons_succ]
      refine lt_take 11 [12, 13, 14] rfl (by kernel_rfl) (by kernel_rfl) (by kernel_rfl) (by kernel_rfl) (by kernel_rfl) (fun _ _ _ h => h) (yi_row rfl rfl rfl (fun w hS => OW.range hS (i := 1) rfl) ent_row8) HS.out ?_
      simp only [Act.put, List.setIfInBounds_toArray, List.set_cons_zero, List.set_cons_succ]
      refine lt_call 12 rfl (by kernel_rfl) rfl rfl ⟨_, Try.func24, by decide, by kernel_rfl⟩ [.agg #[.slice q.A q.e.row.length q.c, .int .i64 q.e.fam, .slice q.B q.e.qual.length q.d, .int .i64 q.e.ts, .int .i64 q.e.seq, .int .i64 q.e.kind, .slice q.D q.e.val.length q.q], .agg #[.slice r.A r.e.row.length r.c, .int .i64 r.e.fam, .slice r.B r.e.qual.length r.d, .int .i64 r.e.ts, .int .i64 r.e.seq, .int .i64 r.e.kind, .slice r.D r.e.val.length r.q]] rfl ?_
      refine (rCompareQ q r _ (HQE.out _ (((HS.out.erase 0).erase 0).erase 0)) (HR.out _ (((HS.out.erase 0).erase 0).erase 0))).mono ?_
      rw [HCV.out]
      rintro rr z9 ⟨rfl, hb⟩
      replace HS := Lib.hid (HS.out.later hb)
      clear hb
      refine ⟨_, rfl, fun _ => HS.out, ?_⟩
      simp only [Act.put, List.setIfInBounds_toArray, List.set_cons_zero, List.set_cons_succ]
      refine lt_pure 13 rfl (by kernel_rfl) (by kernel_rfl) (by kernel_rfl) (by kernel_rfl) (fun _ _ _ h => h) (v := ?_) (yi_run rfl (fun w => ?_)) (fun _ => HS.out) ?_
      rotate_left
      · first | (go_simp; done) | (go_simp; with_reducible rfl)
      simp only [Act.put, List.setIfInBounds_toArray, List.set_cons_zero, List.set_cons_succ]
      refine lt_pure 14 rfl (by kernel_rfl) (by kernel_rfl) (by kernel_rfl) (by kernel_rfl) (fun _ _ _ h => h) (v := ?_) (yi_run rfl (fun w => ?_)) (fun _ => HS.out) ?_
      rotate_left
      · first | (go_simp; done) | (go_simp; with_reducible rfl)
      simp only [Act.put, List.setIfInBounds_toArray, List.set_cons_zero, List.set_cons_succ]
      refine lt_done (by kernel_rfl) ?_
      replace HX := Lib.hid HS.out
      clear HS
      go_wp2_with fail
      by_cases hc0 : cv = 0
      case pos =>
        have hde : (cv == 0) = true := by rw [hc0]; rfl
        have HHT : Hid (hitB L r.e = true) := Lib.hid (by
          unfold hitB
          rw [← HN.out, ← HAN.out, HMA.out]
          show (cmpE q.e r.e == 0) = true
          rw [HCV.out]; exact hde)
        have HA : Hid (addE L false r.e = (L, 80)) := Lib.hid (addE_hit HCK.out HHT.out)
        clear hc0 hcv0
        refine lt_start [] (by kernel_rfl) ?_
        intro xd hd
        refine ⟨fun z => OW w (boxO br [.slice none 0 0, .bool false] :: boxO be [.slice r.A r.e.row.length r.c, .int .i64 r.e.fam, .slice r.B r.e.qual.length r.d, .int .i64 r.e.ts, .int .i64 r.e.seq, .int .i64 r.e.kind, .slice r.D r.e.val.length r.q] :: boxO bt [.slice (some ⟨mg, 0, none⟩) n c, .bool false] :: os) z, ?_⟩
        have HS := Lib.hid (HX.out.later hd)
        refine lt_pure 0 rfl (by kernel_rfl) (by kernel_rfl) (by kernel_rfl) (by kernel_rfl) (fun _ _ _ h => h) (v := ?_) (yi_run rfl (fun w => ?_)) (fun _ => HS.out) ?_
        rotate_left
        · first | (go_simp; done) | (go_simp; with_reducible rfl)
        simp only [Act.put, List.setIfInBounds_toArray, List.set_cons_zero, List.set_cons_succ]
        refine lt_pure 1 rfl (by kernel_rfl) (by kernel_rfl) (by kernel_rfl) (by kernel_rfl) (fun _ _ _ h => h) (v := ?_) (yi_run rfl (fun w => ?_)) (fun _ => HS.out) ?_
        rotate_left
        · first | (go_simp; done) | (go_simp; with_reducible rfl)
        simp only [Act.put, List.setIfInBounds_toArray, List.set_cons_zero, List.set_cons_succ]
        refine lt_take 2 [3, 4, 5, 6, 7, 8, 9, 10, 11, 12, 13, 14] rfl (by kernel_rfl) (by kernel_rfl) (by kernel_rfl) (by kernel_rfl) (by kernel_rfl) (fun _ _ _ h => h) (yi_cell rfl rfl rfl (fun w hS => OW.cell hS (i := 2) (j := 0) rfl rfl) (fun w => Try.isAgg22 w)) HS.out ?_
        simp only [Act.put, List.setIfInBounds_toArray, List.set_cons_zero, List.set_cons_succ]
        refine lt_pure 3 rfl (by kernel_rfl) (by kernel_rfl) (by kernel_rfl) (by kernel_rfl) (fun _ _ _ h => h) (v := ?_) (yi_run rfl (fun w => ?_)) (fun _ => HS.out) ?_
        rotate_left
        · first | (go_simp; done) | (go_simp; with_reducible rfl)
        simp only [Act.put, List.setIfInBounds_toArray, List.set_cons_zero, List.set_cons_succ]
        refine lt_pure 4 rfl (by kernel_rfl) (by kernel_rfl) (by kernel_rfl) (by kernel_rfl) (fun _ _ _ h => h) (v := ?_) (yi_run rfl (fun w => ?_)) (fun _ => HS.out) ?_
        rotate_left
        · first | (go_simp; done) | (go_simp; with_reducible rfl)
        simp only [Act.put, List.setIfInBounds_toArray, List.set_cons_zero, List.set_cons_succ]
        refine lt_pure 5 rfl (by kernel_rfl) (by kernel_rfl) (by kernel_rfl) (by kernel_rfl) (fun _ _ _ h => h) (v := ?_) (yi_run rfl (fun w => ?_)) (fun _ => HS.out) ?_
        rotate_left
        · first | (go_simp; done) | (go_simp; with_reducible rfl)
        simp only [Act.put, List.setIfInBounds_toArray, List.set_cons_zero, List.set_cons_succ]
        refine lt_pure 6 rfl (by kernel_rfl) (by kernel_rfl) (by kernel_rfl) (by kernel_rfl) (fun _ _ _ h => h) (v := ?_) (yi_run rfl (fun w => ?_)) (fun _ => HS.out) ?_
        rotate_left
        · first | (go_simp; done) | (go_simp; with_reducible rfl)
        simp only [Act.put, List.setIfInBounds_toArray, List.set_cons_zero, List.set_cons_succ]
        refine lt_take 7 [9, 10, 12, 13, 14] rfl (by kernel_rfl) (by kernel_rfl) (by kernel_rfl) (by kernel_rfl) (by kernel_rfl) (fun _ _ _ h => h) (yi_cell rfl rfl rfl (fun w hS => OW.cell hS (i := 2) (j := 0) rfl rfl) (fun w => Try.isAgg22 w)) HS.out ?_
        simp only [Act.put, List.setIfInBounds_toArray, List.set_cons_zero, List.set_cons_succ]
        refine lt_pure 8 rfl (by kernel_rfl) (by kernel_rfl) (by kernel_rfl) (by kernel_rfl) (fun _ _ _ h => h) (v := ?_) (yi_run rfl (fun w => ?_)) (fun _ => HS.out) ?_
        rotate_left
        · first | (go_simp; done) | (go_simp; with_reducible rfl)
        simp only [Act.put, List.setIfInBounds_toArray, List.set_cons_zero, List.set_cons_succ]
        refine lt_pure 9 rfl (by kernel_rfl) (by kernel_rfl) (by kernel_rfl) (by kernel_rfl) (fun _ _ _ h => h) (v := ?_) (yi_run rfl (fun w => ?_)) (fun _ => HS.out) ?_
        rotate_left
        · first | (go_simp; done) | (go_simp; with_reducible rfl)
        simp only [Act.put, List.setIfInBounds_toArray, List.set_cons_zero, List.set_cons_succ]
        refine lt_take 10 [12, 13, 14] rfl (by kernel_rfl) (by kernel_rfl) (by kernel_rfl) (by kernel_rfl) (by kernel_rfl) (fun _ _ _ h => h) (yi_rowO rfl rfl rfl (fun w hS => rowRangeM hS (.tail _ (.tail _ (.tail _ HT.out.row))) HQ.out) ent_row8) HS.out ?_
        simp only [Act.put, List.setIfInBounds_toArray, List.set_cons_zero, List.set_cons_succ]
        refine lt_take 11 [12, 13, 14] rfl (by kernel_rfl) (by kernel_rfl) (by kernel_rfl) (by kernel_rfl) (by kernel_rfl) (fun _ _ _ h => h) (yi_row rfl rfl rfl (fun w hS => OW.range hS (i := 1) rfl) ent_row8) HS.out ?_
        simp only [Act.put, List.setIfInBounds_toArray, List.set_cons_zero, List.set_cons_succ]
        refine lt_call 12 rfl (by kernel_rfl) rfl rfl ⟨_, Try.func24, by decide, by kernel_rfl⟩ [.agg #[.slice q.A q.e.row.length q.c, .int .i64 q.e.fam, .slice q.B q.e.qual.length q.d, .int .i64 q.e.ts, .int .i64 q.e.seq, .int .i64 q.e.kind, .slice q.D q.e.val.length q.q], .agg #[.slice r.A r.e.row.length r.c, .int .i64 r.e.fam, .slice r.B r.e.qual.length r.d, .int .i64 r.e.ts, .int .i64 r.e.seq, .int .i64 r.e.kind, .slice r.D r.e.val.length r.q]] rfl ?_
        refine (rCompareQ q r _ (HQE.out _ (((HS.out.erase 0).erase 0).erase 0)) (HR.out _ (((HS.out.erase 0).erase 0).erase 0))).mono ?_
        rw [HCV.out]
        rintro rr z9 ⟨rfl, hb⟩
        replace HS := Lib.hid (HS.out.later hb)
        clear hb
        refine ⟨_, rfl, fun _ => HS.out, ?_⟩
        simp only [Act.put, List.setIfInBounds_toArray, List.set_cons_zero, List.set_cons_succ]
        refine lt_pure 13 rfl (by kernel_rfl) (by kernel_rfl) (by kernel_rfl) (by kernel_rfl) (fun _ _ _ h => h) (v := ?_) (yi_run rfl (fun w => ?_)) (fun _ => HS.out) ?_
        rotate_left
        · first | (go_simp; done) | (go_simp; with_reducible rfl)
        simp only [Act.put, List.setIfInBounds_toArray, List.set_cons_zero, List.set_cons_succ]
        refine lt_pure 14 rfl (by kernel_rfl) (by kernel_rfl) (by kernel_rfl) (by kernel_rfl) (fun _ _ _ h => h) (v := ?_) (yi_run rfl (fun w => ?_)) (fun _ => HS.out) ?_
        rotate_left
        · first | (go_simp; done) | (go_simp; with_reducible rfl)
        simp only [Act.put, List.setIfInBounds_toArray, List.set_cons_zero, List.set_cons_succ]
        refine lt_done (by kernel_rfl) ?_
        replace HX := Lib.hid HS.out
        clear HS
        go_wp2_with (first
          | (refine wpList_load_row7 rfl 39 (.tmp 2) rfl rfl (HX.out.range (i := 2) rfl) tabR_row ?_)
          | (refine wl_put rfl (.tmp 4) (.tmp 50) rfl HX.out 0 rfl rfl [.slice (some ⟨mg, 0, none⟩) n c, .bool false] rfl rfl (by kernel_rfl) (by simp [Value.oneCell']) ?_; intro z9 hz _; have HX9 : Hid (OW w (boxO br [.slice (some ⟨mg, 0, none⟩) n c, .bool false] :: boxO be [.slice r.A r.e.row.length r.c, .int .i64 r.e.fam, .slice r.B r.e.qual.length r.d, .int .i64 r.e.ts, .int .i64 r.e.seq, .int .i64 r.e.kind, .slice r.D r.e.val.length r.q] :: boxO bt [.slice (some ⟨mg, 0, none⟩) n c, .bool false] :: os) z9) := Lib.hid hz; clear hz HX))
        refine bodyPost_ret (results_rowL1 rfl _ _ br [.slice (some ⟨mg, 0, none⟩) n c, .bool false] rfl (HX9.out.range (i := 0) rfl) (by kernel_rfl) (by kernel_rfl)) rfl ?_
        exact radd_same HTM.out (((HX9.out.erase 0).erase 0).erase 0) HA.out
      have hde : (cv == 0) = false := beq_eq_false_iff_ne.2 hc0
      have HHT : Hid (hitB L r.e = false) := Lib.hid (by
        unfold hitB
        rw [← HN.out, ← HAN.out, HMA.out]
        show (cmpE q.e r.e == 0) = false
        rw [HCV.out]; exact hde)
      clear hc0 hcv0
      refine lt_start [] (by kernel_rfl) ?_
      intro xd hd
      refine ⟨fun z => OW w (boxO br [.slice none 0 0, .bool false] :: boxO be [.slice r.A r.e.row.length r.c, .int .i64 r.e.fam, .slice r.B r.e.qual.length r.d, .int .i64 r.e.ts, .int .i64 r.e.seq, .int .i64 r.e.kind, .slice r.D r.e.val.length r.q] :: boxO bt [.slice (some ⟨mg, 0, none⟩) n c, .bool false] :: os) z, ?_⟩
      have HS := Lib.hid (HX.out.later hd)
      refine lt_pure 0 rfl (by kernel_rfl) (by kernel_rfl) (by kernel_rfl) (by kernel_rfl) (fun _ _ _ h => h) (v := ?_) (yi_run rfl (fun w => ?_)) (fun _ => HS.out) ?_
      rotate_left
      · first | (go_simp; done) | (go_simp; with_reducible rfl)
      simp only [Act.put, List.setIfInBounds_toArray, List.set_cons_zero, List.set_cons_succ]
      refine lt_pure 1 rfl (by kernel_rfl) (by kernel_rfl) (by kernel_rfl) (by kernel_rfl) (fun _ _ _ h => h) (v := ?_) (yi_run rfl (fun w => ?_)) (fun _ => HS.out) ?_
      rotate_left
      · first | (go_simp; done) | (go_simp; with_reducible rfl)
      simp only [Act.put, List.setIfInBounds_toArray, List.set_cons_zero, List.set_cons_succ]
      refine lt_take 2 [3, 4, 5, 6, 7, 8, 9, 10, 11, 12, 13, 14] rfl (by kernel_rfl) (by kernel_rfl) (by kernel_rfl) (by kernel_rfl) (by kernel_rfl) (fun _ _ _ h => h) (yi_cell rfl rfl rfl (fun w hS => OW.cell hS (i := 2) (j := 0) rfl rfl) (fun w => Try.isAgg22 w)) HS.out ?_
      simp only [Act.put, List.setIfInBounds_toArray, List.set_cons_zero, List.set_cons_succ]
      refine lt_pure 3 rfl (by kernel_rfl) (by kernel_rfl) (by kernel_rfl) (by kernel_rfl) (fun _ _ _ h => h) (v := ?_) (yi_run rfl (fun w => ?_)) (fun _ => HS.out) ?_
      rotate_left
      · first | (go_simp; done) | (go_simp; with_reducible rfl)
      simp only [Act.put, List.setIfInBounds_toArray, List.set_cons_zero, List.set_cons_succ]
      refine lt_pure 4 rfl (by kernel_rfl) (by kernel_rfl) (by kernel_rfl) (by kernel_rfl) (fun _ _ _ h => h) (v := ?_) (yi_run rfl (fun w => ?_)) (fun _ => HS.out) ?_
      rotate_left
      · first | (go_simp; done) | (go_simp; with_reducible rfl)
      simp only [Act.put, List.setIfInBounds_toArray, List.set_cons_zero, List.set_cons_succ]
      refine lt_pure 5 rfl (by kernel_rfl) (by kernel_rfl) (by kernel_rfl) (by kernel_rfl) (fun _ _ _ h => h) (v := ?_) (yi_run rfl (fun w => ?_)) (fun _ => HS.out) ?_
      rotate_left
      · first | (go_simp; done) | (go_simp; with_reducible rfl)
      simp only [Act.put, List.setIfInBounds_toArray, List.set_cons_zero, List.set_cons_succ]
      refine lt_pure 6 rfl (by kernel_rfl) (by kernel_rfl) (by kernel_rfl) (by kernel_rfl) (fun _ _ _ h => h) (v := ?_) (yi_run rfl (fun w => ?_)) (fun _ => HS.out) ?_
      rotate_left
      · first | (go_simp; done) | (go_simp; with_reducible rfl)
      simp only [Act.put, List.setIfInBounds_toArray, List.set_cons_zero, List.set_cons_succ]
      refine lt_take 7 [9, 10, 12, 13, 14] rfl (by kernel_rfl) (by kernel_rfl) (by kernel_rfl) (by kernel_rfl) (by kernel_rfl) (fun _ _ _ h => h) (yi_cell rfl rfl rfl (fun w hS => OW.cell hS (i := 2) (j := 0) rfl rfl) (fun w => Try.isAgg22 w)) HS.out ?_
      simp only [Act.put, List.setIfInBounds_toArray, List.set_cons_zero, List.set_cons_succ]
      refine lt_pure 8 rfl (by kernel_rfl) (by kernel_rfl) (by kernel_rfl) (by kernel_rfl) (fun _ _ _ h => h) (v := ?_) (yi_run rfl (fun w => ?_)) (fun _ => HS.out) ?_
      rotate_left
      · first | (go_simp; done) | (go_simp; with_reducible rfl)
      simp only [Act.put, List.setIfInBounds_toArray, List.set_cons_zero, List.set_cons_succ]
      refine lt_pure 9 rfl (by kernel_rfl) (by kernel_rfl) (by kernel_rfl) (by kernel_rfl) (fun _ _ _ h => h) (v := ?_) (yi_run rfl (fun w => ?_)) (fun _ => HS.out) ?_
      rotate_left
      · first | (go_simp; done) | (go_simp; with_reducible rfl)
      simp only [Act.put, List.setIfInBounds_toArray, List.set_cons_zero, List.set_cons_succ]
      refine lt_take 10 [12, 13, 14] rfl (by kernel_rfl) (by kernel_rfl) (by kernel_rfl) (by kernel_rfl) (by kernel_rfl) (fun _ _ _ h => h) (yi_rowO rfl rfl rfl (fun w hS => rowRangeM hS (.tail _ (.tail _ (.tail _ HT.out.row))) HQ.out) ent_row8) HS.out ?_
      simp only [Act.put, List.setIfInBounds_toArray, List.set_cons_zero, List.set_cons_succ]
      refine lt_take 11 [12, 13, 14] rfl (by kernel_rfl) (by kernel_rfl) (by kernel_rfl) (by kernel_rfl) (by kernel_rfl) (fun _ _ _ h => h) (yi_row rfl rfl rfl (fun w hS => OW.range hS (i := 1) rfl) ent_row8) HS.out ?_
      simp only [Act.put, List.setIfInBounds_toArray, List.set_cons_zero, List.set_cons_succ]
      refine lt_call 12 rfl (by kernel_rfl) rfl rfl ⟨_, Try.func24, by decide, by kernel_rfl⟩ [.agg #[.slice q.A q.e.row.length q.c, .int .i64 q.e.fam, .slice q.B q.e.qual.length q.d, .int .i64 q.e.ts, .int .i64 q.e.seq, .int .i64 q.e.kind, .slice q.D q.e.val.length q.q], .agg #[.slice r.A r.e.row.length r.c, .int .i64 r.e.fam, .slice r.B r.e.qual.length r.d, .int .i64 r.e.ts, .int .i64 r.e.seq, .int .i64 r.e.kind, .slice r.D r.e.val.length r.q]] rfl ?_
      refine (rCompareQ q r _ (HQE.out _ (((HS.out.erase 0).erase 0).erase 0)) (HR.out _ (((HS.out.erase 0).erase 0).erase 0))).mono ?_
      rw [HCV.out]
      rintro rr z9 ⟨rfl, hb⟩
      replace HS := Lib.hid (HS.out.later hb)
      clear hb
      refine ⟨_, rfl, fun _ => HS.out, ?_⟩
      simp only [Act.put, List.setIfInBounds_toArray, List.set_cons_zero, List.set_cons_succ]
      refine lt_pure 13 rfl (by kernel_rfl) (by kernel_rfl) (by kernel_rfl) (by kernel_rfl) (fun _ _ _ h => h) (v := ?_) (yi_run rfl (fun w => ?_)) (fun _ => HS.out) ?_
      rotate_left
      · first | (go_simp; done) | (go_simp; with_reducible rfl)
      simp only [Act.put, List.setIfInBounds_toArray, List.set_cons_zero, List.set_cons_succ]
      refine lt_pure 14 rfl (by kernel_rfl) (by kernel_rfl) (by kernel_rfl) (by kernel_rfl) (fun _ _ _ h => h) (v := ?_) (yi_run rfl (fun w => ?_)) (fun _ => HS.out) ?_
      rotate_left
      · first | (go_simp; done) | (go_simp; with_reducible rfl)
      simp only [Act.put, List.setIfInBounds_toArray, List.set_cons_zero, List.set_cons_succ]
      refine lt_done (by kernel_rfl) ?_
      replace HX := Lib.hid HS.out
      clear HS
      have HIA : Hid (insE L r.e = L.take a ++ r.e :: L.drop a) := Lib.hid (by unfold insE; rw [if_neg (by rw [HHT.out]; exact Bool.noConfusion), ← HN.out, HAN.out])
      have hkmc : n ≤ c := by
        rcases (HX.out.rowm (.tail _ (.tail _ (.tail _ HT.out.row)))).2 with ⟨h1, h2⟩ | ⟨g, cap, _, h1, _, _, h2, _⟩
        · injection h1 with h1; cases h1
        · injection h1 with _ _ h4; omega
      have k6 : c ≠ a := by omega
      have k7 : ¬ a = c := by omega
      have tk1 : True := trivial
      have tk2 : True := trivial
      have tk3 : True := trivial
      go_upto_region 14 with (first
        | (refine wpList_load_cell rfl 28 (.tmp 51) rfl rfl (HX.out.cell (i := 1) (j := 0) rfl rfl) (fun w => Try.isAgg28 w) ?_)
        | (go_at_call 44; (have _t := tk1); go_must (refine (rcopied8 (HR.out _ (((HX.out.erase 0).erase 0).erase 0)).row (by have := HLE.out; omega)).mono ?_); rintro e y1 ⟨A1, d1, rfl, hz⟩; have HY1 : Hid (OW w (boxO br [.slice none 0 0, .bool false] :: boxO be [.slice r.A r.e.row.length r.c, .int .i64 r.e.fam, .slice r.B r.e.qual.length r.d, .int .i64 r.e.ts, .int .i64 r.e.seq, .int .i64 r.e.kind, .slice r.D r.e.val.length r.q] :: boxO bt [.slice (some ⟨mg, 0, none⟩) n c, .bool false] :: (os ++ [bytO 5 (A1, d1, r.e.row)])) y1) := Lib.hid (HX.out.app hz); clear hz HX tk1 _t)
        | (refine wl_put1 rfl (.tmp 54) (.tmp 53) rfl HY1.out 1 rfl 0 rfl (by show 0 < 7; decide) (.slice A1 r.e.row.length d1) rfl (by kernel_rfl) rfl ?_; intro u1 hz _; have HV1 : Hid (OW w (boxO br [.slice none 0 0, .bool false] :: boxO be [.slice A1 r.e.row.length d1, .int .i64 r.e.fam, .slice r.B r.e.qual.length r.d, .int .i64 r.e.ts, .int .i64 r.e.seq, .int .i64 r.e.kind, .slice r.D r.e.val.length r.q] :: boxO bt [.slice (some ⟨mg, 0, none⟩) n c, .bool false] :: (os ++ [bytO 5 (A1, d1, r.e.row)])) u1) := Lib.hid hz; clear hz HY1)
        | (refine wpList_load_cell rfl 28 (.tmp 55) rfl rfl (HV1.out.cell (i := 1) (j := 2) rfl rfl) (fun w => Try.isAgg28 w) ?_)
        | (go_at_call 44; (have _t := tk2); go_must (refine (rcopied8 (HR.out _ (((HV1.out.erase 0).erase 0).erase 0).left).qual (by have := HLE.out; omega)).mono ?_); rintro e y2 ⟨A2, d2, rfl, hz⟩; have HY2 : Hid (OW w (boxO br [.slice none 0 0, .bool false] :: boxO be [.slice A1 r.e.row.length d1, .int .i64 r.e.fam, .slice r.B r.e.qual.length r.d, .int .i64 r.e.ts, .int .i64 r.e.seq, .int .i64 r.e.kind, .slice r.D r.e.val.length r.q] :: boxO bt [.slice (some ⟨mg, 0, none⟩) n c, .bool false] :: ((os ++ [bytO 5 (A1, d1, r.e.row)]) ++ [bytO 5 (A2, d2, r.e.qual)])) y2) := Lib.hid (HV1.out.app hz); clear hz HV1 tk2 _t)
        | (refine wl_put1 rfl (.tmp 58) (.tmp 57) rfl HY2.out 1 rfl 2 rfl (by show 2 < 7; decide) (.slice A2 r.e.qual.length d2) rfl (by kernel_rfl) rfl ?_; intro u2 hz _; have HV2 : Hid (OW w (boxO br [.slice none 0 0, .bool false] :: boxO be [.slice A1 r.e.row.length d1, .int .i64 r.e.fam, .slice A2 r.e.qual.length d2, .int .i64 r.e.ts, .int .i64 r.e.seq, .int .i64 r.e.kind, .slice r.D r.e.val.length r.q] :: boxO bt [.slice (some ⟨mg, 0, none⟩) n c, .bool false] :: ((os ++ [bytO 5 (A1, d1, r.e.row)]) ++ [bytO 5 (A2, d2, r.e.qual)])) u2) := Lib.hid hz; clear hz HY2)
        | (refine wpList_load_cell rfl 28 (.tmp 59) rfl rfl (HV2.out.cell (i := 1) (j := 6) rfl rfl) (fun w => Try.isAgg28 w) ?_)
        | (go_at_call 44; (have _t := tk3); go_must (refine (rcopied8 (HR.out _ (((HV2.out.erase 0).erase 0).erase 0).left.left).val (by have := HLE.out; omega)).mono ?_); rintro e y3 ⟨A3, d3, rfl, hz⟩; have HY3 : Hid (OW w (boxO br [.slice none 0 0, .bool false] :: boxO be [.slice A1 r.e.row.length d1, .int .i64 r.e.fam, .slice A2 r.e.qual.length d2, .int .i64 r.e.ts, .int .i64 r.e.seq, .int .i64 r.e.kind, .slice r.D r.e.val.length r.q] :: boxO bt [.slice (some ⟨mg, 0, none⟩) n c, .bool false] :: (((os ++ [bytO 5 (A1, d1, r.e.row)]) ++ [bytO 5 (A2, d2, r.e.qual)]) ++ [bytO 5 (A3, d3, r.e.val)])) y3) := Lib.hid (HV2.out.app hz); clear hz HV2 tk3 _t)
        | (refine wl_put1 rfl (.tmp 62) (.tmp 61) rfl HY3.out 1 rfl 6 rfl (by show 6 < 7; decide) (.slice A3 r.e.val.length d3) rfl (by kernel_rfl) rfl ?_; intro u3 hz _; have HV3 : Hid (OW w (boxO br [.slice none 0 0, .bool false] :: boxO be [.slice A1 r.e.row.length d1, .int .i64 r.e.fam, .slice A2 r.e.qual.length d2, .int .i64 r.e.ts, .int .i64 r.e.seq, .int .i64 r.e.kind, .slice A3 r.e.val.length d3] :: boxO bt [.slice (some ⟨mg, 0, none⟩) n c, .bool false] :: (((os ++ [bytO 5 (A1, d1, r.e.row)]) ++ [bytO 5 (A2, d2, r.e.qual)]) ++ [bytO 5 (A3, d3, r.e.val)])) u3) := Lib.hid hz; clear hz HY3))
      have HN0 : Hid (OW w (rowO 30 7 (.slice none 0 0) 0 [] :: boxO br [.slice none 0 0, .bool false] :: boxO be [.slice A1 r.e.row.length d1, .int .i64 r.e.fam, .slice A2 r.e.qual.length d2, .int .i64 r.e.ts, .int .i64 r.e.seq, .int .i64 r.e.kind, .slice A3 r.e.val.length d3] :: boxO bt [.slice (some ⟨mg, 0, none⟩) n c, .bool false] :: (((os ++ [bytO 5 (A1, d1, r.e.row)]) ++ [bytO 5 (A2, d2, r.e.qual)]) ++ [bytO 5 (A3, d3, r.e.val)])) _) := Lib.hid ((HV3.out.nilRow 30 7).perm List.perm_append_comm)
      clear HV3
      have tk4 : True := trivial
      have tk5 : True := trivial
      have tk6 : True := trivial
      have tk7 : True := trivial
      go_wp2_with (first
        | (refine wpList_load_cell rfl 22 (.tmp 64) rfl rfl (HN0.out.cell (i := 3) (j := 0) rfl rfl) (fun w => Try.isAgg22 w) ?_)
        | (at_builtin; have _t := tk4; go_must (refine wl_append rfl (.tmp 63) (.tmp 67) rfl entsS8 HN0.out 0 rfl rfl _ ((some ⟨mg, 0, none⟩)) a c ((rs.flatMap ER.cells).take (a * 7)) rfl ((Reads.own (HN0.out.rowm (.tail _ (.tail _ (.tail _ (.tail _ (List.mem_append_left _ (List.mem_append_left _ (List.mem_append_left _ HT.out.row))))))))).take (by omega)) (fun u hu => cellsR_one (List.mem_of_mem_take hu)) (by unfold maxLen; omega) (by omega) ?_); intro A4 c4 z1 hz _; rw [Nat.zero_add] at hz; rw [Nat.zero_add]; have HN1 : Hid (OW w (rowO 30 7 (.slice A4 a c4) a ((rs.take a).flatMap ER.cells) :: boxO br [.slice none 0 0, .bool false] :: boxO be [.slice A1 r.e.row.length d1, .int .i64 r.e.fam, .slice A2 r.e.qual.length d2, .int .i64 r.e.ts, .int .i64 r.e.seq, .int .i64 r.e.kind, .slice A3 r.e.val.length d3] :: boxO bt [.slice (some ⟨mg, 0, none⟩) n c, .bool false] :: (((os ++ [bytO 5 (A1, d1, r.e.row)]) ++ [bytO 5 (A2, d2, r.e.qual)]) ++ [bytO 5 (A3, d3, r.e.val)])) z1) := Lib.hid (by rw [← flat7_take]; exact hz); clear hz HN0 tk4 _t)
        | (have _t := tk5; refine wpList_load_row7 rfl 30 (.tmp 3) rfl rfl (HN1.out.range (i := 2) rfl) ent_row8 ?_; clear tk5 _t)
        | (refine wl_build rfl #[(0, .tmp 70)] rfl #[.slice A1 r.e.row.length d1, .int .i64 r.e.fam, .slice A2 r.e.qual.length d2, .int .i64 r.e.ts, .int .i64 r.e.seq, .int .i64 r.e.kind, .slice A3 r.e.val.length d3] entsS8 (.agg #[.slice none 0 0, .int .i64 0, .slice none 0 0, .int .i64 0, .int .i64 0, .int .i64 0, .slice none 0 0]) (by kernel_rfl) (by decide) (by decide) (by decide) rfl (by kernel_rfl) HN1.out ?_; intro g5 z5 hz _; have HN5 : Hid (OW w (rowO 30 7 (.slice (some ⟨g5, 0, none⟩) 1 1) 1 [.slice A1 r.e.row.length d1, .int .i64 r.e.fam, .slice A2 r.e.qual.length d2, .int .i64 r.e.ts, .int .i64 r.e.seq, .int .i64 r.e.kind, .slice A3 r.e.val.length d3] :: rowO 30 7 (.slice A4 a c4) a ((rs.take a).flatMap ER.cells) :: boxO br [.slice none 0 0, .bool false] :: boxO be [.slice A1 r.e.row.length d1, .int .i64 r.e.fam, .slice A2 r.e.qual.length d2, .int .i64 r.e.ts, .int .i64 r.e.seq, .int .i64 r.e.kind, .slice A3 r.e.val.length d3] :: boxO bt [.slice (some ⟨mg, 0, none⟩) n c, .bool false] :: (((os ++ [bytO 5 (A1, d1, r.e.row)]) ++ [bytO 5 (A2, d2, r.e.qual)]) ++ [bytO 5 (A3, d3, r.e.val)])) z5) := Lib.hid (hz.perm List.perm_append_comm); clear hz HN1)
        | (at_builtin; have _t := tk6; go_must (refine wl_append rfl (.tmp 69) (.tmp 71) rfl entsS8 HN5.out 1 rfl rfl _ (some ⟨g5, 0, none⟩) 1 1 [.slice A1 r.e.row.length d1, .int .i64 r.e.fam, .slice A2 r.e.qual.length d2, .int .i64 r.e.ts, .int .i64 r.e.seq, .int .i64 r.e.kind, .slice A3 r.e.val.length d3] rfl (Reads.own (HN5.out.row (i := 0) rfl)) (by simp [Value.oneCell']) (by unfold maxLen; omega) (by omega) ?_); intro A5 c5 z6 hz _; have HN6 : Hid (OW w (rowO 30 7 (.slice A5 (a + 1) c5) (a + 1) ((rs.take a).flatMap ER.cells ++ [.slice A1 r.e.row.length d1, .int .i64 r.e.fam, .slice A2 r.e.qual.length d2, .int .i64 r.e.ts, .int .i64 r.e.seq, .int .i64 r.e.kind, .slice A3 r.e.val.length d3]) :: boxO br [.slice none 0 0, .bool false] :: boxO be [.slice A1 r.e.row.length d1, .int .i64 r.e.fam, .slice A2 r.e.qual.length d2, .int .i64 r.e.ts, .int .i64 r.e.seq, .int .i64 r.e.kind, .slice A3 r.e.val.length d3] :: boxO bt [.slice (some ⟨mg, 0, none⟩) n c, .bool false] :: (((os ++ [bytO 5 (A1, d1, r.e.row)]) ++ [bytO 5 (A2, d2, r.e.qual)]) ++ [bytO 5 (A3, d3, r.e.val)])) z6) := Lib.hid (hz.erase 0); clear hz HN5 tk6 _t)
        | (refine wpList_load_cell rfl 22 (.tmp 74) rfl rfl (HN6.out.cell (i := 3) (j := 0) rfl rfl) (fun w => Try.isAgg22 w) ?_)
        | (at_builtin; go_must (refine wl_append rfl (.tmp 73) (.tmp 77) rfl entsS8 HN6.out 0 rfl rfl _ (some ⟨mg, a * 7, none⟩) (n - a) (c - a) ((rs.flatMap ER.cells).drop (a * 7)) rfl (reads_dropR (Reads.own (HN6.out.rowm (.tail _ (.tail _ (.tail _ (.tail _ (List.mem_append_left _ (List.mem_append_left _ (List.mem_append_left _ HT.out.row))))))))) (by omega)) (fun u hu => cellsR_one (List.mem_of_mem_drop hu)) (by unfold maxLen; omega) (by omega) ?_); intro A6 c6 z7 hz _; have HN7 : Hid (OW w (rowO 30 7 (.slice A6 (a + 1 + (n - a)) c6) (a + 1 + (n - a)) ((rs.take a).flatMap ER.cells ++ [.slice A1 r.e.row.length d1, .int .i64 r.e.fam, .slice A2 r.e.qual.length d2, .int .i64 r.e.ts, .int .i64 r.e.seq, .int .i64 r.e.kind, .slice A3 r.e.val.length d3] ++ (rs.flatMap ER.cells).drop (a * 7)) :: boxO br [.slice none 0 0, .bool false] :: boxO be [.slice A1 r.e.row.length d1, .int .i64 r.e.fam, .slice A2 r.e.qual.length d2, .int .i64 r.e.ts, .int .i64 r.e.seq, .int .i64 r.e.kind, .slice A3 r.e.val.length d3] :: boxO bt [.slice (some ⟨mg, 0, none⟩) n c, .bool false] :: (((os ++ [bytO 5 (A1, d1, r.e.row)]) ++ [bytO 5 (A2, d2, r.e.qual)]) ++ [bytO 5 (A3, d3, r.e.val)])) z7) := Lib.hid hz; clear hz HN6)
        | (refine wl_put1 rfl (.tmp 80) (.tmp 79) rfl HN7.out 3 rfl 0 rfl (by show 0 < 2; decide) (.slice A6 (a + 1 + (n - a)) c6) rfl (by kernel_rfl) rfl ?_; intro z8 hz _; have HN8 : Hid (OW w (rowO 30 7 (.slice A6 (a + 1 + (n - a)) c6) (a + 1 + (n - a)) ((rs.take a).flatMap ER.cells ++ [.slice A1 r.e.row.length d1, .int .i64 r.e.fam, .slice A2 r.e.qual.length d2, .int .i64 r.e.ts, .int .i64 r.e.seq, .int .i64 r.e.kind, .slice A3 r.e.val.length d3] ++ (rs.flatMap ER.cells).drop (a * 7)) :: boxO br [.slice none 0 0, .bool false] :: boxO be [.slice A1 r.e.row.length d1, .int .i64 r.e.fam, .slice A2 r.e.qual.length d2, .int .i64 r.e.ts, .int .i64 r.e.seq, .int .i64 r.e.kind, .slice A3 r.e.val.length d3] :: boxO bt [.slice A6 (a + 1 + (n - a)) c6, .bool false] :: (((os ++ [bytO 5 (A1, d1, r.e.row)]) ++ [bytO 5 (A2, d2, r.e.qual)]) ++ [bytO 5 (A3, d3, r.e.val)])) z8) := Lib.hid hz; clear hz HN7)
        | (refine wpList_load_row7 rfl 39 (.tmp 2) rfl rfl (HN8.out.range (i := 3) rfl) tabR_row ?_)
        | (refine wl_put rfl (.tmp 4) (.tmp 81) rfl HN8.out 1 rfl rfl [.slice A6 (a + 1 + (n - a)) c6, .bool false] rfl rfl (by kernel_rfl) (by simp [Value.oneCell']) ?_; intro z9 hz _; have HN9 : Hid (OW w (rowO 30 7 (.slice A6 (a + 1 + (n - a)) c6) (a + 1 + (n - a)) ((rs.take a).flatMap ER.cells ++ [.slice A1 r.e.row.length d1, .int .i64 r.e.fam, .slice A2 r.e.qual.length d2, .int .i64 r.e.ts, .int .i64 r.e.seq, .int .i64 r.e.kind, .slice A3 r.e.val.length d3] ++ (rs.flatMap ER.cells).drop (a * 7)) :: boxO br [.slice A6 (a + 1 + (n - a)) c6, .bool false] :: boxO be [.slice A1 r.e.row.length d1, .int .i64 r.e.fam, .slice A2 r.e.qual.length d2, .int .i64 r.e.ts, .int .i64 r.e.seq, .int .i64 r.e.kind, .slice A3 r.e.val.length d3] :: boxO bt [.slice A6 (a + 1 + (n - a)) c6, .bool false] :: (((os ++ [bytO 5 (A1, d1, r.e.row)]) ++ [bytO 5 (A2, d2, r.e.qual)]) ++ [bytO 5 (A3, d3, r.e.val)])) z9) := Lib.hid hz; clear hz HN8))
      refine bodyPost_ret (results_rowL1 rfl _ _ br [.slice A6 (a + 1 + (n - a)) c6, .bool false] rfl (HN9.out.range (i := 1) rfl) (by kernel_rfl) (by kernel_rfl)) rfl ?_
      have e1 : (rs.take a ++ (⟨A1, d1, A2, d2, A3, d3, r.e⟩ : ER) :: rs.drop a).flatMap ER.cells = (rs.take a).flatMap ER.cells ++ [.slice A1 r.e.row.length d1, .int .i64 r.e.fam, .slice A2 r.e.qual.length d2, .int .i64 r.e.ts, .int .i64 r.e.seq, .int .i64 r.e.kind, .slice A3 r.e.val.length d3] ++ ((rs.flatMap ER.cells).drop (a * 7)) := by
        rw [List.flatMap_append, List.flatMap_cons, List.append_assoc]
        rw [flat7_dropR]; rfl
      have HOW : Hid (OW w (rowO 30 7 (.slice A6 (a + 1 + (n - a)) c6) (a + 1 + (n - a)) ((rs.take a).flatMap ER.cells ++ [.slice A1 r.e.row.length d1, .int .i64 r.e.fam, .slice A2 r.e.qual.length d2, .int .i64 r.e.ts, .int .i64 r.e.seq, .int .i64 r.e.kind, .slice A3 r.e.val.length d3] ++ (rs.flatMap ER.cells).drop (a * 7)) :: (((os ++ [bytO 5 (A1, d1, r.e.row)]) ++ [bytO 5 (A2, d2, r.e.qual)]) ++ [bytO 5 (A3, d3, r.e.val)])) z9) := Lib.hid (((HN9.out.erase 1).erase 1).erase 1)
      refine ⟨A6, a + 1 + (n - a), c6, rs.take a ++ (⟨A1, d1, A2, d2, A3, d3, r.e⟩ : ER) :: rs.drop a, [rowO 30 7 (.slice A6 (a + 1 + (n - a)) c6) (a + 1 + (n - a)) ((rs.take a ++ (⟨A1, d1, A2, d2, A3, d3, r.e⟩ : ER) :: rs.drop a).flatMap ER.cells), bytO 5 (A1, d1, r.e.row), bytO 5 (A2, d2, r.e.qual), bytO 5 (A3, d3, r.e.val)], ?_, ?_, ?_⟩
      · rw [addE_new HCK.out HHT.out]; rfl
      · rw [e1]
        exact HOW.out.perm (by (refine perm_of_cnt fun a => ?_; (first | ((repeat (first | rw [cntO_app] | rw [cntO_cons] | rw [cntO_nil])) <;> omega) | ((simp only [cntO_app, cntO_cons, cntO_nil]) <;> omega))))
      · rw [addE_new HCK.out HHT.out]
        refine ⟨List.mem_append_right _ (.head _), ?_, fun x hx => ?_⟩
        · show _ = insE L r.e
          rw [HIA.out, List.map_append, List.map_cons, List.map_take, List.map_drop, HT.out.e]
        · rcases List.mem_append.1 hx with h1 | h1
          · exact (HTM.out.en x (List.mem_of_mem_take h1)).more fun _ ho => List.mem_append_left _ ho
          · rcases List.mem_cons.1 h1 with rfl | h1
            · exact ⟨slIn_byt (List.mem_append_right _ (.tail _ (.head _))) rfl, slIn_byt (List.mem_append_right _ (.tail _ (.tail _ (.head _)))) rfl, slIn_byt (List.mem_append_right _ (.tail _ (.tail _ (.tail _ (.head _))))) rfl⟩
            · exact (HTM.out.en x (List.mem_of_mem_drop h1)).more fun _ ho => List.mem_append_left _ ho
    have hak2 : a = n := by omega
    have HAN : Hid (a = N) := Lib.hid (by omega)
    have HHT : Hid (hitB L r.e = false) := Lib.hid (by
      unfold hitB
      rw [← HN.out, ← HAN.out, List.getElem?_eq_none (by have := HLL.out; omega)])
    have HIA : Hid (insE L r.e = L.take a ++ r.e :: L.drop a) := Lib.hid (by unfold insE; rw [if_neg (by rw [HHT.out]; exact Bool.noConfusion), ← HN.out, HAN.out])
    subst hak2
    have hda : decide ((a : Int) < (a : Int)) = false := decide_eq_false (by omega)
    have hda2 : ¬ a < a := by omega
    by_cases hmc : c = a
    · subst hmc
      go_wp2_with fail
      refine lt_start [] (by kernel_rfl) ?_
      intro xd hd
      refine ⟨fun z => OW w (boxO br [.slice none 0 0, .bool false] :: boxO be [.slice r.A r.e.row.length r.c, .int .i64 r.e.fam, .slice r.B r.e.qual.length r.d, .int .i64 r.e.ts, .int .i64 r.e.seq, .int .i64 r.e.kind, .slice r.D r.e.val.length r.q] :: boxO bt [.slice A c c, .bool false] :: os) z, ?_⟩
      have HS := Lib.hid (HX.out.later hd)
      refine lt_pure 0 rfl (by kernel_rfl) (by kernel_rfl) (by kernel_rfl) (by kernel_rfl) (fun _ _ _ h => h) (v := ?_) (yi_run rfl (fun w => ?_)) (fun _ => HS.out) ?_
      rotate_left
      · first | (go_simp; done) | (go_simp; with_reducible rfl)
      simp only [Act.put, List.setIfInBounds_toArray, List.set_cons_zero, List.set_cons_succ]
      refine lt_pure 1 rfl (by kernel_rfl) (by kernel_rfl) (by kernel_rfl) (by kernel_rfl) (fun _ _ _ h => h) (v := ?_) (yi_run rfl (fun w => ?_)) (fun _ => HS.out) ?_
      rotate_left
      · first | (go_simp; done) | (go_simp; with_reducible rfl)
      simp only [Act.put, List.setIfInBounds_toArray, List.set_cons_zero, List.set_cons_succ]
      refine lt_take 2 [3, 4, 5, 6, 7, 8, 9, 10, 11, 12, 13, 14] rfl (by kernel_rfl) (by kernel_rfl) (by kernel_rfl) (by kernel_rfl) (by kernel_rfl) (fun _ _ _ h => h) (yi_cell rfl rfl rfl (fun w hS => OW.cell hS (i := 2) (j := 0) rfl rfl) (fun w => Try.isAgg22 w)) HS.out ?_
      simp only [Act.put, List.setIfInBounds_toArray, List.set_cons_zero, List.set_cons_succ]
      refine lt_pure 3 rfl (by kernel_rfl) (by kernel_rfl) (by kernel_rfl) (by kernel_rfl) (fun _ _ _ h => h) (v := ?_) (yi_run rfl (fun w => ?_)) (fun _ => HS.out) ?_
      rotate_left
      · first | (go_simp; done) | (go_simp; with_reducible rfl)
      simp only [Act.put, List.setIfInBounds_toArray, List.set_cons_zero, List.set_cons_succ]
      refine lt_pure 4 rfl (by kernel_rfl) (by kernel_rfl) (by kernel_rfl) (by kernel_rfl) (fun _ _ _ h => h) (v := ?_) (yi_run rfl (fun w => ?_)) (fun _ => HS.out) ?_
      rotate_left
      · first | (go_simp; done) | (go_simp; with_reducible rfl)
      simp only [Act.put, List.setIfInBounds_toArray, List.set_cons_zero, List.set_cons_succ]
      refine lt_pure 5 rfl (by kernel_rfl) (by kernel_rfl) (by kernel_rfl) (by kernel_rfl) (fun _ _ _ h => h) (v := ?_) (yi_run rfl (fun w => ?_)) (fun _ => HS.out) ?_
      rotate_left
      · first | (go_simp; done) | (go_simp; with_reducible rfl)
      simp only [Act.put, List.setIfInBounds_toArray, List.set_cons_zero, List.set_cons_succ]
      refine lt_skip 6 rfl (by kernel_rfl) (by kernel_rfl) (by kernel_rfl) (by kernel_rfl) (fun _ _ _ h => h) rfl (fun _ => HS.out) ?_
      simp only [Act.put, List.setIfInBounds_toArray, List.set_cons_zero, List.set_cons_succ]
      refine lt_skip 7 rfl (by kernel_rfl) (by kernel_rfl) (by kernel_rfl) (by kernel_rfl) (fun _ _ _ h => h) rfl (fun _ => HS.out) ?_
      simp only [Act.put, List.setIfInBounds_toArray, List.set_cons_zero, List.set_cons_succ]
      refine lt_skip 8 rfl (by kernel_rfl) (by kernel_rfl) (by kernel_rfl) (by kernel_rfl) (fun _ _ _ h => h) rfl (fun _ => HS.out) ?_
      simp only [Act.put, List.setIfInBounds_toArray, List.set_cons_zero, List.set_cons_succ]
      refine lt_skip 9 rfl (by kernel_rfl) (by kernel_rfl) (by kernel_rfl) (by kernel_rfl) (fun _ _ _ h => h) rfl (fun _ => HS.out) ?_
      simp only [Act.put, List.setIfInBounds_toArray, List.set_cons_zero, List.set_cons_succ]
      refine lt_skip 10 rfl (by kernel_rfl) (by kernel_rfl) (by kernel_rfl) (by kernel_rfl) (fun _ _ _ h => h) rfl (fun _ => HS.out) ?_
      simp only [Act.put, List.setIfInBounds_toArray, List.set_cons_zero, List.set_cons_succ]
      refine lt_skip 11 rfl (by kernel_rfl) (by kernel_rfl) (by kernel_rfl) (by kernel_rfl) (fun _ _ _ h => h) rfl (fun _ => HS.out) ?_
      simp only [Act.put, List.setIfInBounds_toArray, List.set_cons_zero, List.set_cons_succ]
      refine lt_skip 12 rfl (by kernel_rfl) (by kernel_rfl) (by kernel_rfl) (by kernel_rfl) (fun _ _ _ h => h) rfl (fun _ => HS.out) ?_
      simp only [Act.put, List.setIfInBounds_toArray, List.set_cons_zero, List.set_cons_succ]
      refine lt_skip 13 rfl (by kernel_rfl) (by kernel_rfl) (by kernel_rfl) (by kernel_rfl) (fun _ _ _ h => h) rfl (fun _ => HS.out) ?_
      simp only [Act.put, List.setIfInBounds_toArray, List.set_cons_zero, List.set_cons_succ]
      refine lt_pure 14 rfl (by kernel_rfl) (by kernel_rfl) (by kernel_rfl) (by kernel_rfl) (fun _ _ _ h => h) (v := ?_) (yi_run rfl (fun w => ?_)) (fun _ => HS.out) ?_
      rotate_left
      · first | (go_simp; done) | (go_simp; with_reducible rfl)
      simp only [Act.put, List.setIfInBounds_toArray, List.set_cons_zero, List.set_cons_succ]
      refine lt_done (by kernel_rfl) ?_
      replace HX := Lib.hid HS.out
      clear HS
      go_wp2_with fail
      refine lt_start [] (by kernel_rfl) ?_
      intro xd hd
      refine ⟨fun z => OW w (boxO br [.slice none 0 0, .bool false] :: boxO be [.slice r.A r.e.row.length r.c, .int .i64 r.e.fam, .slice r.B r.e.qual.length r.d, .int .i64 r.e.ts, .int .i64 r.e.seq, .int .i64 r.e.kind, .slice r.D r.e.val.length r.q] :: boxO bt [.slice A c c, .bool false] :: os) z, ?_⟩
      have HS := Lib.hid (HX.out.later hd)
      refine lt_pure 0 rfl (by kernel_rfl) (by kernel_rfl) (by kernel_rfl) (by kernel_rfl) (fun _ _ _ h => h) (v := ?_) (yi_run rfl (fun w => ?_)) (fun _ => HS.out) ?_
      rotate_left
      · first | (go_simp; done) | (go_simp; with_reducible rfl)
      simp only [Act.put, List.setIfInBounds_toArray, List.set_cons_zero, List.set_cons_succ]
      refine lt_pure 1 rfl (by kernel_rfl) (by kernel_rfl) (by kernel_rfl) (by kernel_rfl) (fun _ _ _ h => h) (v := ?_) (yi_run rfl (fun w => ?_)) (fun _ => HS.out) ?_
      rotate_left
      · first | (go_simp; done) | (go_simp; with_reducible rfl)
      simp only [Act.put, List.setIfInBounds_toArray, List.set_cons_zero, List.set_cons_succ]
      refine lt_take 2 [3, 4, 5, 6, 7, 8, 9, 10, 11, 12, 13, 14] rfl (by kernel_rfl) (by kernel_rfl) (by kernel_rfl) (by kernel_rfl) (by kernel_rfl) (fun _ _ _ h => h) (yi_cell rfl rfl rfl (fun w hS => OW.cell hS (i := 2) (j := 0) rfl rfl) (fun w => Try.isAgg22 w)) HS.out ?_
      simp only [Act.put, List.setIfInBounds_toArray, List.set_cons_zero, List.set_cons_succ]
      refine lt_pure 3 rfl (by kernel_rfl) (by kernel_rfl) (by kernel_rfl) (by kernel_rfl) (fun _ _ _ h => h) (v := ?_) (yi_run rfl (fun w => ?_)) (fun _ => HS.out) ?_
      rotate_left
      · first | (go_simp; done) | (go_simp; with_reducible rfl)
      simp only [Act.put, List.setIfInBounds_toArray, List.set_cons_zero, List.set_cons_succ]
      refine lt_pure 4 rfl (by kernel_rfl) (by kernel_rfl) (by kernel_rfl) (by kernel_rfl) (fun _ _ _ h => h) (v := ?_) (yi_run rfl (fun w => ?_)) (fun _ => HS.out) ?_
      rotate_left
      · first | (go_simp; done) | (go_simp; with_reducible rfl)
      simp only [Act.put, List.setIfInBounds_toArray, List.set_cons_zero, List.set_cons_succ]
      refine lt_pure 5 rfl (by kernel_rfl) (by kernel_rfl) (by kernel_rfl) (by kernel_rfl) (fun _ _ _ h => h) (v := ?_) (yi_run rfl (fun w => ?_)) (fun _ => HS.out) ?_
      rotate_left
      · first | (go_simp; done) | (go_simp; with_reducible rfl)
      simp only [Act.put, List.setIfInBounds_toArray, List.set_cons_zero, List.set_cons_succ]
      refine lt_skip 6 rfl (by kernel_rfl) (by kernel_rfl) (by kernel_rfl) (by kernel_rfl) (fun _ _ _ h => h) rfl (fun _ => HS.out) ?_
      simp only [Act.put, List.setIfInBounds_toArray, List.set_cons_zero, List.set_cons_succ]
      refine lt_skip 7 rfl (by kernel_rfl) (by kernel_rfl) (by kernel_rfl) (by kernel_rfl) (fun _ _ _ h => h) rfl (fun _ => HS.out) ?_
      simp only [Act.put, List.setIfInBounds_toArray, List.set_cons_zero, List.set_cons_succ]
      refine lt_skip 8 rfl (by kernel_rfl) (by kernel_rfl) (by kernel_rfl) (by kernel_rfl) (fun _ _ _ h => h) rfl (fun _ => HS.out) ?_
      simp only [Act.put, List.setIfInBounds_toArray, List.set_cons_zero, List.set_cons_succ]
      refine lt_skip 9 rfl (by kernel_rfl) (by kernel_rfl) (by kernel_rfl) (by kernel_rfl) (fun _ _ _ h => h) rfl (fun _ => HS.out) ?_
      simp only [Act.put, List.setIfInBounds_toArray, List.set_cons_zero, List.set_cons_succ]
      refine lt_skip 10 rfl (by kernel_rfl) (by kernel_rfl) (by kernel_rfl) (by kernel_rfl) (fun _ _ _ h => h) rfl (fun _ => HS.out) ?_
      simp only [Act.put, List.setIfInBounds_toArray, List.set_cons_zero, List.set_cons_succ]
      refine lt_skip 11 rfl (by kernel_rfl) (by kernel_rfl) (by kernel_rfl) (by kernel_rfl) (fun _ _ _ h => h) rfl (fun _ => HS.out) ?_
      simp only [Act.put, List.setIfInBounds_toArray, List.set_cons_zero, List.set_cons_succ]
      refine lt_skip 12 rfl (by kernel_rfl) (by kernel_rfl) (by kernel_rfl) (by kernel_rfl) (fun _ _ _ h => h) rfl (fun _ => HS.out) ?_
      simp only [Act.put, List.setIfInBounds_toArray, List.set_cons_zero, List.set_cons_succ]
      refine lt_skip 13 rfl (by kernel_rfl) (by kernel_rfl) (by kernel_rfl) (by kernel_rfl) (fun _ _ _ h => h) rfl (fun _ => HS.out) ?_
      simp only [Act.put, List.setIfInBounds_toArray, List.set_cons_zero, List.set_cons_succ]
      refine lt_pure 14 rfl (by kernel_rfl) (by kernel_rfl) (by kernel_rfl) (by kernel_rfl) (fun _ _ _ h => h) (v := ?_) (yi_run rfl (fun w => ?_)) (fun _ => HS.out) ?_
      rotate_left
      · first | (go_simp; done) | (go_simp; with_reducible rfl)
      simp only [Act.put, List.setIfInBounds_toArray, List.set_cons_zero, List.set_cons_succ]
      refine lt_done (by kernel_rfl) ?_
      replace HX := Lib.hid HS.out
      clear HS
      have tk1 : True := trivial
      have tk2 : True := trivial
      have tk3 : True := trivial
      go_upto_region 14 with (first
        | (refine wpList_load_cell rfl 28 (.tmp 51) rfl rfl (HX.out.cell (i := 1) (j := 0) rfl rfl) (fun w => Try.isAgg28 w) ?_)
        | (go_at_call 44; (have _t := tk1); go_must (refine (rcopied8 (HR.out _ (((HX.out.erase 0).erase 0).erase 0)).row (by have := HLE.out; omega)).mono ?_); rintro e y1 ⟨A1, d1, rfl, hz⟩; have HY1 : Hid (OW w (boxO br [.slice none 0 0, .bool false] :: boxO be [.slice r.A r.e.row.length r.c, .int .i64 r.e.fam, .slice r.B r.e.qual.length r.d, .int .i64 r.e.ts, .int .i64 r.e.seq, .int .i64 r.e.kind, .slice r.D r.e.val.length r.q] :: boxO bt [.slice A c c, .bool false] :: (os ++ [bytO 5 (A1, d1, r.e.row)])) y1) := Lib.hid (HX.out.app hz); clear hz HX tk1 _t)
        | (refine wl_put1 rfl (.tmp 54) (.tmp 53) rfl HY1.out 1 rfl 0 rfl (by show 0 < 7; decide) (.slice A1 r.e.row.length d1) rfl (by kernel_rfl) rfl ?_; intro u1 hz _; have HV1 : Hid (OW w (boxO br [.slice none 0 0, .bool false] :: boxO be [.slice A1 r.e.row.length d1, .int .i64 r.e.fam, .slice r.B r.e.qual.length r.d, .int .i64 r.e.ts, .int .i64 r.e.seq, .int .i64 r.e.kind, .slice r.D r.e.val.length r.q] :: boxO bt [.slice A c c, .bool false] :: (os ++ [bytO 5 (A1, d1, r.e.row)])) u1) := Lib.hid hz; clear hz HY1)
        | (refine wpList_load_cell rfl 28 (.tmp 55) rfl rfl (HV1.out.cell (i := 1) (j := 2) rfl rfl) (fun w => Try.isAgg28 w) ?_)
        | (go_at_call 44; (have _t := tk2); go_must (refine (rcopied8 (HR.out _ (((HV1.out.erase 0).erase 0).erase 0).left).qual (by have := HLE.out; omega)).mono ?_); rintro e y2 ⟨A2, d2, rfl, hz⟩; have HY2 : Hid (OW w (boxO br [.slice none 0 0, .bool false] :: boxO be [.slice A1 r.e.row.length d1, .int .i64 r.e.fam, .slice r.B r.e.qual.length r.d, .int .i64 r.e.ts, .int .i64 r.e.seq, .int .i64 r.e.kind, .slice r.D r.e.val.length r.q] :: boxO bt [.slice A c c, .bool false] :: ((os ++ [bytO 5 (A1, d1, r.e.row)]) ++ [bytO 5 (A2, d2, r.e.qual)])) y2) := Lib.hid (HV1.out.app hz); clear hz HV1 tk2 _t)
        | (refine wl_put1 rfl (.tmp 58) (.tmp 57) rfl HY2.out 1 rfl 2 rfl (by show 2 < 7; decide) (.slice A2 r.e.qual.length d2) rfl (by kernel_rfl) rfl ?_; intro u2 hz _; have HV2 : Hid (OW w (boxO br [.slice none 0 0, .bool false] :: boxO be [.slice A1 r.e.row.length d1, .int .i64 r.e.fam, .slice A2 r.e.qual.length d2, .int .i64 r.e.ts, .int .i64 r.e.seq, .int .i64 r.e.kind, .slice r.D r.e.val.length r.q] :: boxO bt [.slice A c c, .bool false] :: ((os ++ [bytO 5 (A1, d1, r.e.row)]) ++ [bytO 5 (A2, d2, r.e.qual)])) u2) := Lib.hid hz; clear hz HY2)
        | (refine wpList_load_cell rfl 28 (.tmp 59) rfl rfl (HV2.out.cell (i := 1) (j := 6) rfl rfl) (fun w => Try.isAgg28 w) ?_)
        | (go_at_call 44; (have _t := tk3); go_must (refine (rcopied8 (HR.out _ (((HV2.out.erase 0).erase 0).erase 0).left.left).val (by have := HLE.out; omega)).mono ?_); rintro e y3 ⟨A3, d3, rfl, hz⟩; have HY3 : Hid (OW w (boxO br [.slice none 0 0, .bool false] :: boxO be [.slice A1 r.e.row.length d1, .int .i64 r.e.fam, .slice A2 r.e.qual.length d2, .int .i64 r.e.ts, .int .i64 r.e.seq, .int .i64 r.e.kind, .slice r.D r.e.val.length r.q] :: boxO bt [.slice A c c, .bool false] :: (((os ++ [bytO 5 (A1, d1, r.e.row)]) ++ [bytO 5 (A2, d2, r.e.qual)]) ++ [bytO 5 (A3, d3, r.e.val)])) y3) := Lib.hid (HV2.out.app hz); clear hz HV2 tk3 _t)
        | (refine wl_put1 rfl (.tmp 62) (.tmp 61) rfl HY3.out 1 rfl 6 rfl (by show 6 < 7; decide) (.slice A3 r.e.val.length d3) rfl (by kernel_rfl) rfl ?_; intro u3 hz _; have HV3 : Hid (OW w (boxO br [.slice none 0 0, .bool false] :: boxO be [.slice A1 r.e.row.length d1, .int .i64 r.e.fam, .slice A2 r.e.qual.length d2, .int .i64 r.e.ts, .int .i64 r.e.seq, .int .i64 r.e.kind, .slice A3 r.e.val.length d3] :: boxO bt [.slice A c c, .bool false] :: (((os ++ [bytO 5 (A1, d1, r.e.row)]) ++ [bytO 5 (A2, d2, r.e.qual)]) ++ [bytO 5 (A3, d3, r.e.val)])) u3) := Lib.hid hz; clear hz HY3))
      have HN0 : Hid (OW w (rowO 30 7 (.slice none 0 0) 0 [] :: boxO br [.slice none 0 0, .bool false] :: boxO be [.slice A1 r.e.row.length d1, .int .i64 r.e.fam, .slice A2 r.e.qual.length d2, .int .i64 r.e.ts, .int .i64 r.e.seq, .int .i64 r.e.kind, .slice A3 r.e.val.length d3] :: boxO bt [.slice A c c, .bool false] :: (((os ++ [bytO 5 (A1, d1, r.e.row)]) ++ [bytO 5 (A2, d2, r.e.qual)]) ++ [bytO 5 (A3, d3, r.e.val)])) _) := Lib.hid ((HV3.out.nilRow 30 7).perm List.perm_append_comm)
      clear HV3
      have tk4 : True := trivial
      have tk5 : True := trivial
      have tk6 : True := trivial
      have tk7 : True := trivial
      go_wp2_with (first
        | (refine wpList_load_cell rfl 22 (.tmp 64) rfl rfl (HN0.out.cell (i := 3) (j := 0) rfl rfl) (fun w => Try.isAgg22 w) ?_)
        | (at_builtin; have _t := tk4; go_must (refine wl_append rfl (.tmp 63) (.tmp 67) rfl entsS8 HN0.out 0 rfl rfl _ (A) c c ((rs.flatMap ER.cells).take (c * 7)) rfl ((Reads.own (HN0.out.rowm (.tail _ (.tail _ (.tail _ (.tail _ (List.mem_append_left _ (List.mem_append_left _ (List.mem_append_left _ HT.out.row))))))))).take (by omega)) (fun u hu => cellsR_one (List.mem_of_mem_take hu)) (by unfold maxLen; omega) (by omega) ?_); intro A4 c4 z1 hz _; rw [Nat.zero_add] at hz; rw [Nat.zero_add]; have HN1 : Hid (OW w (rowO 30 7 (.slice A4 c c4) c ((rs.take c).flatMap ER.cells) :: boxO br [.slice none 0 0, .bool false] :: boxO be [.slice A1 r.e.row.length d1, .int .i64 r.e.fam, .slice A2 r.e.qual.length d2, .int .i64 r.e.ts, .int .i64 r.e.seq, .int .i64 r.e.kind, .slice A3 r.e.val.length d3] :: boxO bt [.slice A c c, .bool false] :: (((os ++ [bytO 5 (A1, d1, r.e.row)]) ++ [bytO 5 (A2, d2, r.e.qual)]) ++ [bytO 5 (A3, d3, r.e.val)])) z1) := Lib.hid (by rw [← flat7_take]; exact hz); clear hz HN0 tk4 _t)
        | (have _t := tk5; refine wpList_load_row7 rfl 30 (.tmp 3) rfl rfl (HN1.out.range (i := 2) rfl) ent_row8 ?_; clear tk5 _t)
        | (refine wl_build rfl #[(0, .tmp 70)] rfl #[.slice A1 r.e.row.length d1, .int .i64 r.e.fam, .slice A2 r.e.qual.length d2, .int .i64 r.e.ts, .int .i64 r.e.seq, .int .i64 r.e.kind, .slice A3 r.e.val.length d3] entsS8 (.agg #[.slice none 0 0, .int .i64 0, .slice none 0 0, .int .i64 0, .int .i64 0, .int .i64 0, .slice none 0 0]) (by kernel_rfl) (by decide) (by decide) (by decide) rfl (by kernel_rfl) HN1.out ?_; intro g5 z5 hz _; have HN5 : Hid (OW w (rowO 30 7 (.slice (some ⟨g5, 0, none⟩) 1 1) 1 [.slice A1 r.e.row.length d1, .int .i64 r.e.fam, .slice A2 r.e.qual.length d2, .int .i64 r.e.ts, .int .i64 r.e.seq, .int .i64 r.e.kind, .slice A3 r.e.val.length d3] :: rowO 30 7 (.slice A4 c c4) c ((rs.take c).flatMap ER.cells) :: boxO br [.slice none 0 0, .bool false] :: boxO be [.slice A1 r.e.row.length d1, .int .i64 r.e.fam, .slice A2 r.e.qual.length d2, .int .i64 r.e.ts, .int .i64 r.e.seq, .int .i64 r.e.kind, .slice A3 r.e.val.length d3] :: boxO bt [.slice A c c, .bool false] :: (((os ++ [bytO 5 (A1, d1, r.e.row)]) ++ [bytO 5 (A2, d2, r.e.qual)]) ++ [bytO 5 (A3, d3, r.e.val)])) z5) := Lib.hid (hz.perm List.perm_append_comm); clear hz HN1)
        | (at_builtin; have _t := tk6; go_must (refine wl_append rfl (.tmp 69) (.tmp 71) rfl entsS8 HN5.out 1 rfl rfl _ (some ⟨g5, 0, none⟩) 1 1 [.slice A1 r.e.row.length d1, .int .i64 r.e.fam, .slice A2 r.e.qual.length d2, .int .i64 r.e.ts, .int .i64 r.e.seq, .int .i64 r.e.kind, .slice A3 r.e.val.length d3] rfl (Reads.own (HN5.out.row (i := 0) rfl)) (by simp [Value.oneCell']) (by unfold maxLen; omega) (by omega) ?_); intro A5 c5 z6 hz _; have HN6 : Hid (OW w (rowO 30 7 (.slice A5 (c + 1) c5) (c + 1) ((rs.take c).flatMap ER.cells ++ [.slice A1 r.e.row.length d1, .int .i64 r.e.fam, .slice A2 r.e.qual.length d2, .int .i64 r.e.ts, .int .i64 r.e.seq, .int .i64 r.e.kind, .slice A3 r.e.val.length d3]) :: boxO br [.slice none 0 0, .bool false] :: boxO be [.slice A1 r.e.row.length d1, .int .i64 r.e.fam, .slice A2 r.e.qual.length d2, .int .i64 r.e.ts, .int .i64 r.e.seq, .int .i64 r.e.kind, .slice A3 r.e.val.length d3] :: boxO bt [.slice A c c, .bool false] :: (((os ++ [bytO 5 (A1, d1, r.e.row)]) ++ [bytO 5 (A2, d2, r.e.qual)]) ++ [bytO 5 (A3, d3, r.e.val)])) z6) := Lib.hid (hz.erase 0); clear hz HN5 tk6 _t)
        | (refine wpList_load_cell rfl 22 (.tmp 74) rfl rfl (HN6.out.cell (i := 3) (j := 0) rfl rfl) (fun w => Try.isAgg22 w) ?_)
        | (at_builtin; go_must (refine wl_append rfl (.tmp 73) (.tmp 77) rfl entsS8 HN6.out 0 rfl rfl _ (A) (0) (0) ([]) rfl (Reads.nil (w := z6) (B := 0) (size := 7)) (by simp) (by unfold maxLen; omega) (by omega) ?_); intro A6 c6 z7 hz _; have HN7 : Hid (OW w (rowO 30 7 (.slice A6 (c + 1 + (0)) c6) (c + 1 + (0)) ((rs.take c).flatMap ER.cells ++ [.slice A1 r.e.row.length d1, .int .i64 r.e.fam, .slice A2 r.e.qual.length d2, .int .i64 r.e.ts, .int .i64 r.e.seq, .int .i64 r.e.kind, .slice A3 r.e.val.length d3] ++ []) :: boxO br [.slice none 0 0, .bool false] :: boxO be [.slice A1 r.e.row.length d1, .int .i64 r.e.fam, .slice A2 r.e.qual.length d2, .int .i64 r.e.ts, .int .i64 r.e.seq, .int .i64 r.e.kind, .slice A3 r.e.val.length d3] :: boxO bt [.slice A c c, .bool false] :: (((os ++ [bytO 5 (A1, d1, r.e.row)]) ++ [bytO 5 (A2, d2, r.e.qual)]) ++ [bytO 5 (A3, d3, r.e.val)])) z7) := Lib.hid hz; clear hz HN6)
        | (refine wl_put1 rfl (.tmp 80) (.tmp 79) rfl HN7.out 3 rfl 0 rfl (by show 0 < 2; decide) (.slice A6 (c + 1 + (0)) c6) rfl (by kernel_rfl) rfl ?_; intro z8 hz _; have HN8 : Hid (OW w (rowO 30 7 (.slice A6 (c + 1 + (0)) c6) (c + 1 + (0)) ((rs.take c).flatMap ER.cells ++ [.slice A1 r.e.row.length d1, .int .i64 r.e.fam, .slice A2 r.e.qual.length d2, .int .i64 r.e.ts, .int .i64 r.e.seq, .int .i64 r.e.kind, .slice A3 r.e.val.length d3] ++ []) :: boxO br [.slice none 0 0, .bool false] :: boxO be [.slice A1 r.e.row.length d1, .int .i64 r.e.fam, .slice A2 r.e.qual.length d2, .int .i64 r.e.ts, .int .i64 r.e.seq, .int .i64 r.e.kind, .slice A3 r.e.val.length d3] :: boxO bt [.slice A6 (c + 1 + (0)) c6, .bool false] :: (((os ++ [bytO 5 (A1, d1, r.e.row)]) ++ [bytO 5 (A2, d2, r.e.qual)]) ++ [bytO 5 (A3, d3, r.e.val)])) z8) := Lib.hid hz; clear hz HN7)
        | (refine wpList_load_row7 rfl 39 (.tmp 2) rfl rfl (HN8.out.range (i := 3) rfl) tabR_row ?_)
        | (refine wl_put rfl (.tmp 4) (.tmp 81) rfl HN8.out 1 rfl rfl [.slice A6 (c + 1 + (0)) c6, .bool false] rfl rfl (by kernel_rfl) (by simp [Value.oneCell']) ?_; intro z9 hz _; have HN9 : Hid (OW w (rowO 30 7 (.slice A6 (c + 1 + (0)) c6) (c + 1 + (0)) ((rs.take c).flatMap ER.cells ++ [.slice A1 r.e.row.length d1, .int .i64 r.e.fam, .slice A2 r.e.qual.length d2, .int .i64 r.e.ts, .int .i64 r.e.seq, .int .i64 r.e.kind, .slice A3 r.e.val.length d3] ++ []) :: boxO br [.slice A6 (c + 1 + (0)) c6, .bool false] :: boxO be [.slice A1 r.e.row.length d1, .int .i64 r.e.fam, .slice A2 r.e.qual.length d2, .int .i64 r.e.ts, .int .i64 r.e.seq, .int .i64 r.e.kind, .slice A3 r.e.val.length d3] :: boxO bt [.slice A6 (c + 1 + (0)) c6, .bool false] :: (((os ++ [bytO 5 (A1, d1, r.e.row)]) ++ [bytO 5 (A2, d2, r.e.qual)]) ++ [bytO 5 (A3, d3, r.e.val)])) z9) := Lib.hid hz; clear hz HN8))
      refine bodyPost_ret (results_rowL1 rfl _ _ br [.slice A6 (c + 1 + (0)) c6, .bool false] rfl (HN9.out.range (i := 1) rfl) (by kernel_rfl) (by kernel_rfl)) rfl ?_
      have e1 : (rs.take c ++ (⟨A1, d1, A2, d2, A3, d3, r.e⟩ : ER) :: rs.drop c).flatMap ER.cells = (rs.take c).flatMap ER.cells ++ [.slice A1 r.e.row.length d1, .int .i64 r.e.fam, .slice A2 r.e.qual.length d2, .int .i64 r.e.ts, .int .i64 r.e.seq, .int .i64 r.e.kind, .slice A3 r.e.val.length d3] ++ ([]) := by
        rw [List.flatMap_append, List.flatMap_cons, List.append_assoc]
        rw [List.drop_of_length_le (by have := HRL.out; omega)]; rfl
      have HOW : Hid (OW w (rowO 30 7 (.slice A6 (c + 1 + (0)) c6) (c + 1 + (0)) ((rs.take c).flatMap ER.cells ++ [.slice A1 r.e.row.length d1, .int .i64 r.e.fam, .slice A2 r.e.qual.length d2, .int .i64 r.e.ts, .int .i64 r.e.seq, .int .i64 r.e.kind, .slice A3 r.e.val.length d3] ++ []) :: (((os ++ [bytO 5 (A1, d1, r.e.row)]) ++ [bytO 5 (A2, d2, r.e.qual)]) ++ [bytO 5 (A3, d3, r.e.val)])) z9) := Lib.hid (((HN9.out.erase 1).erase 1).erase 1)
      refine ⟨A6, c + 1 + (0), c6, rs.take c ++ (⟨A1, d1, A2, d2, A3, d3, r.e⟩ : ER) :: rs.drop c, [rowO 30 7 (.slice A6 (c + 1 + (0)) c6) (c + 1 + (0)) ((rs.take c ++ (⟨A1, d1, A2, d2, A3, d3, r.e⟩ : ER) :: rs.drop c).flatMap ER.cells), bytO 5 (A1, d1, r.e.row), bytO 5 (A2, d2, r.e.qual), bytO 5 (A3, d3, r.e.val)], ?_, ?_, ?_⟩
      · rw [addE_new HCK.out HHT.out]; rfl
      · rw [e1]
        exact HOW.out.perm (by (refine perm_of_cnt fun a => ?_; (first | ((repeat (first | rw [cntO_app] | rw [cntO_cons] | rw [cntO_nil])) <;> omega) | ((simp only [cntO_app, cntO_cons, cntO_nil]) <;> omega))))
      · rw [addE_new HCK.out HHT.out]
        refine ⟨List.mem_append_right _ (.head _), ?_, fun x hx => ?_⟩
        · show _ = insE L r.e
          rw [HIA.out, List.map_append, List.map_cons, List.map_take, List.map_drop, HT.out.e]
        · rcases List.mem_append.1 hx with h1 | h1
          · exact (HTM.out.en x (List.mem_of_mem_take h1)).more fun _ ho => List.mem_append_left _ ho
          · rcases List.mem_cons.1 h1 with rfl | h1
            · exact ⟨slIn_byt (List.mem_append_right _ (.tail _ (.head _))) rfl, slIn_byt (List.mem_append_right _ (.tail _ (.tail _ (.head _)))) rfl, slIn_byt (List.mem_append_right _ (.tail _ (.tail _ (.tail _ (.head _))))) rfl⟩
            · exact (HTM.out.en x (List.mem_of_mem_drop h1)).more fun _ ho => List.mem_append_left _ ho
    · obtain ⟨mg, rfl, hmc2⟩ : ∃ mg, A = some ⟨mg, 0, none⟩ ∧ a < c := by
        rcases (HX.out.rowm (.tail _ (.tail _ (.tail _ HT.out.row)))).2 with ⟨h1, h2⟩ | ⟨g, cap, _, h1, _, _, h2, _⟩
        · injection h1 with h1 h3 h4; exact absurd (h4.trans h2.symm) hmc
        · injection h1 with h1 h3 h4; exact ⟨g, h1, by omega⟩
      go_wp2_with fail
      refine lt_start [] (by kernel_rfl) ?_
      intro xd hd
      refine ⟨fun z => OW w (boxO br [.slice none 0 0, .bool false] :: boxO be [.slice r.A r.e.row.length r.c, .int .i64 r.e.fam, .slice r.B r.e.qual.length r.d, .int .i64 r.e.ts, .int .i64 r.e.seq, .int .i64 r.e.kind, .slice r.D r.e.val.length r.q] :: boxO bt [.slice (some ⟨mg, 0, none⟩) a c, .bool false] :: os) z, ?_⟩
      have HS := Lib.hid (HX.out.later hd)
      refine lt_pure 0 rfl (by kernel_rfl) (by kernel_rfl) (by kernel_rfl) (by kernel_rfl) (fun _ _ _ h => h) (v := ?_) (yi_run rfl (fun w => ?_)) (fun _ => HS.out) ?_
      rotate_left
      · first | (go_simp; done) | (go_simp; with_reducible rfl)
      simp only [Act.put, List.setIfInBounds_toArray, List.set_cons_zero, List.set_cons_succ]
      refine lt_pure 1 rfl (by kernel_rfl) (by kernel_rfl) (by kernel_rfl) (by kernel_rfl) (fun _ _ _ h => h) (v := ?_) (yi_run rfl (fun w => ?_)) (fun _ => HS.out) ?_
      rotate_left
      · first | (go_simp; done) | (go_simp; with_reducible rfl)
      simp only [Act.put, List.setIfInBounds_toArray, List.set_cons_zero, List.set_cons_succ]
      refine lt_take 2 [3, 4, 5, 6, 7, 8, 9, 10, 11, 12, 13, 14] rfl (by kernel_rfl) (by kernel_rfl) (by kernel_rfl) (by kernel_rfl) (by kernel_rfl) (fun _ _ _ h => h) (yi_cell rfl rfl rfl (fun w hS => OW.cell hS (i := 2) (j := 0) rfl rfl) (fun w => Try.isAgg22 w)) HS.out ?_
      simp only [Act.put, List.setIfInBounds_toArray, List.set_cons_zero, List.set_cons_succ]
      refine lt_pure 3 rfl (by kernel_rfl) (by kernel_rfl) (by kernel_rfl) (by kernel_rfl) (fun _ _ _ h => h) (v := ?_) (yi_run rfl (fun w => ?_)) (fun _ => HS.out) ?_
      rotate_left
      · first | (go_simp; done) | (go_simp; with_reducible rfl)
      simp only [Act.put, List.setIfInBounds_toArray, List.set_cons_zero, List.set_cons_succ]
      refine lt_pure 4 rfl (by kernel_rfl) (by kernel_rfl) (by kernel_rfl) (by kernel_rfl) (fun _ _ _ h => h) (v := ?_) (yi_run rfl (fun w => ?_)) (fun _ => HS.out) ?_
      rotate_left
      · first | (go_simp; done) | (go_simp; with_reducible rfl)
      simp only [Act.put, List.setIfInBounds_toArray, List.set_cons_zero, List.set_cons_succ]
      refine lt_pure 5 rfl (by kernel_rfl) (by kernel_rfl) (by kernel_rfl) (by kernel_rfl) (fun _ _ _ h => h) (v := ?_) (yi_run rfl (fun w => ?_)) (fun _ => HS.out) ?_
      rotate_left
      · first | (go_simp; done) | (go_simp; with_reducible rfl)
      simp only [Act.put, List.setIfInBounds_toArray, List.set_cons_zero, List.set_cons_succ]
      refine lt_skip 6 rfl (by kernel_rfl) (by kernel_rfl) (by kernel_rfl) (by kernel_rfl) (fun _ _ _ h => h) rfl (fun _ => HS.out) ?_
      simp only [Act.put, List.setIfInBounds_toArray, List.set_cons_zero, List.set_cons_succ]
      refine lt_skip 7 rfl (by kernel_rfl) (by kernel_rfl) (by kernel_rfl) (by kernel_rfl) (fun _ _ _ h => h) rfl (fun _ => HS.out) ?_
      simp only [Act.put, List.setIfInBounds_toArray, List.set_cons_zero, List.set_cons_succ]
      refine lt_skip 8 rfl (by kernel_rfl) (by kernel_rfl) (by kernel_rfl) (by kernel_rfl) (fun _ _ _ h => h) rfl (fun _ => HS.out) ?_
      simp only [Act.put, List.setIfInBounds_toArray, List.set_cons_zero, List.set_cons_succ]
      refine lt_skip 9 rfl (by kernel_rfl) (by kernel_rfl) (by kernel_rfl) (by kernel_rfl) (fun _ _ _ h => h) rfl (fun _ => HS.out) ?_
      simp only [Act.put, List.setIfInBounds_toArray, List.set_cons_zero, List.set_cons_succ]
      refine lt_skip 10 rfl (by kernel_rfl) (by kernel_rfl) (by kernel_rfl) (by kernel_rfl) (fun _ _ _ h => h) rfl (fun _ => HS.out) ?_
      simp only [Act.put, List.setIfInBounds_toArray, List.set_cons_zero, List.set_cons_succ]
      refine lt_skip 11 rfl (by kernel_rfl) (by kernel_rfl) (by kernel_rfl) (by kernel_rfl) (fun _ _ _ h => h) rfl (fun _ => HS.out) ?_
      simp only [Act.put, List.setIfInBounds_toArray, List.set_cons_zero, List.set_cons_succ]
      refine lt_skip 12 rfl (by kernel_rfl) (by kernel_rfl) (by kernel_rfl) (by kernel_rfl) (fun _ _ _ h => h) rfl (fun _ => HS.out) ?_
      simp only [Act.put, List.setIfInBounds_toArray, List.set_cons_zero, List.set_cons_succ]
      refine lt_skip 13 rfl (by kernel_rfl) (by kernel_rfl) (by kernel_rfl) (by kernel_rfl) (fun _ _ _ h => h) rfl (fun _ => HS.out) ?_
      simp only [Act.put, List.setIfInBounds_toArray, List.set_cons_zero, List.set_cons_succ]
      refine lt_pure 14 rfl (by kernel_rfl) (by kernel_rfl) (by kernel_rfl) (by kernel_rfl) (fun _ _ _ h => h) (v := ?_) (yi_run rfl (fun w => ?_)) (fun _ => HS.out) ?_
      rotate_left
      · first | (go_simp; done) | (go_simp; with_reducible rfl)
      simp only [Act.put, List.setIfInBounds_toArray, List.set_cons_zero, List.set_cons_succ]
      refine lt_done (by kernel_rfl) ?_
      replace HX := Lib.hid HS.out
      clear HS
      go_wp2_with fail
      refine lt_start [] (by kernel_rfl) ?_
      intro xd hd
      refine ⟨fun z => OW w (boxO br [.slice none 0 0, .bool false] :: boxO be [.slice r.A r.e.row.length r.c, .int .i64 r.e.fam, .slice r.B r.e.qual.length r.d, .int .i64 r.e.ts, .int .i64 r.e.seq, .int .i64 r.e.kind, .slice r.D r.e.val.length r.q] :: boxO bt [.slice (some ⟨mg, 0, none⟩) a c, .bool false] :: os) z, ?_⟩
      have HS := Lib.hid (HX.out.later hd)
      refine lt_pure 0 rfl (by kernel_rfl) (by kernel_rfl) (by kernel_rfl) (by kernel_rfl) (fun _ _ _ h => h) (v := ?_) (yi_run rfl (fun w => ?_)) (fun _ => HS.out) ?_
      rotate_left
      · first | (go_simp; done) | (go_simp; with_reducible rfl)
      simp only [Act.put, List.setIfInBounds_toArray, List.set_cons_zero, List.set_cons_succ]
      refine lt_pure 1 rfl (by kernel_rfl) (by kernel_rfl) (by kernel_rfl) (by kernel_rfl) (fun _ _ _ h => h) (v := ?_) (yi_run rfl (fun w => ?_)) (fun _ => HS.out) ?_
      rotate_left
      · first | (go_simp; done) | (go_simp; with_reducible rfl)
      simp only [Act.put, List.setIfInBounds_toArray, List.set_cons_zero, List.set_cons_succ]
      refine lt_take 2 [3, 4, 5, 6, 7, 8, 9, 10, 11, 12, 13, 14] rfl (by kernel_rfl) (by kernel_rfl) (by kernel_rfl) (by kernel_rfl) (by kernel_rfl) (fun _ _ _ h => h) (yi_cell rfl rfl rfl (fun w hS => OW.cell hS (i := 2) (j := 0) rfl rfl) (fun w => Try.isAgg22 w)) HS.out ?_
      simp only [Act.put, List.setIfInBounds_toArray, List.set_cons_zero, List.set_cons_succ]
      refine lt_pure 3 rfl (by kernel_rfl) (by kernel_rfl) (by kernel_rfl) (by kernel_rfl) (fun _ _ _ h => h) (v := ?_) (yi_run rfl (fun w => ?_)) (fun _ => HS.out) ?_
      rotate_left
      · first | (go_simp; done) | (go_simp; with_reducible rfl)
      simp only [Act.put, List.setIfInBounds_toArray, List.set_cons_zero, List.set_cons_succ]
      refine lt_pure 4 rfl (by kernel_rfl) (by kernel_rfl) (by kernel_rfl) (by kernel_rfl) (fun _ _ _ h => h) (v := ?_) (yi_run rfl (fun w => ?_)) (fun _ => HS.out) ?_
      rotate_left
      · first | (go_simp; done) | (go_simp; with_reducible rfl)
      simp only [Act.put, List.setIfInBounds_toArray, List.set_cons_zero, List.set_cons_succ]
      refine lt_pure 5 rfl (by kernel_rfl) (by kernel_rfl) (by kernel_rfl) (by kernel_rfl) (fun _ _ _ h => h) (v := ?_) (yi_run rfl (fun w => ?_)) (fun _ => HS.out) ?_
      rotate_left
      · first | (go_simp; done) | (go_simp; with_reducible rfl)
      simp only [Act.put, List.setIfInBounds_toArray, List.set_cons_zero, List.set_cons_succ]
      refine lt_skip 6 rfl (by kernel_rfl) (by kernel_rfl) (by kernel_rfl) (by kernel_rfl) (fun _ _ _ h => h) rfl (fun _ => HS.out) ?_
      simp only [Act.put, List.setIfInBounds_toArray, List.set_cons_zero, List.set_cons_succ]
      refine lt_skip 7 rfl (by kernel_rfl) (by kernel_rfl) (by kernel_rfl) (by kernel_rfl) (fun _ _ _ h => h) rfl (fun _ => HS.out) ?_
      simp only [Act.put, List.setIfInBounds_toArray, List.set_cons_zero, List.set_cons_succ]
      refine lt_skip 8 rfl (by kernel_rfl) (by kernel_rfl) (by kernel_rfl) (by kernel_rfl) (fun _ _ _ h => h) rfl (fun _ => HS.out) ?_
      simp only [Act.put, List.setIfInBounds_toArray, List.set_cons_zero, List.set_cons_succ]
      refine lt_skip 9 rfl (by kernel_rfl) (by kernel_rfl) (by kernel_rfl) (by kernel_rfl) (fun _ _ _ h => h) rfl (fun _ => HS.out) ?_
      simp only [Act.put, List.setIfInBounds_toArray, List.set_cons_zero, List.set_cons_succ]
      refine lt_skip 10 rfl (by kernel_rfl) (by kernel_rfl) (by kernel_rfl) (by kernel_rfl) (fun _ _ _ h => h) rfl (fun _ => HS.out) ?_
      simp only [Act.put, List.setIfInBounds_toArray, List.set_cons_zero, List.set_cons_succ]
      refine lt_skip 11 rfl (by kernel_rfl) (by kernel_rfl) (by kernel_rfl) (by kernel_rfl) (fun _ _ _ h => h) rfl (fun _ => HS.out) ?_
      simp only [Act.put, List.setIfInBounds_toArray, List.set_cons_zero, List.set_cons_succ]
      refine lt_skip 12 rfl (by kernel_rfl) (by kernel_rfl) (by kernel_rfl) (by kernel_rfl) (fun _ _ _ h => h) rfl (fun _ => HS.out) ?_
      simp only [Act.put, List.setIfInBounds_toArray, List.set_cons_zero, List.set_cons_succ]
      refine lt_skip 13 rfl (by kernel_rfl) (by kernel_rfl) (by kernel_rfl) (by kernel_rfl) (fun _ _ _ h => h) rfl (fun _ => HS.out) ?_
      simp only [Act.put, List.setIfInBounds_toArray, List.set_cons_zero, List.set_cons_succ]
      refine lt_pure 14 rfl (by kernel_rfl) (by kernel_rfl) (by kernel_rfl) (by kernel_rfl) (fun _ _ _ h => h) (v := ?_) (yi_run rfl (fun w => ?_)) (fun _ => HS.out) ?_
      rotate_left
      · first | (go_simp; done) | (go_simp; with_reducible rfl)
      simp only [Act.put, List.setIfInBounds_toArray, List.set_cons_zero, List.set_cons_succ]
      refine lt_done (by kernel_rfl) ?_
      replace HX := Lib.hid HS.out
      clear HS
      have k6 : c ≠ a := by omega
      have k7 : ¬ a = c := by omega
      have tk1 : True := trivial
      have tk2 : True := trivial
      have tk3 : True := trivial
      go_upto_region 14 with (first
        | (refine wpList_load_cell rfl 28 (.tmp 51) rfl rfl (HX.out.cell (i := 1) (j := 0) rfl rfl) (fun w => Try.isAgg28 w) ?_)
        | (go_at_call 44; (have _t := tk1); go_must (refine (rcopied8 (HR.out _ (((HX.out.erase 0).erase 0).erase 0)).row (by have := HLE.out; omega)).mono ?_); rintro e y1 ⟨A1, d1, rfl, hz⟩; have HY1 : Hid (OW w (boxO br [.slice none 0 0, .bool false] :: boxO be [.slice r.A r.e.row.length r.c, .int .i64 r.e.fam, .slice r.B r.e.qual.length r.d, .int .i64 r.e.ts, .int .i64 r.e.seq, .int .i64 r.e.kind, .slice r.D r.e.val.length r.q] :: boxO bt [.slice (some ⟨mg, 0, none⟩) a c, .bool false] :: (os ++ [bytO 5 (A1, d1, r.e.row)])) y1) := Lib.hid (HX.out.app hz); clear hz HX tk1 _t)
        | (refine wl_put1 rfl (.tmp 54) (.tmp 53) rfl HY1.out 1 rfl 0 rfl (by show 0 < 7; decide) (.slice A1 r.e.row.length d1) rfl (by kernel_rfl) rfl ?_; intro u1 hz _; have HV1 : Hid (OW w (boxO br [.slice none 0 0, .bool false] :: boxO be [.slice A1 r.e.row.length d1, .int .i64 r.e.fam, .slice r.B r.e.qual.length r.d, .int .i64 r.e.ts, .int .i64 r.e.seq, .int .i64 r.e.kind, .slice r.D r.e.val.length r.q] :: boxO bt [.slice (some ⟨mg, 0, none⟩) a c, .bool false] :: (os ++ [bytO 5 (A1, d1, r.e.row)])) u1) := Lib.hid hz; clear hz HY1)
        | (refine wpList_load_cell rfl 28 (.tmp 55) rfl rfl (HV1.out.cell (i := 1) (j := 2) rfl rfl) (fun w => Try.isAgg28 w) ?_)
        | (go_at_call 44; (have _t := tk2); go_must (refine (rcopied8 (HR.out _ (((HV1.out.erase 0).erase 0).erase 0).left).qual (by have := HLE.out; omega)).mono ?_); rintro e y2 ⟨A2, d2, rfl, hz⟩; have HY2 : Hid (OW w (boxO br [.slice none 0 0, .bool false] :: boxO be [.slice A1 r.e.row.length d1, .int .i64 r.e.fam, .slice r.B r.e.qual.length r.d, .int .i64 r.e.ts, .int .i64 r.e.seq, .int .i64 r.e.kind, .slice r.D r.e.val.length r.q] :: boxO bt [.slice (some ⟨mg, 0, none⟩) a c, .bool false] :: ((os ++ [bytO 5 (A1, d1, r.e.row)]) ++ [bytO 5 (A2, d2, r.e.qual)])) y2) := Lib.hid (HV1.out.app hz); clear hz HV1 tk2 _t)
        | (refine wl_put1 rfl (.tmp 58) (.tmp 57) rfl HY2.out 1 rfl 2 rfl (by show 2 < 7; decide) (.slice A2 r.e.qual.length d2) rfl (by kernel_rfl) rfl ?_; intro u2 hz _; have HV2 : Hid (OW w (boxO br [.slice none 0 0, .bool false] :: boxO be [.slice A1 r.e.row.length d1, .int .i64 r.e.fam, .slice A2 r.e.qual.length d2, .int .i64 r.e.ts, .int .i64 r.e.seq, .int .i64 r.e.kind, .slice r.D r.e.val.length r.q] :: boxO bt [.slice (some ⟨mg, 0, none⟩) a c, .bool false] :: ((os ++ [bytO 5 (A1, d1, r.e.row)]) ++ [bytO 5 (A2, d2, r.e.qual)])) u2) := Lib.hid hz; clear hz HY2)
        | (refine wpList_load_cell rfl 28 (.tmp 59) rfl rfl (HV2.out.cell (i := 1) (j := 6) rfl rfl) (fun w => Try.isAgg28 w) ?_)
        | (go_at_call 44; (have _t := tk3); go_must (refine (rcopied8 (HR.out _ (((HV2.out.erase 0).erase 0).erase 0).left.left).val (by have := HLE.out; omega)).mono ?_); rintro e y3 ⟨A3, d3, rfl, hz⟩; have HY3 : Hid (OW w (boxO br [.slice none 0 0, .bool false] :: boxO be [.slice A1 r.e.row.length d1, .int .i64 r.e.fam, .slice A2 r.e.qual.length d2, .int .i64 r.e.ts, .int .i64 r.e.seq, .int .i64 r.e.kind, .slice r.D r.e.val.length r.q] :: boxO bt [.slice (some ⟨mg, 0, none⟩) a c, .bool false] :: (((os ++ [bytO 5 (A1, d1, r.e.row)]) ++ [bytO 5 (A2, d2, r.e.qual)]) ++ [bytO 5 (A3, d3, r.e.val)])) y3) := Lib.hid (HV2.out.app hz); clear hz HV2 tk3 _t)
        | (refine wl_put1 rfl (.tmp 62) (.tmp 61) rfl HY3.out 1 rfl 6 rfl (by show 6 < 7; decide) (.slice A3 r.e.val.length d3) rfl (by kernel_rfl) rfl ?_; intro u3 hz _; have HV3 : Hid (OW w (boxO br [.slice none 0 0, .bool false] :: boxO be [.slice A1 r.e.row.length d1, .int .i64 r.e.fam, .slice A2 r.e.qual.length d2, .int .i64 r.e.ts, .int .i64 r.e.seq, .int .i64 r.e.kind, .slice A3 r.e.val.length d3] :: boxO bt [.slice (some ⟨mg, 0, none⟩) a c, .bool false] :: (((os ++ [bytO 5 (A1, d1, r.e.row)]) ++ [bytO 5 (A2, d2, r.e.qual)]) ++ [bytO 5 (A3, d3, r.e.val)])) u3) := Lib.hid hz; clear hz HY3))
      have HN0 : Hid (OW w (rowO 30 7 (.slice none 0 0) 0 [] :: boxO br [.slice none 0 0, .bool false] :: boxO be [.slice A1 r.e.row.length d1, .int .i64 r.e.fam, .slice A2 r.e.qual.length d2, .int .i64 r.e.ts, .int .i64 r.e.seq, .int .i64 r.e.kind, .slice A3 r.e.val.length d3] :: boxO bt [.slice (some ⟨mg, 0, none⟩) a c, .bool false] :: (((os ++ [bytO 5 (A1, d1, r.e.row)]) ++ [bytO 5 (A2, d2, r.e.qual)]) ++ [bytO 5 (A3, d3, r.e.val)])) _) := Lib.hid ((HV3.out.nilRow 30 7).perm List.perm_append_comm)
      clear HV3
      have tk4 : True := trivial
      have tk5 : True := trivial
      have tk6 : True := trivial
      have tk7 : True := trivial
      go_wp2_with (first
        | (refine wpList_load_cell rfl 22 (.tmp 64) rfl rfl (HN0.out.cell (i := 3) (j := 0) rfl rfl) (fun w => Try.isAgg22 w) ?_)
        | (at_builtin; have _t := tk4; go_must (refine wl_append rfl (.tmp 63) (.tmp 67) rfl entsS8 HN0.out 0 rfl rfl _ ((some ⟨mg, 0, none⟩)) a c ((rs.flatMap ER.cells).take (a * 7)) rfl ((Reads.own (HN0.out.rowm (.tail _ (.tail _ (.tail _ (.tail _ (List.mem_append_left _ (List.mem_append_left _ (List.mem_append_left _ HT.out.row))))))))).take (by omega)) (fun u hu => cellsR_one (List.mem_of_mem_take hu)) (by unfold maxLen; omega) (by omega) ?_); intro A4 c4 z1 hz _; rw [Nat.zero_add] at hz; rw [Nat.zero_add]; have HN1 : Hid (OW w (rowO 30 7 (.slice A4 a c4) a ((rs.take a).flatMap ER.cells) :: boxO br [.slice none 0 0, .bool false] :: boxO be [.slice A1 r.e.row.length d1, .int .i64 r.e.fam, .slice A2 r.e.qual.length d2, .int .i64 r.e.ts, .int .i64 r.e.seq, .int .i64 r.e.kind, .slice A3 r.e.val.length d3] :: boxO bt [.slice (some ⟨mg, 0, none⟩) a c, .bool false] :: (((os ++ [bytO 5 (A1, d1, r.e.row)]) ++ [bytO 5 (A2, d2, r.e.qual)]) ++ [bytO 5 (A3, d3, r.e.val)])) z1) := Lib.hid (by rw [← flat7_take]; exact hz); clear hz HN0 tk4 _t)
        | (have _t := tk5; refine wpList_load_row7 rfl 30 (.tmp 3) rfl rfl (HN1.out.range (i := 2) rfl) ent_row8 ?_; clear tk5 _t)
        | (refine wl_build rfl #[(0, .tmp 70)] rfl #[.slice A1 r.e.row.length d1, .int .i64 r.e.fam, .slice A2 r.e.qual.length d2, .int .i64 r.e.ts, .int .i64 r.e.seq, .int .i64 r.e.kind, .slice A3 r.e.val.length d3] entsS8 (.agg #[.slice none 0 0, .int .i64 0, .slice none 0 0, .int .i64 0, .int .i64 0, .int .i64 0, .slice none 0 0]) (by kernel_rfl) (by decide) (by decide) (by decide) rfl (by kernel_rfl) HN1.out ?_; intro g5 z5 hz _; have HN5 : Hid (OW w (rowO 30 7 (.slice (some ⟨g5, 0, none⟩) 1 1) 1 [.slice A1 r.e.row.length d1, .int .i64 r.e.fam, .slice A2 r.e.qual.length d2, .int .i64 r.e.ts, .int .i64 r.e.seq, .int .i64 r.e.kind, .slice A3 r.e.val.length d3] :: rowO 30 7 (.slice A4 a c4) a ((rs.take a).flatMap ER.cells) :: boxO br [.slice none 0 0, .bool false] :: boxO be [.slice A1 r.e.row.length d1, .int .i64 r.e.fam, .slice A2 r.e.qual.length d2, .int .i64 r.e.ts, .int .i64 r.e.seq, .int .i64 r.e.kind, .slice A3 r.e.val.length d3] :: boxO bt [.slice (some ⟨mg, 0, none⟩) a c, .bool false] :: (((os ++ [bytO 5 (A1, d1, r.e.row)]) ++ [bytO 5 (A2, d2, r.e.qual)]) ++ [bytO 5 (A3, d3, r.e.val)])) z5) := Lib.hid (hz.perm List.perm_append_comm); clear hz HN1)
        | (at_builtin; have _t := tk6; go_must (refine wl_append rfl (.tmp 69) (.tmp 71) rfl entsS8 HN5.out 1 rfl rfl _ (some ⟨g5, 0, none⟩) 1 1 [.slice A1 r.e.row.length d1, .int .i64 r.e.fam, .slice A2 r.e.qual.length d2, .int .i64 r.e.ts, .int .i64 r.e.seq, .int .i64 r.e.kind, .slice A3 r.e.val.length d3] rfl (Reads.own (HN5.out.row (i := 0) rfl)) (by simp [Value.oneCell']) (by unfold maxLen; omega) (by omega) ?_); intro A5 c5 z6 hz _; have HN6 : Hid (OW w (rowO 30 7 (.slice A5 (a + 1) c5) (a + 1) ((rs.take a).flatMap ER.cells ++ [.slice A1 r.e.row.length d1, .int .i64 r.e.fam, .slice A2 r.e.qual.length d2, .int .i64 r.e.ts, .int .i64 r.e.seq, .int .i64 r.e.kind, .slice A3 r.e.val.length d3]) :: boxO br [.slice none 0 0, .bool false] :: boxO be [.slice A1 r.e.row.length d1, .int .i64 r.e.fam, .slice A2 r.e.qual.length d2, .int .i64 r.e.ts, .int .i64 r.e.seq, .int .i64 r.e.kind, .slice A3 r.e.val.length d3] :: boxO bt [.slice (some ⟨mg, 0, none⟩) a c, .bool false] :: (((os ++ [bytO 5 (A1, d1, r.e.row)]) ++ [bytO 5 (A2, d2, r.e.qual)]) ++ [bytO 5 (A3, d3, r.e.val)])) z6) := Lib.hid (hz.erase 0); clear hz HN5 tk6 _t)
        | (refine wpList_load_cell rfl 22 (.tmp 74) rfl rfl (HN6.out.cell (i := 3) (j := 0) rfl rfl) (fun w => Try.isAgg22 w) ?_)
        | (at_builtin; go_must (refine wl_append rfl (.tmp 73) (.tmp 77) rfl entsS8 HN6.out 0 rfl rfl _ (some ⟨mg, a * 7, none⟩) (0) (c - a) ([]) rfl (Reads.nil (w := z6) (B := 0) (size := 7)) (by simp) (by unfold maxLen; omega) (by omega) ?_); intro A6 c6 z7 hz _; have HN7 : Hid (OW w (rowO 30 7 (.slice A6 (a + 1 + (0)) c6) (a + 1 + (0)) ((rs.take a).flatMap ER.cells ++ [.slice A1 r.e.row.length d1, .int .i64 r.e.fam, .slice A2 r.e.qual.length d2, .int .i64 r.e.ts, .int .i64 r.e.seq, .int .i64 r.e.kind, .slice A3 r.e.val.length d3] ++ []) :: boxO br [.slice none 0 0, .bool false] :: boxO be [.slice A1 r.e.row.length d1, .int .i64 r.e.fam, .slice A2 r.e.qual.length d2, .int .i64 r.e.ts, .int .i64 r.e.seq, .int .i64 r.e.kind, .slice A3 r.e.val.length d3] :: boxO bt [.slice (some ⟨mg, 0, none⟩) a c, .bool false] :: (((os ++ [bytO 5 (A1, d1, r.e.row)]) ++ [bytO 5 (A2, d2, r.e.qual)]) ++ [bytO 5 (A3, d3, r.e.val)])) z7) := Lib.hid hz; clear hz HN6)
        | (refine wl_put1 rfl (.tmp 80) (.tmp 79) rfl HN7.out 3 rfl 0 rfl (by show 0 < 2; decide) (.slice A6 (a + 1 + (0)) c6) rfl (by kernel_rfl) rfl ?_; intro z8 hz _; have HN8 : Hid (OW w (rowO 30 7 (.slice A6 (a + 1 + (0)) c6) (a + 1 + (0)) ((rs.take a).flatMap ER.cells ++ [.slice A1 r.e.row.length d1, .int .i64 r.e.fam, .slice A2 r.e.qual.length d2, .int .i64 r.e.ts, .int .i64 r.e.seq, .int .i64 r.e.kind, .slice A3 r.e.val.length d3] ++ []) :: boxO br [.slice none 0 0, .bool false] :: boxO be [.slice A1 r.e.row.length d1, .int .i64 r.e.fam, .slice A2 r.e.qual.length d2, .int .i64 r.e.ts, .int .i64 r.e.seq, .int .i64 r.e.kind, .slice A3 r.e.val.length d3] :: boxO bt [.slice A6 (a + 1 + (0)) c6, .bool false] :: (((os ++ [bytO 5 (A1, d1, r.e.row)]) ++ [bytO 5 (A2, d2, r.e.qual)]) ++ [bytO 5 (A3, d3, r.e.val)])) z8) := Lib.hid hz; clear hz HN7)
        | (refine wpList_load_row7 rfl 39 (.tmp 2) rfl rfl (HN8.out.range (i := 3) rfl) tabR_row ?_)
        | (refine wl_put rfl (.tmp 4) (.tmp 81) rfl HN8.out 1 rfl rfl [.slice A6 (a + 1 + (0)) c6, .bool false] rfl rfl (by kernel_rfl) (by simp [Value.oneCell']) ?_; intro z9 hz _; have HN9 : Hid (OW w (rowO 30 7 (.slice A6 (a + 1 + (0)) c6) (a + 1 + (0)) ((rs.take a).flatMap ER.cells ++ [.slice A1 r.e.row.length d1, .int .i64 r.e.fam, .slice A2 r.e.qual.length d2, .int .i64 r.e.ts, .int .i64 r.e.seq, .int .i64 r.e.kind, .slice A3 r.e.val.length d3] ++ []) :: boxO br [.slice A6 (a + 1 + (0)) c6, .bool false] :: boxO be [.slice A1 r.e.row.length d1, .int .i64 r.e.fam, .slice A2 r.e.qual.length d2, .int .i64 r.e.ts, .int .i64 r.e.seq, .int .i64 r.e.kind, .slice A3 r.e.val.length d3] :: boxO bt [.slice A6 (a + 1 + (0)) c6, .bool false] :: (((os ++ [bytO 5 (A1, d1, r.e.row)]) ++ [bytO 5 (A2, d2, r.e.qual)]) ++ [bytO 5 (A3, d3, r.e.val)])) z9) := Lib.hid hz; clear hz HN8))
      refine bodyPost_ret (results_rowL1 rfl _ _ br [.slice A6 (a + 1 + (0)) c6, .bool false] rfl (HN9.out.range (i := 1) rfl) (by kernel_rfl) (by kernel_rfl)) rfl ?_
      have e1 : (rs.take a ++ (⟨A1, d1, A2, d2, A3, d3, r.e⟩ : ER) :: rs.drop a).flatMap ER.cells = (rs.take a).flatMap ER.cells ++ [.slice A1 r.e.row.length d1, .int .i64 r.e.fam, .slice A2 r.e.qual.length d2, .int .i64 r.e.ts, .int .i64 r.e.seq, .int .i64 r.e.kind, .slice A3 r.e.val.length d3] ++ ([]) := by
        rw [List.flatMap_append, List.flatMap_cons, List.append_assoc]
        rw [List.drop_of_length_le (by have := HRL.out; omega)]; rfl
      have HOW : Hid (OW w (rowO 30 7 (.slice A6 (a + 1 + (0)) c6) (a + 1 + (0)) ((rs.take a).flatMap ER.cells ++ [.slice A1 r.e.row.length d1, .int .i64 r.e.fam, .slice A2 r.e.qual.length d2, .int .i64 r.e.ts, .int .i64 r.e.seq, .int .i64 r.e.kind, .slice A3 r.e.val.length d3] ++ []) :: (((os ++ [bytO 5 (A1, d1, r.e.row)]) ++ [bytO 5 (A2, d2, r.e.qual)]) ++ [bytO 5 (A3, d3, r.e.val)])) z9) := Lib.hid (((HN9.out.erase 1).erase 1).erase 1)
      refine ⟨A6, a + 1 + (0), c6, rs.take a ++ (⟨A1, d1, A2, d2, A3, d3, r.e⟩ : ER) :: rs.drop a, [rowO 30 7 (.slice A6 (a + 1 + (0)) c6) (a + 1 + (0)) ((rs.take a ++ (⟨A1, d1, A2, d2, A3, d3, r.e⟩ : ER) :: rs.drop a).flatMap ER.cells), bytO 5 (A1, d1, r.e.row), bytO 5 (A2, d2, r.e.qual), bytO 5 (A3, d3, r.e.val)], ?_, ?_, ?_⟩
      · rw [addE_new HCK.out HHT.out]; rfl
      · rw [e1]
        exact HOW.out.perm (by (refine perm_of_cnt fun a => ?_; (first | ((repeat (first | rw [cntO_app] | rw [cntO_cons] | rw [cntO_nil])) <;> omega) | ((simp only [cntO_app, cntO_cons, cntO_nil]) <;> omega))))
      · rw [addE_new HCK.out HHT.out]
        refine ⟨List.mem_append_right _ (.head _), ?_, fun x hx => ?_⟩
        · show _ = insE L r.e
          rw [HIA.out, List.map_append, List.map_cons, List.map_take, List.map_drop, HT.out.e]
        · rcases List.mem_append.1 hx with h1 | h1
          · exact (HTM.out.en x (List.mem_of_mem_take h1)).more fun _ ho => List.mem_append_left _ ho
          · rcases List.mem_cons.1 h1 with rfl | h1
            · exact ⟨slIn_byt (List.mem_append_right _ (.tail _ (.head _))) rfl, slIn_byt (List.mem_append_right _ (.tail _ (.tail _ (.head _)))) rfl, slIn_byt (List.mem_append_right _ (.tail _ (.tail _ (.tail _ (.head _))))) rfl⟩
            · exact (HTM.out.en x (List.mem_of_mem_drop h1)).more fun _ ho => List.mem_append_left _ ho
theorem radd8_is {w x : World} {os ms : List Ob} {A : Option Addr} {n c : Nat} {rs : List ER} {L L2 : List Ent} {fr : Bool} {k : Int} (h : OW w os x) (hs : ∀ o, o ∈ ms → o ∈ os) (hT : RT ms A n c rs L) (hn : n ≤ 1000000) (r : ER) (hr : ∀ z, OW w os z → r.En z) (ha : addE L fr r.e = (L2, k)) :
    Calls Try.prog 15 #[.agg #[.slice A n c, .bool fr], .agg #[.slice r.A r.e.row.length r.c, .int .i64 r.e.fam, .slice r.B r.e.qual.length r.d, .int .i64 r.e.ts, .int .i64 r.e.seq, .int .i64 r.e.kind, .slice r.D r.e.val.length r.q]] x fun e z => ∃ A' n' c' rs' ns, e = .returned (.tuple #[.agg #[.slice A' n' c', .bool fr], .int .i64 k]) ∧ OW w (os ++ ns) z ∧ RT (ms ++ ns) A' n' c' rs' L2 :=
  (radd8_any h hs hT hn r hr).mono fun e z ⟨A', n', c', rs', ns, h1, h2, h3⟩ => ⟨A', n', c', rs', ns, by rw [h1, ha], h2, by rw [ha] at h3; exact h3⟩
end Go.Proofs.Ytdaoinhkagmbdaa
namespace Go.Proofs.Ytdaoinhkagmbdaa
open Go.RowKit
theorem wrap_u8 (x : Int) : ∃ u : UInt8, IntKind.u8.wrap x = (u.toNat : Int) := by
  refine ⟨UInt8.ofNat (x % 256).toNat, ?_⟩
  rw [UInt8.toNat_ofNat']
  have h : IntKind.u8.wrap x = x % 256 := by simp [IntKind.wrap, IntKind.signed, IntKind.bits]
  rw [h]
  omega
end Go.Proofs.Ytdaoinhkagmbdaa
