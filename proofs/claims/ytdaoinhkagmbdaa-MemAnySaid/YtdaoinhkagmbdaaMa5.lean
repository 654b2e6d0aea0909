/-
  Laid together by merge.py: BlockL1, MemL1, MemL2, MemL3, MemPA, MemL4, Law, Law2, Law3, CellLaw, Law4, MemLaw.
-/
import Derived.Test.YtdaoinhkagmbdaaMa4
import Derived.Test.YtdaoinhkagmbdaaMa3
import Derived.Test.YtdaoinhkagmbdaaMa2
import Derived.Deep.DeepCutAuto
import Derived.Lib.SlBytesConst
import Derived.Test.YtdaoinhkagmbdaaMa1
import Derived.ProofKit
import Derived.SizedLaws
import Derived.Lib.SmallJoins
import Derived.Deep.Slices
import Derived.Deep.Fields
import Derived.Test.YtdaoinhkagmbdaaRows
import Derived.OpenShut
namespace Go.Proofs.Ytdaoinhkagmbdaa
open Go.RowKit
set_option maxRecDepth 100000 in
set_option maxHeartbeats 1000000 in
theorem same_any (a b : List UInt8) (A B : Option Addr) (n c m d : Nat) (w : World) (hn : n ≤ 9223372036854775807) (ha : RB w w.heap.size A n a) (hb : RB w w.heap.size B m b) :
    Calls Try.prog 43 #[.slice A n c, .slice B m d] w fun e w' => e = .returned (.bool (a == b)) ∧ Below w.heap.size w w' := by
  have HLA := Lib.hid ha.len
  have HLB := Lib.hid hb.len
  have HA : Hid (∀ w', Below w.heap.size w w' → RB w' w'.heap.size A n a) := Lib.hid fun w' h => ha.later h
  have HB : Hid (∀ w', Below w.heap.size w w' → RB w' w'.heap.size B m b) := Lib.hid fun w' h => hb.later h
  clear ha hb
  by_cases hnm : n = m
  case neg =>
    have HE : Hid ((a == b) = false) := Lib.hid (by rw [beq_eq_false_iff_ne]; intro h; exact hnm (by rw [← HLA.out, ← HLB.out, h]))
    have hd : ((n : Int) != (m : Int)) = true := by rw [bne_iff_ne]; omega
    have hd2 : (n != m) = true := by rw [bne_iff_ne]; omega
    clear hnm
    go_enter Try.func43, Try.ntmps43
    go_wp2
    go_ret
    exact ⟨by rw [HE.out]; rfl, Below.refl _ _⟩
  subst hnm
  go_enter Try.func43, Try.ntmps43
  go_wp2
  go_loopw [5] (fun i wr => ∃ k : Nat, k ≤ n ∧ i = .int .i64 k ∧ Hid (a.take k = b.take k) ∧ Hid (Below w.heap.size w wr)) (fun i _ => n - (intOf i).toNat)
  case atStart => exact ⟨0, Nat.zero_le _, rfl, Lib.hid rfl, Lib.hid (Below.refl _ _)⟩
  case round =>
    obtain ⟨k, hkn, rfl, HT, HW⟩ := hrel
    by_cases hlt : k < n
    case neg =>
      have HE : Hid ((a == b) = true) := Lib.hid (by
        have h := HT.out
        rw [List.take_of_length_le (by have := HLA.out; omega), List.take_of_length_le (by have := HLB.out; omega)] at h
        rw [h]; simp)
      have hd1 : decide ((k : Int) < (n : Int)) = false := decide_eq_false (by omega)
      have hd2 : decide (k < n) = false := decide_eq_false hlt
      go_wp2
      go_ret
      exact ⟨by rw [HE.out]; rfl, HW.out⟩
    have hd1 : decide ((k : Int) < (n : Int)) = true := decide_eq_true (by omega)
    have hd2 : decide (k < n) = true := decide_eq_true hlt
    have hk1 : (k : Int) < (n : Int) := by omega
    obtain ⟨b1, o1, x, rfl, _, hx, _⟩ := (HA.out _ HW.out).at_ hlt
    obtain ⟨b2, o2, y, rfl, _, hy, _⟩ := (HB.out _ HW.out).at_ hlt
    have HX := Lib.hid hx
    have HY := Lib.hid hy
    have c1 := (HA.out _ HW.out).cell HX.out
    have c2 := (HB.out _ HW.out).cell HY.out
    clear hx hy
    by_cases hxy : x = y
    case neg =>
      have HE : Hid ((a == b) = false) := Lib.hid (by
        rw [beq_eq_false_iff_ne]; intro h
        have h1 := HX.out; have h2 := HY.out
        rw [h, h2] at h1; injection h1 with h1; exact hxy h1.symm)
      have e1 : ((x.toNat : Int) != (y.toNat : Int)) = true := by rw [bne_iff_ne]; intro h; exact hxy (UInt8.toNat_inj.1 (by omega))
      have e2 : (x.toNat != y.toNat) = true := by rw [bne_iff_ne]; intro h; exact hxy (UInt8.toNat_inj.1 h)
      have HW2 := Lib.hid (fun k => below_drewN (n := k) HW.out)
      clear hxy
      go_wp2_with fail
      go_quiet (fail)
      have HW3 := Lib.hid (HW2.out nq)
      clear c1 c2
      generalize wr.drewN nq = w3 at *
      go_wp2
      go_ret
      exact ⟨by rw [HE.out]; rfl, HW3.out⟩
    subst hxy
    have HE := Lib.hid (cmp_eq_at HT.out HX.out HY.out)
    have e1 : ((x.toNat : Int) != (x.toNat : Int)) = false := by simp
    have HW2 := Lib.hid (fun k => below_drewN (n := k) HW.out)
    go_wp2_with fail
    go_quiet (fail)
    have HW3 := Lib.hid (HW2.out nq)
    clear c1 c2
    generalize wr.drewN nq = w3 at *
    go_wp2
    go_roundw
    case rel => exact ⟨k + 1, by omega, by go_num, HE, HW3⟩
    case measure => simp [intOf]; omega
set_option maxRecDepth 100000 in
set_option maxHeartbeats 2000000 in
theorem sameEntry_any (a b : Ent) (A : Option Addr) (n c : Nat) (B : Option Addr) (m d : Nat) (D : Option Addr) (v q : Nat) (A' : Option Addr) (n' c' : Nat) (B' : Option Addr) (m' d' : Nat) (D' : Option Addr) (v' q' : Nat) (w : World) (he : a = b) (ha : En w A n c B m d D v q a) (hb : En w A' n' c' B' m' d' D' v' q' b) :
    Calls Try.prog 13 #[entV A n c B m d D v q a, entV A' n' c' B' m' d' D' v' q' b] w fun e w1 => e = .returned (.bool true) ∧ Below w.heap.size w w1 := by
  have HT := Lib.hid (Two.new w 30 #[.slice A n c, .int .i64 a.fam, .slice B m d, .int .i64 a.ts, .int .i64 a.seq, .int .i64 a.kind, .slice D v q] #[.slice A' n' c', .int .i64 b.fam, .slice B' m' d', .int .i64 b.ts, .int .i64 b.seq, .int .i64 b.kind, .slice D' v' q'])
  have HA : Hid (∀ x, Below w.heap.size w x → En x A n c B m d D v q a) := Lib.hid fun x h => ha.later h
  have HC : Hid (∀ x, Below w.heap.size w x → En x A' n' c' B' m' d' D' v' q' b) := Lib.hid fun x h => hb.later h
  have HLE : Hid (n ≤ 9223372036854775807 ∧ m ≤ 9223372036854775807 ∧ v ≤ 9223372036854775807) := Lib.hid ⟨ha.row.le, ha.qual.le, ha.val.le⟩
  have HQ : Hid (a.row = b.row ∧ a.qual = b.qual ∧ a.val = b.val) := Lib.hid ⟨by rw [he], by rw [he], by rw [he]⟩
  have XS : Hid (∀ l : List UInt8, (l == l) = true) := Lib.hid (by simp)
  have e1 : a.fam = b.fam := by rw [he]
  have e2 : a.ts = b.ts := by rw [he]
  have e3 : a.seq = b.seq := by rw [he]
  have e4 : a.kind = b.kind := by rw [he]
  unfold entV
  rw [e1, e2, e3, e4] at HT ⊢
  clear ha hb he e1 e2 e3 e4
  have tok1 : True := trivial
  have tok2 : True := trivial
  go_enter Try.func13, Try.ntmps13
  go_wp2_with (first
    | (go_at_call 43; have _t := tok1; go_must (refine (same_any a.row a.row _ _ _ _ _ _ _ HLE.out.1 (HA.out _ HT.out.up).row.rb (by have h := (HC.out _ HT.out.up).row.rb; rw [← HQ.out.1] at h; exact h)).mono ?_); rw [XS.out]; rintro e x1 ⟨rfl, hb1⟩; have HT1 := Lib.hid (HT.out.later hb1); clear hb1 tok1; have a2 := boxed1 HT1.out (i := 2) (v := .slice B m d) rfl; have b2 := boxed2 HT1.out (i := 2) (v := .slice B' m' d') rfl)
    | (go_at_call 43; have _t := tok2; go_must (refine (same_any a.qual a.qual _ _ _ _ _ _ _ HLE.out.2.1 (HA.out _ HT1.out.up).qual.rb (by have h := (HC.out _ HT1.out.up).qual.rb; rw [← HQ.out.2.1] at h; exact h)).mono ?_); rw [XS.out]; rintro e x2 ⟨rfl, hb2⟩; have HT2 := Lib.hid (HT1.out.later hb2); clear hb2 tok2; have a6 := boxed1 HT2.out (i := 6) (v := .slice D v q) rfl; have b6 := boxed2 HT2.out (i := 6) (v := .slice D' v' q') rfl)
    | (go_at_call 43; go_must (refine (same_any a.val a.val _ _ _ _ _ _ _ HLE.out.2.2 (HA.out _ HT2.out.up).val.rb (by have h := (HC.out _ HT2.out.up).val.rb; rw [← HQ.out.2.2] at h; exact h)).mono ?_); rw [XS.out]; rintro e x3 ⟨rfl, hb3⟩; have HT3 := Lib.hid (HT2.out.later hb3); clear hb3))
  go_ret
  exact ⟨rfl, HT3.out.up⟩
theorem conv_const (W : World) (C : Array Value) (n c g : Nat) (hg : g = W.heap.size) : (convert 28 28 (.slice (some ⟨g, 0, none⟩) n c)).run Try.prog (W.alloc (.cells C 5)) = .ok (.slice (some ⟨g, 0, none⟩) n c) (W.alloc (.cells C 5 (C.size, C.size + 1))) := by
  subst hg; exact Lib.run_convert_bytes_const (P := Try.prog) W 28 5 C n c Try.underlying28 Try.underlying5
theorem three_lits (w : World) (o : Obj) (a b d : UInt8) (t : TypeId) (fr : Nat × Nat) : ∀ W, W = (((w.alloc o).alloc (.cells #[u8v a] t fr)).alloc (.cells #[u8v b] t fr)).alloc (.cells #[u8v d] t fr) →
    Sl W (some ⟨w.heap.size + 1, 0, none⟩) 1 1 [a] ∧ Sl W (some ⟨w.heap.size + 1 + 1, 0, none⟩) 1 1 [b] ∧ Sl W (some ⟨w.heap.size + 1 + 1 + 1, 0, none⟩) 1 1 [d] ∧ Below (w.alloc o).heap.size (w.alloc o) W := by
  rintro W rfl
  have hz : ∀ (x : World) (o : Obj), (x.alloc o).heap.size = x.heap.size + 1 := fun x o => by show (x.heap.push _).size = _; simp
  have hb : ∀ (x : World) (o : Obj), Below x.heap.size x (x.alloc o) := fun x o => (Below.refl _ x).alloc (Nat.le_refl _) o
  have s1 := Sl.lit (w.alloc o) #[u8v a] [a] t fr rfl rfl (by show (1 : Nat) ≤ 9223372036854775807; decide)
  have s2 := Sl.lit ((w.alloc o).alloc (.cells #[u8v a] t fr)) #[u8v b] [b] t fr rfl rfl (by show (1 : Nat) ≤ 9223372036854775807; decide)
  have s3 := Sl.lit (((w.alloc o).alloc (.cells #[u8v a] t fr)).alloc (.cells #[u8v b] t fr)) #[u8v d] [d] t fr rfl rfl (by show (1 : Nat) ≤ 9223372036854775807; decide)
  rw [hz w o] at s1
  rw [hz _ _, hz w o] at s2
  rw [hz _ _, hz _ _, hz w o] at s3
  exact ⟨(s1.later (hb _ _)).later (hb _ _), s2.later (hb _ _), s3, ((hb _ _).trans ((hb _ _).mono (by rw [hz (w.alloc o)]; omega))).trans ((hb _ _).mono (by rw [hz ((w.alloc o).alloc _), hz (w.alloc o)]; omega))⟩
def atE (ts : Int) : Ent := ⟨[114], 0, [113], ts, 32, 1, [118]⟩
def AtPost (ts : Int) (w : World) (r : Ending) (w' : World) : Prop := ∃ A B D, r = .returned (entV A 1 1 B 1 1 D 1 1 (atE ts)) ∧ En w' A 1 1 B 1 1 D 1 1 (atE ts) ∧ Below w.heap.size w w'
set_option maxRecDepth 100000 in
set_option maxHeartbeats 2000000 in
theorem atE_any (ts : Int) (w : World) : Calls Try.prog 38 #[.int .i64 ts] w (AtPost ts w) := by
  have kc := conv_const
  go_enter Try.func38, Try.ntmps38
  go_wp2
  (try simp only [Exit.inBlock, Exit.then])
  obtain ⟨h1, h2, h3, hb⟩ := three_lits w (.cells #[.slice (some ⟨w.heap.size + 1, 0, none⟩) 1 1, .int .i64 0, .slice (some ⟨w.heap.size + 1 + 1, 0, none⟩) 1 1, .int .i64 ts, .int .i64 32, .int .i64 1, .slice (some ⟨w.heap.size + 1 + 1 + 1, 0, none⟩) 1 1] 30) 114 113 118 5 (1, 2) _ rfl
  have HB := (Bxs.one w 30 #[.slice (some ⟨w.heap.size + 1, 0, none⟩) 1 1, .int .i64 0, .slice (some ⟨w.heap.size + 1 + 1, 0, none⟩) 1 1, .int .i64 ts, .int .i64 32, .int .i64 1, .slice (some ⟨w.heap.size + 1 + 1 + 1, 0, none⟩) 1 1]).later hb
  refine bodyPost_ret (results_box0 rfl _ _ w.heap.size _ rfl (HB.cells0 rfl) (by kernel_rfl) (by kernel_rfl)) rfl ?_
  exact ⟨_, _, _, rfl, ⟨h1, h2, h3⟩, HB.up⟩
end Go.Proofs.Ytdaoinhkagmbdaa
namespace Go.Proofs.Ytdaoinhkagmbdaa
open Go.RowKit
theorem sameEntry_yes (a b : ER) (w : World) (h : a.e = b.e) (ha : a.En w) (hb : b.En w) :
    Calls Try.prog 13 #[.agg #[.slice a.A a.e.row.length a.c, .int .i64 a.e.fam, .slice a.B a.e.qual.length a.d, .int .i64 a.e.ts, .int .i64 a.e.seq, .int .i64 a.e.kind, .slice a.D a.e.val.length a.q], .agg #[.slice b.A b.e.row.length b.c, .int .i64 b.e.fam, .slice b.B b.e.qual.length b.d, .int .i64 b.e.ts, .int .i64 b.e.seq, .int .i64 b.e.kind, .slice b.D b.e.val.length b.q]] w fun e w1 => e = .returned (.bool true) ∧ Below w.heap.size w w1 :=
  sameEntry_any a.e b.e a.A _ a.c a.B _ a.d a.D _ a.q b.A _ b.c b.B _ b.d b.D _ b.q w h ha hb
def atR (A B D : Option Addr) (ts : Int) : ER := ⟨A, 1, B, 1, D, 1, atE ts⟩
theorem at8_any (ts : Int) (w : World) : Calls Try.prog 38 #[.int .i64 ts] w fun e z => ∃ s : ER, e = .returned (.agg #[.slice s.A s.e.row.length s.c, .int .i64 s.e.fam, .slice s.B s.e.qual.length s.d, .int .i64 s.e.ts, .int .i64 s.e.seq, .int .i64 s.e.kind, .slice s.D s.e.val.length s.q]) ∧ s.e = atE ts ∧ s.En z ∧ Below w.heap.size w z :=
  (atE_any ts w).mono fun e z ⟨A, B, D, h1, h2, h3⟩ => ⟨atR A B D ts, h1, rfl, h2, h3⟩
end Go.Proofs.Ytdaoinhkagmbdaa
namespace Go.Proofs.Ytdaoinhkagmbdaa
open Go.RowKit
theorem tadd_is {w x : World} {tg : Nat} {fr : Bool} {os ms : List Ob} {t : Tr} (r : ER) (h : OW w (boxO tg (tabC t fr) :: os) x) (hs : ∀ o, o ∈ ms → o ∈ os) (hT : Tb ms t) (hE : r.En x) (hlen : t.list.length ≤ 90000) {L : List Ent} {k : Int} (hadd : addE t.ents fr r.e = (L, k)) :
    Calls Try.prog 10 #[.pointer (some ⟨tg, 0, none⟩), .agg #[.slice r.A r.e.row.length r.c, .int .i64 r.e.fam, .slice r.B r.e.qual.length r.d, .int .i64 r.e.ts, .int .i64 r.e.seq, .int .i64 r.e.kind, .slice r.D r.e.val.length r.q]] x fun e z => ∃ t' ns, e = .returned (.int .i64 k) ∧ OW w (boxO tg (tabC t' fr) :: (os ++ ns)) z ∧ Tb (ms ++ ns) t' ∧ t'.ents = L :=
  (tadd_any r h hs hT hE hlen).mono fun e z ⟨t', ns, h1, h2, h3, h4⟩ => ⟨t', ns, by rw [h1, hadd], h2, h3, by rw [h4, hadd]⟩
theorem tlen_is {w x : World} {tg : Nat} {fr : Bool} {os : List Ob} {t : Tr} (h : OW w os x) (hm : boxO tg (tabC t fr) ∈ os) {n : Nat} (hn : t.list.length = n) : Calls Try.prog 14 #[.pointer (some ⟨tg, 0, none⟩)] x fun e z => e = .returned (.int .i64 (n : Nat)) ∧ z = x := by
  subst hn; exact tlen_any h hm
theorem it_not_nil (b c : Nat) (w : World) : (binOp .eql 33 (.func (.func 67) #[] #[.pointer (some ⟨b, 0, none⟩), .pointer (some ⟨c, 0, none⟩)]) .nilFunc).run Try.prog w = .ok (.bool false) w := by kernel_rfl
theorem told_add1 : addE Tr.nil.ents false (atE 4) = ([atE 4], 0) := by kernel_rfl
theorem told_add2 : addE [atE 4] false (atE 5) = ([atE 5, atE 4], 0) := by kernel_rfl
theorem told_add3 : addE [atE 5, atE 4] false (atE 5) = ([atE 5, atE 4], 80) := by kernel_rfl
theorem told_perm0 (i b c t : Ob) (X : List Ob) : ((i :: t :: X) ++ [b, c]).Perm (i :: b :: c :: t :: X) := by (refine perm_of_cnt fun a => ?_; (simp only [cntO_app, cntO_cons, cntO_nil]) <;> omega)
theorem cl_in {a b c d : Ob} {X p : List Ob} (o : Ob) (h : o ∈ [b, c, d]) : o ∈ (a :: b :: c :: d :: X) ++ p := by
  rcases List.mem_cons.1 h with rfl | h
  · exact .tail _ (.head _)
  · rcases List.mem_cons.1 h with rfl | h
    · exact .tail _ (.tail _ (.head _))
    · rw [List.mem_singleton.1 h]; exact .tail _ (.tail _ (.tail _ (.head _)))
set_option maxRecDepth 10000000 in
set_option maxHeartbeats 8000000 in
theorem told_any8 (w : World) : Calls Try.prog 8 #[] w fun e z => e = .returned (.bool true) ∧ Below w.heap.size w z := by
  have HX0 := Lib.hid (OW.nil w)
  refine calls_marks Try.func8 rfl ?_
  simp only [Try.ntmps8, List.size_toArray, List.length_cons, List.length_nil, Nat.reduceAdd, Nat.reduceSub, Array.replicate_succ, Array.replicate_zero, List.push_toArray, List.append_toArray, List.nil_append, List.cons_append]
  go_upto_region 2 with (first
    | (refine wl_alloc rfl rfl [.bool false] (.inr ⟨.bool false, by kernel_rfl, rfl⟩) HX0.out ?_; intro g6 x1 hz _; have HG := Lib.hid (RBox.of hz); have HX := Lib.hid (OW.nil x1); clear hz HX0)
    | (go_at_call 9; go_must (refine (tnew_any _).mono ?_); rintro e x2 ⟨tg, rfl, hz⟩; have HA := Lib.hid (HX.out.app hz); clear hz HX))
  have tk1 : True := trivial
  have tk2 : True := trivial
  have tk3 : True := trivial
  go_upto_region 4 with (first
    | (go_at_call 38; (have _t := tk1); go_must (refine (at8_any 4 _).mono ?_); rintro e x3 ⟨s1, rfl, hse, hen, hb⟩; have HA1 := Lib.hid (HA.out.later hb); have HN1 := Lib.hid (And.intro hse hen); clear hse hen hb HA tk1 _t)
    | (go_at_call 10; (have _t := HN1); go_must (refine (tadd_is (os := []) (ms := []) s1 HA1.out (fun _ h => h) (Tb.nil []) HN1.out.2 (by decide) (L := [atE 4]) (k := 0) (by simp only [HN1.out.1, told_add1])).mono ?_); rintro e x4 ⟨t1, ns1, rfl, hz, hT, he⟩; have HB1 := Lib.hid hz; have HT1 := Lib.hid hT; have HE1 := Lib.hid he; clear hz hT he HN1 _t HA1)
    | (go_at_call 38; (have _t := tk2); go_must (refine (at8_any 5 _).mono ?_); rintro e x5 ⟨s2, rfl, hse, hen, hb⟩; have HA2 := Lib.hid (HB1.out.later hb); have HN2 := Lib.hid (And.intro hse hen); clear hse hen hb HB1 tk2 _t)
    | (go_at_call 10; (have _t := HN2); go_must (refine (tadd_is s2 HA2.out (fun o h => h) HT1.out HN2.out.2 (by rw [← Tr.ents_len, HE1.out]; decide) (L := [atE 5, atE 4]) (k := 0) (by simp only [HN2.out.1, HE1.out, told_add2])).mono ?_); rintro e x6 ⟨t2, ns2, rfl, hz, hT, he⟩; have HB2 := Lib.hid hz; have HT2 := Lib.hid hT; have HE2 := Lib.hid he; clear hz hT he HN2 _t HA2 HT1 HE1)
    | (go_at_call 14; go_must (refine (tlen_is HB2.out (.head _) (n := 2) (by rw [← Tr.ents_len, HE2.out]; rfl)).mono ?_); rintro e x7 ⟨rfl, hz⟩; rw [hz]; clear hz)
    | (go_at_call 38; (have _t := tk3); go_must (refine (at8_any 5 _).mono ?_); rintro e x8 ⟨s3, rfl, hse, hen, hb⟩; have HA3 := Lib.hid (HB2.out.later hb); have HN3 := Lib.hid (And.intro hse hen); clear hse hen hb HB2 tk3 _t)
    | (go_at_call 10; go_must (refine (tadd_is s3 HA3.out (fun o h => h) HT2.out HN3.out.2 (by rw [← Tr.ents_len, HE2.out]; decide) (L := [atE 5, atE 4]) (k := 80) (by simp only [HN3.out.1, HE2.out, told_add3])).mono ?_); rintro e x9 ⟨t3, ns3, rfl, hz, hT, he⟩; have HB3 := Lib.hid hz; have HT3 := Lib.hid hT; have HE3 := Lib.hid he; clear hz hT he HN3 HA3 HT2 HE2))
  obtain ⟨ns, hns⟩ : ∃ z, z = (([] ++ ns1) ++ ns2) ++ ns3 := ⟨_, rfl⟩
  rw [← hns] at HB3 HT3
  clear hns
  have hfn := it_not_nil
  go_upto_region 6 with (first
    | (go_at_call 12; go_must (refine (all_any8 tg _).mono ?_); rintro e y1 ⟨c24, c83, rfl, hz⟩; have HB4 := Lib.hid (HB3.out.later hz.up); clear hz HB3)
    | (go_at_call 38; go_must (refine (at8_any 9 _).mono ?_); rintro e y2 ⟨s4, rfl, hse, hen, hb⟩; have HB5 := Lib.hid (HB4.out.later hb); have HN4 := Lib.hid (And.intro hse hen); clear hse hen hb HB4)
    | (go_at_call 28; go_must (refine (from_any tg s4 _ HN4.out.2 (by rw [HN4.out.1]; decide)).mono ?_); rintro e y3 ⟨d24, d83, d5, s5, rfl, _, _, hz⟩; have HB6 := Lib.hid (HB5.out.later hz.up); clear hz HB5))
  clear hfn
  go_wp2_with (first
    | (refine wl_alloc rfl rfl [.int .i64 0] (.inr ⟨.int .i64 0, by kernel_rfl, rfl⟩) HB6.out ?_; intro gi y4 hz _; have HB7 := Lib.hid (hz.perm List.perm_append_comm); clear hz HB6)
    | (refine wl_put1 rfl (.tmp 2) (.const (.int .i64 0)) rfl HB7.out 0 rfl 0 rfl (by simp) (.int .i64 0) rfl (by kernel_rfl) rfl ?_; intro y5 hz _; have HB8 := Lib.hid hz; clear hz HB7)
    | (go_at_call 12; go_must (refine (all_any8 tg _).mono ?_); rintro e y6 ⟨b24, b83, rfl, hz⟩; have HY : Hid (OW x1 (boxO gi [.int .i64 ((0 : Nat) : Int)] :: boxO b24 [.pointer (some ⟨tg, 0, none⟩)] :: boxO b83 [.func (.func 42) #[] #[]] :: boxO tg (tabC t3 false) :: ns) y6) := Lib.hid ((HB8.out.app hz).perm (told_perm0 _ _ _ _ _)); clear hz HB8))
  have hit := allIter tg b24 b83 t3 false
  rw [HE3.out] at hit
  have HIT := Lib.hid (HT3.out.it (os := boxO b24 [.pointer (some ⟨tg, 0, none⟩)] :: boxO b83 [.func (.func 42) #[] #[]] :: boxO tg (tabC t3 false) :: ns) fun o ho => .tail _ (.tail _ (.tail _ ho)))
  refine wp_rangeQ (w := x1) (L := [atE 5, atE 4]) (Hand := HandM) rfl (enters_of Try.func67 (by kernel_rfl) rfl) hit (fun _ _ _ _ h => h.ok)
    (fun pre os' => os' = boxO gi [.int .i64 (pre.length : Nat)] :: boxO b24 [.pointer (some ⟨tg, 0, none⟩)] :: boxO b83 [.func (.func 42) #[] #[]] :: boxO tg (tabC t3 false) :: ns) (fun _ _ _ => False) ?itr (os0 := boxO gi [.int .i64 ((0 : Nat) : Int)] :: boxO b24 [.pointer (some ⟨tg, 0, none⟩)] :: boxO b83 [.func (.func 42) #[] #[]] :: boxO tg (tabC t3 false) :: ns) rfl ⟨.tail _ (.head _), .tail _ (.tail _ (.head _)), .tail _ (.tail _ (.tail _ (.head _)))⟩ (HIT.out.more1 fun o ho => .tail _ ho) HY.out ?round ?done ?stop
  case itr =>
    rintro pre os' es rfl
    exact HIT.out.more1 fun o ho => List.mem_append_left _ (.tail _ ho)
  case stop => exact fun D c' pre os' z _ h => h.elim
  case round =>
    rintro l p1 p2 pre e vs W0 W1 os' _ hpre rfl h0 ⟨s, rfl, rfl, hec, hh⟩
    have hlt := pre_at8 hpre
    obtain ⟨m, hm⟩ : ∃ z, z = pre.length := ⟨_, rfl⟩
    rw [← hm] at hlt h0
    have hm2 : m < 2 := (List.getElem?_eq_some_iff.1 hlt).1
    have HSE : Hid (s.e = atE (5 - (m : Int))) := Lib.hid (by
      have h9 : m = 0 ∨ m = 1 := by omega
      rcases h9 with h9 | h9 <;> (subst h9; injection hlt with hlt; exact hlt.symm))
    have HM := Lib.hid hm
    have HEC := Lib.hid hec
    have s1 : IntKind.i64.wrap (5 - (m : Int)) = 5 - (m : Int) := i64_sum (by omega) (by omega)
    have s2 : IntKind.i64.wrap ((m : Int) + 1) = (m : Int) + 1 := i64_sum (by omega) (by omega)
    have HV : Hid (OW x1 ((clipO s.A s.e.row :: clipO s.B s.e.qual :: clipO s.D s.e.val :: boxO gi [.int .i64 (m : Nat)] :: boxO b24 [.pointer (some ⟨tg, 0, none⟩)] :: boxO b83 [.func (.func 42) #[] #[]] :: boxO tg (tabC t3 false) :: ns) ++ p1) W1) := Lib.hid ((h0.app hh).perm (perm4R _ _ _))
    clear hlt hpre h0 hh hec hm
    have hsem : ∀ (ρ : Operand → Value) (o : Oper), (∀ c, o.op ≠ .defer c) → Oper.semAt (some l) ρ o = execOp ρ o := fun ρ o h => Oper.semAt_some l ρ o h
    unfold RoundOK
    rw [setP1]
    simp only [List.setIfInBounds_toArray, List.set_cons_zero, List.set_cons_succ]
    gi_wp2_with (first
      | (refine wlIn_one rfl ?_; refine wl_alloc rfl rfl [.slice none 0 0, .int .i64 0, .slice none 0 0, .int .i64 0, .int .i64 0, .int .i64 0, .slice none 0 0] (.inl (by kernel_rfl)) HV.out ?_; intro gy z1 hz _; have HV1 := Lib.hid (hz.perm (perm4R _ _ _)); clear hz HV; refine wlIn_back ?_)
      | (refine wlIn_one rfl ?_; refine wl_put rfl (.tmp 3) (.tmp 41) rfl HV1.out 0 rfl rfl [.slice s.A s.e.row.length s.c, .int .i64 s.e.fam, .slice s.B s.e.qual.length s.d, .int .i64 s.e.ts, .int .i64 s.e.seq, .int .i64 s.e.kind, .slice s.D s.e.val.length s.q] rfl rfl (by kernel_rfl) (by simp [Value.oneCell']) ?_; intro z2 hz _; have HV2 : Hid (OW x1 ((boxO gy [.slice s.A s.e.row.length s.c, .int .i64 s.e.fam, .slice s.B s.e.qual.length s.d, .int .i64 s.e.ts, .int .i64 s.e.seq, .int .i64 s.e.kind, .slice s.D s.e.val.length s.q] :: clipO s.A s.e.row :: clipO s.B s.e.qual :: clipO s.D s.e.val :: boxO gi [.int .i64 (m : Nat)] :: boxO b24 [.pointer (some ⟨tg, 0, none⟩)] :: boxO b83 [.func (.func 42) #[] #[]] :: boxO tg (tabC t3 false) :: ns) ++ p1) z2) := Lib.hid hz; clear hz HV1; refine wlIn_back ?_))
    refine ⟨_, HV2.out, fun z3 hz3 => ?_⟩
    have HW3 : Hid (OW x1 ((boxO gy [.slice s.A s.e.row.length s.c, .int .i64 s.e.fam, .slice s.B s.e.qual.length s.d, .int .i64 s.e.ts, .int .i64 s.e.seq, .int .i64 s.e.kind, .slice s.D s.e.val.length s.q] :: clipO s.A s.e.row :: clipO s.B s.e.qual :: clipO s.D s.e.val :: boxO gi [.int .i64 (m : Nat)] :: boxO b24 [.pointer (some ⟨tg, 0, none⟩)] :: boxO b83 [.func (.func 42) #[] #[]] :: boxO tg (tabC t3 false) :: ns) ++ p2) z3) := Lib.hid hz3
    clear hz3 HV2
    gi_wp2
    refine lt_startIn [] (by kernel_rfl) (by kernel_rfl) (fun _ _ h => h) ?_
    intro xd hd
    refine ⟨fun z => Below z3.heap.size z3 z, ?_⟩
    have HS := Lib.hid (hd)
    refine lt_take 0 [4, 5] rfl (by kernel_rfl) (by kernel_rfl) (by kernel_rfl) (by kernel_rfl) (by kernel_rfl) (fun _ _ _ h => h) (yi_row rfl rfl rfl (fun w hS => (HW3.out.later hS).range (i := 0) rfl) ent_row8) HS.out ?_
    simp only [Act.put, List.setIfInBounds_toArray, List.set_cons_zero, List.set_cons_succ]
    refine lt_take 1 [2, 3, 4, 5] rfl (by kernel_rfl) (by kernel_rfl) (by kernel_rfl) (by kernel_rfl) (by kernel_rfl) (fun _ _ _ h => h) (yi_cell rfl rfl rfl (fun w hS => (HW3.out.later hS).cell (i := 4) (j := 0) rfl rfl) (fun w => Try.isAgg3 w)) HS.out ?_
    simp only [Act.put, List.setIfInBounds_toArray, List.set_cons_zero, List.set_cons_succ]
    refine lt_pure 2 rfl (by kernel_rfl) (by kernel_rfl) (by kernel_rfl) (by kernel_rfl) (fun _ _ _ h => h) (v := ?_) (yi_run rfl (fun w => ?_)) (fun _ => HS.out) ?_
    rotate_left
    · first | (go_simp; done) | (go_simp; with_reducible rfl)
    simp only [Act.put, List.setIfInBounds_toArray, List.set_cons_zero, List.set_cons_succ]
    refine lt_call 3 rfl (by kernel_rfl) rfl rfl ⟨_, Try.func38, by decide, by kernel_rfl⟩ [.int .i64 (5 - (m : Int))] rfl ?_
    refine (at8_any _ _).mono ?_
    rintro e y1 ⟨q, rfl, hq1, hq2, hb⟩
    have HQ1 := Lib.hid hq1
    have HQ2 := Lib.hid hq2
    replace HS := Lib.hid (HS.out.trans (hb.mono HS.out.size))
    clear hq1 hq2 hb
    refine ⟨_, rfl, fun _ => HS.out, ?_⟩
    simp only [Act.put, List.setIfInBounds_toArray, List.set_cons_zero, List.set_cons_succ]
    refine lt_call 4 rfl (by kernel_rfl) rfl rfl ⟨_, Try.func13, by decide, by kernel_rfl⟩ [.agg #[.slice s.A s.e.row.length s.c, .int .i64 s.e.fam, .slice s.B s.e.qual.length s.d, .int .i64 s.e.ts, .int .i64 s.e.seq, .int .i64 s.e.kind, .slice s.D s.e.val.length s.q], .agg #[.slice q.A q.e.row.length q.c, .int .i64 q.e.fam, .slice q.B q.e.qual.length q.d, .int .i64 q.e.ts, .int .i64 q.e.seq, .int .i64 q.e.kind, .slice q.D q.e.val.length q.q]] rfl ?_
    refine (sameEntry_yes s q _ (by rw [HSE.out, HQ1.out]) ((HEC.out.more cl_in).en (HW3.out.later HS.out)) HQ2.out).mono ?_
    rintro e y2 ⟨rfl, hb⟩
    replace HS := Lib.hid (HS.out.trans (hb.mono HS.out.size))
    clear hb
    refine ⟨_, rfl, fun _ => HS.out, ?_⟩
    simp only [Act.put, List.setIfInBounds_toArray, List.set_cons_zero, List.set_cons_succ]
    refine lt_pure 5 rfl (by kernel_rfl) (by kernel_rfl) (by kernel_rfl) (by kernel_rfl) (fun _ _ _ h => h) (v := ?_) (yi_run rfl (fun w => ?_)) (fun _ => HS.out) ?_
    rotate_left
    · first | (go_simp; done) | (go_simp; with_reducible rfl)
    simp only [Act.put, List.setIfInBounds_toArray, List.set_cons_zero, List.set_cons_succ]
    refine lt_done (by kernel_rfl) ?_
    replace HW3 := Lib.hid (HW3.out.later HS.out)
    clear HS
    gi_wp2_with (first
      | (refine wlIn_one rfl ?_; refine wpList_load_cell rfl 3 (.tmp 2) rfl rfl (HW3.out.cell (i := 4) (j := 0) rfl rfl) (fun w => Try.isAgg3 w) ?_; refine wlIn_back ?_)
      | (refine wlIn_one rfl ?_; refine wl_put1 rfl (.tmp 2) (.tmp 49) rfl HW3.out 4 rfl 0 rfl (by simp) (.int .i64 ((m : Int) + 1)) rfl (by kernel_rfl) rfl ?_; intro z5 hz _; have HZ := Lib.hid hz; clear hz HW3; refine wlIn_back ?_))
    refine ⟨_, rfl, ?_⟩
    rw [List.length_append, ← HM.out]
    exact (((HZ.out.erase 0).erase 0).erase 0).erase 0
  case done =>
    rintro D os' z rfl h
    have HZ := Lib.hid h
    clear h HY
    go_wp2_with (first
      | (refine wpList_load_cell rfl 3 (.tmp 2) rfl rfl (HZ.out.cell (i := 0) (j := 0) rfl rfl) (fun w => Try.isAgg3 w) ?_)
      | (refine wl_cell1 rfl (.tmp 0) (.tmp 51) rfl rfl (HG.out.cell' HZ.out.up) (HG.out.fz' HZ.out.up) (.bool true) rfl (by kernel_rfl) rfl ?_))
    exact HG.out.mark (es := []) HZ.out _ rfl rfl (fun w => Try.isAgg4 w) fun z' hb => ⟨rfl, hb⟩
end Go.Proofs.Ytdaoinhkagmbdaa
namespace Go.Proofs.Ytdaoinhkagmbdaa
open Go.RowKit
theorem wpList_to8 (N : Nat) {Q : Exit → Act → World → Prop} {ops : Array Oper} {rest : List Oper} {o : Oper} {a : Act} {w : World} (hgd : Region.wanted o (yielded ops a.tmps) = true) (x : Operand) (ho : o.op = .slice 22 x none (some (.const (.int .i64 (N : Nat)))) none) {A : Option Addr} {n c : Nat} (hx : a.eval x = .slice A n c) (hc : N ≤ c)
    (hK : wpList Try.prog ops Q rest (a.put o.dst (.slice A N c)) w) : wpList Try.prog ops Q (o :: rest) a w :=
  BigFrame.wpList_want hgd fun _ hk => by
    have hrun : (execOp a.eval o).run Try.prog w = .ok (.value (.slice A N c)) w := by
      obtain ⟨dst, op, type, pos, after, guard⟩ := o
      simp only at ho
      subst ho
      have hcI : (N : Int) ≤ (c : Int) := by omega
      have hel : Try.prog.underlying 22 = some (.slice (Try.prog.elem 22)) := by kernel_rfl
      have h1 := run_slice_h (P := Try.prog) (w := w) 22 A n c hel .i64 (N : Nat) (by omega) hcI
      have hz : ((sizeOf (Try.prog.elem 22)).run Try.prog w) = .ok 7 w := by kernel_rfl
      rw [hz] at h1
      have h2 := run_sliceAt_slice (P := Try.prog) (w := w) 22 (.slice A n c) none (some (.int .i64 (N : Nat))) none hel
      rw [h1] at h2
      have h3 : sliced A 0 (Int.toNat (N : Int)) c 7 = .slice A N c := by
        unfold sliced
        simp [Addr.add]
      simp only [Result.andThen, h3] at h2
      show ((Instr.sliceAt 22 (a.eval x) none (some (.int .i64 (N : Nat))) none) >>= fun v => pure (Next.value v)).run Try.prog w = _
      rw [hx]
      simp only [Sem.run_bind, h2, Result.andThen]
      rfl
    unfold Oper.wp
    rw [hrun, Oper.upon_value]
    exact hk _ _ hK
theorem Ens.er {w : World} {A : Option Addr} {n : Nat} {es : List Ent} (h : Ens w A n es) {k : Nat} (hk : k < n) : ∃ (b o : Nat) (r : ER), A = some ⟨b, o, none⟩ ∧ b < w.heap.size ∧ es[k]? = some r.e ∧ w.rangeAt b (o + k * 7) [.slice r.A r.e.row.length r.c, .int .i64 r.e.fam, .slice r.B r.e.qual.length r.d, .int .i64 r.e.ts, .int .i64 r.e.seq, .int .i64 r.e.kind, .slice r.D r.e.val.length r.q] ∧ r.En w := by
  obtain ⟨b, o, Ar, c, B, d, D, q, e, h1, h2, h3, h4, h5⟩ := h.at_ hk
  exact ⟨b, o, ⟨Ar, c, B, d, D, q, e⟩, h1, h2, h3, h4, h5⟩
theorem Col.ensm {rs : List ER} {pre : List Ent} (h : Col rs pre) {w x : World} {os : List Ob} {A : Option Addr} {n c : Nat} (hx : OW w os x) (hm : ∀ o, o ∈ listO8 A n c rs → o ∈ os) : Ens x A n pre := by
  obtain ⟨i, hi⟩ := List.getElem?_of_mem (hm (rowO 30 7 (.slice A n c) n (rs.flatMap ER.cells)) (.head _))
  rw [← h.e]
  exact OW.ens hx hi fun r hr => ((h.en r hr).more fun o ho => hm o (.tail _ ho)).en hx
end Go.Proofs.Ytdaoinhkagmbdaa
namespace Go.Proofs.Ytdaoinhkagmbdaa
open Go.RowKit
theorem hit_no {L : List Ent} {e : Ent} (h : ∀ x, x ∈ L → cmpE x e ≠ 0) : hitB L e = false := by
  unfold hitB
  split
  · rfl
  · rename_i x hx
    exact beq_eq_false_iff_ne.2 (h x (List.mem_of_getElem? hx))
theorem mem_insE {L : List Ent} {e x : Ent} (h : hitB L e = false) : x ∈ insE L e ↔ x = e ∨ x ∈ L := by
  have h0 : insE L e = L.take (insN L e) ++ e :: L.drop (insN L e) := by unfold insE; rw [if_neg (by rw [h]; exact Bool.noConfusion)]
  rw [h0, List.mem_append, List.mem_cons]
  have h1 : x ∈ L ↔ x ∈ L.take (insN L e) ∨ x ∈ L.drop (insN L e) := by
    rw [← List.mem_append, List.take_append_drop]
  rw [h1]
  constructor
  · rintro (h | h | h)
    · exact .inr (.inl h)
    · exact .inl h
    · exact .inr (.inr h)
  · rintro (h | h | h)
    · exact .inr (.inl h)
    · exact .inl h
    · exact .inr (.inr h)
theorem len_insE {L : List Ent} {e : Ent} (h : hitB L e = false) : (insE L e).length = L.length + 1 := by
  unfold insE
  rw [if_neg (by rw [h]; exact Bool.noConfusion), List.length_append, List.length_cons, List.length_take, List.length_drop]
  have := twN_le (fun x => decide (cmpE x e < 0)) L
  have h2 : insN L e ≤ L.length := this
  omega
theorem asc_ext : ∀ {A B : List Ent}, AscE A → AscE B → (∀ x, x ∈ A ↔ x ∈ B) → A = B
  | [], [], _, _, _ => rfl
  | [], b :: B, _, _, h => by have := (h b).2 (.head _); cases this
  | a :: A, [], _, _, h => by have := (h a).1 (.head _); cases this
  | a :: A, b :: B, hA, hB, h => by
    obtain ⟨a1, a2⟩ := List.pairwise_cons.1 hA
    obtain ⟨b1, b2⟩ := List.pairwise_cons.1 hB
    have hab : a = b := by
      rcases List.mem_cons.1 ((h a).1 (.head _)) with e | e
      · exact e
      · rcases List.mem_cons.1 ((h b).2 (.head _)) with e2 | e2
        · exact e2.symm
        · have h1 := b1 _ e
          have h2 := a1 _ e2
          have := ord_E.swap a b
          omega
    subst hab
    have hn : ∀ {L : List Ent}, (∀ x, x ∈ L → cmpE a x < 0) → a ∉ L := fun hL hm => by have := hL _ hm; have := cmpE_self a; omega
    rw [asc_ext a2 b2 fun x => ⟨fun hx => ?_, fun hx => ?_⟩]
    · rcases List.mem_cons.1 ((h x).1 (.tail _ hx)) with e | e
      · subst e; exact absurd hx (hn a1)
      · exact e
    · rcases List.mem_cons.1 ((h x).2 (.tail _ hx)) with e | e
      · subst e; exact absurd hx (hn b1)
      · exact e
structure Uq (l : List Ent) : Prop where
  chk : ∀ e, e ∈ l → checkE e = 0
  ne : l.Pairwise fun a b => cmpE a b ≠ 0
theorem Uq.nil : Uq [] := ⟨fun e h => (by cases h), List.Pairwise.nil⟩
theorem Uq.snoc {l : List Ent} {e : Ent} (h : Uq l) (hc : checkE e = 0) (hn : ∀ x, x ∈ l → cmpE x e ≠ 0) : Uq (l ++ [e]) :=
  ⟨fun x hx => by
    rcases List.mem_append.1 hx with hx | hx
    · exact h.chk x hx
    · rw [List.mem_singleton.1 hx]; exact hc, List.pairwise_append.2 ⟨h.ne, List.pairwise_singleton _ _, fun a ha b hb => by rw [List.mem_singleton.1 hb]; exact hn a ha⟩⟩
theorem Uq.at_ne {l : List Ent} (h : Uq l) {i j : Nat} {a b : Ent} (hi : l[i]? = some a) (hj : l[j]? = some b) (hij : i ≠ j) : cmpE a b ≠ 0 := by
  obtain ⟨h1, e1⟩ := List.getElem?_eq_some_iff.1 hi
  obtain ⟨h2, e2⟩ := List.getElem?_eq_some_iff.1 hj
  rcases Nat.lt_or_gt_of_ne hij with hlt | hlt
  · have := List.pairwise_iff_getElem.1 h.ne i j h1 h2 hlt
    rw [e1, e2] at this; exact this
  · have h3 := List.pairwise_iff_getElem.1 h.ne j i h2 h1 hlt
    rw [e1, e2] at h3
    have := ord_E.swap b a
    omega
structure Put (l : List Ent) (σ : Nat → Nat) (i : Nat) (L : List Ent) : Prop where
  mem : ∀ x, x ∈ L ↔ ∃ j, j < i ∧ l[σ j]? = some x
  len : L.length = i
theorem Put.nil (l : List Ent) (σ : Nat → Nat) : Put l σ 0 [] := ⟨fun x => ⟨fun h => (by cases h), fun ⟨j, h, _⟩ => absurd h (Nat.not_lt_zero j)⟩, rfl⟩
theorem Put.hit {l : List Ent} {σ : Nat → Nat} {i : Nat} {L : List Ent} (h : Put l σ i L) (hu : Uq l) (hσ : ∀ j, j < i → σ j ≠ σ i) {e : Ent} (he : l[σ i]? = some e) : hitB L e = false :=
  hit_no fun x hx => by
    obtain ⟨j, hj, hx⟩ := (h.mem x).1 hx
    exact hu.at_ne hx he (hσ j hj)
theorem Put.step {l : List Ent} {σ : Nat → Nat} {i : Nat} {L : List Ent} (h : Put l σ i L) {e : Ent} (he : l[σ i]? = some e) (hh : hitB L e = false) : Put l σ (i + 1) (insE L e) := by
  refine ⟨fun x => ?_, by rw [len_insE hh, h.len]⟩
  rw [mem_insE hh, h.mem x]
  constructor
  · rintro (rfl | ⟨j, hj, hx⟩)
    · exact ⟨i, Nat.lt_succ_self _, he⟩
    · exact ⟨j, Nat.lt_succ_of_lt hj, hx⟩
  · rintro ⟨j, hj, hx⟩
    rcases Nat.lt_succ_iff_lt_or_eq.1 hj with hj | rfl
    · exact .inr ⟨j, hj, hx⟩
    · rw [he] at hx; injection hx with hx; exact .inl hx.symm
def rotN (f n i : Nat) : Nat := if f + n - 1 - i < n then f + n - 1 - i else f + n - 1 - i - n
theorem rotN_mod {f n i : Nat} (hf : f ≤ n) (hi : i < n) : (f + n - 1 - i) % n = rotN f n i ∧ rotN f n i < n := by
  unfold rotN
  split
  · exact ⟨Nat.mod_eq_of_lt ‹_›, ‹_›⟩
  · have h1 : f + n - 1 - i - n < n := by omega
    exact ⟨by rw [Nat.mod_eq_sub_mod (by omega), Nat.mod_eq_of_lt h1], h1⟩
theorem rotN_ne {f n i j : Nat} (_hf : f ≤ n) (hi : i < n) (hj : j < i) : rotN f n j ≠ rotN f n i := by
  unfold rotN
  split <;> split <;> omega
theorem rotN_onto {f n k : Nat} (hf : f ≤ n) (hk : k < n) : ∃ j, j < n ∧ rotN f n j = k := by
  by_cases h : f ≤ k
  · exact ⟨f + n - 1 - k, by omega, by unfold rotN; rw [if_pos (by omega)]; omega⟩
  · exact ⟨f - 1 - k, by omega, by unfold rotN; rw [if_neg (by omega)]; omega⟩
theorem put_rot {l : List Ent} {f : Nat} {A B : List Ent} (hf : f ≤ l.length) (hA : AscE A) (hB : AscE B) (h1 : Put l id l.length A) (h2 : Put l (rotN f l.length) l.length B) : A = B :=
  asc_ext hA hB fun x => by
    rw [h1.mem, h2.mem]
    constructor
    · rintro ⟨j, hj, hx⟩
      obtain ⟨i, hi, he⟩ := rotN_onto hf hj
      exact ⟨i, hi, by rw [he]; exact hx⟩
    · rintro ⟨j, hj, hx⟩
      exact ⟨_, (rotN_mod hf hj).2, hx⟩
def In3 (k : Int) : Prop := k = -1 ∨ k = 0 ∨ k = 1
theorem In3.seq {a b : Int} (ha : In3 a) (hb : In3 b) : In3 (seqC a b) := by
  unfold seqC
  split
  · exact hb
  · exact ha
theorem in3_I (a b : Int) : In3 (cmpI a b) := by
  unfold cmpI In3
  (repeat' split) <;> simp
theorem in3_F (a b : Bool) : In3 (firstI a b) := by cases a <;> cases b <;> unfold In3 <;> decide
theorem in3_B : ∀ a b : List UInt8, In3 (cmpB a b)
  | [], [] => .inr (.inl (by rw [cmpB]))
  | [], _ :: _ => .inl (by rw [cmpB])
  | _ :: _, [] => .inr (.inr (by rw [cmpB]))
  | a :: x, b :: y => by
    rw [cmpB_cc]
    split
    · exact .inl rfl
    · split
      · exact .inr (.inr rfl)
      · exact in3_B x y
theorem in3_E (a b : Ent) : In3 (cmpE a b) :=
  (in3_B _ _).seq ((in3_I _ _).seq ((in3_F _ _).seq ((in3_B _ _).seq ((in3_F _ _).seq ((in3_I _ _).seq ((in3_I _ _).seq (in3_I _ _)))))))
theorem cmpE_low {a b : Ent} (h : cmpE a b < 0) : cmpE a b = -1 := by
  rcases in3_E a b with h1 | h1 | h1 <;> omega
end Go.Proofs.Ytdaoinhkagmbdaa
namespace Go.Proofs.Ytdaoinhkagmbdaa
open Go.RowKit
theorem rCheck8 (r : ER) (w : World) (h : r.En w) : Calls Try.prog 23 #[.agg #[.slice r.A r.e.row.length r.c, .int .i64 r.e.fam, .slice r.B r.e.qual.length r.d, .int .i64 r.e.ts, .int .i64 r.e.seq, .int .i64 r.e.kind, .slice r.D r.e.val.length r.q]] w fun e y => e = .returned (.int .i64 (checkE r.e)) ∧ Below w.heap.size w y := by
  have h1 := h.row.len
  have h2 := h.qual.len
  have h3 := h.val.len
  exact rCheck_any r.A r.e.row.length r.c r.e.fam r.B r.e.qual.length r.d r.e.ts r.e.seq r.e.kind r.D r.e.val.length r.q w
theorem rCompare8 (a b : ER) (w : World) (ha : a.En w) (hb : b.En w) : Calls Try.prog 24 #[.agg #[.slice a.A a.e.row.length a.c, .int .i64 a.e.fam, .slice a.B a.e.qual.length a.d, .int .i64 a.e.ts, .int .i64 a.e.seq, .int .i64 a.e.kind, .slice a.D a.e.val.length a.q], .agg #[.slice b.A b.e.row.length b.c, .int .i64 b.e.fam, .slice b.B b.e.qual.length b.d, .int .i64 b.e.ts, .int .i64 b.e.seq, .int .i64 b.e.kind, .slice b.D b.e.val.length b.q]] w fun e y => e = .returned (.int .i64 (cmpE a.e b.e)) ∧ Below w.heap.size w y :=
  rcompare_any a.e b.e a.A _ a.c a.B _ a.d a.D _ a.q b.A _ b.c b.B _ b.d b.D _ b.q w ha hb
theorem rowRange8 {w x : World} {os : List Ob} {i g c k j : Nat} {T : TypeId} {rs : List ER} {r : ER} (h : OW w os x) (hi : os[i]? = some (rowO T 7 (.slice (some ⟨g, 0, none⟩) k c) k (rs.flatMap ER.cells))) (hr : rs[j]? = some r) : x.rangeAt g (j * 7) [.slice r.A r.e.row.length r.c, .int .i64 r.e.fam, .slice r.B r.e.qual.length r.d, .int .i64 r.e.ts, .int .i64 r.e.seq, .int .i64 r.e.kind, .slice r.D r.e.val.length r.q] := fun q v hq => by
  have hq7 : q < 7 := (List.getElem?_eq_some_iff.1 hq).1
  have hrow := h.row hi
  have hjl : j < rs.length := (List.getElem?_eq_some_iff.1 hr).1
  have hlen : (rs.flatMap ER.cells).length = k * 7 := hrow.1
  rw [flat7_len] at hlen
  rw [World.ownsRow.cellAt hrow (j * 7 + q) (by omega), flat7_at hr q hq7]; exact hq
theorem tbytes_is {w x : World} {tg : Nat} {fr : Bool} {os : List Ob} {t : Tr} (h : OW w os x) (hm : boxO tg (tabC t fr) ∈ os) {n : Nat} (hn : sumP t.ents = n) : Calls Try.prog 25 #[.pointer (some ⟨tg, 0, none⟩)] x fun e z => e = .returned (.int .i64 (n : Nat)) ∧ z = x := by
  subst hn; exact tbytes_any h hm
theorem Compare8 (a b : ER) (w : World) (ha : a.En w) (hb : b.En w) : Calls Try.prog 27 #[.agg #[.slice a.A a.e.row.length a.c, .int .i64 a.e.fam, .slice a.B a.e.qual.length a.d, .int .i64 a.e.ts, .int .i64 a.e.seq, .int .i64 a.e.kind, .slice a.D a.e.val.length a.q], .agg #[.slice b.A b.e.row.length b.c, .int .i64 b.e.fam, .slice b.B b.e.qual.length b.d, .int .i64 b.e.ts, .int .i64 b.e.seq, .int .i64 b.e.kind, .slice b.D b.e.val.length b.q]] w fun e y => e = .returned (.int .i64 (cmpE a.e b.e)) ∧ Below w.heap.size w y :=
  compare_any a.e b.e a.A _ a.c a.B _ a.d a.D _ a.q b.A _ b.c b.B _ b.d b.D _ b.q w ha hb
theorem sumP_take {L : List Ent} {i : Nat} {e : Ent} (h : L[i]? = some e) : sumP (L.take (i + 1)) = sumP (L.take i) + (packB e).length := by
  unfold sumP
  rw [List.take_add_one, h]
  simp
theorem sumP_takele {L : List Ent} (h : ∀ e, e ∈ L → checkE e = 0) (i : Nat) : sumP (L.take i) ≤ 5200 * L.length :=
  Nat.le_trans (sumP_le fun e he => h e (List.mem_of_mem_take he)) (Nat.mul_le_mul_left _ (by rw [List.length_take]; omega))
def anyK (rs : List ER) (k : Nat) (e : Ent) : Bool := (rs.take k).any fun x => cmpE x.e e == 0
theorem anyK_succ {rs : List ER} {k : Nat} {e : Ent} {x : ER} (h : rs[k]? = some x) : anyK rs (k + 1) e = (anyK rs k e || (cmpE x.e e == 0)) := by
  obtain ⟨h1, h2⟩ := List.getElem?_eq_some_iff.1 h
  unfold anyK
  rw [List.take_add_one, h, List.any_append]
  simp
theorem anyK_no {rs : List ER} {k : Nat} {e : Ent} (hk : rs.length ≤ k) (h : anyK rs k e = false) : ∀ x, x ∈ rs.map ER.e → cmpE x e ≠ 0 := by
  intro x hx
  obtain ⟨r, hr, rfl⟩ := List.mem_map.1 hx
  unfold anyK at h
  rw [List.take_of_length_le hk, List.any_eq_false] at h
  intro he
  exact h r hr (by rw [he]; rfl)
set_option maxRecDepth 10000000 in
set_option maxHeartbeats 4000000 in
theorem any_any (la : List Ent) (A : Option Addr) (n0 c : Nat) (f0 : Int) (w : World) (hA : Ens w A n0 la) (hn0 : n0 ≤ c) (hc : c ≤ 9223372036854775807) :
    Calls Try.prog 5 #[.slice A n0 c, .int .i64 f0] w fun e z => e = .returned (.bool true) ∧ Below w.heap.size w z := by
  have HEA : Hid (∀ z, Below w.heap.size w z → Ens z A n0 la) := Lib.hid fun z hz => hA.later hz
  have HX := Lib.hid (OW.nil w)
  obtain ⟨n, hn⟩ : ∃ z, z = min n0 200 := ⟨_, rfl⟩
  have hnn : n ≤ n0 := by omega
  have hn200 : n ≤ 200 := by omega
  clear hA
  go_enter Try.func5, Try.ntmps5
  go_upto_if 22 with (go_at_call 8; go_must (refine (told_any8 _).mono ?_); rintro e x2 ⟨rfl, hb⟩; replace HX := Lib.hid (HX.out.later hb); clear hb)
  obtain ⟨w4, rfl⟩ : ∃ z : World, z = x2 := ⟨_, rfl⟩
  go_cut [0] (fun av wx => w4 = wx ∧ av = .slice A n c)
  case first =>
    by_cases hbig : 200 < n0
    · have hd : decide ((n0 : Int) > 200) = true := decide_eq_true (by omega)
      obtain rfl : n = 200 := by omega
      go_wp2_with (refine wpList_to8 200 rfl (.tmp 23) rfl rfl (by omega) ?_; simp only [Act.put, List.setIfInBounds_toArray, List.set_cons_zero, List.set_cons_succ])
      go_meet
      exact ⟨rfl, rfl⟩
    · have hd : decide ((n0 : Int) > 200) = false := decide_eq_false (by omega)
      obtain rfl : n = n0 := by omega
      go_wp2_with fail
      go_meet
      exact ⟨rfl, rfl⟩
  obtain ⟨rfl, rfl⟩ := hcut
  clear hn
  have tk1 : True := trivial
  go_wp2_with (first
    | (go_at_call 9; (have _t := tk1); go_must (refine (tnew_any _).mono ?_); rintro e x3 ⟨ga, rfl, hz⟩; have HA := Lib.hid (HX.out.app hz); clear hz HX tk1 _t)
    | (go_at_call 9; go_must (refine (tnew_any _).mono ?_); rintro e x4 ⟨gb, rfl, hz⟩; have HB : Hid (OW w [boxO ga (tabC .nil false), boxO gb (tabC .nil false), rowO 30 7 (.slice none 0 0) 0 (([] : List ER).flatMap ER.cells)] x4) := Lib.hid ((HA.out.app hz).nilRow 30 7); clear hz HA))
  go_loopw [7, 8, 9, 10] (fun lv iv tv kv wr => ∃ (i m lc : Nat) (lA : Option Addr) (rs : List ER), i ≤ n ∧ m ≤ i ∧ iv = .int .i64 i ∧ lv = .slice lA m lc ∧ rs.length = m ∧ Hid (Uq (rs.map ER.e)) ∧ Hid (∀ r, r ∈ rs → ∀ z, Below w.heap.size w z → r.En z) ∧ Hid (OW w [boxO ga (tabC .nil false), boxO gb (tabC .nil false), rowO 30 7 (.slice lA m lc) m (rs.flatMap ER.cells)] wr)) (fun _ iv _ _ _ => n - (intOf iv).toNat)
  case atStart => exact ⟨0, 0, 0, none, [], Nat.zero_le _, Nat.le_refl _, rfl, rfl, rfl, Lib.hid Uq.nil, Lib.hid (fun r h => (by cases h)), HB⟩
  case round =>
    clear HB
    obtain ⟨i, m, lc, lA, rs, hin, hmi, rfl, rfl, hrl, HU, HR, HZ⟩ := hrel
    by_cases hlt : i < n
    case neg =>
      obtain rfl : i = n := by omega
      have d1 : decide ((i : Int) < (i : Int)) = false := decide_eq_false (by omega)
      have hm2 : m ≤ 200 := by omega
      have hlm : (rs.map ER.e).length = m := by rw [List.length_map]; exact hrl
      go_upto_region 18 with fail
      obtain ⟨w5, rfl⟩ : ∃ z : World, z = wr := ⟨_, rfl⟩
      go_cut [74] from 18 to 189 (fun tv wx => w5 = wx ∧ ∃ bb : Bool, tv = .bool bb ∧ (bb = false → 0 ≤ f0 ∧ f0 ≤ (m : Int)))
      case first =>
        by_cases hf : f0 < 0
        · have e1 : decide (f0 < 0) = true := decide_eq_true hf
          go_wp2_with fail
          go_meet
          exact ⟨rfl, true, rfl, (fun h => nomatch h)⟩
        have e1 : decide (f0 < 0) = false := decide_eq_false hf
        by_cases hf2 : f0 > (m : Int)
        · have e2 : decide (f0 > (m : Int)) = true := decide_eq_true hf2
          go_wp2_with fail
          go_meet
          exact ⟨rfl, true, rfl, (fun h => nomatch h)⟩
        · have e2 : decide (f0 > (m : Int)) = false := decide_eq_false hf2
          go_wp2_with fail
          go_meet
          exact ⟨rfl, false, rfl, fun _ => ⟨by omega, by omega⟩⟩
      obtain ⟨rfl, bb, rfl, hbb⟩ := hcut
      have HBB := Lib.hid hbb
      clear hbb
      go_upto_if 74 with fail
      obtain ⟨w6, rfl⟩ : ∃ z : World, z = w5 := ⟨_, rfl⟩
      go_cut [1] from 18 to 189 (fun fv wx => w6 = wx ∧ ∃ f : Nat, f ≤ m ∧ fv = .int .i64 f)
      case first =>
        cases bb
        · go_wp2_with fail
          go_meet
          have h : 0 ≤ f0 ∧ f0 ≤ (m : Int) := by first | exact HBB.out rfl | exact HBB.out trivial
          exact ⟨rfl, f0.toNat, by omega, by rw [Int.toNat_of_nonneg h.1]⟩
        · go_wp2_with fail
          go_meet
          exact ⟨rfl, 0, Nat.zero_le _, rfl⟩
      obtain ⟨rfl, f, hfm, rfl⟩ := hcut
      clear d1
      go_wp2_with fail
      go_loopw [11] (fun iv wr => ∃ (j : Nat) (ta tb : Tr) (ns : List Ob), j ≤ m ∧ iv = .int .i64 j ∧ Hid (Put (rs.map ER.e) id j ta.ents) ∧ Hid (Put (rs.map ER.e) (rotN f m) j tb.ents) ∧ Hid (Tb ns ta) ∧ Hid (Tb ns tb) ∧ Hid (OW w (boxO ga (tabC ta false) :: boxO gb (tabC tb false) :: rowO 30 7 (.slice lA m lc) m (rs.flatMap ER.cells) :: ns) wr)) (fun iv _ => m - (intOf iv).toNat)
      case atStart => exact ⟨0, .nil, .nil, [], Nat.zero_le _, rfl, Lib.hid (Put.nil _ _), Lib.hid (Put.nil _ _), Lib.hid (Tb.nil _), Lib.hid (Tb.nil _), HZ⟩
      case round =>
        clear HZ
        obtain ⟨j, ta, tb, ns, hjm, rfl, HPA, HPB, HTA, HTB, HZ⟩ := hrel
        have hla : ta.list.length = j := by rw [← Tr.ents_len]; exact HPA.out.len
        have hlb : tb.list.length = j := by rw [← Tr.ents_len]; exact HPB.out.len
        by_cases hjl : j < m
        case neg =>
          obtain rfl : j = m := by omega
          have d1 : decide ((j : Int) < (j : Int)) = false := decide_eq_false (by omega)
          have HEQ : Hid (ta.ents = tb.ents) := Lib.hid (put_rot (l := rs.map ER.e) (f := f) (by omega) HTA.out.asc HTB.out.asc (by rw [hlm]; exact HPA.out) (by rw [hlm]; exact HPB.out))
          have HLA : Hid (ta.ents.length = j) := Lib.hid HPA.out.len
          have HLB : Hid (tb.ents.length = j) := Lib.hid HPB.out.len
          obtain ⟨sp, hsp⟩ : ∃ z, z = sumP ta.ents := ⟨_, rfl⟩
          have HSA : Hid (sumP ta.ents = sp) := Lib.hid hsp.symm
          have HSB : Hid (sumP tb.ents = sp) := Lib.hid (by rw [hsp, HEQ.out])
          clear hsp HPA HPB
          have tk4 : True := trivial
          have tk5 : True := trivial
          have tk6 : True := trivial
          go_upto_if 135 with (first
            | (go_at_call 11; (have _t := tk4); go_must (refine (rows_any8 HZ.out (.head _) (fun o ho => .tail _ (.tail _ (.tail _ ho))) HTA.out (by omega)).mono ?_); rintro e y1 ⟨A1, m1, c1, rs1, rfl, hl1, hcol, hz⟩; (obtain rfl : m1 = j := by have := HLA.out; omega); have HC1 := Lib.hid hcol; have HZ1 := Lib.hid hz; clear hl1 hcol hz tk4 _t)
            | (go_at_call 11; go_must (refine (rows_any8 HZ1.out (.tail _ (.head _)) (fun o ho => .tail _ (.tail _ (.tail _ (List.mem_append_left _ ho)))) HTB.out (by omega)).mono ?_); rintro e y2 ⟨A2, m2, c2, rs2, rfl, hl2, hcol, hz⟩; (obtain rfl : m2 = m1 := by have := HLB.out; omega); have HC2 := Lib.hid hcol; have HZ2 := Lib.hid hz; clear hl2 hcol hz HZ1)
            | (go_at_call 25; (have _t := tk5); go_must (refine (tbytes_is HZ2.out (.head _) HSA.out).mono ?_); rintro e y3 ⟨rfl, hz⟩; rw [hz]; clear hz tk5 _t)
            | (go_at_call 25; go_must (refine (tbytes_is HZ2.out (.tail _ (.head _)) HSB.out).mono ?_); rintro e y4 ⟨rfl, hz⟩; rw [hz]; clear hz)
            | (go_at_call 14; (have _t := tk6); go_must (refine (tlen_is HZ2.out (.head _) hla).mono ?_); rintro e y5 ⟨rfl, hz⟩; rw [hz]; clear hz tk6 _t)
            | (go_at_call 14; go_must (refine (tlen_is HZ2.out (.tail _ (.head _)) hlb).mono ?_); rintro e y6 ⟨rfl, hz⟩; rw [hz]; clear hz))
          go_wp2_with fail
          go_loopw [14, 15, 16, 17] (fun nv iv _ _ wr => ∃ (i2 sv : Nat), i2 ≤ m2 ∧ iv = .int .i64 i2 ∧ nv = .int .i64 (sv : Nat) ∧ Hid (sumP (ta.ents.take i2) = sv) ∧ Hid (OW w (((boxO ga (tabC ta false) :: boxO gb (tabC tb false) :: rowO 30 7 (.slice lA m2 lc) m2 (rs.flatMap ER.cells) :: ns) ++ listO8 A1 m2 c1 rs1) ++ listO8 A2 m2 c2 rs2) wr)) (fun _ iv _ _ _ => m2 - (intOf iv).toNat)
          case atStart => exact ⟨0, 0, Nat.zero_le _, rfl, rfl, Lib.hid rfl, HZ2⟩
          case round =>
            clear HZ2
            obtain ⟨i2, sv, hi2, rfl, rfl, HSV, HZ2⟩ := hrel
            by_cases hlt2 : i2 < m2
            case neg =>
              obtain rfl : i2 = m2 := by omega
              have d2 : decide ((i2 : Int) < (i2 : Int)) = false := decide_eq_false (by omega)
              obtain rfl : sp = sv := by
                have h := HSV.out
                rw [List.take_of_length_le (by rw [HLA.out]; exact Nat.le_refl _)] at h
                rw [← h]; exact HSA.out.symm
              have e1 : (sp == sp) = true := by simp
              have e2 : ((sp : Int) == (sp : Int)) = true := by simp
              go_wp2_with (go_at_call 25; go_must (refine (tbytes_is HZ2.out (.head _) HSA.out).mono ?_); rintro e y3 ⟨rfl, hz⟩; rw [hz]; clear hz)
              go_ret
              exact ⟨rfl, HZ2.out.up⟩
            have d2 : decide ((i2 : Int) < (m2 : Int)) = true := decide_eq_true (by omega)
            have i20 : (0 : Int) ≤ (i2 : Int) := by omega
            have i21 : (i2 : Int) < (m2 : Int) := by omega
            obtain ⟨b1, o1, x, rfl, hb1, hx, hrx, hex⟩ := (HC1.out.ensm HZ2.out (fun o ho => List.mem_append_left _ (List.mem_append_right _ ho))).er hlt2
            obtain ⟨b2, o2, y, rfl, hb2, hy, hry, hey⟩ := (HC2.out.ensm HZ2.out (fun o ho => List.mem_append_right _ ho)).er hlt2
            have HRX : Hid (∀ z, Below wr.heap.size wr z → z.rangeAt b1 (o1 + i2 * 7) [.slice x.A x.e.row.length x.c, .int .i64 x.e.fam, .slice x.B x.e.qual.length x.d, .int .i64 x.e.ts, .int .i64 x.e.seq, .int .i64 x.e.kind, .slice x.D x.e.val.length x.q]) := Lib.hid fun z hz j v hj => (hz.cell (p := ⟨b1, _, none⟩) hb1).trans (hrx j v hj)
            have HRY : Hid (∀ z, Below wr.heap.size wr z → z.rangeAt b2 (o2 + i2 * 7) [.slice y.A y.e.row.length y.c, .int .i64 y.e.fam, .slice y.B y.e.qual.length y.d, .int .i64 y.e.ts, .int .i64 y.e.seq, .int .i64 y.e.kind, .slice y.D y.e.val.length y.q]) := Lib.hid fun z hz j v hj => (hz.cell (p := ⟨b2, _, none⟩) hb2).trans (hry j v hj)
            have HXN : Hid (∀ z, Below wr.heap.size wr z → x.En z) := Lib.hid fun z hz => hex.later hz
            have HYN : Hid (∀ z, Below wr.heap.size wr z → y.En z) := Lib.hid fun z hz => hey.later hz
            have HXY : Hid (x.e = y.e) := Lib.hid (by rw [← HEQ.out] at hy; rw [hx] at hy; injection hy)
            have hck := HTA.out.chk _ (List.mem_of_getElem? hx)
            have HP : Hid (PackE x.e = (packB x.e, 0)) := Lib.hid (by unfold PackE; rw [if_pos hck])
            obtain ⟨pl, hpl⟩ : ∃ z, z = (packB x.e).length := ⟨_, rfl⟩
            have hpl2 := pack_le hck
            have HSV2 : Hid (sumP (ta.ents.take (i2 + 1)) = sv + pl) := Lib.hid (by rw [sumP_take hx, HSV.out, hpl])
            have hsv : sv ≤ 5200 * 200 := by
              have h1 := sumP_takele HTA.out.chk i2
              rw [HSV.out, HLA.out] at h1; omega
            rw [← hpl] at hpl2
            have HPL := Lib.hid hpl
            have HXI := Lib.hid hx
            clear hb1 hx hrx hex hb2 hy hry hey hck hpl
            go_wp2_with (first
              | (refine wpList_load_at rfl 30 (.tmp 145) rfl rfl (HRX.out _ (Below.refl _ _)) ent_row8 ?_)
              | (go_at_call 26; go_must (refine (pack_any x.e x.A _ x.c x.B _ x.d x.D _ x.q _ (HXN.out _ (Below.refl _ _))).mono ?_); rw [HP.out]; unfold BytesPost2; rw [← HPL.out]; rintro e y2 ⟨A9, c9, rfl, ho, hb⟩; have HB0 := Lib.hid hb; clear ho hb))
            by_cases h0 : 0 < i2
            case neg =>
              have d3 : decide ((i2 : Int) > 0) = false := decide_eq_false (by omega)
              have d4 : decide ((0 : Int) < (i2 : Int)) = false := decide_eq_false (by omega)
              have d5 : decide (0 < i2) = false := decide_eq_false h0
              refine lt_start [] (by kernel_rfl) ?_
              intro xd hd
              refine ⟨fun z => Below wr.heap.size wr z, ?_⟩
              have HS := Lib.hid (HB0.out.trans (hd.mono HB0.out.size))
              refine lt_pure 0 rfl (by kernel_rfl) (by kernel_rfl) (by kernel_rfl) (by kernel_rfl) (fun _ _ _ h => h) (v := ?_) (yi_run rfl (fun w => ?_)) (fun _ => HS.out) ?_
              rotate_left
              · first | (go_simp; done) | (go_simp; with_reducible rfl)
              simp only [Act.put, List.setIfInBounds_toArray, List.set_cons_zero, List.set_cons_succ]
              refine lt_pure 1 rfl (by kernel_rfl) (by kernel_rfl) (by kernel_rfl) (by kernel_rfl) (fun _ _ _ h => h) (v := ?_) (yi_run rfl (fun w => ?_)) (fun _ => HS.out) ?_
              rotate_left
              · first | (go_simp; done) | (go_simp; with_reducible rfl)
              simp only [Act.put, List.setIfInBounds_toArray, List.set_cons_zero, List.set_cons_succ]
              refine lt_pure 2 rfl (by kernel_rfl) (by kernel_rfl) (by kernel_rfl) (by kernel_rfl) (fun _ _ _ h => h) (v := ?_) (yi_run rfl (fun w => ?_)) (fun _ => HS.out) ?_
              rotate_left
              · first | (go_simp; done) | (go_simp; with_reducible rfl)
              simp only [Act.put, List.setIfInBounds_toArray, List.set_cons_zero, List.set_cons_succ]
              refine lt_pure 3 rfl (by kernel_rfl) (by kernel_rfl) (by kernel_rfl) (by kernel_rfl) (fun _ _ _ h => h) (v := ?_) (yi_run rfl (fun w => ?_)) (fun _ => HS.out) ?_
              rotate_left
              · first | (go_simp; done) | (go_simp; with_reducible rfl)
              simp only [Act.put, List.setIfInBounds_toArray, List.set_cons_zero, List.set_cons_succ]
              refine lt_pure 4 rfl (by kernel_rfl) (by kernel_rfl) (by kernel_rfl) (by kernel_rfl) (fun _ _ _ h => h) (v := ?_) (yi_run rfl (fun w => ?_)) (fun _ => HS.out) ?_
              rotate_left
              · first | (go_simp; done) | (go_simp; with_reducible rfl)
              simp only [Act.put, List.setIfInBounds_toArray, List.set_cons_zero, List.set_cons_succ]
              refine lt_pure 5 rfl (by kernel_rfl) (by kernel_rfl) (by kernel_rfl) (by kernel_rfl) (fun _ _ _ h => h) (v := ?_) (yi_run rfl (fun w => ?_)) (fun _ => HS.out) ?_
              rotate_left
              · first | (go_simp; done) | (go_simp; with_reducible rfl)
              simp only [Act.put, List.setIfInBounds_toArray, List.set_cons_zero, List.set_cons_succ]
              refine lt_take 6 [11, 12, 13, 14, 15, 16, 17, 18, 19, 20, 21, 22, 23, 24, 25, 26, 27, 28, 29, 30] rfl (by kernel_rfl) (by kernel_rfl) (by kernel_rfl) (by kernel_rfl) (by kernel_rfl) (fun _ _ _ h => h) (yi_rowO rfl rfl rfl (fun w hS => HRX.out w hS) ent_row8) HS.out ?_
              simp only [Act.put, List.setIfInBounds_toArray, List.set_cons_zero, List.set_cons_succ]
              refine lt_pure 7 rfl (by kernel_rfl) (by kernel_rfl) (by kernel_rfl) (by kernel_rfl) (fun _ _ _ h => h) (v := ?_) (yi_run rfl (fun w => ?_)) (fun _ => HS.out) ?_
              rotate_left
              · first | (go_simp; done) | (go_simp; with_reducible rfl)
              simp only [Act.put, List.setIfInBounds_toArray, List.set_cons_zero, List.set_cons_succ]
              refine lt_pure 8 rfl (by kernel_rfl) (by kernel_rfl) (by kernel_rfl) (by kernel_rfl) (fun _ _ _ h => h) (v := ?_) (yi_run rfl (fun w => ?_)) (fun _ => HS.out) ?_
              rotate_left
              · first | (go_simp; done) | (go_simp; with_reducible rfl)
              simp only [Act.put, List.setIfInBounds_toArray, List.set_cons_zero, List.set_cons_succ]
              refine lt_pure 9 rfl (by kernel_rfl) (by kernel_rfl) (by kernel_rfl) (by kernel_rfl) (fun _ _ _ h => h) (v := ?_) (yi_run rfl (fun w => ?_)) (fun _ => HS.out) ?_
              rotate_left
              · first | (go_simp; done) | (go_simp; with_reducible rfl)
              simp only [Act.put, List.setIfInBounds_toArray, List.set_cons_zero, List.set_cons_succ]
              refine lt_take 10 [11, 12, 13, 14, 15, 16, 17, 18, 19, 20, 21, 22, 23, 24, 25, 26, 27, 28, 29, 30] rfl (by kernel_rfl) (by kernel_rfl) (by kernel_rfl) (by kernel_rfl) (by kernel_rfl) (fun _ _ _ h => h) (yi_rowO rfl rfl rfl (fun w hS => HRY.out w hS) ent_row8) HS.out ?_
              simp only [Act.put, List.setIfInBounds_toArray, List.set_cons_zero, List.set_cons_succ]
              refine lt_call 11 rfl (by kernel_rfl) rfl rfl ⟨_, Try.func13, by decide, by kernel_rfl⟩ [.agg #[.slice x.A x.e.row.length x.c, .int .i64 x.e.fam, .slice x.B x.e.qual.length x.d, .int .i64 x.e.ts, .int .i64 x.e.seq, .int .i64 x.e.kind, .slice x.D x.e.val.length x.q], .agg #[.slice y.A y.e.row.length y.c, .int .i64 y.e.fam, .slice y.B y.e.qual.length y.d, .int .i64 y.e.ts, .int .i64 y.e.seq, .int .i64 y.e.kind, .slice y.D y.e.val.length y.q]] rfl ?_
              refine (sameEntry_yes x y _ HXY.out (HXN.out _ HS.out) (HYN.out _ HS.out)).mono ?_
              rintro e y3 ⟨rfl, hb⟩
              replace HS := Lib.hid (HS.out.trans (hb.mono HS.out.size))
              clear hb
              refine ⟨_, rfl, fun _ => HS.out, ?_⟩
              simp only [Act.put, List.setIfInBounds_toArray, List.set_cons_zero, List.set_cons_succ]
              refine lt_pure 12 rfl (by kernel_rfl) (by kernel_rfl) (by kernel_rfl) (by kernel_rfl) (fun _ _ _ h => h) (v := ?_) (yi_run rfl (fun w => ?_)) (fun _ => HS.out) ?_
              rotate_left
              · first | (go_simp; done) | (go_simp; with_reducible rfl)
              simp only [Act.put, List.setIfInBounds_toArray, List.set_cons_zero, List.set_cons_succ]
              refine lt_pure 13 rfl (by kernel_rfl) (by kernel_rfl) (by kernel_rfl) (by kernel_rfl) (fun _ _ _ h => h) (v := ?_) (yi_run rfl (fun w => ?_)) (fun _ => HS.out) ?_
              rotate_left
              · first | (go_simp; done) | (go_simp; with_reducible rfl)
              simp only [Act.put, List.setIfInBounds_toArray, List.set_cons_zero, List.set_cons_succ]
              refine lt_pure 14 rfl (by kernel_rfl) (by kernel_rfl) (by kernel_rfl) (by kernel_rfl) (fun _ _ _ h => h) (v := ?_) (yi_run rfl (fun w => ?_)) (fun _ => HS.out) ?_
              rotate_left
              · first | (go_simp; done) | (go_simp; with_reducible rfl)
              simp only [Act.put, List.setIfInBounds_toArray, List.set_cons_zero, List.set_cons_succ]
              refine lt_pure 15 rfl (by kernel_rfl) (by kernel_rfl) (by kernel_rfl) (by kernel_rfl) (fun _ _ _ h => h) (v := ?_) (yi_run rfl (fun w => ?_)) (fun _ => HS.out) ?_
              rotate_left
              · first | (go_simp; done) | (go_simp; with_reducible rfl)
              simp only [Act.put, List.setIfInBounds_toArray, List.set_cons_zero, List.set_cons_succ]
              refine lt_pure 16 rfl (by kernel_rfl) (by kernel_rfl) (by kernel_rfl) (by kernel_rfl) (fun _ _ _ h => h) (v := ?_) (yi_run rfl (fun w => ?_)) (fun _ => HS.out) ?_
              rotate_left
              · first | (go_simp; done) | (go_simp; with_reducible rfl)
              simp only [Act.put, List.setIfInBounds_toArray, List.set_cons_zero, List.set_cons_succ]
              refine lt_pure 17 rfl (by kernel_rfl) (by kernel_rfl) (by kernel_rfl) (by kernel_rfl) (fun _ _ _ h => h) (v := ?_) (yi_run rfl (fun w => ?_)) (fun _ => HS.out) ?_
              rotate_left
              · first | (go_simp; done) | (go_simp; with_reducible rfl)
              simp only [Act.put, List.setIfInBounds_toArray, List.set_cons_zero, List.set_cons_succ]
              refine lt_skip 18 rfl (by kernel_rfl) (by kernel_rfl) (by kernel_rfl) (by kernel_rfl) (fun _ _ _ h => h) rfl (fun _ => HS.out) ?_
              simp only [Act.put, List.setIfInBounds_toArray, List.set_cons_zero, List.set_cons_succ]
              refine lt_skip 19 rfl (by kernel_rfl) (by kernel_rfl) (by kernel_rfl) (by kernel_rfl) (fun _ _ _ h => h) rfl (fun _ => HS.out) ?_
              simp only [Act.put, List.setIfInBounds_toArray, List.set_cons_zero, List.set_cons_succ]
              refine lt_skip 20 rfl (by kernel_rfl) (by kernel_rfl) (by kernel_rfl) (by kernel_rfl) (fun _ _ _ h => h) rfl (fun _ => HS.out) ?_
              simp only [Act.put, List.setIfInBounds_toArray, List.set_cons_zero, List.set_cons_succ]
              refine lt_skip 21 rfl (by kernel_rfl) (by kernel_rfl) (by kernel_rfl) (by kernel_rfl) (fun _ _ _ h => h) rfl (fun _ => HS.out) ?_
              simp only [Act.put, List.setIfInBounds_toArray, List.set_cons_zero, List.set_cons_succ]
              refine lt_skip 22 rfl (by kernel_rfl) (by kernel_rfl) (by kernel_rfl) (by kernel_rfl) (fun _ _ _ h => h) rfl (fun _ => HS.out) ?_
              simp only [Act.put, List.setIfInBounds_toArray, List.set_cons_zero, List.set_cons_succ]
              refine lt_skip 23 rfl (by kernel_rfl) (by kernel_rfl) (by kernel_rfl) (by kernel_rfl) (fun _ _ _ h => h) rfl (fun _ => HS.out) ?_
              simp only [Act.put, List.setIfInBounds_toArray, List.set_cons_zero, List.set_cons_succ]
              refine lt_skip 24 rfl (by kernel_rfl) (by kernel_rfl) (by kernel_rfl) (by kernel_rfl) (fun _ _ _ h => h) rfl (fun _ => HS.out) ?_
              simp only [Act.put, List.setIfInBounds_toArray, List.set_cons_zero, List.set_cons_succ]
              refine lt_skip 25 rfl (by kernel_rfl) (by kernel_rfl) (by kernel_rfl) (by kernel_rfl) (fun _ _ _ h => h) rfl (fun _ => HS.out) ?_
              simp only [Act.put, List.setIfInBounds_toArray, List.set_cons_zero, List.set_cons_succ]
              refine lt_skip 26 rfl (by kernel_rfl) (by kernel_rfl) (by kernel_rfl) (by kernel_rfl) (fun _ _ _ h => h) rfl (fun _ => HS.out) ?_
              simp only [Act.put, List.setIfInBounds_toArray, List.set_cons_zero, List.set_cons_succ]
              refine lt_skip 27 rfl (by kernel_rfl) (by kernel_rfl) (by kernel_rfl) (by kernel_rfl) (fun _ _ _ h => h) rfl (fun _ => HS.out) ?_
              simp only [Act.put, List.setIfInBounds_toArray, List.set_cons_zero, List.set_cons_succ]
              refine lt_skip 28 rfl (by kernel_rfl) (by kernel_rfl) (by kernel_rfl) (by kernel_rfl) (fun _ _ _ h => h) rfl (fun _ => HS.out) ?_
              simp only [Act.put, List.setIfInBounds_toArray, List.set_cons_zero, List.set_cons_succ]
              refine lt_pure 29 rfl (by kernel_rfl) (by kernel_rfl) (by kernel_rfl) (by kernel_rfl) (fun _ _ _ h => h) (v := ?_) (yi_run rfl (fun w => ?_)) (fun _ => HS.out) ?_
              rotate_left
              · first | (go_simp; done) | (go_simp; with_reducible rfl)
              simp only [Act.put, List.setIfInBounds_toArray, List.set_cons_zero, List.set_cons_succ]
              refine lt_pure 30 rfl (by kernel_rfl) (by kernel_rfl) (by kernel_rfl) (by kernel_rfl) (fun _ _ _ h => h) (v := ?_) (yi_run rfl (fun w => ?_)) (fun _ => HS.out) ?_
              rotate_left
              · first | (go_simp; done) | (go_simp; with_reducible rfl)
              simp only [Act.put, List.setIfInBounds_toArray, List.set_cons_zero, List.set_cons_succ]
              refine lt_done (by kernel_rfl) ?_
              replace HZ2 := Lib.hid (HZ2.out.later HS.out)
              clear HS
              go_wp2_with fail
              go_roundw
              case rel => exact ⟨i2 + 1, sv + pl, by omega, by go_num, by go_num, HSV2, HZ2⟩
              case measure => simp [intOf]; omega
            have d3 : decide ((i2 : Int) > 0) = true := decide_eq_true (by omega)
            have d4 : decide ((0 : Int) < (i2 : Int)) = true := decide_eq_true (by omega)
            have d5 : decide (0 < i2) = true := decide_eq_true h0
            obtain ⟨p, hp⟩ : ∃ p, p + 1 = i2 := ⟨i2 - 1, by omega⟩
            have s1 : IntKind.i64.wrap ((i2 : Int) - 1) = (p : Int) := by rw [show (i2 : Int) - 1 = (p : Int) from by omega]; exact i64_sum (by omega) (by omega)
            have p0 : (0 : Int) ≤ (p : Int) := by omega
            have p1 : (p : Int) < (m2 : Int) := by omega
            obtain ⟨b3, o3, xp, hA, hb3, hxp, hrp, hep⟩ := (HC1.out.ensm HZ2.out (fun o ho => List.mem_append_left _ (List.mem_append_right _ ho))).er (k := p) (by omega)
            injection hA with hA
            injection hA with hA1 hA2
            subst hA1
            subst hA2
            have HRP : Hid (∀ z, Below wr.heap.size wr z → z.rangeAt b1 (o1 + p * 7) [.slice xp.A xp.e.row.length xp.c, .int .i64 xp.e.fam, .slice xp.B xp.e.qual.length xp.d, .int .i64 xp.e.ts, .int .i64 xp.e.seq, .int .i64 xp.e.kind, .slice xp.D xp.e.val.length xp.q]) := Lib.hid fun z hz j v hj => (hz.cell (p := ⟨b1, _, none⟩) hb3).trans (hrp j v hj)
            have HPN : Hid (∀ z, Below wr.heap.size wr z → xp.En z) := Lib.hid fun z hz => hep.later hz
            have HLO : Hid (cmpE xp.e x.e = -1) := Lib.hid (cmpE_low (by
              obtain ⟨g1, e1⟩ := List.getElem?_eq_some_iff.1 hxp
              obtain ⟨g2, e2⟩ := List.getElem?_eq_some_iff.1 HXI.out
              have h9 := List.pairwise_iff_getElem.1 HTA.out.asc p i2 g1 g2 (by omega)
              rw [e1, e2] at h9; exact h9))
            clear hb3 hxp hrp hep hp
            refine lt_start [] (by kernel_rfl) ?_
            intro xd hd
            refine ⟨fun z => Below wr.heap.size wr z, ?_⟩
            have HS := Lib.hid (HB0.out.trans (hd.mono HB0.out.size))
            refine lt_pure 0 rfl (by kernel_rfl) (by kernel_rfl) (by kernel_rfl) (by kernel_rfl) (fun _ _ _ h => h) (v := ?_) (yi_run rfl (fun w => ?_)) (fun _ => HS.out) ?_
            rotate_left
            · first | (go_simp; done) | (go_simp; with_reducible rfl)
            simp only [Act.put, List.setIfInBounds_toArray, List.set_cons_zero, List.set_cons_succ]
            refine lt_pure 1 rfl (by kernel_rfl) (by kernel_rfl) (by kernel_rfl) (by kernel_rfl) (fun _ _ _ h => h) (v := ?_) (yi_run rfl (fun w => ?_)) (fun _ => HS.out) ?_
            rotate_left
            · first | (go_simp; done) | (go_simp; with_reducible rfl)
            simp only [Act.put, List.setIfInBounds_toArray, List.set_cons_zero, List.set_cons_succ]
            refine lt_pure 2 rfl (by kernel_rfl) (by kernel_rfl) (by kernel_rfl) (by kernel_rfl) (fun _ _ _ h => h) (v := ?_) (yi_run rfl (fun w => ?_)) (fun _ => HS.out) ?_
            rotate_left
            · first | (go_simp; done) | (go_simp; with_reducible rfl)
            simp only [Act.put, List.setIfInBounds_toArray, List.set_cons_zero, List.set_cons_succ]
            refine lt_pure 3 rfl (by kernel_rfl) (by kernel_rfl) (by kernel_rfl) (by kernel_rfl) (fun _ _ _ h => h) (v := ?_) (yi_run rfl (fun w => ?_)) (fun _ => HS.out) ?_
            rotate_left
            · first | (go_simp; done) | (go_simp; with_reducible rfl)
            simp only [Act.put, List.setIfInBounds_toArray, List.set_cons_zero, List.set_cons_succ]
            refine lt_pure 4 rfl (by kernel_rfl) (by kernel_rfl) (by kernel_rfl) (by kernel_rfl) (fun _ _ _ h => h) (v := ?_) (yi_run rfl (fun w => ?_)) (fun _ => HS.out) ?_
            rotate_left
            · first | (go_simp; done) | (go_simp; with_reducible rfl)
            simp only [Act.put, List.setIfInBounds_toArray, List.set_cons_zero, List.set_cons_succ]
            refine lt_pure 5 rfl (by kernel_rfl) (by kernel_rfl) (by kernel_rfl) (by kernel_rfl) (fun _ _ _ h => h) (v := ?_) (yi_run rfl (fun w => ?_)) (fun _ => HS.out) ?_
            rotate_left
            · first | (go_simp; done) | (go_simp; with_reducible rfl)
            simp only [Act.put, List.setIfInBounds_toArray, List.set_cons_zero, List.set_cons_succ]
            refine lt_take 6 [11, 12, 13, 14, 15, 16, 17, 18, 19, 20, 21, 22, 23, 24, 25, 26, 27, 28, 29, 30] rfl (by kernel_rfl) (by kernel_rfl) (by kernel_rfl) (by kernel_rfl) (by kernel_rfl) (fun _ _ _ h => h) (yi_rowO rfl rfl rfl (fun w hS => HRX.out w hS) ent_row8) HS.out ?_
            simp only [Act.put, List.setIfInBounds_toArray, List.set_cons_zero, List.set_cons_succ]
            refine lt_pure 7 rfl (by kernel_rfl) (by kernel_rfl) (by kernel_rfl) (by kernel_rfl) (fun _ _ _ h => h) (v := ?_) (yi_run rfl (fun w => ?_)) (fun _ => HS.out) ?_
            rotate_left
            · first | (go_simp; done) | (go_simp; with_reducible rfl)
            simp only [Act.put, List.setIfInBounds_toArray, List.set_cons_zero, List.set_cons_succ]
            refine lt_pure 8 rfl (by kernel_rfl) (by kernel_rfl) (by kernel_rfl) (by kernel_rfl) (fun _ _ _ h => h) (v := ?_) (yi_run rfl (fun w => ?_)) (fun _ => HS.out) ?_
            rotate_left
            · first | (go_simp; done) | (go_simp; with_reducible rfl)
            simp only [Act.put, List.setIfInBounds_toArray, List.set_cons_zero, List.set_cons_succ]
            refine lt_pure 9 rfl (by kernel_rfl) (by kernel_rfl) (by kernel_rfl) (by kernel_rfl) (fun _ _ _ h => h) (v := ?_) (yi_run rfl (fun w => ?_)) (fun _ => HS.out) ?_
            rotate_left
            · first | (go_simp; done) | (go_simp; with_reducible rfl)
            simp only [Act.put, List.setIfInBounds_toArray, List.set_cons_zero, List.set_cons_succ]
            refine lt_take 10 [11, 12, 13, 14, 15, 16, 17, 18, 19, 20, 21, 22, 23, 24, 25, 26, 27, 28, 29, 30] rfl (by kernel_rfl) (by kernel_rfl) (by kernel_rfl) (by kernel_rfl) (by kernel_rfl) (fun _ _ _ h => h) (yi_rowO rfl rfl rfl (fun w hS => HRY.out w hS) ent_row8) HS.out ?_
            simp only [Act.put, List.setIfInBounds_toArray, List.set_cons_zero, List.set_cons_succ]
            refine lt_call 11 rfl (by kernel_rfl) rfl rfl ⟨_, Try.func13, by decide, by kernel_rfl⟩ [.agg #[.slice x.A x.e.row.length x.c, .int .i64 x.e.fam, .slice x.B x.e.qual.length x.d, .int .i64 x.e.ts, .int .i64 x.e.seq, .int .i64 x.e.kind, .slice x.D x.e.val.length x.q], .agg #[.slice y.A y.e.row.length y.c, .int .i64 y.e.fam, .slice y.B y.e.qual.length y.d, .int .i64 y.e.ts, .int .i64 y.e.seq, .int .i64 y.e.kind, .slice y.D y.e.val.length y.q]] rfl ?_
            refine (sameEntry_yes x y _ HXY.out (HXN.out _ HS.out) (HYN.out _ HS.out)).mono ?_
            rintro e y3 ⟨rfl, hb⟩
            replace HS := Lib.hid (HS.out.trans (hb.mono HS.out.size))
            clear hb
            refine ⟨_, rfl, fun _ => HS.out, ?_⟩
            simp only [Act.put, List.setIfInBounds_toArray, List.set_cons_zero, List.set_cons_succ]
            refine lt_pure 12 rfl (by kernel_rfl) (by kernel_rfl) (by kernel_rfl) (by kernel_rfl) (fun _ _ _ h => h) (v := ?_) (yi_run rfl (fun w => ?_)) (fun _ => HS.out) ?_
            rotate_left
            · first | (go_simp; done) | (go_simp; with_reducible rfl)
            simp only [Act.put, List.setIfInBounds_toArray, List.set_cons_zero, List.set_cons_succ]
            refine lt_pure 13 rfl (by kernel_rfl) (by kernel_rfl) (by kernel_rfl) (by kernel_rfl) (fun _ _ _ h => h) (v := ?_) (yi_run rfl (fun w => ?_)) (fun _ => HS.out) ?_
            rotate_left
            · first | (go_simp; done) | (go_simp; with_reducible rfl)
            simp only [Act.put, List.setIfInBounds_toArray, List.set_cons_zero, List.set_cons_succ]
            refine lt_pure 14 rfl (by kernel_rfl) (by kernel_rfl) (by kernel_rfl) (by kernel_rfl) (fun _ _ _ h => h) (v := ?_) (yi_run rfl (fun w => ?_)) (fun _ => HS.out) ?_
            rotate_left
            · first | (go_simp; done) | (go_simp; with_reducible rfl)
            simp only [Act.put, List.setIfInBounds_toArray, List.set_cons_zero, List.set_cons_succ]
            refine lt_pure 15 rfl (by kernel_rfl) (by kernel_rfl) (by kernel_rfl) (by kernel_rfl) (fun _ _ _ h => h) (v := ?_) (yi_run rfl (fun w => ?_)) (fun _ => HS.out) ?_
            rotate_left
            · first | (go_simp; done) | (go_simp; with_reducible rfl)
            simp only [Act.put, List.setIfInBounds_toArray, List.set_cons_zero, List.set_cons_succ]
            refine lt_pure 16 rfl (by kernel_rfl) (by kernel_rfl) (by kernel_rfl) (by kernel_rfl) (fun _ _ _ h => h) (v := ?_) (yi_run rfl (fun w => ?_)) (fun _ => HS.out) ?_
            rotate_left
            · first | (go_simp; done) | (go_simp; with_reducible rfl)
            simp only [Act.put, List.setIfInBounds_toArray, List.set_cons_zero, List.set_cons_succ]
            refine lt_pure 17 rfl (by kernel_rfl) (by kernel_rfl) (by kernel_rfl) (by kernel_rfl) (fun _ _ _ h => h) (v := ?_) (yi_run rfl (fun w => ?_)) (fun _ => HS.out) ?_
            rotate_left
            · first | (go_simp; done) | (go_simp; with_reducible rfl)
            simp only [Act.put, List.setIfInBounds_toArray, List.set_cons_zero, List.set_cons_succ]
            refine lt_pure 18 rfl (by kernel_rfl) (by kernel_rfl) (by kernel_rfl) (by kernel_rfl) (fun _ _ _ h => h) (v := ?_) (yi_run rfl (fun w => ?_)) (fun _ => HS.out) ?_
            rotate_left
            · first | (go_simp; done) | (go_simp; with_reducible rfl)
            simp only [Act.put, List.setIfInBounds_toArray, List.set_cons_zero, List.set_cons_succ]
            refine lt_pure 19 rfl (by kernel_rfl) (by kernel_rfl) (by kernel_rfl) (by kernel_rfl) (fun _ _ _ h => h) (v := ?_) (yi_run rfl (fun w => ?_)) (fun _ => HS.out) ?_
            rotate_left
            · first | (go_simp; done) | (go_simp; with_reducible rfl)
            simp only [Act.put, List.setIfInBounds_toArray, List.set_cons_zero, List.set_cons_succ]
            refine lt_pure 20 rfl (by kernel_rfl) (by kernel_rfl) (by kernel_rfl) (by kernel_rfl) (fun _ _ _ h => h) (v := ?_) (yi_run rfl (fun w => ?_)) (fun _ => HS.out) ?_
            rotate_left
            · first | (go_simp; done) | (go_simp; with_reducible rfl)
            simp only [Act.put, List.setIfInBounds_toArray, List.set_cons_zero, List.set_cons_succ]
            refine lt_pure 21 rfl (by kernel_rfl) (by kernel_rfl) (by kernel_rfl) (by kernel_rfl) (fun _ _ _ h => h) (v := ?_) (yi_run rfl (fun w => ?_)) (fun _ => HS.out) ?_
            rotate_left
            · first | (go_simp; done) | (go_simp; with_reducible rfl)
            simp only [Act.put, List.setIfInBounds_toArray, List.set_cons_zero, List.set_cons_succ]
            refine lt_take 22 [27, 28, 29, 30] rfl (by kernel_rfl) (by kernel_rfl) (by kernel_rfl) (by kernel_rfl) (by kernel_rfl) (fun _ _ _ h => h) (yi_rowO rfl rfl rfl (fun w hS => HRP.out w hS) ent_row8) HS.out ?_
            simp only [Act.put, List.setIfInBounds_toArray, List.set_cons_zero, List.set_cons_succ]
            refine lt_pure 23 rfl (by kernel_rfl) (by kernel_rfl) (by kernel_rfl) (by kernel_rfl) (fun _ _ _ h => h) (v := ?_) (yi_run rfl (fun w => ?_)) (fun _ => HS.out) ?_
            rotate_left
            · first | (go_simp; done) | (go_simp; with_reducible rfl)
            simp only [Act.put, List.setIfInBounds_toArray, List.set_cons_zero, List.set_cons_succ]
            refine lt_pure 24 rfl (by kernel_rfl) (by kernel_rfl) (by kernel_rfl) (by kernel_rfl) (fun _ _ _ h => h) (v := ?_) (yi_run rfl (fun w => ?_)) (fun _ => HS.out) ?_
            rotate_left
            · first | (go_simp; done) | (go_simp; with_reducible rfl)
            simp only [Act.put, List.setIfInBounds_toArray, List.set_cons_zero, List.set_cons_succ]
            refine lt_pure 25 rfl (by kernel_rfl) (by kernel_rfl) (by kernel_rfl) (by kernel_rfl) (fun _ _ _ h => h) (v := ?_) (yi_run rfl (fun w => ?_)) (fun _ => HS.out) ?_
            rotate_left
            · first | (go_simp; done) | (go_simp; with_reducible rfl)
            simp only [Act.put, List.setIfInBounds_toArray, List.set_cons_zero, List.set_cons_succ]
            refine lt_take 26 [27, 28, 29, 30] rfl (by kernel_rfl) (by kernel_rfl) (by kernel_rfl) (by kernel_rfl) (by kernel_rfl) (fun _ _ _ h => h) (yi_rowO rfl rfl rfl (fun w hS => HRX.out w hS) ent_row8) HS.out ?_
            simp only [Act.put, List.setIfInBounds_toArray, List.set_cons_zero, List.set_cons_succ]
            refine lt_call 27 rfl (by kernel_rfl) rfl rfl ⟨_, Try.func27, by decide, by kernel_rfl⟩ [.agg #[.slice xp.A xp.e.row.length xp.c, .int .i64 xp.e.fam, .slice xp.B xp.e.qual.length xp.d, .int .i64 xp.e.ts, .int .i64 xp.e.seq, .int .i64 xp.e.kind, .slice xp.D xp.e.val.length xp.q], .agg #[.slice x.A x.e.row.length x.c, .int .i64 x.e.fam, .slice x.B x.e.qual.length x.d, .int .i64 x.e.ts, .int .i64 x.e.seq, .int .i64 x.e.kind, .slice x.D x.e.val.length x.q]] rfl ?_
            refine (Compare8 xp x _ (HPN.out _ HS.out) (HXN.out _ HS.out)).mono ?_
            rw [HLO.out]
            rintro e y4 ⟨rfl, hb⟩
            replace HS := Lib.hid (HS.out.trans (hb.mono HS.out.size))
            clear hb
            refine ⟨_, rfl, fun _ => HS.out, ?_⟩
            simp only [Act.put, List.setIfInBounds_toArray, List.set_cons_zero, List.set_cons_succ]
            refine lt_pure 28 rfl (by kernel_rfl) (by kernel_rfl) (by kernel_rfl) (by kernel_rfl) (fun _ _ _ h => h) (v := ?_) (yi_run rfl (fun w => ?_)) (fun _ => HS.out) ?_
            rotate_left
            · first | (go_simp; done) | (go_simp; with_reducible rfl)
            simp only [Act.put, List.setIfInBounds_toArray, List.set_cons_zero, List.set_cons_succ]
            refine lt_pure 29 rfl (by kernel_rfl) (by kernel_rfl) (by kernel_rfl) (by kernel_rfl) (fun _ _ _ h => h) (v := ?_) (yi_run rfl (fun w => ?_)) (fun _ => HS.out) ?_
            rotate_left
            · first | (go_simp; done) | (go_simp; with_reducible rfl)
            simp only [Act.put, List.setIfInBounds_toArray, List.set_cons_zero, List.set_cons_succ]
            refine lt_pure 30 rfl (by kernel_rfl) (by kernel_rfl) (by kernel_rfl) (by kernel_rfl) (fun _ _ _ h => h) (v := ?_) (yi_run rfl (fun w => ?_)) (fun _ => HS.out) ?_
            rotate_left
            · first | (go_simp; done) | (go_simp; with_reducible rfl)
            simp only [Act.put, List.setIfInBounds_toArray, List.set_cons_zero, List.set_cons_succ]
            refine lt_done (by kernel_rfl) ?_
            replace HZ2 := Lib.hid (HZ2.out.later HS.out)
            clear HS
            go_wp2_with fail
            go_roundw
            case rel => exact ⟨i2 + 1, sv + pl, by omega, by go_num, by go_num, HSV2, HZ2⟩
            case measure => simp [intOf]; omega
        have d1 : decide ((j : Int) < (m : Int)) = true := decide_eq_true (by omega)
        have j0 : (0 : Int) ≤ (j : Int) := by omega
        have j1 : (j : Int) < (m : Int) := by omega
        obtain ⟨mg, mcap, hv, _⟩ := own_form (HZ.out.row (i := 2) rfl) (show 0 < m by omega)
        injection hv with hv _ hcp
        subst hv
        subst hcp
        obtain ⟨q, hq⟩ : ∃ z, z = rotN f m j := ⟨_, rfl⟩
        have hqm := rotN_mod hfm hjl
        rw [← hq] at hqm
        have q0 : (0 : Int) ≤ (q : Int) := by omega
        have q1 : (q : Int) < (m : Int) := by omega
        have s1 : IntKind.i64.wrap ((f : Int) + (m : Int)) = (f : Int) + (m : Int) := i64_sum (by omega) (by omega)
        have s2 : IntKind.i64.wrap ((f : Int) + (m : Int) - 1) = (f : Int) + (m : Int) - 1 := i64_sum (by omega) (by omega)
        have s3 : IntKind.i64.wrap ((f : Int) + (m : Int) - 1 - (j : Int)) = (f : Int) + (m : Int) - 1 - (j : Int) := i64_sum (by omega) (by omega)
        have s4 : IntKind.i64.wrap (q : Int) = (q : Int) := i64_sum (by omega) (by omega)
        have s5 : Int.tmod ((f : Int) + (m : Int) - 1 - (j : Int)) (m : Int) = (q : Int) := by
          rw [show (f : Int) + (m : Int) - 1 - (j : Int) = ((f + m - 1 - j : Nat) : Int) from by omega, ← hqm.1]
          exact (Int.ofNat_tmod _ _).symm
        have s6 : ((m : Int) == 0) = false := beq_eq_false_iff_ne.2 (by omega)
        obtain ⟨x, hx⟩ : ∃ x, rs[j]? = some x := ⟨_, List.getElem?_eq_getElem (by omega)⟩
        obtain ⟨y, hy⟩ : ∃ y, rs[q]? = some y := ⟨_, List.getElem?_eq_getElem (by omega)⟩
        have hxe : (rs.map ER.e)[id j]? = some x.e := by show (rs.map ER.e)[j]? = _; rw [List.getElem?_map, hx]; rfl
        have hye : (rs.map ER.e)[rotN f m j]? = some y.e := by rw [← hq, List.getElem?_map, hy]; rfl
        have hha := HPA.out.hit HU.out (fun j' hj' e => by have : j' = j := e; omega) hxe
        have hhb := HPB.out.hit HU.out (fun j' hj' => rotN_ne hfm hjl hj') hye
        have HXA := Lib.hid (addE_new (L := ta.ents) (HU.out.chk x.e (List.mem_of_getElem? hxe)) hha)
        have HYB := Lib.hid (addE_new (L := tb.ents) (HU.out.chk y.e (List.mem_of_getElem? hye)) hhb)
        have HPA1 := Lib.hid (HPA.out.step hxe hha)
        have HPB1 := Lib.hid (HPB.out.step hye hhb)
        have HXI := Lib.hid hx
        have HYI := Lib.hid hy
        have HXN := Lib.hid (HR.out x (List.mem_of_getElem? hx))
        have HYN := Lib.hid (HR.out y (List.mem_of_getElem? hy))
        clear hq hqm hx hy hxe hye hha hhb HPA HPB
        have tk3 : True := trivial
        go_wp2_with (first
          | (refine wpList_load_at rfl 30 (.tmp 84) rfl rfl (rowRange8 HZ.out (i := 2) rfl HXI.out) ent_row8 ?_)
          | (go_at_call 10; (have _t := tk3); go_must (refine (tadd_is (os := boxO gb (tabC tb false) :: rowO 30 7 (.slice (some ⟨mg, 0, none⟩) m lc) m (rs.flatMap ER.cells) :: ns) (ms := ns) x HZ.out (fun o ho => .tail _ (.tail _ ho)) HTA.out (HXN.out _ HZ.out.up) (by omega) HXA.out).mono ?_); rintro e y1 ⟨ta2, ns2, rfl, hz, hT, he⟩; have HTA2 := Lib.hid hT; have HEA2 := Lib.hid he; have HZ1 : Hid (OW w (boxO gb (tabC tb false) :: (boxO ga (tabC ta2 false) :: rowO 30 7 (.slice (some ⟨mg, 0, none⟩) m lc) m (rs.flatMap ER.cells) :: (ns ++ ns2))) y1) := Lib.hid (hz.perm (List.Perm.swap _ _ _)); clear hz hT he tk3 _t)
          | (refine wpList_load_at rfl 30 (.tmp 101) rfl rfl (rowRange8 HZ1.out (i := 2) rfl HYI.out) ent_row8 ?_)
          | (go_at_call 10; go_must (refine (tadd_is (os := boxO ga (tabC ta2 false) :: rowO 30 7 (.slice (some ⟨mg, 0, none⟩) m lc) m (rs.flatMap ER.cells) :: (ns ++ ns2)) (ms := ns ++ ns2) y HZ1.out (fun o ho => .tail _ (.tail _ ho)) (HTB.out.more fun o ho => List.mem_append_left _ ho) (HYN.out _ HZ1.out.up) (by omega) HYB.out).mono ?_); rintro e y2 ⟨tb2, ns3, rfl, hz, hT, he⟩; have HTB2 := Lib.hid hT; have HEB2 := Lib.hid he; have HZ2 : Hid (OW w (boxO ga (tabC ta2 false) :: boxO gb (tabC tb2 false) :: rowO 30 7 (.slice (some ⟨mg, 0, none⟩) m lc) m (rs.flatMap ER.cells) :: ((ns ++ ns2) ++ ns3)) y2) := Lib.hid (hz.perm (List.Perm.swap _ _ _)); clear hz hT he HZ1))
        go_roundw
        case rel => exact ⟨j + 1, ta2, tb2, (ns ++ ns2) ++ ns3, by omega, by go_num, Lib.hid (by rw [HEA2.out]; exact HPA1.out), Lib.hid (by rw [HEB2.out]; exact HPB1.out), Lib.hid (HTA2.out.more fun o ho => List.mem_append_left _ ho), HTB2, HZ2⟩
        case measure => simp [intOf]; omega
    have d1 : decide ((i : Int) < (n : Int)) = true := decide_eq_true (by omega)
    have i0 : (0 : Int) ≤ (i : Int) := by omega
    have i1 : (i : Int) < (n : Int) := by omega
    obtain ⟨b, o, r, rfl, hbl, hek, hrg, hen⟩ := (HEA.out w (Below.refl _ _)).er (Nat.lt_of_lt_of_le hlt hnn)
    have HRG : Hid (∀ z, Below w.heap.size w z → z.rangeAt b (o + i * 7) [.slice r.A r.e.row.length r.c, .int .i64 r.e.fam, .slice r.B r.e.qual.length r.d, .int .i64 r.e.ts, .int .i64 r.e.seq, .int .i64 r.e.kind, .slice r.D r.e.val.length r.q]) := Lib.hid fun z hz j v hj => (hz.cell (p := ⟨b, _, none⟩) hbl).trans (hrg j v hj)
    have HEN : Hid (∀ z, Below w.heap.size w z → r.En z) := Lib.hid fun z hz => hen.later hz
    obtain ⟨ck, hck⟩ : ∃ z, z = checkE r.e := ⟨_, rfl⟩
    have HCK := Lib.hid hck.symm
    clear hbl hek hrg hen hck
    by_cases hc0 : ck = 0
    case neg =>
      have e1 : (ck != 0) = true := bne_iff_ne.2 hc0
      go_wp2_with (first
        | (refine wpList_load_at rfl 30 (.tmp 35) rfl rfl (HRG.out _ HZ.out.up) ent_row8 ?_)
        | (go_at_call 23; go_must (refine (rCheck8 r _ (HEN.out _ HZ.out.up)).mono ?_); rw [HCK.out]; rintro e y1 ⟨rfl, hb⟩; replace HZ := Lib.hid (HZ.out.later hb); clear hb))
      go_roundw
      case rel => exact ⟨i + 1, m, lc, lA, rs, by omega, by omega, by go_num, rfl, hrl, HU, HR, HZ⟩
      case measure => simp [intOf]; omega
    subst hc0
    go_wp2_with (first
      | (refine wpList_load_at rfl 30 (.tmp 35) rfl rfl (HRG.out _ HZ.out.up) ent_row8 ?_)
      | (go_at_call 23; go_must (refine (rCheck8 r _ (HEN.out _ HZ.out.up)).mono ?_); rw [HCK.out]; rintro e y1 ⟨rfl, hb⟩; replace HZ := Lib.hid (HZ.out.later hb); clear hb))
    go_loopw [9, 10] (fun tv kv wr => ∃ (k : Nat) (tb : Bool), k ≤ m ∧ kv = .int .i64 k ∧ tv = .bool tb ∧ Hid (anyK rs k r.e = tb) ∧ Hid (OW w [boxO ga (tabC .nil false), boxO gb (tabC .nil false), rowO 30 7 (.slice lA m lc) m (rs.flatMap ER.cells)] wr)) (fun _ kv _ => m - (intOf kv).toNat)
    case atStart => exact ⟨0, false, Nat.zero_le _, rfl, rfl, Lib.hid rfl, HZ⟩
    case round =>
      clear HZ
      obtain ⟨k, tb, hkm, rfl, rfl, HTB, HZ⟩ := hrel
      by_cases hk1 : k < m
      case neg =>
        obtain rfl : k = m := by omega
        have d2 : decide ((k : Int) < (k : Int)) = false := decide_eq_false (by omega)
        cases tb
        case «true» =>
          go_wp2_with fail
          go_roundw
          case rel => exact ⟨i + 1, k, lc, lA, rs, by omega, by omega, by go_num, rfl, hrl, HU, HR, HZ⟩
          case measure => simp [intOf]; omega
        go_wp2_with (first
          | (refine wpList_load_at rfl 30 (.tmp 63) rfl rfl (HRG.out _ HZ.out.up) ent_row8 ?_)
          | (refine wl_build rfl #[(0, .tmp 64)] rfl #[.slice r.A r.e.row.length r.c, .int .i64 r.e.fam, .slice r.B r.e.qual.length r.d, .int .i64 r.e.ts, .int .i64 r.e.seq, .int .i64 r.e.kind, .slice r.D r.e.val.length r.q] entsS8 (.agg #[.slice none 0 0, .int .i64 0, .slice none 0 0, .int .i64 0, .int .i64 0, .int .i64 0, .slice none 0 0]) (by kernel_rfl) (by decide) (by decide) (by decide) rfl (by kernel_rfl) HZ.out ?_; intro g8 z4 hz _; have HZ1 := Lib.hid hz; clear hz)
          | (at_builtin; go_must (refine wl_append rfl (.tmp 60) (.tmp 65) rfl entsS8 HZ1.out 2 rfl rfl _ (some ⟨g8, 0, none⟩) 1 1 [.slice r.A r.e.row.length r.c, .int .i64 r.e.fam, .slice r.B r.e.qual.length r.d, .int .i64 r.e.ts, .int .i64 r.e.seq, .int .i64 r.e.kind, .slice r.D r.e.val.length r.q] rfl (Reads.own (HZ1.out.row (i := 3) rfl)) (by simp [Value.oneCell']) (by unfold maxLen; omega) (by omega) ?_); intro A9 c9 z5 hz _; have HZ2 := Lib.hid (hz.erase 3); clear hz HZ1))
        go_roundw
        case rel =>
          refine ⟨i + 1, k + 1, c9, A9, rs ++ [r], by omega, by omega, by go_num, rfl, by rw [List.length_append, hrl]; rfl, Lib.hid ?_, Lib.hid fun q hq => ?_, Lib.hid ?_⟩
          · rw [List.map_append]
            exact HU.out.snoc HCK.out (anyK_no (by omega) HTB.out)
          · rcases List.mem_append.1 hq with hq | hq
            · exact HR.out q hq
            · rw [List.mem_singleton.1 hq]; exact HEN.out
          · rw [cells_snoc]; exact HZ2.out
        case measure => simp [intOf]; omega
      have d2 : decide ((k : Int) < (m : Int)) = true := decide_eq_true (by omega)
      have k0 : (0 : Int) ≤ (k : Int) := by omega
      have k1 : (k : Int) < (m : Int) := by omega
      obtain ⟨x, hx⟩ : ∃ x, rs[k]? = some x := ⟨_, List.getElem?_eq_getElem (by omega)⟩
      have HXK := Lib.hid hx
      have HAS := Lib.hid (anyK_succ (e := r.e) hx)
      clear hx
      cases tb
      case «true» =>
        go_wp2_with fail
        refine lt_start [] (by kernel_rfl) ?_
        intro xd hd
        refine ⟨fun z => Below wr.heap.size wr z, ?_⟩
        have HS := Lib.hid (hd)
        refine lt_pure 0 rfl (by kernel_rfl) (by kernel_rfl) (by kernel_rfl) (by kernel_rfl) (fun _ _ _ h => h) (v := ?_) (yi_run rfl (fun w => ?_)) (fun _ => HS.out) ?_
        rotate_left
        · first | (go_simp; done) | (go_simp; with_reducible rfl)
        simp only [Act.put, List.setIfInBounds_toArray, List.set_cons_zero, List.set_cons_succ]
        refine lt_pure 1 rfl (by kernel_rfl) (by kernel_rfl) (by kernel_rfl) (by kernel_rfl) (fun _ _ _ h => h) (v := ?_) (yi_run rfl (fun w => ?_)) (fun _ => HS.out) ?_
        rotate_left
        · first | (go_simp; done) | (go_simp; with_reducible rfl)
        simp only [Act.put, List.setIfInBounds_toArray, List.set_cons_zero, List.set_cons_succ]
        refine lt_skip 2 rfl (by kernel_rfl) (by kernel_rfl) (by kernel_rfl) (by kernel_rfl) (fun _ _ _ h => h) rfl (fun _ => HS.out) ?_
        simp only [Act.put, List.setIfInBounds_toArray, List.set_cons_zero, List.set_cons_succ]
        refine lt_skip 3 rfl (by kernel_rfl) (by kernel_rfl) (by kernel_rfl) (by kernel_rfl) (fun _ _ _ h => h) rfl (fun _ => HS.out) ?_
        simp only [Act.put, List.setIfInBounds_toArray, List.set_cons_zero, List.set_cons_succ]
        refine lt_skip 4 rfl (by kernel_rfl) (by kernel_rfl) (by kernel_rfl) (by kernel_rfl) (fun _ _ _ h => h) rfl (fun _ => HS.out) ?_
        simp only [Act.put, List.setIfInBounds_toArray, List.set_cons_zero, List.set_cons_succ]
        refine lt_skip 5 rfl (by kernel_rfl) (by kernel_rfl) (by kernel_rfl) (by kernel_rfl) (fun _ _ _ h => h) rfl (fun _ => HS.out) ?_
        simp only [Act.put, List.setIfInBounds_toArray, List.set_cons_zero, List.set_cons_succ]
        refine lt_skip 6 rfl (by kernel_rfl) (by kernel_rfl) (by kernel_rfl) (by kernel_rfl) (fun _ _ _ h => h) rfl (fun _ => HS.out) ?_
        simp only [Act.put, List.setIfInBounds_toArray, List.set_cons_zero, List.set_cons_succ]
        refine lt_skip 7 rfl (by kernel_rfl) (by kernel_rfl) (by kernel_rfl) (by kernel_rfl) (fun _ _ _ h => h) rfl (fun _ => HS.out) ?_
        simp only [Act.put, List.setIfInBounds_toArray, List.set_cons_zero, List.set_cons_succ]
        refine lt_skip 8 rfl (by kernel_rfl) (by kernel_rfl) (by kernel_rfl) (by kernel_rfl) (fun _ _ _ h => h) rfl (fun _ => HS.out) ?_
        simp only [Act.put, List.setIfInBounds_toArray, List.set_cons_zero, List.set_cons_succ]
        refine lt_skip 9 rfl (by kernel_rfl) (by kernel_rfl) (by kernel_rfl) (by kernel_rfl) (fun _ _ _ h => h) rfl (fun _ => HS.out) ?_
        simp only [Act.put, List.setIfInBounds_toArray, List.set_cons_zero, List.set_cons_succ]
        refine lt_skip 10 rfl (by kernel_rfl) (by kernel_rfl) (by kernel_rfl) (by kernel_rfl) (fun _ _ _ h => h) rfl (fun _ => HS.out) ?_
        simp only [Act.put, List.setIfInBounds_toArray, List.set_cons_zero, List.set_cons_succ]
        refine lt_skip 11 rfl (by kernel_rfl) (by kernel_rfl) (by kernel_rfl) (by kernel_rfl) (fun _ _ _ h => h) rfl (fun _ => HS.out) ?_
        simp only [Act.put, List.setIfInBounds_toArray, List.set_cons_zero, List.set_cons_succ]
        refine lt_pure 12 rfl (by kernel_rfl) (by kernel_rfl) (by kernel_rfl) (by kernel_rfl) (fun _ _ _ h => h) (v := ?_) (yi_run rfl (fun w => ?_)) (fun _ => HS.out) ?_
        rotate_left
        · first | (go_simp; done) | (go_simp; with_reducible rfl)
        simp only [Act.put, List.setIfInBounds_toArray, List.set_cons_zero, List.set_cons_succ]
        refine lt_pure 13 rfl (by kernel_rfl) (by kernel_rfl) (by kernel_rfl) (by kernel_rfl) (fun _ _ _ h => h) (v := ?_) (yi_run rfl (fun w => ?_)) (fun _ => HS.out) ?_
        rotate_left
        · first | (go_simp; done) | (go_simp; with_reducible rfl)
        simp only [Act.put, List.setIfInBounds_toArray, List.set_cons_zero, List.set_cons_succ]
        refine lt_done (by kernel_rfl) ?_
        replace HZ := Lib.hid (HZ.out.later HS.out)
        clear HS
        go_wp2_with fail
        go_roundw
        case rel => exact ⟨k + 1, true, by omega, by go_num, rfl, Lib.hid (by rw [HAS.out, HTB.out]; rfl), HZ⟩
        case measure => simp [intOf]; omega
      obtain ⟨mg, mcap, hv, _⟩ := own_form (HZ.out.row (i := 2) rfl) (show 0 < m by omega)
      injection hv with hv _ hcp
      subst hv
      subst hcp
      go_wp2_with fail
      refine lt_start [] (by kernel_rfl) ?_
      intro xd hd
      refine ⟨fun z => Below wr.heap.size wr z, ?_⟩
      have HS := Lib.hid (hd)
      refine lt_pure 0 rfl (by kernel_rfl) (by kernel_rfl) (by kernel_rfl) (by kernel_rfl) (fun _ _ _ h => h) (v := ?_) (yi_run rfl (fun w => ?_)) (fun _ => HS.out) ?_
      rotate_left
      · first | (go_simp; done) | (go_simp; with_reducible rfl)
      simp only [Act.put, List.setIfInBounds_toArray, List.set_cons_zero, List.set_cons_succ]
      refine lt_pure 1 rfl (by kernel_rfl) (by kernel_rfl) (by kernel_rfl) (by kernel_rfl) (fun _ _ _ h => h) (v := ?_) (yi_run rfl (fun w => ?_)) (fun _ => HS.out) ?_
      rotate_left
      · first | (go_simp; done) | (go_simp; with_reducible rfl)
      simp only [Act.put, List.setIfInBounds_toArray, List.set_cons_zero, List.set_cons_succ]
      refine lt_pure 2 rfl (by kernel_rfl) (by kernel_rfl) (by kernel_rfl) (by kernel_rfl) (fun _ _ _ h => h) (v := ?_) (yi_run rfl (fun w => ?_)) (fun _ => HS.out) ?_
      rotate_left
      · first | (go_simp; done) | (go_simp; with_reducible rfl)
      simp only [Act.put, List.setIfInBounds_toArray, List.set_cons_zero, List.set_cons_succ]
      refine lt_pure 3 rfl (by kernel_rfl) (by kernel_rfl) (by kernel_rfl) (by kernel_rfl) (fun _ _ _ h => h) (v := ?_) (yi_run rfl (fun w => ?_)) (fun _ => HS.out) ?_
      rotate_left
      · first | (go_simp; done) | (go_simp; with_reducible rfl)
      simp only [Act.put, List.setIfInBounds_toArray, List.set_cons_zero, List.set_cons_succ]
      refine lt_pure 4 rfl (by kernel_rfl) (by kernel_rfl) (by kernel_rfl) (by kernel_rfl) (fun _ _ _ h => h) (v := ?_) (yi_run rfl (fun w => ?_)) (fun _ => HS.out) ?_
      rotate_left
      · first | (go_simp; done) | (go_simp; with_reducible rfl)
      simp only [Act.put, List.setIfInBounds_toArray, List.set_cons_zero, List.set_cons_succ]
      refine lt_take 5 [10, 11, 12, 13] rfl (by kernel_rfl) (by kernel_rfl) (by kernel_rfl) (by kernel_rfl) (by kernel_rfl) (fun _ _ _ h => h) (yi_rowO rfl rfl rfl (fun w hS => rowRange8 (HZ.out.later hS) (i := 2) rfl HXK.out) ent_row8) HS.out ?_
      simp only [Act.put, List.setIfInBounds_toArray, List.set_cons_zero, List.set_cons_succ]
      refine lt_pure 6 rfl (by kernel_rfl) (by kernel_rfl) (by kernel_rfl) (by kernel_rfl) (fun _ _ _ h => h) (v := ?_) (yi_run rfl (fun w => ?_)) (fun _ => HS.out) ?_
      rotate_left
      · first | (go_simp; done) | (go_simp; with_reducible rfl)
      simp only [Act.put, List.setIfInBounds_toArray, List.set_cons_zero, List.set_cons_succ]
      refine lt_pure 7 rfl (by kernel_rfl) (by kernel_rfl) (by kernel_rfl) (by kernel_rfl) (fun _ _ _ h => h) (v := ?_) (yi_run rfl (fun w => ?_)) (fun _ => HS.out) ?_
      rotate_left
      · first | (go_simp; done) | (go_simp; with_reducible rfl)
      simp only [Act.put, List.setIfInBounds_toArray, List.set_cons_zero, List.set_cons_succ]
      refine lt_pure 8 rfl (by kernel_rfl) (by kernel_rfl) (by kernel_rfl) (by kernel_rfl) (fun _ _ _ h => h) (v := ?_) (yi_run rfl (fun w => ?_)) (fun _ => HS.out) ?_
      rotate_left
      · first | (go_simp; done) | (go_simp; with_reducible rfl)
      simp only [Act.put, List.setIfInBounds_toArray, List.set_cons_zero, List.set_cons_succ]
      refine lt_take 9 [10, 11, 12, 13] rfl (by kernel_rfl) (by kernel_rfl) (by kernel_rfl) (by kernel_rfl) (by kernel_rfl) (fun _ _ _ h => h) (yi_rowO rfl rfl rfl (fun w hS => HRG.out w (HZ.out.later hS).up) ent_row8) HS.out ?_
      simp only [Act.put, List.setIfInBounds_toArray, List.set_cons_zero, List.set_cons_succ]
      refine lt_call 10 rfl (by kernel_rfl) rfl rfl ⟨_, Try.func24, by decide, by kernel_rfl⟩ [.agg #[.slice x.A x.e.row.length x.c, .int .i64 x.e.fam, .slice x.B x.e.qual.length x.d, .int .i64 x.e.ts, .int .i64 x.e.seq, .int .i64 x.e.kind, .slice x.D x.e.val.length x.q], .agg #[.slice r.A r.e.row.length r.c, .int .i64 r.e.fam, .slice r.B r.e.qual.length r.d, .int .i64 r.e.ts, .int .i64 r.e.seq, .int .i64 r.e.kind, .slice r.D r.e.val.length r.q]] rfl ?_
      refine (rCompare8 x r _ (HR.out x (List.mem_of_getElem? HXK.out) _ (HZ.out.later HS.out).up) (HEN.out _ (HZ.out.later HS.out).up)).mono ?_
      obtain ⟨cv, hcv⟩ : ∃ z, z = cmpE x.e r.e := ⟨_, rfl⟩
      rw [← hcv]
      have HCV := Lib.hid hcv.symm
      clear hcv
      rintro e y2 ⟨rfl, hb⟩
      replace HS := Lib.hid (HS.out.trans (hb.mono HS.out.size))
      clear hb
      refine ⟨_, rfl, fun _ => HS.out, ?_⟩
      simp only [Act.put, List.setIfInBounds_toArray, List.set_cons_zero, List.set_cons_succ]
      refine lt_pure 11 rfl (by kernel_rfl) (by kernel_rfl) (by kernel_rfl) (by kernel_rfl) (fun _ _ _ h => h) (v := ?_) (yi_run rfl (fun w => ?_)) (fun _ => HS.out) ?_
      rotate_left
      · first | (go_simp; done) | (go_simp; with_reducible rfl)
      simp only [Act.put, List.setIfInBounds_toArray, List.set_cons_zero, List.set_cons_succ]
      refine lt_pure 12 rfl (by kernel_rfl) (by kernel_rfl) (by kernel_rfl) (by kernel_rfl) (fun _ _ _ h => h) (v := ?_) (yi_run rfl (fun w => ?_)) (fun _ => HS.out) ?_
      rotate_left
      · first | (go_simp; done) | (go_simp; with_reducible rfl)
      simp only [Act.put, List.setIfInBounds_toArray, List.set_cons_zero, List.set_cons_succ]
      refine lt_pure 13 rfl (by kernel_rfl) (by kernel_rfl) (by kernel_rfl) (by kernel_rfl) (fun _ _ _ h => h) (v := ?_) (yi_run rfl (fun w => ?_)) (fun _ => HS.out) ?_
      rotate_left
      · first | (go_simp; done) | (go_simp; with_reducible rfl)
      simp only [Act.put, List.setIfInBounds_toArray, List.set_cons_zero, List.set_cons_succ]
      refine lt_done (by kernel_rfl) ?_
      replace HZ := Lib.hid (HZ.out.later HS.out)
      clear HS
      go_wp2_with fail
      go_roundw
      case rel => exact ⟨k + 1, (cv == 0), by omega, by go_num, rfl, Lib.hid (by rw [HAS.out, HTB.out, HCV.out]; rfl), HZ⟩
      case measure => simp [intOf]; omega
end Go.Proofs.Ytdaoinhkagmbdaa
namespace Go.Proofs.Ytdaoinhkagmbdaa
open Go.RowKit Go.WideShapes Go.ChangeShapes Go.Joins Go.Deep
section
variable {H : Type} {enc : TypeId × Value → H} {P : Program}
theorem trodAll_below (hl : laidOutB P = true) {W W' : World} {sp : Nat → Bool} : ∀ (ts : List TypeId) (vs : List Value) (ds : List (DataW H)) (ps : List MemPlace),
    (∀ t ∈ ts, P.readableRec t = true ∧ t < P.types.size) → DataW.TrodAll enc P W 0 (fun _ => true) true ts vs ds ps → (∀ p ∈ ps, W.sameAt W' p) → (∀ p ∈ ps, sp p.block = true) →
    DataW.TrodAll enc P W' 0 sp true ts vs ds ps
  | [], [], [], ps, _, h, _, _ => h
  | t :: ts, v :: vs, d :: ds, ps, hr, h, hs, hp => by
    obtain ⟨p, q, h1, h2, rfl⟩ := h
    refine ⟨p, q, WideElems.Trod_stays hl (hr t (by simp)).1 (hr t (by simp)).2 h1 (fun x hx => hs x (by simp [hx])) (fun x hx => hp x (by simp [hx])), ?_, rfl⟩
    exact trodAll_below hl ts vs ds q (fun t ht => hr t (by simp [ht])) h2 (fun x hx => hs x (by simp [hx])) (fun x hx => hp x (by simp [hx]))
  | [], _ :: _, _, _, _, h, _, _ => h.elim
  | [], [], _ :: _, _, _, h, _, _ => h.elim
  | _ :: _, [], _, _, _, h, _, _ => h.elim
  | _ :: _, _ :: _, [], _, _, h, _, _ => h.elim
theorem law_post {f : Func} {s : ChangeSpec} {apart fresh handsOn again : Bool} {W W' : World} {args : Array Value} {ds gs : List (DataW H)} {before : List MemPlace} {tb : TypeId}
    (hl : laidOutB P = true) (hr : ∀ t ∈ f.params.toList, P.readableRec t = true ∧ t < P.types.size) (hv : s.vars = [])
    (hW : DataW.Whole enc P f.params.toList s.vars apart W args.toList ds gs before) (hres : f.resultTypes = #[tb]) (htb : P.underlying tb = some .bool)
    (hfn : s.fn H (ds ++ gs) = { results := [.lit (.bool true)], args := ds }) (hb : Below W.heap.size W W') :
    s.post enc P f apart fresh handsOn again W args (.bool true) W' := by
  have hlt : ∀ p ∈ before, p.block < W.heap.size := fun p hp => hW.lt p hp
  obtain ⟨p, q, hA, hV, hpq, hz, hn⟩ := hW
  have hq : gs = [] ∧ q = [] := by rw [hv] at hV; exact trodVars_none hV
  obtain ⟨rfl, rfl⟩ := hq
  rw [List.append_nil] at hpq
  subst hpq
  have hold : ∀ x ∈ before, (fun b => decide (b < W.heap.size)) x.block = true := fun x hx => by simpa using hlt x hx
  have hargs : ∀ sp : Nat → Bool, (∀ x ∈ before, sp x.block = true) → DataW.TrodAll enc P W' 0 sp true f.params.toList args.toList ds before := fun sp hsp =>
    trodAll_below hl _ _ _ _ hr hA (fun x hx => hb.same (hlt x hx)) hsp
  have hvars : ∀ sp : Nat → Bool, DataW.TrodVars enc P W' sp s.vars (s.fn H (ds ++ [])).vars [] := fun sp => by rw [hv, hfn]; rfl
  have hresv : ∀ (b : Nat) (sp : Nat → Bool) (hd : Bool), DataW.TrodAll enc P W' b sp hd f.resultTypes.toList ((Value.bool true).resultList f.resultTypes.size) (s.fn H (ds ++ [])).results [] := by
    intro b sp hd
    rw [hfn, hres]
    exact trodAll_mk1 (shut_bool htb true)
  have hargs' : ∀ sp : Nat → Bool, (∀ x ∈ before, sp x.block = true) → DataW.TrodAll enc P W' 0 sp true f.params.toList args.toList (s.fn H (ds ++ [])).args before := fun sp hsp => by rw [hfn]; exact hargs sp hsp
  refine ⟨ds, [], before, [], before, [], ⟨before, [], hA, hV, by simp, hz, hn⟩, hresv _ _ _, hargs' _ hold, hvars _, World.keptBut_mono (fun x hx => ⟨hx, Or.inr (Or.inl hx)⟩) (hb.frame (· ∈ before)), fun _ => ?_⟩
  refine ⟨?_, _, _, ([] ++ before) ++ [], ⟨[] ++ before, [], trodAll_append (hargs' _ (fun _ _ => rfl)) (hresv _ _ _), hvars _, rfl, ?_, ?_⟩, ?_⟩
  · exact ok_one hres rfl (okWide_bool_mk htb true)
  · intro b off hp
    have hin : MemPlace.cell b off ∈ before := by simpa using hp
    rw [hb.frozen (hlt _ hin)]
    exact hz b off hin
  · intro ha
    have := hn ha
    simpa using this
  · intro x hx _
    simpa using hx
end
theorem list_of {α : Type} {Q : Nat → α → Prop} : ∀ (n : Nat), (∀ i, i < n → ∃ x, Q i x) → ∃ l : List α, l.length = n ∧ ∀ i x, l[i]? = some x → Q i x
  | 0, _ => ⟨[], rfl, fun i x h => by simp at h⟩
  | n + 1, h => by
    obtain ⟨l, hl, hq⟩ := list_of n (fun i hi => h i (by omega))
    obtain ⟨x, hx⟩ := h n (by omega)
    refine ⟨l ++ [x], by simp [hl], fun i y hy => ?_⟩
    rcases Nat.lt_or_ge i n with hi | hi
    · rw [List.getElem?_append_left (by omega)] at hy
      exact hq i y hy
    · have : i = n := by
        have := (List.getElem?_eq_some_iff.1 hy).1
        simp [hl] at this; omega
      subst this
      rw [List.getElem?_append_right (by omega)] at hy
      simp [hl] at hy
      subst hy; exact hx
theorem addr_add (a : Addr) (j : Nat) (ha : a.spot = none) : a.add j = ⟨a.block, a.off + j, none⟩ := by
  obtain ⟨b, o, sp⟩ := a
  simp at ha; subst ha
  unfold Addr.add
  split
  · rename_i h; subst h; rfl
  · rfl
theorem spot_none {w : World} {a : Addr} {v : Value} (h : w.cell? a = some v) : a.spot = none := by
  unfold World.cell? at h
  split at h
  · split at h
    · cases h
    · rename_i h'; simpa using h'
  · cases h
theorem reads_of {w : World} {size n : Nat} {a : Addr} {xs : List Value} (hl : xs.length = n * size) (hs : 0 < size) (h : ∀ j u, xs[j]? = some u → w.cell? (a.add j) = some u) : Reads w w.heap.size size (some a) n xs := by
  refine ⟨hl, fun hn => ?_⟩
  have h0 : 0 < xs.length := by rw [hl]; exact Nat.mul_pos hn hs
  have hc := h 0 _ (List.getElem?_eq_getElem h0)
  have e0 : a.add 0 = a := by simp [Addr.add]
  rw [e0] at hc
  have hsp := spot_none hc
  refine ⟨a.block, a.off, by obtain ⟨b, o, sp⟩ := a; simp at hsp; subst hsp; rfl, World.block_lt_of_cell? w a hc, fun j u hu => ?_⟩
  rw [← addr_add a j hsp]
  exact h j u hu
section
variable {H : Type} {enc : TypeId × Value → H} {P : Program} {w : World} {base : Nat} {spare : Nat → Bool} {held : Bool}
end
section
variable {H : Type} {enc : TypeId × Value → H} {P : Program} {w : World} {base : Nat} {spare : Nat → Bool} {held : Bool}
theorem open_slice_fields {t e : TypeId} {fs : Array Field} {fuel : Nat} {cs : List Value} {x : DataW H × List MemPlace} (ht : P.underlying t = some (.slice e)) (he : P.underlying e = some (.struct fs))
    (hone : oneCellFields P fs = true) (hC : P.cellsOf e = fs.size) (h : DataW.trod enc P w base spare held fuel t cs = some x) :
    (cs = [.slice none 0 0] ∧ x = (.nil, [])) ∨
    ∃ (a : Addr) (len cap m : Nat) (D : Nat → DataW H) (Pl : Nat → List MemPlace), cs = [.slice (some a) len cap] ∧ base ≤ a.block ∧ len ≤ cap ∧ cap ≤ maxLen ∧ m = (if spare a.block then cap else len) ∧
      x = (.slice ((List.range len).map D) ((List.range (m - len)).map fun j => D (len + j)), MemPlace.row a (m * fs.size) ++ (List.range m).flatMap Pl) ∧
      ∀ i, i < m → ∃ (ys : List (DataW H × List MemPlace)) (n : Nat), D i = .agg (ys.map (·.1)) ∧ Pl i = ys.flatMap (·.2) ∧ ys.length = fs.size ∧
        ∀ (j : Nat) (f : Field), fs[j]? = some f → ∃ (v : Value) (y : DataW H × List MemPlace), w.cell? (a.add (i * fs.size + j)) = some v ∧ ys[j]? = some y ∧ DataW.trod enc P w base spare held n f.type [v] = some y := by
  rcases open_slice ht h with h0 | ⟨a, len, cap, m, n, D, Pl, hcs, hb, hl, hm, hmm, hx, hi⟩
  · exact .inl h0
  · refine .inr ⟨a, len, cap, m, D, Pl, hcs, hb, hl, hm, hmm, by rw [hC] at hx; exact hx, fun i him => ?_⟩
    obtain ⟨cs', hc, ht'⟩ := hi i him
    rw [hC] at hc
    obtain ⟨ys, n', hn', hy, hlen, hyl, hf⟩ := DataW.trod_struct he ht'
    obtain ⟨_, hcl, hat⟩ := World.cells?_some hc
    simp only [Prod.mk.injEq] at hy
    refine ⟨ys, n', hy.1, hy.2, hyl, fun j f hj => ?_⟩
    obtain ⟨ho, hk⟩ := hone_of hone j f hj
    have hjl : j < fs.size := (Array.getElem?_eq_some_iff.1 hj).1
    have hcell := hat j hjl
    have hv : cs'[j]? = some (cs'[j]'(by omega)) := List.getElem?_eq_getElem (by omega)
    have h1 := hf j f hj
    rw [ho, hk] at h1
    have hone' : (cs'.drop j).take 1 = [cs'[j]'(by omega)] := by
      rw [List.drop_eq_getElem_cons (by omega)]
      rfl
    rw [hone'] at h1
    have hys : ys[j]? = some (ys[j]'(by omega)) := List.getElem?_eq_getElem (by omega)
    refine ⟨_, _, ?_, hys, h1.trans hys⟩
    rw [← Go.Deep.add_add, hcell, hv]
end
end Go.Proofs.Ytdaoinhkagmbdaa
namespace Go.Proofs.Ytdaoinhkagmbdaa
open Go.RowKit Go.WideShapes Go.ChangeShapes Go.Joins Go.Deep
section
variable {H : Type} {enc : TypeId × Value → H} {P : Program} {w : World} {base : Nat} {spare : Nat → Bool} {held : Bool}
theorem open_bytes {t e : TypeId} {fuel : Nat} {cs : List Value} {x : DataW H × List MemPlace} (ht : P.underlying t = some (.slice e)) (he : P.underlying e = some (.int .u8)) (hC : P.cellsOf e = 1)
    (h : DataW.trod enc P w base spare held fuel t cs = some x) :
    ∃ (A : Option Addr) (c : Nat) (l : List UInt8), cs = [.slice A l.length c] ∧ l.length ≤ c ∧ c ≤ 9223372036854775807 ∧ (A = none → c = 0) ∧ RB w w.heap.size A l.length l := by
  rcases open_slice1 ht hC h with ⟨rfl, _⟩ | ⟨a, len, cap, m, n, V, D, Pl, rfl, _, hl, hm, hmm, _, hi⟩
  · exact ⟨none, 0, [], rfl, by simp, by omega, fun _ => rfl, RB.nil⟩
  · have hlm : len ≤ m := by rw [hmm]; split <;> omega
    obtain ⟨l, hll, hq⟩ := list_of (Q := fun i (b : UInt8) => w.cell? (a.add i) = some (.int .u8 (b.toNat : Int))) len (fun i hi' => by
      obtain ⟨h1, h2⟩ := hi i (by omega)
      obtain ⟨v, e0, _, hw⟩ := DataW.trod_int he h2
      injection e0 with e0 _
      have hw : 0 ≤ v ∧ v ≤ 255 := by
        simp [Lit.wf, IntKind.min, IntKind.max, IntKind.signed, IntKind.bits] at hw
        omega
      refine ⟨UInt8.ofNat v.toNat, ?_⟩
      rw [h1, e0, UInt8.toNat_ofNat', Nat.mod_eq_of_lt (by omega), Int.toNat_of_nonneg hw.1])
    subst hll
    exact ⟨some a, cap, l, rfl, hl, hm, (fun e => nomatch e), reads_of (by simp [u8s_length]) (by decide) fun j u hu => by
      simp only [u8s, List.getElem?_map, Option.map_eq_some_iff] at hu
      obtain ⟨b, hb, rfl⟩ := hu
      exact hq j b hb⟩
theorem open_slice_top {r : Reach} {b0 : Nat} {t e : TypeId} {v : Value} {d : DataW H} {ps : List MemPlace} (ht : P.underlying t = some (.slice e)) (hval : Value.okWide P w r b0 t v) (h : DataW.Trod enc P w base spare held t v d ps) :
    ∃ fuel, DataW.trod enc P w base spare held fuel t [v] = some (d, ps) := by
  obtain ⟨a, n, c, rfl⟩ := okWide_slice ht hval
  obtain ⟨fuel, hf⟩ := h
  exact ⟨fuel, hf⟩
end
end Go.Proofs.Ytdaoinhkagmbdaa
namespace Go.Proofs.Ytdaoinhkagmbdaa
open Go.RowKit Go.WideShapes Go.ChangeShapes Go.Joins Go.Deep
theorem bulk_one {H : Type} (d : DataW H) : 1 ≤ Rows.uptoBulk d := by
  cases d with
  | lit l => cases l <;> simp [Rows.uptoBulk]
  | nil => simp [Rows.uptoBulk]
  | ptr d => simp [Rows.uptoBulk]
  | slice elems spare => simp [Rows.uptoBulk]
  | agg parts => simp [Rows.uptoBulk]
  | iface t d => simp [Rows.uptoBulk]
  | map entries => simp [Rows.uptoBulk]
  | held h => simp [Rows.uptoBulk]
theorem bulk_len {H : Type} (l : List (DataW H)) : l.length ≤ Rows.uptoBulkAll l := by
  induction l with
  | nil => simp [Rows.uptoBulkAll]
  | cons x r ih => have := bulk_one x; simp only [Rows.uptoBulkAll, List.length_cons]; omega
section
variable {H : Type} {enc : TypeId × Value → H} {P : Program} {w : World} {base : Nat} {held : Bool}
theorem upto_bytes {t e : TypeId} {fuel : Nat} {cs : List Value} {x : DataW H × List MemPlace} (ht : P.underlying t = some (.slice e)) (he : P.underlying e = some (.int .u8)) (hC : P.cellsOf e = 1)
    (h : DataW.trod enc P w base (fun _ => true) held fuel t cs = some x) :
    ∃ (A : Option Addr) (c : Nat) (l : List UInt8), cs = [.slice A l.length c] ∧ Sl w A l.length c l ∧ c + 1 ≤ Rows.uptoBulk x.1 := by
  obtain ⟨A, c, l, h1, h2, h3, h4, h5⟩ := open_bytes ht he hC h
  refine ⟨A, c, l, h1, ⟨h5, h2, h3, h4⟩, ?_⟩
  rcases open_slice1 ht hC h with ⟨rfl, rfl⟩ | ⟨a, len, cap, m, n, V, D, Pl, rfl, _, hl, hm, hmm, hx, hi⟩
  · injection h1 with h1
    injection h1 with _ _ h1
    subst h1
    simp [Rows.uptoBulk]
  · injection h1 with h1
    injection h1 with _ _ h1
    subst h1
    rw [if_pos rfl] at hmm
    subst hmm
    rw [hx]
    simp only [Rows.uptoBulk]
    have e1 := bulk_len (H := H) ((List.range len).map D)
    have e2 := bulk_len (H := H) ((List.range (m - len)).map fun j => D (len + j))
    simp only [List.length_map, List.length_range] at e1 e2
    omega
end
end Go.Proofs.Ytdaoinhkagmbdaa
namespace Go.Proofs.Ytdaoinhkagmbdaa
open Go.RowKit Go.WideShapes Go.ChangeShapes Go.Joins Go.Deep
section
variable {H : Type} {enc : TypeId × Value → H} {w : World} {base : Nat} {spare : Nat → Bool} {held : Bool}
end
end Go.Proofs.Ytdaoinhkagmbdaa
namespace Go.Proofs.Ytdaoinhkagmbdaa
open Go.RowKit Go.WideShapes Go.ChangeShapes Go.Joins Go.Deep
theorem bulk_mem {H : Type} {d : DataW H} {l : List (DataW H)} (h : d ∈ l) : Rows.uptoBulk d ≤ Rows.uptoBulkAll l := by
  induction l with
  | nil => cases h
  | cons x l ih =>
    simp only [Rows.uptoBulkAll]
    rcases List.mem_cons.1 h with rfl | h
    · omega
    · have := ih h; omega
section
variable {H : Type} {enc : TypeId × Value → H} {P : Program} {w : World} {base : Nat} {held : Bool}
theorem upto_structs {t e : TypeId} {fs : Array Field} {fuel : Nat} {cs : List Value} {x : DataW H × List MemPlace} (ht : P.underlying t = some (.slice e)) (he : P.underlying e = some (.struct fs))
    (hone : oneCellFields P fs = true) (hC : P.cellsOf e = fs.size) (h : DataW.trod enc P w base (fun _ => true) held fuel t cs = some x) :
    cs = [.slice none 0 0] ∨
    ∃ (a : Addr) (len cap : Nat), cs = [.slice (some a) len cap] ∧ len ≤ cap ∧ cap ≤ maxLen ∧ cap + 1 ≤ Rows.uptoBulk x.1 ∧
      ∀ i, i < len → ∀ (j : Nat) (f : Field), fs[j]? = some f → ∃ (v : Value) (y : DataW H × List MemPlace) (n : Nat), w.cell? (a.add (i * fs.size + j)) = some v ∧ DataW.trod enc P w base (fun _ => true) held n f.type [v] = some y ∧ Rows.uptoBulk y.1 + 1 ≤ Rows.uptoBulk x.1 := by
  rcases open_slice_fields ht he hone hC h with ⟨h0, _⟩ | ⟨a, len, cap, m, D, Pl, hcs, hb, hl, hm, hmm, hx, hi⟩
  · exact .inl h0
  · rw [if_pos rfl] at hmm
    subst hmm
    refine .inr ⟨a, len, m, hcs, hl, hm, ?_, fun i him j f hf => ?_⟩
    · rw [hx]
      simp only [Rows.uptoBulk]
      have e1 := bulk_len (H := H) ((List.range len).map D)
      have e2 := bulk_len (H := H) ((List.range (m - len)).map fun j => D (len + j))
      simp only [List.length_map, List.length_range] at e1 e2
      omega
    · obtain ⟨ys, n, hD, _, hyl, hq⟩ := hi i (by omega)
      obtain ⟨v, y, hc, hy, ht'⟩ := hq j f hf
      refine ⟨v, y, n, hc, ht', ?_⟩
      have h1 : Rows.uptoBulk y.1 ≤ Rows.uptoBulkAll (ys.map (·.1)) := bulk_mem (List.mem_map.2 ⟨y, List.mem_of_getElem? hy, rfl⟩)
      have h2 : Rows.uptoBulk (D i) ≤ Rows.uptoBulkAll ((List.range len).map D) := bulk_mem (List.mem_map.2 ⟨i, List.mem_range.2 him, rfl⟩)
      rw [hD] at h2
      rw [hx]
      simp only [Rows.uptoBulk] at h2 ⊢
      omega
theorem field_int {k : IntKind} {t : TypeId} {v : Value} {y : DataW H × List MemPlace} {n : Nat} {sp : Nat → Bool} (ht : P.underlying t = some (.int k)) (h : DataW.trod enc P w base sp held n t [v] = some y) : ∃ z : Int, v = .int k z ∧ (Lit.int k z).wf = true := by
  obtain ⟨z, e0, _, hw⟩ := DataW.trod_int ht h
  injection e0 with e0 _
  exact ⟨z, e0, hw⟩
theorem field_bytes {t e : TypeId} {v : Value} {y : DataW H × List MemPlace} {n : Nat} (ht : P.underlying t = some (.slice e)) (he : P.underlying e = some (.int .u8)) (hC : P.cellsOf e = 1) (h : DataW.trod enc P w base (fun _ => true) held n t [v] = some y) :
    ∃ (A : Option Addr) (m c : Nat) (l : List UInt8), v = .slice A m c ∧ Sl w A m c l ∧ c + 1 ≤ Rows.uptoBulk y.1 := by
  obtain ⟨A, c, l, e0, h1, h2⟩ := upto_bytes ht he hC h
  injection e0 with e0 _
  exact ⟨A, _, c, l, e0, h1, h2⟩
end
end Go.Proofs.Ytdaoinhkagmbdaa
namespace Go.Proofs.Ytdaoinhkagmbdaa
open Go.RowKit Go.WideShapes Go.ChangeShapes Go.Joins Go.Deep
theorem ens_of_cells {w : World} {b o n : Nat} (hb : b < w.heap.size) (h : ∀ i, i < n → ∃ r : ER, (∀ j v, r.cells[j]? = some v → w.cell? ⟨b, o + (i * 7 + j), none⟩ = some v) ∧ r.En w) : ∃ L, Ens w (some ⟨b, o, none⟩) n L := by
  have hh : ∀ m, m ≤ n → ∃ rs : List ER, rs.length = m ∧ (∀ i r, rs[i]? = some r → (∀ j v, r.cells[j]? = some v → w.cell? ⟨b, o + (i * 7 + j), none⟩ = some v) ∧ r.En w) := by
    intro m
    induction m with
    | zero => intro _; exact ⟨[], rfl, fun i r hr => by cases hr⟩
    | succ m ih =>
      intro hm
      obtain ⟨rs, h1, h2⟩ := ih (by omega)
      obtain ⟨r, hr⟩ := h m (by omega)
      refine ⟨rs ++ [r], by rw [List.length_append, h1]; rfl, fun i q hq => ?_⟩
      rw [List.getElem?_append] at hq
      split at hq
      · exact h2 i q hq
      · rename_i hlt
        obtain rfl : i = m := by
          have := (List.getElem?_eq_some_iff.1 hq).1
          simp at this; omega
        rw [h1, Nat.sub_self] at hq
        injection hq with hq
        subst hq; exact hr
  obtain ⟨rs, h1, h2⟩ := hh n (Nat.le_refl _)
  refine ⟨rs.map ER.e, rs, rfl, ⟨by rw [flat7_len, h1], fun _ => ⟨b, o, rfl, hb, fun j u hu => ?_⟩⟩, fun r hr => ?_⟩
  · have hj : j < rs.length * 7 := by have := (List.getElem?_eq_some_iff.1 hu).1; rwa [flat7_len] at this
    obtain ⟨r, hr⟩ : ∃ r, rs[j / 7]? = some r := ⟨_, List.getElem?_eq_getElem (by omega)⟩
    have e : j = j / 7 * 7 + j % 7 := by omega
    rw [e] at hu ⊢
    rw [flat7_at hr (j % 7) (by omega)] at hu
    exact (h2 _ r hr).1 (j % 7) u hu
  · obtain ⟨i, hi⟩ := List.getElem?_of_mem hr
    exact (h2 i r hi).2
section
variable {H : Type} {enc : TypeId × Value → H} {w : World} {base : Nat} {held : Bool}
set_option maxRecDepth 100000 in
theorem full_ents {fuel : Nat} {cs : List Value} {x : DataW H × List MemPlace} (h : DataW.trod enc Try.prog w base (fun _ => true) held fuel 22 cs = some x) :
    ∃ (A : Option Addr) (n c : Nat) (L : List Ent), cs = [.slice A n c] ∧ n ≤ c ∧ c ≤ 9223372036854775807 ∧ Ens w A n L := by
  rcases upto_structs Try.underlying22 Try.underlying30 (by kernel_rfl) (by kernel_rfl) h with rfl | ⟨a, len, cap, rfl, hl, hm, _, hi⟩
  · exact ⟨none, 0, 0, [], rfl, by omega, by omega, Ens.nil⟩
  · rcases Nat.eq_zero_or_pos len with h0 | hn
    · subst h0; exact ⟨some a, 0, cap, [], rfl, hl, hm, Ens.nil⟩
    obtain ⟨v, y, n, c0, _⟩ := hi 0 hn 0 _ rfl
    have c0' : w.cell? (a.add 0) = some v := c0
    rw [show a.add 0 = a from by simp [Addr.add]] at c0'
    have hsp := spot_none c0'
    have hb0 := World.block_lt_of_cell? w a c0'
    obtain ⟨L, hL⟩ := ens_of_cells (w := w) (b := a.block) (o := a.off) (n := len) hb0 fun i him => by
      obtain ⟨v0, y0, n0, c0, t0, u0⟩ := hi i him 0 _ rfl
      obtain ⟨v1, y1, n1, c1, t1, _⟩ := hi i him 1 _ rfl
      obtain ⟨v2, y2, n2, c2, t2, u2⟩ := hi i him 2 _ rfl
      obtain ⟨v3, y3, n3, c3, t3, _⟩ := hi i him 3 _ rfl
      obtain ⟨v4, y4, n4, c4, t4, _⟩ := hi i him 4 _ rfl
      obtain ⟨v5, y5, n5, c5, t5, _⟩ := hi i him 5 _ rfl
      obtain ⟨v6, y6, n6, c6, t6, u6⟩ := hi i him 6 _ rfl
      obtain ⟨A, m, c, l, rfl, hs, _⟩ := field_bytes Try.underlying28 Try.underlying5 (by kernel_rfl) t0
      obtain ⟨fam, rfl, _⟩ := field_int Try.underlying3 t1
      obtain ⟨B, m2, d, l2, rfl, hs2, _⟩ := field_bytes Try.underlying28 Try.underlying5 (by kernel_rfl) t2
      obtain ⟨ts, rfl, _⟩ := field_int Try.underlying3 t3
      obtain ⟨sq, rfl, _⟩ := field_int Try.underlying3 t4
      obtain ⟨kd, rfl, _⟩ := field_int Try.underlying3 t5
      obtain ⟨D, m3, q, l3, rfl, hs3, _⟩ := field_bytes Try.underlying28 Try.underlying5 (by kernel_rfl) t6
      have e1 := hs.rb.len
      have e2 := hs2.rb.len
      have e3 := hs3.rb.len
      subst e1 e2 e3
      rw [addr_add _ _ hsp] at c0 c1 c2 c3 c4 c5 c6
      refine ⟨⟨A, c, B, d, D, q, ⟨l, fam, l2, ts, sq, kd, l3⟩⟩, fun j v hj => ?_, ⟨hs, hs2, hs3⟩⟩
      match j, hj with
      | 0, hj => injection hj with hj; subst hj; exact c0
      | 1, hj => injection hj with hj; subst hj; exact c1
      | 2, hj => injection hj with hj; subst hj; exact c2
      | 3, hj => injection hj with hj; subst hj; exact c3
      | 4, hj => injection hj with hj; subst hj; exact c4
      | 5, hj => injection hj with hj; subst hj; exact c5
      | 6, hj => injection hj with hj; subst hj; exact c6
    exact ⟨some a, len, cap, L, rfl, hl, hm, by obtain ⟨b, o, sp⟩ := a; simp at hsp; subst hsp; exact hL⟩
set_option maxRecDepth 100000 in
theorem full_ents_top3 {r : Reach} {b0 : Nat} {v : Value} {d : DataW H} {ps : List MemPlace} (hval : Value.okWide Try.prog w r b0 22 v) (h : DataW.Trod enc Try.prog w base (fun _ => true) held 22 v d ps) :
    ∃ (A : Option Addr) (n c : Nat) (L : List Ent), v = .slice A n c ∧ (n ≤ c ∧ c ≤ 9223372036854775807) ∧ Ens w A n L := by
  obtain ⟨fuel, hf⟩ := open_slice_top Try.underlying22 hval h
  obtain ⟨A, n, c, L, h1, h2, h3, h4⟩ := full_ents hf
  injection h1 with h1
  exact ⟨A, n, c, L, h1, ⟨h2, h3⟩, h4⟩
end
end Go.Proofs.Ytdaoinhkagmbdaa
