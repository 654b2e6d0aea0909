/-
  Laid together by merge.py: CellP4, CellW9, BlockL1, Kit33, Kit34, Kit40, Kit41, FullK, FullK2, BlockM1, BlockP, BlockP2, BlockP3, BlockP4, BlockP5, BlockP6, WireP10, WireR5, CellR7, BlockW1, BlockW2, BlockW3, BlockB1, BlockB2.
-/
import Derived.Test.YtmigjipfomfacaaDoorBu3
import Derived.Test.YtmigjipfomfacaaDoorBu2
import Derived.Deep.DeepCutAuto
import Derived.Lib.SlBytesConst
import Derived.RangeFuncNested
import Derived.RangeFuncBound
import Derived.RangeFuncCalls
import Derived.RangeFuncLeaves
import Derived.OwnWalkIn
import Derived.TacticsInMore
import Derived.LoopIn
import Derived.Shelf.Abstract
import Derived.Test.YtmigjipfomfacaaDoorBu1
import Derived.Deep.RegionWith
import Derived.StillTailTactics
import Derived.Deep.RegionHeld3
namespace Go.Proofs.YtmigjipfomfacaaDoor
open Go.RowKit
theorem unpack_cases (b : List UInt8) (a : Int) {C : Ent × Nat × Int → Prop}
    (u1 : ∀ K p er, readBy b a 1048 = (K, p, er) → er ≠ 0 → C (noEnt, 0, (er : Int)))
    (u2 : ∀ K p E z, K.length ≤ 1048 → readBy b a 1048 = (K, p, 0) → z ≠ 0 → ParseKeyE K = (E, z) → C (noEnt, 0, 29))
    (u3 : ∀ K p E V p2 er, K.length ≤ 1048 → readBy b a 1048 = (K, p, 0) → ParseKeyE K = (E, 0) → readBy b (p : Int) 4096 = (V, p2, er) → er ≠ 0 → C (noEnt, 0, (er : Int)))
    (u4 : ∀ K p E V p2, K.length ≤ 1048 → readBy b a 1048 = (K, p, 0) → ParseKeyE K = (E, 0) → readBy b (p : Int) 4096 = (V, p2, 0) → V.length ≤ 4096 → E.kind ≠ 1 → 0 < V.length → C (noEnt, 0, 29))
    (ok : ∀ K p E V p2, K.length ≤ 1048 → readBy b a 1048 = (K, p, 0) → ParseKeyE K = (E, 0) → readBy b (p : Int) 4096 = (V, p2, 0) → V.length ≤ 4096 → E.kind = 1 ∨ V.length = 0 → C ({ E with val := V }, p2, 0)) :
    C (UnpackE b a) := by
  unfold UnpackE
  obtain ⟨K, p, er, h1⟩ : ∃ K p er, readBy b a 1048 = (K, p, er) := ⟨_, _, _, rfl⟩
  have hm := readBy_most b a 1048
  rw [h1] at hm ⊢
  simp only at hm ⊢
  by_cases he : er = 0
  · subst he
    have hK : K.length ≤ 1048 := by have := hm rfl; omega
    rw [if_neg (by simp)]
    obtain ⟨E, z, hp⟩ : ∃ E z, ParseKeyE K = (E, z) := ⟨_, _, rfl⟩
    rw [hp]
    simp only
    by_cases hz : z = 0
    · subst hz
      rw [if_neg (by simp)]
      unfold UnpackV
      obtain ⟨V, p2, er, h3⟩ : ∃ V p2 er, readBy b (p : Int) 4096 = (V, p2, er) := ⟨_, _, _, rfl⟩
      have hm2 := readBy_most b (p : Int) 4096
      rw [h3] at hm2 ⊢
      simp only at hm2 ⊢
      by_cases he : er = 0
      · subst he
        have hV : V.length ≤ 4096 := by have := hm2 rfl; omega
        rw [if_neg (by simp)]
        by_cases hh : E.kind ≠ 1 ∧ 0 < V.length
        · rw [if_pos hh]
          exact u4 K p E V p2 hK h1 hp h3 hV hh.1 hh.2
        · rw [if_neg hh]
          refine ok K p E V p2 hK h1 hp h3 hV ?_
          by_cases hk : E.kind = 1
          · exact .inl hk
          · exact .inr (by have : ¬ 0 < V.length := fun h => hh ⟨hk, h⟩; omega)
      · rw [if_pos he]
        exact u3 K p E V p2 er hK h1 hp h3 he
    · rw [if_pos hz]
      exact u2 K p E z hK h1 hz hp
  · rw [if_pos he]
    exact u1 K p er h1 he
theorem unpack_out {b : List UInt8} {a : Int} (h : a < 0 ∨ (b.length : Int) < a) : UnpackE b a = (noEnt, 0, 1) := by
  unfold UnpackE
  have : readBy b a 1048 = ([], 0, 1) := by unfold readBy; rw [if_pos (by omega)]
  rw [this]
  rfl
end Go.Proofs.YtmigjipfomfacaaDoor
namespace Go.Proofs.YtmigjipfomfacaaDoor
open Go.RowKit
def UPost (r : Ent × Nat × Int) (w : World) : Ending → World → Prop := EntPost (fun v => .tuple #[v, .int .i64 (r.2.1 : Int), .int .i64 r.2.2]) r.1 w
end Go.Proofs.YtmigjipfomfacaaDoor
namespace Go.Proofs.YtmigjipfomfacaaDoor
open Go.RowKit
set_option maxRecDepth 100000 in
set_option maxHeartbeats 1000000 in
theorem same_any (a b : List UInt8) (A B : Option Addr) (n c m d : Nat) (w : World) (hn : n ≤ 9223372036854775807) (ha : RB w w.heap.size A n a) (hb : RB w w.heap.size B m b) :
    Calls Tryd.prog 16 #[.slice A n c, .slice B m d] w fun e w' => e = .returned (.bool (a == b)) ∧ Below w.heap.size w w' := by
  have HLA := Lib.hid ha.len
  have HLB := Lib.hid hb.len
  have HA : Hid (∀ w', Below w.heap.size w w' → RB w' w'.heap.size A n a) := Lib.hid fun w' h => ha.later h
  have HB : Hid (∀ w', Below w.heap.size w w' → RB w' w'.heap.size B m b) := Lib.hid fun w' h => hb.later h
  clear ha hb
  by_cases hnm : n = m
  case neg =>
    have HE : Hid ((a == b) = false) := Lib.hid (by rw [beq_eq_false_iff_ne]; intro h; exact hnm (by rw [← HLA.out, ← HLB.out, h]))
    have hd : ((n : Int) != (m : Int)) = true := by rw [bne_iff_ne]; omega
    have hd2 : (n != m) = true := by rw [bne_iff_ne]; omega
    clear hnm
    go_enter Tryd.func16, Tryd.ntmps16
    go_wp2
    go_ret
    exact ⟨by rw [HE.out]; rfl, Below.refl _ _⟩
  subst hnm
  go_enter Tryd.func16, Tryd.ntmps16
  go_wp2
  go_loopw [5] (fun i wr => ∃ k : Nat, k ≤ n ∧ i = .int .i64 k ∧ Hid (a.take k = b.take k) ∧ Hid (Below w.heap.size w wr)) (fun i _ => n - (intOf i).toNat)
  case atStart => exact ⟨0, Nat.zero_le _, rfl, Lib.hid rfl, Lib.hid (Below.refl _ _)⟩
  case round =>
    obtain ⟨k, hkn, rfl, HT, HW⟩ := hrel
    by_cases hlt : k < n
    case neg =>
      have HE : Hid ((a == b) = true) := Lib.hid (by
        have h := HT.out
        rw [List.take_of_length_le (by have := HLA.out; omega), List.take_of_length_le (by have := HLB.out; omega)] at h
        rw [h]; simp)
      have hd1 : decide ((k : Int) < (n : Int)) = false := decide_eq_false (by omega)
      have hd2 : decide (k < n) = false := decide_eq_false hlt
      go_wp2
      go_ret
      exact ⟨by rw [HE.out]; rfl, HW.out⟩
    have hd1 : decide ((k : Int) < (n : Int)) = true := decide_eq_true (by omega)
    have hd2 : decide (k < n) = true := decide_eq_true hlt
    have hk1 : (k : Int) < (n : Int) := by omega
    obtain ⟨b1, o1, x, rfl, _, hx, _⟩ := (HA.out _ HW.out).at_ hlt
    obtain ⟨b2, o2, y, rfl, _, hy, _⟩ := (HB.out _ HW.out).at_ hlt
    have HX := Lib.hid hx
    have HY := Lib.hid hy
    have c1 := (HA.out _ HW.out).cell HX.out
    have c2 := (HB.out _ HW.out).cell HY.out
    clear hx hy
    by_cases hxy : x = y
    case neg =>
      have HE : Hid ((a == b) = false) := Lib.hid (by
        rw [beq_eq_false_iff_ne]; intro h
        have h1 := HX.out; have h2 := HY.out
        rw [h, h2] at h1; injection h1 with h1; exact hxy h1.symm)
      have e1 : ((x.toNat : Int) != (y.toNat : Int)) = true := by rw [bne_iff_ne]; intro h; exact hxy (UInt8.toNat_inj.1 (by omega))
      have e2 : (x.toNat != y.toNat) = true := by rw [bne_iff_ne]; intro h; exact hxy (UInt8.toNat_inj.1 h)
      have HW2 := Lib.hid (fun k => below_drewN (n := k) HW.out)
      clear hxy
      go_wp2_with fail
      go_quiet (fail)
      have HW3 := Lib.hid (HW2.out nq)
      clear c1 c2
      generalize wr.drewN nq = w3 at *
      go_wp2
      go_ret
      exact ⟨by rw [HE.out]; rfl, HW3.out⟩
    subst hxy
    have HE := Lib.hid (cmp_eq_at HT.out HX.out HY.out)
    have e1 : ((x.toNat : Int) != (x.toNat : Int)) = false := by simp
    have HW2 := Lib.hid (fun k => below_drewN (n := k) HW.out)
    go_wp2_with fail
    go_quiet (fail)
    have HW3 := Lib.hid (HW2.out nq)
    clear c1 c2
    generalize wr.drewN nq = w3 at *
    go_wp2
    go_roundw
    case rel => exact ⟨k + 1, by omega, by go_num, HE, HW3⟩
    case measure => simp [intOf]; omega
set_option maxRecDepth 100000 in
set_option maxHeartbeats 1000000 in
theorem copied_any (l : List UInt8) (A : Option Addr) (n c : Nat) (w : World) (hn : n ≤ 140737488355000) (hr : RB w w.heap.size A n l) :
    Calls Tryd.prog 92 #[.slice A n c] w (BytesPost 5 l w) := by
  have HR := Lib.hid hr
  clear hr
  go_enter Tryd.func92, Tryd.ntmps92
  go_wp2_with (at_builtin; go_must (refine wpList_append_reads _ rfl (.tmp 4) (.tmp 5) rfl Tryd.u8s' w.heap.size (.slice none 0 0) 0 [] rfl (own_nil _ _ _ _) _ A n c (u8s l) rfl HR.out (u8s_one _) (by unfold maxLen; omega) (by omega) (Nat.le_refl _) ?_); intro v1 w1 hown1 hg1 hat1; have HB1 := Lib.hid (below_app (Below.refl w.heap.size w) (own_nil _ w.heap.size 5 1) hg1 (Nat.le_refl _) (Nat.le_refl _)); rw [List.nil_append, Nat.zero_add] at hown1; have HO1 := Lib.hid hown1; clear hown1 hg1 hat1)
  go_ret
  exact bytes_post HO1.out HB1.out
set_option maxRecDepth 100000 in
set_option maxHeartbeats 2000000 in
theorem sameEntry_any (a b : Ent) (A : Option Addr) (n c : Nat) (B : Option Addr) (m d : Nat) (D : Option Addr) (v q : Nat) (A' : Option Addr) (n' c' : Nat) (B' : Option Addr) (m' d' : Nat) (D' : Option Addr) (v' q' : Nat) (w : World) (he : a = b) (ha : En w A n c B m d D v q a) (hb : En w A' n' c' B' m' d' D' v' q' b) :
    Calls Tryd.prog 15 #[entV A n c B m d D v q a, entV A' n' c' B' m' d' D' v' q' b] w fun e w1 => e = .returned (.bool true) ∧ Below w.heap.size w w1 := by
  have HT := Lib.hid (Two.new w 37 #[.slice A n c, .int .i64 a.fam, .slice B m d, .int .i64 a.ts, .int .i64 a.seq, .int .i64 a.kind, .slice D v q] #[.slice A' n' c', .int .i64 b.fam, .slice B' m' d', .int .i64 b.ts, .int .i64 b.seq, .int .i64 b.kind, .slice D' v' q'])
  have HA : Hid (∀ x, Below w.heap.size w x → En x A n c B m d D v q a) := Lib.hid fun x h => ha.later h
  have HC : Hid (∀ x, Below w.heap.size w x → En x A' n' c' B' m' d' D' v' q' b) := Lib.hid fun x h => hb.later h
  have HLE : Hid (n ≤ 9223372036854775807 ∧ m ≤ 9223372036854775807 ∧ v ≤ 9223372036854775807) := Lib.hid ⟨ha.row.le, ha.qual.le, ha.val.le⟩
  have HQ : Hid (a.row = b.row ∧ a.qual = b.qual ∧ a.val = b.val) := Lib.hid ⟨by rw [he], by rw [he], by rw [he]⟩
  have XS : Hid (∀ l : List UInt8, (l == l) = true) := Lib.hid (by simp)
  have e1 : a.fam = b.fam := by rw [he]
  have e2 : a.ts = b.ts := by rw [he]
  have e3 : a.seq = b.seq := by rw [he]
  have e4 : a.kind = b.kind := by rw [he]
  unfold entV
  rw [e1, e2, e3, e4] at HT ⊢
  clear ha hb he e1 e2 e3 e4
  have tok1 : True := trivial
  have tok2 : True := trivial
  go_enter Tryd.func15, Tryd.ntmps15
  go_wp2_with (first
    | (go_at_call 16; have _t := tok1; go_must (refine (same_any a.row a.row _ _ _ _ _ _ _ HLE.out.1 (HA.out _ HT.out.up).row.rb (by have h := (HC.out _ HT.out.up).row.rb; rw [← HQ.out.1] at h; exact h)).mono ?_); rw [XS.out]; rintro e x1 ⟨rfl, hb1⟩; have HT1 := Lib.hid (HT.out.later hb1); clear hb1 tok1; have a2 := boxed1 HT1.out (i := 2) (v := .slice B m d) rfl; have b2 := boxed2 HT1.out (i := 2) (v := .slice B' m' d') rfl)
    | (go_at_call 16; have _t := tok2; go_must (refine (same_any a.qual a.qual _ _ _ _ _ _ _ HLE.out.2.1 (HA.out _ HT1.out.up).qual.rb (by have h := (HC.out _ HT1.out.up).qual.rb; rw [← HQ.out.2.1] at h; exact h)).mono ?_); rw [XS.out]; rintro e x2 ⟨rfl, hb2⟩; have HT2 := Lib.hid (HT1.out.later hb2); clear hb2 tok2; have a6 := boxed1 HT2.out (i := 6) (v := .slice D v q) rfl; have b6 := boxed2 HT2.out (i := 6) (v := .slice D' v' q') rfl)
    | (go_at_call 16; go_must (refine (same_any a.val a.val _ _ _ _ _ _ _ HLE.out.2.2 (HA.out _ HT2.out.up).val.rb (by have h := (HC.out _ HT2.out.up).val.rb; rw [← HQ.out.2.2] at h; exact h)).mono ?_); rw [XS.out]; rintro e x3 ⟨rfl, hb3⟩; have HT3 := Lib.hid (HT2.out.later hb3); clear hb3))
  go_ret
  exact ⟨rfl, HT3.out.up⟩
theorem conv_const (W : World) (C : Array Value) (n c g : Nat) (hg : g = W.heap.size) : (convert 24 24 (.slice (some ⟨g, 0, none⟩) n c)).run Tryd.prog (W.alloc (.cells C 5)) = .ok (.slice (some ⟨g, 0, none⟩) n c) (W.alloc (.cells C 5 (C.size, C.size + 1))) := by
  subst hg; exact Lib.run_convert_bytes_const (P := Tryd.prog) W 24 5 C n c Tryd.underlying24 Tryd.underlying5
theorem three_lits (w : World) (o : Obj) (a b d : UInt8) (t : TypeId) (fr : Nat × Nat) : ∀ W, W = (((w.alloc o).alloc (.cells #[u8v a] t fr)).alloc (.cells #[u8v b] t fr)).alloc (.cells #[u8v d] t fr) →
    Sl W (some ⟨w.heap.size + 1, 0, none⟩) 1 1 [a] ∧ Sl W (some ⟨w.heap.size + 1 + 1, 0, none⟩) 1 1 [b] ∧ Sl W (some ⟨w.heap.size + 1 + 1 + 1, 0, none⟩) 1 1 [d] ∧ Below (w.alloc o).heap.size (w.alloc o) W := by
  rintro W rfl
  have hz : ∀ (x : World) (o : Obj), (x.alloc o).heap.size = x.heap.size + 1 := fun x o => by show (x.heap.push _).size = _; simp
  have hb : ∀ (x : World) (o : Obj), Below x.heap.size x (x.alloc o) := fun x o => (Below.refl _ x).alloc (Nat.le_refl _) o
  have s1 := Sl.lit (w.alloc o) #[u8v a] [a] t fr rfl rfl (by show (1 : Nat) ≤ 9223372036854775807; decide)
  have s2 := Sl.lit ((w.alloc o).alloc (.cells #[u8v a] t fr)) #[u8v b] [b] t fr rfl rfl (by show (1 : Nat) ≤ 9223372036854775807; decide)
  have s3 := Sl.lit (((w.alloc o).alloc (.cells #[u8v a] t fr)).alloc (.cells #[u8v b] t fr)) #[u8v d] [d] t fr rfl rfl (by show (1 : Nat) ≤ 9223372036854775807; decide)
  rw [hz w o] at s1
  rw [hz _ _, hz w o] at s2
  rw [hz _ _, hz _ _, hz w o] at s3
  exact ⟨(s1.later (hb _ _)).later (hb _ _), s2.later (hb _ _), s3, ((hb _ _).trans ((hb _ _).mono (by rw [hz (w.alloc o)]; omega))).trans ((hb _ _).mono (by rw [hz ((w.alloc o).alloc _), hz (w.alloc o)]; omega))⟩
def atE (ts : Int) : Ent := ⟨[114], 0, [113], ts, 32, 1, [118]⟩
def AtPost (ts : Int) (w : World) (r : Ending) (w' : World) : Prop := ∃ A B D, r = .returned (entV A 1 1 B 1 1 D 1 1 (atE ts)) ∧ En w' A 1 1 B 1 1 D 1 1 (atE ts) ∧ Below w.heap.size w w'
set_option maxRecDepth 100000 in
set_option maxHeartbeats 2000000 in
theorem atE_any (ts : Int) (w : World) : Calls Tryd.prog 20 #[.int .i64 ts] w (AtPost ts w) := by
  have kc := conv_const
  go_enter Tryd.func20, Tryd.ntmps20
  go_wp2
  (try simp only [Exit.inBlock, Exit.then])
  obtain ⟨h1, h2, h3, hb⟩ := three_lits w (.cells #[.slice (some ⟨w.heap.size + 1, 0, none⟩) 1 1, .int .i64 0, .slice (some ⟨w.heap.size + 1 + 1, 0, none⟩) 1 1, .int .i64 ts, .int .i64 32, .int .i64 1, .slice (some ⟨w.heap.size + 1 + 1 + 1, 0, none⟩) 1 1] 37) 114 113 118 5 (1, 2) _ rfl
  have HB := (Bxs.one w 37 #[.slice (some ⟨w.heap.size + 1, 0, none⟩) 1 1, .int .i64 0, .slice (some ⟨w.heap.size + 1 + 1, 0, none⟩) 1 1, .int .i64 ts, .int .i64 32, .int .i64 1, .slice (some ⟨w.heap.size + 1 + 1 + 1, 0, none⟩) 1 1]).later hb
  refine bodyPost_ret (results_box0 rfl _ _ w.heap.size _ rfl (HB.cells0 rfl) (by kernel_rfl) (by kernel_rfl)) rfl ?_
  exact ⟨_, _, _, rfl, ⟨h1, h2, h3⟩, HB.up⟩
end Go.Proofs.YtmigjipfomfacaaDoor
namespace Go.Proofs.YtmigjipfomfacaaDoor
open Go.RowKit
theorem bytO_app (T : TypeId) (A : Option Addr) (c n m : Nat) (l r : List UInt8) (hn : l.length = n) (hm : r.length = m) : rowO T 1 (.slice A (n + m) c) (n + m) (u8s l ++ u8s r) = bytO T (A, c, l ++ r) := by
  subst hn; subst hm
  unfold bytO rowO
  simp [u8s]
section
variable {P : Program} {ops : Array Oper} {Q : Exit → Act → World → Prop} {K : Act → World → Prop} {rest : List Oper} {o : Oper} {a : Act} {w x : World} {os : List Ob}
theorem wpo_appB {t e : TypeId} (s y : Operand) (ho : o.op = .call { callee := .builtin .append, args := #[s, y], argTypes := #[t, t] }) (hS : SliceOf P t e 1 1) (h : OW w os x) (i : Nat) {A : Option Addr} {c n : Nat} {l : List UInt8} (hi : os[i]? = some (bytO e (A, c, l))) (hn : l.length = n) (hs : a.eval s = .slice A n c)
    (B : Nat) (A2 : Option Addr) (m c2 : Nat) (r : List UInt8) (hy : a.eval y = .slice A2 m c2) (hr : RB x B A2 m r) (hb : n + m ≤ 140737488355328)
    (hK : ∀ A' c' z, OW w (os.set i (bytO e (A', c', l ++ r))) z → x.grownBy z (Value.slice A n c).ownBlock → K (a.put o.dst (.slice A' (n + m) c')) z) : o.wp P a x K Q := by
  subst hn
  refine wpo_append s y ho hS h i (v := .slice A l.length c) (n := l.length) (cs := u8s l) hi hs B A2 m c2 (u8s r) hy hr (u8s_one r) (by unfold maxLen; omega) (by omega) fun A' c' z hz hg => hK A' c' z ?_ hg
  rw [bytO_app e A' c' _ m l r rfl hr.len] at hz
  exact hz
theorem wl_appB {t e : TypeId} (hgd : Region.wanted o (yielded ops a.tmps) = true) (s y : Operand) (ho : o.op = .call { callee := .builtin .append, args := #[s, y], argTypes := #[t, t] }) (hS : SliceOf P t e 1 1) (h : OW w os x) (i : Nat) {A : Option Addr} {c n : Nat} {l : List UInt8} (hi : os[i]? = some (bytO e (A, c, l))) (hn : l.length = n) (hs : a.eval s = .slice A n c)
    (B : Nat) (A2 : Option Addr) (m c2 : Nat) (r : List UInt8) (hy : a.eval y = .slice A2 m c2) (hr : RB x B A2 m r) (hb : n + m ≤ 140737488355328)
    (hK : ∀ A' c' z, OW w (os.set i (bytO e (A', c', l ++ r))) z → wpList P ops Q rest (a.put o.dst (.slice A' (n + m) c')) z) : wpList P ops Q (o :: rest) a x :=
  BigFrame.wpList_want hgd fun _ hk => wpo_appB s y ho hS h i hi hn hs B A2 m c2 r hy hr hb fun A' c' z hz _ => hk _ _ (hK A' c' z hz)
theorem wl_make0 {t e : TypeId} {size bytes : Nat} (hg : o.guard = none) (l c : Operand) (hop : o.op = Op.makeSlice t l c) (hS : SliceOf P t e size bytes) (n : Nat) (C : Int) (hl : a.eval l = .int .i64 0) (hc : a.eval c = .int .i64 C) (hC : C = (n : Int)) (b2 : bytes * n ≤ 281474976710656) (b3 : n ≤ maxLen) (h : OW w os x)
    (hK : ∀ g z, OW w (os ++ [rowO e size (.slice (some ⟨g, 0, none⟩) 0 n) 0 []]) z → Below x.heap.size x z → wpList P ops Q rest (a.put o.dst (.slice (some ⟨g, 0, none⟩) 0 n)) z) : wpList P ops Q (o :: rest) a x := by
  obtain ⟨ht, ⟨i, z, hi, hz, hsz, hby, _⟩, _⟩ := hS
  subst hby
  refine wpList_make_own x hg l c t hop x.heap.size e i z size ht hi hz hsz .i64 .i64 C n hl hc hC b2 b3 (Nat.le_refl _) fun w' ho hgr => ?_
  have hb := below_grown_none hgr
  exact hK _ _ (h.app (OW.row1 hb ho)) hb
theorem wl_makeN {t e : TypeId} {size bytes : Nat} (hg : o.guard = none) (l c : Operand) (hop : o.op = Op.makeSlice t l c) (hS : SliceOf P t e size bytes) (z : Value) (hz : (P.info? e).bind (·.zero) = some z) (n : Nat) (L C : Int) (hl : a.eval l = .int .i64 L) (hc : a.eval c = .int .i64 C) (hL : L = (n : Int)) (hC : C = (n : Int)) (b2 : bytes * n ≤ 281474976710656) (b3 : n ≤ maxLen) (h : OW w os x)
    (hK : ∀ g y, OW w (os ++ [rowO e size (.slice (some ⟨g, 0, none⟩) n n) n (madeCells z.cells (n * size)).toList]) y → Below x.heap.size x y → wpList P ops Q rest (a.put o.dst (.slice (some ⟨g, 0, none⟩) n n)) y) : wpList P ops Q (o :: rest) a x := by
  obtain ⟨ht, ⟨i, z', hi, hz', hsz, hby, _⟩, _⟩ := hS
  subst hby
  rw [hi] at hz
  have hz : i.zero = some z := hz
  rw [hz'] at hz; injection hz with hz; subst hz
  refine wpList_make_full x hg l c t hop x.heap.size e i z' size ht hi hz' hsz .i64 .i64 L C n hl hc hL hC b2 b3 (Nat.le_refl _) fun w' ho hgr => ?_
  have hb := below_grown_none hgr
  exact hK _ _ (h.app (OW.row1 hb ho)) hb
end
theorem OW.nilRow {w x : World} {os : List Ob} (h : OW w os x) (T : TypeId) (sz : Nat) : OW w (os ++ [rowO T sz (.slice none 0 0) 0 []]) x := h.app ⟨Below.refl _ _, fun o ho => by
  obtain rfl := List.mem_singleton.1 ho
  exact ⟨(fun e => nomatch e), fun _ => own_nil _ _ _ _⟩, List.pairwise_singleton _ _⟩
theorem OW.nilB {w x : World} {os : List Ob} (h : OW w os x) (T : TypeId) : OW w (os ++ [bytO T (none, 0, [])]) x := h.nilRow T 1
theorem OW.bytes2 {w y : World} {T : TypeId} {A : Option Addr} {c : Nat} {l l' : List UInt8} {v : Value} {k k' : Int} {n : Nat} (h : OW w [bytO T (A, c, l)] y) (hl : l = l') (hn : l.length = n) (hk : k = k') (hv : v = .slice A n c) : BytesPost2 T l' k' w (.returned (.tuple #[v, .int .i64 k])) y := by
  subst hl; subst hk; subst hn; subst hv
  exact ⟨A, c, rfl, h.byt (i := 0) rfl, h.up⟩
theorem OW.bytes1 {w y : World} {T : TypeId} {A : Option Addr} {c : Nat} {l l' : List UInt8} {v : Value} {n : Nat} (h : OW w [bytO T (A, c, l)] y) (hl : l = l') (hn : l.length = n) (hv : v = .slice A n c) : BytesPost T l' w (.returned v) y := by
  subst hl; subst hn; subst hv
  exact ⟨A, c, rfl, h.byt (i := 0) rfl, h.up⟩
end Go.Proofs.YtmigjipfomfacaaDoor
namespace Go.Proofs.YtmigjipfomfacaaDoor
open Go.RowKit
def bytesIn (c : Nat) (l : List UInt8) (r : Obj) : Prop := ∃ cur T, r = .cells cur T (0, 0) ∧ c ≤ cur.size ∧ cur.toList.take l.length = u8s l
def clipO (A : Option Addr) (l : List UInt8) : Ob := match A with
  | none => nilO
  | some a => phiO a.block (bytesIn l.length l)
theorem bytesIn.at_ {c : Nat} {l : List UInt8} {r : Obj} {x : World} {g j : Nat} {b : UInt8} (h : bytesIn c l r) (hr : x.heap[g]? = some r) (hj : l[j]? = some b) : x.cell? ⟨g, j, none⟩ = some (u8v b) := by
  obtain ⟨cur, T, rfl, _, h2⟩ := h
  have hlt : j < l.length := (List.getElem?_eq_some_iff.1 hj).1
  have h3 : (cur.toList.take l.length)[j]? = (u8s l)[j]? := by rw [h2]
  rw [List.getElem?_take_of_lt hlt, u8s_at hj] at h3
  simp [World.cell?, hr]
  simpa [u8v] using h3
def CAt (A : Option Addr) (l : List UInt8) : Prop := (A = none ∧ l = []) ∨ ∃ g, A = some ⟨g, 0, none⟩
section
variable {w x : World} {os : List Ob} {i c n : Nat} {T : TypeId} {A : Option Addr} {l : List UInt8}
theorem cat_of (h : OW w os x) (hi : os[i]? = some (bytO T (A, c, l))) : CAt A l := by
  have h1 := h.byt hi
  rcases h1.2 with ⟨hv, h0⟩ | ⟨g, cap, cur, hv, _⟩
  · injection hv with hv
    exact .inl ⟨hv, List.eq_nil_of_length_eq_zero h0⟩
  · injection hv with hv
    exact .inr ⟨g, hv⟩
theorem OW.clip (h : OW w os x) (hi : os[i]? = some (bytO T (A, c, l))) : OW w (os.set i (clipO A l)) x := by
  have h1 := h.byt hi
  refine h.upd hi (Chg.refl (fun _ => False) x) (fun _ _ e => e.elim) ?_ fun b hb => .inl ?_
  · rcases cat_of h hi with ⟨rfl, rfl⟩ | ⟨g, rfl⟩
    · exact ⟨(fun e => nomatch e), fun _ => own_nil _ _ _ _⟩
    · obtain ⟨hl, h2⟩ := h1
      rcases h2 with ⟨hv, _⟩ | ⟨g', cap, cur, hv, h2, h3, h4, _, h5, h6⟩
      · cases hv
      injection hv with hv hv2 hv3
      injection hv with hv; injection hv with hv
      subst hv
      exact Ob.at_mkr rfl ⟨g, _, rfl, h2, h3, cur, _, rfl, by rw [h5]; omega, by rw [Nat.mul_one] at h6; exact h6⟩
  · rcases cat_of h hi with ⟨rfl, rfl⟩ | ⟨g, rfl⟩
    · cases hb
    · exact hb
theorem OW.clipSl (h : OW w os x) (hc : CAt A l) (hi : os[i]? = some (clipO A l)) (hn : l.length = n) (hm : n ≤ 9223372036854775807) : Sl x A n n l := by
  subst hn
  rcases hc with ⟨rfl, rfl⟩ | ⟨g, rfl⟩
  · exact Sl.none _
  · obtain ⟨k, r, h1, h2, h3, h4⟩ := (h.get (show os[i]? = some (phiO g (bytesIn l.length l)) from hi)).some_ rfl
    injection h1 with h1; injection h1 with h1; injection h1 with h1
    subst h1
    refine ⟨RB.mk' rfl fun _ => ⟨g, 0, rfl, (Array.getElem?_eq_some_iff.1 h3).1, fun j c hj => ?_⟩, Nat.le_refl _, hm, fun e => by cases e⟩
    rw [Nat.zero_add]
    exact h4.at_ h3 hj
theorem OW.clipSlm (h : OW w os x) (hc : CAt A l) (hi : clipO A l ∈ os) (hn : l.length = n) (hm : n ≤ 9223372036854775807) : Sl x A n n l := by
  obtain ⟨i, hi⟩ := List.getElem?_of_mem hi
  exact h.clipSl hc hi hn hm
end
theorem results_rowL {P : Program} {fn : Func} {p : Tmp} {ty : TypeId} (h : fn.results = #[.cell p ty]) (tmps : Array Value) (w : World) (g : Nat) (cs : List Value)
    (hp : tmps.getD p undef = .pointer (some ⟨g, 0, none⟩)) (hc : w.rangeAt g 0 cs)
    (ha : (P.underlying ty).map (fun d => match d with | .struct _ | .array _ _ => true | _ => false) = some true) (hi : (P.info? ty).map (·.size) = some cs.length) :
    (results fn tmps).run P w = .ok (.agg cs.toArray) w :=
  results_box0 h tmps w g cs.toArray hp (fun j v hv => by have := hc j v (by simpa using hv); rwa [Nat.zero_add] at this) ha (by simpa using hi)
theorem results_rowL1 {P : Program} {fn : Func} {p t : Tmp} {ty : TypeId} (h : fn.results = #[.cell p ty, .tmp t]) (tmps : Array Value) (w : World) (g : Nat) (cs : List Value)
    (hp : tmps.getD p undef = .pointer (some ⟨g, 0, none⟩)) (hc : w.rangeAt g 0 cs)
    (ha : (P.underlying ty).map (fun d => match d with | .struct _ | .array _ _ => true | _ => false) = some true) (hi : (P.info? ty).map (·.size) = some cs.length) :
    (results fn tmps).run P w = .ok (.tuple #[.agg cs.toArray, tmps.getD t undef]) w :=
  results_box1 h tmps w g cs.toArray hp (fun j v hv => by have := hc j v (by simpa using hv); rwa [Nat.zero_add] at this) ha (by simpa using hi)
end Go.Proofs.YtmigjipfomfacaaDoor
namespace Go.Proofs.YtmigjipfomfacaaDoor
open Go.RowKit
abbrev FW (ro : Option Nat) : Fence := { Fence.wide with round := ro }
theorem rowsIn_wide {n : Nat} {P : Program} {row : String} {args : Array Value} {w : World} {R : Value → World → Prop} (h : Rows P row args w R) : RowsIn Fence.wide n P row args w R :=
  fun c cs _ => let ⟨v, w', r, s⟩ := h c cs; ⟨v, w', r, stepsIn_wide.2 s⟩
theorem callsIn_fw {ro : Option Nat} {n : Nat} {P : Program} {f : FuncId} {args : Array Value} {w : World} {R : Ending → World → Prop} (h : Calls P f args w R) : CallsIn (FW ro) n P f args w R :=
  (callsIn_wide (n := n)).2 h
section
variable {P : Program} {ro : Option Nat} {n : Nat} {o : Oper} {a : Act} {w : World} {K K' : Act → World → Prop} {Q : Exit → Act → World → Prop}
theorem upon_in {r : Result Next} (hK : ∀ a w, K a w → K' a w) (h : o.upon P a K Q r) : o.uponIn (FW ro) n P a K' Q r := by
  unfold Oper.upon at h
  split at h
  · exact hK _ _ h
  · exact hK _ _ h
  · exact hK _ _ h
  · refine ⟨(fun e => nomatch e), (callsIn_fw h).mono fun e w' h => ?_⟩
    cases e with
    | returned v => exact hK _ _ h
    | panicked chain => exact h
    | outgrown => exact h
  · exact ⟨(fun e => nomatch e), RowsIn.mono (rowsIn_wide h) fun v w' h => hK _ _ h⟩
  · exact h
  · exact h.elim
theorem wp_in (hd : ∀ c, o.op ≠ .defer c) (hK : ∀ a w, K a w → K' a w) (h : o.wp P a w K Q) : o.wpIn (FW ro) n P a w K' Q :=
  ⟨fun _ _ => trivial, by rw [Oper.semAt_plain _ _ _ hd]; exact upon_in hK h⟩
def noDef (l : List Oper) : Bool := l.all fun o => match o.op with
  | .defer _ => false
  | _ => true
theorem noDef_at {l : List Oper} (h : noDef l = true) (ho : o ∈ l) (c : Call) : o.op ≠ .defer c := fun e => by
  have h1 := List.all_eq_true.1 h o ho
  rw [e] at h1; cases h1
theorem wpListIn_of {ops : Array Oper} (hQ : ∀ a w, ¬ Q .outgrown a w) : ∀ {l : List Oper} (_ : noDef l = true) (a : Act) (w : World), wpList P ops Q l a w → wpListIn (FW ro) n P ops Q l a w
  | [], _, _, _, h => h
  | o :: l, hd, a, w, h => by
    have hl : noDef l = true := List.all_eq_true.2 fun x hx => List.all_eq_true.1 hd x (List.mem_cons_of_mem _ hx)
    unfold wpList at h
    unfold wpListIn
    split
    · rename_i hw
      rw [if_pos hw] at h
      rcases h with h | ⟨_, a', w', h⟩
      · exact wp_in (noDef_at hd (List.mem_cons_self ..)) (fun a w => wpListIn_of hQ hl a w) h
      · exact (hQ _ _ h).elim
    · rename_i hw
      rw [if_neg hw] at h
      exact ⟨(fun _ _ => trivial), wpListIn_of hQ hl _ _ h⟩
def qIn (F : Fence) (n : Nat) (P : Program) (ops : Array Oper) (Q : Exit → Act → World → Prop) (rest : List Oper) : Exit → Act → World → Prop
  | .normal, a, w => wpListIn F n P ops Q rest a w
  | .outgrown, _, _ => False
  | .exit id, a, w => Q (.exit id) a w
  | .goto l, a, w => Q (.goto l) a w
  | .ret, a, w => Q .ret a w
  | .panic c, a, w => Q (.panic c) a w
theorem upon_q {F : Fence} {ops : Array Oper} {rest : List Oper} {r : Result Next} (h : o.upon P a K (qIn F n P ops Q rest) r) : o.upon P a K Q r := by
  unfold Oper.upon at h ⊢
  split at h
  · exact h
  · exact h
  · exact h
  · refine Calls.mono h fun e w' h => ?_
    cases e with
    | returned v => exact h
    | panicked chain => exact h
    | outgrown => obtain ⟨_, _, h⟩ := h; exact h.elim
  · exact h
  · exact h
  · exact h.elim
theorem wlIn_one {ops : Array Oper} {rest : List Oper} (hd : noDef [o] = true) (h : wpList P ops (qIn (FW ro) n P ops Q rest) [o] a w) : wpListIn (FW ro) n P ops Q (o :: rest) a w := by
  unfold wpList at h
  unfold wpListIn
  split
  · rename_i hw
    rw [if_pos hw] at h
    rcases h with h | ⟨_, a', w', h⟩
    · exact wp_in (noDef_at hd (List.mem_cons_self ..)) (fun a w h => h) (upon_q h)
    · exact h.elim
  · rename_i hw
    rw [if_neg hw] at h
    exact ⟨(fun _ _ => trivial), h⟩
theorem wlIn_back {F : Fence} {ops : Array Oper} {rest : List Oper} (h : wpListIn F n P ops Q rest a w) : wpList P ops (qIn F n P ops Q rest) [] a w := h
theorem wpOpsIn_of {ops : Array Oper} (hQ : ∀ a w, ¬ Q .outgrown a w) (hd : noDef ops.toList = true) : ∀ (l : List Nat) (a : Act) (w : World), wpOps P ops Q l a w → wpOpsIn (FW ro) n P ops Q l a w
  | [], _, _, h => h
  | i :: l, a, w, h => by
    unfold wpOps at h
    unfold wpOpsIn
    cases ho : ops[i]? with
    | none => rw [ho] at h; exact wpOpsIn_of hQ hd l a w h
    | some o =>
      rw [ho] at h
      simp only [] at h ⊢
      split
      · rename_i hw
        rw [if_pos hw] at h
        rcases h with h | ⟨_, a', w', h⟩
        · exact wp_in (noDef_at hd (Array.mem_toList_iff.2 (Array.mem_of_getElem? ho))) (fun a w => wpOpsIn_of hQ hd l a w) h
        · exact (hQ _ _ h).elim
      · rename_i hw
        rw [if_neg hw] at h
        exact ⟨(fun _ _ => trivial), wpOpsIn_of hQ hd l _ _ h⟩
theorem lt_startIn {id : Nat} {l : List Oper} (F : List Nat) (hm : P.follows .mixedOrders = true) (hd : noDef l = true) (hQ : ∀ a w, ¬ Q .outgrown a w) (h : ∀ z, Below w.heap.size w z → ∃ S, wpAnyT P l.toArray Q F S l.length (Array.replicate l.length false) a z) : (Code.region id l.toArray true).wpIn (FW ro) n P Q a w := by
  obtain ⟨S, h⟩ := h w.drew (Below.refl _ _).drew
  refine wpIn_region_draw fun t => wpOpsIn_of hQ (by simpa using hd) _ _ _ ?_
  simp only [Region.schedule, hm, Bool.true_or, if_true]
  exact wpAny_sound _ t _ a _ (wpAny_of_T _ _ _ _ (by simpa using h))
end
section
variable {w x y : World} {os : List Ob} {i k : Nat} {r : Obj}
theorem OW.rawh (h : OW w os x) (hi : os[i]? = some (rawO k r)) : w.heap.size ≤ k ∧ x.heap[k]? = some r := by
  obtain ⟨k', r', h1, h2, h3, rfl⟩ := (h.get hi).some_ rfl
  injection h1 with h1; injection h1 with h1; injection h1 with h1
  subst h1; exact ⟨h2, h3⟩
theorem chg_putObj (x : World) (k : Nat) (o : Obj) : Chg (fun b => b = k) x (x.putObj k o) :=
  ⟨rfl, rfl, rfl, by rw [World.putObj_size]; exact Nat.le_refl _, fun j _ hne => World.putObj_heap_other hne⟩
theorem OW.putRaw (h : OW w os x) (hi : os[i]? = some (rawO k r)) (r' : Obj) : OW w (os.set i (rawO k r')) (x.putObj k r') := by
  obtain ⟨h1, h2⟩ := h.rawh hi
  exact h.upd hi (chg_putObj x k r') (fun b _ e => by subst e; rfl) (Ob.at_mkr rfl ⟨k, r', rfl, h1, World.putObj_heap_same (Array.getElem?_eq_some_iff.1 h2).1, rfl⟩) fun b hb => .inl hb
theorem OW.raw1 (x : World) (r : Obj) : OW x [rawO x.heap.size r] (x.alloc r) :=
  ⟨(Below.refl _ _).alloc (Nat.le_refl _) _, fun o ho => by
    obtain rfl := List.mem_singleton.1 ho
    exact Ob.at_mkr rfl ⟨x.heap.size, r, rfl, Nat.le_refl _, World.alloc_heap_new x r, rfl⟩, List.pairwise_singleton _ _⟩
theorem getE_app {α : Type} (os : List α) (a : α) (ds : List α) : (os ++ a :: ds)[os.length]? = some a := by
  rw [List.getElem?_append_right (Nat.le_refl _), Nat.sub_self]; rfl
theorem setE_app {α : Type} (os : List α) (a b : α) (ds : List α) : (os ++ a :: ds).set os.length b = os ++ b :: ds := by
  rw [List.set_append_right _ _ (Nat.le_refl _), Nat.sub_self]; rfl
theorem OW.putRawE {ds : List Ob} (h : OW w (os ++ rawO k r :: ds) x) (r' : Obj) : OW w (os ++ rawO k r' :: ds) (x.putObj k r') := by
  have := h.putRaw (getE_app os _ ds) r'
  rwa [setE_app] at this
theorem OW.rawE {ds : List Ob} (h : OW w (os ++ rawO k r :: ds) x) : x.heap[k]? = some r := (h.rawh (getE_app os _ ds)).2
theorem OW.dropE {ds : List Ob} {o : Ob} (h : OW w (os ++ o :: ds) x) : OW w (os ++ ds) x :=
  h.sub (List.Sublist.append (List.Sublist.refl _) (List.sublist_cons_self _ _))
end
section
variable {α : Type} {P : Program}
def IterOK (P : Program) (g : Nat) (lb : Array Value) (L : List α) (Itr : World → Prop) (Hand : α → Array Value → World → World → Prop) : Prop :=
  ∀ (l : Nat) (J Jx : List α → World → Prop) (W : World),
    (∀ pre z, J pre z → Itr z) → (∀ pre y z, J pre y → Below y.heap.size y z → J pre z) → (∀ pre y z, Jx pre y → Below y.heap.size y z → Jx pre z) →
    (∀ pre x W0 vs W1, pre ++ [x] <+: L → J pre W0 → Hand x vs W0 W1 → YieldAt Fence.wide 9 P l vs W1 fun e z =>
      (e = .returned (.bool true) ∧ J (pre ++ [x]) z) ∨ (e = .returned (.bool false) ∧ Jx (pre ++ [x]) z)) →
    J [] W → Calls P g (#[.func (.yield l) #[] #[]] ++ lb) W fun e z => (∃ v, e = .returned v) ∧ (J L z ∨ ∃ pre, pre <+: L ∧ Jx pre z)
def mkRec (fn : FuncId) (tmps : Array Value) (ps : Array Tmp) (assign body : Code) (D : Nat) (st : LoopState) (pe : Option Code) : Loop :=
  { state := st, pending := pe, fn, tmps, params := ps, assign, body, defers := D }
def rPost (w : World) (p : List Ob) (I : List α → List Ob → Prop) (Ix : Code → List α → List Ob → Prop) (xs : List α) : Exit → Act → World → Prop
  | .normal, _, z => ∃ os, I xs os ∧ OW w (os ++ p) z
  | .ret, _, z => ∃ os, Ix .ret xs os ∧ OW w (os ++ p) z
  | .exit id, _, z => ∃ os, Ix (.exit id) xs os ∧ OW w (os ++ p) z
  | .goto t, _, z => ∃ os, Ix (.goto t) xs os ∧ OW w (os ++ p) z
  | .panic _, _, _ => False
  | .outgrown, _, _ => False
def setP (tmps : Array Value) (ps : Array Tmp) (vs : Array Value) : Array Value := (ps.zip vs).foldl (fun t (p, v) => t.setIfInBounds p v) tmps
theorem setP1 (tmps : Array Value) (p : Tmp) (v : Value) : setP tmps #[p] #[v] = tmps.setIfInBounds p v := by simp [setP]
def RoundOK (P : Program) (w : World) (l : Nat) (assign body : Code) (I : List α → List Ob → Prop) (Ix : Code → List α → List Ob → Prop) (tmps : Array Value) (p1 p2 : List Ob) (pre : List α) (x : α) (W1 : World) (vs : Array Value) (ps : Array Tmp) : Prop :=
  assign.wpIn (FW (some l)) 9 P (Exit.then (fun a1 z => ∃ os2, OW w (os2 ++ p1) z ∧ ∀ z2, OW w (os2 ++ p2) z2 → body.wpIn (FW (some l)) 9 P (rPost w p2 I Ix (pre ++ [x])) a1 z2) fun _ _ _ => False)
    { tmps := setP tmps ps vs, defers := [] } W1
theorem range_core {F : Fence} {n : Nat} {w W1 : World} {g l : Nat} {lb : Array Value} {L : List α} {Itr : World → Prop} {Hand : α → Array Value → World → World → Prop} {ps : Array Tmp} {assign body : Code} {Q : Exit → Act → World → Prop} {a' : Act} {fn : FuncId} {tmps : Array Value} {D : Nat} {ds : List Ob}
    (hit : IterOK P g lb L Itr Hand) (hps : ∀ x vs y z, Hand x vs y z → vs.size = ps.size ∧ Below y.heap.size y z) (I : List α → List Ob → Prop) (Ix : Code → List α → List Ob → Prop)
    (hI : ∀ pre os es z, I pre os → OW w (os ++ es) z → Itr z) {os0 : List Ob} (h0 : I [] os0) (hx : OW w (os0 ++ rawO l (.loop (mkRec fn tmps ps assign body D .ready none)) :: ds) W1)
    (hround : ∀ pre x vs W0 W1 os, pre ++ [x] <+: L → I pre os → OW w (os ++ rawO l (.loop (mkRec fn tmps ps assign body D .ready none)) :: ds) W0 → Hand x vs W0 W1 →
      RoundOK P w l assign body I Ix tmps (rawO l (.loop (mkRec fn tmps ps assign body D .ready none)) :: ds) (rawO l (.loop (mkRec fn tmps ps assign body D .busy none)) :: ds) pre x W1 vs ps)
    (hdone : ∀ os z, I L os → OW w (os ++ ds) z → Q .normal a' z) (hstop : ∀ c pre os z, pre <+: L → Ix c pre os → OW w (os ++ ds) z → c.wpIn F n P Q a' z) :
    Calls P g (#[.func (.yield l) #[] #[]] ++ lb) W1 (rangePost F n P l Q a') := by
  refine (hit l (fun pre z => ∃ os, I pre os ∧ OW w (os ++ rawO l (.loop (mkRec fn tmps ps assign body D .ready none)) :: ds) z)
    (fun pre z => ∃ c os, Ix c pre os ∧ OW w (os ++ rawO l (.loop (mkRec fn tmps ps assign body D .done (some c))) :: ds) z) W1
    (fun pre z ⟨os, h1, h2⟩ => hI pre os _ z h1 h2) (fun pre y z ⟨os, h1, h2⟩ hb => ⟨os, h1, h2.later hb⟩) (fun pre y z ⟨c, os, h1, h2⟩ hb => ⟨c, os, h1, h2.later hb⟩) ?_ ⟨os0, h0, hx⟩).mono ?_
  · rintro pre x W0 vs Wb hpre ⟨os, hi, ho⟩ hh
    have hr := hround pre x vs W0 Wb os hpre hi ho hh
    have hrec : Wb.heap[l]? = some (.loop (mkRec fn tmps ps assign body D .ready none)) := (ho.later (hps x vs _ _ hh).2).rawE
    exact ⟨fn, _, assign, body, run_yield hrec (by rw [(hps x vs _ _ hh).1]; rfl), roundIn_of_wpIn (F := Fence.wide) trivial (wpIn_mono hr fun e a1 z hz => by
      cases e with
      | normal =>
        obtain ⟨os2, h1, h2⟩ := hz
        refine ⟨_, run_beginRound h1.rawE rfl, ?_⟩
        refine wpIn_mono (h2 _ (h1.putRawE _)) fun e a3 z3 h3 => ?_
        cases e with
        | normal =>
          obtain ⟨os3, h4, h5⟩ := h3
          exact ⟨_, _, run_endRound none h5.rawE, .inl ⟨rfl, os3, h4, h5.putRawE _⟩⟩
        | ret =>
          obtain ⟨os3, h4, h5⟩ := h3
          exact ⟨_, _, run_endRound (some .ret) h5.rawE, .inr ⟨rfl, .ret, os3, h4, h5.putRawE _⟩⟩
        | exit id =>
          obtain ⟨os3, h4, h5⟩ := h3
          exact ⟨_, _, run_endRound (some (.exit id)) h5.rawE, .inr ⟨rfl, .exit id, os3, h4, h5.putRawE _⟩⟩
        | goto t =>
          obtain ⟨os3, h4, h5⟩ := h3
          exact ⟨_, _, run_endRound (some (.goto t)) h5.rawE, .inr ⟨rfl, .goto t, os3, h4, h5.putRawE _⟩⟩
        | panic ch => exact h3.elim
        | outgrown => exact h3.elim
      | ret => exact hz.elim
      | exit id => exact hz.elim
      | goto t => exact hz.elim
      | panic ch => exact hz.elim
      | outgrown => exact hz.elim)⟩
  · rintro e z ⟨⟨v, rfl⟩, ⟨os, h1, h2⟩ | ⟨pre, hp, c, os, h1, h2⟩⟩
    · exact ⟨none, _, run_endLoop h2.rawE (fun e => nomatch e), hdone os _ h1 (h2.putRawE _).dropE⟩
    · exact ⟨some c, _, run_endLoop h2.rawE (fun e => nomatch e), hstop c pre os _ hp h1 (h2.putRawE _).dropE⟩
def markD (D : Nat) : Deferred := { target := .collected D, args := #[] }
def dfrO (D : Nat) : Ob := rawO D (.deferred (some []))
theorem wp_range {w x : World} {g : Operand} {gf : Nat} {lb : Array Value} {L : List α} {Itr : World → Prop} {Hand : α → Array Value → World → World → Prop} {ps : Array Tmp} {assign body : Code} {Q : Exit → Act → World → Prop} {a : Act}
    (hg : a.eval g = .func (.func gf) #[] lb) (eg : ∀ args w, (callFunc gf args).run P w = .ok (.enter gf args) w)
    (hit : IterOK P gf lb L Itr Hand) (hps : ∀ x vs y z, Hand x vs y z → vs.size = ps.size ∧ Below y.heap.size y z) (I : List α → List Ob → Prop) (Ix : Code → List α → List Ob → Prop)
    (hI : ∀ pre os es z, I pre os → OW w (os ++ es) z → Itr z) {os0 : List Ob} (h0 : I [] os0) (hx : OW w os0 x)
    (hround : ∀ (l : Nat) (p1 p2 : List Ob) pre xx vs W0 W1 os, (∃ r ds, p2 = rawO l (.loop r) :: ds) → pre ++ [xx] <+: L → I pre os → OW w (os ++ p1) W0 → Hand xx vs W0 W1 → RoundOK P w l assign body I Ix a.tmps p1 p2 pre xx W1 vs ps)
    (hdone : ∀ D os z, I L os → OW w (os ++ [dfrO D]) z → Q .normal { a with defers := markD D :: a.defers } z)
    (hstop : ∀ D c pre os z, pre <+: L → Ix c pre os → OW w (os ++ [dfrO D]) z → c.wp P Q { a with defers := markD D :: a.defers } z) : (Code.rangeFunc g ps assign body).wp P Q a x := by
  refine (wpIn_wide (n := 0)).1 (wpIn_rangeFunc fun fn _ => ?_)
  obtain ⟨W1, hW1⟩ : ∃ z, z = (x.alloc (.deferred (some []))).alloc (.loop (mkRec fn a.tmps ps assign body x.heap.size .ready none)) := ⟨_, rfl⟩
  have h2 : OW w (os0 ++ rawO (x.heap.size + 1) (.loop (mkRec fn a.tmps ps assign body x.heap.size .ready none)) :: [dfrO x.heap.size]) W1 := by
    rw [hW1]
    have h3 := (hx.app (OW.raw1 x (.deferred (some [])))).app (OW.raw1 _ (.loop (mkRec fn a.tmps ps assign body x.heap.size .ready none)))
    rw [World.size_alloc] at h3
    refine h3.perm ?_
    rw [List.append_assoc]
    exact List.Perm.append_left _ (List.Perm.swap _ _ _)
  refine ⟨x.heap.size + 1, [markD x.heap.size], W1, { target := .fn (.func gf) lb, args := #[.func (.yield (x.heap.size + 1)) #[] #[]] }, W1, gf, #[.func (.yield (x.heap.size + 1)) #[] #[]] ++ lb, W1, by rw [hW1]; exact run_enterLoop_outer _ _ _ _ _, ?_, fun _ _ => trivial, ?_, (fun e => nomatch e), callsIn_wide.2 ?_⟩
  · simp only [resolve, hg]
    simp [go_sem]
  · simp [invoke, go_sem, eg]
  · exact range_core hit hps I Ix hI h0 h2 (fun pre xx vs W0 W1 os h4 h5 h6 h7 => hround _ _ _ pre xx vs W0 W1 os ⟨_, _, rfl⟩ h4 h5 h6 h7) (fun os z h4 h5 => hdone _ os z h4 h5) fun c pre os z h4 h5 h6 => wpIn_wide.2 (hstop _ c pre os z h4 h5 h6)
theorem wpIn_range {w x : World} {l0 : Nat} {r0 : Loop} (hl0 : x.heap[l0]? = some (.loop r0)) {g : Operand} {gf : Nat} {lb : Array Value} {L : List α} {Itr : World → Prop} {Hand : α → Array Value → World → World → Prop} {ps : Array Tmp} {assign body : Code} {Q : Exit → Act → World → Prop} {a : Act}
    (hg : a.eval g = .func (.func gf) #[] lb) (eg : ∀ args w, (callFunc gf args).run P w = .ok (.enter gf args) w)
    (hit : IterOK P gf lb L Itr Hand) (hps : ∀ x vs y z, Hand x vs y z → vs.size = ps.size ∧ Below y.heap.size y z) (I : List α → List Ob → Prop) (Ix : Code → List α → List Ob → Prop)
    (hI : ∀ pre os es z, I pre os → OW w (os ++ es) z → Itr z) {os0 : List Ob} (h0 : I [] os0) (hx : OW w os0 x)
    (hround : ∀ (l : Nat) (p1 p2 : List Ob) pre xx vs W0 W1 os, (∃ r ds, p2 = rawO l (.loop r) :: ds) → pre ++ [xx] <+: L → I pre os → OW w (os ++ p1) W0 → Hand xx vs W0 W1 → RoundOK P w l assign body I Ix a.tmps p1 p2 pre xx W1 vs ps)
    (hdone : ∀ os z, I L os → OW w (os ++ []) z → Q .normal a z)
    (hstop : ∀ c pre os z, pre <+: L → Ix c pre os → OW w (os ++ []) z → c.wpIn (FW (some l0)) 9 P Q a z) : (Code.rangeFunc g ps assign body).wpIn (FW (some l0)) 9 P Q a x := by
  refine wpIn_rangeFunc fun fn _ => ?_
  obtain ⟨W1, hW1⟩ : ∃ z, z = x.alloc (.loop (mkRec fn a.tmps ps assign body r0.defers .ready none)) := ⟨_, rfl⟩
  have h2 : OW w (os0 ++ rawO x.heap.size (.loop (mkRec fn a.tmps ps assign body r0.defers .ready none)) :: []) W1 := by
    rw [hW1]; exact hx.app (OW.raw1 x (.loop (mkRec fn a.tmps ps assign body r0.defers .ready none)))
  refine ⟨x.heap.size, [], W1, { target := .fn (.func gf) lb, args := #[.func (.yield x.heap.size) #[] #[]] }, W1, gf, #[.func (.yield x.heap.size) #[] #[]] ++ lb, W1, by rw [hW1]; exact run_enterLoop_inner hl0 _ _ _ _ _, ?_, fun _ _ => trivial, ?_, (fun e => nomatch e), callsIn_fw ?_⟩
  · simp only [resolve, hg]
    simp [go_sem]
  · simp [invoke, go_sem, eg]
  · exact range_core hit hps I Ix hI h0 h2 (fun pre xx vs W0 W1 os h4 h5 h6 h7 => hround _ _ _ pre xx vs W0 W1 os ⟨_, _, rfl⟩ h4 h5 h6 h7) (fun os z h4 h5 => hdone os z h4 h5) fun c pre os z h4 h5 h6 => hstop c pre os z h4 h5 h6
def bodyQ (P : Program) (fn : Func) (R : Ending → World → Prop) : Exit → Act → World → Prop
  | .normal, a, w | .ret, a, w => LeavesInM Fence.wide 0 P fn a.tmps R a.defers .returning w
  | _, _, _ => False
theorem calls_marks {f : FuncId} {fn : Func} {c : Code} {args : Array Value} {w : World} {R : Ending → World → Prop} (hf : P.funcs[f]? = some fn) (hb : fn.body = some c)
    (h : c.wp P (bodyQ P fn R) { tmps := args ++ Array.replicate (fn.ntmps - args.size) undef, defers := [] } w) : Calls P f args w R :=
  (callsIn_wide (n := 0)).1 (callsIn_of_wp_marks hf hb trivial (wpIn_wide.2 (wp_mono h fun e a w hq => by
    cases e with
    | normal => exact hq
    | ret => exact hq
    | exit id => exact hq.elim
    | goto l => exact hq.elim
    | panic ch => exact hq.elim
    | outgrown => exact hq.elim)) rfl)
theorem leaves_mark {fn : Func} {tmps : Array Value} {R : Ending → World → Prop} {D : Nat} {ds : List Deferred} {z : World} {w : World} {os es : List Ob} (h : OW w (os ++ dfrO D :: es) z)
    (hk : ∀ z', OW w (os ++ es) z' → LeavesInM Fence.wide 0 P fn tmps R ds .returning z') : LeavesInM Fence.wide 0 P fn tmps R (markD D :: ds) .returning z :=
  ⟨(fun e => nomatch e), .inl ⟨D, _, rfl, run_takeDeferred h.rawE, hk _ (h.putRawE _).dropE⟩⟩
theorem results_cell1 {fn : Func} {p : Tmp} {ty : TypeId} (h : fn.results = #[.cell p ty]) (tmps : Array Value) (w : World) (g : Nat) (v : Value) (hp : tmps.getD p undef = .pointer (some ⟨g, 0, none⟩)) (hc : w.cell? ⟨g, 0, none⟩ = some v) (ha : ∀ w, (isAgg ty).run P w = .ok false w) : (results fn tmps).run P w = .ok v w := by
  have hp' : tmps[p]?.getD undef = .pointer (some ⟨g, 0, none⟩) := by simpa using hp
  simp [results, h, hp', asAddr, loadVar, Sem.run_bind, ha w]
  simp [go_sem, hc]
theorem leaves0 {fn : Func} {tmps : Array Value} {R : Ending → World → Prop} {v : Value} {z : World} (h : (results fn tmps).run P z = .ok v z) (hR : R (.returned v) z) : LeavesInM Fence.wide 0 P fn tmps R [] .returning z := ⟨v, h, hR⟩
theorem wl_cell1 {ops : Array Oper} {Q : Exit → Act → World → Prop} {rest : List Oper} {o : Oper} {a : Act} {x : World} (hgd : Region.wanted o (yielded ops a.tmps) = true) {t : TypeId} (p y : Operand) (ho : o.op = .store t p y) {g j : Nat} (hx : a.eval p = .pointer (some ⟨g, j, none⟩)) {u : Value} (hc : x.cell? ⟨g, j, none⟩ = some u) (hf : x.frozen? ⟨g, j, none⟩ = false) (v : Value) (hy : a.eval y = v) (ht : (P.info? t).map (·.size) = some 1) (h1 : v.oneCell' = true)
    (hK : wpList P ops Q rest (a.put o.dst undef) (x.setCell ⟨g, j, none⟩ v)) : wpList P ops Q (o :: rest) a x := by
  refine BigFrame.wpList_want hgd fun _ hk => ?_
  unfold Oper.wp execOp
  simp only [ho, hx, hy, Instr.storeAt, Instr.sureAddr, Sem.run_bind, Sem.run_pure, Result.andThen_ok, run_storeVar_one x g j t v (by rw [hc]; rfl) hf h1 ht]
  exact hk _ _ hK
structure RBox (w x1 : World) (g : Nat) (u : Value) : Prop where
  up : Below w.heap.size w x1
  lo : w.heap.size ≤ g
  hi : g < x1.heap.size
  cell : x1.cell? ⟨g, 0, none⟩ = some u
  fz : x1.frozen? ⟨g, 0, none⟩ = false
theorem RBox.of {w x1 : World} {g : Nat} {u : Value} (h : OW w [boxO g [u]] x1) : RBox w x1 g u := by
  obtain ⟨h1, h2, _, h4⟩ := h.box (i := 0) rfl
  exact ⟨h.up, h1, h2, h.cell (i := 0) (j := 0) rfl rfl, h4 0⟩
theorem RBox.cell' {w x1 z : World} {g : Nat} {u : Value} (h : RBox w x1 g u) (hz : Below x1.heap.size x1 z) : z.cell? ⟨g, 0, none⟩ = some u := (hz.cell (p := ⟨g, 0, none⟩) h.hi).trans h.cell
theorem RBox.fz' {w x1 z : World} {g : Nat} {u : Value} (h : RBox w x1 g u) (hz : Below x1.heap.size x1 z) : z.frozen? ⟨g, 0, none⟩ = false := (World.frozen?_of_block (hz.block g h.hi)).trans h.fz
theorem RBox.up' {w x1 z : World} {g : Nat} {u : Value} (h : RBox w x1 g u) (hz : Below x1.heap.size x1 z) (v : Value) : Below w.heap.size w (z.setCell ⟨g, 0, none⟩ v) :=
  (h.up.trans (hz.mono h.up.size)).setCell (p := ⟨g, 0, none⟩) h.lo v
theorem RBox.got {w x1 z : World} {g : Nat} {u : Value} (h : RBox w x1 g u) (hz : Below x1.heap.size x1 z) (v : Value) : (z.setCell ⟨g, 0, none⟩ v).cell? ⟨g, 0, none⟩ = some v := World.cell?_setCell_same _ _ _ (h.cell' hz)
theorem RBox.mark {w x1 z : World} {g D : Nat} {u : Value} {os es : List Ob} (h : RBox w x1 g u) (hz : OW x1 (os ++ dfrO D :: es) z) (v : Value) {fn : Func} {tmps : Array Value} {R : Ending → World → Prop} {p : Tmp} {ty : TypeId} (hr : fn.results = #[.cell p ty]) (hp : tmps.getD p undef = .pointer (some ⟨g, 0, none⟩)) (ha : ∀ w, (isAgg ty).run P w = .ok false w)
    (hR : ∀ z', Below w.heap.size w z' → R (.returned v) z') : LeavesInM Fence.wide 0 P fn tmps R [markD D] .returning (z.setCell ⟨g, 0, none⟩ v) := by
  obtain ⟨hD, hd⟩ := hz.rawh (getE_app os _ es)
  have hne : g ≠ D := by have := h.hi; omega
  have hd' : (z.setCell ⟨g, 0, none⟩ v).heap[D]? = some (.deferred (some [])) := (Below.heap_setCell _ _ _ _ (fun e => hne e.symm)).trans hd
  refine ⟨(fun e => nomatch e), .inl ⟨D, _, rfl, run_takeDeferred hd', leaves0 (results_cell1 hr _ _ g v hp ?_ ha) (hR _ ?_)⟩⟩
  · exact (World.cell?_of_block (World.putObj_heap_other hne)).trans (h.got hz.up v)
  · exact (h.up' hz.up v).trans ((chg_putObj _ D _).below (h.up' hz.up v).size fun k _ e => by
      subst e; have := h.lo; have := h.hi; omega)
end
end Go.Proofs.YtmigjipfomfacaaDoor
namespace Go.Proofs.YtmigjipfomfacaaDoor
open Go.RowKit
def fillIn (c N : Nat) (m : UInt8) (r : Obj) : Prop := ∃ cur T, r = .cells cur T (0, 0) ∧ c ≤ cur.size ∧ N ≤ c ∧ c ≤ maxLen ∧ ∀ j, j < N → cur[j]? = some (u8v m)
def fillO (g c N : Nat) (m : UInt8) : Ob := ⟨true, 0, c, .pointer (some ⟨g, 0, none⟩), N, [u8v m], some (fillIn c N m)⟩
theorem fillO_inj {g c N g' c' N' : Nat} {m m' : UInt8} (h : fillO g c N m = fillO g' c' N' m') : g = g' ∧ c = c' ∧ N = N' ∧ m = m' := by
  unfold fillO at h
  injection h with _ _ h1 h2 h3 h4 _
  injection h2 with h2; injection h2 with h2; injection h2 with h2
  injection h4 with h4
  unfold u8v at h4
  injection h4 with _ h4
  exact ⟨h2, h1, h3, UInt8.toNat_inj.1 (by omega)⟩
def Marked (ks : List Ob) (A : Option Addr) (n cap : Nat) (m : UInt8) : Prop := (A = none ∧ n = 0 ∧ cap = 0) ∨ ∃ g c N, A = some ⟨g, 0, none⟩ ∧ n ≤ N ∧ n ≤ cap ∧ cap ≤ c ∧ fillO g c N m ∈ ks
def LeM (ks ks' : List Ob) : Prop := ∀ A n cap m, Marked ks A n cap m → Marked ks' A n cap m
theorem LeM.refl (ks : List Ob) : LeM ks ks := fun _ _ _ _ h => h
theorem LeM.trans {a b c : List Ob} (h : LeM a b) (k : LeM b c) : LeM a c := fun A n cap m hm => k A n cap m (h A n cap m hm)
theorem LeM.sub {a b : List Ob} (h : ∀ o, o ∈ a → o ∈ b) : LeM a b := fun A n cap m hm => by
  rcases hm with hm | ⟨g, c, N, h1, h2, h3, h4, h5⟩
  · exact .inl hm
  · exact .inr ⟨g, c, N, h1, h2, h3, h4, h _ h5⟩
theorem Marked.sub {ks : List Ob} {A : Option Addr} {n n' cap : Nat} {m : UInt8} (h : Marked ks A n cap m) (hn : n' ≤ n) : Marked ks A n' cap m := by
  rcases h with ⟨h1, h2, h3⟩ | ⟨g, c, N, h1, h2, h3, h4, h5⟩
  · exact .inl ⟨h1, by omega, h3⟩
  · exact .inr ⟨g, c, N, h1, by omega, by omega, h4, h5⟩
section
variable {w x : World} {os ks : List Ob} {g c N i : Nat} {m : UInt8}
theorem OW.fill (h : OW w os x) (hm : fillO g c N m ∈ os) : ∃ r, w.heap.size ≤ g ∧ x.heap[g]? = some r ∧ fillIn c N m r := by
  obtain ⟨i, hi⟩ := List.getElem?_of_mem hm
  obtain ⟨k, r, h1, h2, h3, h4⟩ := (h.get hi).some_ rfl
  injection h1 with h1; injection h1 with h1; injection h1 with h1
  subst h1; exact ⟨r, h2, h3, h4⟩
theorem fillIn.cell {r : Obj} (h : fillIn c N m r) (hr : x.heap[g]? = some r) {j : Nat} (hj : j < N) : x.cell? ⟨g, j, none⟩ = some (u8v m) := by
  obtain ⟨cur, T, rfl, _, _, _, h4⟩ := h
  have := h4 j hj
  simp [World.cell?, hr, this]
theorem fillIn.there {r : Obj} (h : fillIn c N m r) (hr : x.heap[g]? = some r) {j : Nat} (hj : j < c) : (x.cell? ⟨g, j, none⟩).isSome = true ∧ x.frozen? ⟨g, j, none⟩ = false := by
  obtain ⟨cur, T, rfl, h1, _, _, _⟩ := h
  refine ⟨?_, ?_⟩
  · have : j < cur.size := by omega
    simp [World.cell?, hr, this]
  · simp [World.frozen?, hr]
theorem OW.marked {A : Option Addr} {n cap : Nat} (h : OW w os x) (hm : Marked os A n cap m) : Sl x A n cap (List.replicate n m) := by
  rcases hm with ⟨rfl, rfl, rfl⟩ | ⟨g, c, N, rfl, h1, h2, h3, h4⟩
  · exact Sl.none _
  · obtain ⟨r, h5, h6, h7⟩ := h.fill h4
    have hc : c ≤ maxLen := by obtain ⟨_, _, _, _, _, h8, _⟩ := h7; exact h8
    unfold maxLen at hc
    refine ⟨RB.mk' List.length_replicate fun _ => ⟨g, 0, rfl, (Array.getElem?_eq_some_iff.1 h6).1, fun j b hj => ?_⟩, h2, by omega, fun e => nomatch e⟩
    obtain ⟨hjl, rfl⟩ := List.getElem?_eq_some_iff.1 hj
    rw [List.length_replicate] at hjl
    rw [Nat.zero_add, List.getElem_replicate]
    exact h7.cell h6 (by omega)
theorem setCell_heap {cur : Array Value} {T : TypeId} {fr : Nat × Nat} (hg : x.heap[g]? = some (.cells cur T fr)) (j : Nat) (v : Value) : (x.setCell ⟨g, j, none⟩ v).heap[g]? = some (.cells (cur.setIfInBounds j v) T fr) := by
  unfold World.setCell
  have hlt := (Array.getElem?_eq_some_iff.1 hg).1
  have he := (Array.getElem?_eq_some_iff.1 hg).2
  simp [Array.getElem?_modify, hg]
theorem setCells_heap : ∀ (vs : List Value) (o : Nat) (x : World) (cur : Array Value) (T : TypeId) (fr : Nat × Nat), x.heap[g]? = some (.cells cur T fr) → ∃ cur', (x.setCells g o vs).heap[g]? = some (.cells cur' T fr) ∧ cur'.size = cur.size ∧
    (∀ j, j < o → cur'[j]? = cur[j]?) ∧ (∀ j, o + vs.length ≤ j → cur'[j]? = cur[j]?) ∧ ∀ j, j < vs.length → o + j < cur.size → cur'[o + j]? = vs[j]?
  | [], o, x, cur, T, fr, h => ⟨cur, h, rfl, fun _ _ => rfl, fun _ _ => rfl, fun j hj => absurd hj (Nat.not_lt_zero _)⟩
  | v :: vs, o, x, cur, T, fr, h => by
    obtain ⟨cur', h1, h2, h3, h4, h5⟩ := setCells_heap vs (o + 1) (x.setCell ⟨g, o, none⟩ v) _ T fr (setCell_heap h o v)
    refine ⟨cur', h1, by rw [h2]; simp, fun j hj => ?_, fun j hj => ?_, fun j hj hl => ?_⟩
    · rw [h3 j (by omega), Array.getElem?_setIfInBounds_ne (by omega)]
    · rw [List.length_cons] at hj
      rw [h4 j (by omega), Array.getElem?_setIfInBounds_ne (by omega)]
    · cases j with
      | zero =>
        rw [Nat.add_zero] at hl ⊢
        rw [h3 o (by omega)]
        simp [hl]
      | succ j =>
        rw [List.length_cons] at hj
        have := h5 j (by omega) (by simp; omega)
        rw [show o + (j + 1) = o + 1 + j from by omega, this]; rfl
theorem OW.fillSet {y : World} {r' : Obj} {c' N' : Nat} {m' : UInt8} (h : OW w os x) (hi : os[i]? = some (fillO g c N m)) (hc : Chg (fun b => b = g) x y) (hr : y.heap[g]? = some r') (hφ : fillIn c' N' m' r') : OW w (os.set i (fillO g c' N' m')) y := by
  obtain ⟨k, r0, h1, h2, h3, _⟩ := (h.get hi).some_ rfl
  injection h1 with h1; injection h1 with h1; injection h1 with h1
  subst h1
  exact h.upd hi hc (fun b _ e => by subst e; rfl) (Ob.at_mkr rfl ⟨g, r', rfl, h2, hr, hφ⟩) fun b hb => .inl hb
theorem fill1 {y : World} {e : TypeId} {v' : Value} {k : Nat} (hb : Below x.heap.size x y) (h : y.ownsRow x.heap.size e 1 v' k (u8s (List.replicate k m))) (hk : 0 < k) : ∃ g c', v' = .slice (some ⟨g, 0, none⟩) k c' ∧ k ≤ c' ∧ OW x [fillO g c' k m] y := by
  rcases h.2 with ⟨_, h0⟩ | ⟨g, cap, cur, rfl, h2, h3, h4, h5, h6, h7⟩
  · omega
  refine ⟨g, cap, rfl, h4, hb, fun o ho => ?_, List.pairwise_singleton _ _⟩
  obtain rfl := List.mem_singleton.1 ho
  refine Ob.at_mkr rfl ⟨g, _, rfl, h2, h3, cur, _, rfl, by omega, h4, h5, fun j hj => ?_⟩
  rw [Nat.mul_one] at h7
  have h8 : (cur.toList.take k)[j]? = (u8s (List.replicate k m))[j]? := by rw [h7]
  rw [List.getElem?_take_of_lt hj, u8s_at (show (List.replicate k m)[j]? = some m by simp [hj])] at h8
  simpa [u8v] using h8
theorem marked_new {k c' : Nat} {ks : List Ob} (hc : k ≤ c') : LeM ks (ks ++ [fillO g c' k m]) ∧ Marked (ks ++ [fillO g c' k m]) (some ⟨g, 0, none⟩) k c' m :=
  ⟨LeM.sub fun _ ho => List.mem_append_left _ ho, .inr ⟨g, c', k, rfl, Nat.le_refl _, hc, Nat.le_refl _, List.mem_append_right _ (List.mem_singleton.2 rfl)⟩⟩
theorem marked_more {ks : List Ob} {i c N N' : Nat} (hi : ks[i]? = some (fillO g c N m)) (hN : N ≤ N') : LeM ks (ks.set i (fillO g c N' m)) := fun A n cap m' hm => by
  rcases hm with hm | ⟨g', c', M, h1, h2, h3, h4, h5⟩
  · exact .inl hm
  · obtain ⟨j, hj⟩ := List.getElem?_of_mem h5
    have hil := (List.getElem?_eq_some_iff.1 hi).1
    by_cases hji : i = j
    · subst hji
      rw [hi] at hj
      injection hj with hj
      obtain ⟨rfl, rfl, rfl, rfl⟩ := fillO_inj hj
      exact .inr ⟨g, c, N', h1, by omega, h3, h4, List.mem_of_getElem? (List.getElem?_set_self hil)⟩
    · exact .inr ⟨g', c', M, h1, h2, h3, h4, List.mem_of_getElem? (by rw [List.getElem?_set_ne hji]; exact hj)⟩
theorem setE_mem {α : Type} {os ks : List α} {i : Nat} {b : α} : (os ++ ks).set (os.length + i) b = os ++ ks.set i b := by
  rw [List.set_append_right _ _ (by omega), Nat.add_sub_cancel_left]
end
section
variable {P : Program} {Q : Exit → Act → World → Prop} {K : Act → World → Prop} {o : Oper} {a : Act} {w x : World} {os ks : List Ob} {m : UInt8}
theorem wpo_appM {t e : TypeId} (s y : Operand) (ho : o.op = .call { callee := .builtin .append, args := #[s, y], argTypes := #[t, t] }) (hS : SliceOf P t e 1 1) (h : OW w (os ++ ks) x) {A : Option Addr} {n cap : Nat} (hm : Marked ks A n cap m) (hs : a.eval s = .slice A n cap)
    (A2 : Option Addr) (k c2 : Nat) (hy : a.eval y = .slice A2 k c2) (hr : RB x x.heap.size A2 k (List.replicate k m)) (hk : 0 < k) (hb : n + k ≤ 140737488355328)
    (hK : ∀ A' c' ks' z, OW w (os ++ ks') z → LeM ks ks' → Marked ks' A' (n + k) c' m → K (a.put o.dst (.slice A' (n + k) c')) z) : o.wp P a x K Q := by
  have hrd := hr
  obtain ⟨b2, o2, rfl, hb2, hc2⟩ := hr.2 hk
  have hone : ∀ u ∈ u8s (List.replicate k m), u.oneCell' = true := fun u hu => by
    obtain ⟨c, _, rfl⟩ := List.mem_map.1 hu; rfl
  have hul : (u8s (List.replicate k m)).length = k := by rw [u8s_length, List.length_replicate]
  rcases hm with ⟨rfl, rfl, rfl⟩ | ⟨g, c, N, rfl, h1, h2, h3, h4⟩
  · refine wp_append_reads x s y ho hS x.heap.size (.slice none 0 0) 0 [] hs (own_nil _ _ _ _) x.heap.size _ k c2 _ hy hrd hone (by unfold maxLen; omega) (by omega) (Nat.le_refl _) fun v' w' g1 g2 _ => ?_
    rw [List.nil_append, Nat.zero_add] at g1
    have hbl : Below x.heap.size x w' := below_grown_none g2
    obtain ⟨g', c', rfl, g4, g5⟩ := fill1 hbl g1 hk
    have hm := marked_new (g := g') (m := m) (ks := ks) g4
    have := hK (some ⟨g', 0, none⟩) c' (ks ++ [fillO g' c' k m]) w' (by rw [← List.append_assoc]; exact h.app g5) hm.1 (by rw [Nat.zero_add]; exact hm.2)
    rwa [Nat.zero_add] at this
  · obtain ⟨ht, ⟨i, z, hi, hz, hsz, hby, hzs⟩, _⟩ := hS
    obtain ⟨r, f1, f2, f3⟩ := h.fill (List.mem_append_right _ h4)
    by_cases hroom : n + k ≤ cap
    · have hrun := run_append_room_cells (P := P) x t o.type e i ht hi g 0 n cap ⟨b2, o2, none⟩ k c2 (u8s (List.replicate k m)) (by rw [hul, hsz, Nat.mul_one]) (fun j u hu => by rw [Addr.add_lit]; exact hc2 j u hu) hone hroom
        (fun j hj => by rw [hul] at hj; rw [hsz, Nat.mul_one, Nat.zero_add]; exact (f3.there f2 (by omega)).1) (fun j hj => by rw [hul] at hj; rw [hsz, Nat.mul_one, Nat.zero_add]; exact (f3.there f2 (by omega)).2)
      rw [hsz, Nat.mul_one, Nat.zero_add] at hrun
      obtain ⟨cur, T, rfl, q1, q2, q3, q4⟩ := f3
      obtain ⟨cur', p1, p2, p3, p4, p5⟩ := setCells_heap (u8s (List.replicate k m)) n x cur T (0, 0) f2
      obtain ⟨j, hj⟩ := List.getElem?_of_mem h4
      have hfl : fillIn c (max N (n + k)) m (.cells cur' T (0, 0)) := ⟨cur', T, rfl, by omega, by omega, q3, fun j hj => by
        by_cases g1 : j < n
        · rw [p3 j g1]; exact q4 j (by omega)
        · by_cases g2 : j < n + k
          · have h9 := p5 (j - n) (by rw [hul]; omega) (by omega)
            rw [show n + (j - n) = j from by omega] at h9
            rw [h9]; exact u8s_at (show (List.replicate k m)[j - n]? = some m by rw [List.getElem?_replicate, if_pos (by omega)])
          · rw [p4 j (by rw [hul]; omega)]; exact q4 j (by omega)⟩
      have hset := h.fillSet (i := os.length + j) (by rw [List.getElem?_append_right (by omega), Nat.add_sub_cancel_left]; exact hj) (setCells_chg g (u8s (List.replicate k m)) n x) p1 hfl
      rw [setE_mem] at hset
      have hle := marked_more (m := m) hj (Nat.le_max_left N (n + k))
      unfold Oper.wp execOp
      simp only [ho, resolve, invoke, builtin, Sem.run_bind, Sem.run_pure, Result.andThen_ok, List.map_toArray, List.map_cons, List.map_nil, hs, hy, hrun]
      exact hK (some ⟨g, 0, none⟩) cap _ _ hset hle (.inr ⟨g, c, max N (n + k), rfl, Nat.le_max_right _ _, hroom, h3, List.mem_of_getElem? (List.getElem?_set_self (List.getElem?_eq_some_iff.1 hj).1)⟩)
    · obtain ⟨v', w', hrun, g1, g2⟩ := run_append_arg_grows (P := P) x t o.type e i z 1 1 ht hi hz hsz hby hzs (by omega) ⟨g, 0, none⟩ n cap (u8s (List.replicate n m)) (by rw [u8s_length, List.length_replicate, Nat.mul_one]) (fun j u hu => by
          have hjl : j < n := by have h9 := (List.getElem?_eq_some_iff.1 hu).1; rwa [u8s_length, List.length_replicate] at h9
          rw [u8s_at (show (List.replicate n m)[j]? = some m by simp [hjl])] at hu
          injection hu with hu; subst hu
          rw [Addr.add_lit, Nat.zero_add]; exact f3.cell f2 (by omega))
        ⟨b2, o2, none⟩ k c2 (u8s (List.replicate k m)) (by rw [hul, Nat.mul_one]) (fun j u hu => by rw [Addr.add_lit]; exact hc2 j u hu) (by omega) (by unfold maxLen; omega) (by omega)
      have e1 : u8s (List.replicate n m) ++ u8s (List.replicate k m) = u8s (List.replicate (n + k) m) := by rw [← u8s_append, List.replicate_append_replicate]
      rw [e1] at g1
      obtain ⟨g', c', rfl, g4, g5⟩ := fill1 (below_grown_none g2) g1 (by omega)
      have hmn := marked_new (g := g') (m := m) (ks := ks) g4
      unfold Oper.wp execOp
      simp only [ho, resolve, invoke, builtin, Sem.run_bind, Sem.run_pure, Result.andThen_ok, List.map_toArray, List.map_cons, List.map_nil, hs, hy, hrun]
      exact hK _ c' _ w' (by rw [← List.append_assoc]; exact h.app g5) hmn.1 hmn.2
theorem wl_appM {ops : Array Oper} {rest : List Oper} {t e : TypeId} (hgd : Region.wanted o (yielded ops a.tmps) = true) (s y : Operand) (ho : o.op = .call { callee := .builtin .append, args := #[s, y], argTypes := #[t, t] }) (hS : SliceOf P t e 1 1) (h : OW w (os ++ ks) x) {A : Option Addr} {n cap : Nat} (hm : Marked ks A n cap m) (hs : a.eval s = .slice A n cap)
    (A2 : Option Addr) (k c2 : Nat) (hy : a.eval y = .slice A2 k c2) (hr : RB x x.heap.size A2 k (List.replicate k m)) (hk : 0 < k) (hb : n + k ≤ 140737488355328)
    (hK : ∀ A' c' ks' z, OW w (os ++ ks') z → LeM ks ks' → Marked ks' A' (n + k) c' m → wpList P ops Q rest (a.put o.dst (.slice A' (n + k) c')) z) : wpList P ops Q (o :: rest) a x :=
  BigFrame.wpList_want hgd fun _ hk' => wpo_appM s y ho hS h hm hs A2 k c2 hy hr hk hb fun A' c' ks' z h1 h2 h3 => hk' _ _ (hK A' c' ks' z h1 h2 h3)
theorem wl_storeM {ops : Array Oper} {rest : List Oper} (hgd : Region.wanted o (yielded ops a.tmps) = true) {t : TypeId} (p y : Operand) (ho : o.op = .store t p y) {g c j : Nat} (h : OW w (os ++ fillO g c j m :: ks) x) (hj : j < c) (hx : a.eval p = .pointer (some ⟨g, j, none⟩)) (hy : a.eval y = u8v m) (ht : (P.info? t).map (·.size) = some 1)
    (hK : ∀ z, OW w (os ++ fillO g c (j + 1) m :: ks) z → wpList P ops Q rest (a.put o.dst undef) z) : wpList P ops Q (o :: rest) a x := by
  obtain ⟨r, f1, f2, f3⟩ := h.fill (List.mem_append_right _ (List.mem_cons_self ..))
  have h5 := f3.there f2 hj
  obtain ⟨u, hu⟩ := Option.isSome_iff_exists.1 h5.1
  refine wl_cell1 hgd p y ho hx hu h5.2 (u8v m) hy ht rfl ?_
  obtain ⟨cur, T, rfl, q1, q2, q3, q4⟩ := f3
  refine hK _ ?_
  have := h.fillSet (i := os.length) (getE_app _ _ _) (Chg.setCell x ⟨g, j, none⟩ (u8v m)) (setCell_heap f2 j (u8v m)) (show fillIn c (j + 1) m _ from ⟨_, T, rfl, by rw [Array.size_setIfInBounds]; exact q1, by omega, q3, fun i hi => by
    by_cases e : i = j
    · subst e; simp [show i < cur.size by omega]
    · rw [Array.getElem?_setIfInBounds_ne (fun h => e h.symm)]; exact q4 i (by omega)⟩)
  rwa [setE_app] at this
end
def SlB (o : Ob) (A : Option Addr) (n cap : Nat) : Prop := ∀ (w x : World) (os : List Ob) (i : Nat), OW w os x → os[i]? = some o → ∀ m, ∃ o', OW w (os.set i o') x ∧ ((A = none ∧ n = 0 ∧ cap = 0) ∨ ∃ g c, A = some ⟨g, 0, none⟩ ∧ n ≤ cap ∧ cap ≤ c ∧ o' = fillO g c 0 m)
theorem set_self' {α : Type} {os : List α} {i : Nat} {a : α} (h : os[i]? = some a) : os.set i a = os := by
  refine List.ext_getElem? fun j => ?_
  by_cases e : i = j
  · subst e; rw [List.getElem?_set_self (List.getElem?_eq_some_iff.1 h).1, h]
  · rw [List.getElem?_set_ne e]
theorem slB_byt (T : TypeId) (A : Option Addr) (c : Nat) (l : List UInt8) : SlB (bytO T (A, c, l)) A l.length c := fun w x os i h hi m => by
  have h1 := h.byt hi
  rcases h1.2 with ⟨hv, h0⟩ | ⟨g, cap, cur, hv, h2, h3, h4, h5, h6, _⟩
  · injection hv with hv hv2 hv3
    exact ⟨_, by rw [set_self' hi]; exact h, .inl ⟨hv, h0, hv3⟩⟩
  · injection hv with hv hv2 hv3
    subst hv; subst hv3
    refine ⟨fillO g c 0 m, ?_, .inr ⟨g, c, rfl, h4, Nat.le_refl _, rfl⟩⟩
    exact h.upd hi (Chg.refl (fun _ => False) x) (fun _ _ e => e.elim) (Ob.at_mkr rfl ⟨g, _, rfl, h2, h3, cur, T, rfl, by omega, by omega, h5, fun j hj => absurd hj (Nat.not_lt_zero _)⟩) fun b hb => .inl hb
theorem slB_clip {A : Option Addr} {l : List UInt8} (hc : CAt A l) (hn : l.length ≤ 9223372036854775807) : SlB (clipO A l) A l.length l.length := fun w x os i h hi m => by
  rcases hc with ⟨rfl, rfl⟩ | ⟨g, rfl⟩
  · exact ⟨_, by rw [set_self' hi]; exact h, .inl ⟨rfl, rfl, rfl⟩⟩
  · obtain ⟨k, r, h1, h2, h3, cur, T, rfl, h4, _⟩ := (h.get (show os[i]? = some (phiO g (bytesIn l.length l)) from hi)).some_ rfl
    injection h1 with h1; injection h1 with h1; injection h1 with h1
    subst h1
    refine ⟨fillO g l.length 0 m, ?_, .inr ⟨g, l.length, rfl, Nat.le_refl _, Nat.le_refl _, rfl⟩⟩
    exact h.upd hi (Chg.refl (fun _ => False) x) (fun _ _ e => e.elim) (Ob.at_mkr rfl ⟨g, _, rfl, h2, h3, cur, T, rfl, h4, Nat.zero_le _, by unfold maxLen; exact hn, fun j hj => absurd hj (Nat.not_lt_zero _)⟩) fun b hb => .inl hb
section
variable {P : Program} {Q : Exit → Act → World → Prop} {F : List Nat} {S : World → Prop} {l : List Oper} {listed : Array Bool} {fuel : Nat} {a : Act} {w : World}
theorem lt_two (i j : Nat) {oi oj : Oper} (hi : l[i]? = some oi) (hj : l[j]? = some oj) (hr : Region.ready .any l.toArray listed = [i, j]) (wi : Region.wanted oi (yielded l.toArray a.tmps) = true) (wj : Region.wanted oj (yielded l.toArray a.tmps) = true)
    (h1 : oi.wp P a w (fun a' w' => (finB F (listed.setIfInBounds i true) = false → S w') ∧ wpAnyT P l.toArray Q F S fuel (listed.setIfInBounds i true) a' w') Q)
    (h2 : oj.wp P a w (fun a' w' => (finB F (listed.setIfInBounds j true) = false → S w') ∧ wpAnyT P l.toArray Q F S fuel (listed.setIfInBounds j true) a' w') Q) : wpAnyT P l.toArray Q F S (fuel + 1) listed a w := by
  refine ⟨fun h0 => ?_, fun k hk => ?_⟩
  · rw [hr] at h0; cases h0
  rw [hr] at hk
  have hk' : k = i ∨ k = j := by simpa using hk
  rcases hk' with rfl | rfl
  · unfold wpOp
    rw [lx_at hi]
    simp only [wi, if_true]
    exact .inl h1
  · unfold wpOp
    rw [lx_at hj]
    simp only [wj, if_true]
    exact .inl h2
end
end Go.Proofs.YtmigjipfomfacaaDoor
namespace Go.Proofs.YtmigjipfomfacaaDoor
open Go.RowKit
theorem Tryd.kssF : SliceOf Tryd.prog 52 24 1 24 := SliceOf.mk' (z := .slice none 0 0) Tryd.underlying52 (by kernel_rfl) rfl (by decide)
def FlK (vals : List Value) (ms : List UInt8) (ks : List Ob) : Prop := ∀ (i : Nat) (v : Value) (m : UInt8), vals[i]? = some v → ms[i]? = some m → ∃ A n cap, v = Value.slice A n cap ∧ n ≤ 1000000101 ∧ Marked ks A n cap m
structure FlD where
  lv : Value
  mA : Option Addr
  mc : Nat
  N : Nat
  vals : List Value
  ms : List UInt8
  ks : List Ob
def flO (g : Nat) (d : FlD) (rest : List Ob) : List Ob := boxO g [d.lv, .slice d.mA d.ms.length d.mc, .int .i64 (d.N : Nat)] :: rowO 24 1 d.lv d.vals.length d.vals :: bytO 5 (d.mA, d.mc, d.ms) :: rest
structure FlOk (d : FlD) : Prop where
  len : d.vals.length = d.ms.length
  few : 50 * d.vals.length ≤ d.N
  lim : d.N ≤ 5000000000
  keep : FlK d.vals d.ms d.ks
def Fl (g : Nat) (os : List Ob) : Prop := ∃ d, os = flO g d d.ks ∧ FlOk d
theorem Fl.new {w x : World} {g : Nat} {os : List Ob} (h : OW w (os ++ [boxO g [.slice none 0 0, .slice none 0 0, .int .i64 0]]) x) : ∃ of, Fl g of ∧ OW w (os ++ of) x := by
  have h1 := (h.nilRow 24 1).nilB 5
  refine ⟨_, ⟨⟨.slice none 0 0, none, 0, 0, [], [], []⟩, rfl, rfl, Nat.le_refl _, by decide, fun i v m hv => by cases hv⟩, ?_⟩
  rw [List.append_assoc, List.append_assoc] at h1
  exact h1
theorem FlK.le {vals : List Value} {ms : List UInt8} {ks ks' : List Ob} (h : FlK vals ms ks) (hk : LeM ks ks') : FlK vals ms ks' := fun i v m hv hm => by
  obtain ⟨A, n, cap, h1, h2, h3⟩ := h i v m hv hm
  exact ⟨A, n, cap, h1, h2, hk _ _ _ _ h3⟩
theorem FlK.add {vals : List Value} {ms : List UInt8} {ks : List Ob} (h : FlK vals ms ks) (hl : vals.length = ms.length) {us : List Value} {m : UInt8} {k : Nat} (hu : us.length = k) (hus : ∀ v, v ∈ us → ∃ A n cap, v = Value.slice A n cap ∧ n ≤ 1000000101 ∧ Marked ks A n cap m) : FlK (vals ++ us) (ms ++ List.replicate k m) ks := fun i v m' hv hm => by
  by_cases hi : i < vals.length
  · rw [List.getElem?_append_left hi] at hv
    rw [List.getElem?_append_left (by omega)] at hm
    exact h i v m' hv hm
  · rw [List.getElem?_append_right (by omega)] at hv
    rw [List.getElem?_append_right (by omega), List.getElem?_replicate] at hm
    split at hm
    · injection hm with hm; subst hm
      exact hus v (List.mem_of_getElem? hv)
    · cases hm
theorem perm_take {α : Type} (f ks rest : List α) (o : α) : ((f ++ ks) ++ o :: rest).Perm ((f ++ rest) ++ o :: ks) := by
  rw [List.append_assoc, List.append_assoc]
  refine List.Perm.append_left f ?_
  have h1 : (ks ++ o :: rest).Perm (o :: (ks ++ rest)) := List.perm_middle
  have h2 : (rest ++ o :: ks).Perm (o :: (rest ++ ks)) := List.perm_middle
  exact h1.trans ((List.Perm.cons o List.perm_append_comm).trans h2.symm)
theorem perm3 {α : Type} (a b c : List α) : ((a ++ b) ++ c).Perm ((a ++ c) ++ b) := by
  rw [List.append_assoc, List.append_assoc]
  exact List.Perm.append_left a List.perm_append_comm
theorem perm_back3 {α : Type} (f ks rest : List α) : ((f ++ rest) ++ ks).Perm ((f ++ ks) ++ rest) := by
  rw [List.append_assoc, List.append_assoc]
  exact List.Perm.append_left f List.perm_append_comm
theorem drop3 {w z : World} {f ks : List Ob} {a b c : Ob} (h : OW w ((((f ++ [a]) ++ [b]) ++ [c]) ++ ks) z) : OW w (f ++ ks) z := by
  refine h.sub (List.Sublist.append ?_ (List.Sublist.refl _))
  exact (List.sublist_append_left f [a]).trans ((List.sublist_append_left _ [b]).trans (List.sublist_append_left _ [c]))
def markN (q : Nat) : Nat := q / 4 % 200 + 20
def markU (q : Nat) : UInt8 := UInt8.ofNat (markN q)
theorem markN_le (q : Nat) : markN q ≤ 219 := by unfold markN; omega
theorem markU_v (q : Nat) : u8v (markU q) = .int .u8 (markN q : Int) := by
  have h := markN_le q
  unfold u8v markU
  rw [UInt8.toNat_ofNat', Nat.mod_eq_of_lt (by omega)]
theorem OW.marks {w x : World} {os : List Ob} {T : TypeId} {g k c : Nat} {m : UInt8} (h : OW w os x) (hm : rowO T 1 (.slice (some ⟨g, 0, none⟩) k c) k (u8s (List.replicate k m)) ∈ os) : RB x x.heap.size (some ⟨g, 0, none⟩) k (List.replicate k m) := Reads.own (h.rowm hm)
set_option maxRecDepth 1000000 in
set_option maxHeartbeats 8000000 in
theorem take_any {w x : World} {g : Nat} {osF rest : List Ob} {o : Ob} {A : Option Addr} {n cap : Nat} (hF : Fl g osF) (hS : SlB o A n cap) (h : OW w (osF ++ o :: rest) x) (hn : n ≤ 1000000000) :
    Calls Tryd.prog 75 #[.pointer (some ⟨g, 0, none⟩), .slice A n cap] x fun e z => e = .returned (.tuple #[]) ∧ ∃ osF', Fl g osF' ∧ OW w (osF' ++ rest) z := by
  obtain ⟨⟨lv, mA, mc, N, vals, ms, ks0⟩, rfl, hd⟩ := hF
  obtain ⟨q, hq⟩ : ∃ z, z = vals.length := ⟨_, rfl⟩
  obtain ⟨LA, lc, hlv, _⟩ := own_slice (h.row (i := 1) rfl)
  have hlv : lv = .slice LA vals.length lc := hlv
  subst hlv
  have hq2 : vals.length = ms.length := hd.len
  have hq1 : 50 * vals.length ≤ N := hd.few
  have hlim : N ≤ 5000000000 := hd.lim
  have HFK := Lib.hid hd.keep
  have h : OW w (([boxO g [.slice LA vals.length lc, .slice mA ms.length mc, .int .i64 (N : Nat)], rowO 24 1 (.slice LA vals.length lc) vals.length vals, bytO 5 (mA, mc, ms)] ++ ks0) ++ o :: rest) x := h
  have HOUT := Lib.hid h
  have HD := Lib.hid hd
  rw [← hq2, ← hq] at h
  rw [← hq] at hq1 hq2
  have HQ := Lib.hid hq.symm
  have HQM := Lib.hid hq2.symm
  have hql : q ≤ 100000000 := by omega
  have hc : x.cell? ⟨g, 2, none⟩ = some (.int .i64 (N : Nat)) := h.cell (i := 0) (j := 2) rfl rfl
  clear hd hq hq2
  by_cases hN : 1000000 < N
  · have dN : decide ((N : Int) > 1000000) = true := decide_eq_true (by omega)
    clear h hq1
    go_enter Tryd.func75, Tryd.ntmps75
    go_wp2_with (refine wpList_load_cell rfl 3 (.tmp 10) rfl rfl hc (fun w => Tryd.isAgg3 w) ?_)
    refine bodyPost_ret (results_none rfl _ _ _) rfl ?_
    exact ⟨rfl, _, ⟨⟨.slice LA vals.length lc, mA, mc, N, vals, ms, ks0⟩, rfl, HD.out⟩, HOUT.out.dropE⟩
  have dN : decide ((N : Int) > 1000000) = false := decide_eq_false (by omega)
  obtain ⟨mm, hmm⟩ : ∃ z, z = markN q := ⟨_, rfl⟩
  obtain ⟨m, hm⟩ : ∃ z, z = markU q := ⟨_, rfl⟩
  have hmv : u8v m = .int .u8 (mm : Int) := by rw [hm, hmm]; exact markU_v q
  have hm219 : mm ≤ 219 := by rw [hmm]; exact markN_le q
  have HMV := Lib.hid hmv
  obtain ⟨q4, hq4⟩ : ∃ z, z = q / 4 := ⟨_, rfl⟩
  obtain ⟨q5, hq5⟩ : ∃ z, z = q4 % 200 := ⟨_, rfl⟩
  have r1 : (q : Int) / 4 = (q4 : Int) := by omega
  have r2 : (q4 : Int) % 200 = (q5 : Int) := by omega
  have r3 : (q5 : Int) + 20 = (mm : Int) := by rw [hmm]; unfold markN; omega
  have hq40 : (0 : Int) ≤ (q4 : Int) := by omega
  have hq50 : (0 : Int) ≤ (q5 : Int) := by omega
  have hq5l : q5 ≤ 199 := by omega
  obtain ⟨N2, hN2⟩ : ∃ z, z = N + 4 * n + 200 := ⟨_, rfl⟩
  have HN2 : Hid (N2 = N + 4 * n + 200 ∧ 50 * (q + 4) ≤ N2 ∧ N2 ≤ 5000000000) := Lib.hid ⟨hN2, by omega, by omega⟩
  have HIN : Hid (Value.int .i64 (((N : Int) + 4 * (n : Int)) + 200) = .int .i64 ((N2 : Nat) : Int)) := Lib.hid (by congr 1; omega)
  have hperm := h.perm (perm_take [boxO g [.slice LA q lc, .slice mA q mc, .int .i64 (N : Nat)], rowO 24 1 (.slice LA q lc) q vals, bytO 5 (mA, mc, ms)] ks0 rest o)
  obtain ⟨o', hset, hcase⟩ := hS w x _ _ hperm (getE_app _ o ks0) m
  rw [setE_app] at hset
  have HX : Hid (OW w (([boxO g [.slice LA q lc, .slice mA q mc, .int .i64 (N : Nat)], rowO 24 1 (.slice LA q lc) q vals, bytO 5 (mA, mc, ms)] ++ rest) ++ o' :: ks0) x) := Lib.hid hset
  have HCASE := Lib.hid hcase
  have hc0 : x.cell? ⟨g, 0, none⟩ = some (.slice LA q lc) := hset.cell (i := 0) (j := 0) rfl rfl
  have hncap : n ≤ cap := by
    rcases hcase with ⟨_, h1, h2⟩ | ⟨_, _, _, h1, _⟩ <;> omega
  clear h hm hmm hmv hq4 hq5 hperm hset hcase hS HOUT HD hN2 hq1
  go_enter Tryd.func75, Tryd.ntmps75
  go_wp2_with (first
    | (refine wpList_load_cell rfl 3 (.tmp 10) rfl rfl hc (fun w => Tryd.isAgg3 w) ?_)
    | (refine wpList_load_cell rfl 3 (.tmp 16) rfl rfl hc (fun w => Tryd.isAgg3 w) ?_)
    | (refine wl_put1 rfl (.tmp 24) (.tmp 22) rfl HX.out 0 rfl 2 rfl (by simp) (.int .i64 (N2 : Nat)) HIN.out (by kernel_rfl) rfl ?_; intro x1 hz _; have HX1 : Hid (OW w (([boxO g [.slice LA q lc, .slice mA q mc, .int .i64 (N2 : Nat)], rowO 24 1 (.slice LA q lc) q vals, bytO 5 (mA, mc, ms)] ++ rest) ++ o' :: ks0) x1) := Lib.hid hz; have hc1 : x1.cell? ⟨g, 0, none⟩ = some (.slice LA q lc) := hz.cell (i := 0) (j := 0) rfl rfl; clear hz HX hc hc0)
    | (refine wpList_load_cell rfl 52 (.tmp 27) rfl rfl hc1 (fun w => Tryd.isAgg52 w) ?_))
  clear hc1 r1 r2 r3 hq40 hq50 hq5l
  go_loopw [5] (fun iv wr => ∃ (j : Nat) (k0 : Ob), j ≤ n ∧ iv = .int .i64 j ∧ Hid (OW w (([boxO g [.slice LA q lc, .slice mA q mc, .int .i64 (N2 : Nat)], rowO 24 1 (.slice LA q lc) q vals, bytO 5 (mA, mc, ms)] ++ rest) ++ k0 :: ks0) wr) ∧ Hid ((A = none ∧ n = 0 ∧ cap = 0) ∨ ∃ g c, A = some ⟨g, 0, none⟩ ∧ n ≤ cap ∧ cap ≤ c ∧ k0 = fillO g c j m)) (fun iv _ => n - (intOf iv).toNat)
  case atStart => exact ⟨0, o', Nat.zero_le _, rfl, HX1, HCASE⟩
  case round =>
    clear HX1 HCASE
    obtain ⟨j, k0, hj, rfl, HX2, HC2⟩ := hrel
    by_cases hlt : j < n
    case pos =>
      have hdj : decide ((j : Int) < (n : Int)) = true := decide_eq_true (by omega)
      have i0 : (0 : Int) ≤ (j : Int) := by omega
      have i1 : (j : Int) < (n : Int) := by omega
      rcases HC2.out with ⟨_, h1, _⟩ | ⟨gb, c, rfl, h1, h2, rfl⟩
      · omega
      go_wp2_with (refine wl_storeM rfl (.tmp 43) (.tmp 42) rfl HX2.out (by omega) rfl HMV.out.symm (by kernel_rfl) ?_; intro x3 hz; have HX3 := Lib.hid hz; clear hz HX2)
      go_roundw
      case rel => exact ⟨j + 1, _, by omega, by go_num, HX3, Lib.hid (.inr ⟨gb, c, rfl, h1, h2, rfl⟩)⟩
      case measure => simp [intOf]; omega
    obtain rfl : j = n := by omega
    have hdj : decide ((j : Int) < (j : Int)) = false := decide_eq_false (by omega)
    obtain ⟨ks1, hks1⟩ : ∃ z, z = k0 :: ks0 := ⟨_, rfl⟩
    have HM : Hid (Marked ks1 A j cap m) := Lib.hid (by
      rcases HC2.out with ⟨h1, h2, h3⟩ | ⟨gb, c, h1, h2, h3, h4⟩
      · exact .inl ⟨h1, h2, h3⟩
      · exact .inr ⟨gb, c, j, h1, Nat.le_refl _, h2, h3, by rw [hks1, h4]; exact List.mem_cons_self ..⟩)
    have HL1 : Hid (LeM ks0 ks1) := Lib.hid (LeM.sub fun _ ho => by rw [hks1]; exact List.mem_cons_of_mem _ ho)
    rw [← hks1] at HX2
    clear HC2 hks1 hlt hj
    go_wp2_with (first
      | (refine wl_build rfl #[(0, .tmp 45)] rfl #[.int .u8 (mm : Int)] Tryd.u8s' (.int .u8 0) (by kernel_rfl) (by decide) (by decide) (by decide) rfl (by kernel_rfl) HX2.out ?_; intro g7 x4 hz _; have HX4 := Lib.hid hz.left; have HRB : Hid (RB x4 x4.heap.size (some ⟨g7, 0, none⟩) 1 (List.replicate 1 m)) := Lib.hid (by have h9 := Reads.own (hz.right.row (i := 0) rfl); rw [← HMV.out] at h9; exact h9); clear hz HX2)
      | (at_builtin; go_must (refine wl_appM rfl (.tmp 44) (.tmp 46) rfl Tryd.u8s' HX4.out HM.out rfl _ 1 1 rfl HRB.out (by omega) (by omega) ?_); intro A5 c5 ks5 x5 h1 h2 h3; have HX5 := Lib.hid h1; have HL5 := Lib.hid (HL1.out.trans h2); have HM5 := Lib.hid h3; have HMB := Lib.hid (h2 _ _ _ _ HM.out); clear h1 h2 h3 HX4 HRB HL1 HM))
    go_loopw [6, 7] (fun gv iv wr => ∃ (k : Nat) (A6 : Option Addr) (c6 : Nat) (ks6 : List Ob), k ≤ 100 ∧ gv = .slice A6 (j + 1 + k) c6 ∧ iv = .int .i64 k ∧ Hid (OW w (([boxO g [.slice LA q lc, .slice mA q mc, .int .i64 (N2 : Nat)], rowO 24 1 (.slice LA q lc) q vals, bytO 5 (mA, mc, ms)] ++ rest) ++ ks6) wr) ∧ Hid (LeM ks0 ks6) ∧ Hid (Marked ks6 A6 (j + 1 + k) c6 m) ∧ Hid (Marked ks6 A j cap m)) (fun _ iv _ => 100 - (intOf iv).toNat)
    case atStart => exact ⟨0, A5, c5, ks5, by omega, rfl, rfl, HX5, HL5, HM5, HMB⟩
    case round =>
      clear HX5 HL5 HM5 HMB
      obtain ⟨k, A6, c6, ks6, hk, rfl, rfl, HX6, HL6, HM6, HMB6⟩ := hrel
      by_cases hlt : k < 100
      case pos =>
        have hdk : decide ((k : Int) < 100) = true := decide_eq_true (by omega)
        go_wp2_with (first
          | (refine wl_build rfl #[(0, .tmp 53)] rfl #[.int .u8 (mm : Int)] Tryd.u8s' (.int .u8 0) (by kernel_rfl) (by decide) (by decide) (by decide) rfl (by kernel_rfl) HX6.out ?_; intro g7 x6 hz _; have HX7 := Lib.hid hz.left; have HRB : Hid (RB x6 x6.heap.size (some ⟨g7, 0, none⟩) 1 (List.replicate 1 m)) := Lib.hid (by have h9 := Reads.own (hz.right.row (i := 0) rfl); rw [← HMV.out] at h9; exact h9); clear hz HX6)
          | (at_builtin; go_must (refine wl_appM rfl (.tmp 52) (.tmp 54) rfl Tryd.u8s' HX7.out HM6.out rfl _ 1 1 rfl HRB.out (by omega) (by omega) ?_); intro A7 c7 ks7 x7 h1 h2 h3; have HX8 := Lib.hid h1; have HL7 := Lib.hid (HL6.out.trans h2); have HM7 := Lib.hid h3; have HMB7 := Lib.hid (h2 _ _ _ _ HMB6.out); clear h1 h2 h3 HX7 HRB))
        go_roundw
        case rel => exact ⟨k + 1, A7, c7, ks7, by omega, rfl, by go_num, HX8, HL7, HM7, HMB7⟩
        case measure => simp [intOf]; omega
      obtain rfl : k = 100 := by omega
      have hdk : decide (((100 : Nat) : Int) < 100) = false := by decide
      clear hlt hk
      go_upto_region 12 with fail
      go_cut [4] (fun mv wx => mv = .int .u8 (mm : Int) ∧ ∃ (L17 : Option Addr) (c17 : Nat) (A9 : Option Addr) (c9 : Nat) (A14 : Option Addr) (c14 : Nat) (ks7 : List Ob), Hid (OW w (([boxO g [.slice L17 (q + 4) c17, .slice mA q mc, .int .i64 (N2 : Nat)], rowO 24 1 (.slice L17 (q + 4) c17) (q + 4) (vals ++ [.slice A j cap, .slice A9 (j + 1) c9, .slice A14 (j + 2) c14, .slice A6 (j + 1 + 100) c6]), bytO 5 (mA, mc, ms)] ++ rest) ++ ks7) wx) ∧ Hid (LeM ks0 ks7) ∧ Hid (Marked ks7 A j cap m) ∧ Hid (Marked ks7 A9 (j + 1) c9 m) ∧ Hid (Marked ks7 A14 (j + 2) c14 m) ∧ Hid (Marked ks7 A6 (j + 1 + 100) c6 m))
      case first =>
        refine lt_start [20] (by kernel_rfl) ?_
        intro xd hd
        refine ⟨fun z => z.cell? ⟨g, 0, none⟩ = some (.slice LA q lc), ?_⟩
        have HX := Lib.hid (HX6.out.later hd)
        have HS : Hid (xd.cell? ⟨g, 0, none⟩ = some (.slice LA q lc)) := Lib.hid (HX.out.cell (i := 0) (j := 0) rfl rfl)
        have e1 : Hid ((#[Value.int .u8 (mm : Int)] : Array Value).toList = u8s (List.replicate 1 m)) := Lib.hid (by rw [← HMV.out]; rfl)
        have e2 : Hid ((#[Value.int .u8 (mm : Int), .int .u8 (mm : Int)] : Array Value).toList = u8s (List.replicate 2 m)) := Lib.hid (by rw [← HMV.out]; rfl)
        clear hd HX6
        refine lt_pure 0 rfl (by kernel_rfl) (by kernel_rfl) (by kernel_rfl) (by kernel_rfl) (fun _ _ _ h => h) (v := ?_) (yi_run rfl (fun w => ?_)) (fun _ => HS.out) ?_
        rotate_left
        · first | (go_simp; done) | (go_simp; with_reducible rfl)
        simp only [Act.put, List.setIfInBounds_toArray, List.set_cons_zero, List.set_cons_succ]
        refine lt_pure 1 rfl (by kernel_rfl) (by kernel_rfl) (by kernel_rfl) (by kernel_rfl) (fun _ _ _ h => h) (v := ?_) (yi_run rfl (fun w => ?_)) (fun _ => HS.out) ?_
        rotate_left
        · first | (go_simp; done) | (go_simp; with_reducible rfl)
        simp only [Act.put, List.setIfInBounds_toArray, List.set_cons_zero, List.set_cons_succ]
        refine lt_pure 2 rfl (by kernel_rfl) (by kernel_rfl) (by kernel_rfl) (by kernel_rfl) (fun _ _ _ h => h) (v := ?_) (yi_run rfl (fun w => ?_)) (fun _ => HS.out) ?_
        rotate_left
        · first | (go_simp; done) | (go_simp; with_reducible rfl)
        simp only [Act.put, List.setIfInBounds_toArray, List.set_cons_zero, List.set_cons_succ]
        refine lt_pure 3 rfl (by kernel_rfl) (by kernel_rfl) (by kernel_rfl) (by kernel_rfl) (fun _ _ _ h => h) (v := ?_) (yi_run rfl (fun w => ?_)) (fun _ => HS.out) ?_
        rotate_left
        · first | (go_simp; done) | (go_simp; with_reducible rfl)
        simp only [Act.put, List.setIfInBounds_toArray, List.set_cons_zero, List.set_cons_succ]
        refine lt_take 4 [17, 18, 19, 20] rfl (by kernel_rfl) (by kernel_rfl) (by kernel_rfl) (by kernel_rfl) (by kernel_rfl) (fun _ _ _ h => h) (yi_cell rfl rfl rfl (fun w hS => hS) (fun w => Tryd.isAgg52 w)) HS.out ?_
        simp only [Act.put, List.setIfInBounds_toArray, List.set_cons_zero, List.set_cons_succ]
        refine lt_pure 5 rfl (by kernel_rfl) (by kernel_rfl) (by kernel_rfl) (by kernel_rfl) (fun _ _ _ h => h) (v := ?_) (yi_run rfl (fun w => ?_)) (fun _ => HS.out) ?_
        rotate_left
        · first | (go_simp; done) | (go_simp; with_reducible rfl)
        simp only [Act.put, List.setIfInBounds_toArray, List.set_cons_zero, List.set_cons_succ]
        refine lt_pure 6 rfl (by kernel_rfl) (by kernel_rfl) (by kernel_rfl) (by kernel_rfl) (fun _ _ _ h => h) (v := ?_) (yi_run rfl (fun w => ?_)) (fun _ => HS.out) ?_
        rotate_left
        · first | (go_simp; done) | (go_simp; with_reducible rfl)
        simp only [Act.put, List.setIfInBounds_toArray, List.set_cons_zero, List.set_cons_succ]
        refine lt_pure 7 rfl (by kernel_rfl) (by kernel_rfl) (by kernel_rfl) (by kernel_rfl) (fun _ _ _ h => h) (v := ?_) (yi_run rfl (fun w => ?_)) (fun _ => HS.out) ?_
        rotate_left
        · first | (go_simp; done) | (go_simp; with_reducible rfl)
        simp only [Act.put, List.setIfInBounds_toArray, List.set_cons_zero, List.set_cons_succ]
        refine lt_pure 10 rfl (by kernel_rfl) (by kernel_rfl) (by kernel_rfl) (by kernel_rfl) (fun _ _ _ h => h) (v := ?_) (yi_run rfl (fun w => ?_)) (fun _ => HS.out) ?_
        rotate_left
        · first | (go_simp; done) | (go_simp; with_reducible rfl)
        simp only [Act.put, List.setIfInBounds_toArray, List.set_cons_zero, List.set_cons_succ]
        refine lt_pure 11 rfl (by kernel_rfl) (by kernel_rfl) (by kernel_rfl) (by kernel_rfl) (fun _ _ _ h => h) (v := ?_) (yi_run rfl (fun w => ?_)) (fun _ => HS.out) ?_
        rotate_left
        · first | (go_simp; done) | (go_simp; with_reducible rfl)
        simp only [Act.put, List.setIfInBounds_toArray, List.set_cons_zero, List.set_cons_succ]
        refine lt_pure 12 rfl (by kernel_rfl) (by kernel_rfl) (by kernel_rfl) (by kernel_rfl) (fun _ _ _ h => h) (v := ?_) (yi_run rfl (fun w => ?_)) (fun _ => HS.out) ?_
        rotate_left
        · first | (go_simp; done) | (go_simp; with_reducible rfl)
        simp only [Act.put, List.setIfInBounds_toArray, List.set_cons_zero, List.set_cons_succ]
        refine lt_pure 15 rfl (by kernel_rfl) (by kernel_rfl) (by kernel_rfl) (by kernel_rfl) (fun _ _ _ h => h) (v := ?_) (yi_run rfl (fun w => ?_)) (fun _ => HS.out) ?_
        rotate_left
        · first | (go_simp; done) | (go_simp; with_reducible rfl)
        simp only [Act.put, List.setIfInBounds_toArray, List.set_cons_zero, List.set_cons_succ]
        refine lt_two 8 13 rfl rfl (by kernel_rfl) rfl rfl ?_ ?_
        · refine wpo_build rfl #[.int .u8 (mm : Int)] Tryd.u8s' (.int .u8 0) (by kernel_rfl) (by decide) (by decide) (by decide) rfl (by kernel_rfl) HX.out ?_
          intro g8 y8 hz _
          rw [e1.out] at hz
          replace HX := Lib.hid (hz.perm (perm3 _ _ _))
          replace HS := Lib.hid (HX.out.cell (i := 0) (j := 0) rfl rfl)
          clear hz
          refine ⟨fun _ => HS.out, ?_⟩
          simp only [Act.put, List.setIfInBounds_toArray, List.set_cons_zero, List.set_cons_succ]
          refine lt_two 9 13 rfl rfl (by kernel_rfl) rfl rfl ?_ ?_
          · refine wpo_appM (.tmp 62) (.tmp 64) rfl Tryd.u8s' HX.out HMB6.out rfl _ 1 1 rfl (HX.out.marks (T := 5) (c := 1) (List.mem_append_left _ (by simp))) (by omega) (by omega) ?_
            intro A9 c9 ks9 y9 h1 h2 h3
            replace HX := Lib.hid h1
            replace HS := Lib.hid (HX.out.cell (i := 0) (j := 0) rfl rfl)
            replace HL6 := Lib.hid (HL6.out.trans h2)
            replace HMB6 := Lib.hid (h2 _ _ _ _ HMB6.out)
            replace HM6 := Lib.hid (h2 _ _ _ _ HM6.out)
            have HM9 := Lib.hid h3
            clear h1 h2 h3
            refine ⟨fun _ => HS.out, ?_⟩
            simp only [Act.put, List.setIfInBounds_toArray, List.set_cons_zero, List.set_cons_succ]
            refine lt_op 13 rfl (by kernel_rfl) rfl ?_
            refine wpo_build rfl #[.int .u8 (mm : Int), .int .u8 (mm : Int)] Tryd.u8s' (.int .u8 0) (by kernel_rfl) (by decide) (by decide) (by decide) rfl (by kernel_rfl) HX.out ?_
            intro g13 y13 hz _
            rw [e2.out] at hz
            replace HX := Lib.hid (hz.perm (perm3 _ _ _))
            replace HS := Lib.hid (HX.out.cell (i := 0) (j := 0) rfl rfl)
            clear hz
            refine ⟨fun _ => HS.out, ?_⟩
            simp only [Act.put, List.setIfInBounds_toArray, List.set_cons_zero, List.set_cons_succ]
            refine lt_op 14 rfl (by kernel_rfl) rfl ?_
            refine wpo_appM (.tmp 66) (.tmp 69) rfl Tryd.u8s' HX.out HMB6.out rfl _ 2 2 rfl (HX.out.marks (T := 5) (c := 2) (List.mem_append_left _ (by simp))) (by omega) (by omega) ?_
            intro A14 c14 ks14 y14 h1 h2 h3
            replace HX := Lib.hid h1
            replace HS := Lib.hid (HX.out.cell (i := 0) (j := 0) rfl rfl)
            replace HL6 := Lib.hid (HL6.out.trans h2)
            replace HMB6 := Lib.hid (h2 _ _ _ _ HMB6.out)
            replace HM6 := Lib.hid (h2 _ _ _ _ HM6.out)
            replace HM9 := Lib.hid (h2 _ _ _ _ HM9.out)
            have HM14 := Lib.hid h3
            clear h1 h2 h3
            refine ⟨fun _ => HS.out, ?_⟩
            simp only [Act.put, List.setIfInBounds_toArray, List.set_cons_zero, List.set_cons_succ]
            refine lt_op 16 rfl (by kernel_rfl) rfl ?_
            refine wpo_build rfl #[Value.slice A j cap, .slice A9 (j + 1) c9, .slice A14 (j + 2) c14, .slice A6 (j + 1 + 100) c6] Tryd.kssF (.slice none 0 0) (by kernel_rfl) (by decide) (by decide) (by decide) rfl (by kernel_rfl) HX.out ?_
            intro g16 y16 hz _
            replace HX := Lib.hid (hz.perm (perm3 _ _ _))
            replace HS := Lib.hid (HX.out.cell (i := 0) (j := 0) rfl rfl)
            clear hz
            refine ⟨fun _ => HS.out, ?_⟩
            simp only [Act.put, List.setIfInBounds_toArray, List.set_cons_zero, List.set_cons_succ]
            refine lt_op 17 rfl (by kernel_rfl) rfl ?_
            refine wpo_append (.tmp 60) (.tmp 72) rfl Tryd.kssF HX.out 1 rfl rfl _ (some ⟨g16, 0, none⟩) 4 4 [Value.slice A j cap, .slice A9 (j + 1) c9, .slice A14 (j + 2) c14, .slice A6 (j + 1 + 100) c6] rfl (Reads.own (HX.out.rowm (T := 24) (sz := 1) (v := .slice (some ⟨g16, 0, none⟩) 4 4) (n := 4) (List.mem_append_left _ (by simp)))) (by simp [Value.oneCell']) (by unfold maxLen; omega) (by omega) ?_
            intro L17 c17 y17 hz _
            replace HX := Lib.hid hz
            replace HS := Lib.hid (HX.out.cell (i := 0) (j := 0) rfl rfl)
            clear hz
            refine ⟨fun _ => HS.out, ?_⟩
            simp only [Act.put, List.setIfInBounds_toArray, List.set_cons_zero, List.set_cons_succ]
            refine lt_pure 18 rfl (by kernel_rfl) (by kernel_rfl) (by kernel_rfl) (by kernel_rfl) (fun _ _ _ h => h) (v := ?_) (yi_run rfl (fun w => ?_)) (fun _ => HS.out) ?_
            rotate_left
            · first | (go_simp; done) | (go_simp; with_reducible rfl)
            simp only [Act.put, List.setIfInBounds_toArray, List.set_cons_zero, List.set_cons_succ]
            refine lt_pure 19 rfl (by kernel_rfl) (by kernel_rfl) (by kernel_rfl) (by kernel_rfl) (fun _ _ _ h => h) (v := ?_) (yi_run rfl (fun w => ?_)) (fun _ => HS.out) ?_
            rotate_left
            · first | (go_simp; done) | (go_simp; with_reducible rfl)
            simp only [Act.put, List.setIfInBounds_toArray, List.set_cons_zero, List.set_cons_succ]
            refine lt_end 20 rfl (by kernel_rfl) rfl (by kernel_rfl) ?_
            refine wpo_put1 rfl HX.out 0 rfl 0 rfl (by simp) _ rfl (by kernel_rfl) rfl ?_
            intro y20 hz _
            replace HX := Lib.hid hz
            clear hz
            simp only [Act.put]
            refine lt_done (by kernel_rfl) ?_
            go_wp2_with fail
            go_meet
            exact ⟨rfl, L17, c17, A9, c9, A14, c14, _, Lib.hid (drop3 (f := [boxO g [.slice L17 (q + 4) c17, .slice mA q mc, .int .i64 (N2 : Nat)], rowO 24 1 (.slice L17 (q + 4) c17) (q + 4) (vals ++ [.slice A j cap, .slice A9 (j + 1) c9, .slice A14 (j + 2) c14, .slice A6 (j + 1 + 100) c6]), bytO 5 (mA, mc, ms)] ++ rest) HX.out), HL6, HMB6, HM9, HM14, HM6⟩
          · refine wpo_build rfl #[.int .u8 (mm : Int), .int .u8 (mm : Int)] Tryd.u8s' (.int .u8 0) (by kernel_rfl) (by decide) (by decide) (by decide) rfl (by kernel_rfl) HX.out ?_
            intro g13 y13 hz _
            rw [e2.out] at hz
            replace HX := Lib.hid (hz.perm (perm3 _ _ _))
            replace HS := Lib.hid (HX.out.cell (i := 0) (j := 0) rfl rfl)
            clear hz
            refine ⟨fun _ => HS.out, ?_⟩
            simp only [Act.put, List.setIfInBounds_toArray, List.set_cons_zero, List.set_cons_succ]
            refine lt_op 9 rfl (by kernel_rfl) rfl ?_
            refine wpo_appM (.tmp 62) (.tmp 64) rfl Tryd.u8s' HX.out HMB6.out rfl _ 1 1 rfl (HX.out.marks (T := 5) (c := 1) (List.mem_append_left _ (by simp))) (by omega) (by omega) ?_
            intro A9 c9 ks9 y9 h1 h2 h3
            replace HX := Lib.hid h1
            replace HS := Lib.hid (HX.out.cell (i := 0) (j := 0) rfl rfl)
            replace HL6 := Lib.hid (HL6.out.trans h2)
            replace HMB6 := Lib.hid (h2 _ _ _ _ HMB6.out)
            replace HM6 := Lib.hid (h2 _ _ _ _ HM6.out)
            have HM9 := Lib.hid h3
            clear h1 h2 h3
            refine ⟨fun _ => HS.out, ?_⟩
            simp only [Act.put, List.setIfInBounds_toArray, List.set_cons_zero, List.set_cons_succ]
            refine lt_op 14 rfl (by kernel_rfl) rfl ?_
            refine wpo_appM (.tmp 66) (.tmp 69) rfl Tryd.u8s' HX.out HMB6.out rfl _ 2 2 rfl (HX.out.marks (T := 5) (c := 2) (List.mem_append_left _ (by simp))) (by omega) (by omega) ?_
            intro A14 c14 ks14 y14 h1 h2 h3
            replace HX := Lib.hid h1
            replace HS := Lib.hid (HX.out.cell (i := 0) (j := 0) rfl rfl)
            replace HL6 := Lib.hid (HL6.out.trans h2)
            replace HMB6 := Lib.hid (h2 _ _ _ _ HMB6.out)
            replace HM6 := Lib.hid (h2 _ _ _ _ HM6.out)
            replace HM9 := Lib.hid (h2 _ _ _ _ HM9.out)
            have HM14 := Lib.hid h3
            clear h1 h2 h3
            refine ⟨fun _ => HS.out, ?_⟩
            simp only [Act.put, List.setIfInBounds_toArray, List.set_cons_zero, List.set_cons_succ]
            refine lt_op 16 rfl (by kernel_rfl) rfl ?_
            refine wpo_build rfl #[Value.slice A j cap, .slice A9 (j + 1) c9, .slice A14 (j + 2) c14, .slice A6 (j + 1 + 100) c6] Tryd.kssF (.slice none 0 0) (by kernel_rfl) (by decide) (by decide) (by decide) rfl (by kernel_rfl) HX.out ?_
            intro g16 y16 hz _
            replace HX := Lib.hid (hz.perm (perm3 _ _ _))
            replace HS := Lib.hid (HX.out.cell (i := 0) (j := 0) rfl rfl)
            clear hz
            refine ⟨fun _ => HS.out, ?_⟩
            simp only [Act.put, List.setIfInBounds_toArray, List.set_cons_zero, List.set_cons_succ]
            refine lt_op 17 rfl (by kernel_rfl) rfl ?_
            refine wpo_append (.tmp 60) (.tmp 72) rfl Tryd.kssF HX.out 1 rfl rfl _ (some ⟨g16, 0, none⟩) 4 4 [Value.slice A j cap, .slice A9 (j + 1) c9, .slice A14 (j + 2) c14, .slice A6 (j + 1 + 100) c6] rfl (Reads.own (HX.out.rowm (T := 24) (sz := 1) (v := .slice (some ⟨g16, 0, none⟩) 4 4) (n := 4) (List.mem_append_left _ (by simp)))) (by simp [Value.oneCell']) (by unfold maxLen; omega) (by omega) ?_
            intro L17 c17 y17 hz _
            replace HX := Lib.hid hz
            replace HS := Lib.hid (HX.out.cell (i := 0) (j := 0) rfl rfl)
            clear hz
            refine ⟨fun _ => HS.out, ?_⟩
            simp only [Act.put, List.setIfInBounds_toArray, List.set_cons_zero, List.set_cons_succ]
            refine lt_pure 18 rfl (by kernel_rfl) (by kernel_rfl) (by kernel_rfl) (by kernel_rfl) (fun _ _ _ h => h) (v := ?_) (yi_run rfl (fun w => ?_)) (fun _ => HS.out) ?_
            rotate_left
            · first | (go_simp; done) | (go_simp; with_reducible rfl)
            simp only [Act.put, List.setIfInBounds_toArray, List.set_cons_zero, List.set_cons_succ]
            refine lt_pure 19 rfl (by kernel_rfl) (by kernel_rfl) (by kernel_rfl) (by kernel_rfl) (fun _ _ _ h => h) (v := ?_) (yi_run rfl (fun w => ?_)) (fun _ => HS.out) ?_
            rotate_left
            · first | (go_simp; done) | (go_simp; with_reducible rfl)
            simp only [Act.put, List.setIfInBounds_toArray, List.set_cons_zero, List.set_cons_succ]
            refine lt_end 20 rfl (by kernel_rfl) rfl (by kernel_rfl) ?_
            refine wpo_put1 rfl HX.out 0 rfl 0 rfl (by simp) _ rfl (by kernel_rfl) rfl ?_
            intro y20 hz _
            replace HX := Lib.hid hz
            clear hz
            simp only [Act.put]
            refine lt_done (by kernel_rfl) ?_
            go_wp2_with fail
            go_meet
            exact ⟨rfl, L17, c17, A9, c9, A14, c14, _, Lib.hid (drop3 (f := [boxO g [.slice L17 (q + 4) c17, .slice mA q mc, .int .i64 (N2 : Nat)], rowO 24 1 (.slice L17 (q + 4) c17) (q + 4) (vals ++ [.slice A j cap, .slice A9 (j + 1) c9, .slice A14 (j + 2) c14, .slice A6 (j + 1 + 100) c6]), bytO 5 (mA, mc, ms)] ++ rest) HX.out), HL6, HMB6, HM9, HM14, HM6⟩
        · refine wpo_build rfl #[.int .u8 (mm : Int), .int .u8 (mm : Int)] Tryd.u8s' (.int .u8 0) (by kernel_rfl) (by decide) (by decide) (by decide) rfl (by kernel_rfl) HX.out ?_
          intro g13 y13 hz _
          rw [e2.out] at hz
          replace HX := Lib.hid (hz.perm (perm3 _ _ _))
          replace HS := Lib.hid (HX.out.cell (i := 0) (j := 0) rfl rfl)
          clear hz
          refine ⟨fun _ => HS.out, ?_⟩
          simp only [Act.put, List.setIfInBounds_toArray, List.set_cons_zero, List.set_cons_succ]
          refine lt_op 8 rfl (by kernel_rfl) rfl ?_
          refine wpo_build rfl #[.int .u8 (mm : Int)] Tryd.u8s' (.int .u8 0) (by kernel_rfl) (by decide) (by decide) (by decide) rfl (by kernel_rfl) HX.out ?_
          intro g8 y8 hz _
          rw [e1.out] at hz
          replace HX := Lib.hid (hz.perm (perm3 _ _ _))
          replace HS := Lib.hid (HX.out.cell (i := 0) (j := 0) rfl rfl)
          clear hz
          refine ⟨fun _ => HS.out, ?_⟩
          simp only [Act.put, List.setIfInBounds_toArray, List.set_cons_zero, List.set_cons_succ]
          refine lt_op 9 rfl (by kernel_rfl) rfl ?_
          refine wpo_appM (.tmp 62) (.tmp 64) rfl Tryd.u8s' HX.out HMB6.out rfl _ 1 1 rfl (HX.out.marks (T := 5) (c := 1) (List.mem_append_left _ (by simp))) (by omega) (by omega) ?_
          intro A9 c9 ks9 y9 h1 h2 h3
          replace HX := Lib.hid h1
          replace HS := Lib.hid (HX.out.cell (i := 0) (j := 0) rfl rfl)
          replace HL6 := Lib.hid (HL6.out.trans h2)
          replace HMB6 := Lib.hid (h2 _ _ _ _ HMB6.out)
          replace HM6 := Lib.hid (h2 _ _ _ _ HM6.out)
          have HM9 := Lib.hid h3
          clear h1 h2 h3
          refine ⟨fun _ => HS.out, ?_⟩
          simp only [Act.put, List.setIfInBounds_toArray, List.set_cons_zero, List.set_cons_succ]
          refine lt_op 14 rfl (by kernel_rfl) rfl ?_
          refine wpo_appM (.tmp 66) (.tmp 69) rfl Tryd.u8s' HX.out HMB6.out rfl _ 2 2 rfl (HX.out.marks (T := 5) (c := 2) (List.mem_append_left _ (by simp))) (by omega) (by omega) ?_
          intro A14 c14 ks14 y14 h1 h2 h3
          replace HX := Lib.hid h1
          replace HS := Lib.hid (HX.out.cell (i := 0) (j := 0) rfl rfl)
          replace HL6 := Lib.hid (HL6.out.trans h2)
          replace HMB6 := Lib.hid (h2 _ _ _ _ HMB6.out)
          replace HM6 := Lib.hid (h2 _ _ _ _ HM6.out)
          replace HM9 := Lib.hid (h2 _ _ _ _ HM9.out)
          have HM14 := Lib.hid h3
          clear h1 h2 h3
          refine ⟨fun _ => HS.out, ?_⟩
          simp only [Act.put, List.setIfInBounds_toArray, List.set_cons_zero, List.set_cons_succ]
          refine lt_op 16 rfl (by kernel_rfl) rfl ?_
          refine wpo_build rfl #[Value.slice A j cap, .slice A9 (j + 1) c9, .slice A14 (j + 2) c14, .slice A6 (j + 1 + 100) c6] Tryd.kssF (.slice none 0 0) (by kernel_rfl) (by decide) (by decide) (by decide) rfl (by kernel_rfl) HX.out ?_
          intro g16 y16 hz _
          replace HX := Lib.hid (hz.perm (perm3 _ _ _))
          replace HS := Lib.hid (HX.out.cell (i := 0) (j := 0) rfl rfl)
          clear hz
          refine ⟨fun _ => HS.out, ?_⟩
          simp only [Act.put, List.setIfInBounds_toArray, List.set_cons_zero, List.set_cons_succ]
          refine lt_op 17 rfl (by kernel_rfl) rfl ?_
          refine wpo_append (.tmp 60) (.tmp 72) rfl Tryd.kssF HX.out 1 rfl rfl _ (some ⟨g16, 0, none⟩) 4 4 [Value.slice A j cap, .slice A9 (j + 1) c9, .slice A14 (j + 2) c14, .slice A6 (j + 1 + 100) c6] rfl (Reads.own (HX.out.rowm (T := 24) (sz := 1) (v := .slice (some ⟨g16, 0, none⟩) 4 4) (n := 4) (List.mem_append_left _ (by simp)))) (by simp [Value.oneCell']) (by unfold maxLen; omega) (by omega) ?_
          intro L17 c17 y17 hz _
          replace HX := Lib.hid hz
          replace HS := Lib.hid (HX.out.cell (i := 0) (j := 0) rfl rfl)
          clear hz
          refine ⟨fun _ => HS.out, ?_⟩
          simp only [Act.put, List.setIfInBounds_toArray, List.set_cons_zero, List.set_cons_succ]
          refine lt_pure 18 rfl (by kernel_rfl) (by kernel_rfl) (by kernel_rfl) (by kernel_rfl) (fun _ _ _ h => h) (v := ?_) (yi_run rfl (fun w => ?_)) (fun _ => HS.out) ?_
          rotate_left
          · first | (go_simp; done) | (go_simp; with_reducible rfl)
          simp only [Act.put, List.setIfInBounds_toArray, List.set_cons_zero, List.set_cons_succ]
          refine lt_pure 19 rfl (by kernel_rfl) (by kernel_rfl) (by kernel_rfl) (by kernel_rfl) (fun _ _ _ h => h) (v := ?_) (yi_run rfl (fun w => ?_)) (fun _ => HS.out) ?_
          rotate_left
          · first | (go_simp; done) | (go_simp; with_reducible rfl)
          simp only [Act.put, List.setIfInBounds_toArray, List.set_cons_zero, List.set_cons_succ]
          refine lt_end 20 rfl (by kernel_rfl) rfl (by kernel_rfl) ?_
          refine wpo_put1 rfl HX.out 0 rfl 0 rfl (by simp) _ rfl (by kernel_rfl) rfl ?_
          intro y20 hz _
          replace HX := Lib.hid hz
          clear hz
          simp only [Act.put]
          refine lt_done (by kernel_rfl) ?_
          go_wp2_with fail
          go_meet
          exact ⟨rfl, L17, c17, A9, c9, A14, c14, _, Lib.hid (drop3 (f := [boxO g [.slice L17 (q + 4) c17, .slice mA q mc, .int .i64 (N2 : Nat)], rowO 24 1 (.slice L17 (q + 4) c17) (q + 4) (vals ++ [.slice A j cap, .slice A9 (j + 1) c9, .slice A14 (j + 2) c14, .slice A6 (j + 1 + 100) c6]), bytO 5 (mA, mc, ms)] ++ rest) HX.out), HL6, HMB6, HM9, HM14, HM6⟩
      clear HX6 HL6 HM6 HMB6
      obtain ⟨rfl, L17, c17, A9, c9, A14, c14, ks7, HX7, HL7, HMB, HM9, HM14, HM6⟩ := hcut
      have e4 : Hid ((#[Value.int .u8 (mm : Int), .int .u8 (mm : Int), .int .u8 (mm : Int), .int .u8 (mm : Int)] : Array Value).toList = u8s (List.replicate 4 m)) := Lib.hid (by rw [← HMV.out]; rfl)
      go_wp2_with (first
        | (refine wpList_load_cell rfl 24 (.tmp 79) rfl rfl (HX7.out.cell (i := 0) (j := 1) rfl rfl) (fun w => Tryd.isAgg24 w) ?_)
        | (refine wl_build rfl #[(0, .tmp 81), (1, .tmp 82), (2, .tmp 83), (3, .tmp 84)] rfl #[.int .u8 (mm : Int), .int .u8 (mm : Int), .int .u8 (mm : Int), .int .u8 (mm : Int)] Tryd.u8s' (.int .u8 0) (by kernel_rfl) (by decide) (by decide) (by decide) rfl (by kernel_rfl) HX7.out ?_; intro g9 x9 hz _; have HX9 := Lib.hid hz.left; have HRB : Hid (RB x9 x9.heap.size (some ⟨g9, 0, none⟩) 4 (List.replicate 4 m)) := Lib.hid (by have h9 := Reads.own (hz.right.row (i := 0) rfl); rw [e4.out] at h9; exact h9); clear hz HX7)
        | (at_builtin; go_must (refine wl_appB rfl (.tmp 80) (.tmp 85) rfl Tryd.u8s' HX9.out 2 rfl HQM.out rfl _ _ 4 _ (List.replicate 4 m) rfl HRB.out (by omega) ?_); intro M13 d13 y1 hz; have HY := Lib.hid hz; clear hz HX9 HRB)
        | (refine wl_put1 rfl (.tmp 88) (.tmp 86) rfl HY.out 0 rfl 1 rfl (by simp) _ rfl (by kernel_rfl) rfl ?_; intro y2 hz _; have HZ : Hid (OW w (([boxO g [.slice L17 (q + 4) c17, .slice M13 (q + 4) d13, .int .i64 (N2 : Nat)], rowO 24 1 (.slice L17 (q + 4) c17) (q + 4) (vals ++ [.slice A j cap, .slice A9 (j + 1) c9, .slice A14 (j + 2) c14, .slice A6 (j + 1 + 100) c6]), bytO 5 (M13, d13, ms ++ List.replicate 4 m)] ++ rest) ++ ks7) y2) := Lib.hid hz; clear hz HY))
      go_end0
      have hl1 : (vals ++ [Value.slice A j cap, .slice A9 (j + 1) c9, .slice A14 (j + 2) c14, .slice A6 (j + 1 + 100) c6]).length = q + 4 := by rw [List.length_append, HQ.out]; rfl
      have hl2 : (ms ++ List.replicate 4 m).length = q + 4 := by rw [List.length_append, HQM.out, List.length_replicate]
      have hk1 : FlK (vals ++ [Value.slice A j cap, .slice A9 (j + 1) c9, .slice A14 (j + 2) c14, .slice A6 (j + 1 + 100) c6]) (ms ++ List.replicate 4 m) ks7 := FlK.add (HFK.out.le HL7.out) (HQ.out.trans HQM.out.symm) (k := 4) rfl (fun v hv => by
        simp only [List.mem_cons, List.not_mem_nil, or_false] at hv
        rcases hv with rfl | rfl | rfl | rfl
        · exact ⟨_, _, _, rfl, by omega, HMB.out⟩
        · exact ⟨_, _, _, rfl, by omega, HM9.out⟩
        · exact ⟨_, _, _, rfl, by omega, HM14.out⟩
        · exact ⟨_, _, _, rfl, by omega, HM6.out⟩)
      refine ⟨rfl, _, ⟨⟨.slice L17 (q + 4) c17, M13, d13, N2, vals ++ [Value.slice A j cap, .slice A9 (j + 1) c9, .slice A14 (j + 2) c14, .slice A6 (j + 1 + 100) c6], ms ++ List.replicate 4 m, ks7⟩, rfl, ⟨hl1.trans hl2.symm, by show 50 * (vals ++ [Value.slice A j cap, .slice A9 (j + 1) c9, .slice A14 (j + 2) c14, .slice A6 (j + 1 + 100) c6]).length ≤ N2; rw [hl1]; exact HN2.out.2.1, HN2.out.2.2, hk1⟩⟩, ?_⟩
      have h9 := HZ.out.perm (perm_back3 _ _ _)
      unfold flO
      rw [hl1, hl2]
      exact h9
end Go.Proofs.YtmigjipfomfacaaDoor
namespace Go.Proofs.YtmigjipfomfacaaDoor
open Go.RowKit
set_option maxRecDepth 100000 in
set_option maxHeartbeats 4000000 in
theorem fentry_any {w x : World} {g : Nat} {osF rest : List Ob} {oA oB oD : Ob} {A : Option Addr} {n c : Nat} {B : Option Addr} {m d : Nat} {D : Option Addr} {v q : Nat} (e : Ent) (hF : Fl g osF) (sA : SlB oA A n c) (sB : SlB oB B m d) (sD : SlB oD D v q) (h : OW w (osF ++ oA :: oB :: oD :: rest) x) (h1 : n ≤ 1000000000) (h2 : m ≤ 1000000000) (h3 : v ≤ 1000000000) :
    Calls Tryd.prog 35 #[.pointer (some ⟨g, 0, none⟩), entV A n c B m d D v q e] x fun r z => r = .returned (.tuple #[]) ∧ ∃ osF', Fl g osF' ∧ OW w (osF' ++ rest) z := by
  have HX := Lib.hid h
  have HF := Lib.hid hF
  have SA := Lib.hid sA
  have SB := Lib.hid sB
  have SD := Lib.hid sD
  clear h hF sA sB sD
  go_enter Tryd.func35, Tryd.ntmps35
  go_wp2_with (first
    | (refine wl_box rfl (.tmp 1) rfl [.slice A n c, .int .i64 e.fam, .slice B m d, .int .i64 e.ts, .int .i64 e.seq, .int .i64 e.kind, .slice D v q] rfl HX.out ?_; intro gb x1 hz _; rw [List.append_assoc] at hz; have HX1 : Hid (OW w (osF ++ oA :: oB :: oD :: (rest ++ [boxO gb [.slice A n c, .int .i64 e.fam, .slice B m d, .int .i64 e.ts, .int .i64 e.seq, .int .i64 e.kind, .slice D v q]])) x1) := Lib.hid hz; have tk1 : True := trivial; clear hz HX)
    | (refine wpList_load_cell rfl 24 (.tmp 5) rfl rfl (HX1.out.cellm (g := gb) (cs := [.slice A n c, .int .i64 e.fam, .slice B m d, .int .i64 e.ts, .int .i64 e.seq, .int .i64 e.kind, .slice D v q]) (j := 0) (List.mem_append_right _ (by simp)) rfl) (fun w => Tryd.isAgg24 w) ?_)
    | (go_at_call 75; (have _t := tk1); go_must (refine (take_any HF.out SA.out HX1.out h1).mono ?_); rintro r x2 ⟨rfl, os1, hf, ho⟩; have HF1 := Lib.hid hf; have HX2 := Lib.hid ho; have tk2 : True := trivial; clear hf ho HX1 HF tk1 _t)
    | (refine wpList_load_cell rfl 24 (.tmp 9) rfl rfl (HX2.out.cellm (g := gb) (cs := [.slice A n c, .int .i64 e.fam, .slice B m d, .int .i64 e.ts, .int .i64 e.seq, .int .i64 e.kind, .slice D v q]) (j := 2) (List.mem_append_right _ (by simp)) rfl) (fun w => Tryd.isAgg24 w) ?_)
    | (go_at_call 75; (have _t := tk2); go_must (refine (take_any HF1.out SB.out HX2.out h2).mono ?_); rintro r x3 ⟨rfl, os2, hf, ho⟩; have HF2 := Lib.hid hf; have HX3 := Lib.hid ho; have tk3 : True := trivial; clear hf ho HX2 HF1 tk2 _t)
    | (refine wpList_load_cell rfl 24 (.tmp 13) rfl rfl (HX3.out.cellm (g := gb) (cs := [.slice A n c, .int .i64 e.fam, .slice B m d, .int .i64 e.ts, .int .i64 e.seq, .int .i64 e.kind, .slice D v q]) (j := 6) (List.mem_append_right _ (by simp)) rfl) (fun w => Tryd.isAgg24 w) ?_)
    | (go_at_call 75; (have _t := tk3); go_must (refine (take_any HF2.out SD.out HX3.out h3).mono ?_); rintro r x4 ⟨rfl, os3, hf, ho⟩; have HF3 := Lib.hid hf; have HX4 := Lib.hid ho; clear hf ho HX3 HF2 tk3 _t))
  go_end0
  exact ⟨rfl, os3, HF3.out, HX4.out.sub (List.Sublist.append (List.Sublist.refl _) (List.sublist_append_left _ _))⟩
theorem Fl.read {w x : World} {g : Nat} {osF rest : List Ob} (hF : Fl g osF) (h : OW w (osF ++ rest) x) : ∃ (LA MA : Option Addr) (q lc mc : Nat), q ≤ 100000000 ∧ x.cell? ⟨g, 0, none⟩ = some (.slice LA q lc) ∧ x.cell? ⟨g, 1, none⟩ = some (.slice MA q mc) ∧
    ∀ i, i < q → ∃ (lg mg : Nat) (A : Option Addr) (n cap mm : Nat), LA = some ⟨lg, 0, none⟩ ∧ MA = some ⟨mg, 0, none⟩ ∧ n ≤ 1000000101 ∧ x.cell? ⟨lg, i, none⟩ = some (.slice A n cap) ∧ x.cell? ⟨mg, i, none⟩ = some (.int .u8 (mm : Int)) ∧ ∀ k, k < n → ∃ b, A = some ⟨b, 0, none⟩ ∧ x.cell? ⟨b, k, none⟩ = some (.int .u8 (mm : Int)) := by
  obtain ⟨⟨lv, mA, mc, N, vals, ms, ks⟩, rfl, hd⟩ := hF
  obtain ⟨LA, lc, hlv, _⟩ := own_slice (h.row (i := 1) rfl)
  have hlv : lv = .slice LA vals.length lc := hlv
  subst hlv
  have hl : vals.length = ms.length := hd.len
  have hq1 : 50 * vals.length ≤ N := hd.few
  have hq2 : N ≤ 5000000000 := hd.lim
  have hr := h.row (i := 1) rfl
  have hm := h.byt (i := 2) rfl
  refine ⟨LA, mA, vals.length, lc, mc, by omega, h.cell (i := 0) (j := 0) rfl rfl, by have h1 := h.cell (i := 0) (j := 1) rfl rfl; rw [h1, hl], fun i hi => ?_⟩
  obtain ⟨lg, lcap, hv, _⟩ := own_form hr (show 0 < vals.length by omega)
  injection hv with hv _ _
  obtain ⟨mg, mcap, hv2, _⟩ := own_form hm (show 0 < ms.length by omega)
  injection hv2 with hv2 _ _
  obtain ⟨v, hvi⟩ : ∃ v, vals[i]? = some v := ⟨_, List.getElem?_eq_getElem hi⟩
  obtain ⟨m, hmi⟩ : ∃ v, ms[i]? = some v := ⟨_, List.getElem?_eq_getElem (by omega)⟩
  obtain ⟨A, n, cap, rfl, hn, hmk⟩ := hd.keep i v m hvi hmi
  subst hv; subst hv2
  have hS := OW.marked h (A := A) (n := n) (cap := cap) (m := m) (by
    rcases hmk with hk | ⟨g', c', N', k1, k2, k3, k4, k5⟩
    · exact .inl hk
    · exact .inr ⟨g', c', N', k1, k2, k3, k4, List.mem_append_left _ (.tail _ (.tail _ (.tail _ k5)))⟩)
  refine ⟨lg, mg, A, n, cap, m.toNat, rfl, rfl, hn, (World.ownsRow.cellAt hr i (by show i < vals.length * 1; omega)).trans hvi, (World.ownsRow.cellAt hm i (by show i < ms.length * 1; omega)).trans (u8s_at hmi), fun k hk => ?_⟩
  obtain ⟨b, o, rfl, _, hc⟩ := hS.rb.2 (by omega)
  have ho : o = 0 := by
    rcases hmk with ⟨h1, _⟩ | ⟨_, _, _, h1, _⟩
    · cases h1
    · injection h1 with h1; injection h1
  subst ho
  have := hc k _ (u8s_at (show (List.replicate n m)[k]? = some m by simp [hk]))
  rw [Nat.zero_add] at this
  exact ⟨b, rfl, this⟩
set_option maxRecDepth 100000 in
set_option maxHeartbeats 4000000 in
theorem whole_any {w x : World} {g : Nat} {osF rest : List Ob} (hF : Fl g osF) (h : OW w (osF ++ rest) x) :
    Calls Tryd.prog 37 #[.pointer (some ⟨g, 0, none⟩)] x fun e z => e = .returned (.bool true) ∧ Below x.heap.size x z := by
  obtain ⟨LA, MA, q, lc, mc, hq, h0, h1, hi⟩ := hF.read h
  have L0 := Lib.hid (World.block_lt_of_cell? _ _ h0)
  have HI := Lib.hid hi
  have H0 : Hid (∀ z, Below x.heap.size x z → z.cell? ⟨g, 0, none⟩ = some (.slice LA q lc)) := Lib.hid fun z hz => (hz.cell (p := ⟨g, 0, none⟩) L0.out).trans h0
  have H1 : Hid (∀ z, Below x.heap.size x z → z.cell? ⟨g, 1, none⟩ = some (.slice MA q mc)) := Lib.hid fun z hz => (hz.cell (p := ⟨g, 1, none⟩) L0.out).trans h1
  clear hF h h0 h1 hi
  go_enter Tryd.func37, Tryd.ntmps37
  go_wp2_with fail
  go_loopw [3, 4] (fun iv _ wr => ∃ i : Nat, i ≤ q ∧ iv = .int .i64 i ∧ Hid (Below x.heap.size x wr)) (fun iv _ _ => q - (intOf iv).toNat)
  case atStart => exact ⟨0, Nat.zero_le _, rfl, Lib.hid (Below.refl _ _)⟩
  case round =>
    obtain ⟨i, hiq, rfl, HB⟩ := hrel
    have c0 := H0.out _ HB.out
    by_cases hlt : i < q
    case neg =>
      have hd : decide ((i : Int) < (q : Int)) = false := decide_eq_false (by omega)
      go_wp2_with (refine wpList_load_cell rfl 52 (.tmp 8) rfl rfl c0 (fun w => Tryd.isAgg52 w) ?_)
      go_ret
      exact ⟨rfl, HB.out⟩
    have hd : decide ((i : Int) < (q : Int)) = true := decide_eq_true (by omega)
    obtain ⟨lg, mg, A, n, cap, mm, rfl, rfl, hn, hl, hm, hk⟩ := HI.out i hlt
    have HL : Hid (∀ z, Below x.heap.size x z → z.cell? ⟨lg, i, none⟩ = some (.slice A n cap)) := Lib.hid fun z hz => (hz.cell (p := ⟨lg, i, none⟩) (World.block_lt_of_cell? _ _ hl)).trans hl
    have HM : Hid (∀ z, Below x.heap.size x z → z.cell? ⟨mg, i, none⟩ = some (.int .u8 (mm : Int))) := Lib.hid fun z hz => (hz.cell (p := ⟨mg, i, none⟩) (World.block_lt_of_cell? _ _ hm)).trans hm
    have HK := Lib.hid hk
    have i0 : (0 : Int) ≤ (i : Int) := by omega
    have i1 : (i : Int) < (q : Int) := by omega
    clear hl hm hk
    go_wp2_with (refine wpList_load_cell rfl 52 (.tmp 8) rfl rfl c0 (fun w => Tryd.isAgg52 w) ?_)
    go_loopw [4] (fun kv wy => ∃ k : Nat, k ≤ n ∧ kv = .int .i64 k ∧ Hid (Below x.heap.size x wy)) (fun kv _ => n - (intOf kv).toNat)
    case atStart => exact ⟨0, Nat.zero_le _, rfl, HB⟩
    case round =>
      clear c0
      obtain ⟨k, hkn, rfl, HB2⟩ := hrel
      have c0 := H0.out _ HB2.out
      have c1 := HL.out _ HB2.out
      by_cases hlk : k < n
      case neg =>
        have hd2 : decide ((k : Int) < (n : Int)) = false := decide_eq_false (by omega)
        go_wp2_with (first
          | (refine wpList_load_cell rfl 52 (.tmp 17) rfl rfl c0 (fun w => Tryd.isAgg52 w) ?_)
          | (refine wpList_load_cell rfl 24 (.tmp 20) rfl rfl c1 (fun w => Tryd.isAgg24 w) ?_))
        go_roundw
        case rel => exact ⟨i + 1, by omega, by go_num, HB2⟩
        case measure => simp [intOf]; omega
      have hd2 : decide ((k : Int) < (n : Int)) = true := decide_eq_true (by omega)
      obtain ⟨b, rfl, hcb⟩ := HK.out k hlk
      have c2 : _ = _ := (HB2.out.cell (p := ⟨b, k, none⟩) (World.block_lt_of_cell? _ _ hcb)).trans hcb
      have c3 := H1.out _ HB2.out
      have c4 := HM.out _ HB2.out
      have k0 : (0 : Int) ≤ (k : Int) := by omega
      have k1 : (k : Int) < (n : Int) := by omega
      go_wp2_with (first
        | (refine wpList_load_cell rfl 52 (.tmp 17) rfl rfl c0 (fun w => Tryd.isAgg52 w) ?_)
        | (refine wpList_load_cell rfl 24 (.tmp 20) rfl rfl c1 (fun w => Tryd.isAgg24 w) ?_))
      go_quiet (fail)
      have HB3 := Lib.hid (below_drewN (n := nq) HB2.out)
      generalize wr.drewN nq = wz at *
      go_wp2_with fail
      go_roundw
      case rel => exact ⟨k + 1, by omega, by go_num, HB3⟩
      case measure => simp [intOf]; omega
end Go.Proofs.YtmigjipfomfacaaDoor
namespace Go.Proofs.YtmigjipfomfacaaDoor
open Go.RowKit
theorem ent_rowM : RowTy Tryd.prog 37 7 := ⟨⟨_, Tryd.underlying37, rfl⟩, by kernel_rfl⟩
def mkL (j : Nat) : List UInt8 := [201, 202, 203, 204, 205] ++ List.replicate j 206
theorem mkL_len (j : Nat) : (mkL j).length = j + 5 := by simp [mkL]
set_option maxRecDepth 100000 in
set_option maxHeartbeats 1000000 in
theorem intact_any (l : List UInt8) (A B : Option Addr) (n c d : Nat) (w : World) (ha : Sl w A (n + 75) c (l ++ mkL 70)) (hb : RB w w.heap.size B n l) (hn : n ≤ 1000000) :
    Calls Tryd.prog 74 #[.slice A n c, .slice B n d] w fun e w' => e = .returned (.bool true) ∧ Below w.heap.size w w' := by
  have hcap := ha.cap
  have hlim := ha.lim
  have HLB := Lib.hid hb.len
  have HA : Hid (∀ x, Below w.heap.size w x → Sl x A (n + 75) c (l ++ mkL 70)) := Lib.hid fun x h => ha.later h
  have HB : Hid (∀ x, Below w.heap.size w x → RB x x.heap.size B n l) := Lib.hid fun x h => hb.later h
  have H1 : Hid (∀ x, Below w.heap.size w x → Sl x A n c l) := Lib.hid fun x h => by
    have h2 := (HA.out x h).take (m := n) (by omega)
    rwa [List.take_left' HLB.out] at h2
  have H2 : Hid (∀ x, Below w.heap.size w x → Sl x (A.map (·.add n)) 5 (c - n) [201, 202, 203, 204, 205]) := Lib.hid fun x h => by
    have h2 := ((HA.out x h).take (m := n + 5) (by omega)).drop (k := n) (by omega) (by omega)
    have e : ((l ++ mkL 70).take (n + 5)).drop n = [201, 202, 203, 204, 205] := by
      have hl := HLB.out
      subst hl
      rw [List.take_length_add_append, List.drop_left]
      rfl
    rw [e, show n + 5 - n = 5 from by omega] at h2
    exact h2
  have XS : Hid ((l == l) = true) := Lib.hid (by simp)
  have XM : Hid ((([201, 202, 203, 204, 205] : List UInt8) == [201, 202, 203, 204, 205]) = true) := Lib.hid rfl
  have hA0 : ∃ aa, A = some aa := by
    cases A with
    | none => exact absurd (ha.nil rfl) (by omega)
    | some aa => exact ⟨aa, rfl⟩
  obtain ⟨aa, rfl⟩ := hA0
  have k1 : (n : Int) + 5 ≤ (c : Int) := by omega
  have k2 : IntKind.i64.wrap ((n : Int) + 5) = (n : Int) + 5 := i64_sum (by omega) (by omega)
  have tok1 : True := trivial
  clear ha hb
  go_enter Tryd.func74, Tryd.ntmps74
  go_wp2_with (first
    | (go_at_call 16; have _t := tok1; go_must (refine (same_any l l (some aa) B n c n d _ (by omega) (H1.out _ (Below.refl _ _)).rb (HB.out _ (Below.refl _ _))).mono ?_); rw [XS.out]; rintro e x1 ⟨rfl, hb1⟩; have HB1 := Lib.hid hb1; clear hb1 tok1)
    | (go_at_call 16; go_must (refine (same_any [201, 202, 203, 204, 205] [201, 202, 203, 204, 205] _ _ 5 _ 5 _ _ (by decide) (H2.out _ (HB1.out.alloc HB1.out.size _)).rb (Sl.lit x1 #[.int .u8 201, .int .u8 202, .int .u8 203, .int .u8 204, .int .u8 205] [201, 202, 203, 204, 205] 5 (0, 0) rfl rfl (by decide)).rb).mono ?_); rw [XM.out]; rintro e x2 ⟨rfl, hb2⟩; have HB2 := Lib.hid (below_up (HB1.out.alloc HB1.out.size (.cells #[.int .u8 201, .int .u8 202, .int .u8 203, .int .u8 204, .int .u8 205] 5)) hb2); clear hb2))
  go_ret
  exact ⟨rfl, HB2.out⟩
structure EnM (w : World) (A : Option Addr) (n c : Nat) (B : Option Addr) (m d : Nat) (D : Option Addr) (v q : Nat) (e : Ent) : Prop where
  row : Sl w A (n + 75) c (e.row ++ mkL 70)
  qual : Sl w B (m + 75) d (e.qual ++ mkL 70)
  val : Sl w D (v + 75) q (e.val ++ mkL 70)
  lr : e.row.length = n ∧ n ≤ 5000
  lq : e.qual.length = m ∧ m ≤ 5000
  lv : e.val.length = v ∧ v ≤ 5000
section
variable {w x : World} {A : Option Addr} {n c : Nat} {B : Option Addr} {m d : Nat} {D : Option Addr} {v q : Nat} {e : Ent}
theorem EnM.later (h : EnM w A n c B m d D v q e) (hb : Below w.heap.size w x) : EnM x A n c B m d D v q e := ⟨h.row.later hb, h.qual.later hb, h.val.later hb, h.lr, h.lq, h.lv⟩
theorem sl_front {l : List UInt8} {k : Nat} (h : Sl w A (n + k) c (l ++ mkL 70)) (hl : l.length = n) : Sl w A n c l := by
  have h2 := h.take (m := n) (by omega)
  rwa [List.take_left' hl] at h2
theorem EnM.en (h : EnM w A n c B m d D v q e) : En w A n c B m d D v q e := ⟨sl_front h.row h.lr.1, sl_front h.qual h.lq.1, sl_front h.val h.lv.1⟩
end
set_option maxRecDepth 100000 in
set_option maxHeartbeats 2000000 in
theorem stands_any (a : Ent) (A : Option Addr) (n c : Nat) (B : Option Addr) (m d : Nat) (D : Option Addr) (v q : Nat) (A' : Option Addr) (c' : Nat) (B' : Option Addr) (d' : Nat) (D' : Option Addr) (q' : Nat) (w : World) (ha : EnM w A n c B m d D v q a) (hb : En w A' n c' B' m d' D' v q' a) :
    Calls Tryd.prog 34 #[entV A n c B m d D v q a, entV A' n c' B' m d' D' v q' a] w fun e w1 => e = .returned (.bool true) ∧ Below w.heap.size w w1 := by
  have HT := Lib.hid (Two.new w 37 #[.slice A n c, .int .i64 a.fam, .slice B m d, .int .i64 a.ts, .int .i64 a.seq, .int .i64 a.kind, .slice D v q] #[.slice A' n c', .int .i64 a.fam, .slice B' m d', .int .i64 a.ts, .int .i64 a.seq, .int .i64 a.kind, .slice D' v q'])
  have HA : Hid (∀ x, Below w.heap.size w x → EnM x A n c B m d D v q a) := Lib.hid fun x h => ha.later h
  have HC : Hid (∀ x, Below w.heap.size w x → En x A' n c' B' m d' D' v q' a) := Lib.hid fun x h => hb.later h
  have HLE : Hid (n ≤ 5000 ∧ m ≤ 5000 ∧ v ≤ 5000) := Lib.hid ⟨ha.lr.2, ha.lq.2, ha.lv.2⟩
  unfold entV
  clear ha hb
  have tok1 : True := trivial
  have tok2 : True := trivial
  go_enter Tryd.func34, Tryd.ntmps34
  go_wp2_with (first
    | (go_at_call 74; have _t := tok1; go_must (refine (intact_any a.row _ _ _ _ _ _ (HA.out _ HT.out.up).row (by have h := (HC.out _ HT.out.up).row.rb; exact h) (by have := HLE.out; omega)).mono ?_); rintro e x1 ⟨rfl, hb1⟩; have HT1 := Lib.hid (HT.out.later hb1); clear hb1 tok1; have a2 := boxed1 HT1.out (i := 2) (v := .slice B m d) rfl; have b2 := boxed2 HT1.out (i := 2) (v := .slice B' m d') rfl)
    | (go_at_call 74; have _t := tok2; go_must (refine (intact_any a.qual _ _ _ _ _ _ (HA.out _ HT1.out.up).qual (by have h := (HC.out _ HT1.out.up).qual.rb; exact h) (by have := HLE.out; omega)).mono ?_); rintro e x2 ⟨rfl, hb2⟩; have HT2 := Lib.hid (HT1.out.later hb2); clear hb2 tok2; have a6 := boxed1 HT2.out (i := 6) (v := .slice D v q) rfl; have b6 := boxed2 HT2.out (i := 6) (v := .slice D' v q') rfl)
    | (go_at_call 74; go_must (refine (intact_any a.val _ _ _ _ _ _ (HA.out _ HT2.out.up).val (by have h := (HC.out _ HT2.out.up).val.rb; exact h) (by have := HLE.out; omega)).mono ?_); rintro e x3 ⟨rfl, hb3⟩; have HT3 := Lib.hid (HT2.out.later hb3); clear hb3))
  go_ret
  exact ⟨rfl, HT3.out.up⟩
theorem sl_front' {w : World} {A : Option Addr} {c n k : Nat} {l : List UInt8} (h : Sl w A (l ++ mkL k).length c (l ++ mkL k)) (hl : l.length = n) : Sl w A n c l := by
  have h2 := h.take (m := n) (by rw [List.length_append]; omega)
  rwa [List.take_left' hl] at h2
theorem OW.front_ {w z : World} {os : List Ob} {T : TypeId} {A : Option Addr} {c n : Nat} {l : List UInt8} {k : Nat} (h : OW w os z) (hm : bytO T (A, c, l ++ mkL k) ∈ os) (hn : l.length = n) : Sl z A n c l :=
  sl_front' (h.slm hm rfl) hn
set_option maxRecDepth 100000 in
set_option maxHeartbeats 2000000 in
theorem laid5_any (l : List UInt8) (A : Option Addr) (n c : Nat) (w : World) (hs : Sl w A n c l) (hn : n ≤ 1000000) :
    Calls Tryd.prog 72 #[.slice A n c] w fun r z => ∃ A' c', r = .returned (.slice A' n c') ∧ OW w [bytO 5 (A', c', l ++ mkL 70)] z := by
  have HS := Lib.hid hs
  have hl := hs.len
  have HL := Lib.hid hl
  clear hs
  go_enter Tryd.func72, Tryd.ntmps72
  go_wp2_with (first
    | (go_at_call 92; go_must (refine (copied_any l A n c _ (by omega) HS.out.rb).mono ?_); rintro e x1 hp; obtain ⟨A1, c1, rfl, _, ho, hb⟩ := hp.at_ HL.out; have HX1 : Hid (OW w [bytO 5 (A1, c1, l)] x1) := Lib.hid (OW.byt1 hb ho); clear hp ho hb)
    | (refine wl_build rfl #[(0, .const (.int .u8 201)), (1, .const (.int .u8 202)), (2, .const (.int .u8 203)), (3, .const (.int .u8 204)), (4, .const (.int .u8 205))] rfl #[.int .u8 201, .int .u8 202, .int .u8 203, .int .u8 204, .int .u8 205] Tryd.u8s' (.int .u8 0) (by kernel_rfl) (by decide) (by decide) (by decide) rfl (by kernel_rfl) HX1.out ?_; intro g2 x2 hz _; have HX2 := Lib.hid hz.left; have HRB : Hid (RB x2 x2.heap.size (some ⟨g2, 0, none⟩) 5 [201, 202, 203, 204, 205]) := Lib.hid (Reads.own (hz.right.row (i := 0) rfl)); clear hz HX1)
    | (at_builtin; go_must (refine wl_appB rfl (.tmp 7) (.tmp 8) rfl Tryd.u8s' HX2.out 0 rfl HL.out rfl _ _ 5 _ [201, 202, 203, 204, 205] rfl HRB.out (by omega) ?_); intro A3 c3 x3 hz; have HX3 : Hid (OW w [bytO 5 (A3, c3, l ++ mkL 0)] x3) := Lib.hid hz; clear hz HX2 HRB))
  go_loopw [3, 4] (fun v i wr => ∃ (j : Nat) (A' : Option Addr) (c' : Nat), j ≤ 70 ∧ i = .int .i64 j ∧ v = .slice A' (n + 5 + j) c' ∧ Hid (OW w [bytO 5 (A', c', l ++ mkL j)] wr)) (fun _ i _ => 70 - (intOf i).toNat)
  case atStart => exact ⟨0, A3, c3, by omega, rfl, rfl, HX3⟩
  case round =>
    clear HX3
    obtain ⟨j, A4, c4, hj, rfl, rfl, HX⟩ := hrel
    have HLJ : Hid ((l ++ mkL j).length = n + 5 + j) := Lib.hid (by rw [List.length_append, HL.out, mkL_len]; omega)
    by_cases hlt : j < 70
    · have hd3 : decide ((j : Int) < 70) = true := decide_eq_true (by omega)
      have HE : Hid (l ++ mkL j ++ [206] = l ++ mkL (j + 1)) := Lib.hid (by unfold mkL; rw [List.replicate_succ']; simp)
      go_wp2_with (first
        | (refine wl_build rfl #[(0, .const (.int .u8 206))] rfl #[.int .u8 206] Tryd.u8s' (.int .u8 0) (by kernel_rfl) (by decide) (by decide) (by decide) rfl (by kernel_rfl) HX.out ?_; intro g5 x5 hz _; have HX5 := Lib.hid hz.left; have HRB : Hid (RB x5 x5.heap.size (some ⟨g5, 0, none⟩) 1 [206]) := Lib.hid (Reads.own (hz.right.row (i := 0) rfl)); clear hz HX)
        | (at_builtin; go_must (refine wl_appB rfl (.tmp 14) (.tmp 15) rfl Tryd.u8s' HX5.out 0 rfl HLJ.out rfl _ _ 1 _ [206] rfl HRB.out (by omega) ?_); intro A6 c6 x6 hz; rw [HE.out] at hz; have HX6 : Hid (OW w [bytO 5 (A6, c6, l ++ mkL (j + 1))] x6) := Lib.hid hz; clear hz HX5 HRB))
      go_roundw
      case rel => exact ⟨j + 1, A6, c6, by omega, by go_num, rfl, HX6⟩
      case measure => simp [intOf]; omega
    · have hd3 : decide ((j : Int) < 70) = false := decide_eq_false (by omega)
      obtain rfl : j = 70 := by omega
      have h5 : (l ++ mkL 70).length ≤ c4 := (HX.out.byt (i := 0) rfl).cap.1
      have h7 : (l ++ mkL 70).length = n + 5 + 70 := HLJ.out
      have h5I : (n : Int) ≤ (c4 : Int) := by omega
      have h5N : n ≤ c4 := by omega
      clear hlt h7 h5
      go_wp2_with fail
      go_ret
      exact ⟨A4, c4, rfl, HX.out⟩
set_option maxRecDepth 100000 in
theorem cut5_any (l : List UInt8) (A : Option Addr) (n c N : Nat) (w : World) (hs : Sl w A n c l) (hN : N ≤ 1000000) :
    Calls Tryd.prog 73 #[.slice A n c, .int .i64 (N : Int)] w fun r z => r = .returned (.slice A (min n N) c) ∧ z = w := by
  have hcap := hs.cap
  have hlim := hs.lim
  by_cases h : N < n
  · have hd : decide ((n : Int) > (N : Int)) = true := decide_eq_true (by omega)
    have hd2 : decide (N < n) = true := decide_eq_true h
    have hcI : (N : Int) ≤ (c : Int) := by omega
    have hm : min n N = N := by omega
    rw [hm]
    clear hs hm
    go_enter Tryd.func73, Tryd.ntmps73
    go_wp2_with fail
    go_ret
    exact ⟨rfl, rfl⟩
  · have hd : decide ((n : Int) > (N : Int)) = false := decide_eq_false (by omega)
    have hd2 : decide (N < n) = false := decide_eq_false h
    have hm : min n N = n := by omega
    rw [hm]
    clear hs hm
    go_enter Tryd.func73, Tryd.ntmps73
    go_wp2_with fail
    go_ret
    exact ⟨rfl, rfl⟩
def entO (A B D : Option Addr) (c d q : Nat) (e : Ent) : List Ob := [bytO 5 (A, c, e.row ++ mkL 70), bytO 5 (B, d, e.qual ++ mkL 70), bytO 5 (D, q, e.val ++ mkL 70)]
def cut5 (e : Ent) : Ent := { e with row := e.row.take 5000, qual := e.qual.take 5000, val := e.val.take 5000 }
theorem sl_cut {w : World} {A : Option Addr} {n c : Nat} {l : List UInt8} (h : Sl w A n c l) : Sl w A (min n 5000) c (l.take 5000) := by
  have h1 := h.take (m := min n 5000) (Nat.min_le_left _ _)
  have hl := h.len
  rcases Nat.le_total n 5000 with h2 | h2
  · rw [Nat.min_eq_left h2] at h1 ⊢
    rwa [List.take_of_length_le (by omega), ← List.take_of_length_le (l := l) (i := 5000) (by omega)] at h1
  · rw [Nat.min_eq_right h2] at h1 ⊢
    exact h1
theorem entO_en {w z : World} {os : List Ob} {A B D : Option Addr} {c d q : Nat} {e : Ent} (h : OW w os z) (hm : ∀ o, o ∈ entO A B D c d q e → o ∈ os) : En z A e.row.length c B e.qual.length d D e.val.length q e :=
  ⟨h.front_ (hm _ (.head _)) rfl, h.front_ (hm _ (.tail _ (.head _))) rfl, h.front_ (hm _ (.tail _ (.tail _ (.head _)))) rfl⟩
theorem entO_enM {w z : World} {os : List Ob} {A B D : Option Addr} {c d q : Nat} {e : Ent} (h : OW w os z) (hm : ∀ o, o ∈ entO A B D c d q e → o ∈ os) (h1 : e.row.length ≤ 5000) (h2 : e.qual.length ≤ 5000) (h3 : e.val.length ≤ 5000) : EnM z A e.row.length c B e.qual.length d D e.val.length q e :=
  ⟨h.slm (hm _ (.head _)) (by rw [List.length_append, mkL_len]), h.slm (hm _ (.tail _ (.head _))) (by rw [List.length_append, mkL_len]), h.slm (hm _ (.tail _ (.tail _ (.head _)))) (by rw [List.length_append, mkL_len]), ⟨rfl, h1⟩, ⟨rfl, h2⟩, ⟨rfl, h3⟩⟩
theorem cut5_le (e : Ent) : (cut5 e).row.length ≤ 5000 ∧ (cut5 e).qual.length ≤ 5000 ∧ (cut5 e).val.length ≤ 5000 := by
  refine ⟨?_, ?_, ?_⟩ <;> (unfold cut5; simp only [List.length_take]; omega)
set_option maxRecDepth 100000 in
set_option maxHeartbeats 4000000 in
theorem entry5_any (e : Ent) (A : Option Addr) (n c : Nat) (B : Option Addr) (m d : Nat) (D : Option Addr) (v q : Nat) (w : World) (h : En w A n c B m d D v q e) :
    Calls Tryd.prog 32 #[entV A n c B m d D v q e] w fun r z => ∃ A' B' D' c' d' q', r = .returned (entV A' (cut5 e).row.length c' B' (cut5 e).qual.length d' D' (cut5 e).val.length q' (cut5 e)) ∧ OW w (entO A' B' D' c' d' q' (cut5 e)) z := by
  obtain ⟨e', he'⟩ : ∃ z, z = cut5 e := ⟨_, rfl⟩
  have h1 := cut5_le e
  have HE : Hid (∀ z, Below w.heap.size w z → En z A n c B m d D v q e) := Lib.hid fun z hz => h.later hz
  have HRL : Hid ((min n 5000) = e'.row.length ∧ (min m 5000) = e'.qual.length ∧ (min v 5000) = e'.val.length) := Lib.hid (by
    have e1 := h.row.len
    have e2 := h.qual.len
    have e3 := h.val.len
    subst he'
    unfold cut5
    simp only [List.length_take]
    omega)
  have HF : Hid (e'.fam = e.fam ∧ e'.ts = e.ts ∧ e'.seq = e.seq ∧ e'.kind = e.kind) := Lib.hid (by subst he'; exact ⟨rfl, rfl, rfl, rfl⟩)
  have HC : Hid (e'.row = e.row.take 5000 ∧ e'.qual = e.qual.take 5000 ∧ e'.val = e.val.take 5000) := Lib.hid (by subst he'; exact ⟨rfl, rfl, rfl⟩)
  rw [← he'] at h1 ⊢
  obtain ⟨r1, r2, r3⟩ := h1
  obtain ⟨n1, hn1⟩ : ∃ z, z = min n 5000 := ⟨_, rfl⟩
  obtain ⟨m1, hm1⟩ : ∃ z, z = min m 5000 := ⟨_, rfl⟩
  obtain ⟨v1, hv1⟩ : ∃ z, z = min v 5000 := ⟨_, rfl⟩
  have HN := Lib.hid hn1.symm
  have HM := Lib.hid hm1.symm
  have HV := Lib.hid hv1.symm
  have hn5 : n1 ≤ 5000 := by omega
  have hm5 : m1 ≤ 5000 := by omega
  have hv5 : v1 ≤ 5000 := by omega
  have HX := Lib.hid (OW.nil w)
  clear h he' hn1 hm1 hv1 r1 r2 r3
  unfold entV
  go_enter Tryd.func32, Tryd.ntmps32
  go_wp2_with (first
    | (refine wl_box rfl (.tmp 0) rfl [.slice A n c, .int .i64 e.fam, .slice B m d, .int .i64 e.ts, .int .i64 e.seq, .int .i64 e.kind, .slice D v q] rfl HX.out ?_; intro gb x1 hz _; have HX1 := Lib.hid hz; clear hz HX)
    | (refine wl_alloc rfl rfl [.slice none 0 0, .int .i64 0, .slice none 0 0, .int .i64 0, .int .i64 0, .int .i64 0, .slice none 0 0] (.inl (by kernel_rfl)) HX1.out ?_; intro gr x2 hz _; have HX2 : Hid (OW w [boxO gb [.slice A n c, .int .i64 e.fam, .slice B m d, .int .i64 e.ts, .int .i64 e.seq, .int .i64 e.kind, .slice D v q], boxO gr [.slice none 0 0, .int .i64 0, .slice none 0 0, .int .i64 0, .int .i64 0, .int .i64 0, .slice none 0 0]] x2) := Lib.hid hz; have tk1 : True := trivial; clear hz HX1)
    | (refine wpList_load_cell rfl 24 (.tmp 3) rfl rfl (HX2.out.cell (i := 0) (j := 0) rfl rfl) (fun w => Tryd.isAgg24 w) ?_)
    | (go_at_call 73; (have _t := tk1); go_must (refine (cut5_any e.row A n c 5000 _ (HE.out _ HX2.out.up).row (by decide)).mono ?_); rw [HN.out]; rintro r z ⟨rfl, rfl⟩; clear tk1 _t; have tk1b : True := trivial)
    | (go_at_call 72; (have _t := tk1b); go_must (refine (laid5_any e'.row A n1 c _ (by have h9 := sl_cut (HE.out _ HX2.out.up).row; rw [HN.out, ← HC.out.1] at h9; exact h9) (by omega)).mono ?_); rintro r x3 ⟨A3, c3, rfl, ho⟩; have HX3 := Lib.hid (HX2.out.app ho); clear ho HX2 tk1b _t)
    | (refine wl_put1 rfl (.tmp 7) (.tmp 6) rfl HX3.out 0 rfl 0 rfl (by simp) _ rfl (by kernel_rfl) rfl ?_; intro x4 hz _; have HX4 : Hid (OW w [boxO gb [.slice A3 n1 c3, .int .i64 e.fam, .slice B m d, .int .i64 e.ts, .int .i64 e.seq, .int .i64 e.kind, .slice D v q], boxO gr [.slice none 0 0, .int .i64 0, .slice none 0 0, .int .i64 0, .int .i64 0, .int .i64 0, .slice none 0 0], bytO 5 (A3, c3, e'.row ++ mkL 70)] x4) := Lib.hid hz; have tk2 : True := trivial; clear hz HX3)
    | (refine wpList_load_cell rfl 24 (.tmp 8) rfl rfl (HX4.out.cell (i := 0) (j := 2) rfl rfl) (fun w => Tryd.isAgg24 w) ?_)
    | (go_at_call 73; (have _t := tk2); go_must (refine (cut5_any e.qual B m d 5000 _ (HE.out _ HX4.out.up).qual (by decide)).mono ?_); rw [HM.out]; rintro r z ⟨rfl, rfl⟩; clear tk2 _t; have tk2b : True := trivial)
    | (go_at_call 72; (have _t := tk2b); go_must (refine (laid5_any e'.qual B m1 d _ (by have h9 := sl_cut (HE.out _ HX4.out.up).qual; rw [HM.out, ← HC.out.2.1] at h9; exact h9) (by omega)).mono ?_); rintro r x5 ⟨B3, d3, rfl, ho⟩; have HX5 := Lib.hid (HX4.out.app ho); clear ho HX4 tk2b _t)
    | (refine wl_put1 rfl (.tmp 12) (.tmp 11) rfl HX5.out 0 rfl 2 rfl (by simp) _ rfl (by kernel_rfl) rfl ?_; intro x6 hz _; have HX6 : Hid (OW w [boxO gb [.slice A3 n1 c3, .int .i64 e.fam, .slice B3 m1 d3, .int .i64 e.ts, .int .i64 e.seq, .int .i64 e.kind, .slice D v q], boxO gr [.slice none 0 0, .int .i64 0, .slice none 0 0, .int .i64 0, .int .i64 0, .int .i64 0, .slice none 0 0], bytO 5 (A3, c3, e'.row ++ mkL 70), bytO 5 (B3, d3, e'.qual ++ mkL 70)] x6) := Lib.hid hz; have tk3 : True := trivial; clear hz HX5)
    | (refine wpList_load_cell rfl 24 (.tmp 13) rfl rfl (HX6.out.cell (i := 0) (j := 6) rfl rfl) (fun w => Tryd.isAgg24 w) ?_)
    | (go_at_call 73; (have _t := tk3); go_must (refine (cut5_any e.val D v q 5000 _ (HE.out _ HX6.out.up).val (by decide)).mono ?_); rw [HV.out]; rintro r z ⟨rfl, rfl⟩; clear tk3 _t; have tk3b : True := trivial)
    | (go_at_call 72; (have _t := tk3b); go_must (refine (laid5_any e'.val D v1 q _ (by have h9 := sl_cut (HE.out _ HX6.out.up).val; rw [HV.out, ← HC.out.2.2] at h9; exact h9) (by omega)).mono ?_); rintro r x7 ⟨D3, q3, rfl, ho⟩; have HX7 := Lib.hid (HX6.out.app ho); clear ho HX6 tk3b _t)
    | (refine wl_put1 rfl (.tmp 17) (.tmp 16) rfl HX7.out 0 rfl 6 rfl (by simp) _ rfl (by kernel_rfl) rfl ?_; intro x8 hz _; have HX8 : Hid (OW w [boxO gb [.slice A3 n1 c3, .int .i64 e.fam, .slice B3 m1 d3, .int .i64 e.ts, .int .i64 e.seq, .int .i64 e.kind, .slice D3 v1 q3], boxO gr [.slice none 0 0, .int .i64 0, .slice none 0 0, .int .i64 0, .int .i64 0, .int .i64 0, .slice none 0 0], bytO 5 (A3, c3, e'.row ++ mkL 70), bytO 5 (B3, d3, e'.qual ++ mkL 70), bytO 5 (D3, q3, e'.val ++ mkL 70)] x8) := Lib.hid hz; clear hz HX7)
    | (refine wpList_load_row7 rfl 37 (.tmp 1) rfl rfl (HX8.out.range (i := 0) rfl) ent_rowM ?_)
    | (refine wl_put rfl (.tmp 2) (.tmp 18) rfl HX8.out 1 rfl rfl [.slice A3 n1 c3, .int .i64 e.fam, .slice B3 m1 d3, .int .i64 e.ts, .int .i64 e.seq, .int .i64 e.kind, .slice D3 v1 q3] rfl rfl (by kernel_rfl) (by simp [Value.oneCell']) ?_; intro x9 hz _; have HX9 : Hid (OW w [boxO gb [.slice A3 n1 c3, .int .i64 e.fam, .slice B3 m1 d3, .int .i64 e.ts, .int .i64 e.seq, .int .i64 e.kind, .slice D3 v1 q3], boxO gr [.slice A3 n1 c3, .int .i64 e.fam, .slice B3 m1 d3, .int .i64 e.ts, .int .i64 e.seq, .int .i64 e.kind, .slice D3 v1 q3], bytO 5 (A3, c3, e'.row ++ mkL 70), bytO 5 (B3, d3, e'.qual ++ mkL 70), bytO 5 (D3, q3, e'.val ++ mkL 70)] x9) := Lib.hid hz; clear hz HX8))
  refine bodyPost_ret (results_rowL rfl _ _ gr _ rfl (HX9.out.range (i := 1) rfl) (by kernel_rfl) (by kernel_rfl)) rfl ?_
  refine ⟨A3, B3, D3, c3, d3, q3, ?_, (HX9.out.erase 0).erase 0⟩
  rw [← HRL.out.1, ← HRL.out.2.1, ← HRL.out.2.2, HN.out, HM.out, HV.out, HF.out.1, HF.out.2.1, HF.out.2.2.1, HF.out.2.2.2]
end Go.Proofs.YtmigjipfomfacaaDoor
namespace Go.Proofs.YtmigjipfomfacaaDoor
def shareN : List UInt8 → List UInt8 → Nat
  | a :: az, b :: bs => if a = b then shareN az bs + 1 else 0
  | _, _ => 0
theorem shareN_le : ∀ a b : List UInt8, shareN a b ≤ a.length ∧ shareN a b ≤ b.length
  | [], b => ⟨Nat.zero_le _, Nat.zero_le _⟩
  | a :: az, [] => ⟨Nat.zero_le _, Nat.zero_le _⟩
  | a :: az, b :: bs => by
    unfold shareN
    split
    · have := shareN_le az bs; exact ⟨Nat.succ_le_succ this.1, Nat.succ_le_succ this.2⟩
    · exact ⟨Nat.zero_le _, Nat.zero_le _⟩
theorem shareN_take : ∀ a b : List UInt8, a.take (shareN a b) = b.take (shareN a b)
  | [], b => by simp [shareN]
  | a :: az, [] => by simp [shareN]
  | a :: az, b :: bs => by
    unfold shareN
    split
    · rename_i h; subst h; simp [shareN_take az bs]
    · simp
theorem shareN_test : ∀ (a b : List UInt8) (k : Nat), k ≤ shareN a b → (k < shareN a b ↔ k < a.length ∧ k < b.length ∧ a[k]? = b[k]?)
  | [], b, k, h => by simp [shareN] at h ⊢
  | a :: az, [], k, h => by simp [shareN] at h ⊢
  | a :: az, b :: bs, k, h => by
    unfold shareN at h ⊢
    split at h
    · rename_i e
      rw [if_pos e]
      subst e
      cases k with
      | zero => simp
      | succ k =>
        have := shareN_test az bs k (by omega)
        simp only [List.length_cons, Nat.add_lt_add_iff_right, List.getElem?_cons_succ]
        omega
    · rename_i e
      rw [if_neg e]
      obtain rfl : k = 0 := by omega
      simp
      intro h; exact absurd h e
def rowK (n : Nat) (k v : List UInt8) : List UInt8 := uintB n ++ (uintB (k.drop n).length ++ k.drop n) ++ (uintB v.length ++ v)
structure BSt where
  body : List UInt8
  places : List Nat
  key : List UInt8
  n : Nat
def bst0 : BSt := ⟨[], [], [], 0⟩
def alikeB (R : Nat) (s : BSt) (k : List UInt8) : Nat := if s.n % R = 0 then 0 else shareN s.key k
def placesB (R : Nat) (s : BSt) : List Nat := if s.n % R = 0 then s.places ++ [s.body.length] else s.places
def stepB (R : Nat) (s : BSt) (k v : List UInt8) : BSt := ⟨s.body ++ rowK (alikeB R s k) k v, placesB R s, k, s.n + 1⟩
def runE (R : Nat) (s : BSt) (l : List Ent) : BSt := l.foldl (fun s e => stepB R s (keyE e) e.val) s
def runB (R : Nat) (l : List Ent) : BSt := runE R bst0 l
theorem runB_snoc (R : Nat) (l : List Ent) (e : Ent) : runB R (l ++ [e]) = stepB R (runB R l) (keyE e) e.val := by simp [runB, runE]
theorem runB_n (R : Nat) : ∀ l : List Ent, (runB R l).n = l.length := by
  have : ∀ (l : List Ent) (s : BSt), (runE R s l).n = s.n + l.length := by
    intro l
    induction l with
    | nil => intro s; rfl
    | cons e l ih => intro s; show (runE R (stepB R s (keyE e) e.val) l).n = _; rw [ih]; simp only [stepB, List.length_cons]; omega
  intro l
  have := this l bst0
  simpa [runB, bst0] using this
def four4 (n : Nat) : List UInt8 := [UInt8.ofNat (n / 16777216), UInt8.ofNat (n / 65536), UInt8.ofNat (n / 256), UInt8.ofNat n]
theorem four4_len (n : Nat) : (four4 n).length = 4 := rfl
def headB5 (R : Nat) (s : BSt) : List UInt8 := s.body ++ s.places.flatMap four4 ++ four4 s.n ++ [UInt8.ofNat R]
def layS (R : Nat) (s : BSt) : List UInt8 := headB5 R s ++ lowB (sumL (headB5 R s))
def layB (R : Nat) (l : List Ent) : List UInt8 := if l = [] then [] else layS R (runB R l)
def sizeS (s : BSt) : Nat := s.body.length + 4 * s.places.length + 9
theorem places_len (l : List Nat) : (l.flatMap four4).length = 4 * l.length := by
  induction l with
  | nil => rfl
  | cons a l ih => rw [List.flatMap_cons, List.length_append, ih, four4_len, List.length_cons]; omega
theorem lowB_len (s : Nat) : (lowB s).length = 4 := rfl
theorem layS_len (R : Nat) (s : BSt) : (layS R s).length = sizeS s := by
  unfold layS headB5 sizeS
  simp only [List.length_append, places_len, four4_len, lowB_len, List.length_singleton]
theorem layB_len (R : Nat) {l : List Ent} (h : l ≠ []) : (layB R l).length = sizeS (runB R l) := by
  unfold layB; rw [if_neg h, layS_len]
theorem row_u (p r : List UInt8) (al : Nat) (k v : List UInt8) (ha : al < 18446744073709551616) : readU (p ++ (rowK al k v ++ r)) (p.length : Int) = (al, p.length + (uintB al).length, 0) := by
  have := readU_back p ((uintB (k.drop al).length ++ k.drop al) ++ (uintB v.length ++ v) ++ r) al ha
  unfold rowK
  simp only [List.append_assoc] at *
  exact this
theorem row_k (p r : List UInt8) (al : Nat) (k v : List UInt8) (most : Int) (hk : (k.drop al).length < 18446744073709551616) (hm : ((k.drop al).length : Int) ≤ most) :
    readBy (p ++ (rowK al k v ++ r)) ((p.length + (uintB al).length : Nat) : Int) most = (k.drop al, p.length + (uintB al).length + (uintB (k.drop al).length ++ k.drop al).length, 0) := by
  have := readBy_back (p ++ uintB al) ((uintB v.length ++ v) ++ r) (k.drop al) most hk hm
  rw [List.length_append] at this
  unfold rowK
  simp only [List.append_assoc] at *
  exact this
theorem row_v (p r : List UInt8) (al : Nat) (k v : List UInt8) (most : Int) (hv : v.length < 18446744073709551616) (hm : (v.length : Int) ≤ most) :
    readBy (p ++ (rowK al k v ++ r)) ((p.length + (uintB al).length + (uintB (k.drop al).length ++ k.drop al).length : Nat) : Int) most = (v, p.length + (rowK al k v).length, 0) := by
  have := readBy_back (p ++ uintB al ++ (uintB (k.drop al).length ++ k.drop al)) r v most hv hm
  rw [List.length_append, List.length_append] at this
  have e : p.length + (rowK al k v).length = p.length + (uintB al).length + (uintB (k.drop al).length ++ k.drop al).length + (uintB v.length ++ v).length := by
    unfold rowK; rw [List.length_append, List.length_append]; omega
  rw [e, ← this]
  unfold rowK
  simp only [List.append_assoc]
theorem runB_take (R : Nat) (L : List Ent) {i : Nat} {e : Ent} (h : L[i]? = some e) : runB R (L.take (i + 1)) = stepB R (runB R (L.take i)) (keyE e) e.val := by
  rw [take_snoc h, runB_snoc]
theorem runE_body (R : Nat) : ∀ (l : List Ent) (s : BSt), ∃ t, (runE R s l).body = s.body ++ t
  | [], s => ⟨[], by simp [runE]⟩
  | e :: l, s => by
    obtain ⟨t, h⟩ := runE_body R l (stepB R s (keyE e) e.val)
    exact ⟨rowK (alikeB R s (keyE e)) (keyE e) e.val ++ t, by show (runE R (stepB R s (keyE e) e.val) l).body = _; rw [h]; simp [stepB]⟩
theorem runB_app (R : Nat) (l m : List Ent) : runB R (l ++ m) = runE R (runB R l) m := by simp [runB, runE]
theorem runB_body (R : Nat) (L : List Ent) {i : Nat} {e : Ent} (h : L[i]? = some e) : ∃ t, (runB R L).body = (runB R (L.take i)).body ++ (rowK (alikeB R (runB R (L.take i)) (keyE e)) (keyE e) e.val ++ t) := by
  have e1 : L = L.take (i + 1) ++ L.drop (i + 1) := (List.take_append_drop _ _).symm
  obtain ⟨t, ht⟩ := runE_body R (L.drop (i + 1)) (runB R (L.take (i + 1)))
  refine ⟨t, ?_⟩
  rw [congrArg (runB R) e1, runB_app, ht, runB_take R L h]
  simp [stepB]
theorem runB_key (R : Nat) : ∀ (L : List Ent) {e : Ent}, L.getLast? = some e → (runB R L).key = keyE e := fun L e h => by
  obtain ⟨l, rfl⟩ : ∃ l, L = l ++ [e] := by
    rcases List.eq_nil_or_concat L with rfl | ⟨l, a, rfl⟩
    · cases h
    · rw [List.concat_eq_append, List.getLast?_append] at h
      simp at h
      exact ⟨l, by rw [List.concat_eq_append, h]⟩
  rw [runB_snoc]; rfl
theorem alike_le (R : Nat) (s : BSt) (k : List UInt8) : alikeB R s k ≤ s.key.length ∧ alikeB R s k ≤ k.length := by
  unfold alikeB
  split
  · exact ⟨Nat.zero_le _, Nat.zero_le _⟩
  · exact shareN_le _ _
theorem alike_key (R : Nat) (s : BSt) (k : List UInt8) : s.key.take (alikeB R s k) ++ k.drop (alikeB R s k) = k := by
  have h : s.key.take (alikeB R s k) = k.take (alikeB R s k) := by
    unfold alikeB
    split
    · simp
    · exact shareN_take _ _
  rw [h, List.take_append_drop]
def lastOk (L : List Ent) (e : Ent) : Bool := match L.getLast? with
  | none => true
  | some l => decide (cmpE l e < 0)
def addC (R : Nat) (L : List Ent) (e : Ent) : Int := if checkE e ≠ 0 then checkE e else if lastOk L e = false then 30 else if 131072 < sizeS (stepB R (runB R L) (keyE e) e.val) then 53 else 0
def addL (R : Nat) (L : List Ent) (e : Ent) : List Ent := if addC R L e = 0 then L ++ [e] else L
def buildK (R : Nat) : List Ent → List Ent → Int × List Ent
  | acc, [] => (0, acc)
  | acc, e :: r => if addC R acc e = 0 then buildK R (acc ++ [e]) r else (addC R acc e, acc)
def finE (R : Nat) (L : List Ent) : List UInt8 × Int := if L = [] then ([], 54) else (layB R L, 0)
def buildE5 (R : Int) (es : List Ent) : List UInt8 × Int := if R < 1 ∨ 16 < R then ([], 1) else if (buildK R.toNat [] es).1 = 0 then finE R.toNat es else ([], (buildK R.toNat [] es).1)
theorem buildK_ok (R : Nat) : ∀ (es acc : List Ent), (buildK R acc es).1 = 0 → (buildK R acc es).2 = acc ++ es
  | [], acc, _ => by simp [buildK]
  | e :: r, acc, h => by
    unfold buildK at h ⊢
    split
    · rename_i h0
      rw [if_pos h0] at h
      rw [buildK_ok R r _ h]; simp
    · rename_i h0
      rw [if_neg h0] at h
      exact absurd h h0
theorem buildK_app (R : Nat) : ∀ (es : List Ent) (acc : List Ent) (r : List Ent), buildK R acc (es ++ r) = if (buildK R acc es).1 = 0 then buildK R (acc ++ es) r else buildK R acc es
  | [], acc, r => by simp [buildK]
  | e :: es, acc, r => by
    show (if addC R acc e = 0 then buildK R (acc ++ [e]) (es ++ r) else (addC R acc e, acc)) = if (if addC R acc e = 0 then buildK R (acc ++ [e]) es else (addC R acc e, acc)).1 = 0 then buildK R (acc ++ e :: es) r else (if addC R acc e = 0 then buildK R (acc ++ [e]) es else (addC R acc e, acc))
    by_cases h0 : addC R acc e = 0
    · simp only [h0, ↓reduceIte]
      rw [buildK_app R es (acc ++ [e]) r]
      simp
    · simp only [h0, ↓reduceIte]
theorem rowK_len (al : Nat) (k v : List UInt8) : 3 ≤ (rowK al k v).length := by
  unfold rowK
  simp only [List.length_append]
  have := uintB_pos al
  have := uintB_pos (k.drop al).length
  have := uintB_pos v.length
  omega
theorem runE_many (R : Nat) : ∀ (l : List Ent) (s : BSt), 3 * s.n ≤ s.body.length → 3 * (runE R s l).n ≤ (runE R s l).body.length
  | [], _, h => h
  | e :: l, s, h => runE_many R l (stepB R s (keyE e) e.val) (by
    have := rowK_len (alikeB R s (keyE e)) (keyE e) e.val
    simp only [stepB, List.length_append]; omega)
theorem runB_many (R : Nat) (l : List Ent) : 3 * (runB R l).n ≤ (runB R l).body.length := runE_many R l bst0 (Nat.le_refl 0)
theorem n_le_size (s : BSt) (h : 3 * s.n ≤ s.body.length) : 3 * s.n ≤ sizeS s := by unfold sizeS; omega
end Go.Proofs.YtmigjipfomfacaaDoor
namespace Go.Proofs.YtmigjipfomfacaaDoor
theorem keyE_pos (e : Ent) : 0 < (keyE e).length := by unfold keyE; simp only [List.length_append, List.length_cons]; omega
theorem cmpB_same (l : List UInt8) : cmpB l l = 0 := by
  induction l with
  | nil => simp [cmpB]
  | cons c l ih => rw [cmpB_cc, if_neg (by omega), if_neg (by omega), ih]
theorem alike_lt {R : Nat} {L : List Ent} {e : Ent} (hL : ∀ l, l ∈ L → checkE l = 0) (he : checkE e = 0) (hl : ¬ lastOk L e = false) : alikeB R (runB R L) (keyE e) < (keyE e).length := by
  have hpos := keyE_pos e
  have hle := (alike_le R (runB R L) (keyE e)).2
  rcases Nat.lt_or_ge (alikeB R (runB R L) (keyE e)) (keyE e).length with h | h
  · exact h
  have heq : alikeB R (runB R L) (keyE e) = (keyE e).length := by omega
  exfalso
  unfold alikeB at heq
  split at heq
  · omega
  · cases hg : L.getLast? with
    | none =>
      obtain rfl := List.getLast?_eq_none_iff.1 hg
      rename_i hn
      exact hn (by show 0 % R = 0; exact Nat.zero_mod R)
    | some l =>
      have hk := runB_key R L hg
      rw [hk] at heq
      have hoe := ok_of he
      have hol := ok_of (hL l (List.mem_of_getLast? hg))
      have ht := shareN_take (keyE l) (keyE e)
      rw [heq] at ht
      have hkk := prefix_free hoe hol _ ht.symm rfl
      have h0 : cmpE l e = 0 := by rw [← key_sorts hol hoe, hkk]; exact cmpB_same _
      apply hl
      unfold lastOk
      rw [hg]
      simp [h0]
end Go.Proofs.YtmigjipfomfacaaDoor
namespace Go.Proofs.YtmigjipfomfacaaDoor
def rd1 (b : List UInt8) (a : Nat) (key : List UInt8) : Option (Ent × List UInt8 × Nat) :=
  if (readU b (a : Nat)).2.2 ≠ 0 ∨ key.length < (readU b (a : Nat)).1 then none
  else if (readBy b (readU b (a : Nat)).2.1 (b.length : Nat)).2.2 ≠ 0 then none
  else if (readBy b (readBy b (readU b (a : Nat)).2.1 (b.length : Nat)).2.1 4096).2.2 ≠ 0 then none
  else if (ParseKeyE (key.take (readU b (a : Nat)).1 ++ (readBy b (readU b (a : Nat)).2.1 (b.length : Nat)).1)).2 ≠ 0 then none
  else some ({ (ParseKeyE (key.take (readU b (a : Nat)).1 ++ (readBy b (readU b (a : Nat)).2.1 (b.length : Nat)).1)).1 with val := (readBy b (readBy b (readU b (a : Nat)).2.1 (b.length : Nat)).2.1 4096).1 },
    key.take (readU b (a : Nat)).1 ++ (readBy b (readU b (a : Nat)).2.1 (b.length : Nat)).1, (readBy b (readBy b (readU b (a : Nat)).2.1 (b.length : Nat)).2.1 4096).2.1)
section
variable {b key k2 v : List UInt8} {a u p1 e1 p2 e2 p3 e3 : Nat} {e : Ent} {f : Int}
theorem rd1_a (h1 : readU b (a : Nat) = (u, p1, e1)) (h : e1 ≠ 0) : rd1 b a key = none := by unfold rd1; rw [h1, if_pos (.inl h)]
theorem rd1_b (h1 : readU b (a : Nat) = (u, p1, e1)) (h : key.length < u) : rd1 b a key = none := by unfold rd1; rw [h1, if_pos (.inr h)]
theorem rd1_go (h1 : readU b (a : Nat) = (u, p1, 0)) (h : u ≤ key.length) (h2 : readBy b p1 (b.length : Nat) = (k2, p2, e2)) : rd1 b a key = if e2 ≠ 0 then none
  else if (readBy b p2 4096).2.2 ≠ 0 then none
  else if (ParseKeyE (key.take u ++ k2)).2 ≠ 0 then none
  else some ({ (ParseKeyE (key.take u ++ k2)).1 with val := (readBy b p2 4096).1 }, key.take u ++ k2, (readBy b p2 4096).2.1) := by
  unfold rd1
  rw [h1]
  simp only [h2]
  rw [if_neg (by omega)]
theorem rd1_c (h1 : readU b (a : Nat) = (u, p1, 0)) (h : u ≤ key.length) (h2 : readBy b p1 (b.length : Nat) = (k2, p2, e2)) (h0 : e2 ≠ 0) : rd1 b a key = none := by rw [rd1_go h1 h h2, if_pos h0]
theorem rd1_d (h1 : readU b (a : Nat) = (u, p1, 0)) (h : u ≤ key.length) (h2 : readBy b p1 (b.length : Nat) = (k2, p2, 0)) (h3 : readBy b p2 4096 = (v, p3, e3)) (h0 : e3 ≠ 0) : rd1 b a key = none := by
  rw [rd1_go h1 h h2, h3, if_neg (by simp), if_pos h0]
theorem rd1_e (h1 : readU b (a : Nat) = (u, p1, 0)) (h : u ≤ key.length) (h2 : readBy b p1 (b.length : Nat) = (k2, p2, 0)) (h3 : readBy b p2 4096 = (v, p3, 0)) (h4 : ParseKeyE (key.take u ++ k2) = (e, f)) (h0 : f ≠ 0) : rd1 b a key = none := by
  rw [rd1_go h1 h h2, h3, h4, if_neg (by simp), if_neg (by simp), if_pos h0]
theorem rd1_ok (h1 : readU b (a : Nat) = (u, p1, 0)) (h : u ≤ key.length) (h2 : readBy b p1 (b.length : Nat) = (k2, p2, 0)) (h3 : readBy b p2 4096 = (v, p3, 0)) (h4 : ParseKeyE (key.take u ++ k2) = (e, 0)) : rd1 b a key = some ({ e with val := v }, key.take u ++ k2, p3) := by
  rw [rd1_go h1 h h2, h3, h4, if_neg (by simp), if_neg (by simp), if_neg (by simp)]
end
def rdF (b : List UInt8) : Nat → Option (List Ent × List UInt8 × Nat)
  | 0 => some ([], [], 0)
  | n + 1 => match rdF b n with
    | none => none
    | some (L, key, a) => match rd1 b a key with
      | none => none
      | some (e, key', a') => some (L ++ [e], key', a')
theorem rdF_none {b : List UInt8} {n m : Nat} (h : rdF b n = none) (hm : n ≤ m) : rdF b m = none := by
  induction m with
  | zero => obtain rfl : n = 0 := by omega
            exact h
  | succ m ih =>
    rcases Nat.lt_or_ge n (m + 1) with h1 | h1
    · show (match rdF b m with | none => none | some (L, key, a) => _) = none
      rw [ih (by omega)]
    · obtain rfl : n = m + 1 := by omega
      exact h
theorem rdF_step {b : List UInt8} {n : Nat} {L : List Ent} {key : List UInt8} {a : Nat} (h : rdF b n = some (L, key, a)) : rdF b (n + 1) = match rd1 b a key with
      | none => none
      | some (e, key', a') => some (L ++ [e], key', a') := by
  show (match rdF b n with | none => none | some (L, key, a) => _) = _
  rw [h]
theorem rdF_stop {b : List UInt8} {n m : Nat} {L : List Ent} {key : List UInt8} {a : Nat} (h : rdF b n = some (L, key, a)) (h1 : rd1 b a key = none) (hm : n < m) : rdF b m = none :=
  rdF_none (n := n + 1) (by rw [rdF_step h, h1]) hm
theorem rdF_go {b : List UInt8} {n : Nat} {L : List Ent} {key : List UInt8} {a : Nat} {e : Ent} {key' : List UInt8} {a' : Nat} (h : rdF b n = some (L, key, a)) (h1 : rd1 b a key = some (e, key', a')) : rdF b (n + 1) = some (L ++ [e], key', a') := by
  rw [rdF_step h, h1]
theorem rdF_len {b : List UInt8} : ∀ {n : Nat} {L : List Ent} {key : List UInt8} {a : Nat}, rdF b n = some (L, key, a) → L.length = n
  | 0, L, key, a, h => by injection h with h; injection h with h1 h; subst h1; rfl
  | n + 1, L, key, a, h => by
    cases h0 : rdF b n with
    | none => rw [rdF_none h0 (by omega)] at h; cases h
    | some r =>
      obtain ⟨L', k', a'⟩ := r
      rw [rdF_step h0] at h
      cases h1 : rd1 b a' k' with
      | none => rw [h1] at h; cases h
      | some r =>
        obtain ⟨e, k'', a''⟩ := r
        rw [h1] at h
        injection h with h; injection h with h2 h
        rw [← h2, List.length_append, rdF_len h0]; rfl
theorem uintB_lt64 {n : Nat} (h : n ≤ 1000000) : n < 18446744073709551616 := by omega
theorem rd1_back {b0 : List UInt8} (R : Nat) (L : List Ent) (t : List UInt8) (i : Nat) (e : Ent) (h : L[i]? = some e) (hok : ∀ l, l ∈ L → checkE l = 0) (hb : b0 = (runB R L).body ++ t) :
    rd1 b0 (runB R (L.take i)).body.length (runB R (L.take i)).key = some (e, keyE e, (runB R (L.take (i + 1))).body.length) := by
  obtain ⟨t', ht⟩ := runB_body R L h
  have he := ok_of (hok e (List.mem_of_getElem? h))
  obtain ⟨s, hs⟩ : ∃ s, s = runB R (L.take i) := ⟨_, rfl⟩
  rw [← hs] at ht ⊢
  have hal := alike_le R s (keyE e)
  have hak := alike_key R s (keyE e)
  obtain ⟨al, hale⟩ : ∃ z, z = alikeB R s (keyE e) := ⟨_, rfl⟩
  rw [← hale] at ht hal hak
  have hkl := keyE_len he
  have hvl := he.val.1
  have hb1 : b0 = s.body ++ (rowK al (keyE e) e.val ++ (t' ++ t)) := by rw [hb, ht]; simp [List.append_assoc]
  have hlen : (((keyE e).drop al).length : Int) ≤ (b0.length : Nat) := by
    rw [hb1]; unfold rowK
    simp only [List.length_append]; omega
  have h1 := row_u s.body (t' ++ t) al (keyE e) e.val (uintB_lt64 (by omega))
  have h2 := row_k s.body (t' ++ t) al (keyE e) e.val (b0.length : Nat) (uintB_lt64 (by rw [List.length_drop]; omega)) hlen
  have h3 := row_v s.body (t' ++ t) al (keyE e) e.val 4096 (uintB_lt64 (by omega)) (by omega)
  rw [← hb1] at h1 h2 h3
  have hP : ParseKeyE (s.key.take al ++ (keyE e).drop al) = ({ e with val := [] }, 0) := by rw [hak]; exact ParseKey_back he
  rw [rd1_ok h1 hal.1 h2 h3 hP, hak]
  have e2 : (runB R (L.take (i + 1))).body.length = s.body.length + (rowK al (keyE e) e.val).length := by
    rw [runB_take R L h, ← hs, hale]; show (s.body ++ _).length = _; rw [List.length_append]
  rw [e2]
theorem rdF_back (R : Nat) (L : List Ent) (t : List UInt8) (hok : ∀ l, l ∈ L → checkE l = 0) {b0 : List UInt8} (hb : b0 = (runB R L).body ++ t) : ∀ i, i ≤ L.length → rdF b0 i = some (L.take i, (runB R (L.take i)).key, (runB R (L.take i)).body.length)
  | 0, _ => rfl
  | i + 1, hi => by
    have h0 := rdF_back R L t hok hb i (by omega)
    have hk : L[i]? = some (L[i]'(by omega)) := List.getElem?_eq_getElem _
    have h1 := rd1_back R L t i _ hk hok hb
    rw [rdF_go h0 h1, take_snoc hk]
    rw [runB_snoc]; rfl
def OpenOk (b : List UInt8) (L : List Ent) : Prop := ∃ R : Nat, 1 ≤ R ∧ R ≤ 16 ∧ buildE5 (R : Int) L = (b, 0)
theorem buildK_checked (R : Nat) : ∀ (es acc : List Ent), (∀ l, l ∈ acc → checkE l = 0) → (buildK R acc es).1 = 0 → ∀ l, l ∈ acc ++ es → checkE l = 0
  | [], acc, ha, _ => by simpa using ha
  | e :: r, acc, ha, h => by
    unfold buildK at h
    split at h
    · rename_i h0
      have hc : checkE e = 0 := by
        unfold addC at h0
        split at h0
        · rename_i h1; exact absurd h0 h1
        · rename_i h1; exact Decidable.not_not.1 h1
      have := buildK_checked R r (acc ++ [e]) (fun l hl => by
        rcases List.mem_append.1 hl with h1 | h1
        · exact ha l h1
        · rw [List.mem_singleton.1 h1]; exact hc) h
      rw [List.append_assoc] at this
      exact this
    · rename_i h0; exact absurd h h0
theorem build_parts {R : Nat} {L : List Ent} {b : List UInt8} (h : buildE5 (R : Int) L = (b, 0)) : 1 ≤ R ∧ R ≤ 16 ∧ (buildK R [] L).1 = 0 ∧ L ≠ [] ∧ b = layS R (runB R L) ∧ ∀ l, l ∈ L → checkE l = 0 := by
  unfold buildE5 at h
  split at h
  · injection h with _ h; cases h
  · rename_i hR
    rw [Int.toNat_natCast] at h
    split at h
    · rename_i h0
      unfold finE at h
      split at h
      · injection h with _ h; cases h
      · rename_i hL
        injection h with h _
        refine ⟨by omega, by omega, h0, hL, ?_, ?_⟩
        · rw [← h]; unfold layB; rw [if_neg hL]
        · have := buildK_checked R L [] (fun l h => by cases h) h0
          simpa using this
    · rename_i h0; injection h with _ h; exact absurd h h0
theorem layS_foot (R : Nat) (s : BSt) : layS R s = s.body ++ (s.places.flatMap four4 ++ (four4 s.n ++ (UInt8.ofNat R :: lowB (sumL (headB5 R s))))) := by
  unfold layS headB5; simp [List.append_assoc]
end Go.Proofs.YtmigjipfomfacaaDoor
namespace Go.Proofs.YtmigjipfomfacaaDoor
def resB (b : List UInt8) : Nat := (b[b.length - 5]?.getD 0).toNat
def cntB (b : List UInt8) : Nat := numF b (b.length - 9)
def sumOkB (b : List UInt8) : Bool := lowB (sumL (b.take (b.length - 4))) == b.drop (b.length - 4)
def openR (b : List UInt8) : Option (List Ent × List UInt8 × Nat) → Option (List Ent) × Int
  | none => (none, 51)
  | some r => if buildE5 (resB b : Int) r.1 = (b, 0) then (some r.1, 0) else (none, 51)
def openE (b : List UInt8) : Option (List Ent) × Int :=
  if 131072 < b.length then (none, 2) else if b.length < 9 then (none, 51) else if sumOkB b = false then (none, 52) else openR b (rdF (b.take (b.length - 9)) (cntB b))
theorem buildK_size (R : Nat) : ∀ (es acc : List Ent), sizeS (runB R acc) ≤ 131072 → (buildK R acc es).1 = 0 → sizeS (runB R (acc ++ es)) ≤ 131072
  | [], acc, ha, _ => by simpa using ha
  | e :: r, acc, ha, h => by
    unfold buildK at h
    split at h
    · rename_i h0
      have := buildK_size R r (acc ++ [e]) (by
        rw [runB_snoc]
        unfold addC at h0
        split at h0
        · rename_i h1; exact absurd h0 h1
        · split at h0
          · cases h0
          · split at h0
            · cases h0
            · rename_i h1; exact Nat.le_of_not_lt h1) h
      rwa [List.append_assoc] at this
    · rename_i h0; exact absurd h h0
theorem numF_four (p r : List UInt8) {n k : Nat} (h : n < 4294967296) (hk : k = p.length) : numF (p ++ (four4 n ++ r)) k = n := by
  subst hk
  have e : ∀ j, (p ++ (four4 n ++ r))[p.length + j]? = (four4 n ++ r)[j]? := fun j => by rw [List.getElem?_append_right (by omega), Nat.add_sub_cancel_left]
  unfold numF
  have e0 := e 0
  rw [Nat.add_zero] at e0
  rw [e0, e 1, e 2, e 3]
  unfold four4 numB
  simp only [List.cons_append, List.nil_append, List.getElem?_cons_succ, List.getElem?_cons_zero, Option.getD_some, UInt8.toNat_ofNat']
  omega
theorem layS_len9 (R : Nat) (s : BSt) : (layS R s).length = s.body.length + (s.places.flatMap four4).length + 9 := by rw [layS_len]; unfold sizeS; rw [places_len]
theorem res_lay (R : Nat) (s : BSt) (h : R < 256) : resB (layS R s) = R := by
  unfold resB
  rw [layS_len9, layS_foot, ← List.append_assoc, ← List.append_assoc, List.getElem?_append_right (by simp only [List.length_append, four4_len]; omega)]
  rw [show s.body.length + (s.places.flatMap four4).length + 9 - 5 - (s.body ++ s.places.flatMap four4 ++ four4 s.n).length = 0 from by simp only [List.length_append, four4_len]; omega]
  show (UInt8.ofNat R).toNat = R
  rw [UInt8.toNat_ofNat']; omega
theorem cnt_lay (R : Nat) (s : BSt) (h : s.n < 4294967296) : cntB (layS R s) = s.n := by
  unfold cntB
  rw [layS_len9, layS_foot, ← List.append_assoc]
  exact numF_four _ _ h (by rw [List.length_append]; omega)
theorem sum_lay (R : Nat) (s : BSt) : sumOkB (layS R s) = true := by
  have hl : (layS R s).length - 4 = (headB5 R s).length := by unfold layS; rw [List.length_append, lowB_len]; omega
  unfold sumOkB
  rw [hl]
  unfold layS
  rw [List.take_left' rfl, List.drop_left' rfl]
  simp
theorem body_lay (R : Nat) (s : BSt) : (layS R s).take ((layS R s).length - 9) = s.body ++ s.places.flatMap four4 := by
  rw [layS_len9, layS_foot, ← List.append_assoc]
  exact List.take_left' (by rw [List.length_append]; omega)
theorem openE_lay {R : Nat} {L : List Ent} {b : List UInt8} (h : buildE5 (R : Int) L = (b, 0)) : openE b = (some L, 0) ∧ resB b = R := by
  obtain ⟨h1, h2, h3, h4, h5, h6⟩ := build_parts h
  have hsz : sizeS (runB R L) ≤ 131072 := by
    have := buildK_size R L [] (by show 9 ≤ 131072; decide) h3
    simpa using this
  have hn := runB_n R L
  have hm := n_le_size _ (runB_many R L)
  have hR : resB b = R := by rw [h5]; exact res_lay R _ (by omega)
  refine ⟨?_, hR⟩
  have hlen : b.length = sizeS (runB R L) := by rw [h5, layS_len]
  have h9 : 9 ≤ sizeS (runB R L) := by unfold sizeS; omega
  unfold openE
  rw [if_neg (by omega), if_neg (by omega), if_neg (by rw [h5, sum_lay]; decide)]
  have hc : cntB b = L.length := by rw [h5, cnt_lay R _ (by omega), hn]
  have hb : b.take (b.length - 9) = (runB R L).body ++ (runB R L).places.flatMap four4 := by rw [h5]; exact body_lay R _
  rw [hc, rdF_back R L _ h6 hb L.length (Nat.le_refl _), List.take_length]
  unfold openR
  simp only []
  rw [hR, if_pos h]
theorem openE_ok {b : List UInt8} {L : List Ent} (h : (openE b).1 = some L) : buildE5 (resB b : Int) L = (b, 0) ∧ (openE b).2 = 0 := by
  unfold openE at h ⊢
  split at h
  · cases h
  · split at h
    · cases h
    · split at h
      · cases h
      · rename_i h1 h2 h3
        rw [if_neg h1, if_neg h2, if_neg h3]
        cases hr : rdF (b.take (b.length - 9)) (cntB b) with
        | none => rw [hr] at h; cases h
        | some r =>
          rw [hr] at h
          unfold openR at h ⊢
          simp only [] at h ⊢
          split at h
          · rename_i h4
            injection h with h
            subst h
            rw [if_pos h4]
            exact ⟨h4, rfl⟩
          · cases h
theorem openE_no {b : List UInt8} (h : (openE b).1 = none) : (openE b).2 ≠ 0 := by
  unfold openE at h ⊢
  by_cases h1 : 131072 < b.length
  · rw [if_pos h1]; show (2 : Int) ≠ 0; decide
  rw [if_neg h1] at h ⊢
  by_cases h2 : b.length < 9
  · rw [if_pos h2]; show (51 : Int) ≠ 0; decide
  rw [if_neg h2] at h ⊢
  by_cases h3 : sumOkB b = false
  · rw [if_pos h3]; show (52 : Int) ≠ 0; decide
  rw [if_neg h3] at h ⊢
  cases hr : rdF (b.take (b.length - 9)) (cntB b) with
  | none => show ((51 : Int)) ≠ 0; decide
  | some r =>
    rw [hr] at h
    unfold openR at h ⊢
    simp only [] at h ⊢
    split at h
    · cases h
    · rename_i h4
      rw [if_neg h4]; show (51 : Int) ≠ 0; decide
end Go.Proofs.YtmigjipfomfacaaDoor
namespace Go.Proofs.YtmigjipfomfacaaDoor
def seekN (ks : List (List UInt8)) (key : List UInt8) : Nat := (ks.takeWhile fun k => decide (cmpB k key < 0)).length
def seekL (L : List Ent) (key : List UInt8) : Nat := seekN (L.map keyE) key
theorem seekN_le (ks : List (List UInt8)) (key : List UInt8) : seekN ks key ≤ ks.length := by
  unfold seekN; exact (List.takeWhile_sublist _).length_le
def Asc (ks : List (List UInt8)) : Prop := ks.Pairwise fun a b => cmpB a b < 0
theorem cmpB_lt_trans {a b c : List UInt8} (h1 : cmpB a b < 0) (h2 : cmpB b c < 0) : cmpB a c < 0 := by
  have h3 := cmpB_trans a b c (by omega) (by omega)
  rcases Int.lt_or_eq_of_le h3 with h | h
  · exact h
  · have e := cmpB_zero _ _ h
    subst e
    have := cmpB_swap a b
    omega
theorem seekN_iff : ∀ {ks : List (List UInt8)} (_ : Asc ks) {key : List UInt8} {i : Nat} {k : List UInt8}, ks[i]? = some k → (cmpB k key < 0 ↔ i < seekN ks key)
  | [], _, _, _, _, h => by cases h
  | a :: ks, hA, key, i, k, h => by
    obtain ⟨h1, h2⟩ := List.pairwise_cons.1 hA
    unfold seekN
    rw [List.takeWhile_cons]
    by_cases ha : cmpB a key < 0
    · rw [if_pos (by simpa using ha)]
      cases i with
      | zero => injection h with h; subst h; simp [ha]
      | succ i =>
        have := seekN_iff h2 (key := key) (i := i) h
        unfold seekN at this
        rw [this, List.length_cons]; omega
    · rw [if_neg (by simpa using ha)]
      cases i with
      | zero => injection h with h; subst h; simp [ha]
      | succ i =>
        constructor
        · intro h3
          exact absurd (cmpB_lt_trans (h1 k (List.mem_of_getElem? h)) h3) ha
        · intro h3; exact absurd h3 (Nat.not_lt_zero _)
theorem buildK_asc (R : Nat) : ∀ (es acc : List Ent), (∀ l, l ∈ acc → checkE l = 0) → Asc (acc.map keyE) → (buildK R acc es).1 = 0 → Asc ((acc ++ es).map keyE)
  | [], acc, _, ha, _ => by simpa using ha
  | e :: r, acc, hc, ha, h => by
    unfold buildK at h
    split at h
    · rename_i h0
      have h1 : checkE e = 0 := by
        unfold addC at h0
        split at h0
        · rename_i h1; exact absurd h0 h1
        · rename_i h1; exact Decidable.not_not.1 h1
      have h2 : lastOk acc e = true := by
        unfold addC at h0
        rw [if_neg (by rw [h1]; decide)] at h0
        split at h0
        · cases h0
        · rename_i h3; simpa using h3
      have hall : ∀ l, l ∈ acc ++ [e] → checkE l = 0 := fun l hl => by
        rcases List.mem_append.1 hl with h3 | h3
        · exact hc l h3
        · rw [List.mem_singleton.1 h3]; exact h1
      have h3 : Asc ((acc ++ [e]).map keyE) := by
        unfold Asc
        rw [List.map_append]
        refine List.pairwise_append.2 ⟨ha, List.pairwise_singleton _ _, fun a ha' b hb => ?_⟩
        obtain rfl := List.mem_singleton.1 hb
        rcases List.eq_nil_or_concat acc with h4 | ⟨l, z, h4⟩
        · subst h4; cases ha'
        · rw [List.concat_eq_append] at h4
          subst h4
          have h5 : cmpE z e < 0 := by
            unfold lastOk at h2
            rw [List.getLast?_append] at h2
            simpa using h2
          have h6 : cmpB (keyE z) (keyE e) < 0 := by rw [key_sorts (ok_of (hc z (by simp))) (ok_of h1)]; exact h5
          rw [List.map_append] at ha ha'
          rcases List.mem_append.1 ha' with h7 | h7
          · exact cmpB_lt_trans ((List.pairwise_append.1 ha).2.2 a h7 (keyE z) (by simp)) h6
          · have h7 : a ∈ [keyE z] := h7
            rw [List.mem_singleton.1 h7]; exact h6
      have := buildK_asc R r (acc ++ [e]) hall h3 h
      rwa [List.append_assoc] at this
    · rename_i h0; exact absurd h h0
theorem build_asc {R : Nat} {L : List Ent} {b : List UInt8} (h : buildE5 (R : Int) L = (b, 0)) : Asc (L.map keyE) := by
  obtain ⟨_, _, h3, _⟩ := build_parts h
  have := buildK_asc R L [] (fun l h => by cases h) List.Pairwise.nil h3
  simpa using this
def resN (n R : Nat) : Nat := (n + R - 1) / R
theorem resN_pos {n R : Nat} (hn : 0 < n) (hR : 1 ≤ R) : 1 ≤ resN n R := by
  unfold resN
  exact (Nat.le_div_iff_mul_le (by omega)).2 (by omega)
theorem resN_lt {n R k : Nat} (hR : 1 ≤ R) (h : k < resN n R) : k * R < n := by
  unfold resN at h
  have h1 : (k + 1) * R ≤ n + R - 1 := (Nat.le_div_iff_mul_le (by omega)).1 h
  rw [Nat.succ_mul] at h1
  omega
theorem resN_le {n R : Nat} (hR : 1 ≤ R) : resN n R ≤ n := by
  unfold resN
  rcases Nat.eq_zero_or_pos n with h | h
  · subst h; rw [Nat.div_eq_of_lt (by omega)]
    exact Nat.le_refl 0
  · refine Nat.le_of_lt_succ ((Nat.div_lt_iff_lt_mul (by omega)).2 ?_)
    have h1 : n * 1 ≤ n * R := Nat.mul_le_mul_left n hR
    rw [Nat.succ_mul]
    omega
end Go.Proofs.YtmigjipfomfacaaDoor
namespace Go.Proofs.YtmigjipfomfacaaDoor
def twN {α : Type} (p : α → Bool) (l : List α) : Nat := (l.takeWhile p).length
theorem twN_le {α : Type} (p : α → Bool) (l : List α) : twN p l ≤ l.length := (List.takeWhile_sublist _).length_le
theorem tw_iff {α : Type} {p : α → Bool} : ∀ {l : List α} {j : Nat} {x : α}, l[j]? = some x → j ≤ twN p l → (p x = true ↔ j < twN p l)
  | [], _, _, h, _ => by cases h
  | a :: l, j, x, h, hj => by
    unfold twN at hj ⊢
    rw [List.takeWhile_cons] at hj ⊢
    by_cases ha : p a = true
    · rw [if_pos ha] at hj ⊢
      cases j with
      | zero => injection h with h; subst h; simp [ha]
      | succ j =>
        have := tw_iff (p := p) (l := l) (j := j) (x := x) h (by unfold twN; simpa using hj)
        unfold twN at this
        rw [this, List.length_cons]; omega
    · rw [if_neg ha] at hj ⊢
      have hj : j ≤ 0 := hj
      obtain rfl : j = 0 := by omega
      injection h with h; subst h
      simp [ha]
def insN (m : List Ent) (e : Ent) : Nat := twN (fun x => decide (cmpE x e < 0)) m
def hitB (m : List Ent) (e : Ent) : Bool := match m[insN m e]? with
  | none => false
  | some x => cmpE x e == 0
def insE (m : List Ent) (e : Ent) : List Ent := if hitB m e = true then m else m.take (insN m e) ++ e :: m.drop (insN m e)
def sortStep (m : List Ent) (e : Ent) : List Ent := if checkE e ≠ 0 then m else insE m e
def sortL (es : List Ent) : List Ent := es.foldl sortStep []
theorem sortL_snoc (es : List Ent) (e : Ent) : sortL (es ++ [e]) = sortStep (sortL es) e := by unfold sortL; rw [List.foldl_append]; rfl
theorem ins_len (m : List Ent) (e : Ent) : (insE m e).length ≤ m.length + 1 := by
  unfold insE
  split
  · omega
  · rw [List.length_append, List.length_cons, List.length_take, List.length_drop]; omega
def AscE (m : List Ent) : Prop := m.Pairwise fun a b => cmpE a b < 0
theorem cmpE_lt_trans {a b c : Ent} (h1 : cmpE a b < 0) (h2 : cmpE b c < 0) : cmpE a c < 0 := by
  have h3 := ord_E.trans a b c (by omega) (by omega)
  rcases Int.lt_or_eq_of_le h3 with h | h
  · exact h
  · have h4 := ord_E.swap a c
    have h5 := ord_E.trans b c a (by omega) (by omega)
    have h6 := ord_E.swap b a
    omega
theorem ins_asc {m : List Ent} (hm : AscE m) (e : Ent) : AscE (insE m e) := by
  unfold insE
  split
  · exact hm
  · rename_i hh
    have e1 : m = m.take (insN m e) ++ m.drop (insN m e) := (List.take_append_drop _ _).symm
    have hp : (m.take (insN m e) ++ m.drop (insN m e)).Pairwise fun a b => cmpE a b < 0 := by rw [← e1]; exact hm
    obtain ⟨p1, p2, p3⟩ := List.pairwise_append.1 hp
    have hlow : ∀ x, x ∈ m.take (insN m e) → cmpE x e < 0 := fun x hx => by
      obtain ⟨j, hj⟩ := List.getElem?_of_mem hx
      have hlt : j < insN m e := by
        have := (List.getElem?_eq_some_iff.1 hj).1
        rw [List.length_take] at this; omega
      rw [List.getElem?_take_of_lt hlt] at hj
      have := (tw_iff (p := fun x => decide (cmpE x e < 0)) hj (Nat.le_of_lt hlt)).2 hlt
      simpa using this
    have hhigh : ∀ x, x ∈ m.drop (insN m e) → cmpE e x < 0 := fun x hx => by
      have hfirst : ∀ y, m[insN m e]? = some y → cmpE e y < 0 := fun y hy => by
        have h1 := tw_iff (p := fun x => decide (cmpE x e < 0)) hy (Nat.le_refl (insN m e))
        have h2 : ¬ cmpE y e < 0 := fun h => Nat.lt_irrefl _ (h1.1 (by simpa using h))
        have h3 : cmpE y e ≠ 0 := fun h => hh (by unfold hitB; rw [hy]; simp [h])
        have := ord_E.swap y e
        omega
      obtain ⟨j, hj⟩ := List.getElem?_of_mem hx
      rw [List.getElem?_drop] at hj
      obtain ⟨y, hy⟩ : ∃ y, m[insN m e]? = some y := ⟨_, List.getElem?_eq_getElem (by have := (List.getElem?_eq_some_iff.1 hj).1; omega)⟩
      rcases Nat.eq_zero_or_pos j with h0 | h0
      · subst h0
        rw [Nat.add_zero, hy] at hj
        injection hj with hj; subst hj
        exact hfirst _ hy
      · obtain ⟨h1, g1⟩ := List.getElem?_eq_some_iff.1 hy
        obtain ⟨h2, g2⟩ := List.getElem?_eq_some_iff.1 hj
        have h3 : cmpE y x < 0 := by
          have := List.pairwise_iff_getElem.1 hm (insN m e) (insN m e + j) h1 h2 (by omega)
          rw [g1, g2] at this
          exact this
        exact cmpE_lt_trans (hfirst y hy) h3
    refine List.pairwise_append.2 ⟨p1, List.pairwise_cons.2 ⟨hhigh, p2⟩, fun a ha b hb => ?_⟩
    rcases List.mem_cons.1 hb with rfl | hb
    · exact hlow a ha
    · exact p3 a ha b hb
structure SortOk (m : List Ent) : Prop where
  asc : AscE m
  chk : ∀ e, e ∈ m → checkE e = 0
theorem sort_ok : ∀ es : List Ent, SortOk (sortL es) := fun es => by
  have h : ∀ (es m : List Ent), SortOk m → SortOk (es.foldl sortStep m) := by
    intro es
    induction es with
    | nil => intro m h; exact h
    | cons e es ih =>
      intro m h
      refine ih _ ?_
      unfold sortStep
      split
      · exact h
      · rename_i hc
        refine ⟨ins_asc h.asc e, fun x hx => ?_⟩
        unfold insE at hx
        split at hx
        · exact h.chk x hx
        · rcases List.mem_append.1 hx with h1 | h1
          · exact h.chk x (List.mem_of_mem_take h1)
          · rcases List.mem_cons.1 h1 with rfl | h1
            · exact Decidable.not_not.1 hc
            · exact h.chk x (List.mem_of_mem_drop h1)
  exact h es [] ⟨List.Pairwise.nil, fun e h => by cases h⟩
end Go.Proofs.YtmigjipfomfacaaDoor
namespace Go.Proofs.YtmigjipfomfacaaDoor
open Go.RowKit
theorem rdU_cut : ∀ (f i V a k : Nat), i + f = 9 → V * 2 ^ (7 * i) < 18446744073709551616 → k < (uintB V).length → rdU ((uintB V).take k) i a = (0, 0, 10) := by
  intro f
  induction f with
  | zero =>
    intro i V a k hi hV hk
    obtain rfl : i = 9 := by omega
    have hV1 : V ≤ 1 := by
      have : (2 : Nat) ^ (7 * 9) = 9223372036854775808 := by decide
      rw [this] at hV
      omega
    rw [uintB_lt (by omega)] at hk ⊢
    obtain rfl : k = 0 := by simpa using hk
    rfl
  | succ f ih =>
    intro i V a k hi hV hk
    by_cases h : V < 128
    · rw [uintB_lt h] at hk ⊢
      obtain rfl : k = 0 := by simpa using hk
      rfl
    · rw [uintB_ge (by omega)] at hk ⊢
      match k, hk with
      | 0, _ => rfl
      | k + 1, hk =>
        rw [List.take_succ_cons]
        have e : (UInt8.ofNat (V % 128 + 128)).toNat = V % 128 + 128 := by rw [UInt8.toNat_ofNat', Nat.mod_eq_of_lt (by omega)]
        have e2 : V / 128 * 2 ^ (7 * (i + 1)) + V % 128 * 2 ^ (7 * i) = V * 2 ^ (7 * i) := by
          rw [show 7 * (i + 1) = 7 * i + 7 from by omega, Nat.pow_add, Nat.mul_comm (2 ^ (7 * i)), ← Nat.mul_assoc, ← Nat.add_mul, show (2 : Nat) ^ 7 = 128 from rfl, Nat.div_add_mod']
        rw [rdU, e, if_neg (by omega), if_neg (by omega)]
        exact ih (i + 1) (V / 128) _ k (by omega) (by omega) (by simpa using hk)
theorem readU_cut (v k : Nat) (hv : v < 18446744073709551616) (hk : k < (uintB v).length) : readU ((uintB v).take k) 0 = (0, 0, 10) := by
  have h0 : rdU (((uintB v).take k).drop (Int.toNat 0)) 0 0 = (0, 0, 10) := rdU_cut 9 0 v 0 k rfl (by simpa using hv) hk
  unfold readU
  rw [if_neg (by omega), h0]
  rfl
theorem readBy_cut (s : List UInt8) (k : Nat) (hs : s.length < 18446744073709551616) (hk : k < (uintB s.length ++ s).length) : readBy ((uintB s.length ++ s).take k) 0 (s.length : Int) = ([], 0, 10) := by
  rw [List.length_append] at hk
  unfold readBy
  rw [if_neg (by omega)]
  by_cases h : k < (uintB s.length).length
  · have e : (uintB s.length ++ s).take k = (uintB s.length).take k := List.take_append_of_le_length (by omega)
    rw [e, readU_cut _ _ hs h, if_pos (by decide)]
  · obtain ⟨j, rfl⟩ : ∃ j, k = (uintB s.length).length + j := ⟨k - (uintB s.length).length, by omega⟩
    have e : (uintB s.length ++ s).take ((uintB s.length).length + j) = uintB s.length ++ s.take j := List.take_length_add_append j
    have h1 := readU_back [] (s.take j) s.length hs
    rw [List.nil_append] at h1
    have h2 : readU (uintB s.length ++ s.take j) 0 = (s.length, (uintB s.length).length, 0) := by
      rw [show (0 : Int) = ((([] : List UInt8).length : Nat) : Int) from rfl, h1]; simp
    rw [e, h2, if_neg (by simp), if_neg (by show ¬ ((s.length : Int) < (s.length : Int)); omega), if_pos (by
      show (uintB s.length ++ s.take j).length - (uintB s.length).length < s.length
      rw [List.length_append, List.length_take]; omega)]
theorem cutF_mid (a b c : List UInt8) {k m : Nat} (hk : k = a.length) (hm : m = b.length) : cutF (a ++ b ++ c) k m = b := by
  subst hk; subst hm
  unfold cutF
  rw [List.append_assoc, List.drop_left' rfl, List.take_left' rfl]
theorem cutF_take (X : List UInt8) {j m k : Nat} (h : j + m ≤ k) : cutF (X.take k) j m = cutF X j m := by
  unfold cutF
  rw [List.drop_take, List.take_take, Nat.min_eq_left (by omega)]
theorem numF_cut (X : List UInt8) (k : Nat) : numF X k = numF (cutF X k 4) 0 := by
  unfold numF cutF
  simp [List.getElem?_drop]
theorem numF_be4 (n : Nat) (h : n < 4294967296) : numF (be4 n) 0 = n := by
  unfold numF be4 numB
  simp
  omega
theorem frame_parts (p s r : List UInt8) : (p ++ frameB s ++ r = p ++ be4 s.length ++ (lowB (sumL (be4 s.length)) ++ s ++ lowB (sumL s) ++ r))
    ∧ (p ++ frameB s ++ r = (p ++ be4 s.length) ++ lowB (sumL (be4 s.length)) ++ (s ++ lowB (sumL s) ++ r))
    ∧ (p ++ frameB s ++ r = (p ++ be4 s.length ++ lowB (sumL (be4 s.length))) ++ s ++ (lowB (sumL s) ++ r))
    ∧ (p ++ frameB s ++ r = (p ++ be4 s.length ++ lowB (sumL (be4 s.length)) ++ s) ++ lowB (sumL s) ++ r) := by
  unfold frameB headF
  refine ⟨?_, ?_, ?_, ?_⟩ <;> simp
theorem readF_back (p s r : List UInt8) (hs : s.length ≤ 1048576) : readF (p ++ frameB s ++ r) p.length = (s, p.length + (s.length + 12), 0) := by
  obtain ⟨q1, q2, q3, q4⟩ := frame_parts p s r
  have c1 : cutF (p ++ frameB s ++ r) p.length 4 = be4 s.length := by rw [q1]; exact cutF_mid _ _ _ rfl rfl
  have c2 : cutF (p ++ frameB s ++ r) (p.length + 4) 4 = lowB (sumL (be4 s.length)) := by rw [q2]; exact cutF_mid _ _ _ (by rw [List.length_append]; rfl) rfl
  have c3 : cutF (p ++ frameB s ++ r) (p.length + 8) s.length = s := by rw [q3]; exact cutF_mid _ _ _ (by rw [List.length_append, List.length_append]; rfl) rfl
  have c4 : cutF (p ++ frameB s ++ r) (p.length + 8 + s.length) 4 = lowB (sumL s) := by rw [q4]; exact cutF_mid _ _ _ (by rw [List.length_append, List.length_append, List.length_append]; rfl) rfl
  have hn : numF (p ++ frameB s ++ r) p.length = s.length := by rw [numF_cut, c1, numF_be4 _ (by omega)]
  have hl : (p ++ frameB s ++ r).length = p.length + (s.length + 12) + r.length := by rw [List.length_append, List.length_append, frameB_length]
  have b2 : ∀ k u, isB (p ++ frameB s ++ r) k u = (cutF (p ++ frameB s ++ r) k 4 == lowB u) := fun _ _ => rfl
  unfold readF
  rw [b2, b2, hn, c1, c2, c3, c4, hl, if_neg (by omega), if_neg (by simp), if_neg (by omega), if_neg (by omega), if_neg (by simp)]
  simp only [Prod.mk.injEq, true_and, and_true]
  omega
theorem readFA_back (p s r : List UInt8) (hs : s.length ≤ 1048576) : readFA (p ++ frameB s ++ r) (p.length : Int) = (s, p.length + (frameB s).length, 0) := by
  unfold readFA
  rw [if_neg (by simp only [List.length_append]; omega), Int.toNat_natCast, readF_back p s r hs, frameB_length]
theorem readFA_cut (s : List UInt8) (k : Nat) (hs : s.length ≤ 1048576) (hk : k < (frameB s).length) : readFA ((frameB s).take k) 0 = ([], 0, 10) := by
  rw [frameB_length] at hk
  unfold readFA
  rw [if_neg (by omega)]
  show readF ((frameB s).take k) 0 = _
  have hl : ((frameB s).take k).length = k := by rw [List.length_take, frameB_length]; omega
  unfold readF
  by_cases h8 : k < 8
  · rw [if_pos (by omega)]
  obtain ⟨q1, q2, _, _⟩ := frame_parts [] s []
  rw [List.append_nil, List.nil_append, List.nil_append] at q1
  rw [List.append_nil, List.nil_append, List.nil_append] at q2
  have c1 : cutF ((frameB s).take k) 0 4 = be4 s.length := by rw [cutF_take _ (by omega), q1]; exact cutF_mid [] _ _ rfl rfl
  have c2 : cutF ((frameB s).take k) (0 + 4) 4 = lowB (sumL (be4 s.length)) := by rw [cutF_take _ (by omega), q2]; exact cutF_mid _ _ _ rfl rfl
  have hn : numF ((frameB s).take k) 0 = s.length := by rw [numF_cut, c1, numF_be4 _ (by omega)]
  have b2 : ∀ j u, isB ((frameB s).take k) j u = (cutF ((frameB s).take k) j 4 == lowB u) := fun _ _ => rfl
  rw [b2, b2, hn, c1, c2, hl, if_neg (by omega), if_neg (by simp), if_neg (by omega), if_pos (by omega)]
end Go.Proofs.YtmigjipfomfacaaDoor
namespace Go.Proofs.YtmigjipfomfacaaDoor
open Go.RowKit
set_option maxRecDepth 100000 in
set_option maxHeartbeats 1000000 in
theorem sealed_any (l : List UInt8) (A : Option Addr) (n c : Nat) (w : World) (hs : Sl w A n c l) :
    Calls Tryd.prog 89 #[.slice A n c] w (BytesPost 5 (lowB (sumL l)) w) := by
  have f1 : Hid (∀ x : List UInt8, [x].flatten = x) := Lib.hid fun x => by simp
  have HS := Lib.hid hs
  obtain ⟨s, hsl⟩ : ∃ s, s = sumL l := ⟨_, rfl⟩
  have HSL := Lib.hid hsl
  have hs32 : s < 4294967296 := by rw [hsl]; exact sumL_lt l
  have hL : Hid (u8s (lowB s) = [.int .u8 ((s : Int) % 256), .int .u8 ((s : Int) / 256 % 256), .int .u8 ((s : Int) / 65536 % 256), .int .u8 ((s : Int) / 16777216)]) := Lib.hid (by
    show [u8v _, u8v _, u8v _, u8v _] = _
    rw [u8v_mod, u8v_mod, u8v_mod, u8v_mod]; simp only [Int.natCast_ediv]; rw [show ((s : Int) / ((16777216 : Nat) : Int) % 256) = (s : Int) / 16777216 from by omega]; rfl)
  rw [← hsl]
  clear hs hsl
  go_enter Tryd.func89, Tryd.ntmps89
  go_wp2_with (go_at_call 99; go_must (refine (rSum_any [l] _ 1 1 _ (by omega) (by exact HS.out.one _ _)).mono ?_); rintro e w1 ⟨rfl, rfl⟩; rw [f1.out, ← HSL.out])
  go_ret
  refine ⟨_, _, rfl, ?_, (((Below.refl _ _).alloc (Nat.le_refl _) _).alloc (by simp) _)⟩
  show World.ownsRow _ _ _ _ _ _ _
  rw [hL.out]
  have h := own_lit (w.alloc (.cells #[.slice A n c] 24)) #[.int .u8 ((s : Int) % 256), .int .u8 ((s : Int) / 256 % 256), .int .u8 ((s : Int) / 65536 % 256), .int .u8 ((s : Int) / 16777216)] 5 w.heap.size 4 1 (by simp) (by decide) rfl
  rw [World.size_alloc] at h
  exact h
theorem own_base {T : TypeId} {b b' : Nat} {w : World} {A : Option Addr} {c : Nat} {l : List UInt8} (h : OwnB T b w A c l) (hb : b' ≤ b) : OwnB T b' w A c l := by
  refine ⟨h.1, ?_⟩
  rcases h.2 with h | ⟨g, cap, cur, hv, hg, h⟩
  · exact .inl h
  · exact .inr ⟨g, cap, cur, hv, Nat.le_trans hb hg, h⟩
theorem ris_drop (n : Nat) (_h : n < 4294967296) : (risB n).drop 4 = be4 n := by
  simp [risB, rTo, List.range_succ, be4]
theorem be4_cutS (n : Nat) : cutS (be4 n) 0 (4 - 0) = be4 n := rfl
theorem isB_same (l : List UInt8) (k s : Nat) : (lowB s == cutF l k 4) = isB l k s := by
  unfold isB cutF
  rw [Bool.eq_iff_iff, beq_iff_eq, beq_iff_eq]
  exact ⟨Eq.symm, Eq.symm⟩
theorem big_four (l : List UInt8) (k : Nat) (h : k + 4 ≤ l.length) : big (cutS l k 4) = numF l k := by
  unfold cutS numF numB
  obtain ⟨t, ht⟩ : ∃ t, t = l.drop k := ⟨_, rfl⟩
  have hl : 4 ≤ t.length := by rw [ht, List.length_drop]; omega
  have e : ∀ j, l[k + j]? = t[j]? := fun j => by rw [ht, List.getElem?_drop]
  rw [← ht, show l[k]? = t[0]? from e 0, e 1, e 2, e 3]
  match t, hl with
  | a :: b :: c :: d :: r, _ => simp [big]
theorem cut_sl {w : World} {A : Option Addr} {n c k m : Nat} {l : List UInt8} (h : Sl w A n c l) (h1 : k + m ≤ n) (hk : k < c) : Sl w (A.map (·.add k)) m (c - k) (cutF l k m) :=
  (h.drop (k := k) (by omega) hk).take (m := m) (by omega)
end Go.Proofs.YtmigjipfomfacaaDoor
namespace Go.Proofs.YtmigjipfomfacaaDoor
open Go.RowKit
set_option maxRecDepth 100000 in
theorem rnumber_any (x y : Int) (w : World) : Calls Tryd.prog 55 #[.int .i64 x, .int .i64 y] w fun e w' => e = .returned (.int .i64 (cmpI x y)) ∧ w = w' := by
  go_enter Tryd.func55, Tryd.ntmps55
  go_wp2
  all_goals (go_ret; refine ⟨ret_int ?_, rfl⟩; unfold cmpI; (repeat' split) <;> first | rfl | (exfalso; omega))
set_option maxRecDepth 100000 in
theorem rfirst_any (x y : Bool) (w : World) : Calls Tryd.prog 77 #[.bool x, .bool y] w fun e w' => e = .returned (.int .i64 (firstI x y)) ∧ w = w' := by
  cases x <;> cases y <;> (go_enter Tryd.func77, Tryd.ntmps77; go_wp2; go_ret; exact ⟨rfl, rfl⟩)
set_option maxRecDepth 100000 in
set_option maxHeartbeats 1000000 in
theorem rBcmp_any (a b : List UInt8) (A B : Option Addr) (n c m d : Nat) (w : World) (hn : n ≤ 9223372036854775807) (_hm : m ≤ 9223372036854775807) (ha : RB w w.heap.size A n a) (hb : RB w w.heap.size B m b) :
    Calls Tryd.prog 19 #[.slice A n c, .slice B m d] w fun e w' => e = .returned (.int .i64 (cmpB a b)) ∧ Below w.heap.size w w' := by
  have HLA := Lib.hid ha.len
  have HLB := Lib.hid hb.len
  have HA : Hid (∀ w', Below w.heap.size w w' → RB w' w'.heap.size A n a) := Lib.hid fun w' h => ha.later h
  have HB : Hid (∀ w', Below w.heap.size w w' → RB w' w'.heap.size B m b) := Lib.hid fun w' h => hb.later h
  clear ha hb
  go_enter Tryd.func19, Tryd.ntmps19
  go_wp2
  go_loopw [5] (fun i wr => ∃ k : Nat, k ≤ n ∧ k ≤ m ∧ i = .int .i64 k ∧ Hid (a.take k = b.take k) ∧ Hid (Below w.heap.size w wr)) (fun i _ => n - (intOf i).toNat)
  case atStart => exact ⟨0, Nat.zero_le _, Nat.zero_le _, rfl, Lib.hid rfl, Lib.hid (Below.refl _ _)⟩
  case round =>
    obtain ⟨k, hkn, hkm, rfl, HT, HW⟩ := hrel
    by_cases hlt : k < n
    case neg =>
      have HE := Lib.hid (cmp_end HT.out HLA.out HLB.out (by omega) hkm)
      have hd1 : decide ((k : Int) < (n : Int)) = false := decide_eq_false (by omega)
      have hd2 : decide (k < n) = false := decide_eq_false hlt
      have HE2 : Hid (cmpB a b = cmpI n m) := Lib.hid (by rw [HE.out]; unfold cmpI; (repeat' split) <;> first | rfl | omega)
      clear HE
      go_wp2_with (go_at_call 55; go_must (refine (rnumber_any _ _ _).mono ?_); rintro e w1 ⟨rfl, rfl⟩)
      go_ret
      exact ⟨by rw [HE2.out]; rfl, HW.out⟩
    have hd1 : decide ((k : Int) < (n : Int)) = true := decide_eq_true (by omega)
    have hd2 : decide (k < n) = true := decide_eq_true hlt
    by_cases hmt : k < m
    case neg =>
      have HE := Lib.hid (cmp_end2 HT.out HLA.out HLB.out (by omega) hlt)
      have hd3 : decide ((k : Int) < (m : Int)) = false := decide_eq_false (by omega)
      have hd4 : decide (k < m) = false := decide_eq_false hmt
      have HE2 : Hid (cmpB a b = cmpI n m) := Lib.hid (by rw [HE.out]; unfold cmpI; (repeat' split) <;> first | rfl | omega)
      clear HE
      go_wp2_with (go_at_call 55; go_must (refine (rnumber_any _ _ _).mono ?_); rintro e w1 ⟨rfl, rfl⟩)
      go_ret
      exact ⟨by rw [HE2.out]; rfl, HW.out⟩
    have hd3 : decide ((k : Int) < (m : Int)) = true := decide_eq_true (by omega)
    have hd4 : decide (k < m) = true := decide_eq_true hmt
    have hk1 : (k : Int) < (n : Int) := by omega
    have hk2 : (k : Int) < (m : Int) := by omega
    obtain ⟨b1, o1, x, rfl, _, hx, _⟩ := (HA.out _ HW.out).at_ hlt
    obtain ⟨b2, o2, y, rfl, _, hy, _⟩ := (HB.out _ HW.out).at_ hmt
    have HX := Lib.hid hx
    have HY := Lib.hid hy
    have HCX : Hid (∀ w', Below w.heap.size w w' → w'.cell? ⟨b1, o1 + k, none⟩ = some (.int .u8 (x.toNat : Int))) := Lib.hid fun w' h => (HA.out w' h).cell HX.out
    have HCY : Hid (∀ w', Below w.heap.size w w' → w'.cell? ⟨b2, o2 + k, none⟩ = some (.int .u8 (y.toNat : Int))) := Lib.hid fun w' h => (HB.out w' h).cell HY.out
    clear hx hy
    by_cases h1 : x.toNat < y.toNat
    · have HE := Lib.hid (cmp_lt_at HT.out HX.out HY.out h1)
      have c1 := HCX.out _ HW.out
      have c2 := HCY.out _ HW.out
      have e1 : decide ((x.toNat : Int) < (y.toNat : Int)) = true := decide_eq_true (by omega)
      have e2 : decide (x.toNat < y.toNat) = true := decide_eq_true h1
      go_wp2_with fail
      go_quiet (fail)
      have HW2 := Lib.hid (below_drewN (n := nq) HW.out)
      clear c1 c2
      generalize wr.drewN nq = w3 at *
      go_wp2
      go_ret
      exact ⟨by rw [HE.out]; rfl, HW2.out⟩
    have c1 := HCX.out _ HW.out
    have c2 := HCY.out _ HW.out
    have e1 : decide ((x.toNat : Int) < (y.toNat : Int)) = false := decide_eq_false (by omega)
    have e2 : decide (x.toNat < y.toNat) = false := decide_eq_false h1
    go_wp2_with fail
    go_quiet (fail)
    have HW2 := Lib.hid (below_drewN (n := nq) HW.out)
    clear c1 c2
    generalize wr.drewN nq = w3 at *
    have c1 := HCX.out _ HW2.out
    have c2 := HCY.out _ HW2.out
    by_cases h2 : y.toNat < x.toNat
    · have HE := Lib.hid (cmp_gt_at HT.out HX.out HY.out h2)
      have e3 : decide ((y.toNat : Int) < (x.toNat : Int)) = true := decide_eq_true (by omega)
      have e4 : decide (y.toNat < x.toNat) = true := decide_eq_true h2
      go_wp2_with fail
      go_quiet (fail)
      have HW3 := Lib.hid (below_drewN (n := nq) HW2.out)
      clear c1 c2
      generalize w3.drewN nq = w4 at *
      go_wp2
      go_ret
      exact ⟨by rw [HE.out]; rfl, HW3.out⟩
    obtain rfl := UInt8.toNat_inj.1 (show x.toNat = y.toNat by omega)
    have HE := Lib.hid (cmp_eq_at HT.out HX.out HY.out)
    have e3 : decide ((x.toNat : Int) < (x.toNat : Int)) = false := decide_eq_false (by omega)
    have e4 : decide (x.toNat < x.toNat) = false := decide_eq_false h2
    go_wp2_with fail
    go_quiet (fail)
    have HW3 := Lib.hid (below_drewN (n := nq) HW2.out)
    clear c1 c2
    generalize w3.drewN nq = w4 at *
    go_wp2
    go_roundw
    case rel => exact ⟨k + 1, by omega, by omega, by go_num, HE, HW3⟩
    case measure => simp [intOf]; omega
theorem two_facts {w x : World} {A : Option Addr} {n c : Nat} {B : Option Addr} {m d : Nat} {D : Option Addr} {v q : Nat} {A' : Option Addr} {n' c' : Nat} {B' : Option Addr} {m' d' : Nat} {D' : Option Addr} {v' q' : Nat} {a b : Ent} (h : Two w 37 #[.slice A n c, .int .i64 a.fam, .slice B m d, .int .i64 a.ts, .int .i64 a.seq, .int .i64 a.kind, .slice D v q] #[.slice A' n' c', .int .i64 b.fam, .slice B' m' d', .int .i64 b.ts, .int .i64 b.seq, .int .i64 b.kind, .slice D' v' q'] x) : x.cell? ⟨w.heap.size, 0, none⟩ = some (.slice A n c) ∧ x.cell? ⟨w.heap.size, 1, none⟩ = some (.int .i64 a.fam) ∧ x.cell? ⟨w.heap.size, 2, none⟩ = some (.slice B m d) ∧ x.cell? ⟨w.heap.size, 3, none⟩ = some (.int .i64 a.ts) ∧ x.cell? ⟨w.heap.size, 4, none⟩ = some (.int .i64 a.seq) ∧ x.cell? ⟨w.heap.size, 5, none⟩ = some (.int .i64 a.kind) ∧ x.cell? ⟨w.heap.size + 1, 0, none⟩ = some (.slice A' n' c') ∧ x.cell? ⟨w.heap.size + 1, 1, none⟩ = some (.int .i64 b.fam) ∧ x.cell? ⟨w.heap.size + 1, 2, none⟩ = some (.slice B' m' d') ∧ x.cell? ⟨w.heap.size + 1, 3, none⟩ = some (.int .i64 b.ts) ∧ x.cell? ⟨w.heap.size + 1, 4, none⟩ = some (.int .i64 b.seq) ∧ x.cell? ⟨w.heap.size + 1, 5, none⟩ = some (.int .i64 b.kind) ∧ Two w 37 #[.slice A n c, .int .i64 a.fam, .slice B m d, .int .i64 a.ts, .int .i64 a.seq, .int .i64 a.kind, .slice D v q] #[.slice A' n' c', .int .i64 b.fam, .slice B' m' d', .int .i64 b.ts, .int .i64 b.seq, .int .i64 b.kind, .slice D' v' q'] x :=
  ⟨boxed1 h (i := 0) (v := .slice A n c) rfl, boxed1 h (i := 1) (v := .int .i64 a.fam) rfl, boxed1 h (i := 2) (v := .slice B m d) rfl, boxed1 h (i := 3) (v := .int .i64 a.ts) rfl, boxed1 h (i := 4) (v := .int .i64 a.seq) rfl, boxed1 h (i := 5) (v := .int .i64 a.kind) rfl, boxed2 h (i := 0) (v := .slice A' n' c') rfl, boxed2 h (i := 1) (v := .int .i64 b.fam) rfl, boxed2 h (i := 2) (v := .slice B' m' d') rfl, boxed2 h (i := 3) (v := .int .i64 b.ts) rfl, boxed2 h (i := 4) (v := .int .i64 b.seq) rfl, boxed2 h (i := 5) (v := .int .i64 b.kind) rfl, h⟩
set_option maxRecDepth 100000 in
set_option maxHeartbeats 4000000 in
theorem rcompare_any (a b : Ent) (A : Option Addr) (n c : Nat) (B : Option Addr) (m d : Nat) (D : Option Addr) (v q : Nat) (A' : Option Addr) (n' c' : Nat) (B' : Option Addr) (m' d' : Nat) (D' : Option Addr) (v' q' : Nat) (w : World) (ha : En w A n c B m d D v q a) (hb : En w A' n' c' B' m' d' D' v' q' b) :
    Calls Tryd.prog 43 #[entV A n c B m d D v q a, entV A' n' c' B' m' d' D' v' q' b] w fun e w1 => e = .returned (.int .i64 (cmpE a b)) ∧ Below w.heap.size w w1 := by
  have HA : Hid (∀ w1, Below w.heap.size w w1 → En w1 A n c B m d D v q a) := Lib.hid fun _ h => ha.later h
  have HC : Hid (∀ w1, Below w.heap.size w w1 → En w1 A' n' c' B' m' d' D' v' q' b) := Lib.hid fun _ h => hb.later h
  have HT := Lib.hid (Two.new w 37 #[.slice A n c, .int .i64 a.fam, .slice B m d, .int .i64 a.ts, .int .i64 a.seq, .int .i64 a.kind, .slice D v q] #[.slice A' n' c', .int .i64 b.fam, .slice B' m' d', .int .i64 b.ts, .int .i64 b.seq, .int .i64 b.kind, .slice D' v' q'])
  have l1 := ha.row.le
  have l2 := ha.qual.le
  have l3 := hb.row.le
  have l4 := hb.qual.le
  have HL : Hid (n ≤ 9223372036854775807 ∧ m ≤ 9223372036854775807 ∧ n' ≤ 9223372036854775807 ∧ m' ≤ 9223372036854775807) := Lib.hid ⟨l1, l2, l3, l4⟩
  unfold entV
  clear ha hb l1 l2 l3 l4
  have tok1 : True := trivial
  go_enter Tryd.func43, Tryd.ntmps43
  go_wp2_with fail
  go_region_held3 (fun x => x.cell? ⟨w.heap.size, 0, none⟩ = some (.slice A n c) ∧ x.cell? ⟨w.heap.size, 1, none⟩ = some (.int .i64 a.fam) ∧ x.cell? ⟨w.heap.size, 2, none⟩ = some (.slice B m d) ∧ x.cell? ⟨w.heap.size, 3, none⟩ = some (.int .i64 a.ts) ∧ x.cell? ⟨w.heap.size, 4, none⟩ = some (.int .i64 a.seq) ∧ x.cell? ⟨w.heap.size, 5, none⟩ = some (.int .i64 a.kind) ∧ x.cell? ⟨w.heap.size + 1, 0, none⟩ = some (.slice A' n' c') ∧ x.cell? ⟨w.heap.size + 1, 1, none⟩ = some (.int .i64 b.fam) ∧ x.cell? ⟨w.heap.size + 1, 2, none⟩ = some (.slice B' m' d') ∧ x.cell? ⟨w.heap.size + 1, 3, none⟩ = some (.int .i64 b.ts) ∧ x.cell? ⟨w.heap.size + 1, 4, none⟩ = some (.int .i64 b.seq) ∧ x.cell? ⟨w.heap.size + 1, 5, none⟩ = some (.int .i64 b.kind) ∧ Two w 37 #[.slice A n c, .int .i64 a.fam, .slice B m d, .int .i64 a.ts, .int .i64 a.seq, .int .i64 a.kind, .slice D v q] #[.slice A' n' c', .int .i64 b.fam, .slice B' m' d', .int .i64 b.ts, .int .i64 b.seq, .int .i64 b.kind, .slice D' v' q'] x) (first | assumption | exact two_facts (HT.out.later (Below.refl _ _).drew) | exact two_facts (Two.later (‹_ ∧ _ ∧ _ ∧ _ ∧ _ ∧ _ ∧ _ ∧ _ ∧ _ ∧ _ ∧ _ ∧ _ ∧ Two _ _ _ _ _›).2.2.2.2.2.2.2.2.2.2.2.2 hb1) | exact two_facts (Two.later (‹_ ∧ _ ∧ _ ∧ _ ∧ _ ∧ _ ∧ _ ∧ _ ∧ _ ∧ _ ∧ _ ∧ _ ∧ Two _ _ _ _ _›).2.2.2.2.2.2.2.2.2.2.2.2 hb2) | exact two_facts (Two.later (‹_ ∧ _ ∧ _ ∧ _ ∧ _ ∧ _ ∧ _ ∧ _ ∧ _ ∧ _ ∧ _ ∧ _ ∧ Two _ _ _ _ _›).2.2.2.2.2.2.2.2.2.2.2.2 ((Below.refl _ _).alloc (Nat.le_refl _) _))) (first
    | (go_at_call 19; have _t := tok1; refine (rBcmp_any a.row b.row _ _ _ _ _ _ _ HL.out.1 HL.out.2.2.1 (HA.out _ (‹_ ∧ _ ∧ _ ∧ _ ∧ _ ∧ _ ∧ _ ∧ _ ∧ _ ∧ _ ∧ _ ∧ _ ∧ Two _ _ _ _ _›).2.2.2.2.2.2.2.2.2.2.2.2.up).row.rb (HC.out _ (‹_ ∧ _ ∧ _ ∧ _ ∧ _ ∧ _ ∧ _ ∧ _ ∧ _ ∧ _ ∧ _ ∧ _ ∧ Two _ _ _ _ _›).2.2.2.2.2.2.2.2.2.2.2.2.up).row.rb).mono ?_; rintro e x1 ⟨rfl, hb1⟩; clear tok1)
    | (go_at_call 19; refine (rBcmp_any a.qual b.qual _ _ _ _ _ _ _ HL.out.2.1 HL.out.2.2.2 (HA.out _ (‹_ ∧ _ ∧ _ ∧ _ ∧ _ ∧ _ ∧ _ ∧ _ ∧ _ ∧ _ ∧ _ ∧ _ ∧ Two _ _ _ _ _›).2.2.2.2.2.2.2.2.2.2.2.2.up).qual.rb (HC.out _ (‹_ ∧ _ ∧ _ ∧ _ ∧ _ ∧ _ ∧ _ ∧ _ ∧ _ ∧ _ ∧ _ ∧ _ ∧ Two _ _ _ _ _›).2.2.2.2.2.2.2.2.2.2.2.2.up).qual.rb).mono ?_; rintro e x2 ⟨rfl, hb2⟩)
    | (go_at_call 55; refine (rnumber_any _ _ _).mono ?_; rintro e xn ⟨rfl, rfl⟩)
    | (go_at_call 77; refine (rfirst_any _ _ _).mono ?_; rintro e xn ⟨rfl, rfl⟩))
  all_goals
    have HW := Lib.hid (‹_ ∧ _ ∧ _ ∧ _ ∧ _ ∧ _ ∧ _ ∧ _ ∧ _ ∧ _ ∧ _ ∧ _ ∧ Two _ _ _ _ _›).2.2.2.2.2.2.2.2.2.2.2.2.up
    clear HA HC HT HL
    generalize hs0 : cmpB a.row b.row = s0 at HW ⊢
    have Q0 : Hid (stepC a b 0 = s0) := Lib.hid hs0
    generalize hs1 : cmpI a.fam b.fam = s1 at HW ⊢
    have Q1 : Hid (stepC a b 1 = s1) := Lib.hid hs1
    generalize hs2 : firstI (a.kind == 5) (b.kind == 5) = s2 at HW ⊢
    have Q2 : Hid (stepC a b 2 = s2) := Lib.hid hs2
    generalize hs3 : cmpB a.qual b.qual = s3 at HW ⊢
    have Q3 : Hid (stepC a b 3 = s3) := Lib.hid hs3
    generalize hs4 : firstI (a.kind == 4) (b.kind == 4) = s4 at HW ⊢
    have Q4 : Hid (stepC a b 4 = s4) := Lib.hid hs4
    generalize hs5 : cmpI b.ts a.ts = s5 at HW ⊢
    have Q5 : Hid (stepC a b 5 = s5) := Lib.hid hs5
    generalize hs6 : cmpI b.seq a.seq = s6 at HW ⊢
    have Q6 : Hid (stepC a b 6 = s6) := Lib.hid hs6
    generalize hs7 : cmpI a.kind b.kind = s7 at HW ⊢
    have Q7 : Hid (stepC a b 7 = s7) := Lib.hid hs7
    clear hs0 hs1 hs2 hs3 hs4 hs5 hs6 hs7
    obtain ⟨X, hX⟩ : ∃ X, X = x2.alloc (.cells #[.int .i64 s0, .int .i64 s1, .int .i64 s2, .int .i64 s3, .int .i64 s4, .int .i64 s5, .int .i64 s6, .int .i64 s7] 3) := ⟨_, rfl⟩
    rw [← hX] at HW ⊢
    have p0 : X.cell? ⟨x2.heap.size, 0, none⟩ = some (.int .i64 s0) := by rw [hX]; simp
    have p1 : X.cell? ⟨x2.heap.size, 1, none⟩ = some (.int .i64 s1) := by rw [hX]; simp
    have p2 : X.cell? ⟨x2.heap.size, 2, none⟩ = some (.int .i64 s2) := by rw [hX]; simp
    have p3 : X.cell? ⟨x2.heap.size, 3, none⟩ = some (.int .i64 s3) := by rw [hX]; simp
    have p4 : X.cell? ⟨x2.heap.size, 4, none⟩ = some (.int .i64 s4) := by rw [hX]; simp
    have p5 : X.cell? ⟨x2.heap.size, 5, none⟩ = some (.int .i64 s5) := by rw [hX]; simp
    have p6 : X.cell? ⟨x2.heap.size, 6, none⟩ = some (.int .i64 s6) := by rw [hX]; simp
    have p7 : X.cell? ⟨x2.heap.size, 7, none⟩ = some (.int .i64 s7) := by rw [hX]; simp
    clear hX
    generalize x2.heap.size = g at p0 p1 p2 p3 p4 p5 p6 p7 ⊢
    go_wp2_with fail
    go_loop [6] (fun i => ∃ k : Nat, k ≤ 8 ∧ i = .int .i64 k ∧ Hid (∀ i, i < k → stepC a b i = 0)) (fun i => 8 - (intOf i).toNat)
    case atStart => exact ⟨0, by decide, rfl, Lib.hid fun i hi => absurd hi (Nat.not_lt_zero _)⟩
    case round =>
      obtain ⟨k, hk, hi, HF⟩ := hrel
      have hk' : k = 0 ∨ k = 1 ∨ k = 2 ∨ k = 3 ∨ k = 4 ∨ k = 5 ∨ k = 6 ∨ k = 7 ∨ k = 8 := by omega
      clear hk
      rcases hk' with rfl | rfl | rfl | rfl | rfl | rfl | rfl | rfl | rfl
      case inr.inr.inr.inr.inr.inr.inr.inr =>
        replace hi : _ = Value.int .i64 8 := hi
        subst hi
        have HZ := Lib.hid (cmpE_none a b HF.out)
        clear HF
        go_wp2
        go_ret
        exact ⟨by rw [HZ.out]; rfl, HW.out⟩
      case inl =>
        replace hi : _ = Value.int .i64 0 := hi
        subst hi
        by_cases hz : s0 = 0
        · have HZ : Hid (∀ i, i < 1 → stepC a b i = 0) := Lib.hid fun i hi => if h : i = 0 then h ▸ (Q0.out.trans hz) else HF.out i (by omega)
          have t2 : (s0 != 0) = false := by simpa using hz
          clear hz HF
          go_wp2
          go_round
          case measure => decide
          case rel => exact ⟨1, by omega, rfl, HZ⟩
        · have HZ : Hid (s0 = cmpE a b) := Lib.hid (Q0.out ▸ cmpE_first a b 0 (by decide) HF.out (by rw [Q0.out]; exact hz))
          have t2 : (s0 != 0) = true := by simpa using hz
          clear HF hz
          go_wp2
          go_ret
          exact ⟨by rw [← HZ.out]; rfl, HW.out⟩
      case inr.inl =>
        replace hi : _ = Value.int .i64 1 := hi
        subst hi
        by_cases hz : s1 = 0
        · have HZ : Hid (∀ i, i < 2 → stepC a b i = 0) := Lib.hid fun i hi => if h : i = 1 then h ▸ (Q1.out.trans hz) else HF.out i (by omega)
          have t2 : (s1 != 0) = false := by simpa using hz
          clear hz HF
          go_wp2
          go_round
          case measure => decide
          case rel => exact ⟨2, by omega, rfl, HZ⟩
        · have HZ : Hid (s1 = cmpE a b) := Lib.hid (Q1.out ▸ cmpE_first a b 1 (by decide) HF.out (by rw [Q1.out]; exact hz))
          have t2 : (s1 != 0) = true := by simpa using hz
          clear HF hz
          go_wp2
          go_ret
          exact ⟨by rw [← HZ.out]; rfl, HW.out⟩
      case inr.inr.inl =>
        replace hi : _ = Value.int .i64 2 := hi
        subst hi
        by_cases hz : s2 = 0
        · have HZ : Hid (∀ i, i < 3 → stepC a b i = 0) := Lib.hid fun i hi => if h : i = 2 then h ▸ (Q2.out.trans hz) else HF.out i (by omega)
          have t2 : (s2 != 0) = false := by simpa using hz
          clear hz HF
          go_wp2
          go_round
          case measure => decide
          case rel => exact ⟨3, by omega, rfl, HZ⟩
        · have HZ : Hid (s2 = cmpE a b) := Lib.hid (Q2.out ▸ cmpE_first a b 2 (by decide) HF.out (by rw [Q2.out]; exact hz))
          have t2 : (s2 != 0) = true := by simpa using hz
          clear HF hz
          go_wp2
          go_ret
          exact ⟨by rw [← HZ.out]; rfl, HW.out⟩
      case inr.inr.inr.inl =>
        replace hi : _ = Value.int .i64 3 := hi
        subst hi
        by_cases hz : s3 = 0
        · have HZ : Hid (∀ i, i < 4 → stepC a b i = 0) := Lib.hid fun i hi => if h : i = 3 then h ▸ (Q3.out.trans hz) else HF.out i (by omega)
          have t2 : (s3 != 0) = false := by simpa using hz
          clear hz HF
          go_wp2
          go_round
          case measure => decide
          case rel => exact ⟨4, by omega, rfl, HZ⟩
        · have HZ : Hid (s3 = cmpE a b) := Lib.hid (Q3.out ▸ cmpE_first a b 3 (by decide) HF.out (by rw [Q3.out]; exact hz))
          have t2 : (s3 != 0) = true := by simpa using hz
          clear HF hz
          go_wp2
          go_ret
          exact ⟨by rw [← HZ.out]; rfl, HW.out⟩
      case inr.inr.inr.inr.inl =>
        replace hi : _ = Value.int .i64 4 := hi
        subst hi
        by_cases hz : s4 = 0
        · have HZ : Hid (∀ i, i < 5 → stepC a b i = 0) := Lib.hid fun i hi => if h : i = 4 then h ▸ (Q4.out.trans hz) else HF.out i (by omega)
          have t2 : (s4 != 0) = false := by simpa using hz
          clear hz HF
          go_wp2
          go_round
          case measure => decide
          case rel => exact ⟨5, by omega, rfl, HZ⟩
        · have HZ : Hid (s4 = cmpE a b) := Lib.hid (Q4.out ▸ cmpE_first a b 4 (by decide) HF.out (by rw [Q4.out]; exact hz))
          have t2 : (s4 != 0) = true := by simpa using hz
          clear HF hz
          go_wp2
          go_ret
          exact ⟨by rw [← HZ.out]; rfl, HW.out⟩
      case inr.inr.inr.inr.inr.inl =>
        replace hi : _ = Value.int .i64 5 := hi
        subst hi
        by_cases hz : s5 = 0
        · have HZ : Hid (∀ i, i < 6 → stepC a b i = 0) := Lib.hid fun i hi => if h : i = 5 then h ▸ (Q5.out.trans hz) else HF.out i (by omega)
          have t2 : (s5 != 0) = false := by simpa using hz
          clear hz HF
          go_wp2
          go_round
          case measure => decide
          case rel => exact ⟨6, by omega, rfl, HZ⟩
        · have HZ : Hid (s5 = cmpE a b) := Lib.hid (Q5.out ▸ cmpE_first a b 5 (by decide) HF.out (by rw [Q5.out]; exact hz))
          have t2 : (s5 != 0) = true := by simpa using hz
          clear HF hz
          go_wp2
          go_ret
          exact ⟨by rw [← HZ.out]; rfl, HW.out⟩
      case inr.inr.inr.inr.inr.inr.inl =>
        replace hi : _ = Value.int .i64 6 := hi
        subst hi
        by_cases hz : s6 = 0
        · have HZ : Hid (∀ i, i < 7 → stepC a b i = 0) := Lib.hid fun i hi => if h : i = 6 then h ▸ (Q6.out.trans hz) else HF.out i (by omega)
          have t2 : (s6 != 0) = false := by simpa using hz
          clear hz HF
          go_wp2
          go_round
          case measure => decide
          case rel => exact ⟨7, by omega, rfl, HZ⟩
        · have HZ : Hid (s6 = cmpE a b) := Lib.hid (Q6.out ▸ cmpE_first a b 6 (by decide) HF.out (by rw [Q6.out]; exact hz))
          have t2 : (s6 != 0) = true := by simpa using hz
          clear HF hz
          go_wp2
          go_ret
          exact ⟨by rw [← HZ.out]; rfl, HW.out⟩
      case inr.inr.inr.inr.inr.inr.inr.inl =>
        replace hi : _ = Value.int .i64 7 := hi
        subst hi
        by_cases hz : s7 = 0
        · have HZ : Hid (∀ i, i < 8 → stepC a b i = 0) := Lib.hid fun i hi => if h : i = 7 then h ▸ (Q7.out.trans hz) else HF.out i (by omega)
          have t2 : (s7 != 0) = false := by simpa using hz
          clear hz HF
          go_wp2
          go_round
          case measure => decide
          case rel => exact ⟨8, by omega, rfl, HZ⟩
        · have HZ : Hid (s7 = cmpE a b) := Lib.hid (Q7.out ▸ cmpE_first a b 7 (by decide) HF.out (by rw [Q7.out]; exact hz))
          have t2 : (s7 != 0) = true := by simpa using hz
          clear HF hz
          go_wp2
          go_ret
          exact ⟨by rw [← HZ.out]; rfl, HW.out⟩
end Go.Proofs.YtmigjipfomfacaaDoor
namespace Go.Proofs.YtmigjipfomfacaaDoor
open Go.RowKit
set_option maxRecDepth 100000 in
set_option maxHeartbeats 1000000 in
theorem shared_any (a b : List UInt8) (A B : Option Addr) (n c m d : Nat) (w : World) (hn : n ≤ 9223372036854775806) (ha : RB w w.heap.size A n a) (hb : RB w w.heap.size B m b) :
    Calls Tryd.prog 62 #[.slice A n c, .slice B m d] w fun e w' => e = .returned (.int .i64 (shareN a b)) ∧ Below w.heap.size w w' := by
  have HLA := Lib.hid ha.len
  have HLB := Lib.hid hb.len
  have HA : Hid (∀ w', Below w.heap.size w w' → RB w' w'.heap.size A n a) := Lib.hid fun w' h => ha.later h
  have HB : Hid (∀ w', Below w.heap.size w w' → RB w' w'.heap.size B m b) := Lib.hid fun w' h => hb.later h
  clear ha hb
  go_enter Tryd.func62, Tryd.ntmps62
  go_wp2
  go_loopw [5] (fun i wr => ∃ k : Nat, k ≤ shareN a b ∧ i = .int .i64 k ∧ Hid (Below w.heap.size w wr)) (fun i _ => n - (intOf i).toNat)
  case atStart => exact ⟨0, Nat.zero_le _, rfl, Lib.hid (Below.refl _ _)⟩
  case round =>
    obtain ⟨k, hk, rfl, HW⟩ := hrel
    have HT := Lib.hid (shareN_test a b k hk)
    have HK := Lib.hid hk
    clear hk
    by_cases hkn : k < n
    case neg =>
      have hd1 : decide ((k : Int) < (n : Int)) = false := decide_eq_false (by omega)
      have hd2 : decide (k < n) = false := decide_eq_false hkn
      have HE : Hid (shareN a b = k) := Lib.hid (by have := (shareN_le a b).1; have := HLA.out; have := HK.out; omega)
      go_wp2_with fail
      go_quiet (fail)
      have HW2 := Lib.hid (below_drewN (n := nq) HW.out)
      generalize wr.drewN nq = w3 at *
      go_wp2
      go_ret
      exact ⟨by rw [HE.out]; rfl, HW2.out⟩
    have hd1 : decide ((k : Int) < (n : Int)) = true := decide_eq_true (by omega)
    have hd2 : decide (k < n) = true := decide_eq_true hkn
    by_cases hkm : k < m
    case neg =>
      have hd3 : decide ((k : Int) < (m : Int)) = false := decide_eq_false (by omega)
      have hd4 : decide (k < m) = false := decide_eq_false hkm
      have HE : Hid (shareN a b = k) := Lib.hid (by have := (shareN_le a b).2; have := HLB.out; have := HK.out; omega)
      go_wp2_with fail
      go_quiet (fail)
      have HW2 := Lib.hid (below_drewN (n := nq) HW.out)
      generalize wr.drewN nq = w3 at *
      go_wp2
      go_ret
      exact ⟨by rw [HE.out]; rfl, HW2.out⟩
    have hd3 : decide ((k : Int) < (m : Int)) = true := decide_eq_true (by omega)
    have hd4 : decide (k < m) = true := decide_eq_true hkm
    have hk1 : (k : Int) < (n : Int) := by omega
    have hk2 : (k : Int) < (m : Int) := by omega
    obtain ⟨b1, o1, x, rfl, _, hx, c1⟩ := (HA.out _ HW.out).at_ hkn
    obtain ⟨b2, o2, y, rfl, _, hy, c2⟩ := (HB.out _ HW.out).at_ hkm
    by_cases hxy : x = y
    case neg =>
      have he : ((x.toNat : Int) == (y.toNat : Int)) = false := beq_eq_false_iff_ne.2 (fun h => hxy (UInt8.toNat_inj.1 (by omega)))
      have he2 : (x == y) = false := beq_eq_false_iff_ne.2 hxy
      have he3 : (x.toNat == y.toNat) = false := beq_eq_false_iff_ne.2 (fun h => hxy (UInt8.toNat_inj.1 h))
      have he4 : ¬ x.toNat = y.toNat := fun h => hxy (UInt8.toNat_inj.1 h)
      have HE : Hid (shareN a b = k) := Lib.hid (by
        have h1 := HT.out
        rw [hx, hy] at h1
        have h2 : ¬ k < shareN a b := fun h => hxy (Option.some.inj (h1.1 h).2.2)
        have := HK.out; omega)
      clear hx hy
      go_wp2_with fail
      go_quiet (fail)
      have HW2 := Lib.hid (below_drewN (n := nq) HW.out)
      clear c1 c2
      generalize wr.drewN nq = w3 at *
      go_wp2
      go_ret
      exact ⟨by rw [HE.out]; rfl, HW2.out⟩
    subst hxy
    have he : ((x.toNat : Int) == (x.toNat : Int)) = true := by simp
    have HE : Hid (k < shareN a b) := Lib.hid (HT.out.2 ⟨by have := HLA.out; omega, by have := HLB.out; omega, by rw [hx, hy]⟩)
    clear hx hy
    go_wp2_with fail
    go_quiet (fail)
    have HW2 := Lib.hid (below_drewN (n := nq) HW.out)
    clear c1 c2
    generalize wr.drewN nq = w3 at *
    go_wp2
    go_roundw
    case rel => exact ⟨k + 1, HE.out, by go_num, HW2⟩
    case measure => simp [intOf]; omega
set_option maxRecDepth 100000 in
set_option maxHeartbeats 1000000 in
theorem rshared_any (a b : List UInt8) (A B : Option Addr) (n c m d : Nat) (w : World) (hn : n ≤ 9223372036854775806) (ha : RB w w.heap.size A n a) (hb : RB w w.heap.size B m b) :
    Calls Tryd.prog 57 #[.slice A n c, .slice B m d] w fun e w' => e = .returned (.int .i64 (shareN a b)) ∧ Below w.heap.size w w' := by
  have HLA := Lib.hid ha.len
  have HLB := Lib.hid hb.len
  have HA : Hid (∀ w', Below w.heap.size w w' → RB w' w'.heap.size A n a) := Lib.hid fun w' h => ha.later h
  have HB : Hid (∀ w', Below w.heap.size w w' → RB w' w'.heap.size B m b) := Lib.hid fun w' h => hb.later h
  clear ha hb
  go_enter Tryd.func57, Tryd.ntmps57
  go_wp2
  go_loopw [5] (fun i wr => ∃ k : Nat, k ≤ shareN a b ∧ i = .int .i64 k ∧ Hid (Below w.heap.size w wr)) (fun i _ => n - (intOf i).toNat)
  case atStart => exact ⟨0, Nat.zero_le _, rfl, Lib.hid (Below.refl _ _)⟩
  case round =>
    obtain ⟨k, hk, rfl, HW⟩ := hrel
    have HT := Lib.hid (shareN_test a b k hk)
    have HK := Lib.hid hk
    clear hk
    by_cases hkn : k < n
    case neg =>
      have hd1 : decide ((k : Int) < (n : Int)) = false := decide_eq_false (by omega)
      have hd2 : decide (k < n) = false := decide_eq_false hkn
      have HE : Hid (shareN a b = k) := Lib.hid (by have := (shareN_le a b).1; have := HLA.out; have := HK.out; omega)
      go_wp2_with fail
      go_quiet (fail)
      have HW2 := Lib.hid (below_drewN (n := nq) HW.out)
      generalize wr.drewN nq = w3 at *
      go_wp2
      go_ret
      exact ⟨by rw [HE.out]; rfl, HW2.out⟩
    have hd1 : decide ((k : Int) < (n : Int)) = true := decide_eq_true (by omega)
    have hd2 : decide (k < n) = true := decide_eq_true hkn
    by_cases hkm : k < m
    case neg =>
      have hd3 : decide ((k : Int) < (m : Int)) = false := decide_eq_false (by omega)
      have hd4 : decide (k < m) = false := decide_eq_false hkm
      have HE : Hid (shareN a b = k) := Lib.hid (by have := (shareN_le a b).2; have := HLB.out; have := HK.out; omega)
      go_wp2_with fail
      go_quiet (fail)
      have HW2 := Lib.hid (below_drewN (n := nq) HW.out)
      generalize wr.drewN nq = w3 at *
      go_wp2
      go_ret
      exact ⟨by rw [HE.out]; rfl, HW2.out⟩
    have hd3 : decide ((k : Int) < (m : Int)) = true := decide_eq_true (by omega)
    have hd4 : decide (k < m) = true := decide_eq_true hkm
    have hk1 : (k : Int) < (n : Int) := by omega
    have hk2 : (k : Int) < (m : Int) := by omega
    obtain ⟨b1, o1, x, rfl, _, hx, c1⟩ := (HA.out _ HW.out).at_ hkn
    obtain ⟨b2, o2, y, rfl, _, hy, c2⟩ := (HB.out _ HW.out).at_ hkm
    by_cases hxy : x = y
    case neg =>
      have he : ((x.toNat : Int) == (y.toNat : Int)) = false := beq_eq_false_iff_ne.2 (fun h => hxy (UInt8.toNat_inj.1 (by omega)))
      have he2 : (x == y) = false := beq_eq_false_iff_ne.2 hxy
      have he3 : (x.toNat == y.toNat) = false := beq_eq_false_iff_ne.2 (fun h => hxy (UInt8.toNat_inj.1 h))
      have he4 : ¬ x.toNat = y.toNat := fun h => hxy (UInt8.toNat_inj.1 h)
      have HE : Hid (shareN a b = k) := Lib.hid (by
        have h1 := HT.out
        rw [hx, hy] at h1
        have h2 : ¬ k < shareN a b := fun h => hxy (Option.some.inj (h1.1 h).2.2)
        have := HK.out; omega)
      clear hx hy
      go_wp2_with fail
      go_quiet (fail)
      have HW2 := Lib.hid (below_drewN (n := nq) HW.out)
      clear c1 c2
      generalize wr.drewN nq = w3 at *
      go_wp2
      go_ret
      exact ⟨by rw [HE.out]; rfl, HW2.out⟩
    subst hxy
    have he : ((x.toNat : Int) == (x.toNat : Int)) = true := by simp
    have HE : Hid (k < shareN a b) := Lib.hid (HT.out.2 ⟨by have := HLA.out; omega, by have := HLB.out; omega, by rw [hx, hy]⟩)
    clear hx hy
    go_wp2_with fail
    go_quiet (fail)
    have HW2 := Lib.hid (below_drewN (n := nq) HW.out)
    clear c1 c2
    generalize wr.drewN nq = w3 at *
    go_wp2
    go_roundw
    case rel => exact ⟨k + 1, HE.out, by go_num, HW2⟩
    case measure => simp [intOf]; omega
set_option maxRecDepth 100000 in
theorem four_any (v : Nat) (w : World) (hv : v < 4294967296) : Calls Tryd.prog 66 #[.int .u32 v] w (BytesPost 5 (four4 v) w) := by
  have hL : Hid (u8s (four4 v) = [.int .u8 ((v : Int) / 16777216), .int .u8 ((v : Int) / 65536 % 256), .int .u8 ((v : Int) / 256 % 256), .int .u8 ((v : Int) % 256)]) := Lib.hid (by
    show [u8v _, u8v _, u8v _, u8v _] = _
    rw [u8v_mod, u8v_mod, u8v_mod, u8v_mod]; simp only [Int.natCast_ediv]; rw [show ((v : Int) / ((16777216 : Nat) : Int) % 256) = (v : Int) / 16777216 from by omega]; rfl)
  go_enter Tryd.func66, Tryd.ntmps66
  go_wp2_with fail
  go_ret
  refine ⟨_, _, rfl, ?_, ((Below.refl _ _).alloc (Nat.le_refl _) _)⟩
  show World.ownsRow _ _ _ _ _ _ _
  rw [hL.out]
  exact own_lit w #[.int .u8 ((v : Int) / 16777216), .int .u8 ((v : Int) / 65536 % 256), .int .u8 ((v : Int) / 256 % 256), .int .u8 ((v : Int) % 256)] 5 w.heap.size 4 1 (by simp) (by decide) rfl
set_option maxRecDepth 100000 in
theorem rfour_any (v : Nat) (w : World) (hv : v < 4294967296) : Calls Tryd.prog 88 #[.int .i64 v] w (BytesPost 5 (four4 v) w) := by
  have hL : Hid (u8s (four4 v) = [.int .u8 ((v : Int) / 16777216 % 256), .int .u8 ((v : Int) / 65536 % 256), .int .u8 ((v : Int) / 256 % 256), .int .u8 ((v : Int) % 256)]) := Lib.hid (by
    show [u8v _, u8v _, u8v _, u8v _] = _
    rw [u8v_mod, u8v_mod, u8v_mod, u8v_mod]; simp only [Int.natCast_ediv]; rfl)
  go_enter Tryd.func88, Tryd.ntmps88
  go_wp2_with fail
  go_ret
  refine ⟨_, _, rfl, ?_, ((Below.refl _ _).alloc (Nat.le_refl _) _)⟩
  show World.ownsRow _ _ _ _ _ _ _
  rw [hL.out]
  exact own_lit w #[.int .u8 ((v : Int) / 16777216 % 256), .int .u8 ((v : Int) / 65536 % 256), .int .u8 ((v : Int) / 256 % 256), .int .u8 ((v : Int) % 256)] 5 w.heap.size 4 1 (by simp) (by decide) rfl
end Go.Proofs.YtmigjipfomfacaaDoor
namespace Go.Proofs.YtmigjipfomfacaaDoor
open Go.RowKit
set_option maxRecDepth 100000 in
set_option maxHeartbeats 1000000 in
theorem reverse4_any (a b d e : UInt8) (g c : Nat) (w x : World) (h : OW w [bytO 5 (some ⟨g, 0, none⟩, c, [a, b, d, e])] x) :
    Calls Tryd.prog 68 #[.slice (some ⟨g, 0, none⟩) 4 c] x fun r x' => r = .returned (.tuple #[]) ∧ OW w [bytO 5 (some ⟨g, 0, none⟩, c, [e, d, b, a])] x' := by
  have HX := Lib.hid h
  clear h
  go_enter Tryd.func68, Tryd.ntmps68
  go_wp2_with fail
  go_loopw [2, 3] (fun i j wr => (i = .int .i64 0 ∧ j = .int .i64 3 ∧ Hid (OW w [bytO 5 (some ⟨g, 0, none⟩, c, [a, b, d, e])] wr)) ∨ (i = .int .i64 1 ∧ j = .int .i64 2 ∧ Hid (OW w [bytO 5 (some ⟨g, 0, none⟩, c, [e, b, d, a])] wr)) ∨ (i = .int .i64 2 ∧ j = .int .i64 1 ∧ Hid (OW w [bytO 5 (some ⟨g, 0, none⟩, c, [e, d, b, a])] wr))) (fun i _ _ => 2 - (intOf i).toNat)
  case atStart => exact .inl ⟨rfl, rfl, HX⟩
  case round =>
    clear HX
    rcases hrel with ⟨rfl, rfl, HX⟩ | ⟨rfl, rfl, HX⟩ | ⟨rfl, rfl, HX⟩
    · go_wp2_with fail
      refine lt_start [13] (by kernel_rfl) ?_
      intro xd hd
      refine ⟨fun z => OW w [bytO 5 (some ⟨g, 0, none⟩, c, [a, b, d, e])] z, ?_⟩
      have HS := Lib.hid (HX.out.later hd)
      refine lt_pure 0 rfl (by kernel_rfl) (by kernel_rfl) (by kernel_rfl) (by kernel_rfl) (fun _ _ _ h => h) (v := ?_) (yi_run rfl (fun w => ?_)) (fun _ => HS.out) ?_
      rotate_left
      · first | (go_simp; done) | (go_simp; with_reducible rfl)
      simp only [Act.put, List.setIfInBounds_toArray, List.set_cons_zero, List.set_cons_succ]
      refine lt_pure 1 rfl (by kernel_rfl) (by kernel_rfl) (by kernel_rfl) (by kernel_rfl) (fun _ _ _ h => h) (v := ?_) (yi_run rfl (fun w => ?_)) (fun _ => HS.out) ?_
      rotate_left
      · first | (go_simp; done) | (go_simp; with_reducible rfl)
      simp only [Act.put, List.setIfInBounds_toArray, List.set_cons_zero, List.set_cons_succ]
      refine lt_pure 2 rfl (by kernel_rfl) (by kernel_rfl) (by kernel_rfl) (by kernel_rfl) (fun _ _ _ h => h) (v := ?_) (yi_run rfl (fun w => ?_)) (fun _ => HS.out) ?_
      rotate_left
      · first | (go_simp; done) | (go_simp; with_reducible rfl)
      simp only [Act.put, List.setIfInBounds_toArray, List.set_cons_zero, List.set_cons_succ]
      refine lt_pure 3 rfl (by kernel_rfl) (by kernel_rfl) (by kernel_rfl) (by kernel_rfl) (fun _ _ _ h => h) (v := ?_) (yi_run rfl (fun w => ?_)) (fun _ => HS.out) ?_
      rotate_left
      · first | (go_simp; done) | (go_simp; with_reducible rfl)
      simp only [Act.put, List.setIfInBounds_toArray, List.set_cons_zero, List.set_cons_succ]
      refine lt_pure 4 rfl (by kernel_rfl) (by kernel_rfl) (by kernel_rfl) (by kernel_rfl) (fun _ _ _ h => h) (v := ?_) (yi_run rfl (fun w => ?_)) (fun _ => HS.out) ?_
      rotate_left
      · first | (go_simp; done) | (go_simp; with_reducible rfl)
      simp only [Act.put, List.setIfInBounds_toArray, List.set_cons_zero, List.set_cons_succ]
      refine lt_pure 5 rfl (by kernel_rfl) (by kernel_rfl) (by kernel_rfl) (by kernel_rfl) (fun _ _ _ h => h) (v := ?_) (yi_run rfl (fun w => ?_)) (fun _ => HS.out) ?_
      rotate_left
      · first | (go_simp; done) | (go_simp; with_reducible rfl)
      simp only [Act.put, List.setIfInBounds_toArray, List.set_cons_zero, List.set_cons_succ]
      refine lt_pure 6 rfl (by kernel_rfl) (by kernel_rfl) (by kernel_rfl) (by kernel_rfl) (fun _ _ _ h => h) (v := ?_) (yi_run rfl (fun w => ?_)) (fun _ => HS.out) ?_
      rotate_left
      · first | (go_simp; done) | (go_simp; with_reducible rfl)
      simp only [Act.put, List.setIfInBounds_toArray, List.set_cons_zero, List.set_cons_succ]
      refine lt_take 7 [12, 13, 14, 15] rfl (by kernel_rfl) (by kernel_rfl) (by kernel_rfl) (by kernel_rfl) (by kernel_rfl) (fun _ _ _ h => h) (yi_cell rfl rfl rfl (fun w hS => (World.ownsRow.cellAt (OW.row hS (i := 0) rfl) 3 (by show 3 < 4 * 1; omega)).trans rfl) (fun w => Tryd.isAgg5 w)) HS.out ?_
      simp only [Act.put, List.setIfInBounds_toArray, List.set_cons_zero, List.set_cons_succ]
      refine lt_pure 8 rfl (by kernel_rfl) (by kernel_rfl) (by kernel_rfl) (by kernel_rfl) (fun _ _ _ h => h) (v := ?_) (yi_run rfl (fun w => ?_)) (fun _ => HS.out) ?_
      rotate_left
      · first | (go_simp; done) | (go_simp; with_reducible rfl)
      simp only [Act.put, List.setIfInBounds_toArray, List.set_cons_zero, List.set_cons_succ]
      refine lt_pure 9 rfl (by kernel_rfl) (by kernel_rfl) (by kernel_rfl) (by kernel_rfl) (fun _ _ _ h => h) (v := ?_) (yi_run rfl (fun w => ?_)) (fun _ => HS.out) ?_
      rotate_left
      · first | (go_simp; done) | (go_simp; with_reducible rfl)
      simp only [Act.put, List.setIfInBounds_toArray, List.set_cons_zero, List.set_cons_succ]
      refine lt_pure 10 rfl (by kernel_rfl) (by kernel_rfl) (by kernel_rfl) (by kernel_rfl) (fun _ _ _ h => h) (v := ?_) (yi_run rfl (fun w => ?_)) (fun _ => HS.out) ?_
      rotate_left
      · first | (go_simp; done) | (go_simp; with_reducible rfl)
      simp only [Act.put, List.setIfInBounds_toArray, List.set_cons_zero, List.set_cons_succ]
      refine lt_take 11 [12, 13, 14, 15] rfl (by kernel_rfl) (by kernel_rfl) (by kernel_rfl) (by kernel_rfl) (by kernel_rfl) (fun _ _ _ h => h) (yi_cell rfl rfl rfl (fun w hS => (World.ownsRow.cellAt (OW.row hS (i := 0) rfl) 0 (by show 0 < 4 * 1; omega)).trans rfl) (fun w => Tryd.isAgg5 w)) HS.out ?_
      simp only [Act.put, List.setIfInBounds_toArray, List.set_cons_zero, List.set_cons_succ]
      refine lt_pure 12 rfl (by kernel_rfl) (by kernel_rfl) (by kernel_rfl) (by kernel_rfl) (fun _ _ _ h => h) (v := ?_) (yi_run rfl (fun w => ?_)) (fun _ => HS.out) ?_
      rotate_left
      · first | (go_simp; done) | (go_simp; with_reducible rfl)
      simp only [Act.put, List.setIfInBounds_toArray, List.set_cons_zero, List.set_cons_succ]
      refine lt_end 13 rfl (by kernel_rfl) rfl (by kernel_rfl) ?_
      refine wpo_store rfl HS.out 0 rfl 0 rfl (by show 0 < 4 * 1; omega) (u8v e) rfl (by kernel_rfl) rfl ?_
      intro z1 hz1 _
      simp only [Act.put]
      refine lt_pureF 14 rfl (by kernel_rfl) (by kernel_rfl) (by kernel_rfl) (by kernel_rfl) (by kernel_rfl) (fun _ _ _ h => h) (v := ?_) (yi_run rfl (fun w => ?_)) ?_
      rotate_left
      · first | (go_simp; done) | (go_simp; with_reducible rfl)
      simp only [Act.put, List.setIfInBounds_toArray, List.set_cons_zero, List.set_cons_succ]
      refine lt_end 15 rfl (by kernel_rfl) rfl (by kernel_rfl) ?_
      refine wpo_store rfl hz1 0 rfl 3 rfl (by show 3 < 4 * 1; omega) (u8v a) rfl (by kernel_rfl) rfl ?_
      intro z2 hz2 _
      simp only [Act.put]
      refine lt_done (by kernel_rfl) ?_
      clear HS
      have HX2 : Hid (OW w [bytO 5 (some ⟨g, 0, none⟩, c, [e, b, d, a])] z2) := Lib.hid hz2
      clear hz1 hz2
      go_wp2_with fail
      go_roundw
      case rel => exact .inr (.inl ⟨rfl, rfl, HX2⟩)
      case measure => simp [intOf]
    · go_wp2_with fail
      refine lt_start [13] (by kernel_rfl) ?_
      intro xd hd
      refine ⟨fun z => OW w [bytO 5 (some ⟨g, 0, none⟩, c, [e, b, d, a])] z, ?_⟩
      have HS := Lib.hid (HX.out.later hd)
      refine lt_pure 0 rfl (by kernel_rfl) (by kernel_rfl) (by kernel_rfl) (by kernel_rfl) (fun _ _ _ h => h) (v := ?_) (yi_run rfl (fun w => ?_)) (fun _ => HS.out) ?_
      rotate_left
      · first | (go_simp; done) | (go_simp; with_reducible rfl)
      simp only [Act.put, List.setIfInBounds_toArray, List.set_cons_zero, List.set_cons_succ]
      refine lt_pure 1 rfl (by kernel_rfl) (by kernel_rfl) (by kernel_rfl) (by kernel_rfl) (fun _ _ _ h => h) (v := ?_) (yi_run rfl (fun w => ?_)) (fun _ => HS.out) ?_
      rotate_left
      · first | (go_simp; done) | (go_simp; with_reducible rfl)
      simp only [Act.put, List.setIfInBounds_toArray, List.set_cons_zero, List.set_cons_succ]
      refine lt_pure 2 rfl (by kernel_rfl) (by kernel_rfl) (by kernel_rfl) (by kernel_rfl) (fun _ _ _ h => h) (v := ?_) (yi_run rfl (fun w => ?_)) (fun _ => HS.out) ?_
      rotate_left
      · first | (go_simp; done) | (go_simp; with_reducible rfl)
      simp only [Act.put, List.setIfInBounds_toArray, List.set_cons_zero, List.set_cons_succ]
      refine lt_pure 3 rfl (by kernel_rfl) (by kernel_rfl) (by kernel_rfl) (by kernel_rfl) (fun _ _ _ h => h) (v := ?_) (yi_run rfl (fun w => ?_)) (fun _ => HS.out) ?_
      rotate_left
      · first | (go_simp; done) | (go_simp; with_reducible rfl)
      simp only [Act.put, List.setIfInBounds_toArray, List.set_cons_zero, List.set_cons_succ]
      refine lt_pure 4 rfl (by kernel_rfl) (by kernel_rfl) (by kernel_rfl) (by kernel_rfl) (fun _ _ _ h => h) (v := ?_) (yi_run rfl (fun w => ?_)) (fun _ => HS.out) ?_
      rotate_left
      · first | (go_simp; done) | (go_simp; with_reducible rfl)
      simp only [Act.put, List.setIfInBounds_toArray, List.set_cons_zero, List.set_cons_succ]
      refine lt_pure 5 rfl (by kernel_rfl) (by kernel_rfl) (by kernel_rfl) (by kernel_rfl) (fun _ _ _ h => h) (v := ?_) (yi_run rfl (fun w => ?_)) (fun _ => HS.out) ?_
      rotate_left
      · first | (go_simp; done) | (go_simp; with_reducible rfl)
      simp only [Act.put, List.setIfInBounds_toArray, List.set_cons_zero, List.set_cons_succ]
      refine lt_pure 6 rfl (by kernel_rfl) (by kernel_rfl) (by kernel_rfl) (by kernel_rfl) (fun _ _ _ h => h) (v := ?_) (yi_run rfl (fun w => ?_)) (fun _ => HS.out) ?_
      rotate_left
      · first | (go_simp; done) | (go_simp; with_reducible rfl)
      simp only [Act.put, List.setIfInBounds_toArray, List.set_cons_zero, List.set_cons_succ]
      refine lt_take 7 [12, 13, 14, 15] rfl (by kernel_rfl) (by kernel_rfl) (by kernel_rfl) (by kernel_rfl) (by kernel_rfl) (fun _ _ _ h => h) (yi_cell rfl rfl rfl (fun w hS => (World.ownsRow.cellAt (OW.row hS (i := 0) rfl) 2 (by show 2 < 4 * 1; omega)).trans rfl) (fun w => Tryd.isAgg5 w)) HS.out ?_
      simp only [Act.put, List.setIfInBounds_toArray, List.set_cons_zero, List.set_cons_succ]
      refine lt_pure 8 rfl (by kernel_rfl) (by kernel_rfl) (by kernel_rfl) (by kernel_rfl) (fun _ _ _ h => h) (v := ?_) (yi_run rfl (fun w => ?_)) (fun _ => HS.out) ?_
      rotate_left
      · first | (go_simp; done) | (go_simp; with_reducible rfl)
      simp only [Act.put, List.setIfInBounds_toArray, List.set_cons_zero, List.set_cons_succ]
      refine lt_pure 9 rfl (by kernel_rfl) (by kernel_rfl) (by kernel_rfl) (by kernel_rfl) (fun _ _ _ h => h) (v := ?_) (yi_run rfl (fun w => ?_)) (fun _ => HS.out) ?_
      rotate_left
      · first | (go_simp; done) | (go_simp; with_reducible rfl)
      simp only [Act.put, List.setIfInBounds_toArray, List.set_cons_zero, List.set_cons_succ]
      refine lt_pure 10 rfl (by kernel_rfl) (by kernel_rfl) (by kernel_rfl) (by kernel_rfl) (fun _ _ _ h => h) (v := ?_) (yi_run rfl (fun w => ?_)) (fun _ => HS.out) ?_
      rotate_left
      · first | (go_simp; done) | (go_simp; with_reducible rfl)
      simp only [Act.put, List.setIfInBounds_toArray, List.set_cons_zero, List.set_cons_succ]
      refine lt_take 11 [12, 13, 14, 15] rfl (by kernel_rfl) (by kernel_rfl) (by kernel_rfl) (by kernel_rfl) (by kernel_rfl) (fun _ _ _ h => h) (yi_cell rfl rfl rfl (fun w hS => (World.ownsRow.cellAt (OW.row hS (i := 0) rfl) 1 (by show 1 < 4 * 1; omega)).trans rfl) (fun w => Tryd.isAgg5 w)) HS.out ?_
      simp only [Act.put, List.setIfInBounds_toArray, List.set_cons_zero, List.set_cons_succ]
      refine lt_pure 12 rfl (by kernel_rfl) (by kernel_rfl) (by kernel_rfl) (by kernel_rfl) (fun _ _ _ h => h) (v := ?_) (yi_run rfl (fun w => ?_)) (fun _ => HS.out) ?_
      rotate_left
      · first | (go_simp; done) | (go_simp; with_reducible rfl)
      simp only [Act.put, List.setIfInBounds_toArray, List.set_cons_zero, List.set_cons_succ]
      refine lt_end 13 rfl (by kernel_rfl) rfl (by kernel_rfl) ?_
      refine wpo_store rfl HS.out 0 rfl 1 rfl (by show 1 < 4 * 1; omega) (u8v d) rfl (by kernel_rfl) rfl ?_
      intro z1 hz1 _
      simp only [Act.put]
      refine lt_pureF 14 rfl (by kernel_rfl) (by kernel_rfl) (by kernel_rfl) (by kernel_rfl) (by kernel_rfl) (fun _ _ _ h => h) (v := ?_) (yi_run rfl (fun w => ?_)) ?_
      rotate_left
      · first | (go_simp; done) | (go_simp; with_reducible rfl)
      simp only [Act.put, List.setIfInBounds_toArray, List.set_cons_zero, List.set_cons_succ]
      refine lt_end 15 rfl (by kernel_rfl) rfl (by kernel_rfl) ?_
      refine wpo_store rfl hz1 0 rfl 2 rfl (by show 2 < 4 * 1; omega) (u8v b) rfl (by kernel_rfl) rfl ?_
      intro z2 hz2 _
      simp only [Act.put]
      refine lt_done (by kernel_rfl) ?_
      clear HS
      have HX2 : Hid (OW w [bytO 5 (some ⟨g, 0, none⟩, c, [e, d, b, a])] z2) := Lib.hid hz2
      clear hz1 hz2
      go_wp2_with fail
      go_roundw
      case rel => exact .inr (.inr ⟨rfl, rfl, HX2⟩)
      case measure => simp [intOf]
    · go_wp2_with fail
      go_end0
      exact ⟨rfl, HX.out⟩
end Go.Proofs.YtmigjipfomfacaaDoor
namespace Go.Proofs.YtmigjipfomfacaaDoor
open Go.RowKit
set_option maxRecDepth 100000 in
set_option maxHeartbeats 2000000 in
theorem summed_any (l : List UInt8) (A : Option Addr) (n c : Nat) (w : World) (hs : Sl w A n c l) (h4 : 4 ≤ n) (ht : TabAt 0 w) :
    Calls Tryd.prog 44 #[.slice A n c] w fun e w' => e = .returned (.bool (lowB (sumL (l.take (n - 4))) == l.drop (n - 4))) ∧ Below w.heap.size w w' := by
  have f1 : Hid (∀ x : List UInt8, [x].flatten = x) := Lib.hid fun x => by simp
  obtain ⟨k, rfl⟩ : ∃ k, n = k + 4 := ⟨n - 4, by omega⟩
  have hcap := hs.cap
  have hlim := hs.lim
  obtain ⟨b1, o1, _, rfl, _, _, _⟩ := hs.rb.at_ (show 0 < k + 4 by omega)
  rw [show k + 4 - 4 = k from by omega]
  have HT4 := Lib.hid (hs.take (m := k) (by omega))
  have HD : Hid (∀ w', Below w.heap.size w w' → Sl w' (some ⟨b1, o1 + k, none⟩) 4 (c - k) (l.drop k)) := Lib.hid fun w' h => by
    have := (hs.later h).drop (k := k) (by omega) (by omega)
    rw [show k + 4 - k = 4 from by omega, Option.map_some, show (⟨b1, o1, none⟩ : Addr).add k = ⟨b1, o1 + k, none⟩ from by simp [Addr.add]] at this
    exact this
  have HTB : Hid (∀ w', Below w.heap.size w w' → TabAt 0 w') := Lib.hid fun w' h => ht.later h
  obtain ⟨t, htk⟩ : ∃ t, t = l.take k := ⟨_, rfl⟩
  obtain ⟨u, hu⟩ : ∃ t, t = l.drop k := ⟨_, rfl⟩
  rw [← htk] at HT4
  rw [← hu] at HD
  rw [← htk, ← hu]
  obtain ⟨s, hsl⟩ : ∃ s, s = sumL t := ⟨_, rfl⟩
  have HSL := Lib.hid hsl
  have hs32 : s < 4294967296 := by rw [hsl]; exact sumL_lt t
  rw [← hsl]
  obtain ⟨u3, u2, u1, u0, hf4, hlw⟩ : ∃ a b d e, four4 s = [a, b, d, e] ∧ lowB s = [e, d, b, a] := ⟨_, _, _, _, rfl, rfl⟩
  rw [hlw]
  have HF := Lib.hid hf4
  clear hs hsl htk hu ht h4 hf4 hlw
  have i1 : (0 : Int) ≤ (k : Int) := by omega
  have i2 : (k : Int) ≤ (c : Int) := by omega
  have i3 : (k : Int) ≤ (k : Int) + 4 := by omega
  go_enter Tryd.func44, Tryd.ntmps44
  go_wp2_with (first
    | (go_at_call 67; go_must (refine (sum_any [t] _ 1 1 _ (by omega) (by exact HT4.out.one _ _) (HTB.out _ ((Below.refl _ _).alloc (Nat.le_refl _) _))).mono ?_); rintro e w1 ⟨rfl, rfl⟩; rw [f1.out, ← HSL.out])
    | (go_at_call 66; go_must (refine (four_any s _ hs32).mono ?_); rintro e w2 hp; rw [HF.out] at hp; obtain ⟨A2, c2, rfl, _, ho, hb⟩ := hp.at_ (n := 4) rfl; have HB2 := Lib.hid (((Below.refl w.heap.size w).alloc (Nat.le_refl _) (.cells #[.slice (some ⟨b1, o1, none⟩) k c] 24)).trans (hb.mono (by simp))); obtain ⟨g, cp, hv, _, _, _⟩ := own_form ho (by show 0 < 4; omega); injection hv with hv _ hcp; subst hv; subst hcp; have HX := Lib.hid (OW.byt1 hb ho); clear hp hb ho)
    | (go_at_call 68; go_must (refine (reverse4_any _ _ _ _ g _ _ _ HX.out).mono ?_); rintro e w3 ⟨rfl, hx⟩; have HX3 := Lib.hid hx; have HB3 := Lib.hid (((Below.refl w.heap.size w).alloc (Nat.le_refl _) (.cells #[.slice (some ⟨b1, o1, none⟩) k c] 24)).trans (hx.up.mono (by simp))); clear hx)
    | (go_at_call 46; go_must (refine (equal_any [u0, u1, u2, u3] u _ _ 4 _ 4 _ _ (HX3.out.sl (i := 0) rfl rfl).rb (HD.out _ HB3.out).rb).mono ?_); rintro e w4 ⟨rfl, rfl⟩))
  go_ret
  exact ⟨rfl, HB3.out⟩
end Go.Proofs.YtmigjipfomfacaaDoor
namespace Go.Proofs.YtmigjipfomfacaaDoor
open Go.RowKit
def i64v (n : Nat) : Value := .int .i64 (n : Int)
def bldC (R : Nat) (bv pv : Value) (A : Option Addr) (n c : Nat) (B : Option Addr) (m d : Nat) (e : Ent) (kv : Value) (N : Nat) : List Value :=
  [i64v R, bv, pv, .slice A n c, .int .i64 e.fam, .slice B m d, .int .i64 e.ts, .int .i64 e.seq, .int .i64 e.kind, .slice none 0 0, kv, i64v N]
structure BldM where
  B : Option Addr
  bc : Nat
  pv : Value
  A : Option Addr
  ac : Nat
  Q : Option Addr
  qc : Nat
  K : Option Addr
  kc : Nat
  e : Ent
def bldO (R g : Nat) (s : BSt) (m : BldM) : List Ob :=
  [boxO g (bldC R (.slice m.B s.body.length m.bc) m.pv m.A m.e.row.length m.ac m.Q m.e.qual.length m.qc m.e (.slice m.K s.key.length m.kc) s.n), bytO 5 (m.B, m.bc, s.body), rowO 3 1 m.pv s.places.length (s.places.map i64v), bytO 5 (m.A, m.ac, m.e.row), bytO 5 (m.Q, m.qc, m.e.qual), bytO 5 (m.K, m.kc, s.key)]
def lastE (L : List Ent) (e : Ent) : Prop := ∀ l, L.getLast? = some l → e = { l with val := [] }
def Bld (R : Nat) (L : List Ent) (g : Nat) (os : List Ob) : Prop := (1 ≤ R ∧ R ≤ 16) ∧ sizeS (runB R L) ≤ 131072 ∧ (runB R L).key.length ≤ 1000000 ∧ (∀ l, l ∈ L → checkE l = 0) ∧ ∃ m : BldM, os = bldO R g (runB R L) m ∧ lastE L m.e
def szB (R : Nat) (L : List Ent) : Nat := if L = [] then 0 else sizeS (runB R L)
theorem OW.addF9 {w x y : World} {os ps : List Ob} (h : OW w os x) (k : OW x ps y) : OW w (ps ++ os) y := (h.app k).perm List.perm_append_comm
def BeginP (R : Int) (w : World) (e : Ending) (w' : World) : Prop :=
  ((R < 1 ∨ 16 < R) ∧ e = .returned (.tuple #[.pointer none, .int .i64 1]) ∧ Below w.heap.size w w') ∨
  (1 ≤ R ∧ R ≤ 16 ∧ ∃ g os, e = .returned (.tuple #[.pointer (some ⟨g, 0, none⟩), .int .i64 0]) ∧ Bld R.toNat [] g os ∧ OW w os w')
set_option maxRecDepth 100000 in
theorem begin_any (R : Int) (w : World) : Calls Tryd.prog 22 #[.int .i64 R] w (BeginP R w) := by
  by_cases h1 : R < 1
  · have hd : decide (R < 1) = true := decide_eq_true h1
    go_enter Tryd.func22, Tryd.ntmps22
    go_wp2_with fail
    go_ret2
    exact .inl ⟨.inl h1, rfl, Below.refl _ _⟩
  have hd : decide (R < 1) = false := decide_eq_false h1
  by_cases h2 : 16 < R
  · have hd2 : decide (R > 16) = true := decide_eq_true h2
    go_enter Tryd.func22, Tryd.ntmps22
    go_wp2_with fail
    go_ret2
    exact .inl ⟨.inr h2, rfl, Below.refl _ _⟩
  have hd2 : decide (R > 16) = false := decide_eq_false h2
  obtain ⟨r, rfl⟩ : ∃ r : Nat, R = (r : Int) := ⟨R.toNat, by omega⟩
  have HX := Lib.hid (OW.nil w)
  go_enter Tryd.func22, Tryd.ntmps22
  go_wp2_with (refine wl_box rfl (.tmp 11) rfl (bldC r (.slice none 0 0) (.slice none 0 0) none 0 0 none 0 0 noEnt (.slice none 0 0) 0) rfl HX.out ?_; intro g x1 hz _; replace HX := Lib.hid hz; clear hz)
  go_ret2
  refine .inr ⟨by omega, by omega, g, _, rfl, ⟨⟨by rw [Int.toNat_natCast]; omega, by rw [Int.toNat_natCast]; omega⟩, (by show 9 ≤ 131072; decide), Nat.zero_le _, (fun l h => by cases h), ⟨none, 0, .slice none 0 0, none, 0, none, 0, none, 0, noEnt⟩, rfl, fun l h => by cases h⟩, ?_⟩
  have hn : ∀ {os : List Ob} {z : World}, OW w os z → ∀ T : TypeId, OW w (os ++ [rowO T 1 (.slice none 0 0) 0 []]) z := fun h T => h.app ⟨Below.refl _ _, fun o ho => by
    obtain rfl := List.mem_singleton.1 ho
    exact ⟨(fun e => nomatch e), fun _ => own_nil _ _ _ _⟩, List.pairwise_singleton _ _⟩
  have h := hn (hn (hn (hn (hn HX.out 5) 3) 5) 5) 5
  exact h
set_option maxRecDepth 100000 in
theorem count_any {w x : World} {R g : Nat} {L : List Ent} {os rest : List Ob} (hb : Bld R L g os) (h : OW w (os ++ rest) x) :
    Calls Tryd.prog 41 #[.pointer (some ⟨g, 0, none⟩)] x fun e x' => e = .returned (.int .i64 (L.length : Nat)) ∧ Below x.heap.size x x' := by
  obtain ⟨_, _, _, _, m, rfl, _⟩ := hb
  have hc := h.cell (i := 0) (j := 11) rfl rfl
  rw [runB_n] at hc
  have hc : x.cell? ⟨g, 11, none⟩ = some (.int .i64 (L.length : Int)) := hc
  clear h
  go_enter Tryd.func41, Tryd.ntmps41
  go_wp2_with (refine wpList_load_cell rfl 3 (.tmp 5) rfl rfl hc (fun w => Tryd.isAgg3 w) ?_)
  go_ret
  exact ⟨rfl, Below.refl _ _⟩
set_option maxRecDepth 100000 in
theorem size_any {w x : World} {R g : Nat} {L : List Ent} {os rest : List Ob} (hb : Bld R L g os) (h : OW w (os ++ rest) x) :
    Calls Tryd.prog 40 #[.pointer (some ⟨g, 0, none⟩)] x fun e x' => e = .returned (.int .i64 (szB R L : Nat)) ∧ Below x.heap.size x x' := by
  obtain ⟨_, hsz, _, _, m, rfl, _⟩ := hb
  have hc := h.cell (i := 0) (j := 11) rfl rfl
  have c1 := h.cell (i := 0) (j := 1) rfl rfl
  have c2 := h.cell (i := 0) (j := 2) rfl rfl
  obtain ⟨P, pc, hpv, _⟩ := own_slice (h.row (i := 2) rfl)
  rw [runB_n] at hc
  obtain ⟨N, hN⟩ : ∃ N, N = L.length := ⟨_, rfl⟩
  obtain ⟨bl, hbl⟩ : ∃ N, N = (runB R L).body.length := ⟨_, rfl⟩
  obtain ⟨pl, hpl⟩ : ∃ N, N = (runB R L).places.length := ⟨_, rfl⟩
  have hS : Hid (sizeS (runB R L) = bl + 4 * pl + 9) := Lib.hid (by unfold sizeS; rw [hbl, hpl])
  have hlim : bl + 4 * pl + 9 ≤ 131072 := by have := hS.out; omega
  rw [hpv, ← hpl] at c2
  rw [← hbl] at c1
  rw [← hN] at hc
  have hc : x.cell? ⟨g, 11, none⟩ = some (.int .i64 (N : Int)) := hc
  have HN := Lib.hid hN
  clear h hN hbl hpl hpv hsz
  by_cases h0 : N = 0
  · subst h0
    have HL : Hid (L = []) := Lib.hid (List.eq_nil_of_length_eq_zero HN.out.symm)
    go_enter Tryd.func40, Tryd.ntmps40
    go_wp2_with (refine wpList_load_cell rfl 3 (.tmp 5) rfl rfl hc (fun w => Tryd.isAgg3 w) ?_)
    go_ret
    exact ⟨by rw [show szB R L = 0 from if_pos HL.out]; rfl, Below.refl _ _⟩
  have HL : Hid (L ≠ []) := Lib.hid (fun e => h0 (by rw [HN.out, e]; rfl))
  have hd : ((N : Int) == 0) = false := beq_eq_false_iff_ne.2 (by omega)
  go_enter Tryd.func40, Tryd.ntmps40
  go_wp2_with (refine wpList_load_cell rfl 3 (.tmp 5) rfl rfl hc (fun w => Tryd.isAgg3 w) ?_)
  go_quiet (fail)
  have HW2 := Lib.hid (below_drewN (n := nq) (Below.refl x.heap.size x))
  clear hc c1 c2
  generalize x.drewN nq = w3 at *
  go_wp2
  go_ret
  refine ⟨?_, HW2.out⟩
  rw [show szB R L = bl + 4 * pl + 9 from (if_neg HL.out).trans hS.out]
  push_cast
  rfl
end Go.Proofs.YtmigjipfomfacaaDoor
namespace Go.Proofs.YtmigjipfomfacaaDoor
open Go.RowKit
set_option maxRecDepth 100000 in
set_option maxHeartbeats 400000 in
theorem sclone_any (l : List UInt8) (A : Option Addr) (n c : Nat) (w : World) (hn : n ≤ 140737488355328) (hA : A = none → c = 0) (hr : RB w w.heap.size A n l) :
    Calls Tryd.prog 65 #[.slice A n c] w (BytesPost 5 l w) := by
  have hl := hr.len
  have hnil := fun (w' : World) => Lib.run_eql_slice_nil (P := Tryd.prog) w' 24 5 A n c 0 0 Tryd.underlying24
  cases A with
  | none =>
    obtain rfl := hA rfl
    have hn0 : n = 0 := by
      rcases Nat.eq_zero_or_pos n with h0 | h0
      · exact h0
      · obtain ⟨_, _, e, _⟩ := hr.2 h0
        cases e
    subst hn0
    have H : Hid (BytesPost 5 l w (.returned (.slice none 0 0)) w) := Lib.hid (by
      have hl0 : l = [] := List.eq_nil_of_length_eq_zero hl
      subst hl0
      exact bytes_post (n := 0) (own_nil _ _ _ _) (Below.refl _ _))
    clear hr hl
    go_enter Tryd.func65, Tryd.ntmps65
    go_wp2
    go_ret
    exact H.out
  | some ad =>
    have O1 := Lib.hid (u8s_one l)
    have HO : Hid ((w.alloc (.cells #[] 5)).ownsRow w.heap.size 5 1 (.slice (some ⟨w.heap.size, 0, none⟩) 0 0) 0 []) := Lib.hid (World.ownsRow_made w #[] 0 (Nat.le_refl _) (by decide) rfl)
    have HR : Hid (RB (w.alloc (.cells #[] 5)) w.heap.size (some ad) n l) := Lib.hid (Reads.alloc hr (Nat.le_refl _) _)
    clear hr hA
    go_enter Tryd.func65, Tryd.ntmps65
    go_wp2_with (at_builtin; refine wpList_append_reads _ rfl (.tmp 5) (.tmp 6) rfl Tryd.u8s' w.heap.size (.slice (some ⟨w.heap.size, 0, none⟩) 0 0) 0 [] rfl HO.out w.heap.size (some ad) n c (u8s l) rfl HR.out O1.out (by unfold maxLen; omega) (by omega) (by simp) ?_; intro v1 w1 hown1 hg1 hat1)
    go_ret
    rw [List.nil_append] at hown1
    exact bytes_post hown1 (below_app ((Below.refl _ _).alloc (Nat.le_refl _) _) HO.out hg1 (by simp) (Nat.le_refl _))
end Go.Proofs.YtmigjipfomfacaaDoor
