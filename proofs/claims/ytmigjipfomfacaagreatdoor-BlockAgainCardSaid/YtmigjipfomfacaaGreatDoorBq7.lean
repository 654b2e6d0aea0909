/-
  Laid together by merge.py: BlockQ4, Law, Law2, Law3, WireLaw, Law4, BlockLaw, BlockQL.
-/
import Derived.Test.YtmigjipfomfacaaGreatDoorBq6
import Derived.Test.YtmigjipfomfacaaGreatDoorBq5
import Derived.Test.YtmigjipfomfacaaGreatDoorBq1
import Derived.ProofKit
import Derived.SizedLaws
import Derived.Lib.SmallJoins
import Derived.Deep.Slices
import Derived.Deep.Fields
import Derived.Test.YtmigjipfomfacaaGreatDoorRows
import Derived.Test.YtmigjipfomfacaaGreatDoorBq2
import Derived.Test.YtmigjipfomfacaaGreatDoorCards
import Derived.Test.YtmigjipfomfacaaGreatDoorTie
import Derived.OpenShut
import Derived.Deep.DeepHandedRow
import Derived.Lib.LaidTab
import Derived.Test.YtmigjipfomfacaaGreatDoorBq4
namespace Go.Proofs.YtmigjipfomfacaaGreatDoor
open Go.RowKit
theorem open_u (b : List UInt8) (A : Option Addr) (n c : Nat) (w : World) (hs : Sl w A n c b) (ht : TabAt 0 w) :
    Calls Tryz.prog 9 #[.slice A n c] w fun e z => ∃ pv os, e = .returned (.tuple #[pv, .int .i64 (openE b).2]) ∧ OW w os z ∧ ((openE b).1 = none → pv = .pointer none) ∧ ∀ L, (openE b).1 = some L → ∃ g, pv = .pointer (some ⟨g, 0, none⟩) ∧ Bk5 (resB b) L g os :=
  (open_any b A n c w hs ht).mono fun e z h => by
    rcases h with ⟨L, g, os, h1, h2, h3, h4⟩ | ⟨h1, h2, h3⟩
    · refine ⟨_, os, by rw [h2, (openE_ok h1).2], h4, fun h => (by rw [h1] at h; cases h), fun L' h => ?_⟩
      rw [h1] at h; injection h with h; subst h
      exact ⟨g, rfl, h3⟩
    · exact ⟨_, [], h2, (OW.nil w).later h3, fun _ => rfl, fun L h => (by rw [h1] at h; cases h)⟩
theorem ropen_u (b : List UInt8) (A : Option Addr) (n c : Nat) (w : World) (hs : Sl w A n c b) :
    Calls Tryz.prog 10 #[.slice A n c] w fun e z => ∃ WA wn wc os, e = .returned (.tuple #[.slice WA wn wc, .int .i64 (openE b).2]) ∧ OW w os z ∧ ∀ L, (openE b).1 = some L → ∃ rs, rs.map ER.e = L ∧ rs.length = wn ∧ os = entsO WA wn wc rs :=
  (ropen_any b A n c w hs).mono fun e z h => by
    rcases h with ⟨rs, A', n', c', h1, h2, _, h3, h4⟩ | ⟨h1, h2, h3⟩
    · refine ⟨A', n', c', _, by rw [h3, h1], h4, fun L h => ?_⟩
      rw [h1] at h; injection h with h; subst h
      exact ⟨rs, rfl, h2, rfl⟩
    · exact ⟨none, 0, 0, [], h2, (OW.nil w).later h3, fun L h => (by rw [h1] at h; cases h)⟩
theorem openE_zero {b : List UInt8} : (openE b).2 = 0 ↔ ∃ L, (openE b).1 = some L := by
  constructor
  · intro h
    cases ho : (openE b).1 with
    | none => exact absurd h (openE_no ho)
    | some L => exact ⟨L, rfl⟩
  · rintro ⟨L, h⟩; exact (openE_ok h).2
structure QI where
  R : Nat
  g : Nat
  L : List Ent
  A : Option Addr
  n : Nat
  c : Nat
  ks : List Ob
def QI.ptr (q : QI) : Value := .pointer (some ⟨q.g, 0, none⟩)
def QI.lst (q : QI) : Value := .slice q.A q.n q.c
structure QOk (w : World) (q : QI) : Prop where
  ok : BkOk q.R q.L
  rd : ∀ z rest, OW w (q.ks ++ rest) z → BkR z q.R q.g q.L ∧ Ens z q.A q.n q.L
theorem qok_new {w : World} {b : List UInt8} {L : List Ent} {g : Nat} {os1 : List Ob} {rs : List ER} {A : Option Addr} {n c : Nat} (ho : (openE b).1 = some L) (h1 : Bk5 (resB b) L g os1) (h2 : rs.map ER.e = L) : QOk w ⟨resB b, g, L, A, n, c, os1 ++ entsO A n c rs⟩ :=
  ⟨BkOk.of ho, fun z rest h => by
    have h : OW w ((os1 ++ entsO A n c rs) ++ rest) z := h
    refine ⟨Bk5.reads h1 (rest := entsO A n c rs ++ rest) (by rw [← List.append_assoc]; exact h), ?_⟩
    rw [← h2]
    exact rowE_ens (c := c) (os := os1 ++ rest) (h.perm (by (refine perm_of_cnt fun a => ?_; (simp only [cntO_app, cntO_cons, cntO_nil]) <;> omega)))⟩
theorem flat_split {α β : Type} {l : List α} {i : Nat} {a : α} (f : α → List β) (h : l[i]? = some a) : ∃ rest, (l.flatMap f).Perm (f a ++ rest) := by
  obtain ⟨l1, l2, rfl, _⟩ := split_at h
  refine ⟨l1.flatMap f ++ l2.flatMap f, ?_⟩
  rw [List.flatMap_append, List.flatMap_cons]
  (refine perm_of_cnt fun a => ?_; (simp only [cntO_app, cntO_cons, cntO_nil]) <;> omega)
theorem OW.putB {w x y : World} {os : List Ob} {i : Nat} {T : TypeId} {A : Option Addr} {c n : Nat} {l mk : List UInt8} (h : OW w os x) (hi : os[i]? = some (bytO T (A, c, l ++ mk))) (hp : PutPost T w.heap.size A n c mk x y) : ∃ l', l'.length = n ∧ OW w (os.set i (bytO T (A, c, l' ++ mk))) y := by
  obtain ⟨l', h1, h2, h3⟩ := hp
  have hb : ∀ l : List UInt8, (bytO T (A, c, l)).blk = A.map (·.block) := fun l => byt_blk (A, c, l)
  exact ⟨l', h1, h.upd hi h3 (fun b _ e => by rw [hb]; exact e) ⟨(fun e => nomatch e), fun _ => h2⟩ fun b hq => .inl (by rw [hb] at hq ⊢; exact hq)⟩
theorem Tryz.blkS : SliceOf Tryz.prog 55 26 1 8 := SliceOf.mk' (z := .pointer none) Tryz.underlying55 (by kernel_rfl) rfl (by decide)
theorem Tryz.elsS : SliceOf Tryz.prog 56 30 1 24 := SliceOf.mk' (z := .slice none 0 0) Tryz.underlying56 (by kernel_rfl) rfl (by decide)
def pairL (ts : List (Int × Int)) : List Value := ts.flatMap fun t => [.int .i64 t.1, .int .i64 t.2]
theorem pairL_len (ts : List (Int × Int)) : (pairL ts).length = ts.length * 2 := by
  induction ts with
  | nil => rfl
  | cons t ts ih => unfold pairL at ih ⊢; rw [List.flatMap_cons, List.length_append, ih]; simp; omega
theorem pairL_at : ∀ {ts : List (Int × Int)} {i : Nat} {t : Int × Int}, ts[i]? = some t → (pairL ts)[i * 2]? = some (.int .i64 t.1) ∧ (pairL ts)[i * 2 + 1]? = some (.int .i64 t.2)
  | [], _, _, h => by cases h
  | a :: ts, 0, t, h => by injection h with h; subst h; exact ⟨rfl, rfl⟩
  | a :: ts, i + 1, t, h => by
    have := pairL_at (ts := ts) (i := i) (t := t) h
    have e : pairL (a :: ts) = .int .i64 a.1 :: .int .i64 a.2 :: pairL ts := rfl
    rw [e, show (i + 1) * 2 = i * 2 + 2 from by omega]
    exact this
set_option maxRecDepth 10000000 in
set_option maxHeartbeats 8000000 in
theorem again_any (b : List UInt8) (A : Option Addr) (n c : Nat) (key : List UInt8) (KA : Option Addr) (kn kc : Nat) (TA : Option Addr) (tn tc : Nat) (ts : List (Int × Int)) (w : World) (hs : Sl w A n c b) (hk : Sl w KA kn kc key) (hts : Reads w w.heap.size 2 TA tn (pairL ts)) (htl : ts.length = tn) (htn : tn ≤ 9223372036854775807) (ht : TabAt 0 w) :
    Calls Tryz.prog 4 #[.slice A n c, .slice KA kn kc, .slice TA tn tc] w fun e z => e = .returned (.bool true) ∧ Below w.heap.size w z := by
  have HK : Hid (∀ z, Below w.heap.size w z → Sl z KA kn kc key) := Lib.hid fun z hz => hk.later hz
  have HTB : Hid (∀ z, Below w.heap.size w z → TabAt 0 z) := Lib.hid fun z hz => ht.later hz
  have HT : Hid (∀ z, Below w.heap.size w z → Reads z z.heap.size 2 TA tn (pairL ts)) := Lib.hid fun z hz => (hts.below hz).more hz.size
  have HTL := Lib.hid htl
  obtain ⟨n0, hn0⟩ : ∃ z, z = min n 20000 := ⟨_, rfl⟩
  have hn02 : n0 ≤ 20000 := by omega
  have HS0 : Hid (Sl w A n c b) := Lib.hid hs
  have HS : Hid (∀ z, Below w.heap.size w z → Sl z A n0 c (b.take n0)) := Lib.hid fun z hz => (hs.later hz).take (by omega)
  have HN0 := Lib.hid hn0.symm
  obtain ⟨l0, hl0⟩ : ∃ z, z = b.take n0 := ⟨_, rfl⟩
  have HL0 : Hid (l0.length = n0) := Lib.hid (by rw [hl0]; exact (HS.out w (Below.refl _ _)).rb.len)
  rw [← hl0] at HS
  have HX := Lib.hid (OW.nil w)
  clear hs hk hts htl ht hn0 hl0
  go_enter Tryz.func4, Tryz.ntmps4
  go_wp2_with (first
    | (go_at_call 7; go_must (refine (cut5_any b A n c 20000 _ HS0.out (by decide)).mono ?_); rw [HN0.out]; rintro r z1 ⟨rfl, hz1⟩; rw [hz1]; clear hz1)
    | (go_at_call 6; go_must (refine (laid5_any l0 A n0 c _ (HS.out _ (Below.refl _ _)) (by omega)).mono ?_); rintro r z2 ⟨A2, c2, rfl, ho⟩; have HX1 := Lib.hid ho; clear ho HX))
  obtain ⟨bg, bc, hv, _⟩ := own_form (HX1.out.row (i := 0) rfl) (by show 0 < (l0 ++ mkL 70).length; rw [List.length_append, mkL_len]; omega)
  injection hv with hv _ hcp
  subst hv
  subst hcp
  have HX2 : Hid (OW w (bytO 5 (some ⟨bg, 0, none⟩, c2, l0 ++ mkL 70) :: rowO 26 1 (.slice none 0 0) 0 (([] : List QI).map QI.ptr) :: rowO 30 1 (.slice none 0 0) 0 (([] : List QI).map QI.lst) :: ([] : List QI).flatMap QI.ks) z2) := Lib.hid ((HX1.out.nilRow 26 1).nilRow 30 1)
  clear HX1
  go_wp2_with fail
  go_loopw [8, 9, 10] (fun ov wv iv wr => ∃ (i m : Nat) (l : List UInt8) (qs : List QI) (OA : Option Addr) (oc : Nat) (WA : Option Addr) (wc : Nat), i ≤ tn + 1 ∧ i ≤ 25 ∧ m ≤ i ∧ ov = .slice OA m oc ∧ wv = .slice WA m wc ∧ iv = .int .i64 i ∧ Hid (l.length = n0) ∧ Hid (qs.length = m) ∧ Hid (∀ q, q ∈ qs → QOk w q) ∧ Hid (OW w (bytO 5 (some ⟨bg, 0, none⟩, c2, l ++ mkL 70) :: rowO 26 1 (.slice OA m oc) m (qs.map QI.ptr) :: rowO 30 1 (.slice WA m wc) m (qs.map QI.lst) :: qs.flatMap QI.ks) wr)) (fun _ _ iv _ => 25 - (intOf iv).toNat)
  case atStart => exact ⟨0, 0, l0, [], none, 0, none, 0, by omega, by omega, by omega, rfl, rfl, rfl, HL0, Lib.hid rfl, Lib.hid (fun q h => by cases h), HX2⟩
  case round =>
    clear HX2 HL0
    obtain ⟨i, m, l, qs, OA, oc, WA, wc, hi1, hi2, hmi, rfl, rfl, rfl, HL, HQL, HQ, HX⟩ := hrel
    obtain ⟨w1, rfl⟩ : ∃ z : World, z = wr := ⟨_, rfl⟩
    by_cases hlt : i ≤ tn ∧ i ≤ 24
    case neg =>
      by_cases h1 : i ≤ tn
      · have d1 : decide ((i : Int) ≤ (tn : Int)) = true := decide_eq_true (by omega)
        have d2 : decide ((i : Int) ≤ 24) = false := decide_eq_false (by omega)
        go_wp2_with (go_at_call 5; go_must (refine (told_any _ (HTB.out _ HX.out.up)).mono ?_); rintro r z3 ⟨rfl, hb⟩; have HB := Lib.hid (HX.out.up.trans (hb.mono HX.out.up.size)); clear hb)
        go_ret
        exact ⟨rfl, HB.out⟩
      · have d1 : decide ((i : Int) ≤ (tn : Int)) = false := decide_eq_false (by omega)
        go_wp2_with (go_at_call 5; go_must (refine (told_any _ (HTB.out _ HX.out.up)).mono ?_); rintro r z3 ⟨rfl, hb⟩; have HB := Lib.hid (HX.out.up.trans (hb.mono HX.out.up.size)); clear hb)
        go_ret
        exact ⟨rfl, HB.out⟩
    have d1 : decide ((i : Int) ≤ (tn : Int)) = true := decide_eq_true (by omega)
    have d2 : decide ((i : Int) ≤ 24) = true := decide_eq_true (by omega)
    obtain ⟨ke, hke⟩ : ∃ z, z = (openE l).2 := ⟨_, rfl⟩
    have HKE := Lib.hid hke.symm
    clear hke
    go_upto_region 10 with (first
      | (go_at_call 8; go_must (refine (copied_any l (some ⟨bg, 0, none⟩) n0 c2 _ (by omega) (sl_front' (HX.out.sl (i := 0) rfl rfl) HL.out).rb).mono ?_); rintro r x1 hp; obtain ⟨A3, c3, rfl, _, ho, hb⟩ := hp.at_ HL.out; have HX1 : Hid (OW w (bytO 5 (A3, c3, l) :: (bytO 5 (some ⟨bg, 0, none⟩, c2, l ++ mkL 70) :: rowO 26 1 (.slice OA m oc) m (qs.map QI.ptr) :: rowO 30 1 (.slice WA m wc) m (qs.map QI.lst) :: qs.flatMap QI.ks)) x1) := Lib.hid ((HX.out.app (OW.byt1 hb ho)).perm List.perm_append_comm); clear hp ho hb HX)
      | (go_at_call 9; go_must (refine (open_u l (some ⟨bg, 0, none⟩) n0 c2 _ (sl_front' (HX1.out.sl (i := 1) rfl rfl) HL.out) (HTB.out _ HX1.out.up)).mono ?_); rw [HKE.out]; rintro r x2 ⟨pv, os1, rfl, ho, h1, h2⟩; have HP0 := Lib.hid h1; have HP1 := Lib.hid h2; have HX2 : Hid (OW w (os1 ++ (bytO 5 (A3, c3, l) :: (bytO 5 (some ⟨bg, 0, none⟩, c2, l ++ mkL 70) :: rowO 26 1 (.slice OA m oc) m (qs.map QI.ptr) :: rowO 30 1 (.slice WA m wc) m (qs.map QI.lst) :: qs.flatMap QI.ks))) x2) := Lib.hid ((HX1.out.app ho).perm List.perm_append_comm); clear ho h1 h2 HX1)
      | (go_at_call 10; go_must (refine (ropen_u l A3 n0 c3 _ (HX2.out.slm (T := 5) (List.mem_append_right _ (List.mem_cons_self ..)) HL.out)).mono ?_); rw [HKE.out]; rintro r x3 ⟨RA, rn, rc, os2, rfl, ho, h2⟩; have HR1 := Lib.hid h2; have HX3 : Hid (OW w (os2 ++ (os1 ++ (bytO 5 (A3, c3, l) :: (bytO 5 (some ⟨bg, 0, none⟩, c2, l ++ mkL 70) :: rowO 26 1 (.slice OA m oc) m (qs.map QI.ptr) :: rowO 30 1 (.slice WA m wc) m (qs.map QI.lst) :: qs.flatMap QI.ks)))) x3) := Lib.hid ((HX2.out.app ho).perm List.perm_append_comm); clear ho h2 HX2))
    have e1 : (ke != ke) = false := by simp
    have e2 : (true != true) = false := rfl
    have e3 : (false != false) = false := rfl
    have HML : Hid (∀ z, OW w (os2 ++ (os1 ++ (bytO 5 (A3, c3, l) :: (bytO 5 (some ⟨bg, 0, none⟩, c2, l ++ mkL 70) :: rowO 26 1 (.slice OA m oc) m (qs.map QI.ptr) :: rowO 30 1 (.slice WA m wc) m (qs.map QI.lst) :: qs.flatMap QI.ks)))) z → Sl z (some ⟨bg, 0, none⟩) (n0 + 75) c2 (l ++ mkL 70) ∧ RB z z.heap.size A3 n0 l) := Lib.hid fun z hz => ⟨hz.slm (T := 5) (List.mem_append_right _ (List.mem_append_right _ (List.mem_cons_of_mem _ (List.mem_cons_self ..)))) (by rw [List.length_append, mkL_len, HL.out]), (hz.slm (T := 5) (List.mem_append_right _ (List.mem_append_right _ (List.mem_cons_self ..))) HL.out).rb⟩
    go_cut [57] (fun v wx => v = .bool false ∧ Hid (OW w (os2 ++ (os1 ++ (bytO 5 (A3, c3, l) :: (bytO 5 (some ⟨bg, 0, none⟩, c2, l ++ mkL 70) :: rowO 26 1 (.slice OA m oc) m (qs.map QI.ptr) :: rowO 30 1 (.slice WA m wc) m (qs.map QI.lst) :: qs.flatMap QI.ks)))) wx))
    case first =>
      cases ho : (openE l).1 with
      | none =>
        have hk0 : ke ≠ 0 := fun h => (by obtain ⟨L, hL⟩ := openE_zero.1 (HKE.out.trans h); rw [ho] at hL; cases hL)
        obtain rfl := HP0.out ho
        have e4 : (ke != 0) = true := bne_iff_ne.2 hk0
        clear ho hk0
        go_wp2_with (go_at_call 11; go_must (refine (intact_any l _ _ n0 c2 c3 _ (HML.out _ HX3.out).1 (HML.out _ HX3.out).2 (by omega)).mono ?_); rintro r x4 ⟨rfl, hb⟩; have HX4 := Lib.hid (HX3.out.later hb); clear hb HX3)
        go_meet
        exact ⟨rfl, HX4⟩
      | some L =>
        have hk0 : ke = 0 := by rw [← HKE.out]; exact openE_zero.2 ⟨L, ho⟩
        obtain ⟨g, rfl, _⟩ := HP1.out L ho
        have e4 : (ke != 0) = false := by rw [hk0]; rfl
        clear ho hk0
        go_wp2_with (go_at_call 11; go_must (refine (intact_any l _ _ n0 c2 c3 _ (HML.out _ HX3.out).1 (HML.out _ HX3.out).2 (by omega)).mono ?_); rintro r x4 ⟨rfl, hb⟩; have HX4 := Lib.hid (HX3.out.later hb); clear hb HX3)
        go_meet
        exact ⟨rfl, HX4⟩
    clear HX3 HML
    obtain ⟨rfl, HX4⟩ := hcut
    obtain ⟨w4, rfl⟩ : ∃ z : World, z = wc := ⟨_, rfl⟩
    go_upto_if 59 with fail
    go_cut [8, 9] (fun ov wv wx => ∃ (m2 : Nat) (qs2 : List QI) (OA2 : Option Addr) (oc2 : Nat) (WA2 : Option Addr) (wc2 : Nat), ov = .slice OA2 m2 oc2 ∧ wv = .slice WA2 m2 wc2 ∧ m2 ≤ i + 1 ∧ Hid (qs2.length = m2) ∧ Hid (∀ q, q ∈ qs2 → QOk w q) ∧ Hid (OW w (bytO 5 (some ⟨bg, 0, none⟩, c2, l ++ mkL 70) :: rowO 26 1 (.slice OA2 m2 oc2) m2 (qs2.map QI.ptr) :: rowO 30 1 (.slice WA2 m2 wc2) m2 (qs2.map QI.lst) :: qs2.flatMap QI.ks) wx))
    case first =>
      cases ho : (openE l).1 with
      | none =>
        have hk0 : ke ≠ 0 := fun h => (by obtain ⟨L, hL⟩ := openE_zero.1 (HKE.out.trans h); rw [ho] at hL; cases hL)
        have e4 : (ke == 0) = false := beq_eq_false_iff_ne.2 hk0
        clear ho hk0
        go_wp2_with fail
        go_meet
        exact ⟨m, qs, OA, oc, WA, wc, rfl, rfl, by omega, HQL, HQ, Lib.hid (HX4.out.right.right.erase 0)⟩
      | some L =>
        have hk0 : ke = 0 := by rw [← HKE.out]; exact openE_zero.2 ⟨L, ho⟩
        obtain ⟨g, rfl, hb5⟩ := HP1.out L ho
        obtain ⟨rs, hrs, hrn, rfl⟩ := HR1.out L ho
        have e4 : (ke == 0) = true := by rw [hk0]; rfl
        obtain ⟨q, hq⟩ : ∃ q : QI, q = ⟨resB l, g, L, RA, rn, rc, os1 ++ entsO RA rn rc rs⟩ := ⟨_, rfl⟩
        have HQN : Hid (QOk w q) := Lib.hid (by rw [hq]; exact qok_new ho hb5 hrs)
        have HX5 : Hid (OW w (bytO 5 (some ⟨bg, 0, none⟩, c2, l ++ mkL 70) :: rowO 26 1 (.slice OA m oc) m (qs.map QI.ptr) :: rowO 30 1 (.slice WA m wc) m (qs.map QI.lst) :: (qs ++ [q]).flatMap QI.ks) w4) := Lib.hid (by
          have h := HX4.out
          have e : (qs ++ [q]).flatMap QI.ks = qs.flatMap QI.ks ++ (os1 ++ entsO RA rn rc rs) := by rw [List.flatMap_append, List.flatMap_cons, List.flatMap_nil, List.append_nil, hq]
          rw [e]
          refine OW.erase (h.perm (os' := bytO 5 (A3, c3, l) :: (bytO 5 (some ⟨bg, 0, none⟩, c2, l ++ mkL 70) :: rowO 26 1 (.slice OA m oc) m (qs.map QI.ptr) :: rowO 30 1 (.slice WA m wc) m (qs.map QI.lst) :: (qs.flatMap QI.ks ++ (os1 ++ entsO RA rn rc rs)))) (by (refine perm_of_cnt fun a => ?_; (simp only [cntO_app, cntO_cons, cntO_nil]) <;> omega))) 0)
        have HQP : Hid (q.ptr = .pointer (some ⟨g, 0, none⟩) ∧ q.lst = .slice RA rn rc) := Lib.hid (by rw [hq]; exact ⟨rfl, rfl⟩)
        clear ho hk0 hb5 hrs hrn hq HX4 HP0 HP1 HR1
        have tk1 : True := trivial
        go_wp2_with (first
          | (refine wl_build rfl #[(0, .tmp 61)] rfl #[.pointer (some ⟨g, 0, none⟩)] Tryz.blkS (.pointer none) (by kernel_rfl) (by decide) (by decide) (by decide) rfl (by kernel_rfl) HX5.out ?_; intro g5 x5 hz _; have HX6 := Lib.hid hz; clear hz HX5)
          | (at_builtin; (have _t := tk1); go_must (refine wl_append rfl (.tmp 60) (.tmp 62) rfl Tryz.blkS HX6.out 1 rfl rfl _ (some ⟨g5, 0, none⟩) 1 1 [.pointer (some ⟨g, 0, none⟩)] rfl (Reads.own (HX6.out.rowm (List.mem_append_right _ (.head _)))) (by simp [Value.oneCell']) (by unfold maxLen; omega) (by omega) ?_); intro A6 c6 x6 hz _; have HX7 : Hid (OW w (bytO 5 (some ⟨bg, 0, none⟩, c2, l ++ mkL 70) :: rowO 26 1 (.slice A6 (m + 1) c6) (m + 1) ((qs ++ [q]).map QI.ptr) :: rowO 30 1 (.slice WA m wc) m (qs.map QI.lst) :: (qs ++ [q]).flatMap QI.ks) x6) := Lib.hid (by rw [List.map_append, List.map_cons, List.map_nil, HQP.out.1]; exact OW.left (ps := [_]) hz); clear hz HX6 tk1 _t)
          | (refine wl_build rfl #[(0, .tmp 65)] rfl #[.slice RA rn rc] Tryz.elsS (.slice none 0 0) (by kernel_rfl) (by decide) (by decide) (by decide) rfl (by kernel_rfl) HX7.out ?_; intro g7 x7 hz _; have HX8 := Lib.hid hz; clear hz HX7)
          | (at_builtin; go_must (refine wl_append rfl (.tmp 64) (.tmp 66) rfl Tryz.elsS HX8.out 2 rfl rfl _ (some ⟨g7, 0, none⟩) 1 1 [.slice RA rn rc] rfl (Reads.own (HX8.out.rowm (List.mem_append_right _ (.head _)))) (by simp [Value.oneCell']) (by unfold maxLen; omega) (by omega) ?_); intro A8 c8 x8 hz _; have HX9 : Hid (OW w (bytO 5 (some ⟨bg, 0, none⟩, c2, l ++ mkL 70) :: rowO 26 1 (.slice A6 (m + 1) c6) (m + 1) ((qs ++ [q]).map QI.ptr) :: rowO 30 1 (.slice A8 (m + 1) c8) (m + 1) ((qs ++ [q]).map QI.lst) :: (qs ++ [q]).flatMap QI.ks) x8) := Lib.hid (by rw [List.map_append (f := QI.lst), List.map_cons, List.map_nil, HQP.out.2]; exact OW.left (ps := [_]) hz); clear hz HX8))
        go_meet
        exact ⟨m + 1, qs ++ [q], A6, c6, A8, c8, rfl, rfl, by omega, Lib.hid (by rw [List.length_append, HQL.out]; rfl), Lib.hid (fun q' h => by
          rcases List.mem_append.1 h with h | h
          · exact HQ.out q' h
          · rw [List.mem_singleton.1 h]; exact HQN.out), HX9⟩
    clear HX4 HQ HQL HP0 HP1 HR1 HKE
    obtain ⟨m2, qs2, OA2, oc2, WA2, wc2, rfl, rfl, hm2, HQL, HQ, HX⟩ := hcut
    obtain ⟨w5, rfl⟩ : ∃ z : World, z = wc := ⟨_, rfl⟩
    go_upto_if 71 with fail
    go_cut [] (fun wx => ∃ l2 : List UInt8, Hid (l2.length = n0) ∧ Hid (OW w (bytO 5 (some ⟨bg, 0, none⟩, c2, l2 ++ mkL 70) :: rowO 26 1 (.slice OA2 m2 oc2) m2 (qs2.map QI.ptr) :: rowO 30 1 (.slice WA2 m2 wc2) m2 (qs2.map QI.lst) :: qs2.flatMap QI.ks) wx))
    case first =>
      by_cases hit : i < tn
      case neg =>
        have d3 : decide ((i : Int) < (tn : Int)) = false := decide_eq_false (by omega)
        go_wp2_with fail
        go_meet
        exact ⟨l, HL, HX⟩
      have d3 : decide ((i : Int) < (tn : Int)) = true := decide_eq_true (by omega)
      obtain ⟨t, hti⟩ : ∃ t, ts[i]? = some t := ⟨_, List.getElem?_eq_getElem (by rw [HTL.out]; exact hit)⟩
      obtain ⟨tb, tof, hTA, htb, _⟩ := (HT.out w (Below.refl _ _)).2 (show 0 < tn by omega)
      subst hTA
      have HTC : Hid (∀ z, Below w.heap.size w z → z.cell? ⟨tb, tof + i * 2, none⟩ = some (.int .i64 t.1) ∧ z.cell? ⟨tb, tof + i * 2 + 1, none⟩ = some (.int .i64 t.2)) := Lib.hid fun z hz => by
        obtain ⟨b', o', h1, _, h2⟩ := (HT.out z hz).2 (show 0 < tn by omega)
        injection h1 with h1; injection h1 with h3 h4
        subst h3; subst h4
        obtain ⟨p1, p2⟩ := pairL_at hti
        exact ⟨h2 _ _ p1, h2 _ _ p2⟩
      obtain ⟨t1, ht1⟩ : ∃ z, z = t.1 := ⟨_, rfl⟩
      obtain ⟨t2, ht2⟩ : ∃ z, z = t.2 := ⟨_, rfl⟩
      rw [← ht1, ← ht2] at HTC
      have j1 : (0 : Int) ≤ (i : Int) := by omega
      have j2 : (i : Int) < (tn : Int) := by omega
      clear hti htb ht1 ht2
      go_upto_region 16 with fail
      refine lt_start [11] (by kernel_rfl) ?_
      intro xd hd
      refine ⟨fun z => OW w (bytO 5 (some ⟨bg, 0, none⟩, c2, l ++ mkL 70) :: rowO 26 1 (.slice OA2 m2 oc2) m2 (qs2.map QI.ptr) :: rowO 30 1 (.slice WA2 m2 wc2) m2 (qs2.map QI.lst) :: qs2.flatMap QI.ks) z, ?_⟩
      have HS9 := Lib.hid (HX.out.later hd)
      refine lt_pure 0 rfl (by kernel_rfl) (by kernel_rfl) (by kernel_rfl) (by kernel_rfl) (fun _ _ _ h => h) (v := ?_) (yi_run rfl (fun w => ?_)) (fun _ => HS9.out) ?_
      rotate_left
      · first | (go_simp; done) | (go_simp; with_reducible rfl)
      simp only [Act.put, List.setIfInBounds_toArray, List.set_cons_zero, List.set_cons_succ]
      refine lt_pure 1 rfl (by kernel_rfl) (by kernel_rfl) (by kernel_rfl) (by kernel_rfl) (fun _ _ _ h => h) (v := ?_) (yi_run rfl (fun w => ?_)) (fun _ => HS9.out) ?_
      rotate_left
      · first | (go_simp; done) | (go_simp; with_reducible rfl)
      simp only [Act.put, List.setIfInBounds_toArray, List.set_cons_zero, List.set_cons_succ]
      refine lt_pure 2 rfl (by kernel_rfl) (by kernel_rfl) (by kernel_rfl) (by kernel_rfl) (fun _ _ _ h => h) (v := ?_) (yi_run rfl (fun w => ?_)) (fun _ => HS9.out) ?_
      rotate_left
      · first | (go_simp; done) | (go_simp; with_reducible rfl)
      simp only [Act.put, List.setIfInBounds_toArray, List.set_cons_zero, List.set_cons_succ]
      refine lt_pure 3 rfl (by kernel_rfl) (by kernel_rfl) (by kernel_rfl) (by kernel_rfl) (fun _ _ _ h => h) (v := ?_) (yi_run rfl (fun w => ?_)) (fun _ => HS9.out) ?_
      rotate_left
      · first | (go_simp; done) | (go_simp; with_reducible rfl)
      simp only [Act.put, List.setIfInBounds_toArray, List.set_cons_zero, List.set_cons_succ]
      refine lt_pure 4 rfl (by kernel_rfl) (by kernel_rfl) (by kernel_rfl) (by kernel_rfl) (fun _ _ _ h => h) (v := ?_) (yi_run rfl (fun w => ?_)) (fun _ => HS9.out) ?_
      rotate_left
      · first | (go_simp; done) | (go_simp; with_reducible rfl)
      simp only [Act.put, List.setIfInBounds_toArray, List.set_cons_zero, List.set_cons_succ]
      refine lt_take 5 [11] rfl (by kernel_rfl) (by kernel_rfl) (by kernel_rfl) (by kernel_rfl) (by kernel_rfl) (fun _ _ _ h => h) (yi_cell rfl rfl rfl (fun w hS => (HTC.out w (OW.up hS)).1) (fun w => Tryz.isAgg3 w)) HS9.out ?_
      simp only [Act.put, List.setIfInBounds_toArray, List.set_cons_zero, List.set_cons_succ]
      refine lt_pure 6 rfl (by kernel_rfl) (by kernel_rfl) (by kernel_rfl) (by kernel_rfl) (fun _ _ _ h => h) (v := ?_) (yi_run rfl (fun w => ?_)) (fun _ => HS9.out) ?_
      rotate_left
      · first | (go_simp; done) | (go_simp; with_reducible rfl)
      simp only [Act.put, List.setIfInBounds_toArray, List.set_cons_zero, List.set_cons_succ]
      refine lt_pure 7 rfl (by kernel_rfl) (by kernel_rfl) (by kernel_rfl) (by kernel_rfl) (fun _ _ _ h => h) (v := ?_) (yi_run rfl (fun w => ?_)) (fun _ => HS9.out) ?_
      rotate_left
      · first | (go_simp; done) | (go_simp; with_reducible rfl)
      simp only [Act.put, List.setIfInBounds_toArray, List.set_cons_zero, List.set_cons_succ]
      refine lt_pure 8 rfl (by kernel_rfl) (by kernel_rfl) (by kernel_rfl) (by kernel_rfl) (fun _ _ _ h => h) (v := ?_) (yi_run rfl (fun w => ?_)) (fun _ => HS9.out) ?_
      rotate_left
      · first | (go_simp; done) | (go_simp; with_reducible rfl)
      simp only [Act.put, List.setIfInBounds_toArray, List.set_cons_zero, List.set_cons_succ]
      refine lt_pure 9 rfl (by kernel_rfl) (by kernel_rfl) (by kernel_rfl) (by kernel_rfl) (fun _ _ _ h => h) (v := ?_) (yi_run rfl (fun w => ?_)) (fun _ => HS9.out) ?_
      rotate_left
      · first | (go_simp; done) | (go_simp; with_reducible rfl)
      simp only [Act.put, List.setIfInBounds_toArray, List.set_cons_zero, List.set_cons_succ]
      refine lt_take 10 [11] rfl (by kernel_rfl) (by kernel_rfl) (by kernel_rfl) (by kernel_rfl) (by kernel_rfl) (fun _ _ _ h => h) (yi_cell rfl rfl rfl (fun w hS => (HTC.out w (OW.up hS)).2) (fun w => Tryz.isAgg3 w)) HS9.out ?_
      simp only [Act.put, List.setIfInBounds_toArray, List.set_cons_zero, List.set_cons_succ]
      refine lt_call 11 rfl (by kernel_rfl) rfl rfl ⟨_, Tryz.func22, by decide, by kernel_rfl⟩ [.slice (some ⟨bg, 0, none⟩) n0 c2, .int .i64 t1, .int .i64 t2] rfl ?_
      refine (put_any w.heap.size l (mkL 70) (some ⟨bg, 0, none⟩) n0 c2 t1 t2 _ (HS9.out.byt (i := 0) rfl) HL.out (by omega)).mono ?_
      rintro r x7 ⟨rfl, hp⟩
      obtain ⟨l2, hl2, hx2⟩ := HS9.out.putB (i := 0) rfl hp
      have HL2 := Lib.hid hl2
      have HX7 : Hid (OW w (bytO 5 (some ⟨bg, 0, none⟩, c2, l2 ++ mkL 70) :: rowO 26 1 (.slice OA2 m2 oc2) m2 (qs2.map QI.ptr) :: rowO 30 1 (.slice WA2 m2 wc2) m2 (qs2.map QI.lst) :: qs2.flatMap QI.ks) x7) := Lib.hid hx2
      clear hp hl2 hx2
      refine ⟨_, rfl, (fun e => nomatch e), ?_⟩
      simp only [Act.put, List.setIfInBounds_toArray, List.set_cons_zero, List.set_cons_succ]
      refine lt_done (by kernel_rfl) ?_
      clear HS9
      by_cases h3 : i % 3 = 1
      · have f1 : ((i : Int).tmod 3) = 1 := by rw [show (3 : Int) = ((3 : Nat) : Int) from rfl, ← Int.ofNat_tmod, h3]; rfl
        have f2 : ((i : Int) % 3) = 1 := by omega
        go_wp2_with fail
        go_meet
        exact ⟨l2, HL2, HX7⟩
      · have f1 : ¬ ((i : Int).tmod 3) = 1 := by rw [show (3 : Int) = ((3 : Nat) : Int) from rfl, ← Int.ofNat_tmod]; omega
        have f2 : ¬ ((i : Int) % 3) = 1 := by omega
        have f3 : (((i : Int).tmod 3) != 1) = true := bne_iff_ne.2 f1
        have f4 : (((i : Int) % 3) != 1) = true := bne_iff_ne.2 f2
        go_wp2_with (go_at_call 23; go_must (refine (lsum_any w.heap.size l2 (mkL 70) (some ⟨bg, 0, none⟩) n0 c2 _ (HX7.out.byt (i := 0) rfl) HL2.out (by omega)).mono ?_); rintro r x8 ⟨rfl, hp⟩; obtain ⟨l3, hl3, hx3⟩ := HX7.out.putB (i := 0) rfl hp; have HL3 := Lib.hid hl3; have HX8 := Lib.hid hx3; clear hp hl3 hx3)
        go_meet
        exact ⟨l3, HL3, HX8⟩
    clear HX HL
    obtain ⟨l2, HL2, HX⟩ := hcut
    obtain ⟨w6, rfl⟩ : ∃ z : World, z = wc := ⟨_, rfl⟩
    go_wp2_with fail
    go_loopw [16] (fun kv wr => ∃ k : Nat, k ≤ m2 ∧ kv = .int .i64 k ∧ Hid (OW w (bytO 5 (some ⟨bg, 0, none⟩, c2, l2 ++ mkL 70) :: rowO 26 1 (.slice OA2 m2 oc2) m2 (qs2.map QI.ptr) :: rowO 30 1 (.slice WA2 m2 wc2) m2 (qs2.map QI.lst) :: qs2.flatMap QI.ks) wr)) (fun kv _ => m2 - (intOf kv).toNat)
    case atStart => exact ⟨0, Nat.zero_le _, rfl, HX⟩
    case round =>
      clear HX
      obtain ⟨k, hkm, rfl, HX⟩ := hrel
      obtain ⟨w7, rfl⟩ : ∃ z : World, z = wr := ⟨_, rfl⟩
      by_cases hlt2 : k < m2
      case neg =>
        obtain rfl : k = m2 := by omega
        have d5 : decide ((k : Int) < (k : Int)) = false := decide_eq_false (by omega)
        go_wp2_with fail
        go_roundw
        case rel => exact ⟨i + 1, k, l2, qs2, OA2, oc2, WA2, wc2, by omega, by omega, by omega, rfl, rfl, by go_num, HL2, HQL, HQ, HX⟩
        case measure => simp [intOf]; omega
      have d5 : decide ((k : Int) < (m2 : Int)) = true := decide_eq_true (by omega)
      obtain ⟨q, hq⟩ : ∃ q, qs2[k]? = some q := ⟨_, List.getElem?_eq_getElem (by rw [HQL.out]; exact hlt2)⟩
      obtain ⟨fr, hfr⟩ := flat_split QI.ks hq
      have hQ := HQ.out q (List.mem_of_getElem? hq)
      have hrd := hQ.rd _ _ (HX.out.perm (os' := q.ks ++ (fr ++ [bytO 5 (some ⟨bg, 0, none⟩, c2, l2 ++ mkL 70), rowO 26 1 (.slice OA2 m2 oc2) m2 (qs2.map QI.ptr), rowO 30 1 (.slice WA2 m2 wc2) m2 (qs2.map QI.lst)])) ((List.perm_append_comm (l₁ := [bytO 5 (some ⟨bg, 0, none⟩, c2, l2 ++ mkL 70), rowO 26 1 (.slice OA2 m2 oc2) m2 (qs2.map QI.ptr), rowO 30 1 (.slice WA2 m2 wc2) m2 (qs2.map QI.lst)]) (l₂ := qs2.flatMap QI.ks)).trans (by rw [← List.append_assoc]; exact List.Perm.append_right _ hfr)))
      have HRD := Lib.hid hrd
      have HQK := Lib.hid hQ.ok
      obtain ⟨og, ocp, hv, _⟩ := own_form (HX.out.row (i := 1) rfl) (by show 0 < m2; omega)
      injection hv with hv1 _ hv2
      obtain ⟨wg, wcp, hv', _⟩ := own_form (HX.out.row (i := 2) rfl) (by show 0 < m2; omega)
      injection hv' with hv3 _ hv4
      subst hv1; subst hv2; subst hv3; subst hv4
      have hog : og < w7.heap.size := (World.ownsRow.lt (HX.out.row (i := 1) rfl) og rfl).2
      have hwg : wg < w7.heap.size := (World.ownsRow.lt (HX.out.row (i := 2) rfl) wg rfl).2
      have c1 : w7.cell? ⟨og, k, none⟩ = some (.pointer (some ⟨q.g, 0, none⟩)) := by
        have h := World.ownsRow.cellAt (HX.out.row (i := 1) rfl) k (by show k < m2 * 1; omega)
        rw [List.getElem?_map, hq] at h; exact h
      have c2' : w7.cell? ⟨wg, k, none⟩ = some (.slice q.A q.n q.c) := by
        have h := World.ownsRow.cellAt (HX.out.row (i := 2) rfl) k (by show k < m2 * 1; omega)
        rw [List.getElem?_map, hq] at h; exact h
      have j1 : (0 : Int) ≤ (k : Int) := by omega
      have j2 : (k : Int) < (m2 : Int) := by omega
      clear hq hfr hQ hrd
      go_upto_region 22 with fail
      refine lt_start [] (by kernel_rfl) ?_
      intro xd hd
      refine ⟨fun z => Below w7.heap.size w7 z, ?_⟩
      have HS := Lib.hid (hd)
      refine lt_pure 0 rfl (by kernel_rfl) (by kernel_rfl) (by kernel_rfl) (by kernel_rfl) (fun _ _ _ h => h) (v := ?_) (yi_run rfl (fun w => ?_)) (fun _ => HS.out) ?_
      rotate_left
      · first | (go_simp; done) | (go_simp; with_reducible rfl)
      simp only [Act.put, List.setIfInBounds_toArray, List.set_cons_zero, List.set_cons_succ]
      refine lt_pure 1 rfl (by kernel_rfl) (by kernel_rfl) (by kernel_rfl) (by kernel_rfl) (fun _ _ _ h => h) (v := ?_) (yi_run rfl (fun w => ?_)) (fun _ => HS.out) ?_
      rotate_left
      · first | (go_simp; done) | (go_simp; with_reducible rfl)
      simp only [Act.put, List.setIfInBounds_toArray, List.set_cons_zero, List.set_cons_succ]
      refine lt_pure 2 rfl (by kernel_rfl) (by kernel_rfl) (by kernel_rfl) (by kernel_rfl) (fun _ _ _ h => h) (v := ?_) (yi_run rfl (fun w => ?_)) (fun _ => HS.out) ?_
      rotate_left
      · first | (go_simp; done) | (go_simp; with_reducible rfl)
      simp only [Act.put, List.setIfInBounds_toArray, List.set_cons_zero, List.set_cons_succ]
      refine lt_take 3 [9, 10] rfl (by kernel_rfl) (by kernel_rfl) (by kernel_rfl) (by kernel_rfl) (by kernel_rfl) (fun _ _ _ h => h) (yi_cell rfl rfl rfl (fun w hS => (Below.cell hS (p := ⟨og, k, none⟩) hog).trans c1) (fun w => Tryz.isAgg26 w)) HS.out ?_
      simp only [Act.put, List.setIfInBounds_toArray, List.set_cons_zero, List.set_cons_succ]
      refine lt_pure 4 rfl (by kernel_rfl) (by kernel_rfl) (by kernel_rfl) (by kernel_rfl) (fun _ _ _ h => h) (v := ?_) (yi_run rfl (fun w => ?_)) (fun _ => HS.out) ?_
      rotate_left
      · first | (go_simp; done) | (go_simp; with_reducible rfl)
      simp only [Act.put, List.setIfInBounds_toArray, List.set_cons_zero, List.set_cons_succ]
      refine lt_pure 5 rfl (by kernel_rfl) (by kernel_rfl) (by kernel_rfl) (by kernel_rfl) (fun _ _ _ h => h) (v := ?_) (yi_run rfl (fun w => ?_)) (fun _ => HS.out) ?_
      rotate_left
      · first | (go_simp; done) | (go_simp; with_reducible rfl)
      simp only [Act.put, List.setIfInBounds_toArray, List.set_cons_zero, List.set_cons_succ]
      refine lt_pure 6 rfl (by kernel_rfl) (by kernel_rfl) (by kernel_rfl) (by kernel_rfl) (fun _ _ _ h => h) (v := ?_) (yi_run rfl (fun w => ?_)) (fun _ => HS.out) ?_
      rotate_left
      · first | (go_simp; done) | (go_simp; with_reducible rfl)
      simp only [Act.put, List.setIfInBounds_toArray, List.set_cons_zero, List.set_cons_succ]
      refine lt_take 7 [9, 10] rfl (by kernel_rfl) (by kernel_rfl) (by kernel_rfl) (by kernel_rfl) (by kernel_rfl) (fun _ _ _ h => h) (yi_cell rfl rfl rfl (fun w hS => (Below.cell hS (p := ⟨wg, k, none⟩) hwg).trans c2') (fun w => Tryz.isAgg30 w)) HS.out ?_
      simp only [Act.put, List.setIfInBounds_toArray, List.set_cons_zero, List.set_cons_succ]
      refine lt_pure 8 rfl (by kernel_rfl) (by kernel_rfl) (by kernel_rfl) (by kernel_rfl) (fun _ _ _ h => h) (v := ?_) (yi_run rfl (fun w => ?_)) (fun _ => HS.out) ?_
      rotate_left
      · first | (go_simp; done) | (go_simp; with_reducible rfl)
      simp only [Act.put, List.setIfInBounds_toArray, List.set_cons_zero, List.set_cons_succ]
      refine lt_call 9 rfl (by kernel_rfl) rfl rfl ⟨_, Tryz.func24, by decide, by kernel_rfl⟩ [.pointer (some ⟨q.g, 0, none⟩), .slice q.A q.n q.c, .slice KA kn kc] rfl ?_
      refine (tells_any q.R q.g q.L q.A q.n q.c KA kn kc key _ (HRD.out.1.later HS.out) (HRD.out.2.later HS.out) (HK.out _ (HX.out.later HS.out).up) HQK.out).mono ?_
      rintro r x9 ⟨rfl, hb⟩
      replace HS := Lib.hid (HS.out.trans (hb.mono HS.out.size))
      clear hb
      refine ⟨_, rfl, fun _ => HS.out, ?_⟩
      simp only [Act.put, List.setIfInBounds_toArray, List.set_cons_zero, List.set_cons_succ]
      refine lt_pure 10 rfl (by kernel_rfl) (by kernel_rfl) (by kernel_rfl) (by kernel_rfl) (fun _ _ _ h => h) (v := ?_) (yi_run rfl (fun w => ?_)) (fun _ => HS.out) ?_
      rotate_left
      · first | (go_simp; done) | (go_simp; with_reducible rfl)
      simp only [Act.put, List.setIfInBounds_toArray, List.set_cons_zero, List.set_cons_succ]
      refine lt_done (by kernel_rfl) ?_
      replace HX := Lib.hid (HX.out.later HS.out)
      clear HS
      go_wp2_with fail
      go_roundw
      case rel => exact ⟨k + 1, by omega, by go_num, HX⟩
      case measure => simp [intOf]; omega
end Go.Proofs.YtmigjipfomfacaaGreatDoor
namespace Go.Proofs.YtmigjipfomfacaaGreatDoor
open Go.RowKit Go.WideShapes Go.ChangeShapes Go.Joins Go.Deep
section
variable {H : Type} {enc : TypeId × Value → H} {P : Program}
theorem trodAll_below (hl : laidOutB P = true) {W W' : World} {sp : Nat → Bool} : ∀ (ts : List TypeId) (vs : List Value) (ds : List (DataW H)) (ps : List MemPlace),
    (∀ t ∈ ts, P.readableRec t = true ∧ t < P.types.size) → DataW.TrodAll enc P W 0 (fun _ => true) true ts vs ds ps → (∀ p ∈ ps, W.sameAt W' p) → (∀ p ∈ ps, sp p.block = true) →
    DataW.TrodAll enc P W' 0 sp true ts vs ds ps
  | [], [], [], ps, _, h, _, _ => h
  | t :: ts, v :: vs, d :: ds, ps, hr, h, hs, hp => by
    obtain ⟨p, q, h1, h2, rfl⟩ := h
    refine ⟨p, q, WideElems.Trod_stays hl (hr t (by simp)).1 (hr t (by simp)).2 h1 (fun x hx => hs x (by simp [hx])) (fun x hx => hp x (by simp [hx])), ?_, rfl⟩
    exact trodAll_below hl ts vs ds q (fun t ht => hr t (by simp [ht])) h2 (fun x hx => hs x (by simp [hx])) (fun x hx => hp x (by simp [hx]))
  | [], _ :: _, _, _, _, h, _, _ => h.elim
  | [], [], _ :: _, _, _, h, _, _ => h.elim
  | _ :: _, [], _, _, _, h, _, _ => h.elim
  | _ :: _, _ :: _, [], _, _, h, _, _ => h.elim
theorem law_post {f : Func} {s : ChangeSpec} {apart fresh handsOn again : Bool} {W W' : World} {args : Array Value} {ds gs : List (DataW H)} {before : List MemPlace} {tb : TypeId}
    (hl : laidOutB P = true) (hr : ∀ t ∈ f.params.toList, P.readableRec t = true ∧ t < P.types.size) (hv : s.vars = [])
    (hW : DataW.Whole enc P f.params.toList s.vars apart W args.toList ds gs before) (hres : f.resultTypes = #[tb]) (htb : P.underlying tb = some .bool)
    (hfn : s.fn H (ds ++ gs) = { results := [.lit (.bool true)], args := ds }) (hb : Below W.heap.size W W') :
    s.post enc P f apart fresh handsOn again W args (.bool true) W' := by
  have hlt : ∀ p ∈ before, p.block < W.heap.size := fun p hp => hW.lt p hp
  obtain ⟨p, q, hA, hV, hpq, hz, hn⟩ := hW
  have hq : gs = [] ∧ q = [] := by rw [hv] at hV; exact trodVars_none hV
  obtain ⟨rfl, rfl⟩ := hq
  rw [List.append_nil] at hpq
  subst hpq
  have hold : ∀ x ∈ before, (fun b => decide (b < W.heap.size)) x.block = true := fun x hx => by simpa using hlt x hx
  have hargs : ∀ sp : Nat → Bool, (∀ x ∈ before, sp x.block = true) → DataW.TrodAll enc P W' 0 sp true f.params.toList args.toList ds before := fun sp hsp =>
    trodAll_below hl _ _ _ _ hr hA (fun x hx => hb.same (hlt x hx)) hsp
  have hvars : ∀ sp : Nat → Bool, DataW.TrodVars enc P W' sp s.vars (s.fn H (ds ++ [])).vars [] := fun sp => by rw [hv, hfn]; rfl
  have hresv : ∀ (b : Nat) (sp : Nat → Bool) (hd : Bool), DataW.TrodAll enc P W' b sp hd f.resultTypes.toList ((Value.bool true).resultList f.resultTypes.size) (s.fn H (ds ++ [])).results [] := by
    intro b sp hd
    rw [hfn, hres]
    exact trodAll_mk1 (shut_bool htb true)
  have hargs' : ∀ sp : Nat → Bool, (∀ x ∈ before, sp x.block = true) → DataW.TrodAll enc P W' 0 sp true f.params.toList args.toList (s.fn H (ds ++ [])).args before := fun sp hsp => by rw [hfn]; exact hargs sp hsp
  refine ⟨ds, [], before, [], before, [], ⟨before, [], hA, hV, by simp, hz, hn⟩, hresv _ _ _, hargs' _ hold, hvars _, World.keptBut_mono (fun x hx => ⟨hx, Or.inr (Or.inl hx)⟩) (hb.frame (· ∈ before)), fun _ => ?_⟩
  refine ⟨?_, _, _, ([] ++ before) ++ [], ⟨[] ++ before, [], trodAll_append (hargs' _ (fun _ _ => rfl)) (hresv _ _ _), hvars _, rfl, ?_, ?_⟩, ?_⟩
  · exact ok_one hres rfl (okWide_bool_mk htb true)
  · intro b off hp
    have hin : MemPlace.cell b off ∈ before := by simpa using hp
    rw [hb.frozen (hlt _ hin)]
    exact hz b off hin
  · intro ha
    have := hn ha
    simpa using this
  · intro x hx _
    simpa using hx
end
theorem list_of {α : Type} {Q : Nat → α → Prop} : ∀ (n : Nat), (∀ i, i < n → ∃ x, Q i x) → ∃ l : List α, l.length = n ∧ ∀ i x, l[i]? = some x → Q i x
  | 0, _ => ⟨[], rfl, fun i x h => by simp at h⟩
  | n + 1, h => by
    obtain ⟨l, hl, hq⟩ := list_of n (fun i hi => h i (by omega))
    obtain ⟨x, hx⟩ := h n (by omega)
    refine ⟨l ++ [x], by simp [hl], fun i y hy => ?_⟩
    rcases Nat.lt_or_ge i n with hi | hi
    · rw [List.getElem?_append_left (by omega)] at hy
      exact hq i y hy
    · have : i = n := by
        have := (List.getElem?_eq_some_iff.1 hy).1
        simp [hl] at this; omega
      subst this
      rw [List.getElem?_append_right (by omega)] at hy
      simp [hl] at hy
      subst hy; exact hx
theorem addr_add (a : Addr) (j : Nat) (ha : a.spot = none) : a.add j = ⟨a.block, a.off + j, none⟩ := by
  obtain ⟨b, o, sp⟩ := a
  simp at ha; subst ha
  unfold Addr.add
  split
  · rename_i h; subst h; rfl
  · rfl
theorem spot_none {w : World} {a : Addr} {v : Value} (h : w.cell? a = some v) : a.spot = none := by
  unfold World.cell? at h
  split at h
  · split at h
    · cases h
    · rename_i h'; simpa using h'
  · cases h
theorem reads_of {w : World} {size n : Nat} {a : Addr} {xs : List Value} (hl : xs.length = n * size) (hs : 0 < size) (h : ∀ j u, xs[j]? = some u → w.cell? (a.add j) = some u) : Reads w w.heap.size size (some a) n xs := by
  refine ⟨hl, fun hn => ?_⟩
  have h0 : 0 < xs.length := by rw [hl]; exact Nat.mul_pos hn hs
  have hc := h 0 _ (List.getElem?_eq_getElem h0)
  have e0 : a.add 0 = a := by simp [Addr.add]
  rw [e0] at hc
  have hsp := spot_none hc
  refine ⟨a.block, a.off, by obtain ⟨b, o, sp⟩ := a; simp at hsp; subst hsp; rfl, World.block_lt_of_cell? w a hc, fun j u hu => ?_⟩
  rw [← addr_add a j hsp]
  exact h j u hu
section
variable {H : Type} {enc : TypeId × Value → H} {P : Program} {w : World} {base : Nat} {spare : Nat → Bool} {held : Bool}
end
section
variable {H : Type} {enc : TypeId × Value → H} {P : Program} {w : World} {base : Nat} {spare : Nat → Bool} {held : Bool}
end
end Go.Proofs.YtmigjipfomfacaaGreatDoor
namespace Go.Proofs.YtmigjipfomfacaaGreatDoor
open Go.RowKit Go.WideShapes Go.ChangeShapes Go.Joins Go.Deep
section
variable {H : Type} {enc : TypeId × Value → H} {P : Program} {w : World} {base : Nat} {spare : Nat → Bool} {held : Bool}
theorem open_bytes {t e : TypeId} {fuel : Nat} {cs : List Value} {x : DataW H × List MemPlace} (ht : P.underlying t = some (.slice e)) (he : P.underlying e = some (.int .u8)) (hC : P.cellsOf e = 1)
    (h : DataW.trod enc P w base spare held fuel t cs = some x) :
    ∃ (A : Option Addr) (c : Nat) (l : List UInt8), cs = [.slice A l.length c] ∧ l.length ≤ c ∧ c ≤ 9223372036854775807 ∧ (A = none → c = 0) ∧ RB w w.heap.size A l.length l := by
  rcases open_slice1 ht hC h with ⟨rfl, _⟩ | ⟨a, len, cap, m, n, V, D, Pl, rfl, _, hl, hm, hmm, _, hi⟩
  · exact ⟨none, 0, [], rfl, by simp, by omega, fun _ => rfl, RB.nil⟩
  · have hlm : len ≤ m := by rw [hmm]; split <;> omega
    obtain ⟨l, hll, hq⟩ := list_of (Q := fun i (b : UInt8) => w.cell? (a.add i) = some (.int .u8 (b.toNat : Int))) len (fun i hi' => by
      obtain ⟨h1, h2⟩ := hi i (by omega)
      obtain ⟨v, e0, _, hw⟩ := DataW.trod_int he h2
      injection e0 with e0 _
      have hw : 0 ≤ v ∧ v ≤ 255 := by
        simp [Lit.wf, IntKind.min, IntKind.max, IntKind.signed, IntKind.bits] at hw
        omega
      refine ⟨UInt8.ofNat v.toNat, ?_⟩
      rw [h1, e0, UInt8.toNat_ofNat', Nat.mod_eq_of_lt (by omega), Int.toNat_of_nonneg hw.1])
    subst hll
    exact ⟨some a, cap, l, rfl, hl, hm, (fun e => nomatch e), reads_of (by simp [u8s_length]) (by decide) fun j u hu => by
      simp only [u8s, List.getElem?_map, Option.map_eq_some_iff] at hu
      obtain ⟨b, hb, rfl⟩ := hu
      exact hq j b hb⟩
theorem open_slice_top {r : Reach} {b0 : Nat} {t e : TypeId} {v : Value} {d : DataW H} {ps : List MemPlace} (ht : P.underlying t = some (.slice e)) (hval : Value.okWide P w r b0 t v) (h : DataW.Trod enc P w base spare held t v d ps) :
    ∃ fuel, DataW.trod enc P w base spare held fuel t [v] = some (d, ps) := by
  obtain ⟨a, n, c, rfl⟩ := okWide_slice ht hval
  obtain ⟨fuel, hf⟩ := h
  exact ⟨fuel, hf⟩
end
end Go.Proofs.YtmigjipfomfacaaGreatDoor
namespace Go.Proofs.YtmigjipfomfacaaGreatDoor
open Go.RowKit Go.WideShapes Go.ChangeShapes Go.Joins Go.Deep
theorem bulk_one {H : Type} (d : DataW H) : 1 ≤ Rows.uptoBulk d := by
  cases d with
  | lit l => cases l <;> simp [Rows.uptoBulk]
  | nil => simp [Rows.uptoBulk]
  | ptr d => simp [Rows.uptoBulk]
  | slice elems spare => simp [Rows.uptoBulk]
  | agg parts => simp [Rows.uptoBulk]
  | iface t d => simp [Rows.uptoBulk]
  | map entries => simp [Rows.uptoBulk]
  | held h => simp [Rows.uptoBulk]
theorem bulk_len {H : Type} (l : List (DataW H)) : l.length ≤ Rows.uptoBulkAll l := by
  induction l with
  | nil => simp [Rows.uptoBulkAll]
  | cons x r ih => have := bulk_one x; simp only [Rows.uptoBulkAll, List.length_cons]; omega
section
variable {H : Type} {enc : TypeId × Value → H} {P : Program} {w : World} {base : Nat} {held : Bool}
theorem upto_bytes {t e : TypeId} {fuel : Nat} {cs : List Value} {x : DataW H × List MemPlace} (ht : P.underlying t = some (.slice e)) (he : P.underlying e = some (.int .u8)) (hC : P.cellsOf e = 1)
    (h : DataW.trod enc P w base (fun _ => true) held fuel t cs = some x) :
    ∃ (A : Option Addr) (c : Nat) (l : List UInt8), cs = [.slice A l.length c] ∧ Sl w A l.length c l ∧ c + 1 ≤ Rows.uptoBulk x.1 := by
  obtain ⟨A, c, l, h1, h2, h3, h4, h5⟩ := open_bytes ht he hC h
  refine ⟨A, c, l, h1, ⟨h5, h2, h3, h4⟩, ?_⟩
  rcases open_slice1 ht hC h with ⟨rfl, rfl⟩ | ⟨a, len, cap, m, n, V, D, Pl, rfl, _, hl, hm, hmm, hx, hi⟩
  · injection h1 with h1
    injection h1 with _ _ h1
    subst h1
    simp [Rows.uptoBulk]
  · injection h1 with h1
    injection h1 with _ _ h1
    subst h1
    rw [if_pos rfl] at hmm
    subst hmm
    rw [hx]
    simp only [Rows.uptoBulk]
    have e1 := bulk_len (H := H) ((List.range len).map D)
    have e2 := bulk_len (H := H) ((List.range (m - len)).map fun j => D (len + j))
    simp only [List.length_map, List.length_range] at e1 e2
    omega
theorem upto_bytes_top {r : Reach} {b0 : Nat} {t e : TypeId} {v : Value} {d : DataW H} {ps : List MemPlace} (ht : P.underlying t = some (.slice e)) (he : P.underlying e = some (.int .u8)) (hC : P.cellsOf e = 1)
    (hval : Value.okWide P w r b0 t v) (h : DataW.Trod enc P w base (fun _ => true) held t v d ps) :
    ∃ (A : Option Addr) (c : Nat) (l : List UInt8), v = .slice A l.length c ∧ Sl w A l.length c l ∧ c + 1 ≤ Rows.uptoBulk d := by
  obtain ⟨fuel, hf⟩ := open_slice_top ht hval h
  obtain ⟨A, c, l, h1, h2⟩ := upto_bytes ht he hC hf
  injection h1 with h1
  exact ⟨A, c, l, h1, h2⟩
end
end Go.Proofs.YtmigjipfomfacaaGreatDoor
namespace Go.Proofs.YtmigjipfomfacaaGreatDoor
open Go.ChangeShapes Go.WideShapes Go.ChangeAt Go.RowKit Go.Joins Go.Deep
theorem Tryz.own : ownKnob Tryz.prog.godebug = none := by kernel_rfl
theorem Tryz.laidOut : laidOutB Tryz.prog = true := by kernel_rfl
theorem gTab : Tryz.prog.globalNamed "strata/wire.table" = some 0 := by kernel_rfl
theorem gTabType : (Tryz.prog.globals[0]?).map (·.type) = some 117 := by kernel_rfl
theorem gTabCells : Tryz.prog.cellsOf 117 = 16 := by kernel_rfl
theorem gTabCell : Tryz.prog.cellsOf 83 = 1 := by kernel_rfl
def tabZ : List Int := [0, 274646895, 549293790, 820201905, 1098587580, 1361435347, 1640403810, 1905808397, 2197175160, 2460548119, 2722870694, 2987750089, 3280807620, 3553878443, 3811616794, 4084100981]
theorem tabZ_at : ∀ i : Fin 16, tabZ.getD i.val 0 = (tabN i.val : Int) := by decide +kernel
theorem table_of {W : World} (h : laidMetH Tryz.prog [("strata/wire.table", Rows.laid_strata_wire_table)] W) : TabAt 0 W := by
  have ht : Lib.TabIs Tryz.prog W "strata/wire.table" .u32 tabZ := Lib.tabIs_of_head (rest := []) gTab gTabType Tryz.underlying117 Tryz.underlying83 gTabCell gTabCells h
  have hc : ∀ i, i < 16 → W.cell? ⟨0, i, none⟩ = some (.int .u32 (tabN i)) := fun i hi => by
    rw [ht.cell gTab i hi, tabZ_at ⟨i, hi⟩]
  exact ⟨World.block_lt_of_cell? W ⟨0, 0, none⟩ (hc 0 (by decide)), hc⟩
noncomputable def laidWorld (os : Os) : World :=
  { World.holding Tryz.prog os ⟨#[], #[], []⟩ with heap := (World.holding Tryz.prog os ⟨#[], #[], []⟩).heap.modify 0 fun
      | .cells _ t frozen => .cells #[.int .u32 0, .int .u32 274646895, .int .u32 549293790, .int .u32 820201905, .int .u32 1098587580, .int .u32 1361435347, .int .u32 1640403810, .int .u32 1905808397, .int .u32 2197175160, .int .u32 2460548119, .int .u32 2722870694, .int .u32 2987750089, .int .u32 3280807620, .int .u32 3553878443, .int .u32 3811616794, .int .u32 4084100981] t frozen
      | o => o }
end Go.Proofs.YtmigjipfomfacaaGreatDoor
namespace Go.Proofs.YtmigjipfomfacaaGreatDoor
open Go.RowKit Go.WideShapes Go.ChangeShapes Go.Joins Go.Deep
section
variable {H : Type} {enc : TypeId × Value → H} {P : Program} {w : World} {base : Nat} {held : Bool}
end
end Go.Proofs.YtmigjipfomfacaaGreatDoor
namespace Go.Proofs.YtmigjipfomfacaaGreatDoor
open Go.RowKit Go.WideShapes Go.ChangeShapes Go.Joins Go.Deep
section
variable {H : Type} {enc : TypeId × Value → H} {w : World} {base : Nat} {held : Bool}
end
end Go.Proofs.YtmigjipfomfacaaGreatDoor
namespace Go.Proofs.YtmigjipfomfacaaGreatDoor
open Go.RowKit Go.WideShapes Go.ChangeShapes Go.Joins Go.Deep
section
variable {H : Type} {enc : TypeId × Value → H} {w : World} {base : Nat} {held : Bool}
set_option maxRecDepth 100000 in
theorem open_pairs {spare : Nat → Bool} {fuel : Nat} {cs : List Value} {x : DataW H × List MemPlace} (h : DataW.trod enc Tryz.prog w base spare held fuel 54 cs = some x) :
    ∃ (A : Option Addr) (c : Nat) (ts : List (Int × Int)), cs = [.slice A ts.length c] ∧ ts.length ≤ c ∧ c ≤ 9223372036854775807 ∧ Reads w w.heap.size 2 A ts.length (pairL ts) := by
  rcases open_slice Tryz.underlying54 h with ⟨rfl, _⟩ | ⟨a, len, cap, m, n, D, Pl, rfl, hb, hl, hm, hmm, hx, hi⟩
  · exact ⟨none, 0, [], rfl, by simp, by omega, Reads.nil⟩
  · have hlm : len ≤ m := by rw [hmm]; split <;> omega
    have hC : Tryz.prog.cellsOf 58 = 2 := by kernel_rfl
    rw [hC] at hi
    obtain ⟨ts, htl, hq⟩ := list_of (Q := fun i (t : Int × Int) => w.cell? (a.add (i * 2)) = some (.int .i64 t.1) ∧ w.cell? (a.add (i * 2 + 1)) = some (.int .i64 t.2)) len (fun i hi' => by
      obtain ⟨cs', hc, ht⟩ := hi i (by omega)
      obtain ⟨xs, k, _, _, hcl, hxl, hf⟩ := DataW.trod_array Tryz.underlying58 ht
      have hC1 : Tryz.prog.cellsOf 3 = 1 := by kernel_rfl
      rw [hC] at hcl
      rw [hC1] at hf
      obtain ⟨_, hcl2, hat⟩ := World.cells?_some hc
      match cs', hcl with
      | [u, v], _ =>
        have h0 := hf 0 (by decide)
        have h1 := hf 1 (by decide)
        have g0 : DataW.trod enc Tryz.prog w base spare held k 3 [u] = some (xs[0]'(by omega)) := h0.trans (List.getElem?_eq_getElem (by omega))
        have g1 : DataW.trod enc Tryz.prog w base spare held k 3 [v] = some (xs[1]'(by omega)) := h1.trans (List.getElem?_eq_getElem (by omega))
        obtain ⟨p, hp, _⟩ := DataW.trod_int Tryz.underlying3 g0
        obtain ⟨q, hq, _⟩ := DataW.trod_int Tryz.underlying3 g1
        injection hp with hp _
        injection hq with hq _
        have c0 := hat 0 (by decide)
        have c1 := hat 1 (by decide)
        rw [Go.Deep.add_add] at c0 c1
        exact ⟨(p, q), by rw [Nat.add_zero] at c0; rw [c0, hp]; rfl, by rw [c1, hq]; rfl⟩)
    subst htl
    exact ⟨some a, cap, ts, rfl, hl, hm, reads_of (pairL_len ts) (by decide) fun j u hu => by
      have hj : j < ts.length * 2 := by have := (List.getElem?_eq_some_iff.1 hu).1; rwa [pairL_len] at this
      obtain ⟨t, ht⟩ : ∃ t, ts[j / 2]? = some t := ⟨_, List.getElem?_eq_getElem (by omega)⟩
      obtain ⟨p0, p1⟩ := pairL_at ht
      obtain ⟨q0, q1⟩ := hq _ t ht
      rcases (show j % 2 = 0 ∨ j % 2 = 1 by omega) with h | h
      · obtain e : j = j / 2 * 2 := by omega
        rw [e] at hu ⊢
        rw [p0] at hu; injection hu with hu; subst hu; exact q0
      · obtain e : j = j / 2 * 2 + 1 := by omega
        rw [e] at hu ⊢
        rw [p1] at hu; injection hu with hu; subst hu; exact q1⟩
set_option maxRecDepth 100000 in
theorem open_pairs_top {r : Reach} {b0 : Nat} {v : Value} {d : DataW H} {ps : List MemPlace} (hval : Value.okWide Tryz.prog w r b0 54 v) (h : DataW.Trod enc Tryz.prog w base (fun _ => true) held 54 v d ps) :
    ∃ (A : Option Addr) (c : Nat) (ts : List (Int × Int)), v = .slice A ts.length c ∧ ts.length ≤ 9223372036854775807 ∧ Reads w w.heap.size 2 A ts.length (pairL ts) := by
  obtain ⟨fuel, hf⟩ := open_slice_top Tryz.underlying54 hval h
  obtain ⟨A, c, ts, h1, h2, h3, h4⟩ := open_pairs hf
  injection h1 with h1
  exact ⟨A, c, ts, h1, by omega, h4⟩
end
end Go.Proofs.YtmigjipfomfacaaGreatDoor
