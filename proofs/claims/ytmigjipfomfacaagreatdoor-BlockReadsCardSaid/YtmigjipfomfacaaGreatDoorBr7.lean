/-
  Laid together by merge.py: BlockQ4, BlockQ5, Law, Law2, Law3, WireLaw, BlockQM.
-/
import Derived.Test.YtmigjipfomfacaaGreatDoorBr6
import Derived.Test.YtmigjipfomfacaaGreatDoorBr5
import Derived.Test.YtmigjipfomfacaaGreatDoorBr1
import Derived.ProofKit
import Derived.SizedLaws
import Derived.Lib.SmallJoins
import Derived.Deep.Slices
import Derived.Deep.Fields
import Derived.Test.YtmigjipfomfacaaGreatDoorRows
import Derived.Test.YtmigjipfomfacaaGreatDoorBr2
import Derived.Test.YtmigjipfomfacaaGreatDoorCards
import Derived.Test.YtmigjipfomfacaaGreatDoorTie
import Derived.OpenShut
import Derived.Deep.DeepHandedRow
import Derived.Lib.LaidTab
namespace Go.Proofs.YtmigjipfomfacaaGreatDoor
open Go.RowKit
theorem open_u (b : List UInt8) (A : Option Addr) (n c : Nat) (w : World) (hs : Sl w A n c b) (ht : TabAt 0 w) :
    Calls Tryz.prog 9 #[.slice A n c] w fun e z => ∃ pv os, e = .returned (.tuple #[pv, .int .i64 (openE b).2]) ∧ OW w os z ∧ ((openE b).1 = none → pv = .pointer none) ∧ ∀ L, (openE b).1 = some L → ∃ g, pv = .pointer (some ⟨g, 0, none⟩) ∧ Bk5 (resB b) L g os :=
  (open_any b A n c w hs ht).mono fun e z h => by
    rcases h with ⟨L, g, os, h1, h2, h3, h4⟩ | ⟨h1, h2, h3⟩
    · refine ⟨_, os, by rw [h2, (openE_ok h1).2], h4, fun h => (by rw [h1] at h; cases h), fun L' h => ?_⟩
      rw [h1] at h; injection h with h; subst h
      exact ⟨g, rfl, h3⟩
    · exact ⟨_, [], h2, (OW.nil w).later h3, fun _ => rfl, fun L h => (by rw [h1] at h; cases h)⟩
theorem ropen_u (b : List UInt8) (A : Option Addr) (n c : Nat) (w : World) (hs : Sl w A n c b) :
    Calls Tryz.prog 10 #[.slice A n c] w fun e z => ∃ WA wn wc os, e = .returned (.tuple #[.slice WA wn wc, .int .i64 (openE b).2]) ∧ OW w os z ∧ ∀ L, (openE b).1 = some L → ∃ rs, rs.map ER.e = L ∧ rs.length = wn ∧ os = entsO WA wn wc rs :=
  (ropen_any b A n c w hs).mono fun e z h => by
    rcases h with ⟨rs, A', n', c', h1, h2, _, h3, h4⟩ | ⟨h1, h2, h3⟩
    · refine ⟨A', n', c', _, by rw [h3, h1], h4, fun L h => ?_⟩
      rw [h1] at h; injection h with h; subst h
      exact ⟨rs, rfl, h2, rfl⟩
    · exact ⟨none, 0, 0, [], h2, (OW.nil w).later h3, fun L h => (by rw [h1] at h; cases h)⟩
theorem openE_zero {b : List UInt8} : (openE b).2 = 0 ↔ ∃ L, (openE b).1 = some L := by
  constructor
  · intro h
    cases ho : (openE b).1 with
    | none => exact absurd h (openE_no ho)
    | some L => exact ⟨L, rfl⟩
  · rintro ⟨L, h⟩; exact (openE_ok h).2
structure QI where
  R : Nat
  g : Nat
  L : List Ent
  A : Option Addr
  n : Nat
  c : Nat
  ks : List Ob
def QI.ptr (q : QI) : Value := .pointer (some ⟨q.g, 0, none⟩)
structure QOk (w : World) (q : QI) : Prop where
  ok : BkOk q.R q.L
  rd : ∀ z rest, OW w (q.ks ++ rest) z → BkR z q.R q.g q.L ∧ Ens z q.A q.n q.L
theorem qok_new {w : World} {b : List UInt8} {L : List Ent} {g : Nat} {os1 : List Ob} {rs : List ER} {A : Option Addr} {n c : Nat} (ho : (openE b).1 = some L) (h1 : Bk5 (resB b) L g os1) (h2 : rs.map ER.e = L) : QOk w ⟨resB b, g, L, A, n, c, os1 ++ entsO A n c rs⟩ :=
  ⟨BkOk.of ho, fun z rest h => by
    have h : OW w ((os1 ++ entsO A n c rs) ++ rest) z := h
    refine ⟨Bk5.reads h1 (rest := entsO A n c rs ++ rest) (by rw [← List.append_assoc]; exact h), ?_⟩
    rw [← h2]
    exact rowE_ens (c := c) (os := os1 ++ rest) (h.perm (by (refine perm_of_cnt fun a => ?_; (simp only [cntO_app, cntO_cons, cntO_nil]) <;> omega)))⟩
end Go.Proofs.YtmigjipfomfacaaGreatDoor
namespace Go.Proofs.YtmigjipfomfacaaGreatDoor
open Go.RowKit
theorem SlB.leQ {o : Ob} {A : Option Addr} {n m cap : Nat} (h : SlB o A n cap) (hm : m ≤ n) : SlB o A m cap := fun w x os i hX hi mk => by
  obtain ⟨o', h1, h2⟩ := h w x os i hX hi mk
  refine ⟨o', h1, ?_⟩
  rcases h2 with ⟨h3, h4, h5⟩ | ⟨g, c, h3, h4⟩
  · exact .inl ⟨h3, by omega, h5⟩
  · exact .inr ⟨g, c, h3, by first | exact h4 | (obtain ⟨k1, k2⟩ := h4; exact ⟨by omega, k2⟩)⟩
theorem Bk5.itrQ {R g : Nat} {L : List Ent} {os : List Ob} (h : Bk5 R L g os) {w0 z0 : World} {r0 : List Ob} (h0 : OW w0 (os ++ r0) z0) : ∃ A c, ∀ w z rest, OW w (os ++ rest) z → z.cell? ⟨g, 1, none⟩ = some (.slice A L.length c) ∧ Ens z A L.length L := by
  obtain ⟨lv, kv, zs, rfl, rfl, hz⟩ := h
  obtain ⟨A, c, rfl, _⟩ := blk_ens h0
  have hl : (entsZ zs).length = zs.length := by unfold entsZ; rw [List.length_map]
  refine ⟨A, c, fun w z rest hw => ?_⟩
  obtain ⟨A', c', hv, he⟩ := blk_ens hw
  injection hv with hA _ hc
  subst hA; subst hc
  rw [hl]
  exact ⟨hw.cell (i := 0) (j := 1) rfl rfl, he⟩
theorem Ens.atQ {w : World} {b o n : Nat} {es : List Ent} (h : Ens w (some ⟨b, o, none⟩) n es) {k : Nat} (hk : k < n) : ∃ (Ar : Option Addr) (c : Nat) (B : Option Addr) (d : Nat) (D : Option Addr) (q : Nat) (e : Ent), b < w.heap.size ∧ es[k]? = some e ∧
    w.rangeAt b (o + k * 7) [.slice Ar e.row.length c, .int .i64 e.fam, .slice B e.qual.length d, .int .i64 e.ts, .int .i64 e.seq, .int .i64 e.kind, .slice D e.val.length q] ∧ En w Ar e.row.length c B e.qual.length d D e.val.length q e := by
  obtain ⟨b', o', Ar, c, B, d, D, q, e, hA, h1, h2, h3, h4⟩ := h.at_ hk
  injection hA with hA; injection hA with hb ho _
  subst hb; subst ho
  exact ⟨Ar, c, B, d, D, q, e, h1, h2, h3, h4⟩
theorem wp_range_one {α : Type} {P : Program} {w x : World} {g : Operand} {gf : Nat} {lb : Array Value} {L : List α} {Itr : World → Prop} {Hand : α → Array Value → World → World → Prop} {ps : Array Tmp} {assign body : Code} {Q : Exit → Act → World → Prop} {a : Act} {id : Nat}
    (hg : a.eval g = .func (.func gf) #[] lb) (eg : ∀ args w, (callFunc gf args).run P w = .ok (.enter gf args) w)
    (hit : IterOK P gf lb L Itr Hand) (hps : ∀ x vs y z, Hand x vs y z → vs.size = ps.size ∧ Below y.heap.size y z) (I J : List α → List Ob → Prop)
    (hI : ∀ pre os es z, I pre os → OW w (os ++ es) z → Itr z) {os0 : List Ob} (h0 : I [] os0) (hx : OW w os0 x)
    (hround : ∀ (l : Nat) (p1 p2 : List Ob) pre xx vs W0 W1 os, (∃ r ds, p2 = rawO l (.loop r) :: ds) → pre ++ [xx] <+: L → I pre os → OW w (os ++ p1) W0 → Hand xx vs W0 W1 → RoundOK P w l assign body I (fun c xs os => c = .exit id ∧ J xs os) a.tmps p1 p2 pre xx W1 vs ps)
    (hQ : ∀ a z, Q .normal a z → Q (.exit id) a z)
    (hk : ∀ D os z, (I L os ∨ ∃ pre, pre <+: L ∧ J pre os) → OW w (os ++ [dfrO D]) z → Q .normal { a with defers := markD D :: a.defers } z) : (Code.rangeFunc g ps assign body).wp P Q a x :=
  wp_range hg eg hit hps I (fun c xs os => c = .exit id ∧ J xs os) hI h0 hx hround (fun D os z h1 h2 => hk D os z (.inl h1) h2) fun D c pre os z h1 ⟨h2, h3⟩ h4 => by
    subst h2
    exact wp_exit (hQ _ _ (hk D os z (.inr ⟨pre, h1, h3⟩) h4))
theorem leaves_marks {P : Program} {fn : Func} {tmps : Array Value} {R : Ending → World → Prop} {p : Tmp} {ty : TypeId} {g : Nat} {v : Value} (hr : fn.results = #[.cell p ty]) (hp : tmps.getD p undef = .pointer (some ⟨g, 0, none⟩)) (ha : ∀ w, (isAgg ty).run P w = .ok false w) :
    ∀ (Ds : List Nat) (z : World), Ds.Nodup → z.cell? ⟨g, 0, none⟩ = some v → (∀ D, D ∈ Ds → D ≠ g ∧ z.heap[D]? = some (.deferred (some []))) → (∀ z', Chg (fun b => b ∈ Ds) z z' → R (.returned v) z') → LeavesInM Fence.wide 0 P fn tmps R (Ds.map markD) .returning z
  | [], z, _, hc, _, hR => leaves0 (results_cell1 hr _ _ g v hp hc ha) (hR z (Chg.refl _ z))
  | D :: Ds, z, hn, hc, hd, hR => by
    obtain ⟨hn1, hn2⟩ := List.nodup_cons.1 hn
    obtain ⟨h1, h2⟩ := hd D (List.mem_cons_self ..)
    refine ⟨(fun e => nomatch e), .inl ⟨D, _, rfl, run_takeDeferred h2, leaves_marks hr hp ha Ds _ hn2 ?_ (fun D' hD' => ?_) fun z' hz' => hR z' ?_⟩⟩
    · exact (World.cell?_of_block (World.putObj_heap_other (fun e => h1 e.symm))).trans hc
    · obtain ⟨h3, h4⟩ := hd D' (List.mem_cons_of_mem _ hD')
      exact ⟨h3, (World.putObj_heap_other (fun e => hn1 (by rw [← e]; exact hD'))).trans h4⟩
    · exact ((chg_putObj z D _).mono fun b _ e => by rw [e]; exact List.mem_cons_self ..).trans (hz'.mono fun b _ h => List.mem_cons_of_mem _ h)
theorem RBox.marks {P : Program} {w x1 z : World} {g : Nat} {u : Value} {os : List Ob} {Ds : List Nat} (h : RBox w x1 g u) (hz : OW x1 os z) (hd : ∀ D, D ∈ Ds → dfrO D ∈ os) (hn : Ds.Nodup) (v : Value) {fn : Func} {tmps : Array Value} {R : Ending → World → Prop} {p : Tmp} {ty : TypeId} (hr : fn.results = #[.cell p ty]) (hp : tmps.getD p undef = .pointer (some ⟨g, 0, none⟩)) (ha : ∀ w, (isAgg ty).run P w = .ok false w)
    (hR : ∀ z', Below w.heap.size w z' → R (.returned v) z') : LeavesInM Fence.wide 0 P fn tmps R (Ds.map markD) .returning (z.setCell ⟨g, 0, none⟩ v) := by
  have hraw : ∀ D, D ∈ Ds → x1.heap.size ≤ D ∧ z.heap[D]? = some (.deferred (some [])) := fun D hD => by
    obtain ⟨i, hi⟩ := List.getElem?_of_mem (hd D hD)
    exact hz.rawh hi
  refine leaves_marks hr hp ha Ds _ hn (h.got hz.up v) (fun D hD => ?_) fun z' hz' => hR z' ?_
  · obtain ⟨h1, h2⟩ := hraw D hD
    have hne : D ≠ g := by have := h.hi; omega
    exact ⟨hne, (Below.heap_setCell _ _ _ _ hne).trans h2⟩
  · exact (h.up' hz.up v).trans (hz'.below (h.up' hz.up v).size fun k _ e => by
      have h1 := (hraw k e).1; have := h.lo; have := h.hi; omega)
theorem at_outQ {x : World} {R g : Nat} {L : List Ent} (h : BkR x R g L) (hL : ∀ e, e ∈ L → e.row.length ≤ 140737488355000 ∧ e.qual.length ≤ 140737488355000 ∧ e.val.length ≤ 140737488355000) (i : Int) (hi : i < 0 ∨ (L.length : Int) ≤ i) :
    Calls Tryz.prog 19 #[.pointer (some ⟨g, 0, none⟩), .int .i64 i] x fun r z => r = .returned (.tuple #[entV none 0 0 none 0 0 none 0 0 noEnt, .int .i64 1]) ∧ Below x.heap.size x z :=
  (at_any h hL i).mono fun r z hp => by
    rcases hp with ⟨k', e', h1, h2, _⟩ | ⟨_, h2, h3⟩
    · have := (List.getElem?_eq_some_iff.1 h2).1; omega
    · exact ⟨h2, h3⟩
theorem seek_self {L : List Ent} {i : Nat} {e : Ent} (hA : Asc (L.map keyE)) (hi : L[i]? = some e) : seekL L (keyE e) = i := by
  have hlt := (List.getElem?_eq_some_iff.1 hi).1
  have h0 := seekN_iff hA (key := keyE e) (i := i) (k := keyE e) (by rw [List.getElem?_map, hi]; rfl)
  have h1 : ¬ i < seekL L (keyE e) := fun h => by
    have h2 := h0.2 h
    rw [cmpB_same] at h2
    exact absurd h2 (by decide)
  rcases Nat.eq_zero_or_pos i with hz | hz
  · omega
  · obtain ⟨p, rfl⟩ : ∃ p, i = p + 1 := ⟨i - 1, by omega⟩
    obtain ⟨f, hf⟩ : ∃ f, L[p]? = some f := ⟨_, List.getElem?_eq_getElem (by omega)⟩
    have h3 := seekN_iff hA (key := keyE e) (i := p) (k := keyE f) (by rw [List.getElem?_map, hf]; rfl)
    have h4 : cmpB (keyE f) (keyE e) < 0 := by
      refine List.pairwise_iff_getElem.1 hA p (p + 1) (by rw [List.length_map]; omega) (by rw [List.length_map]; omega) (by omega) |> fun h => ?_
      rw [List.getElem_map, List.getElem_map] at h
      have e1 := (List.getElem?_eq_some_iff.1 hf).2
      have e2 := (List.getElem?_eq_some_iff.1 hi).2
      rw [e1, e2] at h
      exact h
    have h5 : p < seekL L (keyE e) := h3.1 h4
    omega
set_option maxRecDepth 10000000 in
set_option maxHeartbeats 8000000 in
theorem reads_any (b : List UInt8) (A : Option Addr) (n0 c : Nat) (key : List UInt8) (KA : Option Addr) (kn0 kc : Nat) (stop : Int) (w : World) (hs : Sl w A n0 c b) (hk : Sl w KA kn0 kc key) (ht : TabAt 0 w) :
    Calls Tryz.prog 3 #[.slice A n0 c, .slice KA kn0 kc, .int .i64 stop] w fun e z => e = .returned (.bool true) ∧ Below w.heap.size w z := by
  have HTB : Hid (∀ z, Below w.heap.size w z → TabAt 0 z) := Lib.hid fun z hz => ht.later hz
  obtain ⟨m0, hm0⟩ : ∃ z, z = min n0 140000 := ⟨_, rfl⟩
  obtain ⟨k0, hk0⟩ : ∃ z, z = min kn0 5000 := ⟨_, rfl⟩
  have hm02 : m0 ≤ 140000 := by omega
  have hk02 : k0 ≤ 5000 := by omega
  have HS0 : Hid (∀ z, Below w.heap.size w z → Sl z A n0 c b) := Lib.hid fun z hz => hs.later hz
  have HS : Hid (∀ z, Below w.heap.size w z → Sl z A m0 c (b.take m0)) := Lib.hid fun z hz => (hs.later hz).take (by omega)
  have HK0 : Hid (∀ z, Below w.heap.size w z → Sl z KA kn0 kc key) := Lib.hid fun z hz => hk.later hz
  have HK : Hid (∀ z, Below w.heap.size w z → Sl z KA k0 kc (key.take k0)) := Lib.hid fun z hz => (hk.later hz).take (by omega)
  have HM0 := Lib.hid hm0.symm
  have HKM := Lib.hid hk0.symm
  obtain ⟨l, hl⟩ : ∃ z, z = b.take m0 := ⟨_, rfl⟩
  obtain ⟨ky, hky⟩ : ∃ z, z = key.take k0 := ⟨_, rfl⟩
  have HL : Hid (l.length = m0) := Lib.hid (by rw [hl]; exact (HS.out w (Below.refl _ _)).rb.len)
  have HKL : Hid (ky.length = k0) := Lib.hid (by rw [hky]; exact (HK.out w (Below.refl _ _)).rb.len)
  rw [← hl] at HS
  rw [← hky] at HK
  obtain ⟨ke, hke⟩ : ∃ z, z = (openE l).2 := ⟨_, rfl⟩
  have HKE := Lib.hid hke.symm
  have HX0 := Lib.hid (OW.nil w)
  clear hs hk ht hm0 hk0 hl hky hke
  refine calls_marks Tryz.func3 rfl ?_
  simp only [Tryz.ntmps3, List.size_toArray, List.length_cons, List.length_nil, Nat.reduceAdd, Nat.reduceSub, Array.replicate_succ, Array.replicate_zero, List.push_toArray, List.append_toArray, List.nil_append, List.cons_append]
  go_upto_region 7 with (first
    | (refine wl_box rfl (.tmp 2) rfl [.int .i64 stop] rfl HX0.out ?_; intro g5 x0 hz _; have HX1 := Lib.hid hz; clear hz HX0)
    | (refine wl_alloc rfl rfl [.bool false] (.inr ⟨.bool false, by kernel_rfl, rfl⟩) HX1.out ?_; intro g6 x1 hz _; have HG := Lib.hid (RBox.of (hz.erase 0)); have HST : Hid (∀ z, Below x1.heap.size x1 z → z.cell? ⟨g5, 0, none⟩ = some (.int .i64 stop)) := Lib.hid fun z hq => (hq.cell (p := ⟨g5, 0, none⟩) (hz.box (i := 0) rfl).2.1).trans (hz.cell (i := 0) (j := 0) rfl rfl); have HW : Hid (∀ z, Below x1.heap.size x1 z → Below w.heap.size w z) := Lib.hid fun z hz => HG.out.up.trans (hz.mono HG.out.up.size); have HX := Lib.hid (OW.nil x1); clear hz HX1)
    | (go_at_call 5; go_must (refine (told_any _ (HTB.out _ (HW.out _ HX.out.up))).mono ?_); rintro r z3 ⟨rfl, hb⟩; replace HX := Lib.hid (HX.out.later hb); clear hb)
    | (go_at_call 7; go_must (refine (cut5_any b A n0 c 140000 _ (HS0.out _ (HW.out _ HX.out.up)) (by decide)).mono ?_); rw [HM0.out]; rintro r z1 ⟨rfl, hz1⟩; rw [hz1]; clear hz1)
    | (go_at_call 6; go_must (refine (laid5_any l A m0 c _ (HS.out _ (HW.out _ HX.out.up)) (by omega)).mono ?_); rintro r z2 ⟨A2, c2, rfl, ho⟩; have HX2 : Hid (OW x1 [bytO 5 (A2, c2, l ++ mkL 70)] z2) := Lib.hid (HX.out.app ho); clear ho HX)
    | (go_at_call 8; go_must (refine (copied_any l A2 m0 c2 _ (by omega) (sl_front' (HX2.out.sl (i := 0) rfl rfl) HL.out).rb).mono ?_); rintro r x3 hp; obtain ⟨A3, c3, rfl, _, ho, hb⟩ := hp.at_ HL.out; have HX3 : Hid (OW x1 [bytO 5 (A2, c2, l ++ mkL 70), bytO 5 (A3, c3, l)] x3) := Lib.hid (HX2.out.app (OW.byt1 hb ho)); clear hp ho hb HX2)
    | (go_at_call 9; go_must (refine (open_u l A2 m0 c2 _ (sl_front' (HX3.out.sl (i := 0) rfl rfl) HL.out) (HTB.out _ (HW.out _ HX3.out.up))).mono ?_); rw [HKE.out]; rintro r x4 ⟨pv, bo, rfl, ho, h1, h2⟩; have HPV : Hid (pv.oneCell' = true) := Lib.hid (by cases hq : (openE l).1 with | none => rw [h1 hq]; rfl | some L => obtain ⟨g, h3, _⟩ := h2 L hq; rw [h3]; rfl); have HP0 := Lib.hid h1; have HP1 := Lib.hid h2; have HX4 : Hid (OW x1 ([bytO 5 (A2, c2, l ++ mkL 70), bytO 5 (A3, c3, l)] ++ bo) x4) := Lib.hid (HX3.out.app ho); clear ho h1 h2 HX3)
    | (refine wl_alloc rfl rfl [.pointer none] (.inr ⟨.pointer none, by kernel_rfl, rfl⟩) HX4.out ?_; intro g9 x5 hz _; have HX5 := Lib.hid (hz.perm List.perm_append_comm); clear hz HX4)
    | (refine wl_put1 rfl (.tmp 9) (.tmp 35) rfl HX5.out 0 rfl 0 rfl (by simp) pv rfl (by kernel_rfl) HPV.out ?_; intro x6 hz _; have HX6 : Hid (OW x1 (boxO g9 [pv] :: ([bytO 5 (A2, c2, l ++ mkL 70), bytO 5 (A3, c3, l)] ++ bo)) x6) := Lib.hid hz; clear hz HX5)
    | (go_at_call 10; go_must (refine (ropen_u l A3 m0 c3 _ (HX6.out.sl (i := 2) rfl HL.out)).mono ?_); rw [HKE.out]; rintro r x7 ⟨RA, n, rc, eo, rfl, ho, h2⟩; have HR1 := Lib.hid h2; have HX7 : Hid (OW x1 ((boxO g9 [pv] :: ([bytO 5 (A2, c2, l ++ mkL 70), bytO 5 (A3, c3, l)] ++ bo)) ++ eo) x7) := Lib.hid (HX6.out.app ho); clear ho h2 HX6)
    | (refine wl_alloc rfl rfl [.slice none 0 0] (.inr ⟨.slice none 0 0, by kernel_rfl, rfl⟩) HX7.out ?_; intro g11 x8 hz _; have HX8 := Lib.hid (hz.perm List.perm_append_comm); clear hz HX7)
    | (refine wl_put1 rfl (.tmp 11) (.tmp 40) rfl HX8.out 0 rfl 0 rfl (by simp) _ rfl (by kernel_rfl) rfl ?_; intro x9 hz _; have HX9 : Hid (OW x1 (boxO g11 [.slice RA n rc] :: ((boxO g9 [pv] :: ([bytO 5 (A2, c2, l ++ mkL 70), bytO 5 (A3, c3, l)] ++ bo)) ++ eo)) x9) := Lib.hid hz; clear hz HX8))
  have e1 : (ke != ke) = false := by simp
  have e2 : (true != true) = false := rfl
  have e3 : (false != false) = false := rfl
  cases ho : (openE l).1 with
  | none =>
    have hk0 : ke ≠ 0 := fun h => (by obtain ⟨L, hL⟩ := openE_zero.1 (HKE.out.trans h); rw [ho] at hL; cases hL)
    obtain rfl := HP0.out ho
    have e4 : (ke != 0) = true := bne_iff_ne.2 hk0
    clear ho hk0 HR1 HP0 HP1
    go_wp2_with (first
      | (refine wpList_load_cell rfl 26 (.tmp 9) rfl rfl (HX9.out.cell (i := 1) (j := 0) rfl rfl) (fun w => Tryz.isAgg26 w) ?_)
      | (go_at_call 11; go_must (refine (intact_any l _ _ m0 c2 c3 _ (HX9.out.sl (i := 2) rfl (by rw [List.length_append, mkL_len, HL.out])) (HX9.out.sl (i := 3) rfl HL.out).rb (by omega)).mono ?_); rintro r x10 ⟨rfl, hb⟩; replace HX9 := Lib.hid (HX9.out.later hb); clear hb)
      | (refine wl_cell1 rfl (.tmp 6) (.const (.bool true)) rfl rfl (HG.out.cell' HX9.out.up) (HG.out.fz' HX9.out.up) _ rfl (by kernel_rfl) rfl ?_))
    exact leaves0 (results_cell1 rfl _ _ g6 _ rfl (HG.out.got HX9.out.up _) (fun w => Tryz.isAgg4 w)) ⟨rfl, HG.out.up' HX9.out.up _⟩
  | some L =>
  have hk0 : ke = 0 := by rw [← HKE.out]; exact openE_zero.2 ⟨L, ho⟩
  obtain ⟨g, rfl, hb5⟩ := HP1.out L ho
  obtain ⟨rs, hrs, hrn, rfl⟩ := HR1.out L ho
  have e4 : (ke != 0) = false := by rw [hk0]; rfl
  have HOK : Hid (BkOk (resB l) L) := Lib.hid (BkOk.of ho)
  have HQ : Hid (QOk x1 ⟨resB l, g, L, RA, n, rc, bo ++ entsO RA n rc rs⟩) := Lib.hid (qok_new ho hb5 hrs)
  obtain ⟨Ai, ci, hitr⟩ := hb5.itrQ (r0 := bytO 5 (A2, c2, l ++ mkL 70) :: bytO 5 (A3, c3, l) :: boxO g9 [.pointer (some ⟨g, 0, none⟩)] :: boxO g11 [.slice RA n rc] :: entsO RA n rc rs) (HX9.out.perm (by (refine perm_of_cnt fun a => ?_; (simp only [cntO_app, cntO_cons, cntO_nil]) <;> omega)))
  have HIT := Lib.hid hitr
  have HLE : Hid (L.length = n) := Lib.hid (by rw [← hrs, List.length_map]; exact hrn)
  clear ho hk0 hb5 hrs hrn hitr HR1 HP0 HP1
  go_upto_region 11 with (first
    | (refine wpList_load_cell rfl 26 (.tmp 9) rfl rfl (HX9.out.cell (i := 1) (j := 0) rfl rfl) (fun w => Tryz.isAgg26 w) ?_)
    | (go_at_call 11; go_must (refine (intact_any l _ _ m0 c2 c3 _ (HX9.out.sl (i := 2) rfl (by rw [List.length_append, mkL_len, HL.out])) (HX9.out.sl (i := 3) rfl HL.out).rb (by omega)).mono ?_); rintro r x10 ⟨rfl, hb⟩; replace HX9 := Lib.hid (HX9.out.later hb); clear hb))
  obtain ⟨wb, wo, hRA⟩ : ∃ wb wo, RA = some ⟨wb, wo, none⟩ := by
    obtain ⟨b, o, _, _, _, _, _, _, _, h, _⟩ := (HQ.out.rd _ (boxO g11 [.slice RA n rc] :: boxO g9 [.pointer (some ⟨g, 0, none⟩)] :: bytO 5 (A2, c2, l ++ mkL 70) :: bytO 5 (A3, c3, l) :: []) (HX9.out.perm (by (refine perm_of_cnt fun a => ?_; (simp only [cntO_app, cntO_cons, cntO_nil]) <;> omega)))).2.at_ (show 0 < n by rw [← HLE.out]; exact HOK.out.pos)
    exact ⟨b, o, h⟩
  subst hRA
  obtain ⟨sk, hsk⟩ : ∃ z, z = seekL L ky := ⟨_, rfl⟩
  have HSK := Lib.hid hsk.symm
  have hn1 : n ≤ 131072 := by rw [← HLE.out]; exact HOK.out.len
  have hn0 : 0 < n := by rw [← HLE.out]; exact HOK.out.pos
  have HSB : Hid (SlB (bytO 5 (A2, c2, l ++ mkL 70)) A2 m0 c2) := Lib.hid ((slB_byt _ A2 c2 (l ++ mkL 70)).leQ (by rw [List.length_append, HL.out]; omega))
  clear hsk e1 e2 e3 e4 HKE HPV
  go_upto_region 15 with (first
    | (refine wl_box rfl (.tmp 60) rfl [.slice none 0 0, .slice none 0 0, .int .i64 0] rfl HX9.out ?_; intro gf x11 hz _; obtain ⟨of, hf, hz2⟩ := Fl.new hz; have HF := Lib.hid hf; have HX10 : Hid (OW x1 (boxO g11 [.slice (some ⟨wb, wo, none⟩) n rc] :: boxO g9 [.pointer (some ⟨g, 0, none⟩)] :: bytO 5 (A2, c2, l ++ mkL 70) :: (bo ++ (entsO (some ⟨wb, wo, none⟩) n rc rs ++ of))) x11) := Lib.hid (OW.erase (hz2.perm (os' := bytO 5 (A3, c3, l) :: (boxO g11 [.slice (some ⟨wb, wo, none⟩) n rc] :: boxO g9 [.pointer (some ⟨g, 0, none⟩)] :: bytO 5 (A2, c2, l ++ mkL 70) :: (bo ++ (entsO (some ⟨wb, wo, none⟩) n rc rs ++ of)))) (by (refine perm_of_cnt fun a => ?_; (simp only [cntO_app, cntO_cons, cntO_nil]) <;> omega))) 0); clear hz hz2 hf HX9)
    | (refine wl_alloc rfl rfl [.pointer none] (.inr ⟨.pointer none, by kernel_rfl, rfl⟩) HX10.out ?_; intro g13 x12 hz _; have HX11 := Lib.hid (hz.perm List.perm_append_comm); clear hz HX10)
    | (refine wl_put1 rfl (.tmp 13) (.tmp 61) rfl HX11.out 0 rfl 0 rfl (by simp) (.pointer (some ⟨gf, 0, none⟩)) rfl (by kernel_rfl) rfl ?_; intro x13 hz _; have HX12 : Hid (OW x1 (boxO g13 [.pointer (some ⟨gf, 0, none⟩)] :: boxO g11 [.slice (some ⟨wb, wo, none⟩) n rc] :: boxO g9 [.pointer (some ⟨g, 0, none⟩)] :: bytO 5 (A2, c2, l ++ mkL 70) :: (bo ++ (entsO (some ⟨wb, wo, none⟩) n rc rs ++ of))) x13) := Lib.hid hz; clear hz HX11)
    | (refine wpList_load_cell rfl 34 (.tmp 13) rfl rfl (HX12.out.cell (i := 0) (j := 0) rfl rfl) (fun w => Tryz.isAgg34 w) ?_)
    | (go_at_call 12; go_must (refine (take_any (rest := boxO g13 [.pointer (some ⟨gf, 0, none⟩)] :: boxO g11 [.slice (some ⟨wb, wo, none⟩) n rc] :: boxO g9 [.pointer (some ⟨g, 0, none⟩)] :: (bo ++ entsO (some ⟨wb, wo, none⟩) n rc rs)) HF.out HSB.out (HX12.out.perm (by (refine perm_of_cnt fun a => ?_; (simp only [cntO_app, cntO_cons, cntO_nil]) <;> omega))) (by omega)).mono ?_); rintro r x14 ⟨rfl, osF, hf, hz⟩; have HF1 := Lib.hid hf; have HX13 : Hid (OW x1 (boxO g13 [.pointer (some ⟨gf, 0, none⟩)] :: boxO g11 [.slice (some ⟨wb, wo, none⟩) n rc] :: boxO g9 [.pointer (some ⟨g, 0, none⟩)] :: (bo ++ (entsO (some ⟨wb, wo, none⟩) n rc rs ++ osF))) x14) := Lib.hid (hz.perm (by (refine perm_of_cnt fun a => ?_; (simp only [cntO_app, cntO_cons, cntO_nil]) <;> omega))); clear hf hz HF HX12)
    | (go_at_call 7; go_must (refine (cut5_any key KA kn0 kc 5000 _ (HK0.out _ (HW.out _ HX13.out.up)) (by decide)).mono ?_); rw [HKM.out]; rintro r z1 ⟨rfl, hz1⟩; rw [hz1]; clear hz1)
    | (go_at_call 6; go_must (refine (laid5_any ky KA k0 kc _ (HK.out _ (HW.out _ HX13.out.up)) (by omega)).mono ?_); rintro r z2 ⟨A14, c14, rfl, ho⟩; have HX14 : Hid (OW x1 (bytO 5 (A14, c14, ky ++ mkL 70) :: boxO g13 [.pointer (some ⟨gf, 0, none⟩)] :: boxO g11 [.slice (some ⟨wb, wo, none⟩) n rc] :: boxO g9 [.pointer (some ⟨g, 0, none⟩)] :: (bo ++ (entsO (some ⟨wb, wo, none⟩) n rc rs ++ osF))) z2) := Lib.hid ((HX13.out.app ho).perm List.perm_append_comm); clear ho HX13)
    | (go_at_call 8; go_must (refine (copied_any ky A14 k0 c14 _ (by omega) (sl_front' (HX14.out.sl (i := 0) rfl rfl) HKL.out).rb).mono ?_); rintro r x15 hp; obtain ⟨A15, c15, rfl, _, ho, hb⟩ := hp.at_ HKL.out; have HX15 : Hid (OW x1 (bytO 5 (A15, c15, ky) :: bytO 5 (A14, c14, ky ++ mkL 70) :: boxO g13 [.pointer (some ⟨gf, 0, none⟩)] :: boxO g11 [.slice (some ⟨wb, wo, none⟩) n rc] :: boxO g9 [.pointer (some ⟨g, 0, none⟩)] :: (bo ++ (entsO (some ⟨wb, wo, none⟩) n rc rs ++ osF))) x15) := Lib.hid ((HX14.out.app (OW.byt1 hb ho)).perm List.perm_append_comm); clear hp ho hb HX14))
  have hrd := HQ.out.rd _ (bytO 5 (A15, c15, ky) :: bytO 5 (A14, c14, ky ++ mkL 70) :: boxO g13 [.pointer (some ⟨gf, 0, none⟩)] :: boxO g11 [.slice (some ⟨wb, wo, none⟩) n rc] :: boxO g9 [.pointer (some ⟨g, 0, none⟩)] :: osF) (HX15.out.perm (by (refine perm_of_cnt fun a => ?_; (simp only [cntO_app, cntO_cons, cntO_nil]) <;> omega)))
  have HRD := Lib.hid hrd
  clear hrd
  have f1 : (n != n) = false := by simp
  have f2 : ((n : Int) != (n : Int)) = false := by simp
  have f3 : ((sk : Int) != (sk : Int)) = false := by simp
  refine lt_start [] (by kernel_rfl) ?_
  intro xd hd
  refine ⟨fun z => Below x15.heap.size x15 z, ?_⟩
  have HS := Lib.hid (hd)
  refine lt_take 0 [1, 4, 5, 6, 7, 8, 9, 10, 11, 12, 13, 14, 15, 16, 17, 18, 19] rfl (by kernel_rfl) (by kernel_rfl) (by kernel_rfl) (by kernel_rfl) (by kernel_rfl) (fun _ _ _ h => h) (yi_cell rfl rfl rfl (fun w hS => (HX15.out.later hS).cell (i := 4) (j := 0) rfl rfl) (fun w => Tryz.isAgg26 w)) HS.out ?_
  simp only [Act.put, List.setIfInBounds_toArray, List.set_cons_zero, List.set_cons_succ]
  refine lt_take 2 [3, 4, 5, 6, 7, 8, 9, 10, 11, 12, 13, 14, 15, 16, 17, 18, 19] rfl (by kernel_rfl) (by kernel_rfl) (by kernel_rfl) (by kernel_rfl) (by kernel_rfl) (fun _ _ _ h => h) (yi_cell rfl rfl rfl (fun w hS => (HX15.out.later hS).cell (i := 3) (j := 0) rfl rfl) (fun w => Tryz.isAgg30 w)) HS.out ?_
  simp only [Act.put, List.setIfInBounds_toArray, List.set_cons_zero, List.set_cons_succ]
  refine lt_pure 3 rfl (by kernel_rfl) (by kernel_rfl) (by kernel_rfl) (by kernel_rfl) (fun _ _ _ h => h) (v := ?_) (yi_run rfl (fun w => ?_)) (fun _ => HS.out) ?_
  rotate_left
  · first | (go_simp; done) | (go_simp; with_reducible rfl)
  simp only [Act.put, List.setIfInBounds_toArray, List.set_cons_zero, List.set_cons_succ]
  refine lt_call 1 rfl (by kernel_rfl) rfl rfl ⟨_, Tryz.func13, by decide, by kernel_rfl⟩ [.pointer (some ⟨g, 0, none⟩)] rfl ?_
  refine (len_any (HRD.out.1.later HS.out)).mono ?_
  rw [HLE.out]
  rintro e y1 ⟨rfl, hb⟩
  replace HS := Lib.hid (HS.out.trans (hb.mono HS.out.size))
  clear hb
  refine ⟨_, rfl, fun _ => HS.out, ?_⟩
  simp only [Act.put, List.setIfInBounds_toArray, List.set_cons_zero, List.set_cons_succ]
  refine lt_pure 4 rfl (by kernel_rfl) (by kernel_rfl) (by kernel_rfl) (by kernel_rfl) (fun _ _ _ h => h) (v := ?_) (yi_run rfl (fun w => ?_)) (fun _ => HS.out) ?_
  rotate_left
  · first | (go_simp; done) | (go_simp; with_reducible rfl)
  simp only [Act.put, List.setIfInBounds_toArray, List.set_cons_zero, List.set_cons_succ]
  refine lt_pure 5 rfl (by kernel_rfl) (by kernel_rfl) (by kernel_rfl) (by kernel_rfl) (fun _ _ _ h => h) (v := ?_) (yi_run rfl (fun w => ?_)) (fun _ => HS.out) ?_
  rotate_left
  · first | (go_simp; done) | (go_simp; with_reducible rfl)
  simp only [Act.put, List.setIfInBounds_toArray, List.set_cons_zero, List.set_cons_succ]
  refine lt_take 6 [8, 11, 12, 13, 14, 15, 16, 17, 18, 19] rfl (by kernel_rfl) (by kernel_rfl) (by kernel_rfl) (by kernel_rfl) (by kernel_rfl) (fun _ _ _ h => h) (yi_cell rfl rfl rfl (fun w hS => (HX15.out.later hS).cell (i := 4) (j := 0) rfl rfl) (fun w => Tryz.isAgg26 w)) HS.out ?_
  simp only [Act.put, List.setIfInBounds_toArray, List.set_cons_zero, List.set_cons_succ]
  refine lt_pure 7 rfl (by kernel_rfl) (by kernel_rfl) (by kernel_rfl) (by kernel_rfl) (fun _ _ _ h => h) (v := ?_) (yi_run rfl (fun w => ?_)) (fun _ => HS.out) ?_
  rotate_left
  · first | (go_simp; done) | (go_simp; with_reducible rfl)
  simp only [Act.put, List.setIfInBounds_toArray, List.set_cons_zero, List.set_cons_succ]
  refine lt_take 9 [11, 12, 13, 14, 15, 16, 17, 18, 19] rfl (by kernel_rfl) (by kernel_rfl) (by kernel_rfl) (by kernel_rfl) (by kernel_rfl) (fun _ _ _ h => h) (yi_cell rfl rfl rfl (fun w hS => (HX15.out.later hS).cell (i := 3) (j := 0) rfl rfl) (fun w => Tryz.isAgg30 w)) HS.out ?_
  simp only [Act.put, List.setIfInBounds_toArray, List.set_cons_zero, List.set_cons_succ]
  refine lt_pure 10 rfl (by kernel_rfl) (by kernel_rfl) (by kernel_rfl) (by kernel_rfl) (fun _ _ _ h => h) (v := ?_) (yi_run rfl (fun w => ?_)) (fun _ => HS.out) ?_
  rotate_left
  · first | (go_simp; done) | (go_simp; with_reducible rfl)
  simp only [Act.put, List.setIfInBounds_toArray, List.set_cons_zero, List.set_cons_succ]
  refine lt_call 8 rfl (by kernel_rfl) rfl rfl ⟨_, Tryz.func14, by decide, by kernel_rfl⟩ [.pointer (some ⟨g, 0, none⟩), .slice A14 k0 c14] rfl ?_
  refine (seek_any (HRD.out.1.later HS.out) HOK.out.res HOK.out.pos (Nat.le_trans HOK.out.len (by decide)) HOK.out.asc ky A14 k0 c14 (sl_front' ((HX15.out.later HS.out).sl (i := 1) rfl rfl) HKL.out)).mono ?_
  rw [HSK.out]
  rintro e y2 ⟨rfl, hb⟩
  replace HS := Lib.hid (HS.out.trans (hb.mono HS.out.size))
  clear hb
  refine ⟨_, rfl, fun _ => HS.out, ?_⟩
  simp only [Act.put, List.setIfInBounds_toArray, List.set_cons_zero, List.set_cons_succ]
  refine lt_call 11 rfl (by kernel_rfl) rfl rfl ⟨_, Tryz.func15, by decide, by kernel_rfl⟩ [.slice (some ⟨wb, wo, none⟩) n rc, .slice A15 k0 c15] rfl ?_
  refine (rseek_any L ky (some ⟨wb, wo, none⟩) A15 n rc k0 c15 _ (HRD.out.2.later HS.out) (by omega) HOK.out.chk (by omega) ((HX15.out.later HS.out).sl (i := 0) rfl HKL.out)).mono ?_
  rw [rseekN_is, HSK.out]
  rintro e y3 ⟨rfl, hb⟩
  replace HS := Lib.hid (HS.out.trans (hb.mono HS.out.size))
  clear hb
  refine ⟨_, rfl, fun _ => HS.out, ?_⟩
  simp only [Act.put, List.setIfInBounds_toArray, List.set_cons_zero, List.set_cons_succ]
  refine lt_pure 12 rfl (by kernel_rfl) (by kernel_rfl) (by kernel_rfl) (by kernel_rfl) (fun _ _ _ h => h) (v := ?_) (yi_run rfl (fun w => ?_)) (fun _ => HS.out) ?_
  rotate_left
  · first | (go_simp; done) | (go_simp; with_reducible rfl)
  simp only [Act.put, List.setIfInBounds_toArray, List.set_cons_zero, List.set_cons_succ]
  refine lt_pure 13 rfl (by kernel_rfl) (by kernel_rfl) (by kernel_rfl) (by kernel_rfl) (fun _ _ _ h => h) (v := ?_) (yi_run rfl (fun w => ?_)) (fun _ => HS.out) ?_
  rotate_left
  · first | (go_simp; done) | (go_simp; with_reducible rfl)
  simp only [Act.put, List.setIfInBounds_toArray, List.set_cons_zero, List.set_cons_succ]
  refine lt_pure 14 rfl (by kernel_rfl) (by kernel_rfl) (by kernel_rfl) (by kernel_rfl) (fun _ _ _ h => h) (v := ?_) (yi_run rfl (fun w => ?_)) (fun _ => HS.out) ?_
  rotate_left
  · first | (go_simp; done) | (go_simp; with_reducible rfl)
  simp only [Act.put, List.setIfInBounds_toArray, List.set_cons_zero, List.set_cons_succ]
  refine lt_pure 15 rfl (by kernel_rfl) (by kernel_rfl) (by kernel_rfl) (by kernel_rfl) (fun _ _ _ h => h) (v := ?_) (yi_run rfl (fun w => ?_)) (fun _ => HS.out) ?_
  rotate_left
  · first | (go_simp; done) | (go_simp; with_reducible rfl)
  simp only [Act.put, List.setIfInBounds_toArray, List.set_cons_zero, List.set_cons_succ]
  refine lt_pure 16 rfl (by kernel_rfl) (by kernel_rfl) (by kernel_rfl) (by kernel_rfl) (fun _ _ _ h => h) (v := ?_) (yi_run rfl (fun w => ?_)) (fun _ => HS.out) ?_
  rotate_left
  · first | (go_simp; done) | (go_simp; with_reducible rfl)
  simp only [Act.put, List.setIfInBounds_toArray, List.set_cons_zero, List.set_cons_succ]
  refine lt_call 17 rfl (by kernel_rfl) rfl rfl ⟨_, Tryz.func11, by decide, by kernel_rfl⟩ [.slice A14 k0 c14, .slice A15 k0 c15] rfl ?_
  refine (intact_any ky _ _ k0 c14 c15 _ ((HX15.out.later HS.out).sl (i := 1) rfl (by rw [List.length_append, mkL_len, HKL.out])) ((HX15.out.later HS.out).sl (i := 0) rfl HKL.out).rb (by omega)).mono ?_
  rintro r y4 ⟨rfl, hb⟩
  replace HS := Lib.hid (HS.out.trans (hb.mono HS.out.size))
  clear hb
  refine ⟨_, rfl, fun _ => HS.out, ?_⟩
  simp only [Act.put, List.setIfInBounds_toArray, List.set_cons_zero, List.set_cons_succ]
  refine lt_pure 18 rfl (by kernel_rfl) (by kernel_rfl) (by kernel_rfl) (by kernel_rfl) (fun _ _ _ h => h) (v := ?_) (yi_run rfl (fun w => ?_)) (fun _ => HS.out) ?_
  rotate_left
  · first | (go_simp; done) | (go_simp; with_reducible rfl)
  simp only [Act.put, List.setIfInBounds_toArray, List.set_cons_zero, List.set_cons_succ]
  refine lt_pure 19 rfl (by kernel_rfl) (by kernel_rfl) (by kernel_rfl) (by kernel_rfl) (fun _ _ _ h => h) (v := ?_) (yi_run rfl (fun w => ?_)) (fun _ => HS.out) ?_
  rotate_left
  · first | (go_simp; done) | (go_simp; with_reducible rfl)
  simp only [Act.put, List.setIfInBounds_toArray, List.set_cons_zero, List.set_cons_succ]
  refine lt_done (by kernel_rfl) ?_
  replace HX15 := Lib.hid (HX15.out.later HS.out)
  clear HS HRD
  go_upto_region 18 with (first
    | (refine wl_alloc rfl rfl [.int .i64 0] (.inr ⟨.int .i64 0, by kernel_rfl, rfl⟩) HX15.out ?_; intro gi x16 hz _; have HX16 := Lib.hid (hz.perm List.perm_append_comm); clear hz HX15)
    | (refine wl_put1 rfl (.tmp 16) (.const (.int .i64 0)) rfl HX16.out 0 rfl 0 rfl (by simp) (.int .i64 0) rfl (by kernel_rfl) rfl ?_; intro x17 hz _; have HX17 : Hid (OW x1 (boxO gi [.int .i64 ((0 : Nat))] :: boxO g9 [.pointer (some ⟨g, 0, none⟩)] :: boxO g11 [.slice (some ⟨wb, wo, none⟩) n rc] :: boxO g13 [.pointer (some ⟨gf, 0, none⟩)] :: (bo ++ (entsO (some ⟨wb, wo, none⟩) n rc rs ++ osF))) x17) := Lib.hid (OW.erase (OW.erase (hz.perm (os' := bytO 5 (A15, c15, ky) :: bytO 5 (A14, c14, ky ++ mkL 70) :: (boxO gi [.int .i64 ((0 : Nat))] :: boxO g9 [.pointer (some ⟨g, 0, none⟩)] :: boxO g11 [.slice (some ⟨wb, wo, none⟩) n rc] :: boxO g13 [.pointer (some ⟨gf, 0, none⟩)] :: (bo ++ (entsO (some ⟨wb, wo, none⟩) n rc rs ++ osF)))) (by
        have e : ∀ (a b c d e2 f : Ob) (r : List Ob), (a :: b :: c :: d :: e2 :: f :: r).Perm (b :: c :: a :: f :: e2 :: d :: r) := fun a b c d e2 f r => by (refine perm_of_cnt fun a => ?_; (simp only [cntO_app, cntO_cons, cntO_nil]) <;> omega)
        exact e _ _ _ _ _ _ _)) 0) 0); clear hz HX16))
  go_wp2_with (first
    | (refine wpList_load_cell rfl 26 (.tmp 9) rfl rfl (HX17.out.cell (i := 1) (j := 0) rfl rfl) (fun w => Tryz.isAgg26 w) ?_)
    | (go_at_call 16; go_must (refine (all_newQ g _).mono ?_); rintro e y2 ⟨gb, rfl, ho⟩; have HY : Hid (OW x1 (boxO gb [.pointer (some ⟨g, 0, none⟩)] :: (boxO gi [.int .i64 ((0 : Nat))] :: boxO g9 [.pointer (some ⟨g, 0, none⟩)] :: boxO g11 [.slice (some ⟨wb, wo, none⟩) n rc] :: boxO g13 [.pointer (some ⟨gf, 0, none⟩)] :: (bo ++ (entsO (some ⟨wb, wo, none⟩) n rc rs ++ osF)))) y2) := Lib.hid ((HX17.out.app ho).perm List.perm_append_comm); clear ho HX17))
  have HLB : Hid (L.length ≤ 1000000000 ∧ ∀ e, e ∈ L → e.row.length ≤ 140737488355000 ∧ e.qual.length ≤ 140737488355000 ∧ e.val.length ≤ 140737488355000) := Lib.hid ⟨by rw [HLE.out]; omega, fun e he => ok_lensQ (HOK.out.chk e he)⟩
  have HRW : Hid (∀ (m : Nat) (osF fs ps : List Ob) z, OW x1 (fs ++ ((boxO gi [.int .i64 ((m : Nat))] :: boxO g9 [.pointer (some ⟨g, 0, none⟩)] :: boxO g11 [.slice (some ⟨wb, wo, none⟩) n rc] :: boxO g13 [.pointer (some ⟨gf, 0, none⟩)] :: (bo ++ (entsO (some ⟨wb, wo, none⟩) n rc rs ++ osF))) ++ ps)) z → BkR z (resB l) g L ∧ Ens z (some ⟨wb, wo, none⟩) n L ∧ z.cell? ⟨g, 1, none⟩ = some (.slice Ai L.length ci) ∧ Ens z Ai L.length L) := Lib.hid fun m osF fs ps z hz => by
    have h := HQ.out.rd z (fs ++ (boxO gi [.int .i64 (m : Nat)] :: boxO g9 [.pointer (some ⟨g, 0, none⟩)] :: boxO g11 [.slice (some ⟨wb, wo, none⟩) n rc] :: boxO g13 [.pointer (some ⟨gf, 0, none⟩)] :: (osF ++ ps))) (hz.perm (by (refine perm_of_cnt fun a => ?_; (simp only [cntO_app, cntO_cons, cntO_nil]) <;> omega)))
    exact ⟨h.1, h.2, HIT.out _ z (entsO (some ⟨wb, wo, none⟩) n rc rs ++ (fs ++ (boxO gi [.int .i64 (m : Nat)] :: boxO g9 [.pointer (some ⟨g, 0, none⟩)] :: boxO g11 [.slice (some ⟨wb, wo, none⟩) n rc] :: boxO g13 [.pointer (some ⟨gf, 0, none⟩)] :: (osF ++ ps)))) (hz.perm (by (refine perm_of_cnt fun a => ?_; (simp only [cntO_app, cntO_cons, cntO_nil]) <;> omega)))⟩
  refine wp_range_one (id := 0) (w := x1) (L := L) (Hand := HandE) (Itr := ItrB g gb Ai ci L) rfl (enters_of Tryz.func41 (by kernel_rfl) rfl) (all1_iter g gb Ai ci L HLB.out.1 HLB.out.2) (fun _ _ _ _ h => h.ok)
    (fun pre os => ∃ osF, Fl gf osF ∧ os = boxO gb [.pointer (some ⟨g, 0, none⟩)] :: (boxO gi [.int .i64 ((pre.length : Nat))] :: boxO g9 [.pointer (some ⟨g, 0, none⟩)] :: boxO g11 [.slice (some ⟨wb, wo, none⟩) n rc] :: boxO g13 [.pointer (some ⟨gf, 0, none⟩)] :: (bo ++ (entsO (some ⟨wb, wo, none⟩) n rc rs ++ osF)))) (fun _ os => ∃ (osF : List Ob) (m : Nat), Fl gf osF ∧ (m : Int) = stop ∧ os = boxO gb [.pointer (some ⟨g, 0, none⟩)] :: (boxO gi [.int .i64 ((m : Nat))] :: boxO g9 [.pointer (some ⟨g, 0, none⟩)] :: boxO g11 [.slice (some ⟨wb, wo, none⟩) n rc] :: boxO g13 [.pointer (some ⟨gf, 0, none⟩)] :: (bo ++ (entsO (some ⟨wb, wo, none⟩) n rc rs ++ osF)))) ?itr (os0 := boxO gb [.pointer (some ⟨g, 0, none⟩)] :: (boxO gi [.int .i64 ((0 : Nat))] :: boxO g9 [.pointer (some ⟨g, 0, none⟩)] :: boxO g11 [.slice (some ⟨wb, wo, none⟩) n rc] :: boxO g13 [.pointer (some ⟨gf, 0, none⟩)] :: (bo ++ (entsO (some ⟨wb, wo, none⟩) n rc rs ++ osF)))) ⟨osF, HF1.out, rfl⟩ HY.out ?round ?hq ?next
  case itr =>
    rintro pre os es' z ⟨osF, _, rfl⟩ h
    exact ⟨h.cell (i := 0) (j := 0) rfl rfl, (HRW.out pre.length osF [boxO gb [.pointer (some ⟨g, 0, none⟩)]] es' z h).2.2⟩
  case hq => exact fun a z h => h
  case round =>
    rintro l1 p1 p2 pre e vs W0 W1 os ⟨r0, ds0, hp2⟩ hpre ⟨osF1, hfl, rfl⟩ h0 ⟨A3, B3, D3, rfl, ca, cb, cd, hh⟩
    obtain ⟨m, hm⟩ : ∃ z, z = pre.length := ⟨_, rfl⟩
    have hke := pre_atQ hpre
    rw [← hm] at hke h0
    have hmk : m < n := by have h1 := (List.getElem?_eq_some_iff.1 hke).1; rw [HLE.out] at h1; exact h1
    have HEK := Lib.hid hke
    have HQB := Lib.hid (HLB.out.2 e (List.mem_of_getElem? hke))
    have HQS := Lib.hid (ok_of (HOK.out.chk e (List.mem_of_getElem? hke)))
    have HM := Lib.hid hm
    have HP2 := Lib.hid hp2
    have HFL := Lib.hid hfl
    have HCA := Lib.hid ca
    have HCB := Lib.hid cb
    have HCD := Lib.hid cd
    have HV := Lib.hid ((h0.app hh).perm (perm4Q _ _ _))
    have hm2 : m ≤ 131072 := by omega
    have i0 : (0 : Int) ≤ (m : Int) := by omega
    have i1 : (m : Int) < (n : Int) := by omega
    have i2 : decide ((m : Int) ≥ (n : Int)) = false := decide_eq_false (by omega)
    have i3 : ¬ n ≤ m := by omega
    have hqb1 := HQB.out.1
    have hqb2 := HQB.out.2.1
    have hqb3 := HQB.out.2.2
    have HSC : Hid (SlB (clipO A3 e.row) A3 e.row.length e.row.length ∧ SlB (clipO B3 e.qual) B3 e.qual.length e.qual.length ∧ SlB (clipO D3 e.val) D3 e.val.length e.val.length) := Lib.hid ⟨slB_clip ca (by omega), slB_clip cb (by omega), slB_clip cd (by omega)⟩
    have HQL : Hid (e.row.length ≤ 1000000000 ∧ e.qual.length ≤ 1000000000 ∧ e.val.length ≤ 1000000000) := Lib.hid (by
      have g1 := HQS.out.row
      have g2 := HQS.out.qual
      have g3 := HQS.out.val
      omega)
    clear hke hpre h0 hh ca cb cd hm hfl hp2 HY
    have hsem : ∀ (ρ : Operand → Value) (o : Oper), (∀ c, o.op ≠ .defer c) → Oper.semAt (some l1) ρ o = execOp ρ o := fun ρ o h => Oper.semAt_some l1 ρ o h
    unfold RoundOK
    rw [setP1]
    simp only [List.setIfInBounds_toArray, List.set_cons_zero, List.set_cons_succ]
    gi_wp2_with (first
      | (refine wlIn_one rfl ?_; refine wl_alloc rfl rfl [.slice none 0 0, .int .i64 0, .slice none 0 0, .int .i64 0, .int .i64 0, .int .i64 0, .slice none 0 0] (.inl (by kernel_rfl)) HV.out ?_; intro gy z1 hz _; have HV1 := Lib.hid (hz.perm (perm4Q _ _ _)); clear hz HV; refine wlIn_back ?_)
      | (refine wlIn_one rfl ?_; refine wl_put rfl (.tmp 17) (.tmp 92) rfl HV1.out 0 rfl rfl [.slice A3 e.row.length e.row.length, .int .i64 e.fam, .slice B3 e.qual.length e.qual.length, .int .i64 e.ts, .int .i64 e.seq, .int .i64 e.kind, .slice D3 e.val.length e.val.length] rfl rfl (by kernel_rfl) (by simp [Value.oneCell']) ?_; intro z2 hz _; have HV2 : Hid (OW x1 ((boxO gy [.slice A3 e.row.length e.row.length, .int .i64 e.fam, .slice B3 e.qual.length e.qual.length, .int .i64 e.ts, .int .i64 e.seq, .int .i64 e.kind, .slice D3 e.val.length e.val.length] :: clipO A3 e.row :: clipO B3 e.qual :: clipO D3 e.val :: boxO gb [.pointer (some ⟨g, 0, none⟩)] :: (boxO gi [.int .i64 ((m : Nat))] :: boxO g9 [.pointer (some ⟨g, 0, none⟩)] :: boxO g11 [.slice (some ⟨wb, wo, none⟩) n rc] :: boxO g13 [.pointer (some ⟨gf, 0, none⟩)] :: (bo ++ (entsO (some ⟨wb, wo, none⟩) n rc rs ++ osF1)))) ++ p1) z2) := Lib.hid hz; clear hz HV1; refine wlIn_back ?_))
    refine ⟨_, HV2.out, fun z3 hz3 => ?_⟩
    have HW3 : Hid (OW x1 ((boxO gy [.slice A3 e.row.length e.row.length, .int .i64 e.fam, .slice B3 e.qual.length e.qual.length, .int .i64 e.ts, .int .i64 e.seq, .int .i64 e.kind, .slice D3 e.val.length e.val.length] :: clipO A3 e.row :: clipO B3 e.qual :: clipO D3 e.val :: boxO gb [.pointer (some ⟨g, 0, none⟩)] :: (boxO gi [.int .i64 ((m : Nat))] :: boxO g9 [.pointer (some ⟨g, 0, none⟩)] :: boxO g11 [.slice (some ⟨wb, wo, none⟩) n rc] :: boxO g13 [.pointer (some ⟨gf, 0, none⟩)] :: (bo ++ (entsO (some ⟨wb, wo, none⟩) n rc rs ++ osF1)))) ++ p2) z3) := Lib.hid hz3
    clear hz3 HV2
    by_cases hst : (m : Int) = stop
    case pos =>
      have d1 : ((m : Int) == stop) = true := beq_iff_eq.2 hst
      gi_wp2_with (first
        | (refine wlIn_one rfl ?_; refine wpList_load_cell rfl 3 (.tmp 16) rfl rfl (HW3.out.cell (i := 5) (j := 0) rfl rfl) (fun w => Tryz.isAgg3 w) ?_; refine wlIn_back ?_)
        | (refine wlIn_one rfl ?_; refine wpList_load_cell rfl 3 (.tmp 5) rfl rfl (HST.out _ HW3.out.up) (fun w => Tryz.isAgg3 w) ?_; refine wlIn_back ?_))
      exact ⟨_, ⟨rfl, osF1, m, HFL.out, hst, rfl⟩, (((HW3.out.erase 0).erase 0).erase 0).erase 0⟩
    have d1 : ((m : Int) == stop) = false := beq_eq_false_iff_ne.2 hst
    obtain ⟨Ar, ec, B, d, D, q, e', hbl2, hek, hrg, hen⟩ := (HRW.out m osF1 [boxO gy [.slice A3 e.row.length e.row.length, .int .i64 e.fam, .slice B3 e.qual.length e.qual.length, .int .i64 e.ts, .int .i64 e.seq, .int .i64 e.kind, .slice D3 e.val.length e.val.length], clipO A3 e.row, clipO B3 e.qual, clipO D3 e.val, boxO gb [.pointer (some ⟨g, 0, none⟩)]] p2 z3 HW3.out).2.1.atQ hmk
    obtain rfl : e = e' := by rw [HEK.out] at hek; injection hek
    have HRG : Hid (∀ z, Below z3.heap.size z3 z → z.rangeAt wb (wo + m * 7) [.slice Ar e.row.length ec, .int .i64 e.fam, .slice B e.qual.length d, .int .i64 e.ts, .int .i64 e.seq, .int .i64 e.kind, .slice D e.val.length q]) := Lib.hid fun z hz j v hj => (hz.cell (p := ⟨wb, _, none⟩) hbl2).trans (hrg j v hj)
    have HEN : Hid (∀ z, Below z3.heap.size z3 z → En z Ar e.row.length ec B e.qual.length d D e.val.length q e) := Lib.hid fun z hz => hen.later hz
    clear hek hrg hen hbl2
    gi_wp2_with (first
      | (refine wlIn_one rfl ?_; refine wpList_load_cell rfl 3 (.tmp 16) rfl rfl (HW3.out.cell (i := 5) (j := 0) rfl rfl) (fun w => Tryz.isAgg3 w) ?_; refine wlIn_back ?_)
      | (refine wlIn_one rfl ?_; refine wpList_load_cell rfl 3 (.tmp 5) rfl rfl (HST.out _ HW3.out.up) (fun w => Tryz.isAgg3 w) ?_; refine wlIn_back ?_))
    refine lt_startIn [] (by kernel_rfl) (by kernel_rfl) (fun _ _ h => h) ?_
    intro xd hd
    refine ⟨fun z => Below z3.heap.size z3 z, ?_⟩
    have HS := Lib.hid (hd)
    refine lt_take 0 [3, 4, 5, 6, 7, 8, 9, 10, 11, 12] rfl (by kernel_rfl) (by kernel_rfl) (by kernel_rfl) (by kernel_rfl) (by kernel_rfl) (fun _ _ _ h => h) (yi_cell rfl rfl rfl (fun w hS => (HW3.out.later hS).cell (i := 5) (j := 0) rfl rfl) (fun w => Tryz.isAgg3 w)) HS.out ?_
    simp only [Act.put, List.setIfInBounds_toArray, List.set_cons_zero, List.set_cons_succ]
    refine lt_take 1 [2, 3, 4, 5, 6, 7, 8, 9, 10, 11, 12] rfl (by kernel_rfl) (by kernel_rfl) (by kernel_rfl) (by kernel_rfl) (by kernel_rfl) (fun _ _ _ h => h) (yi_cell rfl rfl rfl (fun w hS => (HW3.out.later hS).cell (i := 7) (j := 0) rfl rfl) (fun w => Tryz.isAgg30 w)) HS.out ?_
    simp only [Act.put, List.setIfInBounds_toArray, List.set_cons_zero, List.set_cons_succ]
    refine lt_pure 2 rfl (by kernel_rfl) (by kernel_rfl) (by kernel_rfl) (by kernel_rfl) (fun _ _ _ h => h) (v := ?_) (yi_run rfl (fun w => ?_)) (fun _ => HS.out) ?_
    rotate_left
    · first | (go_simp; done) | (go_simp; with_reducible rfl)
    simp only [Act.put, List.setIfInBounds_toArray, List.set_cons_zero, List.set_cons_succ]
    refine lt_pure 3 rfl (by kernel_rfl) (by kernel_rfl) (by kernel_rfl) (by kernel_rfl) (fun _ _ _ h => h) (v := ?_) (yi_run rfl (fun w => ?_)) (fun _ => HS.out) ?_
    rotate_left
    · first | (go_simp; done) | (go_simp; with_reducible rfl)
    simp only [Act.put, List.setIfInBounds_toArray, List.set_cons_zero, List.set_cons_succ]
    refine lt_pure 4 rfl (by kernel_rfl) (by kernel_rfl) (by kernel_rfl) (by kernel_rfl) (fun _ _ _ h => h) (v := ?_) (yi_run rfl (fun w => ?_)) (fun _ => HS.out) ?_
    rotate_left
    · first | (go_simp; done) | (go_simp; with_reducible rfl)
    simp only [Act.put, List.setIfInBounds_toArray, List.set_cons_zero, List.set_cons_succ]
    refine lt_take 5 [10, 11, 12] rfl (by kernel_rfl) (by kernel_rfl) (by kernel_rfl) (by kernel_rfl) (by kernel_rfl) (fun _ _ _ h => h) (yi_row rfl rfl rfl (fun w hS => (HW3.out.later hS).range (i := 0) rfl) ent_row5) HS.out ?_
    simp only [Act.put, List.setIfInBounds_toArray, List.set_cons_zero, List.set_cons_succ]
    refine lt_take 6 [8, 9, 10, 11, 12] rfl (by kernel_rfl) (by kernel_rfl) (by kernel_rfl) (by kernel_rfl) (by kernel_rfl) (fun _ _ _ h => h) (yi_cell rfl rfl rfl (fun w hS => (HW3.out.later hS).cell (i := 7) (j := 0) rfl rfl) (fun w => Tryz.isAgg30 w)) HS.out ?_
    simp only [Act.put, List.setIfInBounds_toArray, List.set_cons_zero, List.set_cons_succ]
    refine lt_take 7 [8, 9, 10, 11, 12] rfl (by kernel_rfl) (by kernel_rfl) (by kernel_rfl) (by kernel_rfl) (by kernel_rfl) (fun _ _ _ h => h) (yi_cell rfl rfl rfl (fun w hS => (HW3.out.later hS).cell (i := 5) (j := 0) rfl rfl) (fun w => Tryz.isAgg3 w)) HS.out ?_
    simp only [Act.put, List.setIfInBounds_toArray, List.set_cons_zero, List.set_cons_succ]
    refine lt_pure 8 rfl (by kernel_rfl) (by kernel_rfl) (by kernel_rfl) (by kernel_rfl) (fun _ _ _ h => h) (v := ?_) (yi_run rfl (fun w => ?_)) (fun _ => HS.out) ?_
    rotate_left
    · first | (go_simp; done) | (go_simp; with_reducible rfl)
    simp only [Act.put, List.setIfInBounds_toArray, List.set_cons_zero, List.set_cons_succ]
    refine lt_take 9 [10, 11, 12] rfl (by kernel_rfl) (by kernel_rfl) (by kernel_rfl) (by kernel_rfl) (by kernel_rfl) (fun _ _ _ h => h) (yi_rowO rfl rfl rfl (fun w hS => HRG.out w hS) ent_row5) HS.out ?_
    simp only [Act.put, List.setIfInBounds_toArray, List.set_cons_zero, List.set_cons_succ]
    refine lt_call 10 rfl (by kernel_rfl) rfl rfl ⟨_, Tryz.func17, by decide, by kernel_rfl⟩ [entV A3 e.row.length e.row.length B3 e.qual.length e.qual.length D3 e.val.length e.val.length e, entV Ar e.row.length ec B e.qual.length d D e.val.length q e] rfl ?_
    refine (sameEntry_any e e A3 _ _ B3 _ _ D3 _ _ Ar _ ec B _ d D _ q _ rfl ⟨(HW3.out.later HS.out).clipSl HCA.out (i := 1) rfl rfl (by omega), (HW3.out.later HS.out).clipSl HCB.out (i := 2) rfl rfl (by omega), (HW3.out.later HS.out).clipSl HCD.out (i := 3) rfl rfl (by omega)⟩ (HEN.out _ HS.out)).mono ?_
    rintro r y1 ⟨rfl, hb⟩
    replace HS := Lib.hid (HS.out.trans (hb.mono HS.out.size))
    clear hb
    refine ⟨_, rfl, fun _ => HS.out, ?_⟩
    simp only [Act.put, List.setIfInBounds_toArray, List.set_cons_zero, List.set_cons_succ]
    refine lt_pure 11 rfl (by kernel_rfl) (by kernel_rfl) (by kernel_rfl) (by kernel_rfl) (fun _ _ _ h => h) (v := ?_) (yi_run rfl (fun w => ?_)) (fun _ => HS.out) ?_
    rotate_left
    · first | (go_simp; done) | (go_simp; with_reducible rfl)
    simp only [Act.put, List.setIfInBounds_toArray, List.set_cons_zero, List.set_cons_succ]
    refine lt_pure 12 rfl (by kernel_rfl) (by kernel_rfl) (by kernel_rfl) (by kernel_rfl) (fun _ _ _ h => h) (v := ?_) (yi_run rfl (fun w => ?_)) (fun _ => HS.out) ?_
    rotate_left
    · first | (go_simp; done) | (go_simp; with_reducible rfl)
    simp only [Act.put, List.setIfInBounds_toArray, List.set_cons_zero, List.set_cons_succ]
    refine lt_done (by kernel_rfl) ?_
    replace HW3 := Lib.hid (HW3.out.later HS.out)
    clear HS HRG HEN
    by_cases hm1 : m = 1
    case neg =>
      have d4 : ((m : Int) == 1) = false := beq_eq_false_iff_ne.2 (by omega)
      gi_wp2_with (first
        | (refine wlIn_one rfl ?_; refine wpList_load_cell rfl 34 (.tmp 13) rfl rfl (HW3.out.cell (i := 8) (j := 0) rfl rfl) (fun w => Tryz.isAgg34 w) ?_; refine wlIn_back ?_)
        | (refine wlIn_one rfl ?_; refine wpList_load_row7 rfl 46 (.tmp 17) rfl rfl (HW3.out.range (i := 0) rfl) ent_row5 ?_; refine wlIn_back ?_)
        | (refine ⟨trivial, ?_⟩; gi_at_call 18; go_must (refine CallsIn.mono (callsIn_fw (ro := some l1) (fentry_any (rest := boxO gy [.slice A3 e.row.length e.row.length, .int .i64 e.fam, .slice B3 e.qual.length e.qual.length, .int .i64 e.ts, .int .i64 e.seq, .int .i64 e.kind, .slice D3 e.val.length e.val.length] :: boxO gb [.pointer (some ⟨g, 0, none⟩)] :: (boxO gi [.int .i64 ((m : Nat))] :: boxO g9 [.pointer (some ⟨g, 0, none⟩)] :: boxO g11 [.slice (some ⟨wb, wo, none⟩) n rc] :: boxO g13 [.pointer (some ⟨gf, 0, none⟩)] :: (bo ++ (entsO (some ⟨wb, wo, none⟩) n rc rs)) ++ p2)) e HFL.out HSC.out.1 HSC.out.2.1 HSC.out.2.2 (HW3.out.perm (by (refine perm_of_cnt fun a => ?_; (simp only [cntO_app, cntO_cons, cntO_nil]) <;> omega))) HQL.out.1 HQL.out.2.1 HQL.out.2.2)) ?_); rintro r z4 ⟨rfl, osF2, hf, hz⟩; have HF2 := Lib.hid hf; have HW4 : Hid (OW x1 ((boxO gy [.slice A3 e.row.length e.row.length, .int .i64 e.fam, .slice B3 e.qual.length e.qual.length, .int .i64 e.ts, .int .i64 e.seq, .int .i64 e.kind, .slice D3 e.val.length e.val.length] :: boxO gb [.pointer (some ⟨g, 0, none⟩)] :: (boxO gi [.int .i64 ((m : Nat))] :: boxO g9 [.pointer (some ⟨g, 0, none⟩)] :: boxO g11 [.slice (some ⟨wb, wo, none⟩) n rc] :: boxO g13 [.pointer (some ⟨gf, 0, none⟩)] :: (bo ++ (entsO (some ⟨wb, wo, none⟩) n rc rs ++ osF2)))) ++ p2) z4) := Lib.hid (hz.perm (by (refine perm_of_cnt fun a => ?_; (simp only [cntO_app, cntO_cons, cntO_nil]) <;> omega))); clear hf hz HW3 HFL)
        | (refine wlIn_one rfl ?_; refine wpList_load_cell rfl 3 (.tmp 16) rfl rfl (HW4.out.cell (i := 2) (j := 0) rfl rfl) (fun w => Tryz.isAgg3 w) ?_; refine wlIn_back ?_)
        | (refine wlIn_one rfl ?_; refine wl_put1 rfl (.tmp 16) (.tmp 124) rfl HW4.out 2 rfl 0 rfl (by simp) (.int .i64 ((m + 1 : Nat) : Int)) (by show Value.int .i64 _ = _; go_num) (by kernel_rfl) rfl ?_; intro z6 hz _; have HW6 : Hid (OW x1 ((boxO gy [.slice A3 e.row.length e.row.length, .int .i64 e.fam, .slice B3 e.qual.length e.qual.length, .int .i64 e.ts, .int .i64 e.seq, .int .i64 e.kind, .slice D3 e.val.length e.val.length] :: boxO gb [.pointer (some ⟨g, 0, none⟩)] :: (boxO gi [.int .i64 (((m + 1 : Nat) : Int))] :: boxO g9 [.pointer (some ⟨g, 0, none⟩)] :: boxO g11 [.slice (some ⟨wb, wo, none⟩) n rc] :: boxO g13 [.pointer (some ⟨gf, 0, none⟩)] :: (bo ++ (entsO (some ⟨wb, wo, none⟩) n rc rs ++ osF2)))) ++ p2) z6) := Lib.hid hz; clear hz HW4; refine wlIn_back ?_))
      gi_wp2
      refine ⟨_, ⟨osF2, HF2.out, ?_⟩, HW6.out.erase 0⟩
      show _ = boxO gb [.pointer (some ⟨g, 0, none⟩)] :: (boxO gi [.int .i64 (((pre ++ [e]).length : Nat))] :: boxO g9 [.pointer (some ⟨g, 0, none⟩)] :: boxO g11 [.slice (some ⟨wb, wo, none⟩) n rc] :: boxO g13 [.pointer (some ⟨gf, 0, none⟩)] :: (bo ++ (entsO (some ⟨wb, wo, none⟩) n rc rs ++ osF2)))
      rw [List.length_append, ← HM.out]; rfl
    have d4 : ((m : Int) == 1) = true := beq_iff_eq.2 (by omega)
    gi_wp2_with (first
      | (refine wlIn_one rfl ?_; refine wpList_load_cell rfl 34 (.tmp 13) rfl rfl (HW3.out.cell (i := 8) (j := 0) rfl rfl) (fun w => Tryz.isAgg34 w) ?_; refine wlIn_back ?_)
      | (refine wlIn_one rfl ?_; refine wpList_load_row7 rfl 46 (.tmp 17) rfl rfl (HW3.out.range (i := 0) rfl) ent_row5 ?_; refine wlIn_back ?_)
      | (refine ⟨trivial, ?_⟩; gi_at_call 18; go_must (refine CallsIn.mono (callsIn_fw (ro := some l1) (fentry_any (rest := boxO gy [.slice A3 e.row.length e.row.length, .int .i64 e.fam, .slice B3 e.qual.length e.qual.length, .int .i64 e.ts, .int .i64 e.seq, .int .i64 e.kind, .slice D3 e.val.length e.val.length] :: boxO gb [.pointer (some ⟨g, 0, none⟩)] :: (boxO gi [.int .i64 ((m : Nat))] :: boxO g9 [.pointer (some ⟨g, 0, none⟩)] :: boxO g11 [.slice (some ⟨wb, wo, none⟩) n rc] :: boxO g13 [.pointer (some ⟨gf, 0, none⟩)] :: (bo ++ (entsO (some ⟨wb, wo, none⟩) n rc rs)) ++ p2)) e HFL.out HSC.out.1 HSC.out.2.1 HSC.out.2.2 (HW3.out.perm (by (refine perm_of_cnt fun a => ?_; (simp only [cntO_app, cntO_cons, cntO_nil]) <;> omega))) HQL.out.1 HQL.out.2.1 HQL.out.2.2)) ?_); rintro r z4 ⟨rfl, osF2, hf, hz⟩; have HF2 := Lib.hid hf; have HW4 : Hid (OW x1 ((boxO gy [.slice A3 e.row.length e.row.length, .int .i64 e.fam, .slice B3 e.qual.length e.qual.length, .int .i64 e.ts, .int .i64 e.seq, .int .i64 e.kind, .slice D3 e.val.length e.val.length] :: boxO gb [.pointer (some ⟨g, 0, none⟩)] :: (boxO gi [.int .i64 ((m : Nat))] :: boxO g9 [.pointer (some ⟨g, 0, none⟩)] :: boxO g11 [.slice (some ⟨wb, wo, none⟩) n rc] :: boxO g13 [.pointer (some ⟨gf, 0, none⟩)] :: (bo ++ (entsO (some ⟨wb, wo, none⟩) n rc rs ++ osF2)))) ++ p2) z4) := Lib.hid (hz.perm (by (refine perm_of_cnt fun a => ?_; (simp only [cntO_app, cntO_cons, cntO_nil]) <;> omega))); clear hf hz HW3 HFL)
      | (refine wlIn_one rfl ?_; refine wpList_load_cell rfl 3 (.tmp 16) rfl rfl (HW4.out.cell (i := 2) (j := 0) rfl rfl) (fun w => Tryz.isAgg3 w) ?_; refine wlIn_back ?_)
      | (refine wlIn_one rfl ?_; refine wpList_load_cell rfl 26 (.tmp 9) rfl rfl (HW4.out.cell (i := 3) (j := 0) rfl rfl) (fun w => Tryz.isAgg26 w) ?_; refine wlIn_back ?_)
      | (refine ⟨trivial, ?_⟩; gi_at_call 16; go_must (refine CallsIn.mono (callsIn_fw (ro := some l1) (all_newQ g _)) ?_); rintro r z5 ⟨gb2, rfl, ho⟩; have HW5 : Hid (OW x1 ((boxO gb2 [.pointer (some ⟨g, 0, none⟩)] :: boxO gy [.slice A3 e.row.length e.row.length, .int .i64 e.fam, .slice B3 e.qual.length e.qual.length, .int .i64 e.ts, .int .i64 e.seq, .int .i64 e.kind, .slice D3 e.val.length e.val.length] :: boxO gb [.pointer (some ⟨g, 0, none⟩)] :: (boxO gi [.int .i64 ((m : Nat))] :: boxO g9 [.pointer (some ⟨g, 0, none⟩)] :: boxO g11 [.slice (some ⟨wb, wo, none⟩) n rc] :: boxO g13 [.pointer (some ⟨gf, 0, none⟩)] :: (bo ++ (entsO (some ⟨wb, wo, none⟩) n rc rs ++ osF2)))) ++ p2) z5) := Lib.hid ((HW4.out.app ho).perm List.perm_append_comm); clear ho HW4))
    refine wpIn_range (w := x1) (l0 := l1) (r0 := r0) (L := L) (Hand := HandE) (Itr := ItrB g gb2 Ai ci L) (by have h := HW5.out; rw [HP2.out] at h; exact h.rawE) rfl (enters_of Tryz.func41 (by kernel_rfl) rfl) (all1_iter g gb2 Ai ci L HLB.out.1 HLB.out.2) (fun _ _ _ _ h => h.ok)
      (fun xs os => xs = [] ∧ os = (boxO gb2 [.pointer (some ⟨g, 0, none⟩)] :: boxO gy [.slice A3 e.row.length e.row.length, .int .i64 e.fam, .slice B3 e.qual.length e.qual.length, .int .i64 e.ts, .int .i64 e.seq, .int .i64 e.kind, .slice D3 e.val.length e.val.length] :: boxO gb [.pointer (some ⟨g, 0, none⟩)] :: (boxO gi [.int .i64 ((m : Nat))] :: boxO g9 [.pointer (some ⟨g, 0, none⟩)] :: boxO g11 [.slice (some ⟨wb, wo, none⟩) n rc] :: boxO g13 [.pointer (some ⟨gf, 0, none⟩)] :: (bo ++ (entsO (some ⟨wb, wo, none⟩) n rc rs ++ osF2)))) ++ p2) (fun c xs os => c = .exit 2 ∧ os = (boxO gb2 [.pointer (some ⟨g, 0, none⟩)] :: boxO gy [.slice A3 e.row.length e.row.length, .int .i64 e.fam, .slice B3 e.qual.length e.qual.length, .int .i64 e.ts, .int .i64 e.seq, .int .i64 e.kind, .slice D3 e.val.length e.val.length] :: boxO gb [.pointer (some ⟨g, 0, none⟩)] :: (boxO gi [.int .i64 ((m : Nat))] :: boxO g9 [.pointer (some ⟨g, 0, none⟩)] :: boxO g11 [.slice (some ⟨wb, wo, none⟩) n rc] :: boxO g13 [.pointer (some ⟨gf, 0, none⟩)] :: (bo ++ (entsO (some ⟨wb, wo, none⟩) n rc rs ++ osF2)))) ++ p2) ?itr2 (os0 := (boxO gb2 [.pointer (some ⟨g, 0, none⟩)] :: boxO gy [.slice A3 e.row.length e.row.length, .int .i64 e.fam, .slice B3 e.qual.length e.qual.length, .int .i64 e.ts, .int .i64 e.seq, .int .i64 e.kind, .slice D3 e.val.length e.val.length] :: boxO gb [.pointer (some ⟨g, 0, none⟩)] :: (boxO gi [.int .i64 ((m : Nat))] :: boxO g9 [.pointer (some ⟨g, 0, none⟩)] :: boxO g11 [.slice (some ⟨wb, wo, none⟩) n rc] :: boxO g13 [.pointer (some ⟨gf, 0, none⟩)] :: (bo ++ (entsO (some ⟨wb, wo, none⟩) n rc rs ++ osF2)))) ++ p2) ⟨rfl, rfl⟩ HW5.out ?round2 ?done2 ?stop2
    case itr2 =>
      rintro pre2 os2 es2 z ⟨_, rfl⟩ h
      exact ⟨h.cell (i := 0) (j := 0) rfl rfl, (HRW.out m osF2 [boxO gb2 [.pointer (some ⟨g, 0, none⟩)], boxO gy [.slice A3 e.row.length e.row.length, .int .i64 e.fam, .slice B3 e.qual.length e.qual.length, .int .i64 e.ts, .int .i64 e.seq, .int .i64 e.kind, .slice D3 e.val.length e.val.length], boxO gb [.pointer (some ⟨g, 0, none⟩)]] (p2 ++ es2) z (by have h9 := h; rw [List.append_assoc] at h9; exact h9)).2.2⟩
    case done2 =>
      rintro os2 z ⟨h, _⟩ _
      have := HLE.out
      rw [h] at this
      exact absurd this.symm (by show ¬ n = 0; omega)
    case stop2 =>
      rintro c2 pre2 os2 z _ ⟨rfl, rfl⟩ h
      rw [List.append_nil] at h
      have HW4 : Hid (OW x1 ((boxO gy [.slice A3 e.row.length e.row.length, .int .i64 e.fam, .slice B3 e.qual.length e.qual.length, .int .i64 e.ts, .int .i64 e.seq, .int .i64 e.kind, .slice D3 e.val.length e.val.length] :: boxO gb [.pointer (some ⟨g, 0, none⟩)] :: (boxO gi [.int .i64 ((m : Nat))] :: boxO g9 [.pointer (some ⟨g, 0, none⟩)] :: boxO g11 [.slice (some ⟨wb, wo, none⟩) n rc] :: boxO g13 [.pointer (some ⟨gf, 0, none⟩)] :: (bo ++ (entsO (some ⟨wb, wo, none⟩) n rc rs ++ osF2)))) ++ p2) z) := Lib.hid (h.erase 0)
      clear h HW5
      refine wpIn_exit ?_
      simp only [Exit.inBlock, ↓reduceIte]
      gi_wp2_with (first
        | (refine wlIn_one rfl ?_; refine wpList_load_cell rfl 3 (.tmp 16) rfl rfl (HW4.out.cell (i := 2) (j := 0) rfl rfl) (fun w => Tryz.isAgg3 w) ?_; refine wlIn_back ?_)
        | (refine wlIn_one rfl ?_; refine wl_put1 rfl (.tmp 16) (.tmp 124) rfl HW4.out 2 rfl 0 rfl (by simp) (.int .i64 ((m + 1 : Nat) : Int)) (by show Value.int .i64 _ = _; go_num) (by kernel_rfl) rfl ?_; intro z6 hz _; have HW6 : Hid (OW x1 ((boxO gy [.slice A3 e.row.length e.row.length, .int .i64 e.fam, .slice B3 e.qual.length e.qual.length, .int .i64 e.ts, .int .i64 e.seq, .int .i64 e.kind, .slice D3 e.val.length e.val.length] :: boxO gb [.pointer (some ⟨g, 0, none⟩)] :: (boxO gi [.int .i64 (((m + 1 : Nat) : Int))] :: boxO g9 [.pointer (some ⟨g, 0, none⟩)] :: boxO g11 [.slice (some ⟨wb, wo, none⟩) n rc] :: boxO g13 [.pointer (some ⟨gf, 0, none⟩)] :: (bo ++ (entsO (some ⟨wb, wo, none⟩) n rc rs ++ osF2)))) ++ p2) z6) := Lib.hid hz; clear hz HW4; refine wlIn_back ?_))
      gi_wp2
      refine ⟨_, ⟨osF2, HF2.out, ?_⟩, HW6.out.erase 0⟩
      show _ = boxO gb [.pointer (some ⟨g, 0, none⟩)] :: (boxO gi [.int .i64 (((pre ++ [e]).length : Nat))] :: boxO g9 [.pointer (some ⟨g, 0, none⟩)] :: boxO g11 [.slice (some ⟨wb, wo, none⟩) n rc] :: boxO g13 [.pointer (some ⟨gf, 0, none⟩)] :: (bo ++ (entsO (some ⟨wb, wo, none⟩) n rc rs ++ osF2)))
      rw [List.length_append, ← HM.out]; rfl
    case round2 =>
      rintro l2 q1 q2 pre2 e2 vs2 V0 V1 os2 _ hpre2 ⟨rfl, rfl⟩ k0 ⟨A5, B5, D5, rfl, ca, cb, cd, hh⟩
      have hke2 := pre_atQ hpre2
      have HEK2 : Hid (L[0]? = some e2) := Lib.hid hke2
      have HQB2 := Lib.hid (HLB.out.2 e2 (List.mem_of_getElem? hke2))
      have hqc1 := HQB2.out.1
      have hqc2 := HQB2.out.2.1
      have hqc3 := HQB2.out.2.2
      have HCA2 := Lib.hid ca
      have HCB2 := Lib.hid cb
      have HCD2 := Lib.hid cd
      have HV5 := Lib.hid ((k0.app hh).perm (perm4Q _ _ _))
      clear hke2 hpre2 k0 hh ca cb cd HW5
      have hsem2 : ∀ (ρ : Operand → Value) (o : Oper), (∀ c, o.op ≠ .defer c) → Oper.semAt (some l2) ρ o = execOp ρ o := fun ρ o h => Oper.semAt_some l2 ρ o h
      unfold RoundOK
      rw [setP1]
      simp only [List.setIfInBounds_toArray, List.set_cons_zero, List.set_cons_succ]
      gi_wp2_with (first
        | (refine wlIn_one rfl ?_; refine wl_alloc rfl rfl [.slice none 0 0, .int .i64 0, .slice none 0 0, .int .i64 0, .int .i64 0, .int .i64 0, .slice none 0 0] (.inl (by kernel_rfl)) HV5.out ?_; intro gz z1 hz _; have HV6 := Lib.hid (hz.perm (perm4Q _ _ _)); clear hz HV5; refine wlIn_back ?_)
        | (refine wlIn_one rfl ?_; refine wl_put rfl (.tmp 18) (.tmp 116) rfl HV6.out 0 rfl rfl [.slice A5 e2.row.length e2.row.length, .int .i64 e2.fam, .slice B5 e2.qual.length e2.qual.length, .int .i64 e2.ts, .int .i64 e2.seq, .int .i64 e2.kind, .slice D5 e2.val.length e2.val.length] rfl rfl (by kernel_rfl) (by simp [Value.oneCell']) ?_; intro z2 hz _; have HV7 : Hid (OW x1 ((boxO gz [.slice A5 e2.row.length e2.row.length, .int .i64 e2.fam, .slice B5 e2.qual.length e2.qual.length, .int .i64 e2.ts, .int .i64 e2.seq, .int .i64 e2.kind, .slice D5 e2.val.length e2.val.length] :: clipO A5 e2.row :: clipO B5 e2.qual :: clipO D5 e2.val :: ((boxO gb2 [.pointer (some ⟨g, 0, none⟩)] :: boxO gy [.slice A3 e.row.length e.row.length, .int .i64 e.fam, .slice B3 e.qual.length e.qual.length, .int .i64 e.ts, .int .i64 e.seq, .int .i64 e.kind, .slice D3 e.val.length e.val.length] :: boxO gb [.pointer (some ⟨g, 0, none⟩)] :: (boxO gi [.int .i64 ((m : Nat))] :: boxO g9 [.pointer (some ⟨g, 0, none⟩)] :: boxO g11 [.slice (some ⟨wb, wo, none⟩) n rc] :: boxO g13 [.pointer (some ⟨gf, 0, none⟩)] :: (bo ++ (entsO (some ⟨wb, wo, none⟩) n rc rs ++ osF2)))) ++ p2)) ++ q1) z2) := Lib.hid hz; clear hz HV6; refine wlIn_back ?_))
      refine ⟨_, HV7.out, fun z7 hz7 => ?_⟩
      have HW7 : Hid (OW x1 ((boxO gz [.slice A5 e2.row.length e2.row.length, .int .i64 e2.fam, .slice B5 e2.qual.length e2.qual.length, .int .i64 e2.ts, .int .i64 e2.seq, .int .i64 e2.kind, .slice D5 e2.val.length e2.val.length] :: clipO A5 e2.row :: clipO B5 e2.qual :: clipO D5 e2.val :: ((boxO gb2 [.pointer (some ⟨g, 0, none⟩)] :: boxO gy [.slice A3 e.row.length e.row.length, .int .i64 e.fam, .slice B3 e.qual.length e.qual.length, .int .i64 e.ts, .int .i64 e.seq, .int .i64 e.kind, .slice D3 e.val.length e.val.length] :: boxO gb [.pointer (some ⟨g, 0, none⟩)] :: (boxO gi [.int .i64 ((m : Nat))] :: boxO g9 [.pointer (some ⟨g, 0, none⟩)] :: boxO g11 [.slice (some ⟨wb, wo, none⟩) n rc] :: boxO g13 [.pointer (some ⟨gf, 0, none⟩)] :: (bo ++ (entsO (some ⟨wb, wo, none⟩) n rc rs ++ osF2)))) ++ p2)) ++ q2) z7) := Lib.hid hz7
      clear hz7 HV7
      obtain ⟨Ar2, ec2, B2, d2, D2, q2', e2', hbl3, hek2, hrg2, hen2⟩ := (HRW.out m osF2 [boxO gz [.slice A5 e2.row.length e2.row.length, .int .i64 e2.fam, .slice B5 e2.qual.length e2.qual.length, .int .i64 e2.ts, .int .i64 e2.seq, .int .i64 e2.kind, .slice D5 e2.val.length e2.val.length], clipO A5 e2.row, clipO B5 e2.qual, clipO D5 e2.val, boxO gb2 [.pointer (some ⟨g, 0, none⟩)], boxO gy [.slice A3 e.row.length e.row.length, .int .i64 e.fam, .slice B3 e.qual.length e.qual.length, .int .i64 e.ts, .int .i64 e.seq, .int .i64 e.kind, .slice D3 e.val.length e.val.length], boxO gb [.pointer (some ⟨g, 0, none⟩)]] (p2 ++ q2) z7 (by
        have h := HW7.out
        rw [List.cons_append, List.cons_append, List.cons_append, List.cons_append, List.append_assoc] at h
        exact h)).2.1.atQ hn0
      obtain rfl : e2 = e2' := by rw [HEK2.out] at hek2; injection hek2
      rw [Nat.zero_mul, Nat.add_zero] at hrg2
      have HRG2 : Hid (∀ z, Below z7.heap.size z7 z → z.rangeAt wb wo [.slice Ar2 e2.row.length ec2, .int .i64 e2.fam, .slice B2 e2.qual.length d2, .int .i64 e2.ts, .int .i64 e2.seq, .int .i64 e2.kind, .slice D2 e2.val.length q2']) := Lib.hid fun z hz j v hj => (hz.cell (p := ⟨wb, _, none⟩) hbl3).trans (hrg2 j v hj)
      have HEN2 : Hid (∀ z, Below z7.heap.size z7 z → En z Ar2 e2.row.length ec2 B2 e2.qual.length d2 D2 e2.val.length q2' e2) := Lib.hid fun z hz => hen2.later hz
      have i5 : (0 : Int) < (n : Int) := by omega
      clear hek2 hrg2 hen2 hbl3
      gi_wp2
      refine lt_startIn [] (by kernel_rfl) (by kernel_rfl) (fun _ _ h => h) ?_
      intro xd hd
      refine ⟨fun z => Below z7.heap.size z7 z, ?_⟩
      have HS := Lib.hid (hd)
      refine lt_take 0 [4, 5] rfl (by kernel_rfl) (by kernel_rfl) (by kernel_rfl) (by kernel_rfl) (by kernel_rfl) (fun _ _ _ h => h) (yi_row rfl rfl rfl (fun w hS => (HW7.out.later hS).range (i := 0) rfl) ent_row5) HS.out ?_
      simp only [Act.put, List.setIfInBounds_toArray, List.set_cons_zero, List.set_cons_succ]
      refine lt_take 1 [2, 3, 4, 5] rfl (by kernel_rfl) (by kernel_rfl) (by kernel_rfl) (by kernel_rfl) (by kernel_rfl) (fun _ _ _ h => h) (yi_cell rfl rfl rfl (fun w hS => (HW7.out.later hS).cell (i := 9) (j := 0) rfl rfl) (fun w => Tryz.isAgg30 w)) HS.out ?_
      simp only [Act.put, List.setIfInBounds_toArray, List.set_cons_zero, List.set_cons_succ]
      refine lt_pure 2 rfl (by kernel_rfl) (by kernel_rfl) (by kernel_rfl) (by kernel_rfl) (fun _ _ _ h => h) (v := ?_) (yi_run rfl (fun w => ?_)) (fun _ => HS.out) ?_
      rotate_left
      · first | (go_simp; done) | (go_simp; with_reducible rfl)
      simp only [Act.put, List.setIfInBounds_toArray, List.set_cons_zero, List.set_cons_succ]
      refine lt_take 3 [4, 5] rfl (by kernel_rfl) (by kernel_rfl) (by kernel_rfl) (by kernel_rfl) (by kernel_rfl) (fun _ _ _ h => h) (yi_rowO rfl rfl rfl (fun w hS => HRG2.out w hS) ent_row5) HS.out ?_
      simp only [Act.put, List.setIfInBounds_toArray, List.set_cons_zero, List.set_cons_succ]
      refine lt_call 4 rfl (by kernel_rfl) rfl rfl ⟨_, Tryz.func17, by decide, by kernel_rfl⟩ [entV A5 e2.row.length e2.row.length B5 e2.qual.length e2.qual.length D5 e2.val.length e2.val.length e2, entV Ar2 e2.row.length ec2 B2 e2.qual.length d2 D2 e2.val.length q2' e2] rfl ?_
      refine (sameEntry_any e2 e2 A5 _ _ B5 _ _ D5 _ _ Ar2 _ ec2 B2 _ d2 D2 _ q2' _ rfl ⟨(HW7.out.later HS.out).clipSl HCA2.out (i := 1) rfl rfl (by omega), (HW7.out.later HS.out).clipSl HCB2.out (i := 2) rfl rfl (by omega), (HW7.out.later HS.out).clipSl HCD2.out (i := 3) rfl rfl (by omega)⟩ (HEN2.out _ HS.out)).mono ?_
      rintro r y1 ⟨rfl, hb⟩
      replace HS := Lib.hid (HS.out.trans (hb.mono HS.out.size))
      clear hb
      refine ⟨_, rfl, fun _ => HS.out, ?_⟩
      simp only [Act.put, List.setIfInBounds_toArray, List.set_cons_zero, List.set_cons_succ]
      refine lt_pure 5 rfl (by kernel_rfl) (by kernel_rfl) (by kernel_rfl) (by kernel_rfl) (fun _ _ _ h => h) (v := ?_) (yi_run rfl (fun w => ?_)) (fun _ => HS.out) ?_
      rotate_left
      · first | (go_simp; done) | (go_simp; with_reducible rfl)
      simp only [Act.put, List.setIfInBounds_toArray, List.set_cons_zero, List.set_cons_succ]
      refine lt_done (by kernel_rfl) ?_
      replace HW7 := Lib.hid (HW7.out.later HS.out)
      clear HS
      gi_wp2
      exact ⟨_, ⟨rfl, rfl⟩, (((HW7.out.erase 0).erase 0).erase 0).erase 0⟩
  case next =>
    intro D os z hcase h
    obtain ⟨osF3, m3, hf3, hm3, rfl⟩ : ∃ (osF3 : List Ob) (m3 : Nat), Fl gf osF3 ∧ (m3 = n ∨ (m3 : Int) = stop) ∧ os = boxO gb [.pointer (some ⟨g, 0, none⟩)] :: (boxO gi [.int .i64 ((m3 : Nat))] :: boxO g9 [.pointer (some ⟨g, 0, none⟩)] :: boxO g11 [.slice (some ⟨wb, wo, none⟩) n rc] :: boxO g13 [.pointer (some ⟨gf, 0, none⟩)] :: (bo ++ (entsO (some ⟨wb, wo, none⟩) n rc rs ++ osF3))) := by
      rcases hcase with ⟨osF3, hf, rfl⟩ | ⟨pre, _, osF3, m3, hf, hms, rfl⟩
      · exact ⟨osF3, L.length, hf, .inl HLE.out, rfl⟩
      · exact ⟨osF3, m3, hf, .inr hms, rfl⟩
    have HZ : Hid (OW x1 ((boxO gi [.int .i64 ((m3 : Nat))] :: boxO g9 [.pointer (some ⟨g, 0, none⟩)] :: boxO g11 [.slice (some ⟨wb, wo, none⟩) n rc] :: boxO g13 [.pointer (some ⟨gf, 0, none⟩)] :: (bo ++ (entsO (some ⟨wb, wo, none⟩) n rc rs ++ osF3))) ++ [dfrO D]) z) := Lib.hid (h.erase 0)
    have HF3 := Lib.hid hf3
    clear h hf3 hcase HY HF1
    go_upto_region 30 with fail
    go_cut [133] from 25 to 217 (fun v wx => v = .bool false ∧ Hid (OW x1 ((boxO gi [.int .i64 ((m3 : Nat))] :: boxO g9 [.pointer (some ⟨g, 0, none⟩)] :: boxO g11 [.slice (some ⟨wb, wo, none⟩) n rc] :: boxO g13 [.pointer (some ⟨gf, 0, none⟩)] :: (bo ++ (entsO (some ⟨wb, wo, none⟩) n rc rs ++ osF3))) ++ [dfrO D]) wx))
    case first =>
      rcases hm3 with hm3 | hm3
      · have d1 : (m3 != n) = false := by rw [hm3]; simp
        have d2 : ((m3 : Int) != (n : Int)) = false := by rw [hm3]; simp
        go_wp2_with (first
          | (refine wpList_load_cell rfl 3 (.tmp 16) rfl rfl (HZ.out.cell (i := 0) (j := 0) rfl rfl) (fun w => Tryz.isAgg3 w) ?_)
          | (refine wpList_load_cell rfl 30 (.tmp 11) rfl rfl (HZ.out.cell (i := 2) (j := 0) rfl rfl) (fun w => Tryz.isAgg30 w) ?_))
        go_meet
        exact ⟨rfl, HZ⟩
      · subst hm3
        have d1 : (m3 != m3) = false := by simp
        have d2 : ((m3 : Int) != (m3 : Int)) = false := by simp
        by_cases hne : m3 = n
        · have d3 : (m3 != n) = false := by rw [hne]; simp
          have d4 : ((m3 : Int) != (n : Int)) = false := by rw [hne]; simp
          clear hne
          go_wp2_with (first
            | (refine wpList_load_cell rfl 3 (.tmp 16) rfl rfl (HZ.out.cell (i := 0) (j := 0) rfl rfl) (fun w => Tryz.isAgg3 w) ?_)
            | (refine wpList_load_cell rfl 30 (.tmp 11) rfl rfl (HZ.out.cell (i := 2) (j := 0) rfl rfl) (fun w => Tryz.isAgg30 w) ?_))
          go_meet
          exact ⟨rfl, HZ⟩
        · have d3 : (m3 != n) = true := bne_iff_ne.2 hne
          have d4 : ((m3 : Int) != (n : Int)) = true := bne_iff_ne.2 (by omega)
          have d5 : (m3 == n) = false := beq_eq_false_iff_ne.2 hne
          have d6 : ((m3 : Int) == (n : Int)) = false := beq_eq_false_iff_ne.2 (by omega)
          go_wp2_with (first
            | (refine wpList_load_cell rfl 3 (.tmp 16) rfl rfl (HZ.out.cell (i := 0) (j := 0) rfl rfl) (fun w => Tryz.isAgg3 w) ?_)
            | (refine wpList_load_cell rfl 30 (.tmp 11) rfl rfl (HZ.out.cell (i := 2) (j := 0) rfl rfl) (fun w => Tryz.isAgg30 w) ?_)
            | (refine wpList_load_cell rfl 3 (.tmp 5) rfl rfl (HST.out _ HZ.out.up) (fun w => Tryz.isAgg3 w) ?_))
          go_meet
          exact ⟨rfl, HZ⟩
    clear HZ hm3
    obtain ⟨rfl, HZ⟩ := hcut
    go_wp2_with fail
    go_loopw [19] (fun jv wr => ∃ (j : Int) (osF4 : List Ob), -1 ≤ j ∧ j ≤ (n : Int) + 1 ∧ jv = .int .i64 j ∧ Hid (Fl gf osF4) ∧ Hid (OW x1 ((boxO gi [.int .i64 ((m3 : Nat))] :: boxO g9 [.pointer (some ⟨g, 0, none⟩)] :: boxO g11 [.slice (some ⟨wb, wo, none⟩) n rc] :: boxO g13 [.pointer (some ⟨gf, 0, none⟩)] :: (bo ++ (entsO (some ⟨wb, wo, none⟩) n rc rs ++ osF4))) ++ [dfrO D]) wr)) (fun jv _ => ((n : Int) + 1 - intOf jv).toNat)
    case atStart => exact ⟨-1, osF3, by omega, by omega, rfl, HF3, HZ⟩
    case round =>
      clear HZ HF3
      obtain ⟨j, osF4, hj1, hj2, rfl, HF4, HZ⟩ := hrel
      obtain ⟨w9, rfl⟩ : ∃ z : World, z = wr := ⟨_, rfl⟩
      by_cases hjn : j ≤ (n : Int)
      case neg =>
        have d1 : decide (j ≤ (n : Int)) = false := decide_eq_false hjn
        obtain rfl : j = (n : Int) + 1 := by omega
        go_wp2_with (first
          | (refine wpList_load_cell rfl 30 (.tmp 11) rfl rfl (HZ.out.cell (i := 2) (j := 0) rfl rfl) (fun w => Tryz.isAgg30 w) ?_)
          | (refine wl_put1 rfl (.tmp 16) (.const (.int .i64 0)) rfl HZ.out 0 rfl 0 rfl (by simp) (.int .i64 ((0 : Nat) : Int)) rfl (by kernel_rfl) rfl ?_; intro z6 hz _; have HZ0 : Hid (OW x1 ((boxO gi [.int .i64 (((0 : Nat) : Int))] :: boxO g9 [.pointer (some ⟨g, 0, none⟩)] :: boxO g11 [.slice (some ⟨wb, wo, none⟩) n rc] :: boxO g13 [.pointer (some ⟨gf, 0, none⟩)] :: (bo ++ (entsO (some ⟨wb, wo, none⟩) n rc rs ++ osF4))) ++ [dfrO D]) z6) := Lib.hid hz; clear hz HZ)
          | (refine wpList_load_cell rfl 26 (.tmp 9) rfl rfl (HZ0.out.cell (i := 1) (j := 0) rfl rfl) (fun w => Tryz.isAgg26 w) ?_)
          | (go_at_call 16; go_must (refine (all_newQ g _).mono ?_); rintro e y2 ⟨gb3, rfl, ho⟩; have HY : Hid (OW x1 (boxO gb3 [.pointer (some ⟨g, 0, none⟩)] :: ((boxO gi [.int .i64 (((0 : Nat) : Int))] :: boxO g9 [.pointer (some ⟨g, 0, none⟩)] :: boxO g11 [.slice (some ⟨wb, wo, none⟩) n rc] :: boxO g13 [.pointer (some ⟨gf, 0, none⟩)] :: (bo ++ (entsO (some ⟨wb, wo, none⟩) n rc rs ++ osF4))) ++ [dfrO D])) y2) := Lib.hid ((HZ0.out.app ho).perm List.perm_append_comm); clear ho HZ0))
        refine wp_range (w := x1) (L := L) (Hand := HandE) (Itr := ItrB g gb3 Ai ci L) rfl (enters_of Tryz.func41 (by kernel_rfl) rfl) (all1_iter g gb3 Ai ci L HLB.out.1 HLB.out.2) (fun _ _ _ _ h => h.ok)
          (fun pre os => os = boxO gb3 [.pointer (some ⟨g, 0, none⟩)] :: ((boxO gi [.int .i64 ((pre.length : Nat))] :: boxO g9 [.pointer (some ⟨g, 0, none⟩)] :: boxO g11 [.slice (some ⟨wb, wo, none⟩) n rc] :: boxO g13 [.pointer (some ⟨gf, 0, none⟩)] :: (bo ++ (entsO (some ⟨wb, wo, none⟩) n rc rs ++ osF4))) ++ [dfrO D])) (fun _ _ _ => False) ?itr (os0 := boxO gb3 [.pointer (some ⟨g, 0, none⟩)] :: ((boxO gi [.int .i64 (((0 : Nat) : Int))] :: boxO g9 [.pointer (some ⟨g, 0, none⟩)] :: boxO g11 [.slice (some ⟨wb, wo, none⟩) n rc] :: boxO g13 [.pointer (some ⟨gf, 0, none⟩)] :: (bo ++ (entsO (some ⟨wb, wo, none⟩) n rc rs ++ osF4))) ++ [dfrO D])) rfl HY.out ?round ?done ?stop
        case itr =>
          rintro pre os es' z rfl h
          exact ⟨h.cell (i := 0) (j := 0) rfl rfl, (HRW.out pre.length osF4 [boxO gb3 [.pointer (some ⟨g, 0, none⟩)]] ([dfrO D] ++ es') z (by have h9 := h; rw [List.cons_append, List.append_assoc] at h9; exact h9)).2.2⟩
        case stop => exact fun D c' pre os z _ h => h.elim
        case round =>
          rintro l1 p1 p2 pre e vs W0 W1 os _ hpre rfl h0 ⟨A3, B3, D3, rfl, ca, cb, cd, hh⟩
          obtain ⟨m, hm⟩ : ∃ z, z = pre.length := ⟨_, rfl⟩
          have hke := pre_atQ hpre
          rw [← hm] at hke h0
          have hmk : m < n := by have h1 := (List.getElem?_eq_some_iff.1 hke).1; rw [HLE.out] at h1; exact h1
          have HEK := Lib.hid hke
          have HQB := Lib.hid (HLB.out.2 e (List.mem_of_getElem? hke))
          have hqb1 := HQB.out.1
          have hqb2 := HQB.out.2.1
          have hqb3 := HQB.out.2.2
          have HM := Lib.hid hm
          have HCA := Lib.hid ca
          have HCB := Lib.hid cb
          have HCD := Lib.hid cd
          have HV := Lib.hid ((h0.app hh).perm (perm4Q _ _ _))
          have hm2 : m ≤ 131072 := by omega
          have i0 : (0 : Int) ≤ (m : Int) := by omega
          have i1 : (m : Int) < (n : Int) := by omega
          have i2 : decide ((m : Int) ≥ (n : Int)) = false := decide_eq_false (by omega)
          have i3 : ¬ n ≤ m := by omega
          clear hke hpre h0 hh ca cb cd hm HY
          have hsem : ∀ (ρ : Operand → Value) (o : Oper), (∀ c, o.op ≠ .defer c) → Oper.semAt (some l1) ρ o = execOp ρ o := fun ρ o h => Oper.semAt_some l1 ρ o h
          unfold RoundOK
          rw [setP1]
          simp only [List.setIfInBounds_toArray, List.set_cons_zero, List.set_cons_succ]
          gi_wp2_with (first
            | (refine wlIn_one rfl ?_; refine wl_alloc rfl rfl [.slice none 0 0, .int .i64 0, .slice none 0 0, .int .i64 0, .int .i64 0, .int .i64 0, .slice none 0 0] (.inl (by kernel_rfl)) HV.out ?_; intro gy z1 hz _; have HV1 := Lib.hid (hz.perm (perm4Q _ _ _)); clear hz HV; refine wlIn_back ?_)
            | (refine wlIn_one rfl ?_; refine wl_put rfl (.tmp 24) (.tmp 193) rfl HV1.out 0 rfl rfl [.slice A3 e.row.length e.row.length, .int .i64 e.fam, .slice B3 e.qual.length e.qual.length, .int .i64 e.ts, .int .i64 e.seq, .int .i64 e.kind, .slice D3 e.val.length e.val.length] rfl rfl (by kernel_rfl) (by simp [Value.oneCell']) ?_; intro z2 hz _; have HV2 : Hid (OW x1 ((boxO gy [.slice A3 e.row.length e.row.length, .int .i64 e.fam, .slice B3 e.qual.length e.qual.length, .int .i64 e.ts, .int .i64 e.seq, .int .i64 e.kind, .slice D3 e.val.length e.val.length] :: clipO A3 e.row :: clipO B3 e.qual :: clipO D3 e.val :: boxO gb3 [.pointer (some ⟨g, 0, none⟩)] :: ((boxO gi [.int .i64 ((m : Nat))] :: boxO g9 [.pointer (some ⟨g, 0, none⟩)] :: boxO g11 [.slice (some ⟨wb, wo, none⟩) n rc] :: boxO g13 [.pointer (some ⟨gf, 0, none⟩)] :: (bo ++ (entsO (some ⟨wb, wo, none⟩) n rc rs ++ osF4))) ++ [dfrO D])) ++ p1) z2) := Lib.hid hz; clear hz HV1; refine wlIn_back ?_))
          refine ⟨_, HV2.out, fun z3 hz3 => ?_⟩
          have HW3 : Hid (OW x1 ((boxO gy [.slice A3 e.row.length e.row.length, .int .i64 e.fam, .slice B3 e.qual.length e.qual.length, .int .i64 e.ts, .int .i64 e.seq, .int .i64 e.kind, .slice D3 e.val.length e.val.length] :: clipO A3 e.row :: clipO B3 e.qual :: clipO D3 e.val :: boxO gb3 [.pointer (some ⟨g, 0, none⟩)] :: ((boxO gi [.int .i64 ((m : Nat))] :: boxO g9 [.pointer (some ⟨g, 0, none⟩)] :: boxO g11 [.slice (some ⟨wb, wo, none⟩) n rc] :: boxO g13 [.pointer (some ⟨gf, 0, none⟩)] :: (bo ++ (entsO (some ⟨wb, wo, none⟩) n rc rs ++ osF4))) ++ [dfrO D])) ++ p2) z3) := Lib.hid hz3
          clear hz3 HV2
          obtain ⟨Ar, ec, B, d, D9, q, e', hbl2, hek, hrg, hen⟩ := (HRW.out m osF4 [boxO gy [.slice A3 e.row.length e.row.length, .int .i64 e.fam, .slice B3 e.qual.length e.qual.length, .int .i64 e.ts, .int .i64 e.seq, .int .i64 e.kind, .slice D3 e.val.length e.val.length], clipO A3 e.row, clipO B3 e.qual, clipO D3 e.val, boxO gb3 [.pointer (some ⟨g, 0, none⟩)]] ([dfrO D] ++ p2) z3 (by
            have h9 := HW3.out
            rw [List.cons_append, List.cons_append, List.cons_append, List.cons_append, List.cons_append, List.append_assoc] at h9
            exact h9)).2.1.atQ hmk
          obtain rfl : e = e' := by rw [HEK.out] at hek; injection hek
          have HRG : Hid (∀ z, Below z3.heap.size z3 z → z.rangeAt wb (wo + m * 7) [.slice Ar e.row.length ec, .int .i64 e.fam, .slice B e.qual.length d, .int .i64 e.ts, .int .i64 e.seq, .int .i64 e.kind, .slice D9 e.val.length q]) := Lib.hid fun z hz j v hj => (hz.cell (p := ⟨wb, _, none⟩) hbl2).trans (hrg j v hj)
          have HEN : Hid (∀ z, Below z3.heap.size z3 z → En z Ar e.row.length ec B e.qual.length d D9 e.val.length q e) := Lib.hid fun z hz => hen.later hz
          clear hek hrg hen hbl2
          gi_wp2
          refine lt_startIn [] (by kernel_rfl) (by kernel_rfl) (fun _ _ h => h) ?_
          intro xd hd
          refine ⟨fun z => Below z3.heap.size z3 z, ?_⟩
          have HS := Lib.hid (hd)
          refine lt_take 0 [3, 4, 5, 6, 7, 8, 9, 10, 11, 12] rfl (by kernel_rfl) (by kernel_rfl) (by kernel_rfl) (by kernel_rfl) (by kernel_rfl) (fun _ _ _ h => h) (yi_cell rfl rfl rfl (fun w hS => (HW3.out.later hS).cell (i := 5) (j := 0) rfl rfl) (fun w => Tryz.isAgg3 w)) HS.out ?_
          simp only [Act.put, List.setIfInBounds_toArray, List.set_cons_zero, List.set_cons_succ]
          refine lt_take 1 [2, 3, 4, 5, 6, 7, 8, 9, 10, 11, 12] rfl (by kernel_rfl) (by kernel_rfl) (by kernel_rfl) (by kernel_rfl) (by kernel_rfl) (fun _ _ _ h => h) (yi_cell rfl rfl rfl (fun w hS => (HW3.out.later hS).cell (i := 7) (j := 0) rfl rfl) (fun w => Tryz.isAgg30 w)) HS.out ?_
          simp only [Act.put, List.setIfInBounds_toArray, List.set_cons_zero, List.set_cons_succ]
          refine lt_pure 2 rfl (by kernel_rfl) (by kernel_rfl) (by kernel_rfl) (by kernel_rfl) (fun _ _ _ h => h) (v := ?_) (yi_run rfl (fun w => ?_)) (fun _ => HS.out) ?_
          rotate_left
          · first | (go_simp; done) | (go_simp; with_reducible rfl)
          simp only [Act.put, List.setIfInBounds_toArray, List.set_cons_zero, List.set_cons_succ]
          refine lt_pure 3 rfl (by kernel_rfl) (by kernel_rfl) (by kernel_rfl) (by kernel_rfl) (fun _ _ _ h => h) (v := ?_) (yi_run rfl (fun w => ?_)) (fun _ => HS.out) ?_
          rotate_left
          · first | (go_simp; done) | (go_simp; with_reducible rfl)
          simp only [Act.put, List.setIfInBounds_toArray, List.set_cons_zero, List.set_cons_succ]
          refine lt_pure 4 rfl (by kernel_rfl) (by kernel_rfl) (by kernel_rfl) (by kernel_rfl) (fun _ _ _ h => h) (v := ?_) (yi_run rfl (fun w => ?_)) (fun _ => HS.out) ?_
          rotate_left
          · first | (go_simp; done) | (go_simp; with_reducible rfl)
          simp only [Act.put, List.setIfInBounds_toArray, List.set_cons_zero, List.set_cons_succ]
          refine lt_take 5 [10, 11, 12] rfl (by kernel_rfl) (by kernel_rfl) (by kernel_rfl) (by kernel_rfl) (by kernel_rfl) (fun _ _ _ h => h) (yi_row rfl rfl rfl (fun w hS => (HW3.out.later hS).range (i := 0) rfl) ent_row5) HS.out ?_
          simp only [Act.put, List.setIfInBounds_toArray, List.set_cons_zero, List.set_cons_succ]
          refine lt_take 6 [8, 9, 10, 11, 12] rfl (by kernel_rfl) (by kernel_rfl) (by kernel_rfl) (by kernel_rfl) (by kernel_rfl) (fun _ _ _ h => h) (yi_cell rfl rfl rfl (fun w hS => (HW3.out.later hS).cell (i := 7) (j := 0) rfl rfl) (fun w => Tryz.isAgg30 w)) HS.out ?_
          simp only [Act.put, List.setIfInBounds_toArray, List.set_cons_zero, List.set_cons_succ]
          refine lt_take 7 [8, 9, 10, 11, 12] rfl (by kernel_rfl) (by kernel_rfl) (by kernel_rfl) (by kernel_rfl) (by kernel_rfl) (fun _ _ _ h => h) (yi_cell rfl rfl rfl (fun w hS => (HW3.out.later hS).cell (i := 5) (j := 0) rfl rfl) (fun w => Tryz.isAgg3 w)) HS.out ?_
          simp only [Act.put, List.setIfInBounds_toArray, List.set_cons_zero, List.set_cons_succ]
          refine lt_pure 8 rfl (by kernel_rfl) (by kernel_rfl) (by kernel_rfl) (by kernel_rfl) (fun _ _ _ h => h) (v := ?_) (yi_run rfl (fun w => ?_)) (fun _ => HS.out) ?_
          rotate_left
          · first | (go_simp; done) | (go_simp; with_reducible rfl)
          simp only [Act.put, List.setIfInBounds_toArray, List.set_cons_zero, List.set_cons_succ]
          refine lt_take 9 [10, 11, 12] rfl (by kernel_rfl) (by kernel_rfl) (by kernel_rfl) (by kernel_rfl) (by kernel_rfl) (fun _ _ _ h => h) (yi_rowO rfl rfl rfl (fun w hS => HRG.out w hS) ent_row5) HS.out ?_
          simp only [Act.put, List.setIfInBounds_toArray, List.set_cons_zero, List.set_cons_succ]
          refine lt_call 10 rfl (by kernel_rfl) rfl rfl ⟨_, Tryz.func17, by decide, by kernel_rfl⟩ [entV A3 e.row.length e.row.length B3 e.qual.length e.qual.length D3 e.val.length e.val.length e, entV Ar e.row.length ec B e.qual.length d D9 e.val.length q e] rfl ?_
          refine (sameEntry_any e e A3 _ _ B3 _ _ D3 _ _ Ar _ ec B _ d D9 _ q _ rfl ⟨(HW3.out.later HS.out).clipSl HCA.out (i := 1) rfl rfl (by omega), (HW3.out.later HS.out).clipSl HCB.out (i := 2) rfl rfl (by omega), (HW3.out.later HS.out).clipSl HCD.out (i := 3) rfl rfl (by omega)⟩ (HEN.out _ HS.out)).mono ?_
          rintro r y1 ⟨rfl, hb⟩
          replace HS := Lib.hid (HS.out.trans (hb.mono HS.out.size))
          clear hb
          refine ⟨_, rfl, fun _ => HS.out, ?_⟩
          simp only [Act.put, List.setIfInBounds_toArray, List.set_cons_zero, List.set_cons_succ]
          refine lt_pure 11 rfl (by kernel_rfl) (by kernel_rfl) (by kernel_rfl) (by kernel_rfl) (fun _ _ _ h => h) (v := ?_) (yi_run rfl (fun w => ?_)) (fun _ => HS.out) ?_
          rotate_left
          · first | (go_simp; done) | (go_simp; with_reducible rfl)
          simp only [Act.put, List.setIfInBounds_toArray, List.set_cons_zero, List.set_cons_succ]
          refine lt_pure 12 rfl (by kernel_rfl) (by kernel_rfl) (by kernel_rfl) (by kernel_rfl) (fun _ _ _ h => h) (v := ?_) (yi_run rfl (fun w => ?_)) (fun _ => HS.out) ?_
          rotate_left
          · first | (go_simp; done) | (go_simp; with_reducible rfl)
          simp only [Act.put, List.setIfInBounds_toArray, List.set_cons_zero, List.set_cons_succ]
          refine lt_done (by kernel_rfl) ?_
          replace HW3 := Lib.hid (HW3.out.later HS.out)
          clear HS HRG HEN
          gi_wp2_with (first
            | (refine wlIn_one rfl ?_; refine wpList_load_cell rfl 3 (.tmp 16) rfl rfl (HW3.out.cell (i := 5) (j := 0) rfl rfl) (fun w => Tryz.isAgg3 w) ?_; refine wlIn_back ?_)
            | (refine wlIn_one rfl ?_; refine wl_put1 rfl (.tmp 16) (.tmp 208) rfl HW3.out 5 rfl 0 rfl (by simp) (.int .i64 ((m + 1 : Nat) : Int)) (by show Value.int .i64 _ = _; go_num) (by kernel_rfl) rfl ?_; intro z5 hz _; have HZ9 : Hid (OW x1 ((boxO gy [.slice A3 e.row.length e.row.length, .int .i64 e.fam, .slice B3 e.qual.length e.qual.length, .int .i64 e.ts, .int .i64 e.seq, .int .i64 e.kind, .slice D3 e.val.length e.val.length] :: clipO A3 e.row :: clipO B3 e.qual :: clipO D3 e.val :: boxO gb3 [.pointer (some ⟨g, 0, none⟩)] :: ((boxO gi [.int .i64 (((m + 1 : Nat) : Int))] :: boxO g9 [.pointer (some ⟨g, 0, none⟩)] :: boxO g11 [.slice (some ⟨wb, wo, none⟩) n rc] :: boxO g13 [.pointer (some ⟨gf, 0, none⟩)] :: (bo ++ (entsO (some ⟨wb, wo, none⟩) n rc rs ++ osF4))) ++ [dfrO D])) ++ p2) z5) := Lib.hid hz; clear hz HW3; refine wlIn_back ?_))
          gi_wp2
          refine ⟨_, ?_, (((HZ9.out.erase 0).erase 0).erase 0).erase 0⟩
          show _ = boxO gb3 [.pointer (some ⟨g, 0, none⟩)] :: ((boxO gi [.int .i64 (((pre ++ [e]).length : Nat))] :: boxO g9 [.pointer (some ⟨g, 0, none⟩)] :: boxO g11 [.slice (some ⟨wb, wo, none⟩) n rc] :: boxO g13 [.pointer (some ⟨gf, 0, none⟩)] :: (bo ++ (entsO (some ⟨wb, wo, none⟩) n rc rs ++ osF4))) ++ [dfrO D])
          rw [List.length_append, ← HM.out]; rfl
        case done =>
          rintro D2 os z rfl h
          rw [HLE.out] at h
          have HZ : Hid (OW x1 (((boxO gi [.int .i64 ((n : Nat))] :: boxO g9 [.pointer (some ⟨g, 0, none⟩)] :: boxO g11 [.slice (some ⟨wb, wo, none⟩) n rc] :: boxO g13 [.pointer (some ⟨gf, 0, none⟩)] :: (bo ++ (entsO (some ⟨wb, wo, none⟩) n rc rs ++ osF4))) ++ [dfrO D]) ++ [dfrO D2]) z) := Lib.hid (h.erase 0)
          clear h HY
          have d3 : ((n : Int) == (n : Int)) = true := by simp
          have d4 : (n == n) = true := by simp
          go_wp2_with (first
            | (refine wpList_load_cell rfl 3 (.tmp 16) rfl rfl (HZ.out.cell (i := 0) (j := 0) rfl rfl) (fun w => Tryz.isAgg3 w) ?_)
            | (refine wpList_load_cell rfl 30 (.tmp 11) rfl rfl (HZ.out.cell (i := 2) (j := 0) rfl rfl) (fun w => Tryz.isAgg30 w) ?_)
            | (refine wpList_load_cell rfl 34 (.tmp 13) rfl rfl (HZ.out.cell (i := 3) (j := 0) rfl rfl) (fun w => Tryz.isAgg34 w) ?_)
            | (go_at_call 21; go_must (refine (whole_any (rest := (boxO gi [.int .i64 ((n : Nat))] :: boxO g9 [.pointer (some ⟨g, 0, none⟩)] :: boxO g11 [.slice (some ⟨wb, wo, none⟩) n rc] :: boxO g13 [.pointer (some ⟨gf, 0, none⟩)] :: (bo ++ (entsO (some ⟨wb, wo, none⟩) n rc rs))) ++ [dfrO D] ++ [dfrO D2]) HF4.out (HZ.out.perm (by (refine perm_of_cnt fun a => ?_; (simp only [cntO_app, cntO_cons, cntO_nil]) <;> omega)))).mono ?_); rintro r z7 ⟨rfl, hb⟩; replace HZ := Lib.hid (HZ.out.later hb); clear hb)
            | (refine wl_cell1 rfl (.tmp 6) (.tmp 216) rfl rfl (HG.out.cell' HZ.out.up) (HG.out.fz' HZ.out.up) _ rfl (by kernel_rfl) rfl ?_))
          have hne : D2 ≠ D := fun h9 => by
            have h8 := (HZ.out.perm (os' := dfrO D2 :: dfrO D :: (boxO gi [.int .i64 ((n : Nat))] :: boxO g9 [.pointer (some ⟨g, 0, none⟩)] :: boxO g11 [.slice (some ⟨wb, wo, none⟩) n rc] :: boxO g13 [.pointer (some ⟨gf, 0, none⟩)] :: (bo ++ (entsO (some ⟨wb, wo, none⟩) n rc rs ++ osF4)))) (by (refine perm_of_cnt fun a => ?_; (simp only [cntO_app, cntO_cons, cntO_nil]) <;> omega))).apart (i := 0) (j := 1) rfl rfl (by decide)
            exact h8 D2 rfl (by rw [h9]; rfl)
          exact HG.out.marks (Ds := [D2, D]) HZ.out (fun D' hD' => by
            rcases List.mem_cons.1 hD' with rfl | hD'
            · exact List.mem_append_right _ (List.mem_singleton.2 rfl)
            · obtain rfl := List.mem_singleton.1 hD'
              exact List.mem_append_left _ (List.mem_append_right _ (List.mem_singleton.2 rfl))) (by simp [hne]) _ rfl rfl (fun w => Tryz.isAgg4 w) fun z' hb => ⟨rfl, hb⟩
      have d1 : decide (j ≤ (n : Int)) = true := decide_eq_true hjn
      have hrd := HRW.out m3 osF4 [] [dfrO D] _ HZ.out
      by_cases hjo : j < 0 ∨ j = (n : Int)
      case pos =>
        have HBO : Hid (∀ z, Below w9.heap.size w9 z → Calls Tryz.prog 19 #[.pointer (some ⟨g, 0, none⟩), .int .i64 j] z fun r z' => r = .returned (.tuple #[entV none 0 0 none 0 0 none 0 0 noEnt, .int .i64 1]) ∧ Below z.heap.size z z') := Lib.hid fun z hz => at_outQ (hrd.1.later hz) HLB.out.2 j (by rw [HLE.out]; omega)
        clear hrd
        go_upto_region 36 with (first
          | (refine wpList_load_cell rfl 30 (.tmp 11) rfl rfl (HZ.out.cell (i := 2) (j := 0) rfl rfl) (fun w => Tryz.isAgg30 w) ?_)
          | (refine wpList_load_cell rfl 26 (.tmp 9) rfl rfl (HZ.out.cell (i := 1) (j := 0) rfl rfl) (fun w => Tryz.isAgg26 w) ?_)
          | (go_at_call 19; go_must (refine (HBO.out _ (Below.refl _ _)).mono ?_); rintro r y3 ⟨rfl, hb⟩; have HZ2 := Lib.hid (HZ.out.later hb); clear hb HZ)
          | (refine wl_alloc rfl rfl [.slice none 0 0, .int .i64 0, .slice none 0 0, .int .i64 0, .int .i64 0, .int .i64 0, .slice none 0 0] (.inl (by kernel_rfl)) HZ2.out ?_; intro gy z1 hz _; have HZ3 := Lib.hid (hz.perm List.perm_append_comm); clear hz HZ2)
          | (refine wl_put rfl (.tmp 20) (.tmp 144) rfl HZ3.out 0 rfl rfl [.slice none 0 0, .int .i64 0, .slice none 0 0, .int .i64 0, .int .i64 0, .int .i64 0, .slice none 0 0] rfl rfl (by kernel_rfl) (by simp [Value.oneCell']) ?_; intro z2 hz _; have HZ4 : Hid (OW x1 (boxO gy [.slice none 0 0, .int .i64 0, .slice none 0 0, .int .i64 0, .int .i64 0, .int .i64 0, .slice none 0 0] :: ((boxO gi [.int .i64 ((m3 : Nat))] :: boxO g9 [.pointer (some ⟨g, 0, none⟩)] :: boxO g11 [.slice (some ⟨wb, wo, none⟩) n rc] :: boxO g13 [.pointer (some ⟨gf, 0, none⟩)] :: (bo ++ (entsO (some ⟨wb, wo, none⟩) n rc rs ++ osF4))) ++ [dfrO D])) z2) := Lib.hid hz; clear hz HZ3))
        clear HBO
        by_cases hj0 : j < 0
        · have d2 : decide (j < 0) = true := decide_eq_true hj0
          go_wp2_with (first
            | (refine wpList_load_row7 rfl 46 (.tmp 20) rfl rfl (HZ4.out.range (i := 0) rfl) ent_row5 ?_)
            | (go_at_call 17; go_must (refine (sameEntry_any noEnt noEnt none 0 0 none 0 0 none 0 0 none 0 0 none 0 0 none 0 0 _ rfl ⟨Sl.none _, Sl.none _, Sl.none _⟩ ⟨Sl.none _, Sl.none _, Sl.none _⟩).mono ?_); rintro r y5 ⟨rfl, hb⟩; replace HZ4 := Lib.hid (HZ4.out.later hb); clear hb))
          go_roundw
          case rel => exact ⟨j + 1, osF4, by omega, by omega, by go_num, HF4, Lib.hid (HZ4.out.erase 0)⟩
          case measure => (simp [intOf]) <;> omega
        · obtain rfl : j = (n : Int) := by omega
          have d2 : decide ((n : Int) < 0) = false := decide_eq_false (by omega)
          have d3 : ((n : Int) == (n : Int)) = true := by simp
          have d4 : (n == n) = true := by simp
          go_wp2_with (first
            | (refine wpList_load_cell rfl 30 (.tmp 11) rfl rfl (HZ4.out.cell (i := 3) (j := 0) rfl rfl) (fun w => Tryz.isAgg30 w) ?_)
            | (refine wpList_load_row7 rfl 46 (.tmp 20) rfl rfl (HZ4.out.range (i := 0) rfl) ent_row5 ?_)
            | (go_at_call 17; go_must (refine (sameEntry_any noEnt noEnt none 0 0 none 0 0 none 0 0 none 0 0 none 0 0 none 0 0 _ rfl ⟨Sl.none _, Sl.none _, Sl.none _⟩ ⟨Sl.none _, Sl.none _, Sl.none _⟩).mono ?_); rintro r y5 ⟨rfl, hb⟩; replace HZ4 := Lib.hid (HZ4.out.later hb); clear hb))
          go_roundw
          case rel => exact ⟨(n : Int) + 1, osF4, by omega, by omega, by go_num, HF4, Lib.hid (HZ4.out.erase 0)⟩
          case measure => (simp [intOf]) <;> omega
      obtain ⟨k, rfl⟩ : ∃ k : Nat, j = (k : Int) := ⟨j.toNat, by omega⟩
      have hkn : k < n := by omega
      obtain ⟨Ar, ec, B, d, D1, q, e, hbl2, hek, hrg, hen⟩ := hrd.2.1.atQ hkn
      have HRD2 : Hid (∀ z, Below w9.heap.size w9 z → BkR z (resB l) g L) := Lib.hid fun z hz => hrd.1.later hz
      have HRG : Hid (∀ z, Below w9.heap.size w9 z → z.rangeAt wb (wo + k * 7) [.slice Ar e.row.length ec, .int .i64 e.fam, .slice B e.qual.length d, .int .i64 e.ts, .int .i64 e.seq, .int .i64 e.kind, .slice D1 e.val.length q]) := Lib.hid fun z hz j v hj => (hz.cell (p := ⟨wb, _, none⟩) hbl2).trans (hrg j v hj)
      have HEN : Hid (∀ z, Below w9.heap.size w9 z → En z Ar e.row.length ec B e.qual.length d D1 e.val.length q e) := Lib.hid fun z hz => hen.later hz
      have hck := HOK.out.chk e (List.mem_of_getElem? hek)
      have HQB := Lib.hid (HLB.out.2 e (List.mem_of_getElem? hek))
      have hqb1 := HQB.out.1
      have hqb2 := HQB.out.2.1
      have hqb3 := HQB.out.2.2
      have HQL : Hid (e.row.length ≤ 1000000000 ∧ e.qual.length ≤ 1000000000 ∧ e.val.length ≤ 1000000000) := Lib.hid (by
        have g0 := ok_of hck
        have g1 := g0.row
        have g2 := g0.qual
        have g3 := g0.val
        omega)
      obtain ⟨kb, hkb⟩ : ∃ z, z = keyE e := ⟨_, rfl⟩
      obtain ⟨kl, hkl⟩ : ∃ z, z = kb.length := ⟨_, rfl⟩
      have HKEY : Hid (KeyE e = (kb, 0)) := Lib.hid (by unfold KeyE; rw [if_pos hck, hkb])
      have HKBL := Lib.hid hkl.symm
      have HSS : Hid (seekL L kb = k) := Lib.hid (by rw [hkb]; exact seek_self HOK.out.asc hek)
      have HEK := Lib.hid hek
      have i0 : (0 : Int) ≤ (k : Int) := by omega
      have i1 : (k : Int) < (n : Int) := by omega
      have i2 : decide ((k : Int) < 0) = false := decide_eq_false (by omega)
      have i3 : ((k : Int) == (n : Int)) = false := beq_eq_false_iff_ne.2 (by omega)
      have i4 : (k == n) = false := beq_eq_false_iff_ne.2 (by omega)
      have i5 : ((k : Int) != (k : Int)) = false := by simp
      have i6 : (k != k) = false := by simp
      have i7 : ¬ k = n := by omega
      clear hrd hek hrg hen hbl2 hck hkb hkl hjo hjn
      go_upto_region 40 with (first
        | (refine wpList_load_cell rfl 30 (.tmp 11) rfl rfl (HZ.out.cell (i := 2) (j := 0) rfl rfl) (fun w => Tryz.isAgg30 w) ?_)
        | (refine wpList_load_cell rfl 26 (.tmp 9) rfl rfl (HZ.out.cell (i := 1) (j := 0) rfl rfl) (fun w => Tryz.isAgg26 w) ?_)
        | (go_at_call 19; go_must (refine (at_in (HRD2.out _ (Below.refl _ _)) HLB.out.2 HEK.out).mono ?_); rintro r y3 ⟨A6, B6, D6, rfl, ca, cb, cd, hx⟩; have HCA := Lib.hid ca; have HCB := Lib.hid cb; have HCD := Lib.hid cd; have HSC : Hid (SlB (clipO A6 e.row) A6 e.row.length e.row.length ∧ SlB (clipO B6 e.qual) B6 e.qual.length e.qual.length ∧ SlB (clipO D6 e.val) D6 e.val.length e.val.length) := Lib.hid ⟨slB_clip ca (by omega), slB_clip cb (by omega), slB_clip cd (by omega)⟩; have HU := Lib.hid hx.up; have HZ2 := Lib.hid ((HZ.out.app hx).perm List.perm_append_comm); clear ca cb cd hx HZ)
        | (refine wl_alloc rfl rfl [.slice none 0 0, .int .i64 0, .slice none 0 0, .int .i64 0, .int .i64 0, .int .i64 0, .slice none 0 0] (.inl (by kernel_rfl)) HZ2.out ?_; intro gy z1 hz hb9; have HU1 := Lib.hid (HU.out.trans (hb9.mono HU.out.size)); have HZ3 := Lib.hid (hz.perm List.perm_append_comm); clear hz hb9 HZ2 HU)
        | (refine wl_put rfl (.tmp 20) (.tmp 144) rfl HZ3.out 0 rfl rfl [.slice A6 e.row.length e.row.length, .int .i64 e.fam, .slice B6 e.qual.length e.qual.length, .int .i64 e.ts, .int .i64 e.seq, .int .i64 e.kind, .slice D6 e.val.length e.val.length] rfl rfl (by kernel_rfl) (by simp [Value.oneCell']) ?_; intro z2 hz _; have HZ4 : Hid (OW x1 (boxO gy [.slice A6 e.row.length e.row.length, .int .i64 e.fam, .slice B6 e.qual.length e.qual.length, .int .i64 e.ts, .int .i64 e.seq, .int .i64 e.kind, .slice D6 e.val.length e.val.length] :: clipO A6 e.row :: clipO B6 e.qual :: clipO D6 e.val :: ((boxO gi [.int .i64 ((m3 : Nat))] :: boxO g9 [.pointer (some ⟨g, 0, none⟩)] :: boxO g11 [.slice (some ⟨wb, wo, none⟩) n rc] :: boxO g13 [.pointer (some ⟨gf, 0, none⟩)] :: (bo ++ (entsO (some ⟨wb, wo, none⟩) n rc rs ++ osF4))) ++ [dfrO D])) z2) := Lib.hid hz; have hrd4 := HRW.out m3 osF4 [boxO gy [.slice A6 e.row.length e.row.length, .int .i64 e.fam, .slice B6 e.qual.length e.qual.length, .int .i64 e.ts, .int .i64 e.seq, .int .i64 e.kind, .slice D6 e.val.length e.val.length], clipO A6 e.row, clipO B6 e.qual, clipO D6 e.val] [dfrO D] _ hz; obtain ⟨Br, fc, B7, d7, D7, q7, e7, hbl7, hek7, hrg7, hen7⟩ := hrd4.2.1.atQ hkn; obtain rfl : e = e7 := (by rw [HEK.out] at hek7; injection hek7); have HRD4 : Hid (∀ z, Below z2.heap.size z2 z → BkR z (resB l) g L) := Lib.hid fun z hz => hrd4.1.later hz; have HRG4 : Hid (∀ z, Below z2.heap.size z2 z → z.rangeAt wb (wo + k * 7) [.slice Br e.row.length fc, .int .i64 e.fam, .slice B7 e.qual.length d7, .int .i64 e.ts, .int .i64 e.seq, .int .i64 e.kind, .slice D7 e.val.length q7]) := Lib.hid fun z hz j v hj => (hz.cell (p := ⟨wb, _, none⟩) hbl7).trans (hrg7 j v hj); have HEN4 : Hid (∀ z, Below z2.heap.size z2 z → En z Br e.row.length fc B7 e.qual.length d7 D7 e.val.length q7 e) := Lib.hid fun z hz => hen7.later hz; clear hz hrd4 hbl7 hek7 hrg7 hen7 HZ3 HRD2 HRG HEN)
        | (refine wpList_load_cell rfl 30 (.tmp 11) rfl rfl (HZ4.out.cell (i := 6) (j := 0) rfl rfl) (fun w => Tryz.isAgg30 w) ?_)
        | (refine wpList_load_at rfl 46 (.tmp 165) rfl rfl (HRG4.out _ (Below.refl _ _)) ent_row5 ?_)
        | (go_at_call 20; go_must (refine (rKey_any e Br _ fc B7 _ d7 D7 _ q7 _ (HEN4.out _ (Below.refl _ _))).mono ?_); rw [HKEY.out]; rintro r y5 hp; obtain ⟨Ak, ck, rfl, hsk9, _, hb⟩ := hp.at_ HKBL.out rfl; have HSKK := Lib.hid hsk9; have HUB := Lib.hid hb; replace HZ4 := Lib.hid (HZ4.out.later hb); clear hp hsk9 hb))
      refine lt_start [] (by kernel_rfl) ?_
      intro xd hd
      refine ⟨fun z => Below y5.heap.size y5 z, ?_⟩
      have HS := Lib.hid (hd)
      refine lt_pure 0 rfl (by kernel_rfl) (by kernel_rfl) (by kernel_rfl) (by kernel_rfl) (fun _ _ _ h => h) (v := ?_) (yi_run rfl (fun w => ?_)) (fun _ => HS.out) ?_
      rotate_left
      · first | (go_simp; done) | (go_simp; with_reducible rfl)
      simp only [Act.put, List.setIfInBounds_toArray, List.set_cons_zero, List.set_cons_succ]
      refine lt_pure 1 rfl (by kernel_rfl) (by kernel_rfl) (by kernel_rfl) (by kernel_rfl) (fun _ _ _ h => h) (v := ?_) (yi_run rfl (fun w => ?_)) (fun _ => HS.out) ?_
      rotate_left
      · first | (go_simp; done) | (go_simp; with_reducible rfl)
      simp only [Act.put, List.setIfInBounds_toArray, List.set_cons_zero, List.set_cons_succ]
      refine lt_pure 2 rfl (by kernel_rfl) (by kernel_rfl) (by kernel_rfl) (by kernel_rfl) (fun _ _ _ h => h) (v := ?_) (yi_run rfl (fun w => ?_)) (fun _ => HS.out) ?_
      rotate_left
      · first | (go_simp; done) | (go_simp; with_reducible rfl)
      simp only [Act.put, List.setIfInBounds_toArray, List.set_cons_zero, List.set_cons_succ]
      refine lt_take 3 [8, 9, 10, 11, 12, 13, 14, 15, 16, 17] rfl (by kernel_rfl) (by kernel_rfl) (by kernel_rfl) (by kernel_rfl) (by kernel_rfl) (fun _ _ _ h => h) (yi_row rfl rfl rfl (fun w hS => (HZ4.out.later hS).range (i := 0) rfl) ent_row5) HS.out ?_
      simp only [Act.put, List.setIfInBounds_toArray, List.set_cons_zero, List.set_cons_succ]
      refine lt_take 4 [6, 7, 8, 9, 10, 11, 12, 13, 14, 15, 16, 17] rfl (by kernel_rfl) (by kernel_rfl) (by kernel_rfl) (by kernel_rfl) (by kernel_rfl) (fun _ _ _ h => h) (yi_cell rfl rfl rfl (fun w hS => (HZ4.out.later hS).cell (i := 6) (j := 0) rfl rfl) (fun w => Tryz.isAgg30 w)) HS.out ?_
      simp only [Act.put, List.setIfInBounds_toArray, List.set_cons_zero, List.set_cons_succ]
      refine lt_pure 5 rfl (by kernel_rfl) (by kernel_rfl) (by kernel_rfl) (by kernel_rfl) (fun _ _ _ h => h) (v := ?_) (yi_run rfl (fun w => ?_)) (fun _ => HS.out) ?_
      rotate_left
      · first | (go_simp; done) | (go_simp; with_reducible rfl)
      simp only [Act.put, List.setIfInBounds_toArray, List.set_cons_zero, List.set_cons_succ]
      refine lt_pure 6 rfl (by kernel_rfl) (by kernel_rfl) (by kernel_rfl) (by kernel_rfl) (fun _ _ _ h => h) (v := ?_) (yi_run rfl (fun w => ?_)) (fun _ => HS.out) ?_
      rotate_left
      · first | (go_simp; done) | (go_simp; with_reducible rfl)
      simp only [Act.put, List.setIfInBounds_toArray, List.set_cons_zero, List.set_cons_succ]
      refine lt_take 7 [8, 9, 10, 11, 12, 13, 14, 15, 16, 17] rfl (by kernel_rfl) (by kernel_rfl) (by kernel_rfl) (by kernel_rfl) (by kernel_rfl) (fun _ _ _ h => h) (yi_rowO rfl rfl rfl (fun w hS => HRG4.out w (HUB.out.trans (hS.mono HUB.out.size))) ent_row5) HS.out ?_
      simp only [Act.put, List.setIfInBounds_toArray, List.set_cons_zero, List.set_cons_succ]
      refine lt_call 8 rfl (by kernel_rfl) rfl rfl ⟨_, Tryz.func17, by decide, by kernel_rfl⟩ [entV A6 e.row.length e.row.length B6 e.qual.length e.qual.length D6 e.val.length e.val.length e, entV Br e.row.length fc B7 e.qual.length d7 D7 e.val.length q7 e] rfl ?_
      refine (sameEntry_any e e A6 _ _ B6 _ _ D6 _ _ Br _ fc B7 _ d7 D7 _ q7 _ rfl ⟨(HZ4.out.later HS.out).clipSl HCA.out (i := 1) rfl rfl (by omega), (HZ4.out.later HS.out).clipSl HCB.out (i := 2) rfl rfl (by omega), (HZ4.out.later HS.out).clipSl HCD.out (i := 3) rfl rfl (by omega)⟩ (HEN4.out _ (HUB.out.trans (HS.out.mono HUB.out.size)))).mono ?_
      rintro r y1 ⟨rfl, hb⟩
      replace HS := Lib.hid (HS.out.trans (hb.mono HS.out.size))
      clear hb
      refine ⟨_, rfl, fun _ => HS.out, ?_⟩
      simp only [Act.put, List.setIfInBounds_toArray, List.set_cons_zero, List.set_cons_succ]
      refine lt_pure 9 rfl (by kernel_rfl) (by kernel_rfl) (by kernel_rfl) (by kernel_rfl) (fun _ _ _ h => h) (v := ?_) (yi_run rfl (fun w => ?_)) (fun _ => HS.out) ?_
      rotate_left
      · first | (go_simp; done) | (go_simp; with_reducible rfl)
      simp only [Act.put, List.setIfInBounds_toArray, List.set_cons_zero, List.set_cons_succ]
      refine lt_pure 10 rfl (by kernel_rfl) (by kernel_rfl) (by kernel_rfl) (by kernel_rfl) (fun _ _ _ h => h) (v := ?_) (yi_run rfl (fun w => ?_)) (fun _ => HS.out) ?_
      rotate_left
      · first | (go_simp; done) | (go_simp; with_reducible rfl)
      simp only [Act.put, List.setIfInBounds_toArray, List.set_cons_zero, List.set_cons_succ]
      refine lt_pure 11 rfl (by kernel_rfl) (by kernel_rfl) (by kernel_rfl) (by kernel_rfl) (fun _ _ _ h => h) (v := ?_) (yi_run rfl (fun w => ?_)) (fun _ => HS.out) ?_
      rotate_left
      · first | (go_simp; done) | (go_simp; with_reducible rfl)
      simp only [Act.put, List.setIfInBounds_toArray, List.set_cons_zero, List.set_cons_succ]
      refine lt_take 12 [14, 16, 17] rfl (by kernel_rfl) (by kernel_rfl) (by kernel_rfl) (by kernel_rfl) (by kernel_rfl) (fun _ _ _ h => h) (yi_cell rfl rfl rfl (fun w hS => (HZ4.out.later hS).cell (i := 5) (j := 0) rfl rfl) (fun w => Tryz.isAgg26 w)) HS.out ?_
      simp only [Act.put, List.setIfInBounds_toArray, List.set_cons_zero, List.set_cons_succ]
      refine lt_pure 13 rfl (by kernel_rfl) (by kernel_rfl) (by kernel_rfl) (by kernel_rfl) (fun _ _ _ h => h) (v := ?_) (yi_run rfl (fun w => ?_)) (fun _ => HS.out) ?_
      rotate_left
      · first | (go_simp; done) | (go_simp; with_reducible rfl)
      simp only [Act.put, List.setIfInBounds_toArray, List.set_cons_zero, List.set_cons_succ]
      refine lt_pure 15 rfl (by kernel_rfl) (by kernel_rfl) (by kernel_rfl) (by kernel_rfl) (fun _ _ _ h => h) (v := ?_) (yi_run rfl (fun w => ?_)) (fun _ => HS.out) ?_
      rotate_left
      · first | (go_simp; done) | (go_simp; with_reducible rfl)
      simp only [Act.put, List.setIfInBounds_toArray, List.set_cons_zero, List.set_cons_succ]
      refine lt_call 14 rfl (by kernel_rfl) rfl rfl ⟨_, Tryz.func14, by decide, by kernel_rfl⟩ [.pointer (some ⟨g, 0, none⟩), .slice Ak kl ck] rfl ?_
      refine (seek_any (HRD4.out _ (HUB.out.trans (HS.out.mono HUB.out.size))) HOK.out.res HOK.out.pos (Nat.le_trans HOK.out.len (by decide)) HOK.out.asc kb Ak kl ck (HSKK.out.later HS.out)).mono ?_
      rw [HSS.out]
      rintro r y7 ⟨rfl, hb⟩
      replace HS := Lib.hid (HS.out.trans (hb.mono HS.out.size))
      clear hb
      refine ⟨_, rfl, fun _ => HS.out, ?_⟩
      simp only [Act.put, List.setIfInBounds_toArray, List.set_cons_zero, List.set_cons_succ]
      refine lt_pure 16 rfl (by kernel_rfl) (by kernel_rfl) (by kernel_rfl) (by kernel_rfl) (fun _ _ _ h => h) (v := ?_) (yi_run rfl (fun w => ?_)) (fun _ => HS.out) ?_
      rotate_left
      · first | (go_simp; done) | (go_simp; with_reducible rfl)
      simp only [Act.put, List.setIfInBounds_toArray, List.set_cons_zero, List.set_cons_succ]
      refine lt_pure 17 rfl (by kernel_rfl) (by kernel_rfl) (by kernel_rfl) (by kernel_rfl) (fun _ _ _ h => h) (v := ?_) (yi_run rfl (fun w => ?_)) (fun _ => HS.out) ?_
      rotate_left
      · first | (go_simp; done) | (go_simp; with_reducible rfl)
      simp only [Act.put, List.setIfInBounds_toArray, List.set_cons_zero, List.set_cons_succ]
      refine lt_done (by kernel_rfl) ?_
      replace HZ4 := Lib.hid (HZ4.out.later HS.out)
      clear HS
      go_wp2_with (first
        | (refine wpList_load_cell rfl 34 (.tmp 13) rfl rfl (HZ4.out.cell (i := 7) (j := 0) rfl rfl) (fun w => Tryz.isAgg34 w) ?_)
        | (refine wpList_load_row7 rfl 46 (.tmp 20) rfl rfl (HZ4.out.range (i := 0) rfl) ent_row5 ?_)
        | (go_at_call 18; go_must (refine (fentry_any (rest := boxO gy [.slice A6 e.row.length e.row.length, .int .i64 e.fam, .slice B6 e.qual.length e.qual.length, .int .i64 e.ts, .int .i64 e.seq, .int .i64 e.kind, .slice D6 e.val.length e.val.length] :: (boxO gi [.int .i64 ((m3 : Nat))] :: boxO g9 [.pointer (some ⟨g, 0, none⟩)] :: boxO g11 [.slice (some ⟨wb, wo, none⟩) n rc] :: boxO g13 [.pointer (some ⟨gf, 0, none⟩)] :: (bo ++ (entsO (some ⟨wb, wo, none⟩) n rc rs))) ++ [dfrO D]) e HF4.out HSC.out.1 HSC.out.2.1 HSC.out.2.2 (HZ4.out.perm (by (refine perm_of_cnt fun a => ?_; (simp only [cntO_app, cntO_cons, cntO_nil]) <;> omega))) HQL.out.1 HQL.out.2.1 HQL.out.2.2).mono ?_); rintro r z4 ⟨rfl, osF5, hf, hz⟩; have HF5 := Lib.hid hf; have HZ5 : Hid (OW x1 (boxO gy [.slice A6 e.row.length e.row.length, .int .i64 e.fam, .slice B6 e.qual.length e.qual.length, .int .i64 e.ts, .int .i64 e.seq, .int .i64 e.kind, .slice D6 e.val.length e.val.length] :: ((boxO gi [.int .i64 ((m3 : Nat))] :: boxO g9 [.pointer (some ⟨g, 0, none⟩)] :: boxO g11 [.slice (some ⟨wb, wo, none⟩) n rc] :: boxO g13 [.pointer (some ⟨gf, 0, none⟩)] :: (bo ++ (entsO (some ⟨wb, wo, none⟩) n rc rs ++ osF5))) ++ [dfrO D])) z4) := Lib.hid (hz.perm (by (refine perm_of_cnt fun a => ?_; (simp only [cntO_app, cntO_cons, cntO_nil]) <;> omega))); clear hf hz HZ4 HF4))
      go_roundw
      case rel => exact ⟨(k : Int) + 1, osF5, by omega, by omega, by go_num, HF5, Lib.hid (HZ5.out.erase 0)⟩
      case measure => (simp [intOf]) <;> omega
end Go.Proofs.YtmigjipfomfacaaGreatDoor
namespace Go.Proofs.YtmigjipfomfacaaGreatDoor
open Go.RowKit Go.WideShapes Go.ChangeShapes Go.Joins Go.Deep
section
variable {H : Type} {enc : TypeId × Value → H} {P : Program}
theorem trodAll_below (hl : laidOutB P = true) {W W' : World} {sp : Nat → Bool} : ∀ (ts : List TypeId) (vs : List Value) (ds : List (DataW H)) (ps : List MemPlace),
    (∀ t ∈ ts, P.readableRec t = true ∧ t < P.types.size) → DataW.TrodAll enc P W 0 (fun _ => true) true ts vs ds ps → (∀ p ∈ ps, W.sameAt W' p) → (∀ p ∈ ps, sp p.block = true) →
    DataW.TrodAll enc P W' 0 sp true ts vs ds ps
  | [], [], [], ps, _, h, _, _ => h
  | t :: ts, v :: vs, d :: ds, ps, hr, h, hs, hp => by
    obtain ⟨p, q, h1, h2, rfl⟩ := h
    refine ⟨p, q, WideElems.Trod_stays hl (hr t (by simp)).1 (hr t (by simp)).2 h1 (fun x hx => hs x (by simp [hx])) (fun x hx => hp x (by simp [hx])), ?_, rfl⟩
    exact trodAll_below hl ts vs ds q (fun t ht => hr t (by simp [ht])) h2 (fun x hx => hs x (by simp [hx])) (fun x hx => hp x (by simp [hx]))
  | [], _ :: _, _, _, _, h, _, _ => h.elim
  | [], [], _ :: _, _, _, h, _, _ => h.elim
  | _ :: _, [], _, _, _, h, _, _ => h.elim
  | _ :: _, _ :: _, [], _, _, h, _, _ => h.elim
theorem law_post {f : Func} {s : ChangeSpec} {apart fresh handsOn again : Bool} {W W' : World} {args : Array Value} {ds gs : List (DataW H)} {before : List MemPlace} {tb : TypeId}
    (hl : laidOutB P = true) (hr : ∀ t ∈ f.params.toList, P.readableRec t = true ∧ t < P.types.size) (hv : s.vars = [])
    (hW : DataW.Whole enc P f.params.toList s.vars apart W args.toList ds gs before) (hres : f.resultTypes = #[tb]) (htb : P.underlying tb = some .bool)
    (hfn : s.fn H (ds ++ gs) = { results := [.lit (.bool true)], args := ds }) (hb : Below W.heap.size W W') :
    s.post enc P f apart fresh handsOn again W args (.bool true) W' := by
  have hlt : ∀ p ∈ before, p.block < W.heap.size := fun p hp => hW.lt p hp
  obtain ⟨p, q, hA, hV, hpq, hz, hn⟩ := hW
  have hq : gs = [] ∧ q = [] := by rw [hv] at hV; exact trodVars_none hV
  obtain ⟨rfl, rfl⟩ := hq
  rw [List.append_nil] at hpq
  subst hpq
  have hold : ∀ x ∈ before, (fun b => decide (b < W.heap.size)) x.block = true := fun x hx => by simpa using hlt x hx
  have hargs : ∀ sp : Nat → Bool, (∀ x ∈ before, sp x.block = true) → DataW.TrodAll enc P W' 0 sp true f.params.toList args.toList ds before := fun sp hsp =>
    trodAll_below hl _ _ _ _ hr hA (fun x hx => hb.same (hlt x hx)) hsp
  have hvars : ∀ sp : Nat → Bool, DataW.TrodVars enc P W' sp s.vars (s.fn H (ds ++ [])).vars [] := fun sp => by rw [hv, hfn]; rfl
  have hresv : ∀ (b : Nat) (sp : Nat → Bool) (hd : Bool), DataW.TrodAll enc P W' b sp hd f.resultTypes.toList ((Value.bool true).resultList f.resultTypes.size) (s.fn H (ds ++ [])).results [] := by
    intro b sp hd
    rw [hfn, hres]
    exact trodAll_mk1 (shut_bool htb true)
  have hargs' : ∀ sp : Nat → Bool, (∀ x ∈ before, sp x.block = true) → DataW.TrodAll enc P W' 0 sp true f.params.toList args.toList (s.fn H (ds ++ [])).args before := fun sp hsp => by rw [hfn]; exact hargs sp hsp
  refine ⟨ds, [], before, [], before, [], ⟨before, [], hA, hV, by simp, hz, hn⟩, hresv _ _ _, hargs' _ hold, hvars _, World.keptBut_mono (fun x hx => ⟨hx, Or.inr (Or.inl hx)⟩) (hb.frame (· ∈ before)), fun _ => ?_⟩
  refine ⟨?_, _, _, ([] ++ before) ++ [], ⟨[] ++ before, [], trodAll_append (hargs' _ (fun _ _ => rfl)) (hresv _ _ _), hvars _, rfl, ?_, ?_⟩, ?_⟩
  · exact ok_one hres rfl (okWide_bool_mk htb true)
  · intro b off hp
    have hin : MemPlace.cell b off ∈ before := by simpa using hp
    rw [hb.frozen (hlt _ hin)]
    exact hz b off hin
  · intro ha
    have := hn ha
    simpa using this
  · intro x hx _
    simpa using hx
end
theorem list_of {α : Type} {Q : Nat → α → Prop} : ∀ (n : Nat), (∀ i, i < n → ∃ x, Q i x) → ∃ l : List α, l.length = n ∧ ∀ i x, l[i]? = some x → Q i x
  | 0, _ => ⟨[], rfl, fun i x h => by simp at h⟩
  | n + 1, h => by
    obtain ⟨l, hl, hq⟩ := list_of n (fun i hi => h i (by omega))
    obtain ⟨x, hx⟩ := h n (by omega)
    refine ⟨l ++ [x], by simp [hl], fun i y hy => ?_⟩
    rcases Nat.lt_or_ge i n with hi | hi
    · rw [List.getElem?_append_left (by omega)] at hy
      exact hq i y hy
    · have : i = n := by
        have := (List.getElem?_eq_some_iff.1 hy).1
        simp [hl] at this; omega
      subst this
      rw [List.getElem?_append_right (by omega)] at hy
      simp [hl] at hy
      subst hy; exact hx
theorem addr_add (a : Addr) (j : Nat) (ha : a.spot = none) : a.add j = ⟨a.block, a.off + j, none⟩ := by
  obtain ⟨b, o, sp⟩ := a
  simp at ha; subst ha
  unfold Addr.add
  split
  · rename_i h; subst h; rfl
  · rfl
theorem spot_none {w : World} {a : Addr} {v : Value} (h : w.cell? a = some v) : a.spot = none := by
  unfold World.cell? at h
  split at h
  · split at h
    · cases h
    · rename_i h'; simpa using h'
  · cases h
theorem reads_of {w : World} {size n : Nat} {a : Addr} {xs : List Value} (hl : xs.length = n * size) (hs : 0 < size) (h : ∀ j u, xs[j]? = some u → w.cell? (a.add j) = some u) : Reads w w.heap.size size (some a) n xs := by
  refine ⟨hl, fun hn => ?_⟩
  have h0 : 0 < xs.length := by rw [hl]; exact Nat.mul_pos hn hs
  have hc := h 0 _ (List.getElem?_eq_getElem h0)
  have e0 : a.add 0 = a := by simp [Addr.add]
  rw [e0] at hc
  have hsp := spot_none hc
  refine ⟨a.block, a.off, by obtain ⟨b, o, sp⟩ := a; simp at hsp; subst hsp; rfl, World.block_lt_of_cell? w a hc, fun j u hu => ?_⟩
  rw [← addr_add a j hsp]
  exact h j u hu
section
variable {H : Type} {enc : TypeId × Value → H} {P : Program} {w : World} {base : Nat} {spare : Nat → Bool} {held : Bool}
end
section
variable {H : Type} {enc : TypeId × Value → H} {P : Program} {w : World} {base : Nat} {spare : Nat → Bool} {held : Bool}
end
end Go.Proofs.YtmigjipfomfacaaGreatDoor
namespace Go.Proofs.YtmigjipfomfacaaGreatDoor
open Go.RowKit Go.WideShapes Go.ChangeShapes Go.Joins Go.Deep
section
variable {H : Type} {enc : TypeId × Value → H} {P : Program} {w : World} {base : Nat} {spare : Nat → Bool} {held : Bool}
theorem open_bytes {t e : TypeId} {fuel : Nat} {cs : List Value} {x : DataW H × List MemPlace} (ht : P.underlying t = some (.slice e)) (he : P.underlying e = some (.int .u8)) (hC : P.cellsOf e = 1)
    (h : DataW.trod enc P w base spare held fuel t cs = some x) :
    ∃ (A : Option Addr) (c : Nat) (l : List UInt8), cs = [.slice A l.length c] ∧ l.length ≤ c ∧ c ≤ 9223372036854775807 ∧ (A = none → c = 0) ∧ RB w w.heap.size A l.length l := by
  rcases open_slice1 ht hC h with ⟨rfl, _⟩ | ⟨a, len, cap, m, n, V, D, Pl, rfl, _, hl, hm, hmm, _, hi⟩
  · exact ⟨none, 0, [], rfl, by simp, by omega, fun _ => rfl, RB.nil⟩
  · have hlm : len ≤ m := by rw [hmm]; split <;> omega
    obtain ⟨l, hll, hq⟩ := list_of (Q := fun i (b : UInt8) => w.cell? (a.add i) = some (.int .u8 (b.toNat : Int))) len (fun i hi' => by
      obtain ⟨h1, h2⟩ := hi i (by omega)
      obtain ⟨v, e0, _, hw⟩ := DataW.trod_int he h2
      injection e0 with e0 _
      have hw : 0 ≤ v ∧ v ≤ 255 := by
        simp [Lit.wf, IntKind.min, IntKind.max, IntKind.signed, IntKind.bits] at hw
        omega
      refine ⟨UInt8.ofNat v.toNat, ?_⟩
      rw [h1, e0, UInt8.toNat_ofNat', Nat.mod_eq_of_lt (by omega), Int.toNat_of_nonneg hw.1])
    subst hll
    exact ⟨some a, cap, l, rfl, hl, hm, (fun e => nomatch e), reads_of (by simp [u8s_length]) (by decide) fun j u hu => by
      simp only [u8s, List.getElem?_map, Option.map_eq_some_iff] at hu
      obtain ⟨b, hb, rfl⟩ := hu
      exact hq j b hb⟩
theorem open_slice_top {r : Reach} {b0 : Nat} {t e : TypeId} {v : Value} {d : DataW H} {ps : List MemPlace} (ht : P.underlying t = some (.slice e)) (hval : Value.okWide P w r b0 t v) (h : DataW.Trod enc P w base spare held t v d ps) :
    ∃ fuel, DataW.trod enc P w base spare held fuel t [v] = some (d, ps) := by
  obtain ⟨a, n, c, rfl⟩ := okWide_slice ht hval
  obtain ⟨fuel, hf⟩ := h
  exact ⟨fuel, hf⟩
end
end Go.Proofs.YtmigjipfomfacaaGreatDoor
namespace Go.Proofs.YtmigjipfomfacaaGreatDoor
open Go.RowKit Go.WideShapes Go.ChangeShapes Go.Joins Go.Deep
theorem bulk_one {H : Type} (d : DataW H) : 1 ≤ Rows.uptoBulk d := by
  cases d with
  | lit l => cases l <;> simp [Rows.uptoBulk]
  | nil => simp [Rows.uptoBulk]
  | ptr d => simp [Rows.uptoBulk]
  | slice elems spare => simp [Rows.uptoBulk]
  | agg parts => simp [Rows.uptoBulk]
  | iface t d => simp [Rows.uptoBulk]
  | map entries => simp [Rows.uptoBulk]
  | held h => simp [Rows.uptoBulk]
theorem bulk_len {H : Type} (l : List (DataW H)) : l.length ≤ Rows.uptoBulkAll l := by
  induction l with
  | nil => simp [Rows.uptoBulkAll]
  | cons x r ih => have := bulk_one x; simp only [Rows.uptoBulkAll, List.length_cons]; omega
section
variable {H : Type} {enc : TypeId × Value → H} {P : Program} {w : World} {base : Nat} {held : Bool}
theorem upto_bytes {t e : TypeId} {fuel : Nat} {cs : List Value} {x : DataW H × List MemPlace} (ht : P.underlying t = some (.slice e)) (he : P.underlying e = some (.int .u8)) (hC : P.cellsOf e = 1)
    (h : DataW.trod enc P w base (fun _ => true) held fuel t cs = some x) :
    ∃ (A : Option Addr) (c : Nat) (l : List UInt8), cs = [.slice A l.length c] ∧ Sl w A l.length c l ∧ c + 1 ≤ Rows.uptoBulk x.1 := by
  obtain ⟨A, c, l, h1, h2, h3, h4, h5⟩ := open_bytes ht he hC h
  refine ⟨A, c, l, h1, ⟨h5, h2, h3, h4⟩, ?_⟩
  rcases open_slice1 ht hC h with ⟨rfl, rfl⟩ | ⟨a, len, cap, m, n, V, D, Pl, rfl, _, hl, hm, hmm, hx, hi⟩
  · injection h1 with h1
    injection h1 with _ _ h1
    subst h1
    simp [Rows.uptoBulk]
  · injection h1 with h1
    injection h1 with _ _ h1
    subst h1
    rw [if_pos rfl] at hmm
    subst hmm
    rw [hx]
    simp only [Rows.uptoBulk]
    have e1 := bulk_len (H := H) ((List.range len).map D)
    have e2 := bulk_len (H := H) ((List.range (m - len)).map fun j => D (len + j))
    simp only [List.length_map, List.length_range] at e1 e2
    omega
theorem upto_bytes_top {r : Reach} {b0 : Nat} {t e : TypeId} {v : Value} {d : DataW H} {ps : List MemPlace} (ht : P.underlying t = some (.slice e)) (he : P.underlying e = some (.int .u8)) (hC : P.cellsOf e = 1)
    (hval : Value.okWide P w r b0 t v) (h : DataW.Trod enc P w base (fun _ => true) held t v d ps) :
    ∃ (A : Option Addr) (c : Nat) (l : List UInt8), v = .slice A l.length c ∧ Sl w A l.length c l ∧ c + 1 ≤ Rows.uptoBulk d := by
  obtain ⟨fuel, hf⟩ := open_slice_top ht hval h
  obtain ⟨A, c, l, h1, h2⟩ := upto_bytes ht he hC hf
  injection h1 with h1
  exact ⟨A, c, l, h1, h2⟩
end
end Go.Proofs.YtmigjipfomfacaaGreatDoor
namespace Go.Proofs.YtmigjipfomfacaaGreatDoor
open Go.ChangeShapes Go.WideShapes Go.ChangeAt Go.RowKit Go.Joins Go.Deep
theorem Tryz.own : ownKnob Tryz.prog.godebug = none := by kernel_rfl
theorem Tryz.laidOut : laidOutB Tryz.prog = true := by kernel_rfl
theorem gTab : Tryz.prog.globalNamed "strata/wire.table" = some 0 := by kernel_rfl
theorem gTabType : (Tryz.prog.globals[0]?).map (·.type) = some 117 := by kernel_rfl
theorem gTabCells : Tryz.prog.cellsOf 117 = 16 := by kernel_rfl
theorem gTabCell : Tryz.prog.cellsOf 83 = 1 := by kernel_rfl
def tabZ : List Int := [0, 274646895, 549293790, 820201905, 1098587580, 1361435347, 1640403810, 1905808397, 2197175160, 2460548119, 2722870694, 2987750089, 3280807620, 3553878443, 3811616794, 4084100981]
theorem tabZ_at : ∀ i : Fin 16, tabZ.getD i.val 0 = (tabN i.val : Int) := by decide +kernel
theorem table_of {W : World} (h : laidMetH Tryz.prog [("strata/wire.table", Rows.laid_strata_wire_table)] W) : TabAt 0 W := by
  have ht : Lib.TabIs Tryz.prog W "strata/wire.table" .u32 tabZ := Lib.tabIs_of_head (rest := []) gTab gTabType Tryz.underlying117 Tryz.underlying83 gTabCell gTabCells h
  have hc : ∀ i, i < 16 → W.cell? ⟨0, i, none⟩ = some (.int .u32 (tabN i)) := fun i hi => by
    rw [ht.cell gTab i hi, tabZ_at ⟨i, hi⟩]
  exact ⟨World.block_lt_of_cell? W ⟨0, 0, none⟩ (hc 0 (by decide)), hc⟩
noncomputable def laidWorld (os : Os) : World :=
  { World.holding Tryz.prog os ⟨#[], #[], []⟩ with heap := (World.holding Tryz.prog os ⟨#[], #[], []⟩).heap.modify 0 fun
      | .cells _ t frozen => .cells #[.int .u32 0, .int .u32 274646895, .int .u32 549293790, .int .u32 820201905, .int .u32 1098587580, .int .u32 1361435347, .int .u32 1640403810, .int .u32 1905808397, .int .u32 2197175160, .int .u32 2460548119, .int .u32 2722870694, .int .u32 2987750089, .int .u32 3280807620, .int .u32 3553878443, .int .u32 3811616794, .int .u32 4084100981] t frozen
      | o => o }
end Go.Proofs.YtmigjipfomfacaaGreatDoor
