/-
  Laid together by merge.py: RunW1, RunP6, RunP7, RunP8, RunD, RunW7, BlockQP, RunP9, RunW8, BlockP8, RunP10, RunP11, RunP12, RunW9, Kit50.
-/
import Derived.Test.YtfdbcfaeiglbeaaGreatDoorRQ6
import Derived.Deep.CutBlock
import Derived.Test.YtfdbcfaeiglbeaaGreatDoorRQ1
import Derived.Test.YtfdbcfaeiglbeaaGreatDoorRQ5
import Derived.Test.YtfdbcfaeiglbeaaGreatDoorRQ4
import Derived.Defers
namespace Go.Proofs.YtfdbcfaeiglbeaaGreatDoor
open Go.RowKit
theorem wl_rowR {P : Program} {ops : Array Oper} {Q : Exit → Act → World → Prop} {rest : List Oper} {o : Oper} {a : Act} {x : World} (hgd : Region.wanted o (yielded ops a.tmps) = true) (ty : TypeId) (p : Operand) (ho : o.op = .load ty p) {b k : Nat} {cs : List Value} (hx : a.eval p = .pointer (some ⟨b, k, none⟩)) (hr : x.rangeAt b k cs) (ht : RowTy P ty cs.length)
    (hK : wpList P ops Q rest (a.put o.dst (.agg cs.toArray)) x) : wpList P ops Q (o :: rest) a x := by
  obtain ⟨⟨d, hu, hd⟩, hi⟩ := ht
  exact BigFrame.wpList_want hgd fun _ h => wp_load_mid ty p ho b k hx cs d hr hu hd hi (h _ _ hK)
theorem ent_rowR : RowTy Tryz.prog 60 7 := ⟨⟨_, Tryz.underlying60, rfl⟩, by kernel_rfl⟩
theorem fr_perm (a : Ob) (X : List Ob) : (X ++ [a]).Perm (a :: X) := by (refine perm_of_cnt fun a => ?_; (simp only [cntO_app, cntO_cons, cntO_nil]) <;> omega)
theorem Ens.er {w : World} {A : Option Addr} {n : Nat} {L : List Ent} (h : Ens w A n L) {k : Nat} (hk : k < n) : ∃ (b o : Nat) (r : ER), A = some ⟨b, o, none⟩ ∧ b < w.heap.size ∧ L[k]? = some r.e ∧ w.rangeAt b (o + k * 7) [.slice r.A r.e.row.length r.c, .int .i64 r.e.fam, .slice r.B r.e.qual.length r.d, .int .i64 r.e.ts, .int .i64 r.e.seq, .int .i64 r.e.kind, .slice r.D r.e.val.length r.q] ∧ r.En w := by
  obtain ⟨b, o, Ar, c, B, d, D, q, e, h1, h2, h3, h4, h5⟩ := h.at_ hk
  exact ⟨b, o, ⟨Ar, c, B, d, D, q, e⟩, h1, h2, h3, h4, h5⟩
set_option maxRecDepth 100000 in
theorem rlow_any (v : Nat) (w : World) (hv : v < 4294967296) : Calls Tryz.prog 134 #[.int .u32 v] w (BytesPost 5 (lowB v) w) := by
  have hL : Hid (u8s (lowB v) = [.int .u8 ((v : Int) % 256), .int .u8 ((v : Int) / 256 % 256), .int .u8 ((v : Int) / 65536 % 256), .int .u8 ((v : Int) / 16777216)]) := Lib.hid (by
    show [u8v _, u8v _, u8v _, u8v _] = _
    rw [u8v_mod, u8v_mod, u8v_mod, u8v_mod]; simp only [Int.natCast_ediv]; rw [show ((v : Int) / ((16777216 : Nat) : Int) % 256) = (v : Int) / 16777216 from by omega]; rfl)
  go_enter Tryz.func134, Tryz.ntmps134
  go_wp2_with fail
  go_ret
  refine ⟨_, _, rfl, ?_, ((Below.refl _ _).alloc (Nat.le_refl _) _)⟩
  show World.ownsRow _ _ _ _ _ _ _
  rw [hL.out]
  exact own_lit w #[.int .u8 ((v : Int) % 256), .int .u8 ((v : Int) / 256 % 256), .int .u8 ((v : Int) / 65536 % 256), .int .u8 ((v : Int) / 16777216)] 5 w.heap.size 4 1 (by simp) (by decide) rfl
set_option maxRecDepth 100000 in
theorem rsealed_any (i l c : Int) (w : World) : Calls Tryz.prog 68 #[.int .i64 i, .int .i64 l, .int .i64 c] w fun e z => e = .returned (.bool (sealI i l c)) ∧ w = z := by
  go_enter Tryz.func68, Tryz.ntmps68
  by_cases h0 : 0 ≤ i
  case neg =>
    have a0 : decide (0 ≤ i) = false := decide_eq_false h0
    have b0 : decide (i ≥ 0) = false := decide_eq_false h0
    have hs : sealI i l c = false := by unfold sealI; simp only [a0, Bool.and_false, Bool.false_and]
    rw [hs]
    clear hs h0
    go_wp2_with fail
    go_ret
    exact ⟨rfl, rfl⟩
  have a0 : decide (0 ≤ i) = true := decide_eq_true h0
  have b0 : decide (i ≥ 0) = true := decide_eq_true h0
  by_cases h1 : i ≤ 1099511627776
  case neg =>
    have a1 : decide (i ≤ 1099511627776) = false := decide_eq_false h1
    have b1 : decide (i ≤ 1099511627776) = false := decide_eq_false h1
    have hs : sealI i l c = false := by unfold sealI; simp only [a1, Bool.and_false, Bool.false_and]
    rw [hs]
    clear hs h1
    go_wp2_with fail
    go_ret
    exact ⟨rfl, rfl⟩
  have a1 : decide (i ≤ 1099511627776) = true := decide_eq_true h1
  have b1 : decide (i ≤ 1099511627776) = true := decide_eq_true h1
  by_cases h2 : 1 ≤ c
  case neg =>
    have a2 : decide (1 ≤ c) = false := decide_eq_false h2
    have b2 : decide (c ≥ 1) = false := decide_eq_false h2
    have hs : sealI i l c = false := by unfold sealI; simp only [a2, Bool.and_false, Bool.false_and]
    rw [hs]
    clear hs h2
    go_wp2_with fail
    go_ret
    exact ⟨rfl, rfl⟩
  have a2 : decide (1 ≤ c) = true := decide_eq_true h2
  have b2 : decide (c ≥ 1) = true := decide_eq_true h2
  by_cases h3 : c ≤ 1099511627776
  case neg =>
    have a3 : decide (c ≤ 1099511627776) = false := decide_eq_false h3
    have b3 : decide (c ≤ 1099511627776) = false := decide_eq_false h3
    have hs : sealI i l c = false := by unfold sealI; simp only [a3, Bool.and_false, Bool.false_and]
    rw [hs]
    clear hs h3
    go_wp2_with fail
    go_ret
    exact ⟨rfl, rfl⟩
  have a3 : decide (c ≤ 1099511627776) = true := decide_eq_true h3
  have b3 : decide (c ≤ 1099511627776) = true := decide_eq_true h3
  by_cases h4 : 0 ≤ l
  case neg =>
    have a4 : decide (0 ≤ l) = false := decide_eq_false h4
    have b4 : decide (l ≥ 0) = false := decide_eq_false h4
    have hs : sealI i l c = false := by unfold sealI; simp only [a4, Bool.and_false, Bool.false_and]
    rw [hs]
    clear hs h4
    go_wp2_with fail
    go_ret
    exact ⟨rfl, rfl⟩
  have a4 : decide (0 ≤ l) = true := decide_eq_true h4
  have b4 : decide (l ≥ 0) = true := decide_eq_true h4
  by_cases h5 : l < c
  case neg =>
    have a5 : decide (l < c) = false := decide_eq_false h5
    have b5 : decide (l < c) = false := decide_eq_false h5
    have hs : sealI i l c = false := by unfold sealI; simp only [a5, Bool.and_false, Bool.false_and]
    rw [hs]
    clear hs h5
    go_wp2_with fail
    go_ret
    exact ⟨rfl, rfl⟩
  have a5 : decide (l < c) = true := decide_eq_true h5
  have b5 : decide (l < c) = true := decide_eq_true h5
  have hs : sealI i l c = true := by unfold sealI; simp only [a0, a1, a2, a3, a4, a5, Bool.and_true]
  rw [hs]
  clear hs h0 h1 h2 h3 h4 h5
  go_wp2_with fail
  go_ret
  exact ⟨rfl, rfl⟩
set_option maxRecDepth 1000000 in
set_option maxHeartbeats 4000000 in
theorem look_any (o : OptR) (L : List Ent) (A : Option Addr) (n c : Nat) (w : World) (hes : Ens w A n L) (hn : n ≤ 1000000) (ho : 0 ≤ o.index ∧ o.index ≤ 1099511627776) :
  Calls Tryz.prog 106 #[.agg #[.int .i64 o.block, .int .i64 o.bits, .int .i64 o.index, .int .i64 o.low, .int .i64 o.clock], .slice A n c] w fun e z => e = .returned (.int .i64 (lookE o.index none L)) ∧ Below w.heap.size w z := by
 have HL : Hid (L.length = n) := Lib.hid hes.len
 have HES : Hid (∀ z, Below w.heap.size w z → Ens z A n L) := Lib.hid fun z hz => hes.later hz
 have HX := Lib.hid (OW.nil w)
 obtain ⟨ix, hix⟩ : ∃ z, z = o.index := ⟨_, rfl⟩
 obtain ⟨K, hK⟩ : ∃ z, z = lookE ix none L := ⟨_, rfl⟩
 have HK : Hid (lookD ix L 0 = K) := Lib.hid (by rw [hK]; rfl)
 obtain ⟨ho1, ho2⟩ := ho
 rw [← hix, ← hK]
 rw [← hix] at ho1 ho2
 have s1 : IntKind.i64.wrap (ix * 16) = ix * 16 := i64_sum (by omega) (by omega)
 have s2 : IntKind.i64.wrap (ix * 16 + 15) = ix * 16 + 15 := i64_sum (by omega) (by omega)
 clear hes hix hK
 go_enter Tryz.func106, Tryz.ntmps106
 go_wp2_with (refine wl_box rfl (.tmp 0) rfl [.int .i64 o.block, .int .i64 o.bits, .int .i64 ix, .int .i64 o.low, .int .i64 o.clock] rfl HX.out ?_; intro g2 x1 hz hb; have HX1 : Hid (OW w [boxO g2 [.int .i64 o.block, .int .i64 o.bits, .int .i64 ix, .int .i64 o.low, .int .i64 o.clock]] x1) := Lib.hid hz; clear hz hb HX)
 go_loopw [10] (fun av wr => ∃ i : Nat, i ≤ n ∧ av = .int .i64 i ∧ Hid (lookD ix L i = K) ∧ Hid (OW w [boxO g2 [.int .i64 o.block, .int .i64 o.bits, .int .i64 ix, .int .i64 o.low, .int .i64 o.clock]] wr)) (fun av _ => n - (intOf av).toNat)
 case atStart => exact ⟨0, Nat.zero_le _, rfl, HK, HX1⟩
 case round =>
  clear HX1 HK
  obtain ⟨i, hin, rfl, HK, HX⟩ := hrel
  by_cases hlt : i < n
  case neg =>
   have hd : decide ((i : Int) < (n : Int)) = false := decide_eq_false (by omega)
   have HK0 : Hid (K = 0) := Lib.hid (by rw [← HK.out]; exact lookD_end _ _ (by rw [HL.out]; omega))
   go_wp2_with fail
   go_ret
   exact ⟨by rw [HK0.out]; rfl, HX.out.up⟩
  have hd : decide ((i : Int) < (n : Int)) = true := decide_eq_true (by omega)
  have i0 : (0 : Int) ≤ (i : Int) := by omega
  have i1 : (i : Int) < (n : Int) := by omega
  obtain ⟨b, oo, r, rfl, hb, hr, hrg, hen⟩ := (HES.out w (Below.refl _ _)).er hlt
  have HR := Lib.hid hr
  have HRG : Hid (∀ z, Below w.heap.size w z → z.rangeAt b (oo + i * 7) [.slice r.A r.e.row.length r.c, .int .i64 r.e.fam, .slice r.B r.e.qual.length r.d, .int .i64 r.e.ts, .int .i64 r.e.seq, .int .i64 r.e.kind, .slice r.D r.e.val.length r.q]) := Lib.hid fun z hz j v hj => (hz.cell (p := ⟨b, _, none⟩) hb).trans (hrg j v hj)
  have HEN : Hid (∀ z, Below w.heap.size w z → r.En z) := Lib.hid fun z hz => hen.later hz
  have HST : Hid (lookD ix L i = if checkE r.e ≠ 0 then checkE r.e else if 16 * ix + 15 < r.e.seq then 24 else if outP (prevE L i) r.e = true then 30 else lookD ix L (i + 1)) := Lib.hid (lookD_step ix L hr)
  obtain ⟨ck, hck⟩ : ∃ z, z = checkE r.e := ⟨_, rfl⟩
  have HCK : Hid (checkN r.e.row.length r.e.fam r.e.qual.length r.e.ts r.e.seq r.e.kind r.e.val.length = ck) := Lib.hid (by rw [hck]; rfl)
  have HCK2 := Lib.hid hck
  clear hb hr hrg hen hck
  go_upto_region 5 with (first
   | (refine wl_rowR rfl 60 (.tmp 13) rfl rfl (HRG.out _ HX.out.up) ent_rowR ?_)
   | (refine wl_alloc rfl rfl [.slice none 0 0, .int .i64 0, .slice none 0 0, .int .i64 0, .int .i64 0, .int .i64 0, .slice none 0 0] (.inl (by kernel_rfl)) HX.out ?_; intro g6 y1 hz _; have HY1 : Hid (OW w [boxO g6 [.slice none 0 0, .int .i64 0, .slice none 0 0, .int .i64 0, .int .i64 0, .int .i64 0, .slice none 0 0], boxO g2 [.int .i64 o.block, .int .i64 o.bits, .int .i64 ix, .int .i64 o.low, .int .i64 o.clock]] y1) := Lib.hid (hz.perm (fr_perm _ _)); clear hz)
   | (refine wl_put rfl (.tmp 6) (.tmp 14) rfl HY1.out 0 rfl rfl [.slice r.A r.e.row.length r.c, .int .i64 r.e.fam, .slice r.B r.e.qual.length r.d, .int .i64 r.e.ts, .int .i64 r.e.seq, .int .i64 r.e.kind, .slice r.D r.e.val.length r.q] rfl rfl (by kernel_rfl) (by simp [Value.oneCell']) ?_; intro y2 hz _; have HY2 : Hid (OW w [boxO g6 [.slice r.A r.e.row.length r.c, .int .i64 r.e.fam, .slice r.B r.e.qual.length r.d, .int .i64 r.e.ts, .int .i64 r.e.seq, .int .i64 r.e.kind, .slice r.D r.e.val.length r.q], boxO g2 [.int .i64 o.block, .int .i64 o.bits, .int .i64 ix, .int .i64 o.low, .int .i64 o.clock]] y2) := Lib.hid hz; clear hz HY1)
   | (refine wl_rowR rfl 60 (.tmp 6) rfl rfl (HY2.out.range (i := 0) rfl) ent_rowR ?_)
   | (go_at_call 161; go_must (refine (check_any _ _ _ _ _ _ _ _ _ _ _ _ _ _).mono ?_); rw [HCK.out]; rintro e y3 ⟨rfl, hb⟩; have HY := Lib.hid (HY2.out.later hb); clear hb HY2))
  by_cases hc : ck = 0
  case neg =>
   have e0 : (ck != 0) = true := bne_iff_ne.2 hc
   have HKK : Hid (K = ck) := Lib.hid (by rw [← HK.out, HST.out, ← HCK2.out, if_pos hc])
   clear hc
   go_wp2_with fail
   go_ret
   exact ⟨by rw [HKK.out]; rfl, HY.out.up⟩
  have e0 : (ck != 0) = false := by rw [hc]; rfl
  have HST2 : Hid (K = if 16 * ix + 15 < r.e.seq then 24 else if outP (prevE L i) r.e = true then 30 else lookD ix L (i + 1)) := Lib.hid (by rw [← HK.out, HST.out, ← HCK2.out, if_neg (fun h => h hc)])
  clear hc
  by_cases hsq : 16 * ix + 15 < r.e.seq
  case pos =>
   have e1 : decide (r.e.seq > ix * 16 + 15) = true := decide_eq_true (by omega)
   have HKK : Hid (K = 24) := Lib.hid (by rw [HST2.out, if_pos hsq])
   clear hsq
   go_wp2_with (first
    | (refine wpList_load_cell rfl 3 (.tmp 21) rfl rfl (HY.out.cell (i := 0) (j := 4) rfl rfl) (fun w => Tryz.isAgg3 w) ?_)
    | (refine wpList_load_cell rfl 3 (.tmp 23) rfl rfl (HY.out.cell (i := 1) (j := 2) rfl rfl) (fun w => Tryz.isAgg3 w) ?_))
   go_ret
   exact ⟨by rw [HKK.out]; rfl, HY.out.up⟩
  have e1 : decide (r.e.seq > ix * 16 + 15) = false := decide_eq_false (by omega)
  have HST3 : Hid (K = if outP (prevE L i) r.e = true then 30 else lookD ix L (i + 1)) := Lib.hid (by rw [HST2.out, if_neg hsq])
  clear hsq HST HST2
  go_upto_region 9 with (first
   | (refine wpList_load_cell rfl 3 (.tmp 21) rfl rfl (HY.out.cell (i := 0) (j := 4) rfl rfl) (fun w => Tryz.isAgg3 w) ?_)
   | (refine wpList_load_cell rfl 3 (.tmp 23) rfl rfl (HY.out.cell (i := 1) (j := 2) rfl rfl) (fun w => Tryz.isAgg3 w) ?_))
  by_cases hi0 : i = 0
  case pos =>
   subst hi0
   have HKK : Hid (lookD ix L 1 = K) := Lib.hid (by rw [HST3.out]; rfl)
   clear HST3
   refine lt_start [] (by kernel_rfl) ?_
   intro xd hd
   refine ⟨fun z => OW w [boxO g6 [.slice r.A r.e.row.length r.c, .int .i64 r.e.fam, .slice r.B r.e.qual.length r.d, .int .i64 r.e.ts, .int .i64 r.e.seq, .int .i64 r.e.kind, .slice r.D r.e.val.length r.q], boxO g2 [.int .i64 o.block, .int .i64 o.bits, .int .i64 ix, .int .i64 o.low, .int .i64 o.clock]] z, ?_⟩
   have HS := Lib.hid (HY.out.later hd)
   refine lp 0 rfl (v := ?_) (fun w => ?_) (fun _ => HS.out) ?_
   rotate_left
   ·first | (go_simp; done) | (go_simp; with_reducible rfl)
   simp only [Act.put, ls1, ls2, ls3]
   refine lp 1 rfl (v := ?_) (fun w => ?_) (fun _ => HS.out) ?_
   rotate_left
   ·first | (go_simp; done) | (go_simp; with_reducible rfl)
   simp only [Act.put, ls1, ls2, ls3]
   refine lp 2 rfl (v := ?_) (fun w => ?_) (fun _ => HS.out) ?_
   rotate_left
   ·first | (go_simp; done) | (go_simp; with_reducible rfl)
   simp only [Act.put, ls1, ls2, ls3]
   refine lk 3 rfl (fun _ => HS.out) ?_
   simp only [Act.put, ls1, ls2, ls3]
   refine lk 4 rfl (fun _ => HS.out) ?_
   simp only [Act.put, ls1, ls2, ls3]
   refine lk 5 rfl (fun _ => HS.out) ?_
   simp only [Act.put, ls1, ls2, ls3]
   refine lk 6 rfl (fun _ => HS.out) ?_
   simp only [Act.put, ls1, ls2, ls3]
   refine lk 7 rfl (fun _ => HS.out) ?_
   simp only [Act.put, ls1, ls2, ls3]
   refine lk 8 rfl (fun _ => HS.out) ?_
   simp only [Act.put, ls1, ls2, ls3]
   refine lk 9 rfl (fun _ => HS.out) ?_
   simp only [Act.put, ls1, ls2, ls3]
   refine lk 10 rfl (fun _ => HS.out) ?_
   simp only [Act.put, ls1, ls2, ls3]
   refine lp 11 rfl (v := ?_) (fun w => ?_) (fun _ => HS.out) ?_
   rotate_left
   ·first | (go_simp; done) | (go_simp; with_reducible rfl)
   simp only [Act.put, ls1, ls2, ls3]
   refine lp 12 rfl (v := ?_) (fun w => ?_) (fun _ => HS.out) ?_
   rotate_left
   ·first | (go_simp; done) | (go_simp; with_reducible rfl)
   simp only [Act.put, ls1, ls2, ls3]
   refine lt_done (by kernel_rfl) ?_
   have HY3 := Lib.hid HS.out
   clear HS HY
   go_wp2_with fail
   go_roundw
   case rel => exact ⟨1, by omega, by go_num, HKK, Lib.hid (HY3.out.erase 0)⟩
   case measure => simp [intOf]; omega
  have e2 : decide ((i : Int) > 0) = true := decide_eq_true (by omega)
  have e3 : decide ((0 : Int) < (i : Int)) = true := decide_eq_true (by omega)
  have i9 : 0 < i := by omega
  have e4 : decide (0 < i) = true := decide_eq_true i9
  have i10 : (1 : Int) ≤ (i : Int) := by omega
  have s3 : IntKind.i64.wrap ((i : Int) - 1) = (i : Int) - 1 := i64_sum (by omega) (by omega)
  obtain ⟨b', o', q, heq, hb', hq, hqg, hqn⟩ := (HES.out w (Below.refl _ _)).er (show i - 1 < n by omega)
  injection heq with heq
  injection heq with hb9 ho9
  subst hb9 ho9
  have i2 : ((i : Int) - 1).toNat = i - 1 := by omega
  have i3 : (0 : Int) ≤ (i : Int) - 1 := by omega
  have i4 : (i : Int) - 1 < (n : Int) := by omega
  have HQG : Hid (∀ z, Below w.heap.size w z → z.rangeAt b (oo + (i - 1) * 7) [.slice q.A q.e.row.length q.c, .int .i64 q.e.fam, .slice q.B q.e.qual.length q.d, .int .i64 q.e.ts, .int .i64 q.e.seq, .int .i64 q.e.kind, .slice q.D q.e.val.length q.q]) := Lib.hid fun z hz j v hj => (hz.cell (p := ⟨b, _, none⟩) hb').trans (hqg j v hj)
  have HQN : Hid (∀ z, Below w.heap.size w z → q.En z) := Lib.hid fun z hz => hqn.later hz
  have HPV : Hid (prevE L i = some q.e) := Lib.hid (by unfold prevE; rw [if_neg hi0]; exact hq)
  obtain ⟨cv, hcv⟩ : ∃ z, z = cmpE q.e r.e := ⟨_, rfl⟩
  have HCV := Lib.hid hcv.symm
  have HST4 : Hid (K = if 0 ≤ cv then 30 else lookD ix L (i + 1)) := Lib.hid (by rw [HST3.out, HPV.out, hcv]; show (if decide (0 ≤ cmpE q.e r.e) = true then _ else _) = _; simp only [decide_eq_true_eq])
  clear hb' hq hqg hqn hcv HST3
  refine lt_start [] (by kernel_rfl) ?_
  intro xd hd
  refine ⟨fun z => OW w [boxO g6 [.slice r.A r.e.row.length r.c, .int .i64 r.e.fam, .slice r.B r.e.qual.length r.d, .int .i64 r.e.ts, .int .i64 r.e.seq, .int .i64 r.e.kind, .slice r.D r.e.val.length r.q], boxO g2 [.int .i64 o.block, .int .i64 o.bits, .int .i64 ix, .int .i64 o.low, .int .i64 o.clock]] z, ?_⟩
  have HS := Lib.hid (HY.out.later hd)
  refine lp 0 rfl (v := ?_) (fun w => ?_) (fun _ => HS.out) ?_
  rotate_left
  ·first | (go_simp; done) | (go_simp; with_reducible rfl)
  simp only [Act.put, ls1, ls2, ls3]
  refine lp 1 rfl (v := ?_) (fun w => ?_) (fun _ => HS.out) ?_
  rotate_left
  ·first | (go_simp; done) | (go_simp; with_reducible rfl)
  simp only [Act.put, ls1, ls2, ls3]
  refine lp 2 rfl (v := ?_) (fun w => ?_) (fun _ => HS.out) ?_
  rotate_left
  ·first | (go_simp; done) | (go_simp; with_reducible rfl)
  simp only [Act.put, ls1, ls2, ls3]
  refine lp 3 rfl (v := ?_) (fun w => ?_) (fun _ => HS.out) ?_
  rotate_left
  ·first | (go_simp; done) | (go_simp; with_reducible rfl)
  simp only [Act.put, ls1, ls2, ls3]
  refine lp 4 rfl (v := ?_) (fun w => ?_) (fun _ => HS.out) ?_
  rotate_left
  ·first | (go_simp; done) | (go_simp; with_reducible rfl)
  simp only [Act.put, ls1, ls2, ls3]
  refine lp 5 rfl (v := ?_) (fun w => ?_) (fun _ => HS.out) ?_
  rotate_left
  ·first | (go_simp; done) | (go_simp; with_reducible rfl)
  simp only [Act.put, ls1, ls2, ls3]
  refine lp 6 rfl (v := ?_) (fun w => ?_) (fun _ => HS.out) ?_
  rotate_left
  ·first | (go_simp; done) | (go_simp; with_reducible rfl)
  simp only [Act.put, ls1, ls2, ls3]
  refine lq 7 [9, 10, 11, 12] rfl (yi_rowO rfl rfl rfl (fun w hS => HQG.out w hS.up) ent_rowR) HS.out ?_
  simp only [Act.put, ls1, ls2, ls3]
  refine lq 8 [9, 10, 11, 12] rfl (yi_row rfl rfl rfl (fun w hS => OW.range hS (i := 0) rfl) ent_rowR) HS.out ?_
  simp only [Act.put, ls1, ls2, ls3]
  refine lt_call 9 rfl (by kernel_rfl) rfl rfl ⟨_, Tryz.func93, by decide, by kernel_rfl⟩ [.agg #[.slice q.A q.e.row.length q.c, .int .i64 q.e.fam, .slice q.B q.e.qual.length q.d, .int .i64 q.e.ts, .int .i64 q.e.seq, .int .i64 q.e.kind, .slice q.D q.e.val.length q.q], .agg #[.slice r.A r.e.row.length r.c, .int .i64 r.e.fam, .slice r.B r.e.qual.length r.d, .int .i64 r.e.ts, .int .i64 r.e.seq, .int .i64 r.e.kind, .slice r.D r.e.val.length r.q]] rfl ?_
  refine (compare_any q.e r.e q.A _ q.c q.B _ q.d q.D _ q.q r.A _ r.c r.B _ r.d r.D _ r.q _ (HQN.out _ HS.out.up) (HEN.out _ HS.out.up)).mono ?_
  rw [HCV.out]
  rintro rr z9 ⟨rfl, hb⟩
  replace HS := Lib.hid (HS.out.later hb)
  clear hb
  refine ⟨_, rfl, fun _ => HS.out, ?_⟩
  simp only [Act.put, ls1, ls2, ls3]
  refine lp 10 rfl (v := ?_) (fun w => ?_) (fun _ => HS.out) ?_
  rotate_left
  ·first | (go_simp; done) | (go_simp; with_reducible rfl)
  simp only [Act.put, ls1, ls2, ls3]
  refine lp 11 rfl (v := ?_) (fun w => ?_) (fun _ => HS.out) ?_
  rotate_left
  ·first | (go_simp; done) | (go_simp; with_reducible rfl)
  simp only [Act.put, ls1, ls2, ls3]
  refine lp 12 rfl (v := ?_) (fun w => ?_) (fun _ => HS.out) ?_
  rotate_left
  ·first | (go_simp; done) | (go_simp; with_reducible rfl)
  simp only [Act.put, ls1, ls2, ls3]
  refine lt_done (by kernel_rfl) ?_
  have HY3 := Lib.hid HS.out
  clear HS HY
  by_cases hcv : 0 ≤ cv
  case pos =>
   have e5 : decide (cv ≥ 0) = true := decide_eq_true hcv
   have e6 : decide (0 ≤ cv) = true := decide_eq_true hcv
   have HKK : Hid (K = 30) := Lib.hid (by rw [HST4.out, if_pos hcv])
   go_wp2_with fail
   go_ret
   exact ⟨by rw [HKK.out]; rfl, HY3.out.up⟩
  have e5 : decide (cv ≥ 0) = false := decide_eq_false (by omega)
  have e6 : decide (0 ≤ cv) = false := decide_eq_false hcv
  have HKK : Hid (lookD ix L (i + 1) = K) := Lib.hid (by rw [HST4.out, if_neg hcv])
  go_wp2_with fail
  go_roundw
  case rel => exact ⟨i + 1, by omega, by go_num, HKK, Lib.hid (HY3.out.erase 0)⟩
  case measure => simp [intOf]; omega
theorem write_no {o : OptR} {L : List Ent} {k : Int} (h : refuseR o L = k) (hk : k ≠ 0) : writeR o L = ([], k) := by
  unfold writeR; rw [h, if_pos hk]
theorem opt_no {o : OptR} {L : List Ent} (h : optOk o = false) : writeR o L = ([], 74) := write_no (by unfold refuseR; rw [if_pos h]) (by decide)
theorem nil_no {o : OptR} {L : List Ent} (h : optOk o = true) (hL : L = []) : writeR o L = ([], 71) := write_no (by unfold refuseR; rw [if_neg (by rw [h]; decide), if_pos hL]) (by decide)
theorem look_no {o : OptR} {L : List Ent} {k : Int} (h : optOk o = true) (hL : L ≠ []) (hk : lookE o.index none L = k) (h0 : k ≠ 0) : writeR o L = ([], k) := write_no (by unfold refuseR; rw [if_neg (by rw [h]; decide), if_neg hL, hk]) h0
theorem refuse_none {o : OptR} {L : List Ent} (h : optOk o = true) (hL : L ≠ []) (hk : lookE o.index none L = 0) : refuseR o L = 0 := by unfold refuseR; rw [if_neg (by rw [h]; decide), if_neg hL, hk]
theorem wlong_no {o : OptR} {L : List Ent} (h : refuseR o L = 0) (hl : 16777216 < (runBy o L).length) : writeR o L = ([], 2) := by unfold writeR; rw [if_neg (fun hh => hh h), if_pos hl]
theorem write_ok {o : OptR} {L : List Ent} (h : refuseR o L = 0) (hl : ¬ 16777216 < (runBy o L).length) : writeR o L = (runBy o L, 0) := by unfold writeR; rw [if_neg (fun hh => hh h), if_neg hl]
theorem take_more {L : List Ent} {i j : Nat} {e : Ent} (hij : i ≤ j) (h : L[j]? = some e) : (L.drop i).take (j + 1 - i) = (L.drop i).take (j - i) ++ [e] := by
  have h1 : (L.drop i)[j - i]? = some e := by rw [List.getElem?_drop, show i + (j - i) = j from by omega]; exact h
  rw [show j + 1 - i = (j - i) + 1 from by omega]
  exact take_snoc h1
theorem drop_one {L : List Ent} {j : Nat} {e : Ent} (h : L[j]? = some e) : L.drop j = e :: L.drop (j + 1) := by
  obtain ⟨hi, he⟩ := List.getElem?_eq_some_iff.1 h
  rw [← he]; exact List.drop_eq_getElem_cons hi
theorem asc_mid {L : List Ent} (h : AscE L) (i k : Nat) : AscE ((L.drop i).take k) := h.sublist ((List.take_sublist _ _).trans (List.drop_sublist _ _))
theorem add_fits {t : Nat} {now : List Ent} {e : Ent} (ht : t ≤ 65536) (hs : ¬ fullR t now) (he : checkE e = 0) (ha : AscE (now ++ [e])) : addC 16 now e = 0 := by
  have ho := ok_of he
  unfold addC
  rw [if_neg (by simp [he]), if_neg (by rw [lastOk_of ha]; decide), if_neg]
  rw [size_step]
  have h1 := (alike_le 16 (runB 16 now) (keyE e)).2
  have h2 := rowK_le h1 (keyE_len ho) ho.val.1
  have h3 : sizeS (runB 16 now) ≤ 65536 := by
    by_cases hn : now = []
    · rw [hn]; decide
    · have := Nat.lt_of_not_le fun h => hs ⟨hn, h⟩; omega
  split <;> omega
theorem add_list {R : Nat} {now : List Ent} {e : Ent} (h : addC R now e = 0) : addL R now e = now ++ [e] := by unfold addL; rw [if_pos h]
theorem keyB_le {c : List Ent} (h : ChOk c) : (keyB (firstK c)).length ≤ 1058 ∧ (keyB (lastK c)).length ≤ 1058 := by
  obtain ⟨a, _, ma, e1⟩ := h.first
  obtain ⟨b, _, mb, e2⟩ := h.last
  have ka := keyE_len (ok_of (h.chk a ma))
  have kb := keyE_len (ok_of (h.chk b mb))
  rw [keyB_len, keyB_len, e1, e2]
  have h1 := uintB_10 (v := (keyE a).length) (by omega)
  have h2 := uintB_10 (v := (keyE b).length) (by omega)
  omega
theorem partsR_le : ∀ {cs : List (List Ent)}, (∀ c, c ∈ cs → ChOk c) → (partsR cs).length ≤ 2200 * cs.length
  | [], _ => Nat.le_refl _
  | c :: cs, h => by
    have hc := h c (.head _)
    have h1 := partsR_le fun d hd => h d (.tail _ hd)
    have h2 := keyB_le hc
    have h3 := build_len hc.bld hc.ne
    have h4 := uintB_10 (v := (layB 16 c).length) (by omega)
    rw [partsR_cons, List.length_append, List.length_cons]
    unfold partR
    rw [List.length_append, List.length_append]
    omega
theorem headR_app (a b : List (List Ent)) : headR (a ++ b) = headR a ++ blocksR b := by unfold headR blocksR; rw [List.flatMap_append, List.append_assoc]
theorem headR_snoc (a : List (List Ent)) (c : List Ent) : headR (a ++ [c]) = headR a ++ layB 16 c := by rw [headR_app]; unfold blocksR; simp
theorem runC_head (o : OptR) (L : List Ent) (cs : List (List Ent)) : (headR cs).length ≤ (runC o L cs).length := by
  unfold runC; simp only [List.length_append]; omega
theorem nums_val (o : OptR) (L : List Ent) (cs : List (List Ent)) : numsR o L cs = [L.length, o.index.toNat, o.low.toNat, o.clock.toNat, cs.length, (headR cs).length, (headR cs ++ sumdB (filtR o L)).length] := rfl
theorem risBs_take {ns : List Nat} {k v : Nat} (h : ns[k]? = some v) : risBs (ns.take (k + 1)) = risBs (ns.take k) ++ risB v := by
  rw [take_snoc h, risBs_app]; unfold risBs; simp
theorem filt_len {o : OptR} {L : List Ent} (h : optOk o = true) (hn : L.length ≤ 1000000) : (filtR o L).length ≤ 3000000 := by
  obtain ⟨⟨b1, b2, b3, b4⟩, _⟩ := optOk.iff h
  unfold filtR
  split
  · have h0 : buildE o.bits (rowsE L) = 0 := by unfold buildE; rw [if_neg (by omega), if_neg (by have := rowsE_le L; omega)]
    rw [buildB_length]
    have := buildM_le h0
    omega
  · exact Nat.zero_le _
def pcsG (done : List PcR) (r : Option (List PcR × Nat × Nat)) : Option (List PcR × Nat × Nat) := match r with
  | none => none
  | some (l, q) => some (done ++ l, q)
def lastB (done : List PcR) : Option (List UInt8) := done.getLast?.map PcR.b
theorem pcsG_nil (r : Option (List PcR × Nat × Nat)) : pcsG [] r = r := by
  cases r with
  | none => rfl
  | some v => rfl
theorem pcsF_none {x : List UInt8} {end' n p at' : Nat} {prev : Option (List UInt8)} (h : pc1 x p at' end' prev = none) : pcsF x end' (n + 1) p at' prev = none := by
  show (match pc1 x p at' end' prev with
    | none => none
    | some (c, q) => match pcsF x end' n q c.hi (some c.b) with
      | none => none
      | some (l, r) => some (c :: l, r)) = none
  rw [h]
theorem pcsF_some {x : List UInt8} {end' n p at' q : Nat} {prev : Option (List UInt8)} {c : PcR} (h : pc1 x p at' end' prev = some (c, q)) (done : List PcR) : pcsG done (pcsF x end' (n + 1) p at' prev) = pcsG (done ++ [c]) (pcsF x end' n q c.hi (some c.b)) := by
  have h1 : pcsF x end' (n + 1) p at' prev = (match pcsF x end' n q c.hi (some c.b) with
      | none => none
      | some (l, r) => some (c :: l, r)) := by
    show (match pc1 x p at' end' prev with
      | none => none
      | some (c, q) => match pcsF x end' n q c.hi (some c.b) with
        | none => none
        | some (l, r) => some (c :: l, r)) = _
    rw [h]
  rw [h1]
  cases pcsF x end' n q c.hi (some c.b) with
  | none => rfl
  | some v => obtain ⟨l, r⟩ := v; show some (done ++ c :: l, r) = some ((done ++ [c]) ++ l, r); rw [List.append_assoc]; rfl
theorem readU_le (l : List UInt8) (a : Int) : (readU l a).2.1 ≤ l.length := by
  by_cases h : (readU l a).2.2 = 0
  · exact (readU_end l a h).1
  · unfold readU at h ⊢
    split
    · exact Nat.zero_le _
    · rename_i h1
      split
      · rename_i h2
        rw [if_neg h1, if_pos h2] at h
        exact absurd rfl h
      · exact Nat.zero_le _
theorem pc1_by {x a b : List UInt8} {p at' end' p1 e1 p2 e2 sz p3 e3 : Nat} {prev : Option (List UInt8)} (h1 : readBy x (p : Int) (x.length : Int) = (a, p1, e1)) (h2 : readBy x (p1 : Int) (x.length : Int) = (b, p2, e2)) (h3 : readU x (p2 : Int) = (sz, p3, e3)) :
    pc1 x p at' end' prev = if e1 ≠ 0 then none else if e2 ≠ 0 then none else if e3 ≠ 0 then none else if sz = 0 ∨ end' - at' < sz then none else if (ParseKeyE a).2 ≠ 0 ∨ (ParseKeyE b).2 ≠ 0 ∨ 0 < cmpB a b then none else if behR prev a = true then none else some (⟨a, b, at', at' + sz⟩, p3) := by
  unfold pc1
  rw [h1]
  dsimp only
  rw [h2]
  dsimp only
  rw [h3]
def idxOk (x : List UInt8) (end' : Nat) (r : Option (List PcR × Nat × Nat)) : Option (List PcR) := match r with
  | none => none
  | some (l, p, at') => if p = x.length ∧ at' = end' then some l else none
theorem pcsO_by {x : List UInt8} {n end' v p e : Nat} (h : readU x 0 = (v, p, e)) : pcsO x n end' = if e ≠ 0 ∨ v ≠ n then none else idxOk x end' (pcsF x end' n p 8 none) := by
  unfold pcsO; rw [h]; rfl
theorem pc1_far {x : List UInt8} {p at' end' q : Nat} {prev : Option (List UInt8)} {c : PcR} (h : pc1 x p at' end' prev = some (c, q)) : p < q ∧ q ≤ x.length := by
  obtain ⟨a, p1, e1, h1⟩ : ∃ a p1 e1, readBy x (p : Int) (x.length : Int) = (a, p1, e1) := ⟨_, _, _, rfl⟩
  obtain ⟨b, p2, e2, h2⟩ : ∃ b p2 e2, readBy x (p1 : Int) (x.length : Int) = (b, p2, e2) := ⟨_, _, _, rfl⟩
  obtain ⟨sz, p3, e3, h3⟩ : ∃ v p3 e3, readU x (p2 : Int) = (v, p3, e3) := ⟨_, _, _, rfl⟩
  rw [pc1_by h1 h2 h3] at h
  split at h
  · cases h
  rename_i g1
  split at h
  · cases h
  rename_i g2
  split at h
  · cases h
  rename_i g3
  split at h
  · cases h
  split at h
  · cases h
  split at h
  · cases h
  injection h with h
  injection h with _ h
  subst h
  have k1 := readBy_end x p (x.length : Int) (by rw [h1]; exact Decidable.byContradiction g1)
  have k2 := readBy_end x p1 (x.length : Int) (by rw [h2]; exact Decidable.byContradiction g2)
  have k3 := readU_end x (p2 : Int) (by rw [h3]; exact Decidable.byContradiction g3)
  rw [h1] at k1
  rw [h2] at k2
  rw [h3] at k3
  have m1 : p < p1 := k1.2.2.2.1
  have m2 : p1 < p2 := k2.2.2.2.1
  have m3 : p2 < p3 := k3.2.2
  have m4 : p3 ≤ x.length := k3.1
  omega
theorem pcsF_len {x : List UInt8} {end' : Nat} : ∀ {n p at' : Nat} {prev : Option (List UInt8)} {l : List PcR} {q a : Nat}, pcsF x end' n p at' prev = some (l, q, a) → l.length = n ∧ p + n ≤ q
  | 0, p, at', prev, l, q, a, h => by
    have h : some (([] : List PcR), p, at') = some (l, q, a) := h
    injection h with h; injection h with h1 h; injection h with h2 h3
    subst h1 h2; exact ⟨rfl, Nat.le_refl _⟩
  | n + 1, p, at', prev, l, q, a, h => by
    have h : (match pc1 x p at' end' prev with
      | none => none
      | some (c, q) => match pcsF x end' n q c.hi (some c.b) with
        | none => none
        | some (l, r) => some (c :: l, r)) = some (l, q, a) := h
    cases hc : pc1 x p at' end' prev with
    | none => rw [hc] at h; cases h
    | some v =>
      obtain ⟨c, q0⟩ := v
      rw [hc] at h
      dsimp only at h
      cases hf : pcsF x end' n q0 c.hi (some c.b) with
      | none => rw [hf] at h; cases h
      | some v =>
        obtain ⟨l0, q1, a1⟩ := v
        rw [hf] at h
        injection h with h; injection h with h1 h; injection h with h2 h3
        subst h1 h2
        have ih := pcsF_len hf
        have hfar := (pc1_far hc).1
        rw [List.length_cons]
        omega
theorem pcsO_len {x : List UInt8} {n end' : Nat} {l : List PcR} (h : pcsO x n end' = some l) : l.length = n ∧ n ≤ x.length := by
  obtain ⟨v, p, e, hr⟩ : ∃ v p e, readU x 0 = (v, p, e) := ⟨_, _, _, rfl⟩
  rw [pcsO_by hr] at h
  split at h
  · cases h
  cases hf : pcsF x end' n p 8 none with
  | none => rw [hf] at h; cases h
  | some v =>
    obtain ⟨l0, q, a⟩ := v
    rw [hf] at h
    have h : (if q = x.length ∧ a = end' then some l0 else none) = some l := h
    split at h
    · rename_i hh
      injection h with h
      subst h
      have := pcsF_len hf
      omega
    · cases h
theorem openP_no {b : List UInt8} (h : numsO b = none) : openP b = none := by
  unfold openP
  split
  · rfl
  · rw [h]
theorem openP_pre {b : List UInt8} (h : b.take 8 ≠ magR) : openP b = none := by unfold openP; rw [if_pos h]
theorem openP_is {b f : List UInt8} (h : b.take 8 = magR) (hf : footO b = some f) (ha : allOk f = true) : openP b = openN b [numAt f 0, numAt f 1, numAt f 2, numAt f 3, numAt f 4, numAt f 5, numAt f 6] := by
  unfold openP
  rw [if_neg (fun hh => hh h)]
  unfold numsO
  rw [hf]
  dsimp only
  rw [ha]
  rfl
theorem openN_is {b : List UInt8} (count index low clock blocks fAt iAt : Nat) : openN b [count, index, low, clock, blocks, fAt, iAt] =
    if sealI index low clock = false ∨ blocks < 1 ∨ count < blocks then none
    else if fAt < 8 ∨ iAt < fAt + 4 ∨ b.length < iAt + 72 then none
    else if unsB (cutS b fAt (iAt - fAt)) = false ∨ unsB (cutS b iAt (b.length - 68 - iAt)) = false then none
    else if cutS b fAt (iAt - fAt - 4) ≠ [] ∧ isF (cutS b fAt (iAt - fAt - 4)) = false then none
    else match pcsO (cutS b iAt (b.length - 72 - iAt)) blocks fAt with
      | none => none
      | some l => some ⟨b, count, index, low, clock, cutS b fAt (iAt - fAt - 4), l⟩ := rfl
theorem openN_many {b : List UInt8} {count index low clock blocks fAt iAt : Nat} (h : b.length < blocks) : openN b [count, index, low, clock, blocks, fAt, iAt] = none := by
  rw [openN_is]
  split
  · rfl
  split
  · rfl
  split
  · rfl
  split
  · rfl
  split
  · rfl
  rename_i l hl
  have h1 := (pcsO_len hl).2
  have h2 : (cutS b iAt (b.length - 72 - iAt)).length ≤ b.length := by unfold cutS; rw [List.length_take, List.length_drop]; omega
  omega
theorem openR_none {b : List UInt8} (hl : b.length ≤ 16777216) (h : openP b = none) : openR7 b = (none, 72) := by unfold openR7; rw [if_neg (by omega), h]
theorem openR_some {b : List UInt8} {r : RunR} (hl : b.length ≤ 16777216) (h : openP b = some r) : openR7 b = (some r, 0) := by unfold openR7; rw [if_neg (by omega), h]
theorem openR_long {b : List UInt8} (hl : 16777216 < b.length) : openR7 b = (none, 2) := by unfold openR7; rw [if_pos hl]
structure PcIn (a z : Nat) (p : PcR) : Prop where
  lo : a ≤ p.lo
  mid : p.lo < p.hi
  hi : p.hi ≤ z
  ka : (ParseKeyE p.a).2 = 0
  kb : (ParseKeyE p.b).2 = 0
theorem PcIn.wide {a a' z : Nat} {p : PcR} (h : PcIn a z p) (ha : a' ≤ a) : PcIn a' z p := ⟨Nat.le_trans ha h.lo, h.mid, h.hi, h.ka, h.kb⟩
theorem pc1_in {x : List UInt8} {p at' end' q : Nat} {prev : Option (List UInt8)} {c : PcR} (h : pc1 x p at' end' prev = some (c, q)) : PcIn at' end' c ∧ c.lo = at' := by
  obtain ⟨a, p1, e1, h1⟩ : ∃ a p1 e1, readBy x (p : Int) (x.length : Int) = (a, p1, e1) := ⟨_, _, _, rfl⟩
  obtain ⟨b, p2, e2, h2⟩ : ∃ b p2 e2, readBy x (p1 : Int) (x.length : Int) = (b, p2, e2) := ⟨_, _, _, rfl⟩
  obtain ⟨sz, p3, e3, h3⟩ : ∃ s p3 e3, readU x (p2 : Int) = (s, p3, e3) := ⟨_, _, _, rfl⟩
  rw [pc1_by h1 h2 h3] at h
  split at h
  · cases h
  split at h
  · cases h
  split at h
  · cases h
  split at h
  · cases h
  rename_i hs
  split at h
  · cases h
  rename_i hk
  split at h
  · cases h
  injection h with h
  injection h with h _
  subst h
  have hk1 : (ParseKeyE a).2 = 0 := Decidable.byContradiction fun hh => hk (.inl hh)
  have hk2 : (ParseKeyE b).2 = 0 := Decidable.byContradiction fun hh => hk (.inr (.inl hh))
  exact ⟨⟨Nat.le_refl _, by show at' < at' + sz; omega, by show at' + sz ≤ end'; omega, hk1, hk2⟩, rfl⟩
theorem pcsF_in {x : List UInt8} {end' : Nat} : ∀ {n p at' : Nat} {prev : Option (List UInt8)} {l : List PcR} {r : Nat × Nat}, pcsF x end' n p at' prev = some (l, r) → ∀ c ∈ l, PcIn at' end' c
  | 0, _, _, _, l, r, h, c, hc => by
    injection h with h
    injection h with h _
    subst h
    cases hc
  | n + 1, p, at', prev, l, r, h, c, hc => by
    cases h1 : pc1 x p at' end' prev with
    | none => rw [pcsF_none h1] at h; cases h
    | some v =>
      obtain ⟨c1, q⟩ := v
      have h2 := pcsF_some (n := n) h1 []
      rw [pcsG_nil, h] at h2
      have h3 := pc1_in h1
      cases h4 : pcsF x end' n q c1.hi (some c1.b) with
      | none => rw [h4] at h2; cases h2
      | some v2 =>
        obtain ⟨l2, r2⟩ := v2
        rw [h4] at h2
        injection h2 with h2
        injection h2 with h2 _
        subst h2
        rcases List.mem_append.1 hc with hc | hc
        · rcases List.mem_cons.1 hc with rfl | hc
          · exact h3.1
          · cases hc
        · exact (pcsF_in h4 c hc).wide (by have := h3.1.mid; have := h3.1.lo; omega)
theorem pcsO_in {x : List UInt8} {n end' : Nat} {l : List PcR} (h : pcsO x n end' = some l) : ∀ c ∈ l, PcIn 8 end' c := by
  intro c hc
  unfold pcsO at h
  split at h
  · cases h
  split at h
  · cases h
  rename_i l' p at' hp
  split at h
  · injection h with h
    subst h
    exact pcsF_in hp c hc
  · cases h
theorem openR7_in {b : List UInt8} {r : RunR} (h : openR7 b = (some r, 0)) : r.bytes = b ∧ b.length ≤ 16777216 ∧ ∀ c ∈ r.ps, PcIn 8 b.length c := by
  unfold openR7 at h
  split at h
  · cases h
  rename_i hlen
  split at h
  · cases h
  rename_i r' hr
  injection h with h _
  injection h with h
  subst h
  unfold openP at hr
  split at hr
  · cases hr
  split at hr
  · cases hr
  rename_i ns hns
  unfold openN at hr
  split at hr
  · split at hr
    · cases hr
    split at hr
    · cases hr
    rename_i hb
    split at hr
    · cases hr
    split at hr
    · cases hr
    split at hr
    · cases hr
    rename_i l hl
    injection hr with hr
    subst hr
    refine ⟨rfl, by omega, fun c hc => ?_⟩
    have h1 := pcsO_in hl c hc
    exact ⟨h1.lo, h1.mid, by have := h1.hi; omega, h1.ka, h1.kb⟩
  · cases hr
structure PRec where
  A : Option Addr
  c : Nat
  B : Option Addr
  d : Nat
  p : PcR
def PRec.cells (r : PRec) : List Value := [.slice r.A r.p.a.length r.c, .slice r.B r.p.b.length r.d, .int .i64 r.p.lo, .int .i64 r.p.hi]
def PRec.obs (r : PRec) : List Ob := [bytO 5 (r.A, r.c, r.p.a), bytO 5 (r.B, r.d, r.p.b)]
theorem Tryz.partS : SliceOf Tryz.prog 133 137 4 64 := SliceOf.mk' (z := .agg #[.slice none 0 0, .slice none 0 0, .int .i64 0, .int .i64 0]) Tryz.underlying133 (by kernel_rfl) rfl (by decide)
theorem part_row : RowTy Tryz.prog 137 4 := ⟨⟨_, Tryz.underlying137, rfl⟩, by kernel_rfl⟩
theorem pflat_len (rs : List PRec) : (rs.flatMap PRec.cells).length = rs.length * 4 := by
  induction rs with
  | nil => rfl
  | cons r rs ih => rw [List.flatMap_cons, List.length_append, ih, List.length_cons]; show 4 + _ = _; omega
theorem pflat_at {rs : List PRec} {k j : Nat} {r : PRec} {v : Value} (hk : rs[k]? = some r) (hj : r.cells[j]? = some v) : (rs.flatMap PRec.cells)[k * 4 + j]? = some v := by
  have hj4 : j < 4 := (List.getElem?_eq_some_iff.1 hj).1
  induction rs generalizing k with
  | nil => cases hk
  | cons a rs ih =>
    cases k with
    | zero =>
      cases hk
      rw [List.flatMap_cons, List.getElem?_append_left (by show 0 * 4 + j < 4; omega), Nat.zero_mul, Nat.zero_add]; exact hj
    | succ k =>
      rw [List.flatMap_cons, List.getElem?_append_right (by show 4 ≤ (k + 1) * 4 + j; omega)]
      have : (k + 1) * 4 + j - a.cells.length = k * 4 + j := by show (k + 1) * 4 + j - 4 = _; omega
      rw [this]
      exact ih hk
theorem u64_of (v : Nat) (h : v ≤ 18446744073709551615) : IntKind.u64.wrap (v : Int) = (v : Int) := IntWalk.u64_in _ ⟨by omega, by omega⟩
theorem lastB_snoc (rs : List PRec) (r : PRec) : lastB ((rs ++ [r]).map PRec.p) = some r.p.b := by unfold lastB; rw [List.map_append]; simp
theorem idx_perm (a b : Ob) (X : List Ob) : ((a :: X) ++ [b]).Perm (a :: b :: X) := by (refine perm_of_cnt fun a => ?_; (simp only [cntO_app, cntO_cons, cntO_nil]) <;> omega)
theorem idx_perm2 (a b c : Ob) (X : List Ob) : ((a :: b :: X) ++ [c]).Perm (a :: b :: c :: X) := by (refine perm_of_cnt fun a => ?_; (simp only [cntO_app, cntO_cons, cntO_nil]) <;> omega)
theorem idx_fin (l b a c r : Ob) (X : List Ob) : (l :: b :: a :: c :: r :: X).Perm ((r :: (X ++ [a, c])) ++ [l, b]) := by (refine perm_of_cnt fun a => ?_; (simp only [cntO_app, cntO_cons, cntO_nil]) <;> omega)
theorem pcells_snoc (rs : List PRec) (r : PRec) : (rs ++ [r]).flatMap PRec.cells = rs.flatMap PRec.cells ++ r.cells := by rw [List.flatMap_append]; simp
theorem pobs_snoc (rs : List PRec) (r : PRec) : (rs ++ [r]).flatMap PRec.obs = rs.flatMap PRec.obs ++ r.obs := by rw [List.flatMap_append]; simp
theorem prow_cell {w x : World} {os : List Ob} {g m c k j : Nat} {rs : List PRec} {r : PRec} {v : Value} (h : OW w os x) (hm : rowO 137 4 (.slice (some ⟨g, 0, none⟩) m c) m (rs.flatMap PRec.cells) ∈ os) (hk : rs[k]? = some r) (hj : r.cells[j]? = some v) : x.cell? ⟨g, k * 4 + j, none⟩ = some v := by
  have h1 := h.rowm hm
  have h2 := Reads.own h1
  have hc := pflat_at hk hj
  have hpos : 0 < m := by
    have h3 := h1.1
    rw [pflat_len] at h3
    have := (List.getElem?_eq_some_iff.1 hk).1
    omega
  obtain ⟨b, o, he, _, hcell⟩ := h2.2 hpos
  injection he with he
  injection he with hb ho
  subst hb ho
  have := hcell _ _ hc
  rwa [Nat.zero_add] at this
structure RunRec where
  g : Nat
  gb : Nat
  cb : Nat
  PA : Option Addr
  pc : Nat
  f1 : PRec
  fn : PRec
  rs : List PRec
  ff : Nat
  r : RunR
def RunRec.cells (q : RunRec) : List Value := [.slice (some ⟨q.gb, 0, none⟩) q.r.bytes.length q.cb, .int .i64 0, .int .i64 q.r.count, .int .i64 q.r.index, .int .i64 q.r.low, .int .i64 q.r.clock, .int .i64 q.r.bytes.length, .slice q.f1.A q.f1.p.a.length q.f1.c, .slice q.fn.B q.fn.p.b.length q.fn.d, .slice q.PA q.rs.length q.pc, .slice (some ⟨q.gb, q.ff, none⟩) q.r.filt.length (q.cb - q.ff)]
def RunRec.obs (q : RunRec) : List Ob := boxO q.g q.cells :: bytO 5 (some ⟨q.gb, 0, none⟩, q.cb, q.r.bytes) :: rowO 137 4 (.slice q.PA q.rs.length q.pc) q.rs.length (q.rs.flatMap PRec.cells) :: q.rs.flatMap PRec.obs
structure RunRec.Ok (q : RunRec) : Prop where
  ps : q.rs.map PRec.p = q.r.ps
  first : q.rs[0]? = some q.f1
  last : q.rs[q.rs.length - 1]? = some q.fn
  filt : q.r.filt = cutS q.r.bytes q.ff q.r.filt.length ∧ q.ff + q.r.filt.length ≤ q.r.bytes.length ∧ q.ff < q.r.bytes.length
  len : q.r.bytes.length ≤ 16777216
theorem run_row : RowTy Tryz.prog 47 8 := ⟨⟨_, Tryz.underlying47, rfl⟩, by kernel_rfl⟩
def RunAt (q : RunRec) (x : World) : Prop := q.Ok ∧ ∃ w, OW w q.obs x
theorem RunAt.later {q : RunRec} {x y : World} (h : RunAt q x) (hb : Below x.heap.size x y) : RunAt q y := by
  obtain ⟨h1, w, h2⟩ := h
  exact ⟨h1, w, h2.later hb⟩
theorem RunAt.cell {q : RunRec} {x : World} {j : Nat} {v : Value} (h : RunAt q x) (hv : q.cells[j]? = some v) : x.cell? ⟨q.g, j, none⟩ = some v := by
  obtain ⟨_, w, h2⟩ := h
  exact h2.cell (i := 0) rfl hv
def RunRec.meta (q : RunRec) : List Value := [.int .i64 0, .int .i64 q.r.count, .int .i64 q.r.index, .int .i64 q.r.low, .int .i64 q.r.clock, .int .i64 q.r.bytes.length, .slice q.f1.A q.f1.p.a.length q.f1.c, .slice q.fn.B q.fn.p.b.length q.fn.d]
theorem RunAt.metaR {q : RunRec} {x : World} (h : RunAt q x) : x.rangeAt q.g 1 q.meta := by
  obtain ⟨_, w, h2⟩ := h
  exact h2.part (i := 0) rfl 1 8
theorem RunAt.bytes {q : RunRec} {x : World} (h : RunAt q x) : Sl x (some ⟨q.gb, 0, none⟩) q.r.bytes.length q.cb q.r.bytes := by
  obtain ⟨_, w, h2⟩ := h
  exact h2.sl (i := 1) rfl rfl
theorem RunAt.recm {q : RunRec} {x : World} {r : PRec} {k : Nat} (h : RunAt q x) (hr : q.rs[k]? = some r) : Sl x r.A r.p.a.length r.c r.p.a ∧ Sl x r.B r.p.b.length r.d r.p.b := by
  obtain ⟨_, w, h2⟩ := h
  have hm := List.mem_of_getElem? hr
  constructor
  · exact h2.slm (T := 5) (by unfold RunRec.obs; exact List.mem_cons_of_mem _ (List.mem_cons_of_mem _ (List.mem_cons_of_mem _ (List.mem_flatMap.2 ⟨r, hm, by simp [PRec.obs]⟩)))) rfl
  · exact h2.slm (T := 5) (by unfold RunRec.obs; exact List.mem_cons_of_mem _ (List.mem_cons_of_mem _ (List.mem_cons_of_mem _ (List.mem_flatMap.2 ⟨r, hm, by simp [PRec.obs]⟩)))) rfl
theorem RunAt.firstS {q : RunRec} {x : World} (h : RunAt q x) : Sl x q.f1.A q.f1.p.a.length q.f1.c q.f1.p.a := (h.recm h.1.first).1
theorem RunAt.lastS {q : RunRec} {x : World} (h : RunAt q x) : Sl x q.fn.B q.fn.p.b.length q.fn.d q.fn.p.b := (h.recm h.1.last).2
def MetaP (q : RunRec) (w : World) (e : Ending) (z : World) : Prop :=
  ∃ A c B d, e = .returned (.agg #[.int .i64 0, .int .i64 q.r.count, .int .i64 q.r.index, .int .i64 q.r.low, .int .i64 q.r.clock, .int .i64 q.r.bytes.length, .slice A q.f1.p.a.length c, .slice B q.fn.p.b.length d]) ∧ OW w [bytO 5 (A, c, q.f1.p.a), bytO 5 (B, d, q.fn.p.b)] z
set_option maxRecDepth 1000000 in
set_option maxHeartbeats 4000000 in
theorem meta_any (q : RunRec) (w : World) (h : RunAt q w) (hk : q.f1.p.a.length ≤ 100000000 ∧ q.fn.p.b.length ≤ 100000000) :
  Calls Tryz.prog 28 #[.pointer (some ⟨q.g, 0, none⟩)] w (MetaP q w) := by
 have HR : Hid (∀ z, Below w.heap.size w z → z.rangeAt q.g 1 q.meta) := Lib.hid fun z hz => (h.later hz).metaR
 have HS1 : Hid (∀ z, Below w.heap.size w z → Sl z q.f1.A q.f1.p.a.length q.f1.c q.f1.p.a) := Lib.hid fun z hz => (h.later hz).firstS
 have HS2 : Hid (∀ z, Below w.heap.size w z → Sl z q.fn.B q.fn.p.b.length q.fn.d q.fn.p.b) := Lib.hid fun z hz => (h.later hz).lastS
 have HK := Lib.hid hk
 have HP : Hid (∀ e z, (∃ A c B d, e = Ending.returned (.agg #[.int .i64 0, .int .i64 q.r.count, .int .i64 q.r.index, .int .i64 q.r.low, .int .i64 q.r.clock, .int .i64 q.r.bytes.length, .slice A q.f1.p.a.length c, .slice B q.fn.p.b.length d]) ∧ OW w [bytO 5 (A, c, q.f1.p.a), bytO 5 (B, d, q.fn.p.b)] z) → MetaP q w e z) := Lib.hid fun e z h => h
 unfold RunRec.meta at HR
 clear h hk
 obtain ⟨g, hg⟩ : ∃ g, g = q.g := ⟨_, rfl⟩
 obtain ⟨f1, hf1⟩ : ∃ g, g = q.f1 := ⟨_, rfl⟩
 obtain ⟨fn, hfn⟩ : ∃ g, g = q.fn := ⟨_, rfl⟩
 obtain ⟨bl, hbl⟩ : ∃ g, g = q.r.bytes.length := ⟨_, rfl⟩
 obtain ⟨q0, hq0⟩ : ∃ g, g = q.r.count := ⟨_, rfl⟩
 obtain ⟨q1, hq1⟩ : ∃ g, g = q.r.index := ⟨_, rfl⟩
 obtain ⟨q2, hq2⟩ : ∃ g, g = q.r.low := ⟨_, rfl⟩
 obtain ⟨q3, hq3⟩ : ∃ g, g = q.r.clock := ⟨_, rfl⟩
 simp only [← hg, ← hf1, ← hfn, ← hbl, ← hq0, ← hq1, ← hq2, ← hq3] at HR HS1 HS2 HK HP ⊢
 obtain ⟨MP, hMP⟩ : ∃ m, m = MetaP q w := ⟨_, rfl⟩
 rw [← hMP] at HP ⊢
 clear hg hf1 hfn hbl hq0 hq1 hq2 hq3 hMP
 obtain ⟨a1, hA1⟩ : ∃ g, g = f1.p.a.length := ⟨_, rfl⟩
 obtain ⟨b1, hB1⟩ : ∃ g, g = fn.p.b.length := ⟨_, rfl⟩
 rw [← hA1] at HR HS1 HK HP
 rw [← hB1] at HR HS2 HK HP
 have HL1 := Lib.hid hA1.symm
 have HL2 := Lib.hid hB1.symm
 clear hA1 hB1
 have HX := Lib.hid (OW.nil w)
 go_enter Tryz.func28, Tryz.ntmps28
 go_upto_region 2 with (first
  | (refine wl_alloc rfl rfl [.int .i64 0, .int .i64 0, .int .i64 0, .int .i64 0, .int .i64 0, .int .i64 0, .slice none 0 0, .slice none 0 0] (.inl (by kernel_rfl)) HX.out ?_; intro g2 x2 hz _; have HX2 : Hid (OW w [boxO g2 [.int .i64 0, .int .i64 0, .int .i64 0, .int .i64 0, .int .i64 0, .int .i64 0, .slice none 0 0, .slice none 0 0]] x2) := Lib.hid hz; clear hz HX)
  | (refine wl_alloc rfl rfl [.int .i64 0, .int .i64 0, .int .i64 0, .int .i64 0, .int .i64 0, .int .i64 0, .slice none 0 0, .slice none 0 0] (.inl (by kernel_rfl)) HX2.out ?_; intro g3 x3 hz _; have HX3 : Hid (OW w [boxO g2 [.int .i64 0, .int .i64 0, .int .i64 0, .int .i64 0, .int .i64 0, .int .i64 0, .slice none 0 0, .slice none 0 0], boxO g3 [.int .i64 0, .int .i64 0, .int .i64 0, .int .i64 0, .int .i64 0, .int .i64 0, .slice none 0 0, .slice none 0 0]] x3) := Lib.hid hz; clear hz HX2)
  | (refine wl_rowR rfl 47 (.tmp 6) rfl rfl (HR.out _ HX2.out.up) run_row ?_)
  | (refine wl_put rfl (.tmp 3) (.tmp 7) rfl HX3.out 1 rfl rfl [.int .i64 0, .int .i64 q0, .int .i64 q1, .int .i64 q2, .int .i64 q3, .int .i64 bl, .slice f1.A a1 f1.c, .slice fn.B b1 fn.d] rfl rfl (by kernel_rfl) (by simp [Value.oneCell']) ?_; intro x4 hz _; have HX4 : Hid (OW w [boxO g2 [.int .i64 0, .int .i64 0, .int .i64 0, .int .i64 0, .int .i64 0, .int .i64 0, .slice none 0 0, .slice none 0 0], boxO g3 [.int .i64 0, .int .i64 q0, .int .i64 q1, .int .i64 q2, .int .i64 q3, .int .i64 bl, .slice f1.A a1 f1.c, .slice fn.B b1 fn.d]] x4) := Lib.hid hz; clear hz HX3))
 refine lt_start [7, 9] (by kernel_rfl) ?_
 intro xd hd
 refine ⟨fun z => OW w [boxO g2 [.int .i64 0, .int .i64 0, .int .i64 0, .int .i64 0, .int .i64 0, .int .i64 0, .slice none 0 0, .slice none 0 0], boxO g3 [.int .i64 0, .int .i64 q0, .int .i64 q1, .int .i64 q2, .int .i64 q3, .int .i64 bl, .slice f1.A a1 f1.c, .slice fn.B b1 fn.d]] z, ?_⟩
 have HX5 : Hid (OW w [boxO g2 [.int .i64 0, .int .i64 0, .int .i64 0, .int .i64 0, .int .i64 0, .int .i64 0, .slice none 0 0, .slice none 0 0], boxO g3 [.int .i64 0, .int .i64 q0, .int .i64 q1, .int .i64 q2, .int .i64 q3, .int .i64 bl, .slice f1.A a1 f1.c, .slice fn.B b1 fn.d]] xd) := Lib.hid (HX4.out.later hd)
 have HS := Lib.hid (HX4.out.later hd)
 refine lp 0 rfl (v := ?_) (fun w => ?_) (fun _ => HS.out) ?_
 rotate_left
 ·first | (go_simp; done) | (go_simp; with_reducible rfl)
 simp only [Act.put, ls1, ls2, ls3]
 refine lq 1 [2, 5, 6, 7, 8, 9] rfl (yi_cell rfl rfl rfl (fun w hS => OW.cell hS (i := 1) (j := 6) rfl rfl) (fun w => Tryz.isAgg34 w)) HS.out ?_
 simp only [Act.put, ls1, ls2, ls3]
 refine lp 3 rfl (v := ?_) (fun w => ?_) (fun _ => HS.out) ?_
 rotate_left
 ·first | (go_simp; done) | (go_simp; with_reducible rfl)
 simp only [Act.put, ls1, ls2, ls3]
 refine lq 4 [5, 6, 7, 8, 9] rfl (yi_cell rfl rfl rfl (fun w hS => OW.cell hS (i := 1) (j := 7) rfl rfl) (fun w => Tryz.isAgg34 w)) HS.out ?_
 simp only [Act.put, ls1, ls2, ls3]
 refine lt_call 2 rfl (by kernel_rfl) rfl rfl ⟨_, Tryz.func69, by decide, by kernel_rfl⟩ [.slice f1.A a1 f1.c] rfl ?_
 refine (clone_any f1.p.a f1.A a1 f1.c _ (by have := HK.out; omega) (HS1.out _ HS.out.up).nil (HS1.out _ HS.out.up).rb).mono ?_
 rintro e x5 hp
 obtain ⟨A5, c5, rfl, _, ho, hb⟩ := hp.at_ HL1.out
 replace HX5 := Lib.hid (HX5.out.app (OW.byt1 hb ho))
 replace HS := Lib.hid (HS.out.later hb)
 clear hp ho hb
 refine ⟨_, rfl, fun _ => HS.out, ?_⟩
 simp only [Act.put, ls1, ls2, ls3]
 refine lp 6 rfl (v := ?_) (fun w => ?_) (fun _ => HS.out) ?_
 rotate_left
 ·first | (go_simp; done) | (go_simp; with_reducible rfl)
 simp only [Act.put, ls1, ls2, ls3]
 refine lt_call 5 rfl (by kernel_rfl) rfl rfl ⟨_, Tryz.func69, by decide, by kernel_rfl⟩ [.slice fn.B b1 fn.d] rfl ?_
 refine (clone_any fn.p.b fn.B b1 fn.d _ (by have := HK.out; omega) (HS2.out _ HS.out.up).nil (HS2.out _ HS.out.up).rb).mono ?_
 rintro e x6 hp
 obtain ⟨A6, c6, rfl, _, ho, hb⟩ := hp.at_ HL2.out
 replace HX5 := Lib.hid (HX5.out.app (OW.byt1 hb ho))
 replace HS := Lib.hid (HS.out.later hb)
 clear hp ho hb
 refine ⟨_, rfl, fun _ => HS.out, ?_⟩
 simp only [Act.put, ls1, ls2, ls3]
 refine lt_end 7 rfl (by kernel_rfl) rfl (by kernel_rfl) ?_
 refine wpo_put1 rfl HX5.out 1 rfl 6 rfl (by simp) _ rfl (by kernel_rfl) rfl ?_
 intro x7 hz _
 replace HX5 := Lib.hid hz
 clear hz
 simp only [Act.put]
 refine lt_pureF 8 rfl (by kernel_rfl) (by kernel_rfl) (by kernel_rfl) (by kernel_rfl) (by kernel_rfl) (fun _ _ _ h => h) (v := ?_) (yi_run rfl (fun w => ?_)) ?_
 rotate_left
 ·first | (go_simp; done) | (go_simp; with_reducible rfl)
 simp only [Act.put, ls1, ls2, ls3]
 refine lt_end 9 rfl (by kernel_rfl) rfl (by kernel_rfl) ?_
 refine wpo_put1 rfl HX5.out 1 rfl 7 rfl (by simp) _ rfl (by kernel_rfl) rfl ?_
 intro x8 hz _
 replace HX5 := Lib.hid hz
 clear hz
 simp only [Act.put]
 refine lt_done (by kernel_rfl) ?_
 clear HS
 have HX8 : Hid (OW w [boxO g2 [.int .i64 0, .int .i64 0, .int .i64 0, .int .i64 0, .int .i64 0, .int .i64 0, .slice none 0 0, .slice none 0 0], boxO g3 [.int .i64 0, .int .i64 q0, .int .i64 q1, .int .i64 q2, .int .i64 q3, .int .i64 bl, .slice A5 a1 c5, .slice A6 b1 c6], bytO 5 (A5, c5, f1.p.a), bytO 5 (A6, c6, fn.p.b)] x8) := HX5
 clear HX5
 go_wp2_with (first
  | (refine wl_rowR rfl 47 (.tmp 3) rfl rfl (HX8.out.range (i := 1) rfl) run_row ?_)
  | (refine wl_put rfl (.tmp 2) (.tmp 16) rfl HX8.out 0 rfl rfl [.int .i64 0, .int .i64 q0, .int .i64 q1, .int .i64 q2, .int .i64 q3, .int .i64 bl, .slice A5 a1 c5, .slice A6 b1 c6] rfl rfl (by kernel_rfl) (by simp [Value.oneCell']) ?_; intro x9 hz _; have HX9 : Hid (OW w [boxO g2 [.int .i64 0, .int .i64 q0, .int .i64 q1, .int .i64 q2, .int .i64 q3, .int .i64 bl, .slice A5 a1 c5, .slice A6 b1 c6], boxO g3 [.int .i64 0, .int .i64 q0, .int .i64 q1, .int .i64 q2, .int .i64 q3, .int .i64 bl, .slice A5 a1 c5, .slice A6 b1 c6], bytO 5 (A5, c5, f1.p.a), bytO 5 (A6, c6, fn.p.b)] x9) := Lib.hid hz; clear hz))
 refine bodyPost_ret (results_rowL rfl _ _ g2 _ rfl (HX9.out.range (i := 0) rfl) (by kernel_rfl) (by kernel_rfl)) rfl ?_
 refine HP.out _ _ ⟨A5, c5, A6, c6, rfl, ?_⟩
 exact (HX9.out.erase 0).erase 0
end Go.Proofs.YtfdbcfaeiglbeaaGreatDoor
namespace Go.Proofs.YtfdbcfaeiglbeaaGreatDoor
def rq1 (b : List UInt8) (a : Nat) (key : List UInt8) : Option (Ent × List UInt8 × Nat) :=
  if (readU b (a : Nat)).2.2 ≠ 0 ∨ key.length < (readU b (a : Nat)).1 then none
  else if (readBy b (readU b (a : Nat)).2.1 (b.length : Nat)).2.2 ≠ 0 then none
  else if (readBy b (readBy b (readU b (a : Nat)).2.1 (b.length : Nat)).2.1 (b.length : Nat)).2.2 ≠ 0 then none
  else if (ParseKeyE (key.take (readU b (a : Nat)).1 ++ (readBy b (readU b (a : Nat)).2.1 (b.length : Nat)).1)).2 ≠ 0 then none
  else some ({ (ParseKeyE (key.take (readU b (a : Nat)).1 ++ (readBy b (readU b (a : Nat)).2.1 (b.length : Nat)).1)).1 with val := (readBy b (readBy b (readU b (a : Nat)).2.1 (b.length : Nat)).2.1 (b.length : Nat)).1 },
    key.take (readU b (a : Nat)).1 ++ (readBy b (readU b (a : Nat)).2.1 (b.length : Nat)).1, (readBy b (readBy b (readU b (a : Nat)).2.1 (b.length : Nat)).2.1 (b.length : Nat)).2.1)
section
variable {b key k2 v : List UInt8} {a u p1 e1 p2 e2 p3 e3 : Nat} {e : Ent} {f : Int}
end
theorem openE_ne {b : List UInt8} {L : List Ent} (h : (openE b).1 = some L) : L ≠ [] ∧ b.length ≤ 131072 := by
  obtain ⟨h1, _⟩ := openE_ok h
  obtain ⟨_, _, _, h4, h5, _⟩ := build_parts h1
  refine ⟨h4, ?_⟩
  unfold openE at h
  split at h
  · cases h
  · omega
end Go.Proofs.YtfdbcfaeiglbeaaGreatDoor
namespace Go.Proofs.YtfdbcfaeiglbeaaGreatDoor
open Go.RowKit
structure BlkF (p : PcR) (L : List Ent) : Prop where
  ne : L ≠ []
  chk : ∀ e, e ∈ L → checkE e = 0
  asc : AscE L
  fst : firstK L = p.a
  lst : lastK L = p.b
theorem blkR_facts {r : RunR} {p : PcR} {L : List Ent} (h : blkR r p = some L) : BlkF p L := by
  unfold blkR at h
  cases ho : openE (cutS r.bytes p.lo (p.hi - p.lo)) with
  | mk o k =>
    rw [ho] at h
    cases o with
    | none => cases h
    | some L' =>
      dsimp only at h
      split at h
      · rename_i hk
        injection h with h
        subst h
        have h1 : (openE (cutS r.bytes p.lo (p.hi - p.lo))).1 = some L' := by rw [ho]
        obtain ⟨hb, _⟩ := openE_ok h1
        obtain ⟨_, _, _, hne, _, hc⟩ := build_parts hb
        refine ⟨hne, hc, ?_, hk.1, hk.2⟩
        have ha := build_asc hb
        unfold Asc at ha
        rw [List.pairwise_map] at ha
        exact ha.imp_of_mem fun {a b} ma mb hab => by rwa [key_sorts (ok_of (hc a ma)) (ok_of (hc b mb))] at hab
      · cases h
def skipE (t : Ent) (L : List Ent) : List Ent := L.dropWhile fun x => decide (cmpE x t < 0)
def restF (r : RunR) : Option Ent → List PcR → List Ent × Bool
  | _, [] => ([], true)
  | sk, p :: l => match blkR r p with
    | none => ([], false)
    | some L => match sk with
      | none => (L ++ (restF r none l).1, (restF r none l).2)
      | some t => if skipE t L = [] then restF r (some t) l else (skipE t L ++ (restF r none l).1, (restF r none l).2)
theorem restF_all (r : RunR) : ∀ l : List PcR, restF r none l = allF r l
  | [] => rfl
  | p :: l => by
    unfold restF allF
    cases blkR r p with
    | none => rfl
    | some L => dsimp only; rw [restF_all r l]
theorem restF_bad {r : RunR} {sk : Option Ent} {p : PcR} {l : List PcR} (h : blkR r p = none) : restF r sk (p :: l) = ([], false) := by
  unfold restF; rw [h]
theorem restF_none {r : RunR} {p : PcR} {l : List PcR} {L : List Ent} (h : blkR r p = some L) : restF r none (p :: l) = (L ++ (restF r none l).1, (restF r none l).2) := by
  rw [restF]; rw [h]
theorem restF_skip {r : RunR} {t : Ent} {p : PcR} {l : List PcR} {L : List Ent} (h : blkR r p = some L) (hs : skipE t L = []) : restF r (some t) (p :: l) = restF r (some t) l := by
  rw [restF]; rw [h]; dsimp only; rw [if_pos hs]
theorem restF_some {r : RunR} {t : Ent} {p : PcR} {l : List PcR} {L : List Ent} (h : blkR r p = some L) (hs : skipE t L ≠ []) : restF r (some t) (p :: l) = (skipE t L ++ (restF r none l).1, (restF r none l).2) := by
  rw [restF]; rw [h]; dsimp only; rw [if_neg hs]
structure PcOk (p : PcR) : Prop where
  ka : (ParseKeyE p.a).2 = 0
  kb : (ParseKeyE p.b).2 = 0
  le : cmpB p.a p.b ≤ 0
def PsAsc (l : List PcR) : Prop := (∀ p, p ∈ l → PcOk p) ∧ l.Pairwise fun p q => cmpB p.b q.a < 0
theorem cmpB_lt_le {a b c : List UInt8} (h1 : cmpB a b < 0) (h2 : cmpB b c ≤ 0) : cmpB a c < 0 := by
  rcases Int.lt_or_eq_of_le h2 with h | h
  · exact cmpB_lt_trans h1 h
  · rw [← cmpB_zero _ _ h]; exact h1
theorem pc1_ok {x : List UInt8} {p at' end' q : Nat} {prev : Option (List UInt8)} {c : PcR} (h : pc1 x p at' end' prev = some (c, q)) : PcOk c ∧ behR prev c.a = false := by
  obtain ⟨a, p1, e1, h1⟩ : ∃ a p1 e1, readBy x (p : Int) (x.length : Int) = (a, p1, e1) := ⟨_, _, _, rfl⟩
  obtain ⟨b, p2, e2, h2⟩ : ∃ b p2 e2, readBy x (p1 : Int) (x.length : Int) = (b, p2, e2) := ⟨_, _, _, rfl⟩
  obtain ⟨sz, p3, e3, h3⟩ : ∃ s p3 e3, readU x (p2 : Int) = (s, p3, e3) := ⟨_, _, _, rfl⟩
  rw [pc1_by h1 h2 h3] at h
  split at h
  · cases h
  split at h
  · cases h
  split at h
  · cases h
  split at h
  · cases h
  split at h
  · cases h
  rename_i hk
  split at h
  · cases h
  rename_i hb
  injection h with h
  injection h with h _
  subst h
  refine ⟨⟨Decidable.byContradiction fun hh => hk (.inl hh), Decidable.byContradiction fun hh => hk (.inr (.inl hh)), ?_⟩, by simpa using hb⟩
  exact Int.not_lt.1 fun hh => hk (.inr (.inr hh))
theorem pcsF_asc {x : List UInt8} {end' : Nat} : ∀ {n p at' : Nat} {prev : Option (List UInt8)} {l : List PcR} {r : Nat × Nat}, pcsF x end' n p at' prev = some (l, r) → PsAsc l ∧ ∀ k, prev = some k → ∀ c, c ∈ l → cmpB k c.a < 0
  | 0, _, _, _, l, r, h => by
    injection h with h
    injection h with h _
    subst h
    exact ⟨⟨fun _ h => (by cases h), List.Pairwise.nil⟩, fun _ _ _ h => (by cases h)⟩
  | n + 1, p, at', prev, l, r, h => by
    cases h1 : pc1 x p at' end' prev with
    | none => rw [pcsF_none h1] at h; cases h
    | some v =>
      obtain ⟨c1, q⟩ := v
      have h2 := pcsF_some (n := n) h1 []
      rw [pcsG_nil, h] at h2
      obtain ⟨h3, h3b⟩ := pc1_ok h1
      cases h4 : pcsF x end' n q c1.hi (some c1.b) with
      | none => rw [h4] at h2; cases h2
      | some v2 =>
        obtain ⟨l2, r2⟩ := v2
        rw [h4] at h2
        injection h2 with h2
        injection h2 with h2 _
        have h2 : l = c1 :: l2 := h2
        subst h2
        obtain ⟨⟨i1, i2⟩, i3⟩ := pcsF_asc h4
        refine ⟨⟨fun c hc => ?_, List.Pairwise.cons (fun c hc => i3 _ rfl c hc) i2⟩, fun k hk c hc => ?_⟩
        · rcases List.mem_cons.1 hc with rfl | hc
          · exact h3
          · exact i1 c hc
        · subst hk
          have hk1 : cmpB k c1.a < 0 := by
            have : decide (0 ≤ cmpB k c1.a) = false := h3b
            have := of_decide_eq_false this
            omega
          rcases List.mem_cons.1 hc with rfl | hc
          · exact hk1
          · exact cmpB_lt_trans (cmpB_lt_le hk1 h3.le) (i3 _ rfl c hc)
theorem pcsO_asc {x : List UInt8} {n end' : Nat} {l : List PcR} (h : pcsO x n end' = some l) : PsAsc l := by
  unfold pcsO at h
  split at h
  · cases h
  split at h
  · cases h
  rename_i l' p at' hp
  split at h
  · injection h with h
    subst h
    exact (pcsF_asc hp).1
  · cases h
theorem cutS_le9 (l : List UInt8) (k m : Nat) : (cutS l k m).length ≤ l.length := by
  unfold cutS; rw [List.length_take, List.length_drop]; omega
theorem openR7_asc {b : List UInt8} {r : RunR} (h : openR7 b = (some r, 0)) : PsAsc r.ps ∧ r.ps.length ≤ 16777216 := by
  unfold openR7 at h
  split at h
  · cases h
  rename_i hlen
  split at h
  · cases h
  rename_i r' hr
  injection h with h _
  injection h with h
  subst h
  unfold openP at hr
  split at hr
  · cases hr
  split at hr
  · cases hr
  rename_i ns hns
  unfold openN at hr
  split at hr
  · split at hr
    · cases hr
    split at hr
    · cases hr
    split at hr
    · cases hr
    split at hr
    · cases hr
    split at hr
    · cases hr
    rename_i l hl
    injection hr with hr
    subst hr
    refine ⟨pcsO_asc hl, ?_⟩
    have h1 := (pcsO_len hl).1
    have h2 := (pcsO_len hl).2
    exact Nat.le_trans (Nat.le_of_eq h1) (Nat.le_trans h2 (Nat.le_trans (cutS_le9 _ _ _) (by omega)))
  · cases hr
theorem getLast_of {L : List Ent} (h : L ≠ []) : ∃ b, L[L.length - 1]? = some b ∧ b ∈ L ∧ lastK L = keyE b ∧ ∃ a, L[0]? = some a ∧ a ∈ L ∧ firstK L = keyE a := by
  have hl : L.length - 1 < L.length := by have := List.length_pos_iff.2 h; omega
  have h0 : 0 < L.length := List.length_pos_iff.2 h
  exact ⟨_, List.getElem?_eq_getElem hl, List.getElem_mem _, lastK_at (List.getElem?_eq_getElem hl), _, List.getElem?_eq_getElem h0, List.getElem_mem _, firstK_at (List.getElem?_eq_getElem h0)⟩
theorem RunAt.partR {q : RunRec} {x : World} {k : Nat} {r : PRec} (h : RunAt q x) (hk : q.rs[k]? = some r) : ∃ g3, q.PA = some ⟨g3, 0, none⟩ ∧ x.rangeAt g3 (k * 4) r.cells := by
  obtain ⟨_, w, h2⟩ := h
  have hpos : 0 < q.rs.length := by have := (List.getElem?_eq_some_iff.1 hk).1; omega
  obtain ⟨g, cap, e1, _, _, _⟩ := own_form (h2.row (i := 2) rfl) hpos
  injection e1 with e1 _ _
  have h3 : OW w (boxO q.g q.cells :: bytO 5 (some ⟨q.gb, 0, none⟩, q.cb, q.r.bytes) :: rowO 137 4 (.slice (some ⟨g, 0, none⟩) q.rs.length q.pc) q.rs.length (q.rs.flatMap PRec.cells) :: q.rs.flatMap PRec.obs) x := by rw [← e1]; exact h2
  refine ⟨g, e1, fun j v hv => ?_⟩
  exact prow_cell (g := g) (m := q.rs.length) (c := q.pc) h3 (by simp) hk hv
theorem key20 (A B : Option Addr) (a1 c b1 d M : Nat) (w : World) : (Instr.index 243 (.agg #[.int .i64 0, .slice A a1 c, .int .i64 (M : Int), .slice B b1 d]) (.int .i64 ((0 : Nat) : Int))).run Tryz.prog w = .ok (.agg #[.int .i64 0, .slice A a1 c]) w := by kernel_rfl
theorem key21 (A B : Option Addr) (a1 c b1 d M : Nat) (w : World) : (Instr.index 243 (.agg #[.int .i64 0, .slice A a1 c, .int .i64 (M : Int), .slice B b1 d]) (.int .i64 ((1 : Nat) : Int))).run Tryz.prog w = .ok (.agg #[.int .i64 (M : Int), .slice B b1 d]) w := by kernel_rfl
theorem rowK_pos {al : Nat} {k v : List UInt8} : 1 ≤ (rowK al k v).length := by
  unfold rowK
  simp only [List.length_append]
  have := uintB_pos al
  omega
theorem runE_few (R : Nat) : ∀ (L : List Ent) (s : BSt), s.body.length + L.length ≤ (runE R s L).body.length
  | [], _ => Nat.le_refl _
  | e :: L, s => by
    have h1 := runE_few R L (stepB R s (keyE e) e.val)
    have h2 : (stepB R s (keyE e) e.val).body.length = s.body.length + (rowK (alikeB R s (keyE e)) (keyE e) e.val).length := by unfold stepB; rw [List.length_append]
    have h3 := rowK_pos (al := alikeB R s (keyE e)) (k := keyE e) (v := e.val)
    show s.body.length + (L.length + 1) ≤ (runE R (stepB R s (keyE e) e.val) L).body.length
    omega
theorem blk_few {R : Nat} {L : List Ent} {b : List UInt8} (h : buildE5 (R : Int) L = (b, 0)) : L.length ≤ b.length := by
  obtain ⟨_, _, _, _, h5, _⟩ := build_parts h
  have h1 := runE_few R L bst0
  rw [h5, layS_len]
  unfold sizeS runB
  omega
theorem openE_len {b : List UInt8} {L : List Ent} (h : (openE b).1 = some L) : b.length ≤ 131072 := (openE_ne h).2
def LoadP (q : RunRec) (p : PcR) (w : World) (e : Ending) (z : World) : Prop :=
  (∃ L g os, blkR q.r p = some L ∧ e = .returned (.pointer (some ⟨g, 0, none⟩)) ∧ Bk5 (resB (cutS q.r.bytes p.lo (p.hi - p.lo))) L g os ∧ OW w os z) ∨ (blkR q.r p = none ∧ e = .returned (.pointer none) ∧ Below w.heap.size w z)
set_option maxRecDepth 1000000 in
set_option maxHeartbeats 4000000 in
theorem load_any (q : RunRec) (w : World) (h : RunAt q w) (k : Nat) (r : PRec) (hk : q.rs[k]? = some r) (hin : PcIn 8 q.r.bytes.length r.p) (ht : TabAt 0 w) :
  Calls Tryz.prog 85 #[.pointer (some ⟨q.g, 0, none⟩), .int .i64 k] w (LoadP q r.p w) := by
 have hkl := (List.getElem?_eq_some_iff.1 hk).1
 obtain ⟨g3, hPA, _⟩ := h.partR hk
 have HR : Hid (∀ z, Below w.heap.size w z → z.rangeAt g3 (k * 4) r.cells) := Lib.hid fun z hz => by
  obtain ⟨g', h1, h2⟩ := (h.later hz).partR hk
  rw [hPA] at h1
  injection h1 with h1
  injection h1 with h1 _ _
  subst h1
  exact h2
 have HC9 : Hid (∀ z, Below w.heap.size w z → z.cell? ⟨q.g, 9, none⟩ = some (.slice (some ⟨g3, 0, none⟩) q.rs.length q.pc)) := Lib.hid fun z hz => (h.later hz).cell (j := 9) (by rw [← hPA]; rfl)
 have HC0 : Hid (∀ z, Below w.heap.size w z → z.cell? ⟨q.g, 0, none⟩ = some (.slice (some ⟨q.gb, 0, none⟩) q.r.bytes.length q.cb)) := Lib.hid fun z hz => (h.later hz).cell (j := 0) rfl
 have HB : Hid (∀ z, Below w.heap.size w z → Sl z (some ⟨q.gb, 0, none⟩) q.r.bytes.length q.cb q.r.bytes) := Lib.hid fun z hz => (h.later hz).bytes
 have HKS : Hid (∀ z, Below w.heap.size w z → Sl z r.A r.p.a.length r.c r.p.a ∧ Sl z r.B r.p.b.length r.d r.p.b) := Lib.hid fun z hz => (h.later hz).recm hk
 have HTB : Hid (∀ z, Below w.heap.size w z → TabAt 0 z) := Lib.hid fun z hz => ht.later hz
 have HIN := Lib.hid hin
 have HX := Lib.hid (OW.nil w)
 unfold PRec.cells at HR
 obtain ⟨g, hg⟩ : ∃ g, g = q.g := ⟨_, rfl⟩
 obtain ⟨m, hm⟩ : ∃ g, g = q.rs.length := ⟨_, rfl⟩
 obtain ⟨n, hn⟩ : ∃ g, g = q.r.bytes.length := ⟨_, rfl⟩
 rw [← hg] at HC9 HC0 ⊢
 rw [← hm] at HC9 hkl
 rw [← hn] at HC0 HB
 have HN := Lib.hid hn
 obtain ⟨a1, ha1⟩ : ∃ g, g = r.p.a.length := ⟨_, rfl⟩
 obtain ⟨b1, hb1⟩ : ∃ g, g = r.p.b.length := ⟨_, rfl⟩
 obtain ⟨lo, hlo⟩ : ∃ g, g = r.p.lo := ⟨_, rfl⟩
 obtain ⟨hi, hhi⟩ : ∃ g, g = r.p.hi := ⟨_, rfl⟩
 rw [← ha1, ← hb1, ← hlo, ← hhi] at HR
 rw [← ha1, ← hb1] at HKS
 have HPP : Hid (a1 = r.p.a.length ∧ b1 = r.p.b.length ∧ lo = r.p.lo ∧ hi = r.p.hi) := Lib.hid ⟨ha1, hb1, hlo, hhi⟩
 have hb9 : lo ≤ hi ∧ hi ≤ n ∧ n ≤ 16777216 := by
  have h2 := hin.mid; have h3 := hin.hi; have h4 := h.1.len
  rw [← hlo] at h2; rw [← hhi] at h2 h3; rw [← hn] at h3 h4
  omega
 have hcb9 : n ≤ q.cb := (HB.out w (Below.refl _ _)).cap
 have hcl9 : q.cb ≤ 9223372036854775807 := (HB.out w (Below.refl _ _)).lim
 have hlo8 : lo < hi := by have h2 := hin.mid; rw [← hlo] at h2; rw [← hhi] at h2; exact h2
 obtain ⟨G, rfl⟩ : ∃ G, hi = lo + G := ⟨hi - lo, by omega⟩
 simp only [Int.natCast_add] at HR
 have HCUT : Hid (∀ z, Below w.heap.size w z → Sl z (some ⟨q.gb, lo, none⟩) G (q.cb - lo) (cutS q.r.bytes lo G)) := Lib.hid fun z hz => by
  have h4 := (HB.out z hz).cut (lo := lo) (hi := lo + G) (by omega) hb9.2.1 (by omega)
  rw [Nat.add_sub_cancel_left, Option.map_some, show (⟨q.gb, 0, none⟩ : Addr).add lo = ⟨q.gb, lo, none⟩ from by simp [Addr.add]; omega] at h4
  exact h4
 obtain ⟨cb, hcb⟩ : ∃ z, z = q.cb := ⟨_, rfl⟩
 have l1 : (0 : Int) ≤ (lo : Int) := by omega
 have l2 : (lo : Int) ≤ (lo : Int) + (G : Int) := by omega
 have l3 : (lo : Int) + (G : Int) ≤ (cb : Int) := by omega
 have l4 : (0 : Int) ≤ (lo : Int) + (G : Int) := by omega
 have l5 : ((lo : Int) + (G : Int)).toNat = lo + G := by omega
 have l7 : ¬ cb = lo := by omega
 rw [← hcb] at HC0 HCUT
 clear hcb
 clear hcb9 hcl9 hb9
 clear h hk hin ht hPA hg hm hn ha1 hb1 hlo hhi
 have i1 : (k : Int) < (m : Int) := by omega
 have i2 : (0 : Int) ≤ (k : Int) := by omega
 go_enter Tryz.func85, Tryz.ntmps85
 go_upto_region 2 with (first
  | (refine wpList_load_cell rfl 133 (.tmp 16) rfl rfl (HC9.out _ HX.out.up) (fun w => Tryz.isAgg133 w) ?_)
  | (refine wl_rowR rfl 137 (.tmp 19) rfl rfl (HR.out _ HX.out.up) part_row ?_)
  | (refine wl_alloc rfl rfl [.slice none 0 0, .slice none 0 0, .int .i64 0, .int .i64 0] (.inl (by kernel_rfl)) HX.out ?_; intro g5 x1 hz _; have HX1 : Hid (OW w [boxO g5 [.slice none 0 0, .slice none 0 0, .int .i64 0, .int .i64 0]] x1) := Lib.hid hz; clear hz HX)
  | (refine wl_put rfl (.tmp 5) (.tmp 20) rfl HX1.out 0 rfl rfl [.slice r.A a1 r.c, .slice r.B b1 r.d, .int .i64 lo, .int .i64 ((lo : Int) + (G : Int))] rfl rfl (by kernel_rfl) (by simp [Value.oneCell']) ?_; intro x2 hz _; have HX2 : Hid (OW w [boxO g5 [.slice r.A a1 r.c, .slice r.B b1 r.d, .int .i64 lo, .int .i64 ((lo : Int) + (G : Int))]] x2) := Lib.hid hz; clear hz HX1))
 cases ho : openE (cutS q.r.bytes lo G) with
 | mk o k =>
 cases o with
 | none =>
  have hk0 : k ≠ 0 := by have := openE_no (b := cutS q.r.bytes lo G) (by rw [ho]); rw [ho] at this; exact this
  have hd0 : (k != 0) = true := bne_iff_ne.2 hk0
  have HO := Lib.hid ho
  have HBN : Hid (blkR q.r r.p = none) := Lib.hid (by
   obtain ⟨_, _, h1, h2⟩ := HPP.out
   unfold blkR; rw [← h1, ← h2, Nat.add_sub_cancel_left, HO.out])
  clear ho hk0
  refine lt_start [] (by kernel_rfl) ?_
  intro xd hd
  refine ⟨fun z => OW w [boxO g5 [.slice r.A a1 r.c, .slice r.B b1 r.d, .int .i64 lo, .int .i64 ((lo : Int) + (G : Int))]] z, ?_⟩
  have HS := Lib.hid (HX2.out.later hd)
  refine lp 0 rfl (v := ?_) (fun w => ?_) (fun _ => HS.out) ?_
  rotate_left
  ·first | (go_simp; done) | (go_simp; with_reducible rfl)
  simp only [Act.put, ls1, ls2, ls3]
  refine lp 1 rfl (v := ?_) (fun w => ?_) (fun _ => HS.out) ?_
  rotate_left
  ·first | (go_simp; done) | (go_simp; with_reducible rfl)
  simp only [Act.put, ls1, ls2, ls3]
  refine lp 2 rfl (v := ?_) (fun w => ?_) (fun _ => HS.out) ?_
  rotate_left
  ·first | (go_simp; done) | (go_simp; with_reducible rfl)
  simp only [Act.put, ls1, ls2, ls3]
  refine lq 3 [8, 9, 10, 11, 12, 13, 14] rfl (yi_cell rfl rfl rfl (fun w hS => HC0.out _ (OW.up hS)) (fun w => Tryz.isAgg34 w)) HS.out ?_
  simp only [Act.put, ls1, ls2, ls3]
  refine lp 4 rfl (v := ?_) (fun w => ?_) (fun _ => HS.out) ?_
  rotate_left
  ·first | (go_simp; done) | (go_simp; with_reducible rfl)
  simp only [Act.put, ls1, ls2, ls3]
  refine lq 5 [8, 9, 10, 11, 12, 13, 14] rfl (yi_cell rfl rfl rfl (fun w hS => OW.cell hS (i := 0) (j := 2) rfl rfl) (fun w => Tryz.isAgg3 w)) HS.out ?_
  simp only [Act.put, ls1, ls2, ls3]
  refine lp 6 rfl (v := ?_) (fun w => ?_) (fun _ => HS.out) ?_
  rotate_left
  ·first | (go_simp; done) | (go_simp; with_reducible rfl)
  simp only [Act.put, ls1, ls2, ls3]
  refine lq 7 [8, 9, 10, 11, 12, 13, 14] rfl (yi_cell rfl rfl rfl (fun w hS => OW.cell hS (i := 0) (j := 3) rfl rfl) (fun w => Tryz.isAgg3 w)) HS.out ?_
  simp only [Act.put, ls1, ls2, ls3]
  refine lp 8 rfl (v := ?_) (fun w => ?_) (fun _ => HS.out) ?_
  rotate_left
  ·first | (go_simp; done) | (go_simp; with_reducible rfl)
  simp only [Act.put, ls1, ls2, ls3]
  refine lt_call 9 rfl (by kernel_rfl) rfl rfl ⟨_, Tryz.func149, by decide, by kernel_rfl⟩ [.slice (some ⟨q.gb, lo, none⟩) G (cb - lo)] rfl ?_
  refine (open_none HO.out _ G (cb - lo) _ (HCUT.out _ HS.out.up) (HTB.out _ HS.out.up)).mono ?_
  rintro e x3 ⟨rfl, hb⟩
  have HX3 := Lib.hid (HS.out.later hb)
  replace HS := Lib.hid (HS.out.later hb)
  clear hb
  refine ⟨_, rfl, fun _ => HS.out, ?_⟩
  simp only [Act.put, ls1, ls2, ls3]
  refine lp 10 rfl (v := ?_) (fun w => ?_) (fun _ => HS.out) ?_
  rotate_left
  ·first | (go_simp; done) | (go_simp; with_reducible rfl)
  simp only [Act.put, ls1, ls2, ls3]
  refine lp 11 rfl (v := ?_) (fun w => ?_) (fun _ => HS.out) ?_
  rotate_left
  ·first | (go_simp; done) | (go_simp; with_reducible rfl)
  simp only [Act.put, ls1, ls2, ls3]
  refine lp 12 rfl (v := ?_) (fun w => ?_) (fun _ => HS.out) ?_
  rotate_left
  ·first | (go_simp; done) | (go_simp; with_reducible rfl)
  simp only [Act.put, ls1, ls2, ls3]
  refine lp 13 rfl (v := ?_) (fun w => ?_) (fun _ => HS.out) ?_
  rotate_left
  ·first | (go_simp; done) | (go_simp; with_reducible rfl)
  simp only [Act.put, ls1, ls2, ls3]
  refine lp 14 rfl (v := ?_) (fun w => ?_) (fun _ => HS.out) ?_
  rotate_left
  ·first | (go_simp; done) | (go_simp; with_reducible rfl)
  simp only [Act.put, ls1, ls2, ls3]
  refine lt_done (by kernel_rfl) ?_
  clear HS
  go_wp2_with fail
  go_ret
  exact .inr ⟨HBN.out, rfl, HX3.out.up⟩
 | some L =>
  obtain rfl : k = 0 := by have := (openE_ok (b := cutS q.r.bytes lo G) (L := L) (by rw [ho])).2; rw [ho] at this; exact this
  have HO := Lib.hid ho
  clear ho
  refine lt_start [] (by kernel_rfl) ?_
  intro xd hd
  refine ⟨fun z => OW w [boxO g5 [.slice r.A a1 r.c, .slice r.B b1 r.d, .int .i64 lo, .int .i64 ((lo : Int) + (G : Int))]] z, ?_⟩
  have HS := Lib.hid (HX2.out.later hd)
  refine lp 0 rfl (v := ?_) (fun w => ?_) (fun _ => HS.out) ?_
  rotate_left
  ·first | (go_simp; done) | (go_simp; with_reducible rfl)
  simp only [Act.put, ls1, ls2, ls3]
  refine lp 1 rfl (v := ?_) (fun w => ?_) (fun _ => HS.out) ?_
  rotate_left
  ·first | (go_simp; done) | (go_simp; with_reducible rfl)
  simp only [Act.put, ls1, ls2, ls3]
  refine lp 2 rfl (v := ?_) (fun w => ?_) (fun _ => HS.out) ?_
  rotate_left
  ·first | (go_simp; done) | (go_simp; with_reducible rfl)
  simp only [Act.put, ls1, ls2, ls3]
  refine lq 3 [8, 9, 10, 11, 12, 13, 14] rfl (yi_cell rfl rfl rfl (fun w hS => HC0.out _ (OW.up hS)) (fun w => Tryz.isAgg34 w)) HS.out ?_
  simp only [Act.put, ls1, ls2, ls3]
  refine lp 4 rfl (v := ?_) (fun w => ?_) (fun _ => HS.out) ?_
  rotate_left
  ·first | (go_simp; done) | (go_simp; with_reducible rfl)
  simp only [Act.put, ls1, ls2, ls3]
  refine lq 5 [8, 9, 10, 11, 12, 13, 14] rfl (yi_cell rfl rfl rfl (fun w hS => OW.cell hS (i := 0) (j := 2) rfl rfl) (fun w => Tryz.isAgg3 w)) HS.out ?_
  simp only [Act.put, ls1, ls2, ls3]
  refine lp 6 rfl (v := ?_) (fun w => ?_) (fun _ => HS.out) ?_
  rotate_left
  ·first | (go_simp; done) | (go_simp; with_reducible rfl)
  simp only [Act.put, ls1, ls2, ls3]
  refine lq 7 [8, 9, 10, 11, 12, 13, 14] rfl (yi_cell rfl rfl rfl (fun w hS => OW.cell hS (i := 0) (j := 3) rfl rfl) (fun w => Tryz.isAgg3 w)) HS.out ?_
  simp only [Act.put, ls1, ls2, ls3]
  refine lp 8 rfl (v := ?_) (fun w => ?_) (fun _ => HS.out) ?_
  rotate_left
  ·first | (go_simp; done) | (go_simp; with_reducible rfl)
  simp only [Act.put, ls1, ls2, ls3]
  refine lt_call 9 rfl (by kernel_rfl) rfl rfl ⟨_, Tryz.func149, by decide, by kernel_rfl⟩ [.slice (some ⟨q.gb, lo, none⟩) G (cb - lo)] rfl ?_
  refine (open_bk HO.out _ G (cb - lo) _ (HCUT.out _ HS.out.up) (HTB.out _ HS.out.up)).mono ?_
  rintro e x3 ⟨gb, os, rfl, hbk, hos⟩
  have HBK := Lib.hid hbk
  have HX3 := Lib.hid (HS.out.app hos)
  replace HS := Lib.hid (HS.out.later hos.up)
  clear hbk hos
  refine ⟨_, rfl, fun _ => HS.out, ?_⟩
  simp only [Act.put, ls1, ls2, ls3]
  refine lp 10 rfl (v := ?_) (fun w => ?_) (fun _ => HS.out) ?_
  rotate_left
  ·first | (go_simp; done) | (go_simp; with_reducible rfl)
  simp only [Act.put, ls1, ls2, ls3]
  refine lp 11 rfl (v := ?_) (fun w => ?_) (fun _ => HS.out) ?_
  rotate_left
  ·first | (go_simp; done) | (go_simp; with_reducible rfl)
  simp only [Act.put, ls1, ls2, ls3]
  refine lp 12 rfl (v := ?_) (fun w => ?_) (fun _ => HS.out) ?_
  rotate_left
  ·first | (go_simp; done) | (go_simp; with_reducible rfl)
  simp only [Act.put, ls1, ls2, ls3]
  refine lp 13 rfl (v := ?_) (fun w => ?_) (fun _ => HS.out) ?_
  rotate_left
  ·first | (go_simp; done) | (go_simp; with_reducible rfl)
  simp only [Act.put, ls1, ls2, ls3]
  refine lp 14 rfl (v := ?_) (fun w => ?_) (fun _ => HS.out) ?_
  rotate_left
  ·first | (go_simp; done) | (go_simp; with_reducible rfl)
  simp only [Act.put, ls1, ls2, ls3]
  refine lt_done (by kernel_rfl) ?_
  clear HS
  have HF : Hid (L ≠ [] ∧ (∀ e, e ∈ L → checkE e = 0)) := Lib.hid (by
   have h1 : (openE (cutS q.r.bytes lo G)).1 = some L := by rw [HO.out]
   obtain ⟨h2, _⟩ := openE_ok h1
   obtain ⟨_, _, _, h3, _, h4⟩ := build_parts h2
   exact ⟨h3, h4⟩)
  have HBF : Hid (blkR q.r r.p = if firstK L = r.p.a ∧ lastK L = r.p.b then some L else none) := Lib.hid (by
   obtain ⟨_, _, h1, h2⟩ := HPP.out
   unfold blkR; rw [← h1, ← h2, Nat.add_sub_cancel_left, HO.out])
  have HLE : Hid (∀ e, e ∈ L → e.row.length ≤ 140737488355000 ∧ e.qual.length ≤ 140737488355000 ∧ e.val.length ≤ 140737488355000) := Lib.hid fun e he => ok_lens (HF.out.2 e he)
  have hL1 : 1 ≤ L.length ∧ L.length ≤ 131073 := by
   refine ⟨List.length_pos_iff.2 HF.out.1, ?_⟩
   have h1 : (openE (cutS q.r.bytes lo G)).1 = some L := by rw [HO.out]
   obtain ⟨h2, _⟩ := openE_ok h1
   have := blk_few h2
   have h3 := (openE_len h1)
   omega
  obtain ⟨M, hM⟩ : ∃ M, L.length = M + 1 := ⟨L.length - 1, by omega⟩
  have HM := Lib.hid hM
  have hM2 : M ≤ 131072 := by omega
  clear hM hL1
  have HBR : Hid (∀ z, Below x3.heap.size x3 z → BkR z (resB (cutS q.r.bytes lo G)) gb L) := Lib.hid fun z hz => (HBK.out.reads (rest := [boxO g5 [.slice r.A a1 r.c, .slice r.B b1 r.d, .int .i64 lo, .int .i64 ((lo : Int) + (G : Int))]]) (HX3.out.perm (List.perm_append_comm))).later hz
  have s1 : IntKind.i64.wrap ((M : Int) + 1 - 1) = (M : Int) := by rw [Int.add_sub_cancel]; exact i64_sum (by omega) (by omega)
  have s2 : IntKind.i64.wrap (M : Int) = (M : Int) := i64_sum (by omega) (by omega)
  go_wp2_with fail
  refine lt_start [] (by kernel_rfl) ?_
  intro xd hd
  refine ⟨fun z => Below x3.heap.size x3 z, ?_⟩
  have HS := Lib.hid (hd)
  refine lp 0 rfl (v := ?_) (fun w => ?_) (fun _ => HS.out) ?_
  rotate_left
  ·first | (go_simp; done) | (go_simp; with_reducible rfl)
  simp only [Act.put, ls1, ls2, ls3]
  refine lq 1 [2, 9] rfl (yi_cell rfl rfl rfl (fun w hS => (HX3.out.later hS).cell (i := 0) (j := 0) rfl rfl) (fun w => Tryz.isAgg34 w)) HS.out ?_
  simp only [Act.put, ls1, ls2, ls3]
  refine lp 2 rfl (v := ?_) (fun w => ?_) (fun _ => HS.out) ?_
  rotate_left
  ·first | (go_simp; done) | (go_simp; with_reducible rfl)
  simp only [Act.put, ls1, ls2, ls3]
  refine lp 3 rfl (v := ?_) (fun w => ?_) (fun _ => HS.out) ?_
  rotate_left
  ·first | (go_simp; done) | (go_simp; with_reducible rfl)
  simp only [Act.put, ls1, ls2, ls3]
  refine lp 6 rfl (v := ?_) (fun w => ?_) (fun _ => HS.out) ?_
  rotate_left
  ·first | (go_simp; done) | (go_simp; with_reducible rfl)
  simp only [Act.put, ls1, ls2, ls3]
  refine lq 7 [8, 9] rfl (yi_cell rfl rfl rfl (fun w hS => (HX3.out.later hS).cell (i := 0) (j := 1) rfl rfl) (fun w => Tryz.isAgg34 w)) HS.out ?_
  simp only [Act.put, ls1, ls2, ls3]
  refine lp 10 rfl (v := ?_) (fun w => ?_) (fun _ => HS.out) ?_
  rotate_left
  ·first | (go_simp; done) | (go_simp; with_reducible rfl)
  simp only [Act.put, ls1, ls2, ls3]
  refine lt_call 4 rfl (by kernel_rfl) rfl rfl ⟨_, Tryz.func150, by decide, by kernel_rfl⟩ [.pointer (some ⟨gb, 0, none⟩)] rfl ?_
  refine (len_any (HBR.out _ HS.out)).mono ?_
  rw [HM.out, show ((M + 1 : Nat) : Int) = (M : Int) + 1 from rfl]
  rintro e x4 ⟨rfl, hb⟩
  replace HS := Lib.hid (HS.out.trans (hb.mono HS.out.size))
  clear hb
  refine ⟨_, rfl, fun _ => HS.out, ?_⟩
  simp only [Act.put, ls1, ls2, ls3]
  refine lp 5 rfl (v := ?_) (fun w => ?_) (fun _ => HS.out) ?_
  rotate_left
  ·first | (go_simp; done) | (go_simp; with_reducible rfl)
  simp only [Act.put, ls1, ls2, ls3]
  refine lp 8 rfl (v := ?_) (fun w => ?_) (fun _ => HS.out) ?_
  rotate_left
  ·first | (go_simp; done) | (go_simp; with_reducible rfl)
  simp only [Act.put, ls1, ls2, ls3]
  refine lp 9 rfl (v := ?_) (fun w => ?_) (fun _ => HS.out) ?_
  rotate_left
  ·first | (go_simp; done) | (go_simp; with_reducible rfl)
  simp only [Act.put, ls1, ls2, ls3]
  refine lt_done (by kernel_rfl) ?_
  have HB9 := HS
  clear HS
  have HY0 : Hid (OW x3 [] x4) := Lib.hid ⟨HB9.out, fun _ h => (by cases h), List.Pairwise.nil⟩
  clear HB9 s1 s2
  go_wp2_with fail
  go_loopw [46] (fun iv wr => ∃ j : Nat, j ≤ 2 ∧ iv = .int .i64 j ∧ Hid (1 ≤ j → firstK L = r.p.a) ∧ Hid (2 ≤ j → lastK L = r.p.b) ∧ Hid (OW x3 [] wr)) (fun iv _ => 2 - (intOf iv).toNat)
  case atStart => exact ⟨0, by omega, rfl, Lib.hid fun h => by omega, Lib.hid fun h => by omega, HY0⟩
  case round =>
   clear HY0
   obtain ⟨j, hj, rfl, HJ1, HJ2, HY⟩ := hrel
   by_cases hlt : j < 2
   case pos =>
    have hd2 : decide ((j : Int) < 2) = true := decide_eq_true (by omega)
    obtain ⟨aj, KA, kn, kc, key, e, hix, haj, hkf, hsl⟩ : ∃ (aj : Nat) (KA : Option Addr) (kn kc : Nat) (key : List UInt8) (e : Ent), (∀ w, (Instr.index 243 (.agg #[.int .i64 0, .slice r.A a1 r.c, .int .i64 (M : Int), .slice r.B b1 r.d]) (.int .i64 (j : Int))).run Tryz.prog w = .ok (.agg #[.int .i64 (aj : Int), .slice KA kn kc]) w) ∧ L[aj]? = some e ∧ ((j = 0 → firstK L = keyE e ∧ key = r.p.a) ∧ (j = 1 → lastK L = keyE e ∧ key = r.p.b)) ∧ (∀ z, Below w.heap.size w z → Sl z KA kn kc key) := by
     obtain ⟨b, hb1, hb2, hb3, a, ha1, ha2, ha3⟩ := getLast_of HF.out.1
     rw [HM.out, Nat.add_sub_cancel] at hb1
     match j, hlt with
     | 0, _ => exact ⟨0, r.A, a1, r.c, r.p.a, a, fun w => key20 r.A r.B a1 r.c b1 r.d M w, ha1, ⟨fun _ => ⟨ha3, rfl⟩, fun h => by omega⟩, fun z hz => (HKS.out z hz).1⟩
     | 1, _ => exact ⟨M, r.B, b1, r.d, r.p.b, b, fun w => key21 r.A r.B a1 r.c b1 r.d M w, hb1, ⟨fun h => by omega, fun _ => ⟨hb3, rfl⟩⟩, fun z hz => (HKS.out z hz).2⟩
    have HAJ := Lib.hid haj
    have HKF := Lib.hid hkf
    have HSL := Lib.hid hsl
    have HCE : Hid (checkE e = 0) := Lib.hid (HF.out.2 e (List.mem_of_getElem? haj))
    have HEL := Lib.hid (HLE.out e (List.mem_of_getElem? haj))
    clear haj hkf hsl
    go_upto_region 8 with (first
     | (refine wl_alloc rfl rfl [.int .i64 0, .slice none 0 0] (.inl (by kernel_rfl)) HY.out ?_; intro g9 y1 hz _; have HY1 : Hid (OW x3 [boxO g9 [.int .i64 0, .slice none 0 0]] y1) := Lib.hid hz; clear hz HY)
     | (refine wl_put rfl (.tmp 9) (.tmp 48) rfl HY1.out 0 rfl rfl [.int .i64 (aj : Int), .slice KA kn kc] rfl rfl (by kernel_rfl) (by simp [Value.oneCell']) ?_; intro y2 hz _; have HY2 : Hid (OW x3 [boxO g9 [.int .i64 (aj : Int), .slice KA kn kc]] y2) := Lib.hid hz; clear hz HY1))
    clear hix
    go_upto_region 9 with (first
     | (refine wpList_load_cell rfl 3 (.tmp 51) rfl rfl (HY2.out.cell (i := 0) (j := 0) rfl rfl) (fun w => Tryz.isAgg3 w) ?_)
     | (go_at_call 151; go_must (refine (at_in (HBR.out _ HY2.out.up) HLE.out HAJ.out).mono ?_); rintro rr y3 hp; obtain ⟨A1, B1, D1, rfl, ca, cb, cd, hz⟩ := hp.own; have HCA := Lib.hid (And.intro ca (And.intro cb cd)); have HY3 : Hid (OW x3 [boxO g9 [.int .i64 (aj : Int), .slice KA kn kc], clipO A1 e.row, clipO B1 e.qual, clipO D1 e.val] y3) := Lib.hid (HY2.out.app hz); clear ca cb cd hz hp)
     | (refine wl_alloc rfl rfl [.slice none 0 0, .int .i64 0, .slice none 0 0, .int .i64 0, .int .i64 0, .int .i64 0, .slice none 0 0] (.inl (by kernel_rfl)) HY3.out ?_; intro g10 y4 hz _; have HY4 : Hid (OW x3 [boxO g9 [.int .i64 (aj : Int), .slice KA kn kc], clipO A1 e.row, clipO B1 e.qual, clipO D1 e.val, boxO g10 [.slice none 0 0, .int .i64 0, .slice none 0 0, .int .i64 0, .int .i64 0, .int .i64 0, .slice none 0 0]] y4) := Lib.hid hz; clear hz HY3)
     | (refine wl_put rfl (.tmp 10) (.tmp 54) rfl HY4.out 4 rfl rfl [.slice A1 e.row.length e.row.length, .int .i64 e.fam, .slice B1 e.qual.length e.qual.length, .int .i64 e.ts, .int .i64 e.seq, .int .i64 e.kind, .slice D1 e.val.length e.val.length] rfl rfl (by kernel_rfl) (by simp [Value.oneCell']) ?_; intro y5 hz _; have HY5 : Hid (OW x3 [boxO g9 [.int .i64 (aj : Int), .slice KA kn kc], clipO A1 e.row, clipO B1 e.qual, clipO D1 e.val, boxO g10 [.slice A1 e.row.length e.row.length, .int .i64 e.fam, .slice B1 e.qual.length e.qual.length, .int .i64 e.ts, .int .i64 e.seq, .int .i64 e.kind, .slice D1 e.val.length e.val.length]] y5) := Lib.hid hz; clear hz HY4))
    have HEN : Hid (∀ z, OW x3 [boxO g9 [.int .i64 (aj : Int), .slice KA kn kc], clipO A1 e.row, clipO B1 e.qual, clipO D1 e.val, boxO g10 [.slice A1 e.row.length e.row.length, .int .i64 e.fam, .slice B1 e.qual.length e.qual.length, .int .i64 e.ts, .int .i64 e.seq, .int .i64 e.kind, .slice D1 e.val.length e.val.length]] z → En z A1 e.row.length e.row.length B1 e.qual.length e.qual.length D1 e.val.length e.val.length e) := Lib.hid fun z hz => ⟨hz.clipSl HCA.out.1 (i := 1) rfl rfl (by have := HEL.out; omega), hz.clipSl HCA.out.2.1 (i := 2) rfl rfl (by have := HEL.out; omega), hz.clipSl HCA.out.2.2 (i := 3) rfl rfl (by have := HEL.out; omega)⟩
    obtain ⟨ke, hke⟩ : ∃ z, z = keyE e := ⟨_, rfl⟩
    obtain ⟨kl, hkl⟩ : ∃ z, z = ke.length := ⟨_, rfl⟩
    have HKE := Lib.hid hke
    have HKL := Lib.hid hkl
    have HK0 : Hid (KeyE e = (ke, 0)) := Lib.hid (by rw [hke]; exact keyE_ok HCE.out)
    clear hke hkl
    go_upto_region 10 with (first
     | (refine wpList_load_row7 rfl 60 (.tmp 10) rfl rfl (HY5.out.range (i := 4) rfl) ent_row5 ?_)
     | (go_at_call 111; go_must (refine (key_any e A1 _ _ B1 _ _ D1 _ _ _ (HEN.out _ HY5.out)).mono ?_); rw [HK0.out]; rintro rr y6 hp; obtain ⟨KA6, c6, rfl, hs6, ho6, hb6⟩ := hp.at_ HKL.out.symm rfl; have HY6 := Lib.hid (HY5.out.app (OW.byt1 hb6 ho6)); have HS6 : Hid (∀ z, Below y6.heap.size y6 z → Sl z KA6 kl c6 ke) := Lib.hid fun z hz => hs6.later hz; clear hp hs6 ho6 hb6 HY5))
    obtain ⟨bo, hbo⟩ : ∃ z, z = (ke == key) := ⟨_, rfl⟩
    have HBO := Lib.hid hbo.symm
    clear hbo
    cases bo with
    | false =>
     have HNO : Hid (blkR q.r r.p = none) := Lib.hid (by
      rw [HBF.out, if_neg]
      have hne : ke ≠ key := by have := HBO.out; simpa using this
      rintro ⟨h1, h2⟩
      have hk2 : j = 0 ∨ j = 1 := by omega
      rcases hk2 with rfl | rfl
      ·obtain ⟨g1, g2⟩ := HKF.out.1 rfl
       exact hne (by rw [g2, ← h1, g1, HKE.out])
      ·obtain ⟨g1, g2⟩ := HKF.out.2 rfl
       exact hne (by rw [g2, ← h2, g1, HKE.out]))
     go_wp2_with (first
      | (refine wpList_load_cell rfl 34 (.tmp 65) rfl rfl (HY6.out.cell (i := 0) (j := 1) rfl rfl) (fun w => Tryz.isAgg34 w) ?_)
      | (go_at_call 87; go_must (refine (equal_any ke key _ _ _ _ _ _ _ (HS6.out _ (Below.refl _ _)).rb (HSL.out _ (HX3.out.later HY6.out.up).up).rb).mono ?_); rw [HBO.out]; rintro rr y7 ⟨rfl, rfl⟩))
     go_ret
     exact .inr ⟨HNO.out, rfl, (HX3.out.later HY6.out.up).up⟩
    | true =>
     have HKQ : Hid (ke = key) := Lib.hid (by have := HBO.out; simpa using this)
     go_wp2_with (first
      | (refine wpList_load_cell rfl 34 (.tmp 65) rfl rfl (HY6.out.cell (i := 0) (j := 1) rfl rfl) (fun w => Tryz.isAgg34 w) ?_)
      | (go_at_call 87; go_must (refine (equal_any ke key _ _ _ _ _ _ _ (HS6.out _ (Below.refl _ _)).rb (HSL.out _ (HX3.out.later HY6.out.up).up).rb).mono ?_); rw [HBO.out]; rintro rr y7 ⟨rfl, rfl⟩))
     go_roundw
     case rel =>
      refine ⟨j + 1, by omega, by go_num, Lib.hid fun h => ?_, Lib.hid fun h => ?_, Lib.hid (HY6.out.sub (List.nil_sublist _))⟩
      ·by_cases h0 : j = 0
       ·obtain ⟨g1, g2⟩ := HKF.out.1 h0
        rw [g1, ← HKE.out, HKQ.out, g2]
       ·exact HJ1.out (by omega)
      ·obtain ⟨g1, g2⟩ := HKF.out.2 (by omega)
       rw [g1, ← HKE.out, HKQ.out, g2]
     case measure => simp [intOf]; omega
   obtain rfl : j = 2 := by omega
   have HYES : Hid (blkR q.r r.p = some L) := Lib.hid (by rw [HBF.out, if_pos ⟨HJ1.out (by omega), HJ2.out (by omega)⟩])
   have hd2 : decide ((2 : Int) < 2) = false := rfl
   go_wp2_with fail
   go_ret
   refine .inl ⟨L, gb, os, HYES.out, rfl, ?_, ((HX3.out.later HY.out.up).right)⟩
   obtain ⟨_, _, h1, h2⟩ := HPP.out
   rw [← h1, ← h2, Nat.add_sub_cancel_left]
   exact HBK.out
end Go.Proofs.YtfdbcfaeiglbeaaGreatDoor
namespace Go.Proofs.YtfdbcfaeiglbeaaGreatDoor
def longE (i : Nat) (v : List UInt8) : Ent := ⟨[114], 0, [113], 1000 - (i : Int), 32, 1, v⟩
structure LongI (R i : Nat) (L : List Ent) : Prop where
  ok : (buildK R [] L).1 = 0
  len : L.length ≤ i
  ne : 0 < i → L ≠ []
  last : ∀ l, L.getLast? = some l → ∃ j v, j < i ∧ l = longE j v
theorem LongI.zero (R : Nat) : LongI R 0 [] := ⟨rfl, Nat.le_refl _, fun h => absurd h (by omega), fun l h => (by cases h)⟩
theorem size_step5 (R : Nat) (s : BSt) (k v : List UInt8) : sizeS (stepB R s k v) = sizeS s + (if s.n % R = 0 then 4 else 0) + (rowK (alikeB R s k) k v).length := by
  have h1 : (stepB R s k v).body = s.body ++ rowK (alikeB R s k) k v := rfl
  have h2 : (stepB R s k v).places = placesB R s := rfl
  unfold sizeS
  rw [h1, h2, List.length_append]
  unfold placesB
  split
  · rw [List.length_append]; show _ + _ + 4 * (_ + 1) + 9 = _; omega
  · omega
end Go.Proofs.YtfdbcfaeiglbeaaGreatDoor
namespace Go.Proofs.YtfdbcfaeiglbeaaGreatDoor
open Go.RowKit
def valS (L : List Ent) : Nat := (L.map fun e => e.val.length).sum
theorem valS_app (a b : List Ent) : valS (a ++ b) = valS a + valS b := by unfold valS; rw [List.map_append, List.sum_append_nat]
theorem valS_le {n : Nat} : ∀ {L : List Ent}, (∀ e, e ∈ L → e.val.length ≤ n) → valS L ≤ L.length * n
  | [], _ => Nat.zero_le _
  | e :: L, h => by
    have h1 := valS_le (L := L) fun x hx => h x (.tail _ hx)
    have h2 := h e (.head _)
    show e.val.length + valS L ≤ (L.length + 1) * n
    rw [Nat.succ_mul]; omega
theorem rowK_ln9 {al n : Nat} {k v : List UInt8} (ha : al ≤ k.length) (hk : k.length ≤ n) (hn : n ≤ 1048) (hv : v.length ≤ 4096) : (rowK al k v).length ≤ v.length + n + 30 := by
  unfold rowK
  simp only [List.length_append, List.length_drop]
  have h1 := uintB_10 (v := al) (by omega)
  have h2 := uintB_10 (v := k.length - al) (by omega)
  have h3 := uintB_10 (v := v.length) (by omega)
  omega
theorem szR_le {n : Nat} (hn : n ≤ 1048) : ∀ (L : List Ent) (s : BSt), (∀ e, e ∈ L → checkE e = 0 ∧ (keyE e).length ≤ n) → sizeS (runE 16 s L) ≤ sizeS s + valS L + L.length * (n + 34)
  | [], s, _ => by show sizeS s ≤ _; omega
  | e :: L, s, h => by
    obtain ⟨hc, hk⟩ := h e (.head _)
    have h1 := szR_le hn L (stepB 16 s (keyE e) e.val) fun x hx => h x (.tail _ hx)
    have h2 := rowK_ln9 (alike_le 16 s (keyE e)).2 hk hn (ok_of hc).val.1
    have h3 := size_step5 16 s (keyE e) e.val
    show sizeS (runE 16 (stepB 16 s (keyE e) e.val) L) ≤ sizeS s + (e.val.length + valS L) + (L.length + 1) * (n + 34)
    rw [Nat.succ_mul]
    split at h3 <;> omega
theorem lay_le {n : Nat} (hn : n ≤ 1048) {c : List Ent} (hc : c ≠ []) (h : ∀ e, e ∈ c → checkE e = 0 ∧ (keyE e).length ≤ n) : (layB 16 c).length ≤ 9 + valS c + c.length * (n + 34) := by
  rw [layB_len 16 hc]
  have := szR_le hn c bst0 h
  have h0 : sizeS bst0 = 9 := rfl
  rw [h0] at this
  exact this
theorem blocks_le {n : Nat} (hn : n ≤ 1048) : ∀ {cs : List (List Ent)}, (∀ c, c ∈ cs → ChOk c ∧ ∀ e, e ∈ c → (keyE e).length ≤ n) → (blocksR cs).length ≤ 9 * cs.length + valS cs.flatten + cs.flatten.length * (n + 34) ∧ (partsR cs).length ≤ cs.length * (2 * n + 30)
  | [], _ => ⟨Nat.zero_le _, Nat.zero_le _⟩
  | c :: cs, h => by
    obtain ⟨h1, h2⟩ := blocks_le hn (cs := cs) fun d hd => h d (.tail _ hd)
    obtain ⟨hc, hk⟩ := h c (.head _)
    have h3 := lay_le hn hc.ne fun e he => ⟨hc.chk e he, hk e he⟩
    obtain ⟨a, _, ma, e1⟩ := hc.first
    obtain ⟨b, _, mb, e2⟩ := hc.last
    have ka := hk a ma
    have kb := hk b mb
    have h4 := build_len hc.bld hc.ne
    have h5 := uintB_10 (v := (keyE a).length) (by omega)
    have h6 := uintB_10 (v := (keyE b).length) (by omega)
    have h7 := uintB_10 (v := (layB 16 c).length) (by omega)
    constructor
    · rw [blocksR_cons, List.length_append, List.flatten_cons, valS_app, List.length_append, List.length_cons, Nat.add_mul]
      omega
    · rw [partsR_cons, List.length_append, List.length_cons, Nat.succ_mul]
      have : (partR c).length = ((uintB (keyE a).length).length + (keyE a).length) + ((uintB (keyE b).length).length + (keyE b).length) + (uintB (layB 16 c).length).length := by
        unfold partR; rw [e1, e2]; unfold keyB; simp only [List.length_append]
      omega
theorem filt_le {o : OptR} {L : List Ent} (hb : o.bits ≤ 20) : (filtR o L).length ≤ 16 + 3 * L.length := by
  unfold filtR
  split
  · rw [buildB_length]
    have h1 := unl_le (rowsE L)
    have h2 := rowsE_le L
    have h3 : (unl (rowsE L)).length * o.bits.toNat ≤ L.length * 20 := Nat.mul_le_mul (by omega) (by omega)
    unfold buildM
    omega
  · exact Nat.zero_le _
theorem run_le {o : OptR} {L : List Ent} {n : Nat} (h : refuseR o L = 0) (hn : n ≤ 1048) (hk : ∀ e, e ∈ L → (keyE e).length ≤ n) (hl : L.length ≤ 1000000) : (runBy o L).length ≤ valS L + L.length * (3 * n + 76) + 128 := by
  obtain ⟨h1, h2, h3⟩ := refuse_ok h
  obtain ⟨⟨b1, b2, b3, b4⟩, hse⟩ := optOk.iff h1
  obtain ⟨hch, _⟩ := cut_ch (t := o.block.toNat) (by omega) h3
  have hct := cut_count fun c hc => (hch c hc).ne
  have hf : (cutR o.block.toNat [] L).flatten = L := by rw [cutR_flat]; rfl
  obtain ⟨cs, hcs⟩ : ∃ z, z = cutR o.block.toNat [] L := ⟨_, rfl⟩
  have hcm : ∀ c, c ∈ cs → ChOk c ∧ ∀ e, e ∈ c → (keyE e).length ≤ n := fun c hc => by
    rw [hcs] at hc
    exact ⟨hch c hc, fun e he => hk e (by rw [← hf]; exact List.mem_flatten.2 ⟨c, hc, he⟩)⟩
  rw [← hcs] at hct hf
  obtain ⟨h4, h5⟩ := blocks_le hn hcm
  rw [hf] at h4
  have h6 := filt_le (o := o) (L := L) b4
  have h7 : (runBy o L).length = 8 + (blocksR cs).length + ((filtR o L).length + 4) + ((uintB cs.length).length + (partsR cs).length + 4) + 68 := by
    unfold runBy runC
    rw [← hcs]
    unfold headR indexR
    simp only [List.length_append, sumdB_len, frameB_length, risBs_len]
    rfl
  have h8 := uintB_10 (v := cs.length) (by omega)
  have h9 : cs.length * (2 * n + 30) ≤ L.length * (2 * n + 30) := Nat.mul_le_mul_right _ hct
  have h10 : L.length * (3 * n + 76) = L.length * (n + 34) + L.length * (2 * n + 30) + L.length * 12 := by
    rw [← Nat.mul_add, ← Nat.mul_add]; congr 1; omega
  omega
theorem run_small {o : OptR} {L : List Ent} (h : refuseR o L = 0) (hl : L.length ≤ 500) : (runBy o L).length ≤ 16777216 := by
  obtain ⟨h1, h2, h3⟩ := refuse_ok h
  have h4 := run_le h (Nat.le_refl 1048) (fun e he => keyE_len (ok_of (h3.chk e he))) (by omega)
  have h5 := valS_le (n := 4096) fun e he => (ok_of (h3.chk e he)).val.1
  have h6 : L.length * 4096 ≤ 500 * 4096 := Nat.mul_le_mul_right _ hl
  have h7 : L.length * (3 * 1048 + 76) ≤ 500 * (3 * 1048 + 76) := Nat.mul_le_mul_right _ hl
  omega
theorem write_open {o : OptR} {L : List Ent} (h : refuseR o L = 0) (hn : L.length ≤ 1000000) (hl : (runBy o L).length ≤ 16777216) : writeR o L = (runBy o L, 0) ∧ openR7 (runBy o L) = (some (runW o L), 0) := by
  constructor
  · unfold writeR
    rw [if_neg (by rw [h]; decide), if_neg (by omega)]
  · unfold openR7
    rw [if_neg (by omega), open_back h hn hl]
    rfl
def ordStep (index : Int) (m : List Ent) (e : Ent) : List Ent := if checkE e ≠ 0 ∨ 16 * index + 15 < e.seq then m else insE m e
def ordL (index : Int) (es : List Ent) : List Ent := es.foldl (ordStep index) []
theorem ordL_snoc (index : Int) (es : List Ent) (e : Ent) : ordL index (es ++ [e]) = ordStep index (ordL index es) e := by unfold ordL; rw [List.foldl_append]; rfl
structure OrdOk (index : Int) (m : List Ent) : Prop where
  asc : AscE m
  chk : ∀ e, e ∈ m → checkE e = 0
  seq : ∀ e, e ∈ m → e.seq ≤ 16 * index + 15
theorem ins_mem {m : List Ent} {e x : Ent} (h : x ∈ insE m e) : x ∈ m ∨ x = e := by
  unfold insE at h
  split at h
  · exact .inl h
  · rcases List.mem_append.1 h with h1 | h1
    · exact .inl (List.mem_of_mem_take h1)
    · rcases List.mem_cons.1 h1 with rfl | h1
      · exact .inr rfl
      · exact .inl (List.mem_of_mem_drop h1)
theorem ordStep_ok {index : Int} {m : List Ent} (h : OrdOk index m) (e : Ent) : OrdOk index (ordStep index m e) := by
  unfold ordStep
  split
  · exact h
  · rename_i hc
    refine ⟨ins_asc h.asc e, fun x hx => ?_, fun x hx => ?_⟩
    · rcases ins_mem hx with h1 | rfl
      · exact h.chk x h1
      · exact Decidable.byContradiction fun hh => hc (.inl hh)
    · rcases ins_mem hx with h1 | rfl
      · exact h.seq x h1
      · exact Int.not_lt.1 fun hh => hc (.inr hh)
theorem ord_ok (index : Int) (es : List Ent) : OrdOk index (ordL index es) := by
  have h : ∀ (es m : List Ent), OrdOk index m → OrdOk index (es.foldl (ordStep index) m) := by
    intro es
    induction es with
    | nil => intro m h; exact h
    | cons e es ih => intro m h; exact ih _ (ordStep_ok h e)
  exact h es [] ⟨List.Pairwise.nil, fun e h => (by cases h), fun e h => (by cases h)⟩
theorem look_of {index : Int} : ∀ {L : List Ent} {p : Option Ent}, OrdOk index L → (∀ q e, p = some q → L[0]? = some e → cmpE q e < 0) → lookE index p L = 0
  | [], p, _, _ => by cases p <;> rfl
  | e :: r, p, h, hp => by
    have h1 : checkE e = 0 := h.chk e (.head _)
    have h2 := h.seq e (.head _)
    have h3 : outP p e = false := by
      cases p with
      | none => rfl
      | some q => exact decide_eq_false (by have := hp q e rfl rfl; omega)
    obtain ⟨a1, a2⟩ := List.pairwise_cons.1 h.asc
    unfold lookE
    rw [if_neg (by simp [h1]), if_neg (by omega), h3, if_neg (by decide)]
    exact look_of ⟨a2, fun x hx => h.chk x (.tail _ hx), fun x hx => h.seq x (.tail _ hx)⟩ fun q x hq hx => by
      injection hq with hq
      subst hq
      exact a1 x (List.mem_of_getElem? hx)
theorem refuse_of {o : OptR} {L : List Ent} (ho : optOk o = true) (hn : L ≠ []) (h : OrdOk o.index L) : refuseR o L = 0 := by
  unfold refuseR
  rw [if_neg (by simp [ho]), if_neg hn]
  exact look_of h fun q e hq => by cases hq
def wholeI (n lo hi : Int) : Int := if n.tmod (hi - lo + 1) < 0 then lo + (n.tmod (hi - lo + 1) + hi - lo + 1) else lo + n.tmod (hi - lo + 1)
theorem wholeI_in (n lo hi : Int) (h : lo ≤ hi) : lo ≤ wholeI n lo hi ∧ wholeI n lo hi ≤ hi := by
  have h1 := Int.tmod_lt_of_pos n (show 0 < hi - lo + 1 by omega)
  have h2 := Int.lt_tmod_of_pos n (show 0 < hi - lo + 1 by omega)
  unfold wholeI
  split <;> omega
def optF (o : OptR) : OptR := ⟨wholeI o.block 64 65536, wholeI o.bits 0 20, wholeI o.index 0 1099511627776, wholeI o.low 0 (wholeI o.clock 1 1099511627776 - 1), wholeI o.clock 1 1099511627776⟩
theorem optF_ok (o : OptR) : optOk (optF o) = true := by
  have h1 := wholeI_in o.block 64 65536 (by decide)
  have h2 := wholeI_in o.bits 0 20 (by decide)
  have h3 := wholeI_in o.index 0 1099511627776 (by decide)
  have h4 := wholeI_in o.clock 1 1099511627776 (by decide)
  have h5 := wholeI_in o.low 0 (wholeI o.clock 1 1099511627776 - 1) (by omega)
  unfold optOk sealI optF
  simp only [Bool.and_eq_true, decide_eq_true_eq]
  omega
def mayR (r : RunR) (row : List UInt8) : Bool := match r.ps.head?, r.ps.getLast? with
  | some p, some q => if cmpB row (keyP p.a).row < 0 ∨ 0 < cmpB row (keyP q.b).row then false else if r.filt = [] then true else hasB r.filt row || !isF r.filt
  | _, _ => false
theorem filter_has (p m : Nat) (S : Nat → Bool) (k : List UInt8) (hp1 : 1 ≤ p) (hp2 : p ≤ 14) (hm1 : 64 ≤ m) (hm2 : m ≤ 20971520) (h8 : m % 8 = 0) (h : ∀ i ∈ placesN k p m, S i = true) : hasB (filterB p m S) k = true := by
  unfold hasB
  obtain ⟨e1, e2⟩ := filterB_shape p m S (by omega) (by omega)
  rw [filterB_isF p m S hp1 hp2 hm1 hm2 h8, e1, e2, Bool.true_and, List.all_eq_true]
  intro i hi
  have hlt : i < m := by
    obtain ⟨t, _, rfl⟩ := List.mem_map.1 hi
    exact placeN_lt _ _ _ (by omega)
  rw [filterB_bit p m S i hlt h8]
  exact h i hi
theorem filt_has {bits : Int} {ks : List (List UInt8)} (ha : buildE bits ks = 0) {k : List UInt8} (hk : k ∈ ks) : hasB (buildB bits ks) k = true :=
  filter_has _ _ _ _ (buildP_le ha).1 (buildP_le ha).2 (buildM_ge _ _) (buildM_le ha) (buildM_mod _ _) fun _ hi => List.any_eq_true.2 ⟨k, hk, List.contains_iff_mem.2 hi⟩
theorem pcsOf_last : ∀ (cs : List (List Ent)) (a : Nat), cs ≠ [] → ∃ q c, (pcsOf a cs).getLast? = some q ∧ cs.getLast? = some c ∧ q.b = lastK c
  | [], _, h => absurd rfl h
  | [c], a, _ => ⟨_, c, rfl, rfl, rfl⟩
  | c :: d :: cs, a, _ => by
    obtain ⟨q, e, h1, h2, h3⟩ := pcsOf_last (d :: cs) (a + (layB 16 c).length) (by simp)
    refine ⟨q, e, ?_, by rw [List.getLast?_cons_cons]; exact h2, h3⟩
    show (_ :: pcsOf _ (d :: cs)).getLast? = some q
    unfold pcsOf at h1 ⊢
    rw [List.getLast?_cons_cons]; exact h1
theorem flat_last : ∀ (cs : List (List Ent)) (c : List Ent), cs.getLast? = some c → c ≠ [] → cs.flatten.getLast? = c.getLast?
  | [], _, h, _ => by cases h
  | [a], c, h, _ => by
    injection h with h
    subst h
    simp
  | a :: b :: cs, c, h, hc => by
    rw [List.getLast?_cons_cons] at h
    have ih := flat_last (b :: cs) c h hc
    rw [List.flatten_cons, List.getLast?_append, ih]
    cases hcl : c.getLast? with
    | none => rw [List.getLast?_eq_none_iff] at hcl; exact absurd hcl hc
    | some x => rfl
theorem runW_ends {o : OptR} {L : List Ent} (h : refuseR o L = 0) : ∃ p q a b, (runW o L).ps.head? = some p ∧ (runW o L).ps.getLast? = some q ∧ L[0]? = some a ∧ L[L.length - 1]? = some b ∧ p.a = keyE a ∧ q.b = keyE b := by
  obtain ⟨h1, h2, h3⟩ := refuse_ok h
  obtain ⟨⟨b1, b2, b3, b4⟩, hse⟩ := optOk.iff h1
  obtain ⟨hch, _⟩ := cut_ch (t := o.block.toNat) (by omega) h3
  have hf : (cutR o.block.toNat [] L).flatten = L := by rw [cutR_flat]; rfl
  have hne := cut_ne (t := o.block.toNat) h2
  show ∃ p q a b, (pcsOf 8 (cutR o.block.toNat [] L)).head? = some p ∧ (pcsOf 8 (cutR o.block.toNat [] L)).getLast? = some q ∧ _
  obtain ⟨cs, hcs⟩ : ∃ z, z = cutR o.block.toNat [] L := ⟨_, rfl⟩
  rw [← hcs] at hch hf hne ⊢
  obtain ⟨q, c, q1, q2, q3⟩ := pcsOf_last cs 8 hne
  have hcc := hch c (List.mem_of_getLast? q2)
  have hl := flat_last cs c q2 hcc.ne
  rw [hf] at hl
  obtain ⟨b, hb, mb, kb⟩ := hcc.last
  match cs, hne, hf, hch, q1 with
  | d :: ds, _, hf, hch, q1 =>
    obtain ⟨a, ha, ma, ka⟩ := (hch d (.head _)).first
    refine ⟨⟨firstK d, lastK d, 8, 8 + (layB 16 d).length⟩, q, a, b, rfl, q1, ?_, ?_, ka, by rw [q3, kb]⟩
    · rw [← hf, List.flatten_cons, List.getElem?_append_left (List.length_pos_iff.2 (hch d (.head _)).ne)]; exact ha
    · rw [← List.getLast?_eq_getElem?, hl, List.getLast?_eq_getElem?]; exact hb
theorem row_cmp9 {a b : Ent} (h : cmpE a b < 0) : cmpB a.row b.row ≤ 0 := by
  unfold cmpE seqC at h
  split at h
  · rename_i h0; omega
  · omega
theorem keyP_row {e : Ent} (h : checkE e = 0) : (keyP (keyE e)).row = e.row := by unfold keyP; rw [keyP_key h]
theorem may_yes {o : OptR} {L : List Ent} (h : refuseR o L = 0) (hn : L.length ≤ 1000000) {e : Ent} (he : e ∈ L) : mayR (runW o L) e.row = true := by
  obtain ⟨p, q, a, b, h1, h2, h3, h4, h5, h6⟩ := runW_ends h
  obtain ⟨g1, g2, g3⟩ := refuse_ok h
  obtain ⟨⟨b1, b2, b3, b4⟩, hse⟩ := optOk.iff g1
  have ma := List.mem_of_getElem? h3
  have mb := List.mem_of_getElem? h4
  have hasc := List.pairwise_iff_getElem.1 g3.ascE
  obtain ⟨i, hi, hie⟩ := List.getElem_of_mem he
  have la : cmpB a.row e.row ≤ 0 := by
    obtain ⟨k0, e0⟩ := List.getElem?_eq_some_iff.1 h3
    by_cases hz : i = 0
    · subst hz; rw [← e0, hie, cmpB_self]; exact Int.le_refl _
    · have := hasc 0 i k0 hi (by omega)
      rw [e0, hie] at this
      exact row_cmp9 this
  have lb : cmpB e.row b.row ≤ 0 := by
    obtain ⟨k0, e0⟩ := List.getElem?_eq_some_iff.1 h4
    by_cases hz : i = L.length - 1
    · subst hz; rw [← e0, hie, cmpB_self]; exact Int.le_refl _
    · have := hasc i (L.length - 1) hi k0 (by omega)
      rw [e0, hie] at this
      exact row_cmp9 this
  have sa := cmpB_swap a.row e.row
  unfold mayR
  rw [h1, h2]
  dsimp only
  rw [h5, h6, keyP_row (g3.chk a ma), keyP_row (g3.chk b mb), if_neg (by omega)]
  split
  · rfl
  · rename_i hf
    have hf : filtR o L ≠ [] := hf
    show (hasB (filtR o L) e.row || !isF (filtR o L)) = true
    unfold filtR at hf ⊢
    by_cases hb : 0 < o.bits
    · rw [if_pos hb, filt_has ?_ (rowsE_in he)]
      · rfl
      · unfold buildE
        rw [if_neg (by omega), if_neg (by have := rowsE_le L; omega)]
    · rw [if_neg hb] at hf; exact absurd rfl hf
theorem may_no {o : OptR} {L : List Ent} (h : refuseR o L = 0) {a b : Ent} (ha : L[0]? = some a) (hb : L[L.length - 1]? = some b) {row : List UInt8} (hr : cmpB row a.row < 0 ∨ 0 < cmpB row b.row) : mayR (runW o L) row = false := by
  obtain ⟨p, q, a', b', h1, h2, h3, h4, h5, h6⟩ := runW_ends h
  obtain ⟨g1, g2, g3⟩ := refuse_ok h
  rw [ha] at h3
  rw [hb] at h4
  injection h3 with h3
  injection h4 with h4
  subst h3 h4
  unfold mayR
  rw [h1, h2]
  dsimp only
  rw [h5, h6, keyP_row (g3.chk a (List.mem_of_getElem? ha)), keyP_row (g3.chk b (List.mem_of_getElem? hb)), if_pos hr]
theorem run_one {o p : OptR} {L M : List Ent} (h1 : refuseR o L = 0) (h2 : refuseR p M = 0) (n1 : L.length ≤ 1000000) (n2 : M.length ≤ 1000000) (l1 : (runBy o L).length ≤ 16777216) (l2 : (runBy p M).length ≤ 16777216) (h : runBy o L = runBy p M) : L = M ∧ o.index = p.index ∧ o.low = p.low ∧ o.clock = p.clock := by
  have e1 := (write_open h1 n1 l1).2
  have e2 := (write_open h2 n2 l2).2
  rw [h, e2] at e1
  injection e1 with e1 _
  injection e1 with e1
  have a1 := (written_tells h1 n1).1
  have a2 := (written_tells h2 n2).1
  rw [← e1, a2] at a1
  injection a1 with a1 _
  obtain ⟨_, s1⟩ := optOk.iff (refuse_ok h1).1
  obtain ⟨_, s2⟩ := optOk.iff (refuse_ok h2).1
  obtain ⟨x1, _, x2, _, x3, _⟩ := sealI.iff s1
  obtain ⟨y1, _, y2, _, y3, _⟩ := sealI.iff s2
  have i1 : p.index.toNat = o.index.toNat := congrArg RunR.index e1
  have i2 : p.low.toNat = o.low.toNat := congrArg RunR.low e1
  have i3 : p.clock.toNat = o.clock.toNat := congrArg RunR.clock e1
  exact ⟨a1.symm, by omega, by omega, by omega⟩
theorem pcin_len {a z : Nat} {p : PcR} (h : PcIn a z p) : p.a.length ≤ 1048 ∧ p.b.length ≤ 1048 := by
  obtain ⟨k1, k2, _⟩ := ParseKey_is h.ka
  obtain ⟨k3, k4, _⟩ := ParseKey_is h.kb
  have h1 := keyE_len k1
  have h2 := keyE_len k3
  rw [k2] at h1
  rw [k4] at h2
  exact ⟨h1, h2⟩
structure RunF (q : RunRec) : Prop where
  ok : q.Ok
  ins : ∀ p, p ∈ q.r.ps → PcIn 8 q.r.bytes.length p
  asc : PsAsc q.r.ps
  few : q.r.ps.length ≤ 16777216
theorem RunF.of {q : RunRec} {b : List UInt8} (h : q.Ok) (ho : openR7 b = (some q.r, 0)) : RunF q := by
  obtain ⟨h1, _, h3⟩ := openR7_in ho
  exact ⟨h, by rw [h1]; exact h3, (openR7_asc ho).1, (openR7_asc ho).2⟩
theorem RunF.len {q : RunRec} (h : RunF q) : q.rs.length = q.r.ps.length := by rw [← h.ok.ps, List.length_map]
theorem RunF.at_ {q : RunRec} (h : RunF q) {k : Nat} {r : PRec} (hk : q.rs[k]? = some r) : q.r.ps[k]? = some r.p := by rw [← h.ok.ps, List.getElem?_map, hk]; rfl
theorem RunF.pin {q : RunRec} (h : RunF q) {k : Nat} {r : PRec} (hk : q.rs[k]? = some r) : PcIn 8 q.r.bytes.length r.p := h.ins _ (List.mem_of_getElem? (h.at_ hk))
theorem RunF.ends {q : RunRec} (h : RunF q) : q.r.ps.head? = some q.f1.p ∧ q.r.ps.getLast? = some q.fn.p := by
  constructor
  · rw [List.head?_eq_getElem?]; exact h.at_ h.ok.first
  · rw [List.getLast?_eq_getElem?, ← h.len]; exact h.at_ h.ok.last
theorem RunF.may {q : RunRec} (h : RunF q) (row : List UInt8) : mayR q.r row = if cmpB row (keyP q.f1.p.a).row < 0 ∨ 0 < cmpB row (keyP q.fn.p.b).row then false else if q.r.filt = [] then true else hasB q.r.filt row || !isF q.r.filt := by
  unfold mayR
  rw [h.ends.1, h.ends.2]
theorem RunAt.of {q : RunRec} {w x : World} {os : List Ob} (hq : q.Ok) (h : OW w os x) (hs : q.obs.Sublist os) : RunAt q x := ⟨hq, w, h.sub hs⟩
theorem RunAt.filtS {q : RunRec} {x : World} (h : RunAt q x) : Sl x (some ⟨q.gb, q.ff, none⟩) q.r.filt.length (q.cb - q.ff) q.r.filt := by
  obtain ⟨h1, h2, h3⟩ := h.1.filt
  have hb := h.bytes
  have hc := hb.cut (lo := q.ff) (hi := q.ff + q.r.filt.length) (by omega) h2 (by have := hb.cap; omega)
  rw [Nat.add_sub_cancel_left, ← h1] at hc
  rw [Option.map_some, show (⟨q.gb, 0, none⟩ : Addr).add q.ff = ⟨q.gb, q.ff, none⟩ from by simp [Addr.add]; omega] at hc
  exact hc
set_option maxRecDepth 1000000 in
set_option maxHeartbeats 4000000 in
theorem may_any (q : RunRec) (w : World) (h : RunAt q w) (hf : RunF q) (row : List UInt8) (A : Option Addr) (n c : Nat) (hs : Sl w A n c row) :
    Calls Tryz.prog 37 #[.pointer (some ⟨q.g, 0, none⟩), .slice A n c] w fun e z => e = .returned (.bool (mayR q.r row)) ∧ Below w.heap.size w z := by
  have HC7 : Hid (∀ z, Below w.heap.size w z → z.cell? ⟨q.g, 7, none⟩ = some (.slice q.f1.A q.f1.p.a.length q.f1.c)) := Lib.hid fun z hz => (h.later hz).cell rfl
  have HC8 : Hid (∀ z, Below w.heap.size w z → z.cell? ⟨q.g, 8, none⟩ = some (.slice q.fn.B q.fn.p.b.length q.fn.d)) := Lib.hid fun z hz => (h.later hz).cell rfl
  have HC10 : Hid (∀ z, Below w.heap.size w z → z.cell? ⟨q.g, 10, none⟩ = some (.slice (some ⟨q.gb, q.ff, none⟩) q.r.filt.length (q.cb - q.ff))) := Lib.hid fun z hz => (h.later hz).cell rfl
  have HS1 : Hid (∀ z, Below w.heap.size w z → Sl z q.f1.A q.f1.p.a.length q.f1.c q.f1.p.a) := Lib.hid fun z hz => (h.later hz).firstS
  have HS2 : Hid (∀ z, Below w.heap.size w z → Sl z q.fn.B q.fn.p.b.length q.fn.d q.fn.p.b) := Lib.hid fun z hz => (h.later hz).lastS
  have HSF : Hid (∀ z, Below w.heap.size w z → Sl z (some ⟨q.gb, q.ff, none⟩) q.r.filt.length (q.cb - q.ff) q.r.filt) := Lib.hid fun z hz => (h.later hz).filtS
  have HSR : Hid (∀ z, Below w.heap.size w z → Sl z A n c row) := Lib.hid fun z hz => hs.later hz
  have HK : Hid (q.f1.p.a.length ≤ 1048 ∧ q.fn.p.b.length ≤ 1048) := Lib.hid ⟨(pcin_len (hf.pin hf.ok.first)).1, (pcin_len (hf.pin hf.ok.last)).2⟩
  have HM := Lib.hid (hf.may row)
  have HNL := Lib.hid hs.le
  have HFL : Hid (q.r.filt.length ≤ 9223372036854775807) := Lib.hid h.filtS.le
  obtain ⟨mr, hmr⟩ : ∃ z, z = mayR q.r row := ⟨_, rfl⟩
  rw [← hmr] at HM ⊢
  obtain ⟨ka, hka⟩ : ∃ z, z = q.f1.p.a := ⟨_, rfl⟩
  obtain ⟨kb, hkb⟩ : ∃ z, z = q.fn.p.b := ⟨_, rfl⟩
  obtain ⟨fl, hfl⟩ : ∃ z, z = q.r.filt := ⟨_, rfl⟩
  obtain ⟨g, hg⟩ : ∃ z, z = q.g := ⟨_, rfl⟩
  rw [← hka] at HC7 HS1 HK HM
  rw [← hkb] at HC8 HS2 HK HM
  rw [← hfl] at HC10 HSF HM HFL
  rw [← hg] at HC7 HC8 HC10 ⊢
  obtain ⟨an, han⟩ : ∃ z, z = ka.length := ⟨_, rfl⟩
  obtain ⟨bn, hbn⟩ : ∃ z, z = kb.length := ⟨_, rfl⟩
  obtain ⟨fn, hfn⟩ : ∃ z, z = fl.length := ⟨_, rfl⟩
  rw [← han] at HC7 HS1 HK
  rw [← hbn] at HC8 HS2 HK
  rw [← hfn] at HC10 HSF HFL
  have HFN := Lib.hid hfn
  clear h hf hs hmr hka hkb hfl hg han hbn hfn
  obtain ⟨E1, hE1⟩ : ∃ z, z = keyP ka := ⟨_, rfl⟩
  obtain ⟨E2, hE2⟩ : ∃ z, z = keyP kb := ⟨_, rfl⟩
  obtain ⟨z1, hz1⟩ : ∃ z, z = (ParseKeyE ka).2 := ⟨_, rfl⟩
  obtain ⟨z2, hz2⟩ : ∃ z, z = (ParseKeyE kb).2 := ⟨_, rfl⟩
  rw [← hE1, ← hE2] at HM
  have HE1 : Hid ((ParseKeyE ka).1 = E1) := Lib.hid hE1.symm
  have HE2 : Hid ((ParseKeyE kb).1 = E2) := Lib.hid hE2.symm
  have HZ1 := Lib.hid hz1.symm
  have HZ2 := Lib.hid hz2.symm
  clear hE1 hE2 hz1 hz2
  have HX := Lib.hid (OW.nil w)
  go_enter Tryz.func37, Tryz.ntmps37
  go_upto_region 2 with (first
    | (refine wpList_load_cell rfl 34 (.tmp 15) rfl rfl (HC7.out _ HX.out.up) (fun w => Tryz.isAgg34 w) ?_)
    | (go_at_call 92; go_must (refine (parsekey_any ka _ _ _ _ (HS1.out _ HX.out.up) (by have := HK.out; omega)).mono ?_); rw [HE1.out, HZ1.out]; rintro e x1 ⟨A1, c1, B1, d1, D1, u1, rfl, hr, hb⟩; have HX1 := Lib.hid (HX.out.app (OW.rows1 hb hr)); clear hr hb HX)
    | (refine wl_alloc rfl rfl [.slice none 0 0, .int .i64 0, .slice none 0 0, .int .i64 0, .int .i64 0, .int .i64 0, .slice none 0 0] (.inl (by kernel_rfl)) HX1.out ?_; intro g2 x2 hz _; have HX2 : Hid (OW w [bytO 5 (A1, c1, E1.row), bytO 5 (B1, d1, E1.qual), bytO 5 (D1, u1, E1.val), boxO g2 [.slice none 0 0, .int .i64 0, .slice none 0 0, .int .i64 0, .int .i64 0, .int .i64 0, .slice none 0 0]] x2) := Lib.hid hz; clear hz HX1)
    | (refine wl_put rfl (.tmp 5) (.tmp 18) rfl HX2.out 3 rfl rfl [.slice A1 E1.row.length c1, .int .i64 E1.fam, .slice B1 E1.qual.length d1, .int .i64 E1.ts, .int .i64 E1.seq, .int .i64 E1.kind, .slice D1 E1.val.length u1] rfl rfl (by kernel_rfl) (by simp [Value.oneCell']) ?_; intro x3 hz _; have HX3 : Hid (OW w [bytO 5 (A1, c1, E1.row), boxO g2 [.slice A1 E1.row.length c1, .int .i64 E1.fam, .slice B1 E1.qual.length d1, .int .i64 E1.ts, .int .i64 E1.seq, .int .i64 E1.kind, .slice D1 E1.val.length u1]] x3) := Lib.hid (OW.erase (OW.erase hz 1) 1); clear hz HX2))
  go_upto_region 3 with (first
    | (refine wpList_load_cell rfl 34 (.tmp 24) rfl rfl (HC8.out _ HX3.out.up) (fun w => Tryz.isAgg34 w) ?_)
    | (go_at_call 92; go_must (refine (parsekey_any kb _ _ _ _ (HS2.out _ HX3.out.up) (by have := HK.out; omega)).mono ?_); rw [HE2.out, HZ2.out]; rintro e x4 ⟨A2, c2, B2, d2, D2, u2, rfl, hr, hb⟩; have HX4 := Lib.hid (HX3.out.app (OW.rows1 hb hr)); clear hr hb HX3)
    | (refine wl_alloc rfl rfl [.slice none 0 0, .int .i64 0, .slice none 0 0, .int .i64 0, .int .i64 0, .int .i64 0, .slice none 0 0] (.inl (by kernel_rfl)) HX4.out ?_; intro g5 x5 hz _; have HX5 := Lib.hid hz; clear hz HX4)
    | (refine wl_put rfl (.tmp 7) (.tmp 27) rfl HX5.out 5 rfl rfl [.slice A2 E2.row.length c2, .int .i64 E2.fam, .slice B2 E2.qual.length d2, .int .i64 E2.ts, .int .i64 E2.seq, .int .i64 E2.kind, .slice D2 E2.val.length u2] rfl rfl (by kernel_rfl) (by simp [Value.oneCell']) ?_; intro x6 hz _; have HX6 : Hid (OW w [bytO 5 (A1, c1, E1.row), boxO g2 [.slice A1 E1.row.length c1, .int .i64 E1.fam, .slice B1 E1.qual.length d1, .int .i64 E1.ts, .int .i64 E1.seq, .int .i64 E1.kind, .slice D1 E1.val.length u1], bytO 5 (A2, c2, E2.row), boxO g5 [.slice A2 E2.row.length c2, .int .i64 E2.fam, .slice B2 E2.qual.length d2, .int .i64 E2.ts, .int .i64 E2.seq, .int .i64 E2.kind, .slice D2 E2.val.length u2]] x6) := Lib.hid (OW.erase (OW.erase hz 3) 3); clear hz HX5))
  obtain ⟨v1, hv1⟩ : ∃ z, z = cmpB row E1.row := ⟨_, rfl⟩
  obtain ⟨v2, hv2⟩ : ∃ z, z = cmpB row E2.row := ⟨_, rfl⟩
  rw [← hv1, ← hv2] at HM
  have HV1 := Lib.hid hv1.symm
  have HV2 := Lib.hid hv2.symm
  have HB6 := Lib.hid HX6.out.up
  have tok : True := trivial
  clear hv1 hv2
  by_cases g1 : v1 < 0
  case pos =>
    have m1 : decide (v1 < 0) = true := decide_eq_true g1
    have HMR : Hid (mr = false) := Lib.hid (by rw [HM.out, if_pos (.inl g1)])
    go_wp2_with (first
      | (refine wpList_load_cell rfl 34 (.tmp 30) rfl rfl (HX6.out.cell (i := 1) (j := 0) rfl rfl) (fun w => Tryz.isAgg34 w) ?_)
      | (go_at_call 94; go_must (refine (bcmp_any row E1.row _ _ _ _ _ _ _ (HSR.out _ HX6.out.up).rb (HX6.out.sl (i := 0) rfl rfl).rb).mono ?_); rw [HV1.out]; rintro e y ⟨rfl, rfl⟩))
    go_ret
    exact ⟨by rw [HMR.out]; rfl, HX6.out.up⟩
  have m1 : decide (v1 < 0) = false := decide_eq_false g1
  by_cases g2 : 0 < v2
  case pos =>
    have m2 : decide (v2 > 0) = true := decide_eq_true g2
    have m3 : decide (0 < v2) = true := decide_eq_true g2
    have HMR : Hid (mr = false) := Lib.hid (by rw [HM.out, if_pos (.inr g2)])
    go_wp2_with (first
      | (refine wpList_load_cell rfl 34 (.tmp 30) rfl rfl (HX6.out.cell (i := 1) (j := 0) rfl rfl) (fun w => Tryz.isAgg34 w) ?_)
      | (go_at_call 94; have _t := tok; clear tok; go_must (refine (bcmp_any row E1.row _ _ _ _ _ _ _ (HSR.out _ HX6.out.up).rb (HX6.out.sl (i := 0) rfl rfl).rb).mono ?_); rw [HV1.out]; rintro e y ⟨rfl, rfl⟩)
      | (refine wpList_load_cell rfl 34 (.tmp 36) rfl rfl (HX6.out.cell (i := 3) (j := 0) rfl rfl) (fun w => Tryz.isAgg34 w) ?_)
      | (go_at_call 94; go_must (refine (bcmp_any row E2.row _ _ _ _ _ _ _ (HSR.out _ HX6.out.up).rb (HX6.out.sl (i := 2) rfl rfl).rb).mono ?_); rw [HV2.out]; rintro e y ⟨rfl, rfl⟩))
    go_ret
    exact ⟨by rw [HMR.out]; rfl, HX6.out.up⟩
  have m2 : decide (v2 > 0) = false := decide_eq_false g2
  have m3 : decide (0 < v2) = false := decide_eq_false g2
  have HM2 : Hid (mr = if fl = [] then true else hasB fl row || !isF fl) := Lib.hid (by rw [HM.out, if_neg (by omega)])
  go_upto_region 5 with (first
    | (refine wpList_load_cell rfl 34 (.tmp 30) rfl rfl (HX6.out.cell (i := 1) (j := 0) rfl rfl) (fun w => Tryz.isAgg34 w) ?_)
    | (go_at_call 94; have _t := tok; clear tok; go_must (refine (bcmp_any row E1.row _ _ _ _ _ _ _ (HSR.out _ HX6.out.up).rb (HX6.out.sl (i := 0) rfl rfl).rb).mono ?_); rw [HV1.out]; rintro e y ⟨rfl, rfl⟩)
    | (refine wpList_load_cell rfl 34 (.tmp 36) rfl rfl (HX6.out.cell (i := 3) (j := 0) rfl rfl) (fun w => Tryz.isAgg34 w) ?_)
    | (go_at_call 94; go_must (refine (bcmp_any row E2.row _ _ _ _ _ _ _ (HSR.out _ HX6.out.up).rb (HX6.out.sl (i := 2) rfl rfl).rb).mono ?_); rw [HV2.out]; rintro e y ⟨rfl, rfl⟩))
  by_cases g3 : fn = 0
  case pos =>
    have m4 : ((fn : Int) == 0) = true := by rw [g3]; rfl
    have m5 : (fn == 0) = true := by rw [g3]; rfl
    have HMR : Hid (mr = true) := Lib.hid (by rw [HM2.out, if_pos (List.eq_nil_of_length_eq_zero (by rw [← HFN.out]; exact g3))])
    clear g3
    go_wp2_with (refine wpList_load_cell rfl 34 (.tmp 43) rfl rfl (HC10.out _ HX6.out.up) (fun w => Tryz.isAgg34 w) ?_)
    go_ret
    exact ⟨by rw [HMR.out]; rfl, HX6.out.up⟩
  have m4 : ((fn : Int) == 0) = false := beq_eq_false_iff_ne.2 (by omega)
  have m5 : (fn == 0) = false := beq_eq_false_iff_ne.2 g3
  have HMR : Hid (mr = (hasB fl row || !isF fl)) := Lib.hid (by rw [HM2.out, if_neg (fun h => g3 (by rw [HFN.out, h]; rfl))])
  obtain ⟨hh, hhh⟩ : ∃ z, z = hasB fl row := ⟨_, rfl⟩
  rw [← hhh] at HMR
  have HHH := Lib.hid hhh.symm
  clear g3 hhh
  have HCK : Hid (bf_checkE fl = if isF fl = true then 0 else 62) := Lib.hid rfl
  cases hi : isF fl with
  | true =>
    have HCK2 : Hid (bf_checkE fl = 0) := Lib.hid (by rw [HCK.out, if_pos hi])
    have HMR2 : Hid (mr = hh) := Lib.hid (by rw [HMR.out, hi]; cases hh <;> rfl)
    clear hi
    cases hh with
    | true =>
      go_wp2_with (first
        | (refine wpList_load_cell rfl 34 (.tmp 43) rfl rfl (HC10.out _ HX6.out.up) (fun w => Tryz.isAgg34 w) ?_)
        | (refine wpList_load_cell rfl 34 (.tmp 50) rfl rfl (HC10.out _ HX6.out.up) (fun w => Tryz.isAgg34 w) ?_)
        | (go_at_call 95; go_must (refine (has_any fl row _ _ fn _ n c _ HFL.out (HSF.out _ HX6.out.up).rb HNL.out (HSR.out _ HX6.out.up).rb).mono ?_); rw [HHH.out, HCK2.out]; rintro e y ⟨rfl, hb⟩; have HX7 := Lib.hid (HX6.out.later hb); clear hb))
      go_ret
      exact ⟨by rw [HMR2.out]; rfl, HX7.out.up⟩
    | false =>
      go_wp2_with (first
        | (refine wpList_load_cell rfl 34 (.tmp 43) rfl rfl (HC10.out _ HX6.out.up) (fun w => Tryz.isAgg34 w) ?_)
        | (refine wpList_load_cell rfl 34 (.tmp 50) rfl rfl (HC10.out _ HX6.out.up) (fun w => Tryz.isAgg34 w) ?_)
        | (go_at_call 95; go_must (refine (has_any fl row _ _ fn _ n c _ HFL.out (HSF.out _ HX6.out.up).rb HNL.out (HSR.out _ HX6.out.up).rb).mono ?_); rw [HHH.out, HCK2.out]; rintro e y ⟨rfl, hb⟩; have HX7 := Lib.hid (HX6.out.later hb); clear hb))
      go_ret
      exact ⟨by rw [HMR2.out]; rfl, HX7.out.up⟩
  | false =>
    have HCK2 : Hid (bf_checkE fl = 62) := Lib.hid (by rw [HCK.out, hi]; rfl)
    have HMR2 : Hid (mr = true) := Lib.hid (by rw [HMR.out, hi]; cases hh <;> rfl)
    clear hi
    cases hh with
    | true =>
      go_wp2_with (first
        | (refine wpList_load_cell rfl 34 (.tmp 43) rfl rfl (HC10.out _ HX6.out.up) (fun w => Tryz.isAgg34 w) ?_)
        | (refine wpList_load_cell rfl 34 (.tmp 50) rfl rfl (HC10.out _ HX6.out.up) (fun w => Tryz.isAgg34 w) ?_)
        | (go_at_call 95; go_must (refine (has_any fl row _ _ fn _ n c _ HFL.out (HSF.out _ HX6.out.up).rb HNL.out (HSR.out _ HX6.out.up).rb).mono ?_); rw [HHH.out, HCK2.out]; rintro e y ⟨rfl, hb⟩; have HX7 := Lib.hid (HX6.out.later hb); clear hb))
      go_ret
      exact ⟨by rw [HMR2.out]; rfl, HX7.out.up⟩
    | false =>
      go_wp2_with (first
        | (refine wpList_load_cell rfl 34 (.tmp 43) rfl rfl (HC10.out _ HX6.out.up) (fun w => Tryz.isAgg34 w) ?_)
        | (refine wpList_load_cell rfl 34 (.tmp 50) rfl rfl (HC10.out _ HX6.out.up) (fun w => Tryz.isAgg34 w) ?_)
        | (go_at_call 95; go_must (refine (has_any fl row _ _ fn _ n c _ HFL.out (HSF.out _ HX6.out.up).rb HNL.out (HSR.out _ HX6.out.up).rb).mono ?_); rw [HHH.out, HCK2.out]; rintro e y ⟨rfl, hb⟩; have HX7 := Lib.hid (HX6.out.later hb); clear hb))
      go_ret
      exact ⟨by rw [HMR2.out]; rfl, HX7.out.up⟩
def bodyD (P : Program) (fn : Func) (R : Ending → World → Prop) : Exit → Act → World → Prop
  | .normal, a, w | .ret, a, w => Leaves P fn a.tmps R a.defers .returning w
  | _, _, _ => False
theorem calls_defer {P : Program} {f : FuncId} {fn : Func} {c : Code} {args : Array Value} {w : World} {R : Ending → World → Prop} (hf : P.funcs[f]? = some fn) (hb : fn.body = some c)
    (h : c.wp P (bodyD P fn R) { tmps := args ++ Array.replicate (fn.ntmps - args.size) undef, defers := [] } w) : Calls P f args w R :=
  calls_of_wp_defers hf hb (wp_mono h fun e a w hq => by
    cases e with
    | normal => exact hq
    | ret => exact hq
    | exit id => exact hq.elim
    | goto l => exact hq.elim
    | panic ch => exact hq.elim
    | outgrown => exact hq.elim)
theorem run_loadVar1 {P : Program} {ty : TypeId} {w : World} {a : Addr} {v : Value} (hc : w.cell? a = some v) (ha : ∀ w, (isAgg ty).run P w = .ok false w) : (loadVar ty a).run P w = .ok v w := by
  simp [loadVar, Sem.run_bind, ha w]
  simp [go_sem, hc]
theorem results_three {P : Program} {fn : Func} {p k q : Tmp} {ty tk tq : TypeId} (h : fn.results = #[.cell p ty, .cell k tk, .cell q tq]) (tmps : Array Value) (w : World) (g gk gq : Nat) (cs : List Value) (vk vq : Value)
    (hp : tmps.getD p undef = .pointer (some ⟨g, 0, none⟩)) (hk : tmps.getD k undef = .pointer (some ⟨gk, 0, none⟩)) (hq : tmps.getD q undef = .pointer (some ⟨gq, 0, none⟩)) (hc : w.rangeAt g 0 cs)
    (hck : w.cell? ⟨gk, 0, none⟩ = some vk) (hcq : w.cell? ⟨gq, 0, none⟩ = some vq) (hak : ∀ w, (isAgg tk).run P w = .ok false w) (haq : ∀ w, (isAgg tq).run P w = .ok false w)
    (ha : (P.underlying ty).map (fun d => match d with | .struct _ | .array _ _ => true | _ => false) = some true) (hi : (P.info? ty).map (·.size) = some cs.length) :
    (results fn tmps).run P w = .ok (.tuple #[.agg cs.toArray, vk, vq]) w := by
  have hp' : tmps[p]?.getD undef = .pointer (some ⟨g, 0, none⟩) := by simpa using hp
  have hk' : tmps[k]?.getD undef = .pointer (some ⟨gk, 0, none⟩) := by simpa using hk
  have hq' : tmps[q]?.getD undef = .pointer (some ⟨gq, 0, none⟩) := by simpa using hq
  have hc' : ∀ j v, cs.toArray[j]? = some v → w.cell? ⟨g, j, none⟩ = some v := fun j v hv => by have := hc j v (by simpa using hv); rwa [Nat.zero_add] at this
  simp [results, h, hp', hk', hq', asAddr, run_loadVar_at hc' ha (by simpa using hi), run_loadVar1 hck hak, run_loadVar1 hcq haq]
end Go.Proofs.YtfdbcfaeiglbeaaGreatDoor
